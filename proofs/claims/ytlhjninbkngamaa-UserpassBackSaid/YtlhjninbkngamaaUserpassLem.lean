import Derived.Test.YtlhjninbkngamaaStuserpassTake
import Derived.Test.YtlhjninbkngamaaStrefTake13
namespace Go.Proofs.Ytlhjninbkngamaa.Pure
open Go.RowKit Go.Proofs.Ytlhjninbkngamaa.P Go.Proofs.YtlhjninbkngamaaW.PrintWords Go.Proofs.YtlhjninbkngamaaW.PrintLast

theorem wrap_id {x : Int} (h1 : -9223372036854775808 ≤ x) (h2 : x ≤ 9223372036854775807) : wrap64 x = x := by unfold wrap64; omega
/-- Numbers that bytes hold. -/
def Bytes (l : List Int) : Prop := ∀ x ∈ l, 0 ≤ x ∧ x ≤ 255
theorem bytes_of_wf {l : List Int} (h : ∀ x ∈ l, (Lit.int .u8 x).wf = true) : Bytes l := fun x hx => by
  have h2 := h x hx
  simp only [Lit.wf, Bool.and_eq_true, decide_eq_true_eq] at h2
  exact ⟨h2.1, h2.2⟩
theorem Bytes.all {l : List Int} (h : Bytes l) : l.all (fun x => decide (0 ≤ x) && decide (x ≤ 255)) = true := by
  rw [List.all_eq_true]
  intro x hx
  have := h x hx
  simp only [Bool.and_eq_true, decide_eq_true_eq]
  exact this
theorem Bytes.append {l m : List Int} (h : Bytes l) (h2 : Bytes m) : Bytes (l ++ m) := fun x hx => by
  rcases List.mem_append.1 hx with hx | hx
  · exact h x hx
  · exact h2 x hx
theorem Bytes.take {l : List Int} (h : Bytes l) (n : Nat) : Bytes (l.take n) := fun x hx => h x (List.mem_of_mem_take hx)
theorem take_f {l : List Int} (h : Bytes l) : userpass_Take.f l = some (upTake l) := by
  unfold userpass_Take.f
  rw [if_pos h.all]
theorem ref_f {l : List Int} (h : Bytes l) (hl : l.length ≤ 1000000) : postilionref13_Take.f l = some (r13Take l) := by
  unfold postilionref13_Take.f
  rw [if_pos hl, if_pos h.all]
theorem rd_bytes {l : List Int} (h : Bytes l) (i : Int) : 0 ≤ rd l i ∧ rd l i ≤ 255 := up_rd h.all i
theorem upText_err {l : List Int} {e a : Int} (h : e ≠ 0) : upText l e a = (⟨#[]⟩, e, a) := by
  unfold upText upNext
  rw [if_neg h]
  rfl
theorem upText_end {l : List Int} {a : Int} (h : ¬ a < l.length) : upText l 0 a = (⟨#[]⟩, 5, a) := by
  unfold upText upNext
  rw [if_pos rfl, if_neg h]
  rfl
theorem upText_zero {l : List Int} {a : Int} (h : a < l.length) (h0 : rd l a = 0) : upText l 0 a = (⟨#[]⟩, 6, a + 1) := by
  unfold upText upNext
  rw [if_pos rfl, if_pos h]
  simp only
  rw [if_neg (by simp), if_pos h0]
theorem upText_short {l : List Int} {a : Int} (h : a < l.length) (h0 : rd l a ≠ 0) (h1 : (l.length : Int) < a + 1 + rd l a) : upText l 0 a = (⟨#[]⟩, 5, a + 1) := by
  unfold upText upNext
  rw [if_pos rfl, if_pos h]
  simp only
  rw [if_neg (by simp), if_neg h0, if_pos (by omega)]
theorem upText_ok {l : List Int} {a : Int} (h : a < l.length) (h0 : rd l a ≠ 0) (h1 : a + 1 + rd l a ≤ l.length) : upText l 0 a = (strOfNums ((l.take (a + 1 + rd l a).toNat).drop (a + 1).toNat), 0, a + 1 + rd l a) := by
  unfold upText upNext
  rw [if_pos rfl, if_pos h]
  simp only
  rw [if_neg (by simp), if_neg h0, if_neg (by omega)]
theorem upTake_of {l : List Int} {v e a e1 : Int} {b : Bool} (hn : upNext l 0 0 = (v, b, e, a)) (he : (if b = true ∧ v ≠ 1 then 6 else e) = e1) {r s : ByteArray × Int × Int} (h1 : upText l e1 a = r) (h2 : upText l r.2.1 r.2.2 = s) :
    upTake l = if s.2.1 = 0 then (r.1, s.1, s.2.2, 0) else (⟨#[]⟩, ⟨#[]⟩, 0, s.2.1) := by
  unfold upTake
  simp only [hn, he, h1, h2]
/-- What is taken, way by way. -/
theorem take_cases (l : List Int) (hb : Bytes l) :
    (l.length = 0 ∧ upTake l = (⟨#[]⟩, ⟨#[]⟩, 0, 5)) ∨
    (0 < l.length ∧ rd l 0 ≠ 1 ∧ upTake l = (⟨#[]⟩, ⟨#[]⟩, 0, 6)) ∨
    (rd l 0 = 1 ∧ l.length = 1 ∧ upTake l = (⟨#[]⟩, ⟨#[]⟩, 0, 5)) ∨
    (1 < l.length ∧ rd l 0 = 1 ∧ rd l 1 = 0 ∧ upTake l = (⟨#[]⟩, ⟨#[]⟩, 0, 6)) ∨
    (1 < l.length ∧ rd l 0 = 1 ∧ rd l 1 ≠ 0 ∧ (l.length : Int) ≤ 2 + rd l 1 ∧ upTake l = (⟨#[]⟩, ⟨#[]⟩, 0, 5)) ∨
    (rd l 0 = 1 ∧ rd l 1 ≠ 0 ∧ 2 + rd l 1 < l.length ∧ rd l (2 + rd l 1) = 0 ∧ upTake l = (⟨#[]⟩, ⟨#[]⟩, 0, 6)) ∨
    (rd l 0 = 1 ∧ rd l 1 ≠ 0 ∧ 2 + rd l 1 < l.length ∧ rd l (2 + rd l 1) ≠ 0 ∧ (l.length : Int) < 3 + rd l 1 + rd l (2 + rd l 1) ∧ upTake l = (⟨#[]⟩, ⟨#[]⟩, 0, 5)) ∨
    (rd l 0 = 1 ∧ rd l 1 ≠ 0 ∧ rd l (2 + rd l 1) ≠ 0 ∧ 3 + rd l 1 + rd l (2 + rd l 1) ≤ l.length ∧
      upTake l = (strOfNums ((l.take (2 + rd l 1).toNat).drop 2), strOfNums ((l.take (3 + rd l 1 + rd l (2 + rd l 1)).toNat).drop (3 + rd l 1).toNat), 3 + rd l 1 + rd l (2 + rd l 1), 0)) := by
  have hr1 := rd_bytes hb 1
  have hr2 := rd_bytes hb (2 + rd l 1)
  by_cases c0 : l.length = 0
  · refine .inl ⟨c0, ?_⟩
    have hn : upNext l 0 0 = (0, false, 5, 0) := by
      unfold upNext
      rw [if_pos rfl, if_neg (by omega)]
    rw [upTake_of (e1 := 5) hn (if_neg (by simp)) (upText_err (by omega)) (upText_err (by simp))]
    rfl
  have hn : upNext l 0 0 = (rd l 0, true, 0, 1) := by
    unfold upNext
    rw [if_pos rfl, if_pos (by omega)]
    rfl
  by_cases c1 : rd l 0 = 1
  case neg =>
    refine .inr (.inl ⟨by omega, c1, ?_⟩)
    rw [upTake_of (e1 := 6) hn (if_pos ⟨rfl, c1⟩) (upText_err (by omega)) (upText_err (by simp))]
    rfl
  have ht : ∀ r s : ByteArray × Int × Int, upText l 0 1 = r → upText l r.2.1 r.2.2 = s → upTake l = (if s.2.1 = 0 then (r.1, s.1, s.2.2, 0) else (⟨#[]⟩, ⟨#[]⟩, 0, s.2.1)) := by
    intro r s h1 h2
    exact upTake_of hn (if_neg (fun h => h.2 c1)) h1 h2
  by_cases c2 : l.length = 1
  · refine .inr (.inr (.inl ⟨c1, c2, ?_⟩))
    rw [ht _ _ (upText_end (by omega)) (upText_err (by simp))]
    rfl
  by_cases c3 : rd l 1 = 0
  · refine .inr (.inr (.inr (.inl ⟨by omega, c1, c3, ?_⟩)))
    rw [ht _ _ (upText_zero (by omega) c3) (upText_err (by simp))]
    rfl
  by_cases c4 : (l.length : Int) < 2 + rd l 1
  · refine .inr (.inr (.inr (.inr (.inl ⟨by omega, c1, c3, by omega, ?_⟩))))
    rw [ht _ _ (upText_short (by omega) c3 (by omega)) (upText_err (by simp))]
    rfl
  have k1 : upText l 0 1 = (strOfNums ((l.take (2 + rd l 1).toNat).drop 2), 0, 2 + rd l 1) := upText_ok (a := 1) (by omega) c3 (by omega)
  by_cases c5 : (l.length : Int) ≤ 2 + rd l 1
  · refine .inr (.inr (.inr (.inr (.inl ⟨by omega, c1, c3, by omega, ?_⟩))))
    rw [ht _ _ k1 (upText_end (by simp only; omega))]
    rfl
  by_cases c6 : rd l (2 + rd l 1) = 0
  · refine .inr (.inr (.inr (.inr (.inr (.inl ⟨c1, c3, by omega, c6, ?_⟩)))))
    rw [ht _ _ k1 (upText_zero (by simp only; omega) c6)]
    rfl
  by_cases c7 : (l.length : Int) < 3 + rd l 1 + rd l (2 + rd l 1)
  · refine .inr (.inr (.inr (.inr (.inr (.inr (.inl ⟨c1, c3, by omega, c6, c7, ?_⟩))))))
    rw [ht _ _ k1 (upText_short (by simp only; omega) c6 (by simp only; omega))]
    rfl
  refine .inr (.inr (.inr (.inr (.inr (.inr (.inr ⟨c1, c3, c6, by omega, ?_⟩))))))
  rw [ht _ _ k1 (upText_ok (by simp only; omega) c6 (by simp only; omega))]
  simp only [if_true]
  rw [show 2 + rd l 1 + 1 = 3 + rd l 1 by omega]
end Go.Proofs.Ytlhjninbkngamaa.Pure
