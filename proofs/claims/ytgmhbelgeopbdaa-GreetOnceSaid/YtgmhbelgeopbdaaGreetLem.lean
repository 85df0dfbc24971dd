import Derived.Test.YtgmhbelgeopbdaaPx4
import Derived.Test.YtgmhbelgeopbdaaPx5
import Derived.Test.YtgmhbelgeopbdaaPx6
import Derived.Test.YtgmhbelgeopbdaaStgreetTake
namespace Go.Proofs.Ytgmhbelgeopbdaa.Pure
open Go.RowKit Go.Proofs.Ytgmhbelgeopbdaa.P Go.Proofs.YtgmhbelgeopbdaaW.PrintWords Go.Proofs.YtgmhbelgeopbdaaW.PrintLast

/-- Numbers that bytes hold. -/
def Bytes (l : List Int) : Prop := ∀ x ∈ l, 0 ≤ x ∧ x ≤ 255
theorem bytes_of_wf {l : List Int} (h : ∀ x ∈ l, (Lit.int .u8 x).wf = true) : Bytes l := fun x hx => by
  have h2 := h x hx
  simp only [Lit.wf, Bool.and_eq_true, decide_eq_true_eq] at h2
  exact ⟨h2.1, h2.2⟩
theorem rd_bytes {l : List Int} (h : Bytes l) (i : Int) : 0 ≤ rd l i ∧ rd l i ≤ 255 := by
  unfold rd
  rw [List.getD_eq_getElem?_getD]
  cases e : l[i.toNat]? with
  | none => simp
  | some x => simpa using h x (List.mem_of_getElem? e)
theorem wrap_in {x : Int} (h1 : -9223372036854775808 ≤ x) (h2 : x ≤ 9223372036854775807) : wrap64 x = x := by unfold wrap64; omega

/-- What the reference's loop comes to: the bytes from 2 + i on, as many as are wanted. -/
theorem ref_loop (l : List Int) (hl : l.length ≤ 1000000) (hb : Bytes l) (h2 : 2 ≤ l.length) (hm : 2 + rd l 1 ≤ l.length) (d : Nat) : ∀ (i : Nat) (k : Nat), (i : Int) + d = rd l 1 → d < k →
    postilionref12_Take.l0 k l ((l.drop 2).take i) i = some ((l.drop 2).take (rd l 1).toNat, 2 + rd l 1, 0) := by
  have hr := rd_bytes hb 1
  induction d with
  | zero =>
    intro i k hi hk
    obtain ⟨k, rfl⟩ : ∃ m, k = m + 1 := ⟨k - 1, by omega⟩
    simp only [postilionref12_Take.l0]
    rw [if_pos (by omega), wrap_in (x := rd l 1) (by omega) (by omega), if_neg (by omega)]
    have e : (rd l 1).toNat = i := by omega
    have e2 : ((l.drop 2).take i).length = i := by rw [List.length_take, List.length_drop]; omega
    rw [e, e2, wrap_in (by omega) (by omega)]
    simp only [Option.some.injEq, Prod.mk.injEq, and_true, true_and]
    omega
  | succ d ih =>
    intro i k hi hk
    obtain ⟨k, rfl⟩ : ∃ m, k = m + 1 := ⟨k - 1, by omega⟩
    have e2 : ((l.drop 2).take i).length = i := by rw [List.length_take, List.length_drop]; omega
    simp only [postilionref12_Take.l0]
    rw [if_pos (by omega), wrap_in (x := rd l 1) (by omega) (by omega), if_pos (by omega), wrap_in (x := 2 + (i : Int)) (by omega) (by omega), if_pos (by omega), if_pos (by omega), e2, if_pos (by omega), wrap_in (x := (i : Int) + 1) (by omega) (by omega)]
    have e3 : (l.drop 2).take i ++ [rd l (2 + (i : Int))] = (l.drop 2).take (i + 1) := by
      rw [List.take_succ_eq_append_getElem (by rw [List.length_drop]; omega)]
      congr 1
      rw [List.getElem_drop]
      unfold rd
      rw [List.getD_eq_getElem?_getD, show ((2 : Int) + (i : Int)).toNat = 2 + i by omega, List.getElem?_eq_getElem (by omega)]
      rfl
    rw [e3]
    exact ih (i + 1) k (by omega) (by omega)

theorem take_some (l : List Int) (hl : l.length ≤ 1000000) (hb : Bytes l) : ∃ r, greet_Take.f l = some r := by
  have h1 := rd_bytes hb 1
  unfold greet_Take.f bytes_Clone.f
  have e2 : ((l.take (2 + rd l 1).toNat).drop 2).length ≤ 140737488355328 := by rw [List.length_drop, List.length_take]; omega
  rw [if_pos h1.1, if_pos h1.2, if_pos e2]
  simp only [Option.bind_some]
  repeat' split
  all_goals exact ⟨_, rfl⟩
/-- The two takers come to one answer. -/
theorem takes_same (l : List Int) (hl : l.length ≤ 1000000) (hb : Bytes l) (k : Nat) (hk : 1000 ≤ k) : postilionref12_Take.f k l = greet_Take.f l := by
  obtain ⟨k, rfl⟩ : ∃ m, k = m + 2 := ⟨k - 2, by omega⟩
  have h0 := rd_bytes hb 0
  have h1 := rd_bytes hb 1
  unfold greet_Take.f postilionref12_Take.f bytes_Clone.f
  simp only [postilionref12_Take.j0, postilionref12_Take.j1]
  rw [wrap_in (x := rd l 1) (by omega) (by omega), wrap_in (x := (l.length : Int) - 2) (by omega) (by omega)]
  have e2 : ((l.take (2 + rd l 1).toNat).drop 2).length ≤ 140737488355328 := by rw [List.length_drop, List.length_take]; omega
  rw [if_pos h1.1, if_pos h1.2, if_pos e2]
  simp only [Option.bind_some]
  by_cases c5 : l.length ≥ 2 ∧ rd l 1 > 0 ∧ ¬ (l.length : Int) < 2 + rd l 1
  · obtain ⟨c1, c2, c3⟩ := c5
    have e : (l.take (2 + rd l 1).toNat).drop 2 = (l.drop 2).take (rd l 1).toNat := by
      rw [List.drop_take]
      congr 1
      omega
    have hr := ref_loop l hl hb (by omega) (by omega) (rd l 1).toNat 0 k (by omega) (by omega)
    simp only [List.take_zero, Int.cast_ofNat_Int] at hr
    rw [e]
    grind
  · grind

theorem answer_some (l : List Int) (k : Nat) (hk : 1 ≤ k) : ∃ r, greet_TakeAnswer.f k l = some r := by
  obtain ⟨k, rfl⟩ : ∃ m, k = m + 1 := ⟨k - 1, by omega⟩
  unfold greet_TakeAnswer.f
  simp only [greet_TakeAnswer.j0]
  repeat' split
  all_goals first | exact ⟨_, rfl⟩ | omega
theorem answers_same (l : List Int) (k : Nat) (hk : 1 ≤ k) : postilionref12_TakeAnswer.f k l = greet_TakeAnswer.f k l := by
  obtain ⟨k, rfl⟩ : ∃ m, k = m + 1 := ⟨k - 1, by omega⟩
  unfold greet_TakeAnswer.f postilionref12_TakeAnswer.f
  simp only [greet_TakeAnswer.j0, postilionref12_TakeAnswer.j0]
end Go.Proofs.Ytgmhbelgeopbdaa.Pure
