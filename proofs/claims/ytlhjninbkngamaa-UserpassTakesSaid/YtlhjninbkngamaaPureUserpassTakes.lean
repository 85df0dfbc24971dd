/- The statement UserpassTakes (postilionlaw13): of any bytes the word of introduction, and the answer, is taken that the reference says; for every row of bytes; no condition. -/
import Derived.Test.YtlhjninbkngamaaPx7
import Derived.Test.YtlhjninbkngamaaUserpassLem
namespace Go.Proofs.Ytlhjninbkngamaa.Pure
open Go.RowKit Go.Proofs.Ytlhjninbkngamaa.P Go.Proofs.YtlhjninbkngamaaW.PrintWords Go.Proofs.YtlhjninbkngamaaW.PrintLast

theorem r13_end {l : List Int} {a : Int} (h : a ≥ l.length) : r13 l a = (5, ⟨#[]⟩, a) := by unfold r13; rw [if_pos h]
theorem r13_zero {l : List Int} {a : Int} (h : a < l.length) (h0 : rd l a = 0) : r13 l a = (6, ⟨#[]⟩, a) := by unfold r13; rw [if_neg (by omega), if_pos h0]
theorem r13_short {l : List Int} {a : Int} (h : a < l.length) (h0 : rd l a ≠ 0) (h1 : (l.length : Int) < a + 1 + rd l a) : r13 l a = (5, ⟨#[]⟩, a) := by unfold r13; rw [if_neg (by omega), if_neg h0, if_pos (by omega)]
theorem r13_ok {l : List Int} {a : Int} (h : a < l.length) (h0 : rd l a ≠ 0) (h1 : a + 1 + rd l a ≤ l.length) : r13 l a = (0, strOfNums ((l.take (a + 1 + rd l a).toNat).drop (a + 1).toNat), a + 1 + rd l a) := by unfold r13; rw [if_neg (by omega), if_neg h0, if_neg (by omega)]
theorem r13_of {l : List Int} (c0 : l.length ≠ 0) (c1 : rd l 0 = 1) {r s : Int × ByteArray × Int} (h1 : r13 l 1 = r) (h2 : r13 l r.2.2 = s) :
    r13Take l = if r.1 ≠ 0 then (⟨#[]⟩, ⟨#[]⟩, 0, r.1) else if s.1 ≠ 0 then (⟨#[]⟩, ⟨#[]⟩, 0, s.1) else (r.2.1, s.2.1, s.2.2, 0) := by
  unfold r13Take
  rw [if_neg c0, if_neg (by simp [c1]), h1, h2]
theorem ref_eq (l : List Int) (hb : Bytes l) : r13Take l = upTake l := by
  have hr1 := rd_bytes hb 1
  have hr2 := rd_bytes hb (2 + rd l 1)
  rcases take_cases l hb with ⟨c, e⟩ | ⟨c, c1, e⟩ | ⟨c1, c, e⟩ | ⟨c, c1, c2, e⟩ | ⟨c, c1, c2, c3, e⟩ | ⟨c1, c2, c3, c4, e⟩ | ⟨c1, c2, c3, c4, c5, e⟩ | ⟨c1, c2, c4, c5, e⟩
  · rw [e]; unfold r13Take; rw [if_pos c]
  · rw [e]; unfold r13Take; rw [if_neg (by omega), if_pos c1]
  · rw [e, r13_of (by omega) c1 (r13_end (by omega)) rfl]; rfl
  · rw [e, r13_of (by omega) c1 (r13_zero (by omega) c2) rfl]; rfl
  · by_cases h : (l.length : Int) < 2 + rd l 1
    · rw [e, r13_of (by omega) c1 (r13_short (by omega) c2 (by omega)) rfl]; rfl
    · rw [e, r13_of (by omega) c1 (r13_ok (by omega) c2 (by omega)) (r13_end (by simp only; omega))]; rfl
  · rw [e, r13_of (by omega) c1 (r13_ok (by omega) c2 (by omega)) (r13_zero (by simp only; omega) (by simpa using c4))]; rfl
  · rw [e, r13_of (by omega) c1 (r13_ok (by omega) c2 (by omega)) (r13_short (by simp only; omega) (by simpa using c4) (by simp only [show (1 : Int) + 1 = 2 from rfl]; omega))]; rfl
  · rw [e, r13_of (by omega) c1 (r13_ok (by omega) c2 (by omega)) (r13_ok (by simp only; omega) (by simpa using c4) (by simp only [show (1 : Int) + 1 = 2 from rfl]; omega))]
    simp only [show (1 : Int) + 1 = 2 from rfl, show (2 : Int).toNat = 2 from rfl]
    rw [if_neg (by simp), if_neg (by simp), show 2 + rd l 1 + 1 = 3 + rd l 1 by omega]
theorem answer_j (k : Nat) (l : List Int) (b : Bool) : userpass_TakeAnswer.j0 k l b = postilionref13_TakeAnswer.j0 k l b := by cases k <;> rfl
theorem answer_eq (k : Nat) (l : List Int) : userpass_TakeAnswer.f k l = postilionref13_TakeAnswer.f k l := by
  unfold userpass_TakeAnswer.f postilionref13_TakeAnswer.f
  simp only [answer_j]
theorem answer_some (l : List Int) : ∃ r, postilionref13_TakeAnswer.f 5 l = some r := by
  have hj : ∀ b, ∃ r, postilionref13_TakeAnswer.j0 5 l b = some r := by
    intro b
    rw [show (5 : Nat) = 4 + 1 from rfl]
    simp only [postilionref13_TakeAnswer.j0]
    by_cases hb : b = true
    · rw [if_pos hb]; exact ⟨_, rfl⟩
    · rw [if_neg hb]
      by_cases h2 : (l.length : Int) < 2
      · rw [if_pos h2]; exact ⟨_, rfl⟩
      · rw [if_neg h2, if_pos (by omega)]; exact ⟨_, rfl⟩
  unfold postilionref13_TakeAnswer.f
  by_cases h : (l.length : Int) > 0
  · rw [if_pos h, if_pos (by omega)]; exact hj _
  · rw [if_neg h]; exact hj _
theorem UserpassTakes : postilionlaw13_UserpassTakes.Pure := by
  intro l _ _ hl
  refine ⟨5, ?_⟩
  have hb := bytes_of_wf hl
  unfold postilionlaw13_UserpassTakes.f
  by_cases c : (l.length : Int) > 1500
  · rw [if_pos c]
  rw [if_neg c]
  obtain ⟨r, hr⟩ := answer_some l
  simp only [Option.bind_some, List.nil_append, List.length_nil, Nat.zero_add]
  rw [if_pos (by omega), take_f hb, ref_f hb (by omega), ref_eq l hb, answer_eq, hr]
  simp
end Go.Proofs.Ytlhjninbkngamaa.Pure
