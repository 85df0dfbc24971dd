/- The plain law of AsciiStays (postilionlaw02): behind an answer other than that more is wanted more bytes change nothing; behind that none was read; no condition beyond the bounds of the texts. -/
import Derived.Test.YtlpibchjcmndjabStasciiStays
import Derived.Test.YtlpibchjcmndjabLineLem
namespace Go.Proofs.Ytlpibchjcmndjab.Pure
open Go.RowKit Go.Proofs.Ytlpibchjcmndjab.P Go.Proofs.YtlpibchjcmndjabW.PrintWords Go.Proofs.YtlpibchjcmndjabW.PrintLast

theorem same_loop (l : List Int) (hl : l.length ≤ 600) : ∀ (d i k : Nat), l.length - i ≤ d → i ≤ l.length → d < k → postilionref01_Same.l0 k l l (i : Int) = some true := by
  intro d
  induction d with
  | zero =>
    intro i k h1 h2 h3
    obtain ⟨k, rfl⟩ : ∃ m, k = m + 1 := ⟨k - 1, by omega⟩
    rw [postilionref01_Same.l0, if_neg (by omega)]
  | succ d ih =>
    intro i k h1 h2 h3
    obtain ⟨k, rfl⟩ : ∃ m, k = m + 1 := ⟨k - 1, by omega⟩
    rw [postilionref01_Same.l0]
    by_cases c : (i : Int) < (l.length : Int)
    · rw [if_pos c, if_pos (by omega), if_pos c, if_pos rfl]
      have e : wrap64 ((i : Int) + 1) = ((i + 1 : Nat) : Int) := by unfold wrap64; omega
      rw [e]
      exact ih (i + 1) k (by omega) (by omega) (by omega)
    · rw [if_neg c]
theorem Same_self (l : List Int) (hl : l.length ≤ 600) : postilionref01_Same.f 1000 l l = some true := by
  unfold postilionref01_Same.f
  rw [if_pos rfl]
  exact same_loop l hl l.length 0 1000 (by omega) (by omega) (by omega)
theorem pair_app {b m : List Int} {j : Nat} (hj : j + 1 < b.length) : pairAt (b ++ m) j ↔ pairAt b j := by
  unfold pairAt
  rw [List.getElem?_append_left (by omega), List.getElem?_append_left hj]
theorem stays {b m : List Int} {n : Int} (hb : isBytes b) (hm : isBytes m) : ((lineS b 0 n).2.1 = 5 ∧ (lineS b 0 n).2.2 = 0) ∨ ((lineS b 0 n).2.1 ≠ 5 ∧ lineS (b ++ m) 0 n = lineS b 0 n) := by
  have hbm : isBytes (b ++ m) := by
    intro x hx
    rcases List.mem_append.1 hx with hx | hx
    · exact hb x hx
    · exact hm x hx
  by_cases c : n < 0
  · rw [line_bad c, line_bad c]
    exact .inr ⟨by decide, rfl⟩
  rcases end_char hb with ⟨i, _, hp, hn⟩ | ⟨_, hn⟩
  · have hi : i + 1 < b.length := (List.getElem?_eq_some_iff.1 hp.2).1
    have hp2 : pairAt (b ++ m) i := (pair_app hi).2 hp
    have hn2 : ∀ j, j < i → ¬ pairAt (b ++ m) j := fun j hj h => hn j hj ((pair_app (by omega)).1 h)
    by_cases c2 : (i : Int) ≤ n
    · right
      rw [line_ok (l := b) (n := 0) hb hp hn c2, line_ok (l := b ++ m) (n := 0) hbm hp2 hn2 c2]
      refine ⟨by simp, ?_⟩
      rw [List.drop_zero, List.drop_zero, List.take_append_of_le_length (by omega)]
    · right
      rw [line_far2 (l := b) (n := 0) hb (by omega) (fun j hj => hn j (by omega)) hp, line_far2 (l := b ++ m) (n := 0) hbm (by omega) (fun j hj => hn2 j (by omega)) hp2]
      exact ⟨by decide, rfl⟩
  · by_cases c2 : n < (trimN b : Int)
    · right
      have ht := trim_len hb
      have ht2 := trim_len hbm
      have hl : (b ++ m).length = b.length + m.length := List.length_append
      have hno : ∀ j : Nat, (j : Int) ≤ n → ¬ pairAt (b ++ m) j := by
        intro j hj h
        by_cases c3 : j + 1 < b.length
        · exact hn j ((pair_app c3).1 h)
        · rcases ht with ⟨e, e2⟩ | ⟨e, e2⟩
          · apply e2
            refine ⟨by omega, ?_⟩
            have h1 := h.1
            rw [List.getElem?_append_left (by omega)] at h1
            rw [show b.length - 1 = j by omega]
            exact h1
          · omega
      rw [line_far (l := b) (n := 0) hb (by omega) (fun j _ => hn j) c2, line_far (l := b ++ m) (n := 0) hbm (by omega) hno ?_]
      · exact ⟨by decide, rfl⟩
      · rw [List.drop_zero]
        rcases Nat.eq_zero_or_pos m.length with h0 | h0
        · rw [List.eq_nil_of_length_eq_zero h0, List.append_nil]
          exact c2
        · omega
    · left
      rw [line_more (l := b) (n := 0) hb (by omega) (fun j => hn j) (by rw [List.drop_zero]; omega)]
      exact ⟨rfl, rfl⟩
theorem AsciiStays : postilionlaw02_AsciiStays.Pure := fun b m n hb hm _ _ => ⟨stays hb hm, fun l hl => Same_self l (by omega)⟩
end Go.Proofs.Ytlpibchjcmndjab.Pure
