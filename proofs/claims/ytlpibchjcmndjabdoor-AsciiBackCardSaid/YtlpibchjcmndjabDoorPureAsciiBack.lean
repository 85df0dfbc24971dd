/- The plain law of AsciiBack (postilionlaw02): a number that is printed is parsed as it was, within any bounds that hold it, and not within others; a text that is parsed is that of its number; no condition beyond the bounds of the types. -/
import Derived.Test.YtlpibchjcmndjabDoorStasciiBack
import Derived.Test.YtlpibchjcmndjabDoorNumbersLem
namespace Go.Proofs.YtlpibchjcmndjabDoor.Pure
open Go.RowKit Go.Proofs.YtlpibchjcmndjabDoor.P Go.Proofs.YtlpibchjcmndjabDoorW.PrintWords Go.Proofs.YtlpibchjcmndjabDoorW.PrintLast


theorem parse_is {s : ByteArray} {a g : Int} (hs : s.size ≤ 1000000) (hg : g ≤ 9223372036854775807) : ascii_Parse.f s a g = some (if a < 0 ∨ g < a then (0, 2) else if good s.data.toList ∧ a ≤ ((valFrom 0 s.data.toList : Nat) : Int) ∧ ((valFrom 0 s.data.toList : Nat) : Int) ≤ g then (((valFrom 0 s.data.toList : Nat) : Int), 0) else (0, 6)) := by
  unfold ascii_Parse.f
  rw [if_pos ⟨hs, hg⟩]
  by_cases c : a < 0 ∨ g < a
  · rw [if_pos c, if_pos c]
  · rw [if_neg c, if_neg c, ← prs_spec _ a g (by omega) (by omega), data_length]
theorem AsciiBack : postilionlaw02_AsciiBack.Pure := by
  intro n l g s hn _ hg _ hs
  simp only [Lit.wf, Bool.and_eq_true, decide_eq_true_eq] at hn hg
  have g0 : n ≤ 9223372036854775807 := hn.2
  have g3 : g ≤ 9223372036854775807 := hg.2
  refine ⟨?_, ?_⟩
  · intro h0 hl hlg
    have e : numS n = ⟨(Lib.decDigits n.toNat).toArray⟩ := by
      unfold numS Lib.itoa
      rw [if_neg (by omega), if_neg (by omega)]
    have hsz : (numS n).size ≤ 1000000 := by
      have := dec_len (d := 20) n.toNat (Nat.lt_of_le_of_lt (show n.toNat ≤ 9223372036854775807 by omega) (by decide))
      rw [← data_length, e]
      show (Lib.decDigits n.toNat).toArray.toList.length ≤ _
      simp only
      omega
    rw [parse_is hsz g3, if_neg (by omega), e]
    simp only
    rw [val_dec]
    have hn2 : ((n.toNat : Nat) : Int) = n := by omega
    rw [hn2]
    by_cases c : l ≤ n ∧ n ≤ g
    · rw [if_pos ⟨good_dec _, c⟩, if_pos c]
    · rw [if_neg (fun h => c h.2), if_neg c]
  · rw [parse_is (by omega) g3]
    by_cases c : l < 0 ∨ g < l
    · rw [if_pos c]
      exact ⟨0, 2, rfl, .inl ⟨by decide, rfl⟩⟩
    · rw [if_neg c]
      by_cases c2 : good s.data.toList ∧ l ≤ ((valFrom 0 s.data.toList : Nat) : Int) ∧ ((valFrom 0 s.data.toList : Nat) : Int) ≤ g
      · rw [if_pos c2]
        refine ⟨_, 0, rfl, .inr ⟨rfl, by omega, c2.2.1, c2.2.2, ?_⟩⟩
        unfold numS Lib.itoa
        rw [if_neg (by omega), if_neg (by omega), Int.toNat_natCast, ← dec_good c2.1]
      · rw [if_neg c2]
        exact ⟨0, 6, rfl, .inl ⟨by decide, rfl⟩⟩
end Go.Proofs.YtlpibchjcmndjabDoor.Pure
