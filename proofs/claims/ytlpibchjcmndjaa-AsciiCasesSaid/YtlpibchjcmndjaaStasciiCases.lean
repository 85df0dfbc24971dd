-- Laid by sp.py, a program of this session's, out of the translation and the session's own stand-ins.
import Derived.Test.YtlpibchjcmndjaaPx0
import Derived.Test.YtlpibchjcmndjaaStasciiWord
import Derived.Test.YtlpibchjcmndjaaStasciiLower
import Derived.Test.YtlpibchjcmndjaaPx3
import Derived.Test.YtlpibchjcmndjaaStasciiAwake
namespace Go.Proofs.Ytlpibchjcmndjaa.P
open Go.RowKit Go.Proofs.YtlpibchjcmndjaaW.PrintWords Go.Proofs.YtlpibchjcmndjaaW.PrintLast Go.Proofs.YtlpibchjcmndjaaW.PrintMore
attribute [local go_sem] max2_int min2_int max_two min_two max_three min_three max_four min_four   -- for this text's walks alone
set_option linter.unusedVariables false
set_option linter.unusedSimpArgs false
set_option linter.unnecessarySimpa false

/-! ### AsciiCases: a law by hand -/
/-- A text's lower form. -/
def lowT (s : ByteArray) : ByteArray := strOfNums ((bytesOf s).map lowB)
/-- What is to be shown of a text. -/
structure CasesOk (s : ByteArray) : Prop where
  up : ∀ (k : Nat) (h : k < (lowT s).size), ¬ (65 ≤ ((((lowT s)[k]'h).toNat : Nat) : Int) ∧ ((((lowT s)[k]'h).toNat : Nat) : Int) ≤ 90)
  size : (lowT s).size = s.size
  twice : (lowT (lowT s)).toList = (lowT s).toList
  same : ascii_Same.f s (lowT s) = some true
  word : ascii_Word.f s = some true → (lowT s).toList = s.toList ∧ s.size ≤ 8
theorem nlb_below {w a b : World} (h : Below w.heap.size w a) (hb : Below a.heap.size a b) : Below w.heap.size w b :=
  h.trans ⟨hb.os, hb.tape, hb.output, hb.size, fun j hj => hb.block j (Nat.lt_of_lt_of_le hj h.size)⟩
set_option maxHeartbeats 8000000 in
theorem postilionlaw02_AsciiCases.calls (s : ByteArray) (w : World) (hm : hasMax w) (hP : s.size ≤ 100 → CasesOk s) :
    Calls Try.prog 7 #[.string s] w fun e w' => e = .returned (.bool true) ∧ Below w.heap.size w w' := by
  have hAw := postilionlaw02_awake.calls true w rfl hm
  by_cases hs : 100 < s.size
  · have q : decide (100 < (s.size : Int)) = true := decide_eq_true (by omega)
    go_enter Try.func7, Try.ntmps7
    go_wp2_with (go_at_call 23; refine hAw.mono ?_; rintro e w1 ⟨rfl, hb1⟩)
    go_ret
    exact ⟨rfl, hb1⟩
  · have q : decide (100 < (s.size : Int)) = false := decide_eq_false (by omega)
    obtain ⟨hup, hsz, htw, hsm, hwd⟩ := hP (by omega)
    have hL1 : ascii_Lower.f s = some (lowT s) := by unfold ascii_Lower.f lowT; rw [if_pos (by omega)]
    have hL2 : ascii_Lower.f (lowT s) = some (lowT (lowT s)) := by unfold ascii_Lower.f; rw [if_pos (by omega)]; rfl
    obtain ⟨b, hb⟩ : ∃ b, ascii_Word.f s = some b := ⟨_, rfl⟩
    rw [hb] at hwd
    generalize lowT (lowT s) = T2 at hL2 htw
    generalize lowT s = T at *
    have C1 := fun W => ascii_Lower.calls s T W hL1
    have C2 := fun W => ascii_Lower.calls T T2 W hL2
    have C3 := fun W => ascii_Same.calls s T true W hsm
    have C4 := fun W => ascii_Word.calls s b W hb
    have z1 : ((T.size : Int) == (s.size : Int)) = true := beq_iff_eq.mpr (by omega)
    have z2 : (T2.toList == T.toList) = true := beq_iff_eq.mpr htw
    clear hL1 hL2 hsm hb
    go_enter Try.func7, Try.ntmps7
    go_wp2_with (first | (go_at_call 23; refine hAw.mono ?_; rintro e w1 ⟨rfl, hb1⟩) | (go_at_call 10; refine (C1 _).mono ?_; rintro e w2 ⟨rfl, hb2⟩))
    have hB0 : Below w.heap.size w w2 := hb1.trans ⟨hb2.os, hb2.tape, hb2.output, hb2.size, fun j hj => hb2.block j (Nat.lt_of_lt_of_le hj hb1.size)⟩
    clear hb1 hb2 hAw
    go_loopw [4] (fun v wr => ∃ k : Nat, k ≤ T.size ∧ v = .int .i64 (k : Int) ∧ Below w.heap.size w wr) (fun v _ => T.size - (intOf v).toNat)
    case atStart => exact ⟨0, Nat.zero_le _, rfl, hB0⟩
    case round =>
      obtain ⟨k, hk, rfl, hB⟩ := hrel
      by_cases hlt : k < T.size
      · have s1 : decide ((k : Int) < (T.size : Int)) = true := decide_eq_true (by omega)
        have p1 : (k < T.size) = True := eq_true hlt
        have hu := hup k hlt
        by_cases d1 : 65 ≤ (((T[k]'hlt).toNat : Nat) : Int)
        · have f1 : decide (65 ≤ (((T[k]'hlt).toNat : Nat) : Int)) = true := decide_eq_true d1
          have f2 : decide ((((T[k]'hlt).toNat : Nat) : Int) ≤ 90) = false := decide_eq_false (fun h => hu ⟨d1, h⟩)
          clear hu
          go_wp2_with fail
          go_roundw
          case rel => exact ⟨k + 1, by omega, by go_num, hB⟩
          case measure => simp only [intOf]; omega
        · have f1 : decide (65 ≤ (((T[k]'hlt).toNat : Nat) : Int)) = false := decide_eq_false d1
          clear hu
          go_wp2_with fail
          go_roundw
          case rel => exact ⟨k + 1, by omega, by go_num, hB⟩
          case measure => simp only [intOf]; omega
      · have s1 : decide ((k : Int) < (T.size : Int)) = false := decide_eq_false (by omega)
        cases b with
        | false =>
          go_wp2_with (first | (go_at_call 10; refine (C2 _).mono ?_; rintro e w3 ⟨rfl, hb3⟩) | (go_at_call 12; refine (C3 _).mono ?_; rintro e w4 ⟨rfl, hb4⟩) | (go_at_call 8; refine (C4 _).mono ?_; rintro e w5 ⟨rfl, hb5⟩))
          go_ret
          exact ⟨rfl, nlb_below (nlb_below (nlb_below hB hb3) hb4) hb5⟩
        | true =>
          obtain ⟨g1, g2⟩ := hwd rfl
          have z3 : (T.toList == s.toList) = true := beq_iff_eq.mpr g1
          have z4 : decide ((s.size : Int) ≤ 8) = true := decide_eq_true (by omega)
          go_wp2_with (first | (go_at_call 10; refine (C2 _).mono ?_; rintro e w3 ⟨rfl, hb3⟩) | (go_at_call 12; refine (C3 _).mono ?_; rintro e w4 ⟨rfl, hb4⟩) | (go_at_call 8; refine (C4 _).mono ?_; rintro e w5 ⟨rfl, hb5⟩))
          go_ret
          exact ⟨rfl, nlb_below (nlb_below (nlb_below hB hb3) hb4) hb5⟩
def postilionlaw02_AsciiCases.Pure : Prop := ∀ a0 : ByteArray, a0.size ≤ 140737488351232 → a0.size ≤ 100 → CasesOk a0
theorem postilionlaw02_AsciiCases.walk (P : postilionlaw02_AsciiCases.Pure) (a0 : ByteArray) (w : World) (w0 : a0.size ≤ 140737488351232) (hm : hasMax w) :
    Calls Try.prog 7 #[.string a0] w fun e w' => e = .returned (.bool true) ∧ Below w.heap.size w w' :=
  postilionlaw02_AsciiCases.calls a0 w hm (fun h => P a0 w0 h)

end Go.Proofs.Ytlpibchjcmndjaa.P
