-- Laid by sp.py, a program of this session's, out of the translation and the session's own stand-ins.
import Derived.Test.YtlpibchjcmndjabPx0
import Derived.Test.YtlpibchjcmndjabStasciiAwake
import Derived.Test.YtlpibchjcmndjabStasciiReader
import Derived.Test.YtlpibchjcmndjabSLstaysH
import Derived.Test.YtlpibchjcmndjabSLstaysAN
import Derived.Test.YtlpibchjcmndjabSLstaysAM
import Derived.Test.YtlpibchjcmndjabSLstaysAX
import Derived.Test.YtlpibchjcmndjabSLstaysAO
import Derived.Test.YtlpibchjcmndjabSLstaysBN
import Derived.Test.YtlpibchjcmndjabSLstaysBM
import Derived.Test.YtlpibchjcmndjabSLstaysBX
import Derived.Test.YtlpibchjcmndjabSLstaysBO
namespace Go.Proofs.Ytlpibchjcmndjab.P
open Go.RowKit Go.Proofs.YtlpibchjcmndjabW.PrintWords Go.Proofs.YtlpibchjcmndjabW.PrintLast Go.Proofs.YtlpibchjcmndjabW.PrintMore
attribute [local go_sem] max2_int min2_int max_two min_two max_three min_three max_four min_four   -- for this text's walks alone
set_option linter.unusedVariables false
set_option linter.unusedSimpArgs false
set_option linter.unnecessarySimpa false

/-! ### AsciiStays: a law by hand -/
theorem postilionlaw02_AsciiStays.calls (A0 A1 : Option Addr) (c0 c1 : Nat) (b m : List Int) (n : Int) (w : World) (hC0 : Kd.C (Kd.int .u8) w A0 b.length b) (hC1 : Kd.C (Kd.int .u8) w A1 m.length m) (hc0 : b.length ≤ c0) (hc1 : m.length ≤ c1) (hb0 : ∀ x ∈ b, 0 ≤ x ∧ x < 256) (hb1 : ∀ x ∈ m, 0 ≤ x ∧ x < 256) (hm : hasMax w) (hP : b.length ≤ 300 → m.length ≤ 100 → StaysOk b m n) :
    Calls Try.prog 3 #[.slice A0 b.length c0, .slice A1 m.length c1, .int .i64 n] w fun e w' => e = .returned (.bool true) ∧ Below w.heap.size w w' := by
  by_cases hA : (lineS b 0 n).2.1 = 5
  · by_cases h0 : n < 0
    · exact stays_wayAN A0 A1 c0 c1 b m n w hC0 hC1 hc0 hc1 hb0 hb1 hm hP hA h0
    by_cases h1 : ((b ++ m).length : Int) < n
    · exact stays_wayAM A0 A1 c0 c1 b m n w hC0 hC1 hc0 hc1 hb0 hb1 hm hP hA h0 h1
    by_cases h2 : (b.length : Int) < n
    · exact stays_wayAX A0 A1 c0 c1 b m n w hC0 hC1 hc0 hc1 hb0 hb1 hm hP hA h0 h1 h2
    · exact stays_wayAO A0 A1 c0 c1 b m n w hC0 hC1 hc0 hc1 hb0 hb1 hm hP hA h0 h1 h2
  · by_cases h0 : n < 0
    · exact stays_wayBN A0 A1 c0 c1 b m n w hC0 hC1 hc0 hc1 hb0 hb1 hm hP hA h0
    by_cases h1 : ((b ++ m).length : Int) < n
    · exact stays_wayBM A0 A1 c0 c1 b m n w hC0 hC1 hc0 hc1 hb0 hb1 hm hP hA h0 h1
    by_cases h2 : (b.length : Int) < n
    · exact stays_wayBX A0 A1 c0 c1 b m n w hC0 hC1 hc0 hc1 hb0 hb1 hm hP hA h0 h1 h2
    · exact stays_wayBO A0 A1 c0 c1 b m n w hC0 hC1 hc0 hc1 hb0 hb1 hm hP hA h0 h1 h2
def postilionlaw02_AsciiStays.Pure : Prop := ∀ (b m : List Int) (n : Int), (∀ x ∈ b, 0 ≤ x ∧ x < 256) → (∀ x ∈ m, 0 ≤ x ∧ x < 256) → b.length ≤ 300 → m.length ≤ 100 → StaysOk b m n
theorem postilionlaw02_AsciiStays.walk (P : postilionlaw02_AsciiStays.Pure) (a0 : Option Addr) (len0 cap0 : Nat) (z0 : List Int) (a1 : Option Addr) (len1 cap1 : Nat) (z1 : List Int) (a2 : Int) (w : World) (w0 : ((a0 = none ∧ len0 = 0 ∧ cap0 = 0 ∧ z0 = []) ∨ ∃ x, a0 = some x ∧ len0 ≤ cap0 ∧ cap0 ≤ maxLen ∧ z0.length = cap0 ∧ (∀ i, i < z0.length → w.cell? (x.add i) = some (.int .u8 (z0.getD i 0))) ∧ ∀ n ∈ z0, (Lit.int .u8 n).wf = true)) (_y0 : len0 * 1 ≤ 140737488351232) (w1 : ((a1 = none ∧ len1 = 0 ∧ cap1 = 0 ∧ z1 = []) ∨ ∃ x, a1 = some x ∧ len1 ≤ cap1 ∧ cap1 ≤ maxLen ∧ z1.length = cap1 ∧ (∀ i, i < z1.length → w.cell? (x.add i) = some (.int .u8 (z1.getD i 0))) ∧ ∀ n ∈ z1, (Lit.int .u8 n).wf = true)) (_y1 : len1 * 1 ≤ 140737488351232) (_w2 : (Lit.int .i64 a2).wf = true) (hm : hasMax w) :
    Calls Try.prog 3 #[.slice a0 len0 cap0, .slice a1 len1 cap1, .int .i64 a2] w fun e w' => e = .returned (.bool true) ∧ Below w.heap.size w w' := by
  obtain ⟨l0, rfl, hr0, hm0, hw0, hc0⟩ := ReadsInt.ofRowC w0
  obtain ⟨l1, rfl, hr1, hm1, hw1, hc1⟩ := ReadsInt.ofRowC w1
  have hb0 : ∀ x ∈ l0, 0 ≤ x ∧ x < 256 := fun x hx => by
    have h := hw0 x hx
    simp only [Lit.wf, Bool.and_eq_true, decide_eq_true_eq] at h
    have h1 : 0 ≤ x := h.1
    have h2 : x ≤ 255 := h.2
    omega
  have hb1 : ∀ x ∈ l1, 0 ≤ x ∧ x < 256 := fun x hx => by
    have h := hw1 x hx
    simp only [Lit.wf, Bool.and_eq_true, decide_eq_true_eq] at h
    have h1 : 0 ≤ x := h.1
    have h2 : x ≤ 255 := h.2
    omega
  exact postilionlaw02_AsciiStays.calls _ _ _ _ l0 l1 a2 w (Kd.C_of_reads (d := (0 : Int)) (h1 := fun _ => rfl) hr0) (Kd.C_of_reads (d := (0 : Int)) (h1 := fun _ => rfl) hr1) hc0 hc1 hb0 hb1 hm (fun h1 h2 => P l0 l1 a2 hb0 hb1 h1 h2)

end Go.Proofs.Ytlpibchjcmndjab.P
