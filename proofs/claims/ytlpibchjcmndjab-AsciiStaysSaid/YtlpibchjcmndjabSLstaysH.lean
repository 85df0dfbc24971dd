import Derived.Test.YtlpibchjcmndjabPx0
import Derived.Test.YtlpibchjcmndjabStbytesClone
import Derived.Test.YtlpibchjcmndjabStasciiAwake
import Derived.Test.YtlpibchjcmndjabPx2
import Derived.Test.YtlpibchjcmndjabStasciiReader
import Derived.Test.YtlpibchjcmndjabStasciiBytes
import Derived.Test.YtlpibchjcmndjabPx3
import Derived.Test.YtlpibchjcmndjabShelf
namespace Go.Proofs.Ytlpibchjcmndjab.P
open Go.RowKit Go.Proofs.YtlpibchjcmndjabW.PrintWords Go.Proofs.YtlpibchjcmndjabW.PrintLast Go.Proofs.YtlpibchjcmndjabW.PrintMore
attribute [local go_sem] max2_int min2_int max_two min_two max_three min_three max_four min_four   -- for this text's walks alone
set_option linter.unusedVariables false
set_option linter.unusedSimpArgs false
set_option linter.unnecessarySimpa false
/-! ### AsciiStays: a law by hand -/
theorem nlb_below {w a b : World} (h : Below w.heap.size w a) (hb : Below a.heap.size a b) : Below w.heap.size w b :=
  h.trans ⟨hb.os, hb.tape, hb.output, hb.size, fun j hj => hb.block j (Nat.lt_of_lt_of_le hj h.size)⟩
theorem clone_some {l : List Int} (h : l.length ≤ 1000000) : bytes_Clone.f l = some l := by unfold bytes_Clone.f; rw [if_pos (by omega)]
theorem copy_some {l : List Int} (h : l.length ≤ 1000000) : postilionref01_Copy.f l = some l := by unfold postilionref01_Copy.f; rw [if_pos (by simp only [List.length_nil]; omega)]; rfl
/-- A row of the call's own is read. -/
theorem own_C {W : World} {base : Nat} {A : Option Addr} {c : Nat} {l : List Int} (h : Kd.R (Kd.int .u8) 5 W base (fun _ => True) (.slice A l.length c) l) : Kd.C (Kd.int .u8) W A l.length l ∧ l.length ≤ c := by
  obtain ⟨A2, c2, e, hc, hC⟩ := Kd.R_reads h
  injection e with e1 e2 e3
  subst e1
  subst e3
  exact ⟨hC, hc⟩
theorem own_fr {W W' : World} {base R : Nat} {v : Value} {l : List Int} {w0 : World} {v2 : Value} {l2 : List Int} {n2 : Nat} (h : Kd.R (Kd.int .u8) 5 W base (fun _ => True) v l) (h2 : RdIn w0 R v2 l2 n2 W) (fr : Fr R W W') : Kd.R (Kd.int .u8) 5 W' base (fun _ => True) v l :=
  Kd.R_mono (Kd.R_step (Kd.R_types h h2.blk (by intro q hq; simp [Kd.int, Kd.scalar] at hq; subst hq; decide)) (fun k hk hlt => fr.keep k hlt hk.2)) (fun _ hk => hk.1)
/-- What is to be shown of two texts and a bound. -/
structure StaysOk (b m : List Int) (n : Int) : Prop where
  line : ((lineS b 0 n).2.1 = 5 ∧ (lineS b 0 n).2.2 = 0) ∨ ((lineS b 0 n).2.1 ≠ 5 ∧ lineS (b ++ m) 0 n = lineS b 0 n)
  same : ∀ l : List Int, l.length ≤ 300 → postilionref01_Same.f 1000 l l = some true
end Go.Proofs.Ytlpibchjcmndjab.P
