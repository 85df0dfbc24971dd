-- Laid by sp.py, a program of this session's, out of the translation and the session's own stand-ins.
import Derived.Test.YtlpibchjcmndjaaRows
import Derived.Test.YtlpibchjcmndjaaStasciiLines
import Derived.Test.YtlpibchjcmndjaaPureAsciiLines
import Derived.Test.YtlpibchjcmndjaaSLopen
import Derived.WalkKit
import Derived.ProofKit
import Derived.OpenShut
import Derived.ShutString
import Derived.ChangeOld
import Derived.Below
import Derived.SizedLaws
import Derived.HandedShaped
import Derived.Test.YtlpibchjcmndjaaWSized
namespace Go.Proofs.Ytlpibchjcmndjaa.asciiLines
open Go.ChangeShapes Go.WideShapes Go.ChangeAt Go.RowKit Go.Proofs.Ytlpibchjcmndjaa.P Go.Proofs.YtlpibchjcmndjaaW.PrintWords
open Go.ChangeMaps (open_string shut_string)
set_option linter.unusedVariables false
set_option linter.unusedSimpArgs false
theorem own : ownKnob Try.prog.godebug = none := by kernel_rfl
theorem laidOut : laidOutB Try.prog = true := by kernel_rfl
theorem open_t9 {H : Type} {enc : TypeId × Value → H} {W : World} {fuel : Nat} {cs : List Value} {x : DataW H × List MemPlace} (h : DataW.trod enc Try.prog W 0 (fun _ => true) true fuel 9 cs = some x) :
    ∃ (a0 : ByteArray), cs = [.string a0] ∧ (a0.size ≤ 9223372036854775807) ∧ True := by
  obtain ⟨a, e, g⟩ := SL.open_str Try.underlying9 h
  exact ⟨a, e, g, trivial⟩
theorem open_t49 {H : Type} {enc : TypeId × Value → H} {W : World} {fuel : Nat} {cs : List Value} {x : DataW H × List MemPlace} (h : DataW.trod enc Try.prog W 0 (fun _ => true) true fuel 49 cs = some x) :
    ∃ (A0 : Option Addr) (c0 : Nat) (l0 : List ByteArray), cs = [.slice A0 l0.length c0] ∧ (l0.length ≤ c0) ∧ (l0.length ≤ maxLen) ∧ (Kd.C Kd.string W A0 l0.length l0) ∧ (∀ y_ ∈ l0, (y_.size ≤ 9223372036854775807)) ∧ True := by
  have hel : ∀ (fuel : Nat) (cs : List Value) (x : DataW H × List MemPlace), DataW.trod enc Try.prog W 0 (fun _ => true) true fuel 9 cs = some x → ∃ a : ByteArray, Kd.string.K W a cs ∧ (fun y_ : ByteArray => (y_.size ≤ 9223372036854775807)) a := by
    intro fuel cs x h
    obtain ⟨a0, rfl, g0_0, _⟩ := open_t9 h
    exact ⟨a0, rfl, g0_0⟩
  obtain ⟨A, c, xs, e, h1, h2, h3, h4⟩ := SL.open_row (α := ByteArray) Kd.string (fun y_ => (y_.size ≤ 9223372036854775807)) Try.underlying49 (by kernel_rfl) hel h
  exact ⟨A, c, xs, e, h1, h2, h3, h4, trivial⟩
set_option maxRecDepth 100000 in
theorem lifted (os : Os) (started : os.Started) (H : Type) (enc : TypeId × Value → H) :
    ReturnsInHanded {} Try.checked os 6 .any (Rows.asciiLinesSpec.pre6 enc Try.prog Try.f6 Rows.asciiLinesRow.domain false) (Rows.asciiLinesSpec.post enc Try.prog Try.f6 false true false false) := by
  refine returnsInHanded_of_change_shaped (C := Try.checked) own started (by kernel_rfl) Try.func6
    (ChangeSpec.witness6 (enc := enc) (C := Try.checked) false ⟨#[], #[.slice none 0 0, .int .i64 0], []⟩ 8 (by kernel_rfl) (by kernel_rfl) (by kernel_rfl) (by kernel_rfl)) ?_
  intro W base args ds gs before hval0 hW hcnd hsz0 hsh _
  have hsz : (DataW.weightsEach Try.prog (Try.f6.params.toList ++ Rows.asciiLinesSpec.plain.varTypes Try.prog) (ds ++ gs)).all (· ≤ reachBytes) = true := hsz0
  have hval : ∀ (j : Nat) t v, Try.f6.params[j]? = some t → args[j]? = some v → Value.okWide Try.prog W .any base t v := hval0
  have hW' := hW
  obtain ⟨p, q, hA0, hV, rfl, hfz, hnd⟩ := hW
  have hA : DataW.TrodAll enc Try.prog W 0 (fun _ => true) true Try.f6.params.toList args.toList ds p := hA0
  rw [Try.params6] at hA hval hsz
  obtain ⟨v0, vs0, d0, ds0, p0, q0, hargs, rfl, rfl, h0, r0⟩ := trodAll_cons hA
  obtain ⟨v1, vs1, d1, ds1, p1, q1, rfl, rfl, rfl, h1, r1⟩ := trodAll_cons r0
  obtain ⟨rfl, rfl, rfl⟩ := trodAll_nil r1
  obtain rfl : args = #[v0, v1] := by cases args; simp_all
  obtain ⟨rfl, rfl⟩ := trodVars_none hV
  obtain ⟨a0, len0, cap0, rfl⟩ := okWide_slice Try.underlying49 (hval 0 49 v0 rfl rfl)
  have k0 := h0
  have lt0 : ∀ x ∈ p0, x.block < W.heap.size := by obtain ⟨m, hm⟩ := k0; exact DataW.trod_lt m _ _ _ hm
  obtain ⟨l0, hn0, hc0, hm0, hr0, hg0⟩ : ∃ l : List ByteArray, len0 = l.length ∧ l.length ≤ cap0 ∧ l.length ≤ maxLen ∧ Kd.C Kd.string W a0 l.length l ∧ ∀ y_ ∈ l, (y_.size ≤ 9223372036854775807) := by
    obtain ⟨fuel, hf⟩ := h0
    obtain ⟨A, c, xs, hcs, g1, g2, g3, g4, _⟩ := open_t49 hf
    simp [Value.cells] at hcs
    obtain ⟨rfl, e_, rfl⟩ := hcs
    exact ⟨xs, e_, g1, g2, g3, g4⟩
  subst hn0
  obtain ⟨a1, rfl, rfl, rfl, w1⟩ := open_int Try.underlying3 (hval 1 3 v1 rfl rfl) h1
  clear hA0 hval0 hsz0 hsz
  have hP := Pure.AsciiLines l0 a1 hm0 hg0 w1
  refine (P.postilionlaw02_AsciiLines.calls _ _ l0 a1 true W hr0 hc0 hP ⟨rfl⟩ (Try.laysM185.s1_3 W hsh)).mono fun e W' ⟨he, bel0⟩ => ?_
  have bel : Below W.heap.size W W' := bel0
  subst he
  exact ⟨_, rfl, _, _, _, [], _, [], hW', trodAll_mk1 (shut_bool Try.underlying4 _), (trodAll_cons_mk (Below.trod laidOut (by kernel_rfl) (of_decide_eq_true (by kernel_rfl)) k0 bel lt0) (trodAll_cons_mk (shut_int Try.underlying3 w1) trodAll_mk0)), rfl, bel.frame _, fun h => by cases h⟩
theorem over : Rows.asciiLinesRow.holds Try.pinned (OpenSpec.ofChange Rows.asciiLinesSpec) :=
  OpenClaim.holds_of_wide 6 Try.f6 rfl rfl rfl rfl rfl rfl rfl ⟨rfl, rfl, rfl, rfl, rfl⟩ rfl rfl rfl rfl rfl (by kernel_rfl) Try.func6 (by kernel_rfl)
    (of_decide_eq_true (by kernel_rfl)) (by unfold Func.isWrapper; first | (rw [if_pos (by decide +kernel)]; kernel_rfl) | (rw [if_neg (by decide +kernel)]; exact ⟨rfl, rfl⟩))
    (fun os started H enc _ => lifted os started H enc)
theorem proved : Rows.AsciiLinesSaid := over
#print axioms proved
end Go.Proofs.Ytlpibchjcmndjaa.asciiLines
namespace Go.Proofs.Ytlpibchjcmndjaa
/-- The row, under a short name, for the claim. -/
theorem asciiLines_holds : Rows.AsciiLinesSaid := asciiLines.proved
end Go.Proofs.Ytlpibchjcmndjaa
