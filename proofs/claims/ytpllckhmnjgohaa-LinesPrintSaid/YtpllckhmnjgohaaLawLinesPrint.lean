-- Laid by sp.py, a program of this session's, out of the translation and the session's own stand-ins.
import Derived.Test.YtpllckhmnjgohaaRows
import Derived.Test.YtpllckhmnjgohaaPx9
import Derived.Test.YtpllckhmnjgohaaPureLinesPrint
import Derived.Test.YtpllckhmnjgohaaSLopen
import Derived.WalkKit
import Derived.ProofKit
import Derived.OpenShut
import Derived.ShutString
import Derived.ChangeOld
import Derived.Below
import Derived.SizedLaws
import Derived.Test.YtpllckhmnjgohaaWSized
namespace Go.Proofs.Ytpllckhmnjgohaa.linesPrint
open Go.ChangeShapes Go.WideShapes Go.ChangeAt Go.RowKit Go.Proofs.Ytpllckhmnjgohaa.P Go.Proofs.YtpllckhmnjgohaaW.PrintWords
open Go.ChangeMaps (open_string shut_string)
set_option linter.unusedVariables false
set_option linter.unusedSimpArgs false
theorem own : ownKnob Try.prog.godebug = none := by kernel_rfl
theorem laidOut : laidOutB Try.prog = true := by kernel_rfl
theorem open_t9 {H : Type} {enc : TypeId × Value → H} {W : World} {fuel : Nat} {cs : List Value} {x : DataW H × List MemPlace} (h : DataW.trod enc Try.prog W 0 (fun _ => true) true fuel 9 cs = some x) :
    ∃ (a0 : ByteArray), cs = [.string a0] ∧ (a0.size ≤ 9223372036854775807) ∧ True := by
  obtain ⟨a, e, g⟩ := SL.open_str Try.underlying9 h
  exact ⟨a, e, g, trivial⟩
theorem open_t31 {H : Type} {enc : TypeId × Value → H} {W : World} {fuel : Nat} {cs : List Value} {x : DataW H × List MemPlace} (h : DataW.trod enc Try.prog W 0 (fun _ => true) true fuel 31 cs = some x) :
    ∃ (A0 : Option Addr) (c0 : Nat) (l0 : List ByteArray), cs = [.slice A0 l0.length c0] ∧ (l0.length ≤ c0) ∧ (l0.length ≤ maxLen) ∧ (Kd.C Kd.string W A0 l0.length l0) ∧ (∀ y_ ∈ l0, (y_.size ≤ 9223372036854775807)) ∧ True := by
  have hel : ∀ (fuel : Nat) (cs : List Value) (x : DataW H × List MemPlace), DataW.trod enc Try.prog W 0 (fun _ => true) true fuel 9 cs = some x → ∃ a : ByteArray, Kd.string.K W a cs ∧ (fun y_ : ByteArray => (y_.size ≤ 9223372036854775807)) a := by
    intro fuel cs x h
    obtain ⟨a0, rfl, g0_0, _⟩ := open_t9 h
    exact ⟨a0, rfl, g0_0⟩
  obtain ⟨A, c, xs, e, h1, h2, h3, h4⟩ := SL.open_row (α := ByteArray) Kd.string (fun y_ => (y_.size ≤ 9223372036854775807)) Try.underlying31 (by kernel_rfl) hel h
  exact ⟨A, c, xs, e, h1, h2, h3, h4, trivial⟩
theorem open_t22 {H : Type} {enc : TypeId × Value → H} {W : World} {fuel : Nat} {cs : List Value} {x : DataW H × List MemPlace} (h : DataW.trod enc Try.prog W 0 (fun _ => true) true fuel 22 cs = some x) :
    ∃ (A0 : Option Addr) (c0 : Nat) (l0 : List (List ByteArray)), cs = [.slice A0 l0.length c0] ∧ (l0.length ≤ c0) ∧ (l0.length ≤ maxLen) ∧ (Kd.C (Kd.slice 9 Kd.string) W A0 l0.length l0) ∧ (∀ y_ ∈ l0, (y_.length ≤ maxLen) ∧ (∀ z_ ∈ y_, (z_.size ≤ 9223372036854775807))) ∧ True := by
  have hel : ∀ (fuel : Nat) (cs : List Value) (x : DataW H × List MemPlace), DataW.trod enc Try.prog W 0 (fun _ => true) true fuel 31 cs = some x → ∃ a : List ByteArray, (Kd.slice 9 Kd.string).K W a cs ∧ (fun y_ : List ByteArray => (y_.length ≤ maxLen) ∧ (∀ z_ ∈ y_, (z_.size ≤ 9223372036854775807))) a := by
    intro fuel cs x h
    obtain ⟨A0, c0, l0, rfl, g0_0, g0_1, g0_2, g0_3, _⟩ := open_t31 h
    exact ⟨l0, ⟨A0, c0, rfl, g0_0, g0_2⟩, ⟨g0_1, g0_3⟩⟩
  obtain ⟨A, c, xs, e, h1, h2, h3, h4⟩ := SL.open_row (α := List ByteArray) (Kd.slice 9 Kd.string) (fun y_ => (y_.length ≤ maxLen) ∧ (∀ z_ ∈ y_, (z_.size ≤ 9223372036854775807))) Try.underlying22 (by kernel_rfl) hel h
  exact ⟨A, c, xs, e, h1, h2, h3, h4, trivial⟩
set_option maxRecDepth 100000 in
theorem lifted (os : Os) (started : os.Started) (H : Type) (enc : TypeId × Value → H) :
    ReturnsInHanded {} Try.checked os 3 .any (Rows.linesPrintSpec.pre6 enc Try.prog Try.f3 Rows.linesPrintRow.domain false) (Rows.linesPrintSpec.post enc Try.prog Try.f3 false true false false) := by
  refine returnsInHanded_of_change_sized (C := Try.checked) own started (by kernel_rfl) Try.func3
    (ChangeSpec.witness6 (enc := enc) (C := Try.checked) false ⟨#[], #[.slice none 0 0], []⟩ 8 (by kernel_rfl) (by kernel_rfl) (by kernel_rfl) (by kernel_rfl)) ?_
  intro W base args ds gs before hval0 hW hcnd hsz0 _
  have hsz : (DataW.weightsEach Try.prog (Try.f3.params.toList ++ Rows.linesPrintSpec.plain.varTypes Try.prog) (ds ++ gs)).all (· ≤ reachBytes) = true := hsz0
  have hval : ∀ (j : Nat) t v, Try.f3.params[j]? = some t → args[j]? = some v → Value.okWide Try.prog W .any base t v := hval0
  have hW' := hW
  obtain ⟨p, q, hA0, hV, rfl, hfz, hnd⟩ := hW
  have hA : DataW.TrodAll enc Try.prog W 0 (fun _ => true) true Try.f3.params.toList args.toList ds p := hA0
  rw [Try.params3] at hA hval hsz
  obtain ⟨v0, vs0, d0, ds0, p0, q0, hargs, rfl, rfl, h0, r0⟩ := trodAll_cons hA
  obtain ⟨rfl, rfl, rfl⟩ := trodAll_nil r0
  obtain rfl : args = #[v0] := by cases args; simp_all
  obtain ⟨rfl, rfl⟩ := trodVars_none hV
  obtain ⟨a0, len0, cap0, rfl⟩ := okWide_slice Try.underlying22 (hval 0 22 v0 rfl rfl)
  have k0 := h0
  have lt0 : ∀ x ∈ p0, x.block < W.heap.size := by obtain ⟨m, hm⟩ := k0; exact DataW.trod_lt m _ _ _ hm
  obtain ⟨l0, hn0, hc0, hm0, hr0, hg0⟩ : ∃ l : List (List ByteArray), len0 = l.length ∧ l.length ≤ cap0 ∧ l.length ≤ maxLen ∧ Kd.C (Kd.slice 9 Kd.string) W a0 l.length l ∧ ∀ y_ ∈ l, (y_.length ≤ maxLen) ∧ (∀ z_ ∈ y_, (z_.size ≤ 9223372036854775807)) := by
    obtain ⟨fuel, hf⟩ := h0
    obtain ⟨A, c, xs, hcs, g1, g2, g3, g4, _⟩ := open_t22 hf
    simp [Value.cells] at hcs
    obtain ⟨rfl, e_, rfl⟩ := hcs
    exact ⟨xs, e_, g1, g2, g3, g4⟩
  subst hn0
  clear hA0 hval0 hsz0 hsz
  obtain ⟨k, hP⟩ := Pure.LinesPrint l0 hm0 hg0
  refine (P.postilionlaw18_LinesPrint.calls k _ _ l0 true W hr0 hc0 hP ⟨rfl⟩).mono fun e W' ⟨he, bel0⟩ => ?_
  have bel : Below W.heap.size W W' := bel0
  subst he
  exact ⟨_, rfl, _, _, _, [], _, [], hW', trodAll_mk1 (shut_bool Try.underlying4 _), (trodAll_cons_mk (Below.trod laidOut (by kernel_rfl) (of_decide_eq_true (by kernel_rfl)) k0 bel lt0) trodAll_mk0), rfl, bel.frame _, fun h => by cases h⟩
theorem over : Rows.linesPrintRow.holds Try.pinned (OpenSpec.ofChange Rows.linesPrintSpec) :=
  OpenClaim.holds_of_wide 3 Try.f3 rfl rfl rfl rfl rfl rfl rfl ⟨rfl, rfl, rfl, rfl, rfl⟩ rfl rfl rfl rfl rfl (by kernel_rfl) Try.func3 (by kernel_rfl)
    (of_decide_eq_true (by kernel_rfl)) (by unfold Func.isWrapper; first | (rw [if_pos (by decide +kernel)]; kernel_rfl) | (rw [if_neg (by decide +kernel)]; exact ⟨rfl, rfl⟩))
    (fun os started H enc _ => lifted os started H enc)
theorem proved : Rows.LinesPrintSaid := over
#print axioms proved
end Go.Proofs.Ytpllckhmnjgohaa.linesPrint
namespace Go.Proofs.Ytpllckhmnjgohaa
/-- The row, under a short name, for the claim. -/
theorem linesPrint_holds : Rows.LinesPrintSaid := linesPrint.proved
end Go.Proofs.Ytpllckhmnjgohaa
