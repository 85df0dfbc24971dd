-- Laid by sp.py, a program of this session's, out of the translation and the session's own stand-ins.
import Derived.Test.YtnajlpmpofljhaaRows
import Derived.Test.YtnajlpmpofljhaaStprobeApart
import Derived.Test.YtnajlpmpofljhaaPureProbeApart
import Derived.Test.YtnajlpmpofljhaaSLopen
import Derived.WalkKit
import Derived.ProofKit
import Derived.OpenShut
import Derived.ShutString
import Derived.ChangeOld
import Derived.Below
import Derived.SizedLaws
import Derived.Test.YtnajlpmpofljhaaWSized
namespace Go.Proofs.Ytnajlpmpofljhaa.probeApart
open Go.ChangeShapes Go.WideShapes Go.ChangeAt Go.RowKit Go.Proofs.Ytnajlpmpofljhaa.P Go.Proofs.YtnajlpmpofljhaaW.PrintWords
open Go.ChangeMaps (open_string shut_string)
set_option linter.unusedVariables false
set_option linter.unusedSimpArgs false
theorem own : ownKnob Try.prog.godebug = none := by kernel_rfl
theorem laidOut : laidOutB Try.prog = true := by kernel_rfl
set_option maxRecDepth 100000 in
theorem open_t4 {H : Type} {enc : TypeId × Value → H} {W : World} {fuel : Nat} {cs : List Value} {x : DataW H × List MemPlace} (h : DataW.trod enc Try.prog W 0 (fun _ => true) true fuel 4 cs = some x) :
    ∃ (a0 : Bool), cs = [.bool a0] ∧ True := by
  obtain ⟨a, e⟩ := SL.open_bool Try.underlying4 h
  exact ⟨a, e, trivial⟩
set_option maxRecDepth 100000 in
theorem open_t22 {H : Type} {enc : TypeId × Value → H} {W : World} {fuel : Nat} {cs : List Value} {x : DataW H × List MemPlace} (h : DataW.trod enc Try.prog W 0 (fun _ => true) true fuel 22 cs = some x) :
    ∃ (A0 : Option Addr) (c0 : Nat) (l0 : List Bool), cs = [.slice A0 l0.length c0] ∧ (l0.length ≤ c0) ∧ (l0.length ≤ maxLen) ∧ (Kd.C Kd.bool W A0 l0.length l0) ∧ (∀ y_ ∈ l0, True) ∧ True := by
  have hel : ∀ (fuel : Nat) (cs : List Value) (x : DataW H × List MemPlace), DataW.trod enc Try.prog W 0 (fun _ => true) true fuel 4 cs = some x → ∃ a : Bool, Kd.bool.K W a cs ∧ (fun y_ : Bool => True) a := by
    intro fuel cs x h
    obtain ⟨a0, rfl, _⟩ := open_t4 h
    exact ⟨a0, rfl, trivial⟩
  obtain ⟨A, c, xs, e, h1, h2, h3, h4⟩ := SL.open_row (α := Bool) Kd.bool (fun y_ => True) Try.underlying22 (by kernel_rfl) hel h
  exact ⟨A, c, xs, e, h1, h2, h3, h4, trivial⟩
set_option maxRecDepth 100000 in
theorem lifted (os : Os) (started : os.Started) (H : Type) (enc : TypeId × Value → H) :
    ReturnsInHanded {} Try.checked os 4 .any (Rows.probeApartSpec.pre6 enc Try.prog Try.f4 Rows.probeApartRow.domain false) (Rows.probeApartSpec.post enc Try.prog Try.f4 false true false false) := by
  refine returnsInHanded_of_change_sized (C := Try.checked) own started (by kernel_rfl) Try.func4
    (ChangeSpec.witness6 (enc := enc) (C := Try.checked) false ⟨#[], #[.int .i64 0, .int .i64 0, .int .i64 0, .slice none 0 0, .slice none 0 0], []⟩ 8 (by kernel_rfl) (by kernel_rfl) (by kernel_rfl) (by kernel_rfl)) ?_
  intro W base args ds gs before hval0 hW hcnd hsz0 _
  have hsz : (DataW.weightsEach Try.prog (Try.f4.params.toList ++ Rows.probeApartSpec.plain.varTypes Try.prog) (ds ++ gs)).all (· ≤ reachBytes) = true := hsz0
  have hval : ∀ (j : Nat) t v, Try.f4.params[j]? = some t → args[j]? = some v → Value.okWide Try.prog W .any base t v := hval0
  have hW' := hW
  obtain ⟨p, q, hA0, hV, rfl, hfz, hnd⟩ := hW
  have hA : DataW.TrodAll enc Try.prog W 0 (fun _ => true) true Try.f4.params.toList args.toList ds p := hA0
  rw [Try.params4] at hA hval hsz
  obtain ⟨v0, vs0, d0, ds0, p0, q0, hargs, rfl, rfl, h0, r0⟩ := trodAll_cons hA
  obtain ⟨v1, vs1, d1, ds1, p1, q1, rfl, rfl, rfl, h1, r1⟩ := trodAll_cons r0
  obtain ⟨v2, vs2, d2, ds2, p2, q2, rfl, rfl, rfl, h2, r2⟩ := trodAll_cons r1
  obtain ⟨v3, vs3, d3, ds3, p3, q3, rfl, rfl, rfl, h3, r3⟩ := trodAll_cons r2
  obtain ⟨v4, vs4, d4, ds4, p4, q4, rfl, rfl, rfl, h4, r4⟩ := trodAll_cons r3
  obtain ⟨rfl, rfl, rfl⟩ := trodAll_nil r4
  obtain rfl : args = #[v0, v1, v2, v3, v4] := by cases args; simp_all
  obtain ⟨rfl, rfl⟩ := trodVars_none hV
  obtain ⟨a0, rfl, rfl, rfl, w0⟩ := open_int Try.underlying3 (hval 0 3 v0 rfl rfl) h0
  obtain ⟨a1, rfl, rfl, rfl, w1⟩ := open_int Try.underlying3 (hval 1 3 v1 rfl rfl) h1
  obtain ⟨a2, rfl, rfl, rfl, w2⟩ := open_int Try.underlying3 (hval 2 3 v2 rfl rfl) h2
  obtain ⟨a3, len3, cap3, rfl⟩ := okWide_slice Try.underlying22 (hval 3 22 v3 rfl rfl)
  have k3 := h3
  have lt3 : ∀ x ∈ p3, x.block < W.heap.size := by obtain ⟨m, hm⟩ := k3; exact DataW.trod_lt m _ _ _ hm
  obtain ⟨l3, hn3, hc3, hm3, hr3, hg3⟩ : ∃ l : List Bool, len3 = l.length ∧ l.length ≤ cap3 ∧ l.length ≤ maxLen ∧ Kd.C Kd.bool W a3 l.length l ∧ ∀ y_ ∈ l, True := by
    obtain ⟨fuel, hf⟩ := h3
    obtain ⟨A, c, xs, hcs, g1, g2, g3, g4, _⟩ := open_t22 hf
    simp [Value.cells] at hcs
    obtain ⟨rfl, e_, rfl⟩ := hcs
    exact ⟨xs, e_, g1, g2, g3, g4⟩
  subst hn3
  obtain ⟨a4, len4, cap4, rfl⟩ := okWide_slice Try.underlying22 (hval 4 22 v4 rfl rfl)
  have k4 := h4
  have lt4 : ∀ x ∈ p4, x.block < W.heap.size := by obtain ⟨m, hm⟩ := k4; exact DataW.trod_lt m _ _ _ hm
  obtain ⟨l4, hn4, hc4, hm4, hr4, hg4⟩ : ∃ l : List Bool, len4 = l.length ∧ l.length ≤ cap4 ∧ l.length ≤ maxLen ∧ Kd.C Kd.bool W a4 l.length l ∧ ∀ y_ ∈ l, True := by
    obtain ⟨fuel, hf⟩ := h4
    obtain ⟨A, c, xs, hcs, g1, g2, g3, g4, _⟩ := open_t22 hf
    simp [Value.cells] at hcs
    obtain ⟨rfl, e_, rfl⟩ := hcs
    exact ⟨xs, e_, g1, g2, g3, g4⟩
  subst hn4
  clear hA0 hval0 hsz0 hsz
  have hP := Pure.ProbeApart a0 a1 a2 l3 l4 w0 w1 w2 hm3 hg3 hm4 hg4
  refine (P.postilionlaw10_ProbeApart.calls a0 a1 a2 _ _ l3 _ _ l4 true W hr3 hc3 hr4 hc4 hP ⟨rfl⟩).mono fun e W' ⟨he, bel0⟩ => ?_
  have bel : Below W.heap.size W W' := bel0
  subst he
  exact ⟨_, rfl, _, _, _, [], _, [], hW', trodAll_mk1 (shut_bool Try.underlying4 _), (trodAll_cons_mk (shut_int Try.underlying3 w0) (trodAll_cons_mk (shut_int Try.underlying3 w1) (trodAll_cons_mk (shut_int Try.underlying3 w2) (trodAll_cons_mk (Below.trod laidOut (by kernel_rfl) (of_decide_eq_true (by kernel_rfl)) k3 bel lt3) (trodAll_cons_mk (Below.trod laidOut (by kernel_rfl) (of_decide_eq_true (by kernel_rfl)) k4 bel lt4) trodAll_mk0))))), rfl, bel.frame _, fun h => by cases h⟩
theorem over : Rows.probeApartRow.holds Try.pinned (OpenSpec.ofChange Rows.probeApartSpec) :=
  OpenClaim.holds_of_wide 4 Try.f4 rfl rfl rfl rfl rfl rfl rfl ⟨rfl, rfl, rfl, rfl, rfl⟩ rfl rfl rfl rfl rfl (by kernel_rfl) Try.func4 (by kernel_rfl)
    (of_decide_eq_true (by kernel_rfl)) (by unfold Func.isWrapper; first | (rw [if_pos (by decide +kernel)]; kernel_rfl) | (rw [if_neg (by decide +kernel)]; exact ⟨rfl, rfl⟩))
    (fun os started H enc _ => lifted os started H enc)
theorem proved : Rows.ProbeApartSaid := over
#print axioms proved
end Go.Proofs.Ytnajlpmpofljhaa.probeApart
namespace Go.Proofs.Ytnajlpmpofljhaa
/-- The row, under a short name, for the claim. -/
theorem probeApart_holds : Rows.ProbeApartSaid := probeApart.proved
end Go.Proofs.Ytnajlpmpofljhaa
