-- Laid by sp.py, a program of this session's, out of the translation and the session's own stand-ins.
import Derived.Test.YtnlckandbgpncaaRows
import Derived.Test.YtnlckandbgpncaaStrackPlays
import Derived.Test.YtnlckandbgpncaaPureRackPlays
import Derived.Test.YtnlckandbgpncaaSLopen
import Derived.WalkKit
import Derived.ProofKit
import Derived.OpenShut
import Derived.ShutString
import Derived.ChangeOld
import Derived.Below
import Derived.SizedLaws
import Derived.Test.YtnlckandbgpncaaWSized
namespace Go.Proofs.Ytnlckandbgpncaa.rackPlays
open Go.ChangeShapes Go.WideShapes Go.ChangeAt Go.RowKit Go.Proofs.Ytnlckandbgpncaa.P Go.Proofs.YtnlckandbgpncaaW.PrintWords
open Go.ChangeMaps (open_string shut_string)
set_option linter.unusedVariables false
set_option linter.unusedSimpArgs false
theorem own : ownKnob Try.prog.godebug = none := by kernel_rfl
theorem laidOut : laidOutB Try.prog = true := by kernel_rfl
instance : Inhabited S31 := ⟨z31⟩
set_option maxRecDepth 100000 in
theorem open_t5 {H : Type} {enc : TypeId × Value → H} {W : World} {fuel : Nat} {cs : List Value} {x : DataW H × List MemPlace} (h : DataW.trod enc Try.prog W 0 (fun _ => true) true fuel 5 cs = some x) :
    ∃ (a0 : Int), cs = [.int .u8 a0] ∧ ((Lit.int .u8 a0).wf = true) ∧ True := by
  obtain ⟨a, e, g⟩ := SL.open_int Try.underlying5 h
  exact ⟨a, e, g, trivial⟩
set_option maxRecDepth 100000 in
theorem open_t3 {H : Type} {enc : TypeId × Value → H} {W : World} {fuel : Nat} {cs : List Value} {x : DataW H × List MemPlace} (h : DataW.trod enc Try.prog W 0 (fun _ => true) true fuel 3 cs = some x) :
    ∃ (a0 : Int), cs = [.int .i64 a0] ∧ ((Lit.int .i64 a0).wf = true) ∧ True := by
  obtain ⟨a, e, g⟩ := SL.open_int Try.underlying3 h
  exact ⟨a, e, g, trivial⟩
set_option maxRecDepth 100000 in
theorem open_t31 {H : Type} {enc : TypeId × Value → H} {W : World} {fuel : Nat} {cs : List Value} {x : DataW H × List MemPlace} (h : DataW.trod enc Try.prog W 0 (fun _ => true) true fuel 31 cs = some x) :
    ∃ (a0 : Int) (a1 : Int) (a2 : Int), cs = [.int .u8 a0, .int .i64 a1, .int .i64 a2] ∧ ((Lit.int .u8 a0).wf = true) ∧ ((Lit.int .i64 a1).wf = true) ∧ ((Lit.int .i64 a2).wf = true) ∧ True := by
  obtain ⟨xs, n, _, _, hl, hlen, hf⟩ := DataW.trod_struct Try.underlying31 h
  rw [show Try.prog.cellsOf 31 = 3 from by kernel_rfl] at hl
  match cs, hl with
  | [v0, v1, v2], _ =>
  match xs, hlen with
  | [y0, y1, y2], _ =>
  have h0 : DataW.trod enc Try.prog W 0 (fun _ => true) true n 5 [v0] = some y0 := by have h_ := hf 0 _ rfl; simpa [show Try.prog.cellsOf 5 = 1 from by kernel_rfl] using h_
  obtain ⟨a0_0, e0, f0_0, _⟩ := open_t5 h0
  simp only [List.cons.injEq, and_true] at e0
  subst e0
  have h1 : DataW.trod enc Try.prog W 0 (fun _ => true) true n 3 [v1] = some y1 := by have h_ := hf 1 _ rfl; simpa [show Try.prog.cellsOf 3 = 1 from by kernel_rfl] using h_
  obtain ⟨a1_0, e1, f1_0, _⟩ := open_t3 h1
  simp only [List.cons.injEq, and_true] at e1
  subst e1
  have h2 : DataW.trod enc Try.prog W 0 (fun _ => true) true n 3 [v2] = some y2 := by have h_ := hf 2 _ rfl; simpa [show Try.prog.cellsOf 3 = 1 from by kernel_rfl] using h_
  obtain ⟨a2_0, e2, f2_0, _⟩ := open_t3 h2
  simp only [List.cons.injEq, and_true] at e2
  subst e2
  exact ⟨a0_0, a1_0, a2_0, rfl, f0_0, f1_0, f2_0, trivial⟩
set_option maxRecDepth 100000 in
theorem open_t22 {H : Type} {enc : TypeId × Value → H} {W : World} {fuel : Nat} {cs : List Value} {x : DataW H × List MemPlace} (h : DataW.trod enc Try.prog W 0 (fun _ => true) true fuel 22 cs = some x) :
    ∃ (A0 : Option Addr) (c0 : Nat) (l0 : List (S31)), cs = [.slice A0 l0.length c0] ∧ (l0.length ≤ c0) ∧ (l0.length ≤ maxLen) ∧ (Kd.C k31 W A0 l0.length l0) ∧ (∀ y_ ∈ l0, ((Lit.int .u8 y_.f0).wf = true) ∧ ((Lit.int .i64 y_.f1).wf = true) ∧ ((Lit.int .i64 y_.f2).wf = true)) ∧ True := by
  have hel : ∀ (fuel : Nat) (cs : List Value) (x : DataW H × List MemPlace), DataW.trod enc Try.prog W 0 (fun _ => true) true fuel 31 cs = some x → ∃ a : S31, k31.K W a cs ∧ (fun y_ : S31 => ((Lit.int .u8 y_.f0).wf = true) ∧ ((Lit.int .i64 y_.f1).wf = true) ∧ ((Lit.int .i64 y_.f2).wf = true)) a := by
    intro fuel cs x h
    obtain ⟨a0, a1, a2, rfl, g0_0, g1_0, g2_0, _⟩ := open_t31 h
    exact ⟨(⟨a0, a1, a2⟩ : S31), k31_mk _ (⟨a0, a1, a2⟩ : S31), ⟨g0_0, g1_0, g2_0⟩⟩
  obtain ⟨A, c, xs, e, h1, h2, h3, h4⟩ := SL.open_row (α := S31) k31 (fun y_ => ((Lit.int .u8 y_.f0).wf = true) ∧ ((Lit.int .i64 y_.f1).wf = true) ∧ ((Lit.int .i64 y_.f2).wf = true)) Try.underlying22 (by kernel_rfl) hel h
  exact ⟨A, c, xs, e, h1, h2, h3, h4, trivial⟩
set_option maxRecDepth 100000 in
theorem lifted (os : Os) (started : os.Started) (H : Type) (enc : TypeId × Value → H) :
    ReturnsInHanded {} Try.checked os 5 .any (Rows.rackPlaysSpec.pre6 enc Try.prog Try.f5 Rows.rackPlaysRow.domain false) (Rows.rackPlaysSpec.post enc Try.prog Try.f5 false true false false) := by
  refine returnsInHanded_of_change_sized (C := Try.checked) own started (by kernel_rfl) Try.func5
    (ChangeSpec.witness6 (enc := enc) (C := Try.checked) false ⟨#[], #[.int .i64 0, .int .i64 0, .int .i64 0, .slice none 0 0], []⟩ 8 (by kernel_rfl) (by kernel_rfl) (by kernel_rfl) (by kernel_rfl)) ?_
  intro W base args ds gs before hval0 hW hcnd hsz0 _
  have hsz : (DataW.weightsEach Try.prog (Try.f5.params.toList ++ Rows.rackPlaysSpec.plain.varTypes Try.prog) (ds ++ gs)).all (· ≤ reachBytes) = true := hsz0
  have hval : ∀ (j : Nat) t v, Try.f5.params[j]? = some t → args[j]? = some v → Value.okWide Try.prog W .any base t v := hval0
  have hW' := hW
  obtain ⟨p, q, hA0, hV, rfl, hfz, hnd⟩ := hW
  have hA : DataW.TrodAll enc Try.prog W 0 (fun _ => true) true Try.f5.params.toList args.toList ds p := hA0
  rw [Try.params5] at hA hval hsz
  obtain ⟨v0, vs0, d0, ds0, p0, q0, hargs, rfl, rfl, h0, r0⟩ := trodAll_cons hA
  obtain ⟨v1, vs1, d1, ds1, p1, q1, rfl, rfl, rfl, h1, r1⟩ := trodAll_cons r0
  obtain ⟨v2, vs2, d2, ds2, p2, q2, rfl, rfl, rfl, h2, r2⟩ := trodAll_cons r1
  obtain ⟨v3, vs3, d3, ds3, p3, q3, rfl, rfl, rfl, h3, r3⟩ := trodAll_cons r2
  obtain ⟨rfl, rfl, rfl⟩ := trodAll_nil r3
  obtain rfl : args = #[v0, v1, v2, v3] := by cases args; simp_all
  obtain ⟨rfl, rfl⟩ := trodVars_none hV
  obtain ⟨a0, rfl, rfl, rfl, w0⟩ := open_int Try.underlying3 (hval 0 3 v0 rfl rfl) h0
  obtain ⟨a1, rfl, rfl, rfl, w1⟩ := open_int Try.underlying3 (hval 1 3 v1 rfl rfl) h1
  obtain ⟨a2, rfl, rfl, rfl, w2⟩ := open_int Try.underlying3 (hval 2 3 v2 rfl rfl) h2
  obtain ⟨a3, len3, cap3, rfl⟩ := okWide_slice Try.underlying22 (hval 3 22 v3 rfl rfl)
  have k3 := h3
  have lt3 : ∀ x ∈ p3, x.block < W.heap.size := by obtain ⟨m, hm⟩ := k3; exact DataW.trod_lt m _ _ _ hm
  obtain ⟨l3, hn3, hc3, hm3, hr3, hg3⟩ : ∃ l : List (S31), len3 = l.length ∧ l.length ≤ cap3 ∧ l.length ≤ maxLen ∧ Kd.C k31 W a3 l.length l ∧ ∀ y_ ∈ l, ((Lit.int .u8 y_.f0).wf = true) ∧ ((Lit.int .i64 y_.f1).wf = true) ∧ ((Lit.int .i64 y_.f2).wf = true) := by
    obtain ⟨fuel, hf⟩ := h3
    obtain ⟨A, c, xs, hcs, g1, g2, g3, g4, _⟩ := open_t22 hf
    simp [Value.cells] at hcs
    obtain ⟨rfl, e_, rfl⟩ := hcs
    exact ⟨xs, e_, g1, g2, g3, g4⟩
  subst hn3
  clear hA0 hval0 hsz0 hsz
  have hP := Pure.RackPlays a0 a1 a2 l3 w0 w1 w2 hm3 hg3
  refine (P.postilionlaw03_RackPlays.calls a0 a1 a2 _ _ l3 true W hr3 hc3 hP ⟨rfl⟩).mono fun e W' ⟨he, bel0⟩ => ?_
  have bel : Below W.heap.size W W' := bel0
  subst he
  exact ⟨_, rfl, _, _, _, [], _, [], hW', trodAll_mk1 (shut_bool Try.underlying4 _), (trodAll_cons_mk (shut_int Try.underlying3 w0) (trodAll_cons_mk (shut_int Try.underlying3 w1) (trodAll_cons_mk (shut_int Try.underlying3 w2) (trodAll_cons_mk (Below.trod laidOut (by kernel_rfl) (of_decide_eq_true (by kernel_rfl)) k3 bel lt3) trodAll_mk0)))), rfl, bel.frame _, fun h => by cases h⟩
theorem over : Rows.rackPlaysRow.holds Try.pinned (OpenSpec.ofChange Rows.rackPlaysSpec) :=
  OpenClaim.holds_of_wide 5 Try.f5 rfl rfl rfl rfl rfl rfl rfl ⟨rfl, rfl, rfl, rfl, rfl⟩ rfl rfl rfl rfl rfl (by kernel_rfl) Try.func5 (by kernel_rfl)
    (of_decide_eq_true (by kernel_rfl)) (by unfold Func.isWrapper; first | (rw [if_pos (by decide +kernel)]; kernel_rfl) | (rw [if_neg (by decide +kernel)]; exact ⟨rfl, rfl⟩))
    (fun os started H enc _ => lifted os started H enc)
theorem proved : Rows.RackPlaysSaid := over
#print axioms proved
end Go.Proofs.Ytnlckandbgpncaa.rackPlays
namespace Go.Proofs.Ytnlckandbgpncaa
/-- The row, under a short name, for the claim. -/
theorem rackPlays_holds : Rows.RackPlaysSaid := rackPlays.proved
end Go.Proofs.Ytnlckandbgpncaa
