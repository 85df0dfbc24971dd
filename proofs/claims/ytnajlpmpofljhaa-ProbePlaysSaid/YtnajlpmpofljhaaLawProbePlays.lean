-- Laid by sp.py, a program of this session's, out of the translation and the session's own stand-ins.
import Derived.Test.YtnajlpmpofljhaaRows
import Derived.Test.YtnajlpmpofljhaaStprobePlays
import Derived.Test.YtnajlpmpofljhaaPureProbePlays
import Derived.Test.YtnajlpmpofljhaaSLopen
import Derived.WalkKit
import Derived.ProofKit
import Derived.OpenShut
import Derived.ShutString
import Derived.ChangeOld
import Derived.Below
import Derived.SizedLaws
import Derived.Test.YtnajlpmpofljhaaWSized
namespace Go.Proofs.Ytnajlpmpofljhaa.probePlays
open Go.ChangeShapes Go.WideShapes Go.ChangeAt Go.RowKit Go.Proofs.Ytnajlpmpofljhaa.P Go.Proofs.YtnajlpmpofljhaaW.PrintWords
open Go.ChangeMaps (open_string shut_string)
set_option linter.unusedVariables false
set_option linter.unusedSimpArgs false
theorem own : ownKnob Try.prog.godebug = none := by kernel_rfl
theorem laidOut : laidOutB Try.prog = true := by kernel_rfl
instance : Inhabited S46 := ⟨z46⟩
set_option maxRecDepth 100000 in
theorem open_t5 {H : Type} {enc : TypeId × Value → H} {W : World} {fuel : Nat} {cs : List Value} {x : DataW H × List MemPlace} (h : DataW.trod enc Try.prog W 0 (fun _ => true) true fuel 5 cs = some x) :
    ∃ (a0 : Int), cs = [.int .u8 a0] ∧ ((Lit.int .u8 a0).wf = true) ∧ True := by
  obtain ⟨a, e, g⟩ := SL.open_int Try.underlying5 h
  exact ⟨a, e, g, trivial⟩
set_option maxRecDepth 100000 in
theorem open_t3 {H : Type} {enc : TypeId × Value → H} {W : World} {fuel : Nat} {cs : List Value} {x : DataW H × List MemPlace} (h : DataW.trod enc Try.prog W 0 (fun _ => true) true fuel 3 cs = some x) :
    ∃ (a0 : Int), cs = [.int .i64 a0] ∧ ((Lit.int .i64 a0).wf = true) ∧ True := by
  obtain ⟨a, e, g⟩ := SL.open_int Try.underlying3 h
  exact ⟨a, e, g, trivial⟩
set_option maxRecDepth 100000 in
theorem open_t30 {H : Type} {enc : TypeId × Value → H} {W : World} {fuel : Nat} {cs : List Value} {x : DataW H × List MemPlace} (h : DataW.trod enc Try.prog W 0 (fun _ => true) true fuel 30 cs = some x) :
    ∃ (A0 : Option Addr) (c0 : Nat) (l0 : List Int), cs = [.slice A0 l0.length c0] ∧ (l0.length ≤ c0) ∧ (l0.length ≤ maxLen) ∧ (Kd.C (Kd.int .i64) W A0 l0.length l0) ∧ (∀ y_ ∈ l0, ((Lit.int .i64 y_).wf = true)) ∧ True := by
  have hel : ∀ (fuel : Nat) (cs : List Value) (x : DataW H × List MemPlace), DataW.trod enc Try.prog W 0 (fun _ => true) true fuel 3 cs = some x → ∃ a : Int, (Kd.int .i64).K W a cs ∧ (fun y_ : Int => ((Lit.int .i64 y_).wf = true)) a := by
    intro fuel cs x h
    obtain ⟨a0, rfl, g0_0, _⟩ := open_t3 h
    exact ⟨a0, rfl, g0_0⟩
  obtain ⟨A, c, xs, e, h1, h2, h3, h4⟩ := SL.open_row (α := Int) (Kd.int .i64) (fun y_ => ((Lit.int .i64 y_).wf = true)) Try.underlying30 (by kernel_rfl) hel h
  exact ⟨A, c, xs, e, h1, h2, h3, h4, trivial⟩
set_option maxRecDepth 100000 in
theorem open_t46 {H : Type} {enc : TypeId × Value → H} {W : World} {fuel : Nat} {cs : List Value} {x : DataW H × List MemPlace} (h : DataW.trod enc Try.prog W 0 (fun _ => true) true fuel 46 cs = some x) :
    ∃ (a0 : Int) (a1 : Int) (A2 : Option Addr) (c2 : Nat) (l2 : List Int), cs = [.int .u8 a0, .int .i64 a1, .slice A2 l2.length c2] ∧ ((Lit.int .u8 a0).wf = true) ∧ ((Lit.int .i64 a1).wf = true) ∧ (l2.length ≤ c2) ∧ (l2.length ≤ maxLen) ∧ (Kd.C (Kd.int .i64) W A2 l2.length l2) ∧ (∀ y_ ∈ l2, ((Lit.int .i64 y_).wf = true)) ∧ True := by
  obtain ⟨xs, n, _, _, hl, hlen, hf⟩ := DataW.trod_struct Try.underlying46 h
  rw [show Try.prog.cellsOf 46 = 3 from by kernel_rfl] at hl
  match cs, hl with
  | [v0, v1, v2], _ =>
  match xs, hlen with
  | [y0, y1, y2], _ =>
  have h0 : DataW.trod enc Try.prog W 0 (fun _ => true) true n 5 [v0] = some y0 := by have h_ := hf 0 _ rfl; simpa [show Try.prog.cellsOf 5 = 1 from by kernel_rfl] using h_
  obtain ⟨a0_0, e0, f0_0, _⟩ := open_t5 h0
  simp only [List.cons.injEq, and_true] at e0
  subst e0
  have h1 : DataW.trod enc Try.prog W 0 (fun _ => true) true n 3 [v1] = some y1 := by have h_ := hf 1 _ rfl; simpa [show Try.prog.cellsOf 3 = 1 from by kernel_rfl] using h_
  obtain ⟨a1_0, e1, f1_0, _⟩ := open_t3 h1
  simp only [List.cons.injEq, and_true] at e1
  subst e1
  have h2 : DataW.trod enc Try.prog W 0 (fun _ => true) true n 30 [v2] = some y2 := by have h_ := hf 2 _ rfl; simpa [show Try.prog.cellsOf 30 = 1 from by kernel_rfl] using h_
  obtain ⟨A2_0, c2_0, l2_0, e2, f2_0, f2_1, f2_2, f2_3, _⟩ := open_t30 h2
  simp only [List.cons.injEq, and_true] at e2
  subst e2
  exact ⟨a0_0, a1_0, A2_0, c2_0, l2_0, rfl, f0_0, f1_0, f2_0, f2_1, f2_2, f2_3, trivial⟩
set_option maxRecDepth 100000 in
theorem open_t40 {H : Type} {enc : TypeId × Value → H} {W : World} {fuel : Nat} {cs : List Value} {x : DataW H × List MemPlace} (h : DataW.trod enc Try.prog W 0 (fun _ => true) true fuel 40 cs = some x) :
    ∃ (A0 : Option Addr) (c0 : Nat) (l0 : List (S46)), cs = [.slice A0 l0.length c0] ∧ (l0.length ≤ c0) ∧ (l0.length ≤ maxLen) ∧ (Kd.C k46 W A0 l0.length l0) ∧ (∀ y_ ∈ l0, ((Lit.int .u8 y_.f0).wf = true) ∧ ((Lit.int .i64 y_.f1).wf = true) ∧ (y_.f2.length ≤ maxLen) ∧ (∀ z_ ∈ y_.f2, ((Lit.int .i64 z_).wf = true))) ∧ True := by
  have hel : ∀ (fuel : Nat) (cs : List Value) (x : DataW H × List MemPlace), DataW.trod enc Try.prog W 0 (fun _ => true) true fuel 46 cs = some x → ∃ a : S46, k46.K W a cs ∧ (fun y_ : S46 => ((Lit.int .u8 y_.f0).wf = true) ∧ ((Lit.int .i64 y_.f1).wf = true) ∧ (y_.f2.length ≤ maxLen) ∧ (∀ z_ ∈ y_.f2, ((Lit.int .i64 z_).wf = true))) a := by
    intro fuel cs x h
    obtain ⟨a0, a1, A2, c2, l2, rfl, g0_0, g1_0, g2_0, g2_1, g2_2, g2_3, _⟩ := open_t46 h
    exact ⟨(⟨a0, a1, l2⟩ : S46), k46_mk _ (⟨a0, a1, l2⟩ : S46) g2_0 g2_2, ⟨g0_0, g1_0, g2_1, g2_3⟩⟩
  obtain ⟨A, c, xs, e, h1, h2, h3, h4⟩ := SL.open_row (α := S46) k46 (fun y_ => ((Lit.int .u8 y_.f0).wf = true) ∧ ((Lit.int .i64 y_.f1).wf = true) ∧ (y_.f2.length ≤ maxLen) ∧ (∀ z_ ∈ y_.f2, ((Lit.int .i64 z_).wf = true))) Try.underlying40 (by kernel_rfl) hel h
  exact ⟨A, c, xs, e, h1, h2, h3, h4, trivial⟩
set_option maxRecDepth 100000 in
theorem lifted (os : Os) (started : os.Started) (H : Type) (enc : TypeId × Value → H) :
    ReturnsInHanded {} Try.checked os 6 .any (Rows.probePlaysSpec.pre6 enc Try.prog Try.f6 Rows.probePlaysRow.domain false) (Rows.probePlaysSpec.post enc Try.prog Try.f6 false true false false) := by
  refine returnsInHanded_of_change_sized (C := Try.checked) own started (by kernel_rfl) Try.func6
    (ChangeSpec.witness6 (enc := enc) (C := Try.checked) false ⟨#[], #[.int .i64 0, .slice none 0 0], []⟩ 8 (by kernel_rfl) (by kernel_rfl) (by kernel_rfl) (by kernel_rfl)) ?_
  intro W base args ds gs before hval0 hW hcnd hsz0 _
  have hsz : (DataW.weightsEach Try.prog (Try.f6.params.toList ++ Rows.probePlaysSpec.plain.varTypes Try.prog) (ds ++ gs)).all (· ≤ reachBytes) = true := hsz0
  have hval : ∀ (j : Nat) t v, Try.f6.params[j]? = some t → args[j]? = some v → Value.okWide Try.prog W .any base t v := hval0
  have hW' := hW
  obtain ⟨p, q, hA0, hV, rfl, hfz, hnd⟩ := hW
  have hA : DataW.TrodAll enc Try.prog W 0 (fun _ => true) true Try.f6.params.toList args.toList ds p := hA0
  rw [Try.params6] at hA hval hsz
  obtain ⟨v0, vs0, d0, ds0, p0, q0, hargs, rfl, rfl, h0, r0⟩ := trodAll_cons hA
  obtain ⟨v1, vs1, d1, ds1, p1, q1, rfl, rfl, rfl, h1, r1⟩ := trodAll_cons r0
  obtain ⟨rfl, rfl, rfl⟩ := trodAll_nil r1
  obtain rfl : args = #[v0, v1] := by cases args; simp_all
  obtain ⟨rfl, rfl⟩ := trodVars_none hV
  obtain ⟨a0, rfl, rfl, rfl, w0⟩ := open_int Try.underlying3 (hval 0 3 v0 rfl rfl) h0
  obtain ⟨a1, len1, cap1, rfl⟩ := okWide_slice Try.underlying40 (hval 1 40 v1 rfl rfl)
  have k1 := h1
  have lt1 : ∀ x ∈ p1, x.block < W.heap.size := by obtain ⟨m, hm⟩ := k1; exact DataW.trod_lt m _ _ _ hm
  obtain ⟨l1, hn1, hc1, hm1, hr1, hg1⟩ : ∃ l : List (S46), len1 = l.length ∧ l.length ≤ cap1 ∧ l.length ≤ maxLen ∧ Kd.C k46 W a1 l.length l ∧ ∀ y_ ∈ l, ((Lit.int .u8 y_.f0).wf = true) ∧ ((Lit.int .i64 y_.f1).wf = true) ∧ (y_.f2.length ≤ maxLen) ∧ (∀ z_ ∈ y_.f2, ((Lit.int .i64 z_).wf = true)) := by
    obtain ⟨fuel, hf⟩ := h1
    obtain ⟨A, c, xs, hcs, g1, g2, g3, g4, _⟩ := open_t40 hf
    simp [Value.cells] at hcs
    obtain ⟨rfl, e_, rfl⟩ := hcs
    exact ⟨xs, e_, g1, g2, g3, g4⟩
  subst hn1
  clear hA0 hval0 hsz0 hsz
  have hP := Pure.ProbePlays a0 l1 w0 hm1 hg1
  refine (P.postilionlaw10_ProbePlays.calls a0 _ _ l1 true W hr1 hc1 hP ⟨rfl⟩).mono fun e W' ⟨he, bel0⟩ => ?_
  have bel : Below W.heap.size W W' := bel0
  subst he
  exact ⟨_, rfl, _, _, _, [], _, [], hW', trodAll_mk1 (shut_bool Try.underlying4 _), (trodAll_cons_mk (shut_int Try.underlying3 w0) (trodAll_cons_mk (Below.trod laidOut (by kernel_rfl) (of_decide_eq_true (by kernel_rfl)) k1 bel lt1) trodAll_mk0)), rfl, bel.frame _, fun h => by cases h⟩
theorem over : Rows.probePlaysRow.holds Try.pinned (OpenSpec.ofChange Rows.probePlaysSpec) :=
  OpenClaim.holds_of_wide 6 Try.f6 rfl rfl rfl rfl rfl rfl rfl ⟨rfl, rfl, rfl, rfl, rfl⟩ rfl rfl rfl rfl rfl (by kernel_rfl) Try.func6 (by kernel_rfl)
    (of_decide_eq_true (by kernel_rfl)) (by unfold Func.isWrapper; first | (rw [if_pos (by decide +kernel)]; kernel_rfl) | (rw [if_neg (by decide +kernel)]; exact ⟨rfl, rfl⟩))
    (fun os started H enc _ => lifted os started H enc)
theorem proved : Rows.ProbePlaysSaid := over
#print axioms proved
end Go.Proofs.Ytnajlpmpofljhaa.probePlays
namespace Go.Proofs.Ytnajlpmpofljhaa
/-- The row, under a short name, for the claim. -/
theorem probePlays_holds : Rows.ProbePlaysSaid := probePlays.proved
end Go.Proofs.Ytnajlpmpofljhaa
