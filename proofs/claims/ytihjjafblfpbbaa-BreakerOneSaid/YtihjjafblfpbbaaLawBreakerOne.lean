-- Laid by sp.py, a program of this session's, out of the translation and the session's own stand-ins.
import Derived.Test.YtihjjafblfpbbaaRows
import Derived.Test.YtihjjafblfpbbaaPx17
import Derived.Test.YtihjjafblfpbbaaPureBreakerOne
import Derived.Test.YtihjjafblfpbbaaSLopen
import Derived.WalkKit
import Derived.ProofKit
import Derived.OpenShut
import Derived.ShutString
import Derived.ChangeOld
import Derived.Below
import Derived.SizedLaws
import Derived.Test.YtihjjafblfpbbaaWSized
namespace Go.Proofs.Ytihjjafblfpbbaa.breakerOne
open Go.ChangeShapes Go.WideShapes Go.ChangeAt Go.RowKit Go.Proofs.Ytihjjafblfpbbaa.P Go.Proofs.YtihjjafblfpbbaaW.PrintWords
open Go.ChangeMaps (open_string shut_string)
set_option linter.unusedVariables false
set_option linter.unusedSimpArgs false
theorem own : ownKnob Try.prog.godebug = none := by kernel_rfl
theorem laidOut : laidOutB Try.prog = true := by kernel_rfl
instance : Inhabited S47 := ⟨z47⟩
theorem open_t5 {H : Type} {enc : TypeId × Value → H} {W : World} {fuel : Nat} {cs : List Value} {x : DataW H × List MemPlace} (h : DataW.trod enc Try.prog W 0 (fun _ => true) true fuel 5 cs = some x) :
    ∃ (a0 : Int), cs = [.int .u8 a0] ∧ ((Lit.int .u8 a0).wf = true) ∧ True := by
  obtain ⟨a, e, g⟩ := SL.open_int Try.underlying5 h
  exact ⟨a, e, g, trivial⟩
theorem open_t45 {H : Type} {enc : TypeId × Value → H} {W : World} {fuel : Nat} {cs : List Value} {x : DataW H × List MemPlace} (h : DataW.trod enc Try.prog W 0 (fun _ => true) true fuel 45 cs = some x) :
    ∃ (a0 : Int), cs = [.int .u16 a0] ∧ ((Lit.int .u16 a0).wf = true) ∧ True := by
  obtain ⟨a, e, g⟩ := SL.open_int Try.underlying45 h
  exact ⟨a, e, g, trivial⟩
theorem open_t4 {H : Type} {enc : TypeId × Value → H} {W : World} {fuel : Nat} {cs : List Value} {x : DataW H × List MemPlace} (h : DataW.trod enc Try.prog W 0 (fun _ => true) true fuel 4 cs = some x) :
    ∃ (a0 : Bool), cs = [.bool a0] ∧ True := by
  obtain ⟨a, e⟩ := SL.open_bool Try.underlying4 h
  exact ⟨a, e, trivial⟩
theorem open_t47 {H : Type} {enc : TypeId × Value → H} {W : World} {fuel : Nat} {cs : List Value} {x : DataW H × List MemPlace} (h : DataW.trod enc Try.prog W 0 (fun _ => true) true fuel 47 cs = some x) :
    ∃ (a0 : Int) (a1 : Int) (a2 : Bool), cs = [.int .u8 a0, .int .u16 a1, .bool a2] ∧ ((Lit.int .u8 a0).wf = true) ∧ ((Lit.int .u16 a1).wf = true) ∧ True := by
  obtain ⟨xs, n, _, _, hl, hlen, hf⟩ := DataW.trod_struct Try.underlying47 h
  rw [show Try.prog.cellsOf 47 = 3 from by kernel_rfl] at hl
  match cs, hl with
  | [v0, v1, v2], _ =>
  match xs, hlen with
  | [y0, y1, y2], _ =>
  have h0 : DataW.trod enc Try.prog W 0 (fun _ => true) true n 5 [v0] = some y0 := by have h_ := hf 0 _ rfl; simpa [show Try.prog.cellsOf 5 = 1 from by kernel_rfl] using h_
  obtain ⟨a0_0, e0, f0_0, _⟩ := open_t5 h0
  simp only [List.cons.injEq, and_true] at e0
  subst e0
  have h1 : DataW.trod enc Try.prog W 0 (fun _ => true) true n 45 [v1] = some y1 := by have h_ := hf 1 _ rfl; simpa [show Try.prog.cellsOf 45 = 1 from by kernel_rfl] using h_
  obtain ⟨a1_0, e1, f1_0, _⟩ := open_t45 h1
  simp only [List.cons.injEq, and_true] at e1
  subst e1
  have h2 : DataW.trod enc Try.prog W 0 (fun _ => true) true n 4 [v2] = some y2 := by have h_ := hf 2 _ rfl; simpa [show Try.prog.cellsOf 4 = 1 from by kernel_rfl] using h_
  obtain ⟨a2_0, e2, _⟩ := open_t4 h2
  simp only [List.cons.injEq, and_true] at e2
  subst e2
  exact ⟨a0_0, a1_0, a2_0, rfl, f0_0, f1_0, trivial⟩
theorem open_t44 {H : Type} {enc : TypeId × Value → H} {W : World} {fuel : Nat} {cs : List Value} {x : DataW H × List MemPlace} (h : DataW.trod enc Try.prog W 0 (fun _ => true) true fuel 44 cs = some x) :
    ∃ (A0 : Option Addr) (c0 : Nat) (l0 : List (S47)), cs = [.slice A0 l0.length c0] ∧ (l0.length ≤ c0) ∧ (l0.length ≤ maxLen) ∧ (Kd.C k47 W A0 l0.length l0) ∧ (∀ y_ ∈ l0, ((Lit.int .u8 y_.f0).wf = true) ∧ ((Lit.int .u16 y_.f1).wf = true)) ∧ True := by
  have hel : ∀ (fuel : Nat) (cs : List Value) (x : DataW H × List MemPlace), DataW.trod enc Try.prog W 0 (fun _ => true) true fuel 47 cs = some x → ∃ a : S47, k47.K W a cs ∧ (fun y_ : S47 => ((Lit.int .u8 y_.f0).wf = true) ∧ ((Lit.int .u16 y_.f1).wf = true)) a := by
    intro fuel cs x h
    obtain ⟨a0, a1, a2, rfl, g0_0, g1_0, _⟩ := open_t47 h
    exact ⟨⟨a0, a1, a2⟩, k47_mk _ ⟨a0, a1, a2⟩, ⟨g0_0, g1_0⟩⟩
  obtain ⟨A, c, xs, e, h1, h2, h3, h4⟩ := SL.open_row (α := S47) k47 (fun y_ => ((Lit.int .u8 y_.f0).wf = true) ∧ ((Lit.int .u16 y_.f1).wf = true)) Try.underlying44 (by kernel_rfl) hel h
  exact ⟨A, c, xs, e, h1, h2, h3, h4, trivial⟩
set_option maxRecDepth 100000 in
theorem lifted (os : Os) (started : os.Started) (H : Type) (enc : TypeId × Value → H) :
    ReturnsInHanded {} Try.checked os 6 .any (Rows.breakerOneSpec.pre6 enc Try.prog Try.f6 Rows.breakerOneRow.domain false) (Rows.breakerOneSpec.post enc Try.prog Try.f6 false true false false) := by
  refine returnsInHanded_of_change_sized (C := Try.checked) own started (by kernel_rfl) Try.func6
    (ChangeSpec.witness6 (enc := enc) (C := Try.checked) false ⟨#[], #[.int .i64 0, .slice none 0 0], []⟩ 8 (by kernel_rfl) (by kernel_rfl) (by kernel_rfl) (by kernel_rfl)) ?_
  intro W base args ds gs before hval0 hW hcnd hsz0 _
  have hsz : (DataW.weightsEach Try.prog (Try.f6.params.toList ++ Rows.breakerOneSpec.plain.varTypes Try.prog) (ds ++ gs)).all (· ≤ reachBytes) = true := hsz0
  have hval : ∀ (j : Nat) t v, Try.f6.params[j]? = some t → args[j]? = some v → Value.okWide Try.prog W .any base t v := hval0
  have hW' := hW
  obtain ⟨p, q, hA0, hV, rfl, hfz, hnd⟩ := hW
  have hA : DataW.TrodAll enc Try.prog W 0 (fun _ => true) true Try.f6.params.toList args.toList ds p := hA0
  rw [Try.params6] at hA hval hsz
  obtain ⟨v0, vs0, d0, ds0, p0, q0, hargs, rfl, rfl, h0, r0⟩ := trodAll_cons hA
  obtain ⟨v1, vs1, d1, ds1, p1, q1, rfl, rfl, rfl, h1, r1⟩ := trodAll_cons r0
  obtain ⟨rfl, rfl, rfl⟩ := trodAll_nil r1
  obtain rfl : args = #[v0, v1] := by cases args; simp_all
  obtain ⟨rfl, rfl⟩ := trodVars_none hV
  obtain ⟨a0, rfl, rfl, rfl, w0⟩ := open_int Try.underlying3 (hval 0 3 v0 rfl rfl) h0
  obtain ⟨a1, len1, cap1, rfl⟩ := okWide_slice Try.underlying44 (hval 1 44 v1 rfl rfl)
  have k1 := h1
  have lt1 : ∀ x ∈ p1, x.block < W.heap.size := by obtain ⟨m, hm⟩ := k1; exact DataW.trod_lt m _ _ _ hm
  obtain ⟨l1, hn1, hc1, hm1, hr1, hg1⟩ : ∃ l : List (S47), len1 = l.length ∧ l.length ≤ cap1 ∧ l.length ≤ maxLen ∧ Kd.C k47 W a1 l.length l ∧ ∀ y_ ∈ l, ((Lit.int .u8 y_.f0).wf = true) ∧ ((Lit.int .u16 y_.f1).wf = true) := by
    obtain ⟨fuel, hf⟩ := h1
    obtain ⟨A, c, xs, hcs, g1, g2, g3, g4, _⟩ := open_t44 hf
    simp [Value.cells] at hcs
    obtain ⟨rfl, e_, rfl⟩ := hcs
    exact ⟨xs, e_, g1, g2, g3, g4⟩
  subst hn1
  clear hA0 hval0 hsz0 hsz
  obtain ⟨k, hP⟩ := Pure.BreakerOne a0 l1 w0 hm1 hg1
  refine (P.postilionlaw09_BreakerOne.calls k a0 _ _ l1 true W hr1 hc1 hP ⟨rfl⟩).mono fun e W' ⟨he, bel0⟩ => ?_
  have bel : Below W.heap.size W W' := bel0
  subst he
  exact ⟨_, rfl, _, _, _, [], _, [], hW', trodAll_mk1 (shut_bool Try.underlying4 _), (trodAll_cons_mk (shut_int Try.underlying3 w0) (trodAll_cons_mk (Below.trod laidOut (by kernel_rfl) (of_decide_eq_true (by kernel_rfl)) k1 bel lt1) trodAll_mk0)), rfl, bel.frame _, fun h => by cases h⟩
theorem over : Rows.breakerOneRow.holds Try.pinned (OpenSpec.ofChange Rows.breakerOneSpec) :=
  OpenClaim.holds_of_wide 6 Try.f6 rfl rfl rfl rfl rfl rfl rfl ⟨rfl, rfl, rfl, rfl, rfl⟩ rfl rfl rfl rfl rfl (by kernel_rfl) Try.func6 (by kernel_rfl)
    (of_decide_eq_true (by kernel_rfl)) (by unfold Func.isWrapper; first | (rw [if_pos (by decide +kernel)]; kernel_rfl) | (rw [if_neg (by decide +kernel)]; exact ⟨rfl, rfl⟩))
    (fun os started H enc _ => lifted os started H enc)
theorem proved : Rows.BreakerOneSaid := over
#print axioms proved
end Go.Proofs.Ytihjjafblfpbbaa.breakerOne
namespace Go.Proofs.Ytihjjafblfpbbaa
/-- The row, under a short name, for the claim. -/
theorem breakerOne_holds : Rows.BreakerOneSaid := breakerOne.proved
end Go.Proofs.Ytihjjafblfpbbaa
