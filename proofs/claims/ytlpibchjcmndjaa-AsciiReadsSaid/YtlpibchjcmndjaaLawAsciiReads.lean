-- Laid by sp.py, a program of this session's, out of the translation and the session's own stand-ins.
import Derived.Test.YtlpibchjcmndjaaRows
import Derived.Test.YtlpibchjcmndjaaStasciiReads
import Derived.Test.YtlpibchjcmndjaaPureAsciiReads
import Derived.Test.YtlpibchjcmndjaaSLopen
import Derived.WalkKit
import Derived.ProofKit
import Derived.OpenShut
import Derived.ShutString
import Derived.ChangeOld
import Derived.Below
import Derived.SizedLaws
import Derived.HandedShaped
import Derived.Test.YtlpibchjcmndjaaWSized
namespace Go.Proofs.Ytlpibchjcmndjaa.asciiReads
open Go.ChangeShapes Go.WideShapes Go.ChangeAt Go.RowKit Go.Proofs.Ytlpibchjcmndjaa.P Go.Proofs.YtlpibchjcmndjaaW.PrintWords
open Go.ChangeMaps (open_string shut_string)
set_option linter.unusedVariables false
set_option linter.unusedSimpArgs false
theorem own : ownKnob Try.prog.godebug = none := by kernel_rfl
theorem laidOut : laidOutB Try.prog = true := by kernel_rfl
instance : Inhabited S47 := ⟨z47⟩
theorem open_t5 {H : Type} {enc : TypeId × Value → H} {W : World} {fuel : Nat} {cs : List Value} {x : DataW H × List MemPlace} (h : DataW.trod enc Try.prog W 0 (fun _ => true) true fuel 5 cs = some x) :
    ∃ (a0 : Int), cs = [.int .u8 a0] ∧ ((Lit.int .u8 a0).wf = true) ∧ True := by
  obtain ⟨a, e, g⟩ := SL.open_int Try.underlying5 h
  exact ⟨a, e, g, trivial⟩
theorem open_t31 {H : Type} {enc : TypeId × Value → H} {W : World} {fuel : Nat} {cs : List Value} {x : DataW H × List MemPlace} (h : DataW.trod enc Try.prog W 0 (fun _ => true) true fuel 31 cs = some x) :
    ∃ (A0 : Option Addr) (c0 : Nat) (l0 : List Int), cs = [.slice A0 l0.length c0] ∧ (l0.length ≤ c0) ∧ (l0.length ≤ maxLen) ∧ (Kd.C (Kd.int .u8) W A0 l0.length l0) ∧ (∀ y_ ∈ l0, ((Lit.int .u8 y_).wf = true)) ∧ True := by
  have hel : ∀ (fuel : Nat) (cs : List Value) (x : DataW H × List MemPlace), DataW.trod enc Try.prog W 0 (fun _ => true) true fuel 5 cs = some x → ∃ a : Int, (Kd.int .u8).K W a cs ∧ (fun y_ : Int => ((Lit.int .u8 y_).wf = true)) a := by
    intro fuel cs x h
    obtain ⟨a0, rfl, g0_0, _⟩ := open_t5 h
    exact ⟨a0, rfl, g0_0⟩
  obtain ⟨A, c, xs, e, h1, h2, h3, h4⟩ := SL.open_row (α := Int) (Kd.int .u8) (fun y_ => ((Lit.int .u8 y_).wf = true)) Try.underlying31 (by kernel_rfl) hel h
  exact ⟨A, c, xs, e, h1, h2, h3, h4, trivial⟩
theorem open_t3 {H : Type} {enc : TypeId × Value → H} {W : World} {fuel : Nat} {cs : List Value} {x : DataW H × List MemPlace} (h : DataW.trod enc Try.prog W 0 (fun _ => true) true fuel 3 cs = some x) :
    ∃ (a0 : Int), cs = [.int .i64 a0] ∧ ((Lit.int .i64 a0).wf = true) ∧ True := by
  obtain ⟨a, e, g⟩ := SL.open_int Try.underlying3 h
  exact ⟨a, e, g, trivial⟩
theorem open_t47 {H : Type} {enc : TypeId × Value → H} {W : World} {fuel : Nat} {cs : List Value} {x : DataW H × List MemPlace} (h : DataW.trod enc Try.prog W 0 (fun _ => true) true fuel 47 cs = some x) :
    ∃ (a0 : Int) (a1 : Int), cs = [.int .u8 a0, .int .i64 a1] ∧ ((Lit.int .u8 a0).wf = true) ∧ ((Lit.int .i64 a1).wf = true) ∧ True := by
  obtain ⟨xs, n, _, _, hl, hlen, hf⟩ := DataW.trod_struct Try.underlying47 h
  rw [show Try.prog.cellsOf 47 = 2 from by kernel_rfl] at hl
  match cs, hl with
  | [v0, v1], _ =>
  match xs, hlen with
  | [y0, y1], _ =>
  have h0 : DataW.trod enc Try.prog W 0 (fun _ => true) true n 5 [v0] = some y0 := by have h_ := hf 0 _ rfl; simpa [show Try.prog.cellsOf 5 = 1 from by kernel_rfl] using h_
  obtain ⟨a0_0, e0, f0_0, _⟩ := open_t5 h0
  simp only [List.cons.injEq, and_true] at e0
  subst e0
  have h1 : DataW.trod enc Try.prog W 0 (fun _ => true) true n 3 [v1] = some y1 := by have h_ := hf 1 _ rfl; simpa [show Try.prog.cellsOf 3 = 1 from by kernel_rfl] using h_
  obtain ⟨a1_0, e1, f1_0, _⟩ := open_t3 h1
  simp only [List.cons.injEq, and_true] at e1
  subst e1
  exact ⟨a0_0, a1_0, rfl, f0_0, f1_0, trivial⟩
theorem open_t38 {H : Type} {enc : TypeId × Value → H} {W : World} {fuel : Nat} {cs : List Value} {x : DataW H × List MemPlace} (h : DataW.trod enc Try.prog W 0 (fun _ => true) true fuel 38 cs = some x) :
    ∃ (A0 : Option Addr) (c0 : Nat) (l0 : List (S47)), cs = [.slice A0 l0.length c0] ∧ (l0.length ≤ c0) ∧ (l0.length ≤ maxLen) ∧ (Kd.C k47 W A0 l0.length l0) ∧ (∀ y_ ∈ l0, ((Lit.int .u8 y_.f0).wf = true) ∧ ((Lit.int .i64 y_.f1).wf = true)) ∧ True := by
  have hel : ∀ (fuel : Nat) (cs : List Value) (x : DataW H × List MemPlace), DataW.trod enc Try.prog W 0 (fun _ => true) true fuel 47 cs = some x → ∃ a : S47, k47.K W a cs ∧ (fun y_ : S47 => ((Lit.int .u8 y_.f0).wf = true) ∧ ((Lit.int .i64 y_.f1).wf = true)) a := by
    intro fuel cs x h
    obtain ⟨a0, a1, rfl, g0_0, g1_0, _⟩ := open_t47 h
    exact ⟨⟨a0, a1⟩, k47_mk _ ⟨a0, a1⟩, ⟨g0_0, g1_0⟩⟩
  obtain ⟨A, c, xs, e, h1, h2, h3, h4⟩ := SL.open_row (α := S47) k47 (fun y_ => ((Lit.int .u8 y_.f0).wf = true) ∧ ((Lit.int .i64 y_.f1).wf = true)) Try.underlying38 (by kernel_rfl) hel h
  exact ⟨A, c, xs, e, h1, h2, h3, h4, trivial⟩
set_option maxRecDepth 100000 in
theorem lifted (os : Os) (started : os.Started) (H : Type) (enc : TypeId × Value → H) :
    ReturnsInHanded {} Try.checked os 5 .any (Rows.asciiReadsSpec.pre6 enc Try.prog Try.f5 Rows.asciiReadsRow.domain false) (Rows.asciiReadsSpec.post enc Try.prog Try.f5 false true false false) := by
  refine returnsInHanded_of_change_shaped (C := Try.checked) own started (by kernel_rfl) Try.func5
    (ChangeSpec.witness6 (enc := enc) (C := Try.checked) false ⟨#[], #[.slice none 0 0, .slice none 0 0], []⟩ 8 (by kernel_rfl) (by kernel_rfl) (by kernel_rfl) (by kernel_rfl)) ?_
  intro W base args ds gs before hval0 hW hcnd hsz0 hsh _
  have hsz : (DataW.weightsEach Try.prog (Try.f5.params.toList ++ Rows.asciiReadsSpec.plain.varTypes Try.prog) (ds ++ gs)).all (· ≤ reachBytes) = true := hsz0
  have hval : ∀ (j : Nat) t v, Try.f5.params[j]? = some t → args[j]? = some v → Value.okWide Try.prog W .any base t v := hval0
  have hW' := hW
  obtain ⟨p, q, hA0, hV, rfl, hfz, hnd⟩ := hW
  have hA : DataW.TrodAll enc Try.prog W 0 (fun _ => true) true Try.f5.params.toList args.toList ds p := hA0
  rw [Try.params5] at hA hval hsz
  obtain ⟨v0, vs0, d0, ds0, p0, q0, hargs, rfl, rfl, h0, r0⟩ := trodAll_cons hA
  obtain ⟨v1, vs1, d1, ds1, p1, q1, rfl, rfl, rfl, h1, r1⟩ := trodAll_cons r0
  obtain ⟨rfl, rfl, rfl⟩ := trodAll_nil r1
  obtain rfl : args = #[v0, v1] := by cases args; simp_all
  obtain ⟨rfl, rfl⟩ := trodVars_none hV
  obtain ⟨a0, len0, cap0, rfl⟩ := okWide_slice Try.underlying31 (hval 0 31 v0 rfl rfl)
  have k0 := h0
  have lt0 : ∀ x ∈ p0, x.block < W.heap.size := by obtain ⟨m, hm⟩ := k0; exact DataW.trod_lt m _ _ _ hm
  have y0 : len0 * 1 ≤ 140737488351232 := sized_ints hsz (j := 0) (t := 31) rfl rfl Try.underlying31 Try.underlying5 (by kernel_rfl) (by kernel_rfl) h0
  obtain ⟨l0, hn0, hc0, hm0, hr0, hg0⟩ : ∃ l : List Int, len0 = l.length ∧ l.length ≤ cap0 ∧ l.length ≤ maxLen ∧ Kd.C (Kd.int .u8) W a0 l.length l ∧ ∀ y_ ∈ l, ((Lit.int .u8 y_).wf = true) := by
    obtain ⟨fuel, hf⟩ := h0
    obtain ⟨A, c, xs, hcs, g1, g2, g3, g4, _⟩ := open_t31 hf
    simp [Value.cells] at hcs
    obtain ⟨rfl, e_, rfl⟩ := hcs
    exact ⟨xs, e_, g1, g2, g3, g4⟩
  subst hn0
  obtain ⟨a1, len1, cap1, rfl⟩ := okWide_slice Try.underlying38 (hval 1 38 v1 rfl rfl)
  have k1 := h1
  have lt1 : ∀ x ∈ p1, x.block < W.heap.size := by obtain ⟨m, hm⟩ := k1; exact DataW.trod_lt m _ _ _ hm
  obtain ⟨l1, hn1, hc1, hm1, hr1, hg1⟩ : ∃ l : List (S47), len1 = l.length ∧ l.length ≤ cap1 ∧ l.length ≤ maxLen ∧ Kd.C k47 W a1 l.length l ∧ ∀ y_ ∈ l, ((Lit.int .u8 y_.f0).wf = true) ∧ ((Lit.int .i64 y_.f1).wf = true) := by
    obtain ⟨fuel, hf⟩ := h1
    obtain ⟨A, c, xs, hcs, g1, g2, g3, g4, _⟩ := open_t38 hf
    simp [Value.cells] at hcs
    obtain ⟨rfl, e_, rfl⟩ := hcs
    exact ⟨xs, e_, g1, g2, g3, g4⟩
  subst hn1
  clear hA0 hval0 hsz0 hsz
  have hP := Pure.AsciiReads l0 l1 hm0 y0 hg0 hm1 hg1
  refine (P.postilionlaw02_AsciiReads.calls _ _ l0 _ _ l1 true W hr0 hc0 hr1 hc1 hP ⟨rfl⟩ (Try.laysM185.s1_3 W hsh)).mono fun e W' ⟨he, bel0⟩ => ?_
  have bel : Below W.heap.size W W' := bel0
  subst he
  exact ⟨_, rfl, _, _, _, [], _, [], hW', trodAll_mk1 (shut_bool Try.underlying4 _), (trodAll_cons_mk (Below.trod laidOut (by kernel_rfl) (of_decide_eq_true (by kernel_rfl)) k0 bel lt0) (trodAll_cons_mk (Below.trod laidOut (by kernel_rfl) (of_decide_eq_true (by kernel_rfl)) k1 bel lt1) trodAll_mk0)), rfl, bel.frame _, fun h => by cases h⟩
theorem over : Rows.asciiReadsRow.holds Try.pinned (OpenSpec.ofChange Rows.asciiReadsSpec) :=
  OpenClaim.holds_of_wide 5 Try.f5 rfl rfl rfl rfl rfl rfl rfl ⟨rfl, rfl, rfl, rfl, rfl⟩ rfl rfl rfl rfl rfl (by kernel_rfl) Try.func5 (by kernel_rfl)
    (of_decide_eq_true (by kernel_rfl)) (by unfold Func.isWrapper; first | (rw [if_pos (by decide +kernel)]; kernel_rfl) | (rw [if_neg (by decide +kernel)]; exact ⟨rfl, rfl⟩))
    (fun os started H enc _ => lifted os started H enc)
theorem proved : Rows.AsciiReadsSaid := over
#print axioms proved
end Go.Proofs.Ytlpibchjcmndjaa.asciiReads
namespace Go.Proofs.Ytlpibchjcmndjaa
/-- The row, under a short name, for the claim. -/
theorem asciiReads_holds : Rows.AsciiReadsSaid := asciiReads.proved
end Go.Proofs.Ytlpibchjcmndjaa
