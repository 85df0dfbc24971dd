-- Laid by sp.py, a program of this session's, out of the translation and the session's own stand-ins.
import Derived.Test.YtghfhgjgdkkkpaaRows
import Derived.Test.YtghfhgjgdkkkpaaSthealthNil
import Derived.Test.YtghfhgjgdkkkpaaPureHealthNil
import Derived.Test.YtghfhgjgdkkkpaaSLopen
import Derived.WalkKit
import Derived.ProofKit
import Derived.OpenShut
import Derived.ShutString
import Derived.ChangeOld
import Derived.Below
import Derived.SizedLaws
import Derived.Test.YtghfhgjgdkkkpaaWSized
namespace Go.Proofs.Ytghfhgjgdkkkpaa.healthNil
open Go.ChangeShapes Go.WideShapes Go.ChangeAt Go.RowKit Go.Proofs.Ytghfhgjgdkkkpaa.P Go.Proofs.YtghfhgjgdkkkpaaW.PrintWords
open Go.ChangeMaps (open_string shut_string)
set_option linter.unusedVariables false
set_option linter.unusedSimpArgs false
theorem own : ownKnob Try.prog.godebug = none := by kernel_rfl
theorem laidOut : laidOutB Try.prog = true := by kernel_rfl
instance : Inhabited S171 := ⟨z171⟩
instance : Inhabited S173 := ⟨z173⟩
instance : Inhabited S175 := ⟨z175⟩
instance : Inhabited S177 := ⟨z177⟩
instance : Inhabited S62 := ⟨z62⟩
instance : Inhabited S64 := ⟨z64⟩
instance : Inhabited S66 := ⟨z66⟩
set_option maxRecDepth 100000 in
theorem open_t9 {H : Type} {enc : TypeId × Value → H} {W : World} {fuel : Nat} {cs : List Value} {x : DataW H × List MemPlace} (h : DataW.trod enc Try.prog W 0 (fun _ => true) true fuel 9 cs = some x) :
    ∃ (a0 : ByteArray), cs = [.string a0] ∧ (a0.size ≤ 9223372036854775807) ∧ True := by
  obtain ⟨a, e, g⟩ := SL.open_str Try.underlying9 h
  exact ⟨a, e, g, trivial⟩
set_option maxRecDepth 100000 in
theorem open_t3 {H : Type} {enc : TypeId × Value → H} {W : World} {fuel : Nat} {cs : List Value} {x : DataW H × List MemPlace} (h : DataW.trod enc Try.prog W 0 (fun _ => true) true fuel 3 cs = some x) :
    ∃ (a0 : Int), cs = [.int .i64 a0] ∧ ((Lit.int .i64 a0).wf = true) ∧ True := by
  obtain ⟨a, e, g⟩ := SL.open_int Try.underlying3 h
  exact ⟨a, e, g, trivial⟩
set_option maxRecDepth 100000 in
theorem open_t23 {H : Type} {enc : TypeId × Value → H} {W : World} {fuel : Nat} {cs : List Value} {x : DataW H × List MemPlace} (h : DataW.trod enc Try.prog W 0 (fun _ => true) true fuel 23 cs = some x) :
    ∃ (a0 : Int) (a1 : Int) (a2 : Int) (a3 : Int) (a4 : Int) (a5 : Int) (a6 : Int) (a7 : Int) (a8 : Int) (a9 : Int) (a10 : Int), cs = [.int .i64 a0, .int .i64 a1, .int .i64 a2, .int .i64 a3, .int .i64 a4, .int .i64 a5, .int .i64 a6, .int .i64 a7, .int .i64 a8, .int .i64 a9, .int .i64 a10] ∧ ((Lit.int .i64 a0).wf = true) ∧ ((Lit.int .i64 a1).wf = true) ∧ ((Lit.int .i64 a2).wf = true) ∧ ((Lit.int .i64 a3).wf = true) ∧ ((Lit.int .i64 a4).wf = true) ∧ ((Lit.int .i64 a5).wf = true) ∧ ((Lit.int .i64 a6).wf = true) ∧ ((Lit.int .i64 a7).wf = true) ∧ ((Lit.int .i64 a8).wf = true) ∧ ((Lit.int .i64 a9).wf = true) ∧ ((Lit.int .i64 a10).wf = true) ∧ True := by
  obtain ⟨xs, n, _, _, hl, hlen, hf⟩ := DataW.trod_struct Try.underlying23 h
  rw [show Try.prog.cellsOf 23 = 11 from by kernel_rfl] at hl
  match cs, hl with
  | [v0, v1, v2, v3, v4, v5, v6, v7, v8, v9, v10], _ =>
  match xs, hlen with
  | [y0, y1, y2, y3, y4, y5, y6, y7, y8, y9, y10], _ =>
  have h0 : DataW.trod enc Try.prog W 0 (fun _ => true) true n 3 [v0] = some y0 := by have h_ := hf 0 _ rfl; simpa [show Try.prog.cellsOf 3 = 1 from by kernel_rfl] using h_
  obtain ⟨a0_0, e0, f0_0, _⟩ := open_t3 h0
  simp only [List.cons.injEq, and_true] at e0
  subst e0
  have h1 : DataW.trod enc Try.prog W 0 (fun _ => true) true n 3 [v1] = some y1 := by have h_ := hf 1 _ rfl; simpa [show Try.prog.cellsOf 3 = 1 from by kernel_rfl] using h_
  obtain ⟨a1_0, e1, f1_0, _⟩ := open_t3 h1
  simp only [List.cons.injEq, and_true] at e1
  subst e1
  have h2 : DataW.trod enc Try.prog W 0 (fun _ => true) true n 3 [v2] = some y2 := by have h_ := hf 2 _ rfl; simpa [show Try.prog.cellsOf 3 = 1 from by kernel_rfl] using h_
  obtain ⟨a2_0, e2, f2_0, _⟩ := open_t3 h2
  simp only [List.cons.injEq, and_true] at e2
  subst e2
  have h3 : DataW.trod enc Try.prog W 0 (fun _ => true) true n 3 [v3] = some y3 := by have h_ := hf 3 _ rfl; simpa [show Try.prog.cellsOf 3 = 1 from by kernel_rfl] using h_
  obtain ⟨a3_0, e3, f3_0, _⟩ := open_t3 h3
  simp only [List.cons.injEq, and_true] at e3
  subst e3
  have h4 : DataW.trod enc Try.prog W 0 (fun _ => true) true n 3 [v4] = some y4 := by have h_ := hf 4 _ rfl; simpa [show Try.prog.cellsOf 3 = 1 from by kernel_rfl] using h_
  obtain ⟨a4_0, e4, f4_0, _⟩ := open_t3 h4
  simp only [List.cons.injEq, and_true] at e4
  subst e4
  have h5 : DataW.trod enc Try.prog W 0 (fun _ => true) true n 3 [v5] = some y5 := by have h_ := hf 5 _ rfl; simpa [show Try.prog.cellsOf 3 = 1 from by kernel_rfl] using h_
  obtain ⟨a5_0, e5, f5_0, _⟩ := open_t3 h5
  simp only [List.cons.injEq, and_true] at e5
  subst e5
  have h6 : DataW.trod enc Try.prog W 0 (fun _ => true) true n 3 [v6] = some y6 := by have h_ := hf 6 _ rfl; simpa [show Try.prog.cellsOf 3 = 1 from by kernel_rfl] using h_
  obtain ⟨a6_0, e6, f6_0, _⟩ := open_t3 h6
  simp only [List.cons.injEq, and_true] at e6
  subst e6
  have h7 : DataW.trod enc Try.prog W 0 (fun _ => true) true n 3 [v7] = some y7 := by have h_ := hf 7 _ rfl; simpa [show Try.prog.cellsOf 3 = 1 from by kernel_rfl] using h_
  obtain ⟨a7_0, e7, f7_0, _⟩ := open_t3 h7
  simp only [List.cons.injEq, and_true] at e7
  subst e7
  have h8 : DataW.trod enc Try.prog W 0 (fun _ => true) true n 3 [v8] = some y8 := by have h_ := hf 8 _ rfl; simpa [show Try.prog.cellsOf 3 = 1 from by kernel_rfl] using h_
  obtain ⟨a8_0, e8, f8_0, _⟩ := open_t3 h8
  simp only [List.cons.injEq, and_true] at e8
  subst e8
  have h9 : DataW.trod enc Try.prog W 0 (fun _ => true) true n 3 [v9] = some y9 := by have h_ := hf 9 _ rfl; simpa [show Try.prog.cellsOf 3 = 1 from by kernel_rfl] using h_
  obtain ⟨a9_0, e9, f9_0, _⟩ := open_t3 h9
  simp only [List.cons.injEq, and_true] at e9
  subst e9
  have h10 : DataW.trod enc Try.prog W 0 (fun _ => true) true n 3 [v10] = some y10 := by have h_ := hf 10 _ rfl; simpa [show Try.prog.cellsOf 3 = 1 from by kernel_rfl] using h_
  obtain ⟨a10_0, e10, f10_0, _⟩ := open_t3 h10
  simp only [List.cons.injEq, and_true] at e10
  subst e10
  exact ⟨a0_0, a1_0, a2_0, a3_0, a4_0, a5_0, a6_0, a7_0, a8_0, a9_0, a10_0, rfl, f0_0, f1_0, f2_0, f3_0, f4_0, f5_0, f6_0, f7_0, f8_0, f9_0, f10_0, trivial⟩
set_option maxRecDepth 100000 in
theorem open_t171 {H : Type} {enc : TypeId × Value → H} {W : World} {fuel : Nat} {cs : List Value} {x : DataW H × List MemPlace} (h : DataW.trod enc Try.prog W 0 (fun _ => true) true fuel 171 cs = some x) :
    ∃ (a0 : ByteArray) (a1 : ByteArray) (a2 : Int), cs = [.string a0, .string a1, .int .i64 a2] ∧ (a0.size ≤ 9223372036854775807) ∧ (a1.size ≤ 9223372036854775807) ∧ ((Lit.int .i64 a2).wf = true) ∧ True := by
  obtain ⟨xs, n, _, _, hl, hlen, hf⟩ := DataW.trod_struct Try.underlying171 h
  rw [show Try.prog.cellsOf 171 = 3 from by kernel_rfl] at hl
  match cs, hl with
  | [v0, v1, v2], _ =>
  match xs, hlen with
  | [y0, y1, y2], _ =>
  have h0 : DataW.trod enc Try.prog W 0 (fun _ => true) true n 9 [v0] = some y0 := by have h_ := hf 0 _ rfl; simpa [show Try.prog.cellsOf 9 = 1 from by kernel_rfl] using h_
  obtain ⟨a0_0, e0, f0_0, _⟩ := open_t9 h0
  simp only [List.cons.injEq, and_true] at e0
  subst e0
  have h1 : DataW.trod enc Try.prog W 0 (fun _ => true) true n 9 [v1] = some y1 := by have h_ := hf 1 _ rfl; simpa [show Try.prog.cellsOf 9 = 1 from by kernel_rfl] using h_
  obtain ⟨a1_0, e1, f1_0, _⟩ := open_t9 h1
  simp only [List.cons.injEq, and_true] at e1
  subst e1
  have h2 : DataW.trod enc Try.prog W 0 (fun _ => true) true n 3 [v2] = some y2 := by have h_ := hf 2 _ rfl; simpa [show Try.prog.cellsOf 3 = 1 from by kernel_rfl] using h_
  obtain ⟨a2_0, e2, f2_0, _⟩ := open_t3 h2
  simp only [List.cons.injEq, and_true] at e2
  subst e2
  exact ⟨a0_0, a1_0, a2_0, rfl, f0_0, f1_0, f2_0, trivial⟩
set_option maxRecDepth 100000 in
theorem open_t24 {H : Type} {enc : TypeId × Value → H} {W : World} {fuel : Nat} {cs : List Value} {x : DataW H × List MemPlace} (h : DataW.trod enc Try.prog W 0 (fun _ => true) true fuel 24 cs = some x) :
    ∃ (A0 : Option Addr) (c0 : Nat) (l0 : List (S171)), cs = [.slice A0 l0.length c0] ∧ (l0.length ≤ c0) ∧ (l0.length ≤ maxLen) ∧ (Kd.C k171 W A0 l0.length l0) ∧ (∀ y_ ∈ l0, (y_.f0.size ≤ 9223372036854775807) ∧ (y_.f1.size ≤ 9223372036854775807) ∧ ((Lit.int .i64 y_.f2).wf = true)) ∧ True := by
  have hel : ∀ (fuel : Nat) (cs : List Value) (x : DataW H × List MemPlace), DataW.trod enc Try.prog W 0 (fun _ => true) true fuel 171 cs = some x → ∃ a : S171, k171.K W a cs ∧ (fun y_ : S171 => (y_.f0.size ≤ 9223372036854775807) ∧ (y_.f1.size ≤ 9223372036854775807) ∧ ((Lit.int .i64 y_.f2).wf = true)) a := by
    intro fuel cs x h
    obtain ⟨a0, a1, a2, rfl, g0_0, g1_0, g2_0, _⟩ := open_t171 h
    exact ⟨(⟨a0, a1, a2⟩ : S171), k171_mk _ (⟨a0, a1, a2⟩ : S171), ⟨g0_0, g1_0, g2_0⟩⟩
  obtain ⟨A, c, xs, e, h1, h2, h3, h4⟩ := SL.open_row (α := S171) k171 (fun y_ => (y_.f0.size ≤ 9223372036854775807) ∧ (y_.f1.size ≤ 9223372036854775807) ∧ ((Lit.int .i64 y_.f2).wf = true)) Try.underlying24 (by kernel_rfl) hel h
  exact ⟨A, c, xs, e, h1, h2, h3, h4, trivial⟩
set_option maxRecDepth 100000 in
theorem open_t5 {H : Type} {enc : TypeId × Value → H} {W : World} {fuel : Nat} {cs : List Value} {x : DataW H × List MemPlace} (h : DataW.trod enc Try.prog W 0 (fun _ => true) true fuel 5 cs = some x) :
    ∃ (a0 : Int), cs = [.int .u8 a0] ∧ ((Lit.int .u8 a0).wf = true) ∧ True := by
  obtain ⟨a, e, g⟩ := SL.open_int Try.underlying5 h
  exact ⟨a, e, g, trivial⟩
set_option maxRecDepth 100000 in
theorem open_t62 {H : Type} {enc : TypeId × Value → H} {W : World} {fuel : Nat} {cs : List Value} {x : DataW H × List MemPlace} (h : DataW.trod enc Try.prog W 0 (fun _ => true) true fuel 62 cs = some x) :
    ∃ (a0 : Int) (a1 : ByteArray), cs = [.int .u8 a0, .string a1] ∧ ((Lit.int .u8 a0).wf = true) ∧ (a1.size ≤ 9223372036854775807) ∧ True := by
  obtain ⟨xs, n, _, _, hl, hlen, hf⟩ := DataW.trod_struct Try.underlying62 h
  rw [show Try.prog.cellsOf 62 = 2 from by kernel_rfl] at hl
  match cs, hl with
  | [v0, v1], _ =>
  match xs, hlen with
  | [y0, y1], _ =>
  have h0 : DataW.trod enc Try.prog W 0 (fun _ => true) true n 5 [v0] = some y0 := by have h_ := hf 0 _ rfl; simpa [show Try.prog.cellsOf 5 = 1 from by kernel_rfl] using h_
  obtain ⟨a0_0, e0, f0_0, _⟩ := open_t5 h0
  simp only [List.cons.injEq, and_true] at e0
  subst e0
  have h1 : DataW.trod enc Try.prog W 0 (fun _ => true) true n 9 [v1] = some y1 := by have h_ := hf 1 _ rfl; simpa [show Try.prog.cellsOf 9 = 1 from by kernel_rfl] using h_
  obtain ⟨a1_0, e1, f1_0, _⟩ := open_t9 h1
  simp only [List.cons.injEq, and_true] at e1
  subst e1
  exact ⟨a0_0, a1_0, rfl, f0_0, f1_0, trivial⟩
set_option maxRecDepth 100000 in
theorem open_t64 {H : Type} {enc : TypeId × Value → H} {W : World} {fuel : Nat} {cs : List Value} {x : DataW H × List MemPlace} (h : DataW.trod enc Try.prog W 0 (fun _ => true) true fuel 64 cs = some x) :
    ∃ (a0 : Int) (a1 : ByteArray) (a2 : Int), cs = [.int .u8 a0, .string a1, .int .i64 a2] ∧ ((Lit.int .u8 a0).wf = true) ∧ (a1.size ≤ 9223372036854775807) ∧ ((Lit.int .i64 a2).wf = true) ∧ True := by
  obtain ⟨xs, n, _, _, hl, hlen, hf⟩ := DataW.trod_struct Try.underlying64 h
  rw [show Try.prog.cellsOf 64 = 3 from by kernel_rfl] at hl
  match cs, hl with
  | [v0, v1, v2], _ =>
  match xs, hlen with
  | [y0, y1], _ =>
  have h0 : DataW.trod enc Try.prog W 0 (fun _ => true) true n 62 [v0, v1] = some y0 := by have h_ := hf 0 _ rfl; simpa [show Try.prog.cellsOf 62 = 2 from by kernel_rfl] using h_
  obtain ⟨a0_0, a0_1, e0, f0_0, f0_1, _⟩ := open_t62 h0
  simp only [List.cons.injEq, and_true] at e0
  obtain ⟨rfl, rfl⟩ := e0
  have h1 : DataW.trod enc Try.prog W 0 (fun _ => true) true n 3 [v2] = some y1 := by have h_ := hf 1 _ rfl; simpa [show Try.prog.cellsOf 3 = 1 from by kernel_rfl] using h_
  obtain ⟨a1_0, e1, f1_0, _⟩ := open_t3 h1
  simp only [List.cons.injEq, and_true] at e1
  subst e1
  exact ⟨a0_0, a0_1, a1_0, rfl, f0_0, f0_1, f1_0, trivial⟩
set_option maxRecDepth 100000 in
theorem open_t66 {H : Type} {enc : TypeId × Value → H} {W : World} {fuel : Nat} {cs : List Value} {x : DataW H × List MemPlace} (h : DataW.trod enc Try.prog W 0 (fun _ => true) true fuel 66 cs = some x) :
    ∃ (a0 : ByteArray) (a1 : Int) (a2 : ByteArray) (a3 : Int) (a4 : Int) (a5 : ByteArray) (a6 : ByteArray) (a7 : Int), cs = [.string a0, .int .u8 a1, .string a2, .int .i64 a3, .int .u8 a4, .string a5, .string a6, .int .i64 a7] ∧ (a0.size ≤ 9223372036854775807) ∧ ((Lit.int .u8 a1).wf = true) ∧ (a2.size ≤ 9223372036854775807) ∧ ((Lit.int .i64 a3).wf = true) ∧ ((Lit.int .u8 a4).wf = true) ∧ (a5.size ≤ 9223372036854775807) ∧ (a6.size ≤ 9223372036854775807) ∧ ((Lit.int .i64 a7).wf = true) ∧ True := by
  obtain ⟨xs, n, _, _, hl, hlen, hf⟩ := DataW.trod_struct Try.underlying66 h
  rw [show Try.prog.cellsOf 66 = 8 from by kernel_rfl] at hl
  match cs, hl with
  | [v0, v1, v2, v3, v4, v5, v6, v7], _ =>
  match xs, hlen with
  | [y0, y1, y2, y3, y4, y5], _ =>
  have h0 : DataW.trod enc Try.prog W 0 (fun _ => true) true n 9 [v0] = some y0 := by have h_ := hf 0 _ rfl; simpa [show Try.prog.cellsOf 9 = 1 from by kernel_rfl] using h_
  obtain ⟨a0_0, e0, f0_0, _⟩ := open_t9 h0
  simp only [List.cons.injEq, and_true] at e0
  subst e0
  have h1 : DataW.trod enc Try.prog W 0 (fun _ => true) true n 64 [v1, v2, v3] = some y1 := by have h_ := hf 1 _ rfl; simpa [show Try.prog.cellsOf 64 = 3 from by kernel_rfl] using h_
  obtain ⟨a1_0, a1_1, a1_2, e1, f1_0, f1_1, f1_2, _⟩ := open_t64 h1
  simp only [List.cons.injEq, and_true] at e1
  obtain ⟨rfl, rfl, rfl⟩ := e1
  have h2 : DataW.trod enc Try.prog W 0 (fun _ => true) true n 5 [v4] = some y2 := by have h_ := hf 2 _ rfl; simpa [show Try.prog.cellsOf 5 = 1 from by kernel_rfl] using h_
  obtain ⟨a2_0, e2, f2_0, _⟩ := open_t5 h2
  simp only [List.cons.injEq, and_true] at e2
  subst e2
  have h3 : DataW.trod enc Try.prog W 0 (fun _ => true) true n 9 [v5] = some y3 := by have h_ := hf 3 _ rfl; simpa [show Try.prog.cellsOf 9 = 1 from by kernel_rfl] using h_
  obtain ⟨a3_0, e3, f3_0, _⟩ := open_t9 h3
  simp only [List.cons.injEq, and_true] at e3
  subst e3
  have h4 : DataW.trod enc Try.prog W 0 (fun _ => true) true n 9 [v6] = some y4 := by have h_ := hf 4 _ rfl; simpa [show Try.prog.cellsOf 9 = 1 from by kernel_rfl] using h_
  obtain ⟨a4_0, e4, f4_0, _⟩ := open_t9 h4
  simp only [List.cons.injEq, and_true] at e4
  subst e4
  have h5 : DataW.trod enc Try.prog W 0 (fun _ => true) true n 3 [v7] = some y5 := by have h_ := hf 5 _ rfl; simpa [show Try.prog.cellsOf 3 = 1 from by kernel_rfl] using h_
  obtain ⟨a5_0, e5, f5_0, _⟩ := open_t3 h5
  simp only [List.cons.injEq, and_true] at e5
  subst e5
  exact ⟨a0_0, a1_0, a1_1, a1_2, a2_0, a3_0, a4_0, a5_0, rfl, f0_0, f1_0, f1_1, f1_2, f2_0, f3_0, f4_0, f5_0, trivial⟩
set_option maxRecDepth 100000 in
theorem open_t25 {H : Type} {enc : TypeId × Value → H} {W : World} {fuel : Nat} {cs : List Value} {x : DataW H × List MemPlace} (h : DataW.trod enc Try.prog W 0 (fun _ => true) true fuel 25 cs = some x) :
    ∃ (A0 : Option Addr) (c0 : Nat) (l0 : List (S66)), cs = [.slice A0 l0.length c0] ∧ (l0.length ≤ c0) ∧ (l0.length ≤ maxLen) ∧ (Kd.C k66 W A0 l0.length l0) ∧ (∀ y_ ∈ l0, (y_.f0.size ≤ 9223372036854775807) ∧ ((Lit.int .u8 y_.f1.f0.f0).wf = true) ∧ (y_.f1.f0.f1.size ≤ 9223372036854775807) ∧ ((Lit.int .i64 y_.f1.f1).wf = true) ∧ ((Lit.int .u8 y_.f2).wf = true) ∧ (y_.f3.size ≤ 9223372036854775807) ∧ (y_.f4.size ≤ 9223372036854775807) ∧ ((Lit.int .i64 y_.f5).wf = true)) ∧ True := by
  have hel : ∀ (fuel : Nat) (cs : List Value) (x : DataW H × List MemPlace), DataW.trod enc Try.prog W 0 (fun _ => true) true fuel 66 cs = some x → ∃ a : S66, k66.K W a cs ∧ (fun y_ : S66 => (y_.f0.size ≤ 9223372036854775807) ∧ ((Lit.int .u8 y_.f1.f0.f0).wf = true) ∧ (y_.f1.f0.f1.size ≤ 9223372036854775807) ∧ ((Lit.int .i64 y_.f1.f1).wf = true) ∧ ((Lit.int .u8 y_.f2).wf = true) ∧ (y_.f3.size ≤ 9223372036854775807) ∧ (y_.f4.size ≤ 9223372036854775807) ∧ ((Lit.int .i64 y_.f5).wf = true)) a := by
    intro fuel cs x h
    obtain ⟨a0, a1, a2, a3, a4, a5, a6, a7, rfl, g0_0, g1_0, g2_0, g3_0, g4_0, g5_0, g6_0, g7_0, _⟩ := open_t66 h
    exact ⟨(⟨a0, (⟨(⟨a1, a2⟩ : S62), a3⟩ : S64), a4, a5, a6, a7⟩ : S66), k66_mk _ (⟨a0, (⟨(⟨a1, a2⟩ : S62), a3⟩ : S64), a4, a5, a6, a7⟩ : S66), ⟨g0_0, g1_0, g2_0, g3_0, g4_0, g5_0, g6_0, g7_0⟩⟩
  obtain ⟨A, c, xs, e, h1, h2, h3, h4⟩ := SL.open_row (α := S66) k66 (fun y_ => (y_.f0.size ≤ 9223372036854775807) ∧ ((Lit.int .u8 y_.f1.f0.f0).wf = true) ∧ (y_.f1.f0.f1.size ≤ 9223372036854775807) ∧ ((Lit.int .i64 y_.f1.f1).wf = true) ∧ ((Lit.int .u8 y_.f2).wf = true) ∧ (y_.f3.size ≤ 9223372036854775807) ∧ (y_.f4.size ≤ 9223372036854775807) ∧ ((Lit.int .i64 y_.f5).wf = true)) Try.underlying25 (by kernel_rfl) hel h
  exact ⟨A, c, xs, e, h1, h2, h3, h4, trivial⟩
set_option maxRecDepth 100000 in
theorem open_t47 {H : Type} {enc : TypeId × Value → H} {W : World} {fuel : Nat} {cs : List Value} {x : DataW H × List MemPlace} (h : DataW.trod enc Try.prog W 0 (fun _ => true) true fuel 47 cs = some x) :
    ∃ (A0 : Option Addr) (c0 : Nat) (l0 : List Int), cs = [.slice A0 l0.length c0] ∧ (l0.length ≤ c0) ∧ (l0.length ≤ maxLen) ∧ (Kd.C (Kd.int .i64) W A0 l0.length l0) ∧ (∀ y_ ∈ l0, ((Lit.int .i64 y_).wf = true)) ∧ True := by
  have hel : ∀ (fuel : Nat) (cs : List Value) (x : DataW H × List MemPlace), DataW.trod enc Try.prog W 0 (fun _ => true) true fuel 3 cs = some x → ∃ a : Int, (Kd.int .i64).K W a cs ∧ (fun y_ : Int => ((Lit.int .i64 y_).wf = true)) a := by
    intro fuel cs x h
    obtain ⟨a0, rfl, g0_0, _⟩ := open_t3 h
    exact ⟨a0, rfl, g0_0⟩
  obtain ⟨A, c, xs, e, h1, h2, h3, h4⟩ := SL.open_row (α := Int) (Kd.int .i64) (fun y_ => ((Lit.int .i64 y_).wf = true)) Try.underlying47 (by kernel_rfl) hel h
  exact ⟨A, c, xs, e, h1, h2, h3, h4, trivial⟩
set_option maxRecDepth 100000 in
theorem open_t173 {H : Type} {enc : TypeId × Value → H} {W : World} {fuel : Nat} {cs : List Value} {x : DataW H × List MemPlace} (h : DataW.trod enc Try.prog W 0 (fun _ => true) true fuel 173 cs = some x) :
    ∃ (a0 : ByteArray) (A1 : Option Addr) (c1 : Nat) (l1 : List Int), cs = [.string a0, .slice A1 l1.length c1] ∧ (a0.size ≤ 9223372036854775807) ∧ (l1.length ≤ c1) ∧ (l1.length ≤ maxLen) ∧ (Kd.C (Kd.int .i64) W A1 l1.length l1) ∧ (∀ y_ ∈ l1, ((Lit.int .i64 y_).wf = true)) ∧ True := by
  obtain ⟨xs, n, _, _, hl, hlen, hf⟩ := DataW.trod_struct Try.underlying173 h
  rw [show Try.prog.cellsOf 173 = 2 from by kernel_rfl] at hl
  match cs, hl with
  | [v0, v1], _ =>
  match xs, hlen with
  | [y0, y1], _ =>
  have h0 : DataW.trod enc Try.prog W 0 (fun _ => true) true n 9 [v0] = some y0 := by have h_ := hf 0 _ rfl; simpa [show Try.prog.cellsOf 9 = 1 from by kernel_rfl] using h_
  obtain ⟨a0_0, e0, f0_0, _⟩ := open_t9 h0
  simp only [List.cons.injEq, and_true] at e0
  subst e0
  have h1 : DataW.trod enc Try.prog W 0 (fun _ => true) true n 47 [v1] = some y1 := by have h_ := hf 1 _ rfl; simpa [show Try.prog.cellsOf 47 = 1 from by kernel_rfl] using h_
  obtain ⟨A1_0, c1_0, l1_0, e1, f1_0, f1_1, f1_2, f1_3, _⟩ := open_t47 h1
  simp only [List.cons.injEq, and_true] at e1
  subst e1
  exact ⟨a0_0, A1_0, c1_0, l1_0, rfl, f0_0, f1_0, f1_1, f1_2, f1_3, trivial⟩
set_option maxRecDepth 100000 in
theorem open_t26 {H : Type} {enc : TypeId × Value → H} {W : World} {fuel : Nat} {cs : List Value} {x : DataW H × List MemPlace} (h : DataW.trod enc Try.prog W 0 (fun _ => true) true fuel 26 cs = some x) :
    ∃ (A0 : Option Addr) (c0 : Nat) (l0 : List (S173)), cs = [.slice A0 l0.length c0] ∧ (l0.length ≤ c0) ∧ (l0.length ≤ maxLen) ∧ (Kd.C k173 W A0 l0.length l0) ∧ (∀ y_ ∈ l0, (y_.f0.size ≤ 9223372036854775807) ∧ (y_.f1.length ≤ maxLen) ∧ (∀ z_ ∈ y_.f1, ((Lit.int .i64 z_).wf = true))) ∧ True := by
  have hel : ∀ (fuel : Nat) (cs : List Value) (x : DataW H × List MemPlace), DataW.trod enc Try.prog W 0 (fun _ => true) true fuel 173 cs = some x → ∃ a : S173, k173.K W a cs ∧ (fun y_ : S173 => (y_.f0.size ≤ 9223372036854775807) ∧ (y_.f1.length ≤ maxLen) ∧ (∀ z_ ∈ y_.f1, ((Lit.int .i64 z_).wf = true))) a := by
    intro fuel cs x h
    obtain ⟨a0, A1, c1, l1, rfl, g0_0, g1_0, g1_1, g1_2, g1_3, _⟩ := open_t173 h
    exact ⟨(⟨a0, l1⟩ : S173), k173_mk _ (⟨a0, l1⟩ : S173) g1_0 g1_2, ⟨g0_0, g1_1, g1_3⟩⟩
  obtain ⟨A, c, xs, e, h1, h2, h3, h4⟩ := SL.open_row (α := S173) k173 (fun y_ => (y_.f0.size ≤ 9223372036854775807) ∧ (y_.f1.length ≤ maxLen) ∧ (∀ z_ ∈ y_.f1, ((Lit.int .i64 z_).wf = true))) Try.underlying26 (by kernel_rfl) hel h
  exact ⟨A, c, xs, e, h1, h2, h3, h4, trivial⟩
set_option maxRecDepth 100000 in
theorem open_t175 {H : Type} {enc : TypeId × Value → H} {W : World} {fuel : Nat} {cs : List Value} {x : DataW H × List MemPlace} (h : DataW.trod enc Try.prog W 0 (fun _ => true) true fuel 175 cs = some x) :
    ∃ (a0 : Int) (a1 : Int) (a2 : ByteArray) (a3 : Int), cs = [.int .u8 a0, .int .u8 a1, .string a2, .int .i64 a3] ∧ ((Lit.int .u8 a0).wf = true) ∧ ((Lit.int .u8 a1).wf = true) ∧ (a2.size ≤ 9223372036854775807) ∧ ((Lit.int .i64 a3).wf = true) ∧ True := by
  obtain ⟨xs, n, _, _, hl, hlen, hf⟩ := DataW.trod_struct Try.underlying175 h
  rw [show Try.prog.cellsOf 175 = 4 from by kernel_rfl] at hl
  match cs, hl with
  | [v0, v1, v2, v3], _ =>
  match xs, hlen with
  | [y0, y1, y2], _ =>
  have h0 : DataW.trod enc Try.prog W 0 (fun _ => true) true n 5 [v0] = some y0 := by have h_ := hf 0 _ rfl; simpa [show Try.prog.cellsOf 5 = 1 from by kernel_rfl] using h_
  obtain ⟨a0_0, e0, f0_0, _⟩ := open_t5 h0
  simp only [List.cons.injEq, and_true] at e0
  subst e0
  have h1 : DataW.trod enc Try.prog W 0 (fun _ => true) true n 62 [v1, v2] = some y1 := by have h_ := hf 1 _ rfl; simpa [show Try.prog.cellsOf 62 = 2 from by kernel_rfl] using h_
  obtain ⟨a1_0, a1_1, e1, f1_0, f1_1, _⟩ := open_t62 h1
  simp only [List.cons.injEq, and_true] at e1
  obtain ⟨rfl, rfl⟩ := e1
  have h2 : DataW.trod enc Try.prog W 0 (fun _ => true) true n 3 [v3] = some y2 := by have h_ := hf 2 _ rfl; simpa [show Try.prog.cellsOf 3 = 1 from by kernel_rfl] using h_
  obtain ⟨a2_0, e2, f2_0, _⟩ := open_t3 h2
  simp only [List.cons.injEq, and_true] at e2
  subst e2
  exact ⟨a0_0, a1_0, a1_1, a2_0, rfl, f0_0, f1_0, f1_1, f2_0, trivial⟩
set_option maxRecDepth 100000 in
theorem open_t177 {H : Type} {enc : TypeId × Value → H} {W : World} {fuel : Nat} {cs : List Value} {x : DataW H × List MemPlace} (h : DataW.trod enc Try.prog W 0 (fun _ => true) true fuel 177 cs = some x) :
    ∃ (a0 : Int) (a1 : Int) (a2 : Int) (a3 : ByteArray) (a4 : Int) (a5 : Int) (a6 : Int) (a7 : Int) (A8 : Option Addr) (c8 : Nat) (l8 : List Int), cs = [.int .i64 a0, .int .u8 a1, .int .u8 a2, .string a3, .int .i64 a4, .int .i64 a5, .int .i64 a6, .int .u8 a7, .slice A8 l8.length c8] ∧ ((Lit.int .i64 a0).wf = true) ∧ ((Lit.int .u8 a1).wf = true) ∧ ((Lit.int .u8 a2).wf = true) ∧ (a3.size ≤ 9223372036854775807) ∧ ((Lit.int .i64 a4).wf = true) ∧ ((Lit.int .i64 a5).wf = true) ∧ ((Lit.int .i64 a6).wf = true) ∧ ((Lit.int .u8 a7).wf = true) ∧ (l8.length ≤ c8) ∧ (l8.length ≤ maxLen) ∧ (Kd.C (Kd.int .i64) W A8 l8.length l8) ∧ (∀ y_ ∈ l8, ((Lit.int .i64 y_).wf = true)) ∧ True := by
  obtain ⟨xs, n, _, _, hl, hlen, hf⟩ := DataW.trod_struct Try.underlying177 h
  rw [show Try.prog.cellsOf 177 = 9 from by kernel_rfl] at hl
  match cs, hl with
  | [v0, v1, v2, v3, v4, v5, v6, v7, v8], _ =>
  match xs, hlen with
  | [y0, y1, y2, y3, y4, y5], _ =>
  have h0 : DataW.trod enc Try.prog W 0 (fun _ => true) true n 3 [v0] = some y0 := by have h_ := hf 0 _ rfl; simpa [show Try.prog.cellsOf 3 = 1 from by kernel_rfl] using h_
  obtain ⟨a0_0, e0, f0_0, _⟩ := open_t3 h0
  simp only [List.cons.injEq, and_true] at e0
  subst e0
  have h1 : DataW.trod enc Try.prog W 0 (fun _ => true) true n 175 [v1, v2, v3, v4] = some y1 := by have h_ := hf 1 _ rfl; simpa [show Try.prog.cellsOf 175 = 4 from by kernel_rfl] using h_
  obtain ⟨a1_0, a1_1, a1_2, a1_3, e1, f1_0, f1_1, f1_2, f1_3, _⟩ := open_t175 h1
  simp only [List.cons.injEq, and_true] at e1
  obtain ⟨rfl, rfl, rfl, rfl⟩ := e1
  have h2 : DataW.trod enc Try.prog W 0 (fun _ => true) true n 3 [v5] = some y2 := by have h_ := hf 2 _ rfl; simpa [show Try.prog.cellsOf 3 = 1 from by kernel_rfl] using h_
  obtain ⟨a2_0, e2, f2_0, _⟩ := open_t3 h2
  simp only [List.cons.injEq, and_true] at e2
  subst e2
  have h3 : DataW.trod enc Try.prog W 0 (fun _ => true) true n 3 [v6] = some y3 := by have h_ := hf 3 _ rfl; simpa [show Try.prog.cellsOf 3 = 1 from by kernel_rfl] using h_
  obtain ⟨a3_0, e3, f3_0, _⟩ := open_t3 h3
  simp only [List.cons.injEq, and_true] at e3
  subst e3
  have h4 : DataW.trod enc Try.prog W 0 (fun _ => true) true n 5 [v7] = some y4 := by have h_ := hf 4 _ rfl; simpa [show Try.prog.cellsOf 5 = 1 from by kernel_rfl] using h_
  obtain ⟨a4_0, e4, f4_0, _⟩ := open_t5 h4
  simp only [List.cons.injEq, and_true] at e4
  subst e4
  have h5 : DataW.trod enc Try.prog W 0 (fun _ => true) true n 47 [v8] = some y5 := by have h_ := hf 5 _ rfl; simpa [show Try.prog.cellsOf 47 = 1 from by kernel_rfl] using h_
  obtain ⟨A5_0, c5_0, l5_0, e5, f5_0, f5_1, f5_2, f5_3, _⟩ := open_t47 h5
  simp only [List.cons.injEq, and_true] at e5
  subst e5
  exact ⟨a0_0, a1_0, a1_1, a1_2, a1_3, a2_0, a3_0, a4_0, A5_0, c5_0, l5_0, rfl, f0_0, f1_0, f1_1, f1_2, f1_3, f2_0, f3_0, f4_0, f5_0, f5_1, f5_2, f5_3, trivial⟩
set_option maxRecDepth 100000 in
theorem open_t27 {H : Type} {enc : TypeId × Value → H} {W : World} {fuel : Nat} {cs : List Value} {x : DataW H × List MemPlace} (h : DataW.trod enc Try.prog W 0 (fun _ => true) true fuel 27 cs = some x) :
    ∃ (A0 : Option Addr) (c0 : Nat) (l0 : List (S177)), cs = [.slice A0 l0.length c0] ∧ (l0.length ≤ c0) ∧ (l0.length ≤ maxLen) ∧ (Kd.C k177 W A0 l0.length l0) ∧ (∀ y_ ∈ l0, ((Lit.int .i64 y_.f0).wf = true) ∧ ((Lit.int .u8 y_.f1.f0).wf = true) ∧ ((Lit.int .u8 y_.f1.f1.f0).wf = true) ∧ (y_.f1.f1.f1.size ≤ 9223372036854775807) ∧ ((Lit.int .i64 y_.f1.f2).wf = true) ∧ ((Lit.int .i64 y_.f2).wf = true) ∧ ((Lit.int .i64 y_.f3).wf = true) ∧ ((Lit.int .u8 y_.f4).wf = true) ∧ (y_.f5.length ≤ maxLen) ∧ (∀ z_ ∈ y_.f5, ((Lit.int .i64 z_).wf = true))) ∧ True := by
  have hel : ∀ (fuel : Nat) (cs : List Value) (x : DataW H × List MemPlace), DataW.trod enc Try.prog W 0 (fun _ => true) true fuel 177 cs = some x → ∃ a : S177, k177.K W a cs ∧ (fun y_ : S177 => ((Lit.int .i64 y_.f0).wf = true) ∧ ((Lit.int .u8 y_.f1.f0).wf = true) ∧ ((Lit.int .u8 y_.f1.f1.f0).wf = true) ∧ (y_.f1.f1.f1.size ≤ 9223372036854775807) ∧ ((Lit.int .i64 y_.f1.f2).wf = true) ∧ ((Lit.int .i64 y_.f2).wf = true) ∧ ((Lit.int .i64 y_.f3).wf = true) ∧ ((Lit.int .u8 y_.f4).wf = true) ∧ (y_.f5.length ≤ maxLen) ∧ (∀ z_ ∈ y_.f5, ((Lit.int .i64 z_).wf = true))) a := by
    intro fuel cs x h
    obtain ⟨a0, a1, a2, a3, a4, a5, a6, a7, A8, c8, l8, rfl, g0_0, g1_0, g2_0, g3_0, g4_0, g5_0, g6_0, g7_0, g8_0, g8_1, g8_2, g8_3, _⟩ := open_t177 h
    exact ⟨(⟨a0, (⟨a1, (⟨a2, a3⟩ : S62), a4⟩ : S175), a5, a6, a7, l8⟩ : S177), k177_mk _ (⟨a0, (⟨a1, (⟨a2, a3⟩ : S62), a4⟩ : S175), a5, a6, a7, l8⟩ : S177) g8_0 g8_2, ⟨g0_0, g1_0, g2_0, g3_0, g4_0, g5_0, g6_0, g7_0, g8_1, g8_3⟩⟩
  obtain ⟨A, c, xs, e, h1, h2, h3, h4⟩ := SL.open_row (α := S177) k177 (fun y_ => ((Lit.int .i64 y_.f0).wf = true) ∧ ((Lit.int .u8 y_.f1.f0).wf = true) ∧ ((Lit.int .u8 y_.f1.f1.f0).wf = true) ∧ (y_.f1.f1.f1.size ≤ 9223372036854775807) ∧ ((Lit.int .i64 y_.f1.f2).wf = true) ∧ ((Lit.int .i64 y_.f2).wf = true) ∧ ((Lit.int .i64 y_.f3).wf = true) ∧ ((Lit.int .u8 y_.f4).wf = true) ∧ (y_.f5.length ≤ maxLen) ∧ (∀ z_ ∈ y_.f5, ((Lit.int .i64 z_).wf = true))) Try.underlying27 (by kernel_rfl) hel h
  exact ⟨A, c, xs, e, h1, h2, h3, h4, trivial⟩
set_option maxRecDepth 100000 in
theorem open_t29 {H : Type} {enc : TypeId × Value → H} {W : World} {fuel : Nat} {cs : List Value} {x : DataW H × List MemPlace} (h : DataW.trod enc Try.prog W 0 (fun _ => true) true fuel 29 cs = some x) :
    ∃ (a0 : ByteArray) (a1 : Int) (a2 : Int) (a3 : Int) (a4 : Int) (a5 : Int) (a6 : Int) (a7 : Int) (a8 : Int) (a9 : Int) (a10 : Int) (a11 : Int) (A12 : Option Addr) (c12 : Nat) (l12 : List (S171)) (A13 : Option Addr) (c13 : Nat) (l13 : List (S66)) (A14 : Option Addr) (c14 : Nat) (l14 : List (S173)) (A15 : Option Addr) (c15 : Nat) (l15 : List (S177)), cs = [.string a0, .int .i64 a1, .int .i64 a2, .int .i64 a3, .int .i64 a4, .int .i64 a5, .int .i64 a6, .int .i64 a7, .int .i64 a8, .int .i64 a9, .int .i64 a10, .int .i64 a11, .slice A12 l12.length c12, .slice A13 l13.length c13, .slice A14 l14.length c14, .slice A15 l15.length c15] ∧ (a0.size ≤ 9223372036854775807) ∧ ((Lit.int .i64 a1).wf = true) ∧ ((Lit.int .i64 a2).wf = true) ∧ ((Lit.int .i64 a3).wf = true) ∧ ((Lit.int .i64 a4).wf = true) ∧ ((Lit.int .i64 a5).wf = true) ∧ ((Lit.int .i64 a6).wf = true) ∧ ((Lit.int .i64 a7).wf = true) ∧ ((Lit.int .i64 a8).wf = true) ∧ ((Lit.int .i64 a9).wf = true) ∧ ((Lit.int .i64 a10).wf = true) ∧ ((Lit.int .i64 a11).wf = true) ∧ (l12.length ≤ c12) ∧ (l12.length ≤ maxLen) ∧ (Kd.C k171 W A12 l12.length l12) ∧ (∀ y_ ∈ l12, (y_.f0.size ≤ 9223372036854775807) ∧ (y_.f1.size ≤ 9223372036854775807) ∧ ((Lit.int .i64 y_.f2).wf = true)) ∧ (l13.length ≤ c13) ∧ (l13.length ≤ maxLen) ∧ (Kd.C k66 W A13 l13.length l13) ∧ (∀ y_ ∈ l13, (y_.f0.size ≤ 9223372036854775807) ∧ ((Lit.int .u8 y_.f1.f0.f0).wf = true) ∧ (y_.f1.f0.f1.size ≤ 9223372036854775807) ∧ ((Lit.int .i64 y_.f1.f1).wf = true) ∧ ((Lit.int .u8 y_.f2).wf = true) ∧ (y_.f3.size ≤ 9223372036854775807) ∧ (y_.f4.size ≤ 9223372036854775807) ∧ ((Lit.int .i64 y_.f5).wf = true)) ∧ (l14.length ≤ c14) ∧ (l14.length ≤ maxLen) ∧ (Kd.C k173 W A14 l14.length l14) ∧ (∀ y_ ∈ l14, (y_.f0.size ≤ 9223372036854775807) ∧ (y_.f1.length ≤ maxLen) ∧ (∀ z_ ∈ y_.f1, ((Lit.int .i64 z_).wf = true))) ∧ (l15.length ≤ c15) ∧ (l15.length ≤ maxLen) ∧ (Kd.C k177 W A15 l15.length l15) ∧ (∀ y_ ∈ l15, ((Lit.int .i64 y_.f0).wf = true) ∧ ((Lit.int .u8 y_.f1.f0).wf = true) ∧ ((Lit.int .u8 y_.f1.f1.f0).wf = true) ∧ (y_.f1.f1.f1.size ≤ 9223372036854775807) ∧ ((Lit.int .i64 y_.f1.f2).wf = true) ∧ ((Lit.int .i64 y_.f2).wf = true) ∧ ((Lit.int .i64 y_.f3).wf = true) ∧ ((Lit.int .u8 y_.f4).wf = true) ∧ (y_.f5.length ≤ maxLen) ∧ (∀ z_ ∈ y_.f5, ((Lit.int .i64 z_).wf = true))) ∧ True := by
  obtain ⟨xs, n, _, _, hl, hlen, hf⟩ := DataW.trod_struct Try.underlying29 h
  rw [show Try.prog.cellsOf 29 = 16 from by kernel_rfl] at hl
  match cs, hl with
  | [v0, v1, v2, v3, v4, v5, v6, v7, v8, v9, v10, v11, v12, v13, v14, v15], _ =>
  match xs, hlen with
  | [y0, y1, y2, y3, y4, y5], _ =>
  have h0 : DataW.trod enc Try.prog W 0 (fun _ => true) true n 9 [v0] = some y0 := by have h_ := hf 0 _ rfl; simpa [show Try.prog.cellsOf 9 = 1 from by kernel_rfl] using h_
  obtain ⟨a0_0, e0, f0_0, _⟩ := open_t9 h0
  simp only [List.cons.injEq, and_true] at e0
  subst e0
  have h1 : DataW.trod enc Try.prog W 0 (fun _ => true) true n 23 [v1, v2, v3, v4, v5, v6, v7, v8, v9, v10, v11] = some y1 := by have h_ := hf 1 _ rfl; simpa [show Try.prog.cellsOf 23 = 11 from by kernel_rfl] using h_
  obtain ⟨a1_0, a1_1, a1_2, a1_3, a1_4, a1_5, a1_6, a1_7, a1_8, a1_9, a1_10, e1, f1_0, f1_1, f1_2, f1_3, f1_4, f1_5, f1_6, f1_7, f1_8, f1_9, f1_10, _⟩ := open_t23 h1
  simp only [List.cons.injEq, and_true] at e1
  obtain ⟨rfl, rfl, rfl, rfl, rfl, rfl, rfl, rfl, rfl, rfl, rfl⟩ := e1
  have h2 : DataW.trod enc Try.prog W 0 (fun _ => true) true n 24 [v12] = some y2 := by have h_ := hf 2 _ rfl; simpa [show Try.prog.cellsOf 24 = 1 from by kernel_rfl] using h_
  obtain ⟨A2_0, c2_0, l2_0, e2, f2_0, f2_1, f2_2, f2_3, _⟩ := open_t24 h2
  simp only [List.cons.injEq, and_true] at e2
  subst e2
  have h3 : DataW.trod enc Try.prog W 0 (fun _ => true) true n 25 [v13] = some y3 := by have h_ := hf 3 _ rfl; simpa [show Try.prog.cellsOf 25 = 1 from by kernel_rfl] using h_
  obtain ⟨A3_0, c3_0, l3_0, e3, f3_0, f3_1, f3_2, f3_3, _⟩ := open_t25 h3
  simp only [List.cons.injEq, and_true] at e3
  subst e3
  have h4 : DataW.trod enc Try.prog W 0 (fun _ => true) true n 26 [v14] = some y4 := by have h_ := hf 4 _ rfl; simpa [show Try.prog.cellsOf 26 = 1 from by kernel_rfl] using h_
  obtain ⟨A4_0, c4_0, l4_0, e4, f4_0, f4_1, f4_2, f4_3, _⟩ := open_t26 h4
  simp only [List.cons.injEq, and_true] at e4
  subst e4
  have h5 : DataW.trod enc Try.prog W 0 (fun _ => true) true n 27 [v15] = some y5 := by have h_ := hf 5 _ rfl; simpa [show Try.prog.cellsOf 27 = 1 from by kernel_rfl] using h_
  obtain ⟨A5_0, c5_0, l5_0, e5, f5_0, f5_1, f5_2, f5_3, _⟩ := open_t27 h5
  simp only [List.cons.injEq, and_true] at e5
  subst e5
  exact ⟨a0_0, a1_0, a1_1, a1_2, a1_3, a1_4, a1_5, a1_6, a1_7, a1_8, a1_9, a1_10, A2_0, c2_0, l2_0, A3_0, c3_0, l3_0, A4_0, c4_0, l4_0, A5_0, c5_0, l5_0, rfl, f0_0, f1_0, f1_1, f1_2, f1_3, f1_4, f1_5, f1_6, f1_7, f1_8, f1_9, f1_10, f2_0, f2_1, f2_2, f2_3, f3_0, f3_1, f3_2, f3_3, f4_0, f4_1, f4_2, f4_3, f5_0, f5_1, f5_2, f5_3, trivial⟩
set_option maxRecDepth 100000 in
theorem lifted (os : Os) (started : os.Started) (H : Type) (enc : TypeId × Value → H) :
    ReturnsInHanded {} Try.checked os 3 .any (Rows.healthNilSpec.pre6 enc Try.prog Try.f3 Rows.healthNilRow.domain false) (Rows.healthNilSpec.post enc Try.prog Try.f3 false true false false) := by
  refine returnsInHanded_of_change_sized (C := Try.checked) own started (by kernel_rfl) Try.func3
    (ChangeSpec.witness6 (enc := enc) (C := Try.checked) false ⟨#[], #[.int .i64 0, .bool false, (.agg #[(.string ⟨#[]⟩), (.int .i64 0), (.int .i64 0), (.int .i64 0), (.int .i64 0), (.int .i64 0), (.int .i64 0), (.int .i64 0), (.int .i64 0), (.int .i64 0), (.int .i64 0), (.int .i64 0), (.slice none 0 0), (.slice none 0 0), (.slice none 0 0), (.slice none 0 0)])], []⟩ 8 (by kernel_rfl) (by kernel_rfl) (by kernel_rfl) (by kernel_rfl)) ?_
  intro W base args ds gs before hval0 hW hcnd hsz0 _
  have hsz : (DataW.weightsEach Try.prog (Try.f3.params.toList ++ Rows.healthNilSpec.plain.varTypes Try.prog) (ds ++ gs)).all (· ≤ reachBytes) = true := hsz0
  have hval : ∀ (j : Nat) t v, Try.f3.params[j]? = some t → args[j]? = some v → Value.okWide Try.prog W .any base t v := hval0
  have hW' := hW
  obtain ⟨p, q, hA0, hV, rfl, hfz, hnd⟩ := hW
  have hA : DataW.TrodAll enc Try.prog W 0 (fun _ => true) true Try.f3.params.toList args.toList ds p := hA0
  rw [Try.params3] at hA hval hsz
  obtain ⟨v0, vs0, d0, ds0, p0, q0, hargs, rfl, rfl, h0, r0⟩ := trodAll_cons hA
  obtain ⟨v1, vs1, d1, ds1, p1, q1, rfl, rfl, rfl, h1, r1⟩ := trodAll_cons r0
  obtain ⟨v2, vs2, d2, ds2, p2, q2, rfl, rfl, rfl, h2, r2⟩ := trodAll_cons r1
  obtain ⟨rfl, rfl, rfl⟩ := trodAll_nil r2
  obtain rfl : args = #[v0, v1, v2] := by cases args; simp_all
  obtain ⟨rfl, rfl⟩ := trodVars_none hV
  obtain ⟨a0, rfl, rfl, rfl, w0⟩ := open_int Try.underlying3 (hval 0 3 v0 rfl rfl) h0
  obtain ⟨a1, rfl, rfl, rfl⟩ := open_bool Try.underlying4 (hval 1 4 v1 rfl rfl) h1
  obtain ⟨cs2, rfl, hz2⟩ := okWide_struct Try.underlying29 (hval 2 29 v2 rfl rfl)
  have k2 := h2
  have lt2 : ∀ x ∈ p2, x.block < W.heap.size := by obtain ⟨m, hm⟩ := k2; exact DataW.trod_lt m _ _ _ hm
  obtain ⟨fuel2, hf2⟩ := h2
  obtain ⟨a2_0, a2_1, a2_2, a2_3, a2_4, a2_5, a2_6, a2_7, a2_8, a2_9, a2_10, a2_11, A2_12, c2_12, l2_12, A2_13, c2_13, l2_13, A2_14, c2_14, l2_14, A2_15, c2_15, l2_15, e2, f2_0, f2_1, f2_2, f2_3, f2_4, f2_5, f2_6, f2_7, f2_8, f2_9, f2_10, f2_11, f2_12, f2_13, f2_14, f2_15, f2_16, f2_17, f2_18, f2_19, f2_20, f2_21, f2_22, f2_23, f2_24, f2_25, f2_26, f2_27, _⟩ := open_t29 hf2
  have e2' : cs2 = #[.string a2_0, .int .i64 a2_1, .int .i64 a2_2, .int .i64 a2_3, .int .i64 a2_4, .int .i64 a2_5, .int .i64 a2_6, .int .i64 a2_7, .int .i64 a2_8, .int .i64 a2_9, .int .i64 a2_10, .int .i64 a2_11, .slice A2_12 l2_12.length c2_12, .slice A2_13 l2_13.length c2_13, .slice A2_14 l2_14.length c2_14, .slice A2_15 l2_15.length c2_15] := by apply Array.ext'; simpa [Value.cells] using e2
  subst e2'
  clear hA0 hval0 hsz0 hsz
  obtain ⟨k, hP⟩ := Pure.HealthNil a0 a1 a2_0 a2_1 a2_2 a2_3 a2_4 a2_5 a2_6 a2_7 a2_8 a2_9 a2_10 a2_11 l2_12 l2_13 l2_14 l2_15 w0 f2_0 f2_1 f2_2 f2_3 f2_4 f2_5 f2_6 f2_7 f2_8 f2_9 f2_10 f2_11 f2_13 f2_15 f2_17 f2_19 f2_21 f2_23 f2_25 f2_27
  refine (P.postilionlaw11_HealthNil.calls k a0 a1 a2_0 a2_1 a2_2 a2_3 a2_4 a2_5 a2_6 a2_7 a2_8 a2_9 a2_10 a2_11 _ _ l2_12 _ _ l2_13 _ _ l2_14 _ _ l2_15 true W f2_14 f2_12 f2_18 f2_16 f2_22 f2_20 f2_26 f2_24 hP ⟨rfl⟩).mono fun e W' ⟨he, bel0⟩ => ?_
  have bel : Below W.heap.size W W' := bel0
  subst he
  exact ⟨_, rfl, _, _, _, [], _, [], hW', trodAll_mk1 (shut_bool Try.underlying4 _), (trodAll_cons_mk (shut_int Try.underlying3 w0) (trodAll_cons_mk (shut_bool Try.underlying4 _) (trodAll_cons_mk (Below.trod laidOut (by kernel_rfl) (of_decide_eq_true (by kernel_rfl)) k2 bel lt2) trodAll_mk0))), rfl, bel.frame _, fun h => by cases h⟩
theorem over : Rows.healthNilRow.holds Try.pinned (OpenSpec.ofChange Rows.healthNilSpec) :=
  OpenClaim.holds_of_wide 3 Try.f3 rfl rfl rfl rfl rfl rfl rfl ⟨rfl, rfl, rfl, rfl, rfl⟩ rfl rfl rfl rfl rfl (by kernel_rfl) Try.func3 (by kernel_rfl)
    (of_decide_eq_true (by kernel_rfl)) (by unfold Func.isWrapper; first | (rw [if_pos (by decide +kernel)]; kernel_rfl) | (rw [if_neg (by decide +kernel)]; exact ⟨rfl, rfl⟩))
    (fun os started H enc _ => lifted os started H enc)
theorem proved : Rows.HealthNilSaid := over
#print axioms proved
end Go.Proofs.Ytghfhgjgdkkkpaa.healthNil
namespace Go.Proofs.Ytghfhgjgdkkkpaa
/-- The row, under a short name, for the claim. -/
theorem healthNil_holds : Rows.HealthNilSaid := healthNil.proved
end Go.Proofs.Ytghfhgjgdkkkpaa
