-- Laid by sp.py, a program of this session's, out of the translation and the session's own stand-ins.
import Derived.Test.YtiocpkaplpilpaaDoorPx0
namespace Go.Proofs.YtiocpkaplpilpaaDoor.P
open Go.RowKit Go.Proofs.YtiocpkaplpilpaaDoorW.PrintWords Go.Proofs.YtiocpkaplpilpaaDoorW.PrintLast Go.Proofs.YtiocpkaplpilpaaDoorW.PrintMore
attribute [local go_sem] max2_int min2_int max_two min_two max_three min_three max_four min_four   -- for this text's walks alone
set_option linter.unusedVariables false
set_option linter.unusedSimpArgs false
set_option linter.unnecessarySimpa false

/-! ### FrontNil: a law by hand: a nil front, and one of zeros -/
theorem hp_cell {W : World} {B : Nat} {C : Array Value} {t : Nat} {fr : Nat × Nat} (h : W.heap[B]? = some (.cells C t fr)) (j : Nat) : W.cell? ⟨B, j, none⟩ = C[j]? := by
  simp [World.cell?, h]
/-- Nobody made this. -/
def pnNone (W : World) (p : Option Addr) : Prop := p = none ∨ ∃ b, p = some ⟨b, 0, none⟩ ∧ b < W.heap.size ∧ W.cell? ⟨b, 28, none⟩ = some .nilFunc
theorem pnNone.below {W W' : World} {p : Option Addr} (h : pnNone W p) (hb : Below W.heap.size W W') : pnNone W' p := by
  rcases h with rfl | ⟨b, rfl, hl, c⟩
  · exact .inl rfl
  · refine .inr ⟨b, rfl, Nat.lt_of_lt_of_le hl hb.size, ?_⟩
    unfold World.cell? at c ⊢
    rw [hb.block b hl]
    exact c
set_option maxRecDepth 100000 in
theorem pn_none (p : Option Addr) (W : World) (h : pnNone W p) : Calls Tryd.prog 12 #[.pointer p] W fun e W' => e = .returned (.bool true) ∧ W' = W := by
  rcases h with rfl | ⟨b, rfl, _, c⟩
  · go_enter Tryd.func12, Tryd.ntmps12
    go_wp2_with fail
    go_ret
    exact ⟨rfl, rfl⟩
  · have hq : ∀ W, (binOp .eql 39 .nilFunc .nilFunc).run Tryd.prog W = .ok (.bool true) W := fun W => by first | rfl | simp [binOp]
    go_enter Tryd.func12, Tryd.ntmps12
    go_wp2_with fail
    go_ret
    exact ⟨rfl, rfl⟩
theorem pn_asks (p : Option Addr) (W : World) (h : pnNone W p) : Calls Tryd.prog 19 #[.pointer p] W fun e W' => e = .returned (.bool false) ∧ W' = W := by
  go_enter Tryd.func19, Tryd.ntmps19
  go_wp2_with (go_at_call 12; refine (pn_none p _ h).mono ?_; rintro e w1 ⟨rfl, rfl⟩)
  go_ret
  exact ⟨rfl, rfl⟩
theorem pn_asked (p : Option Addr) (W : World) (h : pnNone W p) : Calls Tryd.prog 14 #[.pointer p] W fun e W' => e = .returned (.bool false) ∧ W' = W := by
  go_enter Tryd.func14, Tryd.ntmps14
  go_wp2_with (go_at_call 12; refine (pn_none p _ h).mono ?_; rintro e w1 ⟨rfl, rfl⟩)
  go_ret
  exact ⟨rfl, rfl⟩
theorem pn_over (p : Option Addr) (c : Int) (W : World) (h : pnNone W p) : Calls Tryd.prog 13 #[.pointer p, .int .u8 c] W fun e W' => e = .returned (.slice none 0 0) ∧ W' = W := by
  go_enter Tryd.func13, Tryd.ntmps13
  go_wp2_with (go_at_call 19; refine (pn_asks p _ h).mono ?_; rintro e w1 ⟨rfl, rfl⟩)
  go_ret
  exact ⟨rfl, rfl⟩
theorem pn_Late (p : Option Addr) (W : World) (h : pnNone W p) : Calls Tryd.prog 5 #[.pointer p] W fun e W' => e = .returned (.slice none 0 0) ∧ W' = W := by
  go_enter Tryd.func5, Tryd.ntmps5
  go_wp2_with (go_at_call 13; refine (pn_over p _ _ h).mono ?_; rintro e w1 ⟨rfl, rfl⟩)
  go_ret
  exact ⟨rfl, rfl⟩
theorem pn_End (p : Option Addr) (W : World) (h : pnNone W p) : Calls Tryd.prog 6 #[.pointer p] W fun e W' => e = .returned (.slice none 0 0) ∧ W' = W := by
  go_enter Tryd.func6, Tryd.ntmps6
  go_wp2_with (go_at_call 13; refine (pn_over p _ _ h).mono ?_; rintro e w1 ⟨rfl, rfl⟩)
  go_ret
  exact ⟨rfl, rfl⟩
theorem pn_Answer (p : Option Addr) (c : Int) (W : World) (h : pnNone W p) : Calls Tryd.prog 7 #[.pointer p, .int .u8 c] W fun e W' => e = .returned (.slice none 0 0) ∧ W' = W := by
  go_enter Tryd.func7, Tryd.ntmps7
  go_wp2_with (go_at_call 14; refine (pn_asked p _ h).mono ?_; rintro e w1 ⟨rfl, rfl⟩)
  go_ret
  exact ⟨rfl, rfl⟩
theorem pn_State (p : Option Addr) (W : World) (h : pnNone W p) : Calls Tryd.prog 8 #[.pointer p] W fun e W' => e = .returned (.int .u8 2) ∧ W' = W := by
  go_enter Tryd.func8, Tryd.ntmps8
  go_wp2_with (go_at_call 12; refine (pn_none p _ h).mono ?_; rintro e w1 ⟨rfl, rfl⟩)
  go_ret
  exact ⟨rfl, rfl⟩
theorem pn_Code (p : Option Addr) (W : World) (h : pnNone W p) : Calls Tryd.prog 9 #[.pointer p] W fun e W' => e = .returned (.int .u8 0) ∧ W' = W := by
  go_enter Tryd.func9, Tryd.ntmps9
  go_wp2_with (go_at_call 12; refine (pn_none p _ h).mono ?_; rintro e w1 ⟨rfl, rfl⟩)
  go_ret
  exact ⟨rfl, rfl⟩
theorem pn_Byte (p : Option Addr) (c : Int) (W : World) (h : pnNone W p) : Calls Tryd.prog 4 #[.pointer p, .int .u8 c] W fun e W' => e = .returned (.tuple #[.slice none 0 0, .int .i64 1]) ∧ W' = W := by
  go_enter Tryd.func4, Tryd.ntmps4
  go_wp2_with (go_at_call 12; refine (pn_none p _ h).mono ?_; rintro e w1 ⟨rfl, rfl⟩)
  go_ret2
  exact ⟨rfl, rfl⟩
set_option maxHeartbeats 2000000 in
theorem pn_Request (p : Option Addr) (W : World) (h : pnNone W p) : Calls Tryd.prog 11 #[.pointer p] W fun e W' => e = .returned (.agg #[.int .u8 0, .int .i64 0, .int .u8 0, .string ⟨#[]⟩, .int .i64 0, .slice none 0 0]) ∧ Below W.heap.size W W' := by
  have hb : Below W.heap.size W (W.alloc (.cells #[.int .u8 0, .int .i64 0, .int .u8 0, .string ⟨#[]⟩, .int .i64 0, .slice none 0 0] 29)) := below_alloc (Below.refl _ _) _
  have h2 := h.below hb
  have k := heap_alloc_new W (.cells #[.int .u8 0, .int .i64 0, .int .u8 0, .string ⟨#[]⟩, .int .i64 0, .slice none 0 0] 29)
  go_enter Tryd.func11, Tryd.ntmps11
  go_wp2_with (go_at_call 14; refine (pn_asked p _ h2).mono ?_; rintro e w1 ⟨rfl, rfl⟩)
  refine bodyPost_ret (by simp [results, Tryd.results11, go_sem]; try rfl) rfl ?_
  exact ⟨rfl, hb⟩
theorem pn_Same17 (W : World) : Calls Tryd.prog 17 #[.slice none 0 0, .slice none 0 0] W fun e W' => e = .returned (.bool true) ∧ W' = W := by
  go_enter Tryd.func17, Tryd.ntmps17
  go_wp2_with fail
  go_loopw [5] (fun v wr => v = .int .i64 0 ∧ wr = W) (fun _ _ => 0)
  case atStart => exact ⟨rfl, rfl⟩
  case round =>
    obtain ⟨rfl, rfl⟩ := hrel
    go_wp2_with fail
    go_ret
    exact ⟨rfl, rfl⟩
theorem pn_Same (W : World) : Calls Tryd.prog 10 #[.agg #[.int .u8 0, .int .i64 0, .int .u8 0, .string ⟨#[]⟩, .int .i64 0, .slice none 0 0], .agg #[.int .u8 0, .int .i64 0, .int .u8 0, .string ⟨#[]⟩, .int .i64 0, .slice none 0 0]] W fun e W' => e = .returned (.bool true) ∧ Below W.heap.size W W' := by
  go_enter Tryd.func10, Tryd.ntmps10
  go_wp2_with (go_at_call 17; refine (pn_Same17 _).mono ?_; rintro e w1 ⟨rfl, rfl⟩)
  go_ret
  exact ⟨rfl, below_alloc (below_alloc (Below.refl _ _) _) _⟩
theorem nx0_below {B : Nat} {w W W' : World} (h : Below B w W) (hb : Below W.heap.size W W') (hB : B ≤ W.heap.size := by first | exact h.size | assumption) : Below B w W' :=
  h.trans ⟨hb.os, hb.tape, hb.output, hb.size, fun j hj => hb.block j (Nat.lt_of_lt_of_le hj hB)⟩
theorem nx_below {w W W' : World} (h : Below w.heap.size w W) (hb : Below W.heap.size W W') : Below w.heap.size w W' :=
  h.trans ⟨hb.os, hb.tape, hb.output, hb.size, fun j hj => hb.block j (Nat.lt_of_lt_of_le hj h.size)⟩
theorem cell_keep {W W' : World} {b j : Nat} {v : Value} (hl : b < W.heap.size) (c : W.cell? ⟨b, j, none⟩ = some v) (hb : Below W.heap.size W W') : W'.cell? ⟨b, j, none⟩ = some v := by
  unfold World.cell? at c ⊢
  rw [hb.block b hl]
  exact c
set_option maxHeartbeats 8000000 in
theorem postilionlaw25_FrontNil.calls (x c : Int) (w : World) : Calls Tryd.prog 3 #[.int .u8 x, .int .u8 c] w fun e w' => e = .returned (.bool true) ∧ Below w.heap.size w w' := by
  go_enter Tryd.func3, Tryd.ntmps3
  go_wp2_with fail
  obtain ⟨W0, hW0⟩ : ∃ W0, W0 = ((w.alloc (.cells #[.int .u8 0, .int .i64 0, .int .u8 0, .string ⟨#[]⟩, .int .i64 0, .slice none 0 0, .string ⟨#[]⟩, .int .i64 0, .int .i64 0, .int .i64 0, .int .i64 0, .int .i64 0, .int .i64 0, .int .i64 0, .int .i64 0, .int .i64 0, .int .i64 0, .int .i64 0, .slice none 0 0, .slice none 0 0, .slice none 0 0, .slice none 0 0, .bool false, .int .u8 0, .int .u8 0, .slice none 0 0, .bool false, .bool false, .nilFunc, .nilFunc] 42)).alloc (.cells #[.pointer none, .pointer (some ⟨w.heap.size, 0, none⟩)] 22)) := ⟨_, rfl⟩
  have k0 := blk_alloc (heap_alloc_new w (.cells #[.int .u8 0, .int .i64 0, .int .u8 0, .string ⟨#[]⟩, .int .i64 0, .slice none 0 0, .string ⟨#[]⟩, .int .i64 0, .int .i64 0, .int .i64 0, .int .i64 0, .int .i64 0, .int .i64 0, .int .i64 0, .int .i64 0, .int .i64 0, .int .i64 0, .int .i64 0, .slice none 0 0, .slice none 0 0, .slice none 0 0, .slice none 0 0, .bool false, .int .u8 0, .int .u8 0, .slice none 0 0, .bool false, .bool false, .nilFunc, .nilFunc] 42)) (.cells #[.pointer none, .pointer (some ⟨w.heap.size, 0, none⟩)] 22)
  have k1 := heap_alloc_new (w.alloc (.cells #[.int .u8 0, .int .i64 0, .int .u8 0, .string ⟨#[]⟩, .int .i64 0, .slice none 0 0, .string ⟨#[]⟩, .int .i64 0, .int .i64 0, .int .i64 0, .int .i64 0, .int .i64 0, .int .i64 0, .int .i64 0, .int .i64 0, .int .i64 0, .int .i64 0, .int .i64 0, .slice none 0 0, .slice none 0 0, .slice none 0 0, .slice none 0 0, .bool false, .int .u8 0, .int .u8 0, .slice none 0 0, .bool false, .bool false, .nilFunc, .nilFunc] 42)) (.cells #[.pointer none, .pointer (some ⟨w.heap.size, 0, none⟩)] 22)
  have s1 : (w.alloc (.cells #[.int .u8 0, .int .i64 0, .int .u8 0, .string ⟨#[]⟩, .int .i64 0, .slice none 0 0, .string ⟨#[]⟩, .int .i64 0, .int .i64 0, .int .i64 0, .int .i64 0, .int .i64 0, .int .i64 0, .int .i64 0, .int .i64 0, .int .i64 0, .int .i64 0, .int .i64 0, .slice none 0 0, .slice none 0 0, .slice none 0 0, .slice none 0 0, .bool false, .int .u8 0, .int .u8 0, .slice none 0 0, .bool false, .bool false, .nilFunc, .nilFunc] 42)).heap.size = w.heap.size + 1 := Array.size_push _
  have s2 : ((w.alloc (.cells #[.int .u8 0, .int .i64 0, .int .u8 0, .string ⟨#[]⟩, .int .i64 0, .slice none 0 0, .string ⟨#[]⟩, .int .i64 0, .int .i64 0, .int .i64 0, .int .i64 0, .int .i64 0, .int .i64 0, .int .i64 0, .int .i64 0, .int .i64 0, .int .i64 0, .int .i64 0, .slice none 0 0, .slice none 0 0, .slice none 0 0, .slice none 0 0, .bool false, .int .u8 0, .int .u8 0, .slice none 0 0, .bool false, .bool false, .nilFunc, .nilFunc] 42)).alloc (.cells #[.pointer none, .pointer (some ⟨w.heap.size, 0, none⟩)] 22)).heap.size = w.heap.size + 1 + 1 := (Array.size_push _).trans (by rw [s1])
  have hb : Below w.heap.size w W0 := by rw [hW0]; exact below_alloc (below_alloc (Below.refl _ _) _) _
  rw [s1] at k1
  rw [← hW0] at k0 k1 s2 ⊢
  have e0 : W0.cell? ⟨w.heap.size, 28, none⟩ = some .nilFunc := by rw [hp_cell k0]; rfl
  have c1 : W0.cell? ⟨w.heap.size + 1, 0, none⟩ = some (.pointer none) := by rw [hp_cell k1]; rfl
  have c2 : W0.cell? ⟨w.heap.size + 1, 1, none⟩ = some (.pointer (some ⟨w.heap.size, 0, none⟩)) := by rw [hp_cell k1]; rfl
  clear k0 k1 s1 hW0
  go_loopw [7] (fun v wr => ∃ k : Nat, k ≤ 2 ∧ v = .int .i64 (k : Int) ∧ Below W0.heap.size W0 wr) (fun v _ => 2 - (intOf v).toNat)
  case atStart => exact ⟨0, by decide, rfl, Below.refl _ _⟩
  case round =>
    obtain ⟨k, hk, rfl, hBel⟩ := hrel
    have e0 := cell_keep (by omega) e0 hBel
    have c1 := cell_keep (by omega) c1 hBel
    have c2 := cell_keep (by omega) c2 hBel
    have hsz := hBel.size
    match k, hk with
    | 0, _ =>
      have hN : pnNone wr none := .inl rfl
      go_wp2_with (first | (go_at_call 4; refine (pn_Byte _ _ _ (by assumption)).mono ?_; rintro e w1 ⟨rfl, hw⟩; obtain rfl := hw.symm) | (go_at_call 5; refine (pn_Late _ _ (by assumption)).mono ?_; rintro e w1 ⟨rfl, hw⟩; obtain rfl := hw.symm) | (go_at_call 6; refine (pn_End _ _ (by assumption)).mono ?_; rintro e w1 ⟨rfl, hw⟩; obtain rfl := hw.symm) | (go_at_call 7; refine (pn_Answer _ _ _ (by assumption)).mono ?_; rintro e w1 ⟨rfl, hw⟩; obtain rfl := hw.symm) | (go_at_call 8; refine (pn_State _ _ (by assumption)).mono ?_; rintro e w1 ⟨rfl, hw⟩; obtain rfl := hw.symm) | (go_at_call 9; refine (pn_Code _ _ (by assumption)).mono ?_; rintro e w1 ⟨rfl, hw⟩; obtain rfl := hw.symm) | (go_at_call 11; refine (pn_Request _ _ (by assumption)).mono ?_; rintro e w2 ⟨rfl, hb2⟩) | (go_at_call 10; refine (pn_Same _).mono ?_; rintro e w3 ⟨rfl, hb3⟩))
      go_roundw
      case rel => exact ⟨1, by decide, rfl, nx0_below (nx0_below hBel hb2) hb3 (Nat.le_trans hBel.size hb2.size)⟩
      case measure => decide
    | 1, _ =>
      have hN : pnNone wr (some ⟨w.heap.size, 0, none⟩) := .inr ⟨_, rfl, by omega, e0⟩
      go_wp2_with (first | (go_at_call 4; refine (pn_Byte _ _ _ (by assumption)).mono ?_; rintro e w1 ⟨rfl, hw⟩; obtain rfl := hw.symm) | (go_at_call 5; refine (pn_Late _ _ (by assumption)).mono ?_; rintro e w1 ⟨rfl, hw⟩; obtain rfl := hw.symm) | (go_at_call 6; refine (pn_End _ _ (by assumption)).mono ?_; rintro e w1 ⟨rfl, hw⟩; obtain rfl := hw.symm) | (go_at_call 7; refine (pn_Answer _ _ _ (by assumption)).mono ?_; rintro e w1 ⟨rfl, hw⟩; obtain rfl := hw.symm) | (go_at_call 8; refine (pn_State _ _ (by assumption)).mono ?_; rintro e w1 ⟨rfl, hw⟩; obtain rfl := hw.symm) | (go_at_call 9; refine (pn_Code _ _ (by assumption)).mono ?_; rintro e w1 ⟨rfl, hw⟩; obtain rfl := hw.symm) | (go_at_call 11; refine (pn_Request _ _ (by assumption)).mono ?_; rintro e w2 ⟨rfl, hb2⟩) | (go_at_call 10; refine (pn_Same _).mono ?_; rintro e w3 ⟨rfl, hb3⟩))
      go_roundw
      case rel => exact ⟨2, by decide, rfl, nx0_below (nx0_below hBel hb2) hb3 (Nat.le_trans hBel.size hb2.size)⟩
      case measure => decide
    | 2, _ =>
      go_wp2_with fail
      go_ret
      exact ⟨rfl, hb.trans ⟨hBel.os, hBel.tape, hBel.output, hBel.size, fun j hj => hBel.block j (Nat.lt_of_lt_of_le hj hb.size)⟩⟩
/-- THE ONE PURE STATEMENT of postilionlaw25_FrontNil. -/
def postilionlaw25_FrontNil.Pure : Prop := ∀ (a0 a1 : Int), (Lit.int .u8 a0).wf = true → (Lit.int .u8 a1).wf = true → True
theorem postilionlaw25_FrontNil.walk (_P : postilionlaw25_FrontNil.Pure) (a0 : Int) (a1 : Int) (w : World) (_w0 : (Lit.int .u8 a0).wf = true) (_w1 : (Lit.int .u8 a1).wf = true) :
    Calls Tryd.prog 3 #[.int .u8 a0, .int .u8 a1] w fun e w' => e = .returned (.bool true) ∧ Below w.heap.size w w' := postilionlaw25_FrontNil.calls a0 a1 w

end Go.Proofs.YtiocpkaplpilpaaDoor.P
