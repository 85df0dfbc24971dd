-- Laid by sp.py, a program of this session's, out of the translation and the session's own stand-ins.
import Derived.Test.YtnlckandbgpncaaPx0
namespace Go.Proofs.Ytnlckandbgpncaa.P
open Go.RowKit Go.Proofs.YtnlckandbgpncaaW.PrintWords Go.Proofs.YtnlckandbgpncaaW.PrintLast Go.Proofs.YtnlckandbgpncaaW.PrintMore
attribute [local go_sem] max2_int min2_int max_two min_two max_three min_three max_four min_four   -- for this text's walks alone
set_option linter.unusedVariables false
set_option linter.unusedSimpArgs false
set_option linter.unnecessarySimpa false

/-! ### RackNil: a law by hand: a nil pointer, and one to zeros -/
theorem hp_cell {W : World} {B : Nat} {C : Array Value} {t : Nat} {fr : Nat × Nat} (h : W.heap[B]? = some (.cells C t fr)) (j : Nat) : W.cell? ⟨B, j, none⟩ = C[j]? := by
  simp [World.cell?, h]
/-- Nobody made this. -/
def pnNone (W : World) (p : Option Addr) : Prop := p = none ∨ ∃ b, p = some ⟨b, 0, none⟩ ∧ W.cell? ⟨b, 2, none⟩ = some (.int .i64 0)
theorem pn_none (p : Option Addr) (W : World) (h : pnNone W p) : Calls Try.prog 25 #[.pointer p] W fun e W' => e = .returned (.bool true) ∧ W' = W := by
  rcases h with rfl | ⟨b, rfl, c⟩
  · go_enter Try.func25, Try.ntmps25
    go_wp2_with fail
    go_ret
    exact ⟨rfl, rfl⟩
  · go_enter Try.func25, Try.ntmps25
    go_wp2_with fail
    go_ret
    exact ⟨rfl, rfl⟩
theorem pn_Give (p : Option Addr) (n : Int) (W : World) (h : pnNone W p) : Calls Try.prog 11 #[.pointer p, .int .i64 n] W fun e W' => e = .returned (.tuple #[.int .i64 0, .int .i64 1]) ∧ W' = W := by
  go_enter Try.func11, Try.ntmps11
  go_wp2_with (go_at_call 25; refine (pn_none p _ h).mono ?_; rintro e w1 ⟨rfl, rfl⟩)
  go_ret2
  exact ⟨rfl, rfl⟩
theorem pn_Get (p : Option Addr) (n : Int) (W : World) (h : pnNone W p) : Calls Try.prog 14 #[.pointer p, .int .i64 n] W fun e W' => e = .returned (.tuple #[.int .i64 0, .int .i64 1]) ∧ W' = W := by
  go_enter Try.func14, Try.ntmps14
  go_wp2_with (go_at_call 25; refine (pn_none p _ h).mono ?_; rintro e w1 ⟨rfl, rfl⟩)
  go_ret2
  exact ⟨rfl, rfl⟩
theorem pn_Hold (p : Option Addr) (n m : Int) (W : World) (h : pnNone W p) : Calls Try.prog 12 #[.pointer p, .int .i64 n, .int .i64 m] W fun e W' => e = .returned (.int .i64 1) ∧ W' = W := by
  go_enter Try.func12, Try.ntmps12
  go_wp2_with (go_at_call 25; refine (pn_none p _ h).mono ?_; rintro e w1 ⟨rfl, rfl⟩)
  go_ret
  exact ⟨rfl, rfl⟩
theorem pn_Set (p : Option Addr) (n m : Int) (W : World) (h : pnNone W p) : Calls Try.prog 15 #[.pointer p, .int .i64 n, .int .i64 m] W fun e W' => e = .returned (.int .i64 1) ∧ W' = W := by
  go_enter Try.func15, Try.ntmps15
  go_wp2_with (go_at_call 14; refine (pn_Get p _ _ h).mono ?_; rintro e w1 ⟨rfl, rfl⟩)
  go_ret
  exact ⟨rfl, rfl⟩
theorem pn_Drop (p : Option Addr) (n : Int) (W : World) (h : pnNone W p) : Calls Try.prog 13 #[.pointer p, .int .i64 n] W fun e W' => e = .returned (.int .i64 1) ∧ W' = W := by
  go_enter Try.func13, Try.ntmps13
  go_wp2_with (go_at_call 14; refine (pn_Get p _ _ h).mono ?_; rintro e w1 ⟨rfl, rfl⟩)
  go_ret
  exact ⟨rfl, rfl⟩
theorem pn_Len (p : Option Addr) (W : World) (h : pnNone W p) : Calls Try.prog 16 #[.pointer p] W fun e W' => e = .returned (.int .i64 0) ∧ W' = W := by
  go_enter Try.func16, Try.ntmps16
  go_wp2_with (go_at_call 25; refine (pn_none p _ h).mono ?_; rintro e w1 ⟨rfl, rfl⟩)
  go_ret
  exact ⟨rfl, rfl⟩
theorem pn_IDs (p : Option Addr) (W : World) (h : pnNone W p) : Calls Try.prog 10 #[.pointer p] W fun e W' => e = .returned (.slice none 0 0) ∧ W' = W := by
  go_enter Try.func10, Try.ntmps10
  go_wp2_with (go_at_call 25; refine (pn_none p _ h).mono ?_; rintro e w1 ⟨rfl, rfl⟩)
  go_ret
  exact ⟨rfl, rfl⟩
set_option maxHeartbeats 4000000 in
theorem postilionlaw03_RackNil.calls (n m : Int) (w : World) : Calls Try.prog 4 #[.int .i64 n, .int .i64 m] w fun e w' => e = .returned (.bool true) ∧ Below w.heap.size w w' := by
  go_enter Try.func4, Try.ntmps4
  go_wp2_with fail
  obtain ⟨W0, hW0⟩ : ∃ W0, W0 = ((w.alloc (.cells #[.slice none 0 0, .slice none 0 0, .int .i64 0, .int .i64 0, .int .i64 0] 42)).alloc (.cells #[.pointer none, .pointer (some ⟨w.heap.size, 0, none⟩)] 25)) := ⟨_, rfl⟩
  have k0 := blk_alloc (heap_alloc_new w (.cells #[.slice none 0 0, .slice none 0 0, .int .i64 0, .int .i64 0, .int .i64 0] 42)) (.cells #[.pointer none, .pointer (some ⟨w.heap.size, 0, none⟩)] 25)
  have k1 := heap_alloc_new (w.alloc (.cells #[.slice none 0 0, .slice none 0 0, .int .i64 0, .int .i64 0, .int .i64 0] 42)) (.cells #[.pointer none, .pointer (some ⟨w.heap.size, 0, none⟩)] 25)
  have s1 : (w.alloc (.cells #[.slice none 0 0, .slice none 0 0, .int .i64 0, .int .i64 0, .int .i64 0] 42)).heap.size = w.heap.size + 1 := Array.size_push _
  have hb : Below w.heap.size w W0 := by rw [hW0]; exact below_alloc (below_alloc (Below.refl _ _) _) _
  rw [s1] at k1
  rw [← hW0] at k0 k1 ⊢
  have e0 : W0.cell? ⟨w.heap.size, 2, none⟩ = some (.int .i64 0) := by rw [hp_cell k0]; rfl
  have c1 : W0.cell? ⟨w.heap.size + 1, 0, none⟩ = some (.pointer none) := by rw [hp_cell k1]; rfl
  have c2 : W0.cell? ⟨w.heap.size + 1, 1, none⟩ = some (.pointer (some ⟨w.heap.size, 0, none⟩)) := by rw [hp_cell k1]; rfl
  clear k0 k1 s1 hW0
  go_loopw [7] (fun v wr => ∃ k : Nat, k ≤ 2 ∧ v = .int .i64 (k : Int) ∧ wr = W0) (fun v _ => 2 - (intOf v).toNat)
  case atStart => exact ⟨0, by decide, rfl, rfl⟩
  case round =>
    obtain ⟨k, hk, rfl, hw⟩ := hrel
    obtain rfl := hw.symm
    match k, hk with
    | 0, _ =>
      have hN : pnNone W0 none := .inl rfl
      go_wp2_with (first | (go_at_call 11; refine (pn_Give _ _ _ (by assumption)).mono ?_; rintro e w1 ⟨rfl, hw⟩; obtain rfl := hw.symm) | (go_at_call 14; refine (pn_Get _ _ _ (by assumption)).mono ?_; rintro e w1 ⟨rfl, hw⟩; obtain rfl := hw.symm) | (go_at_call 12; refine (pn_Hold _ _ _ _ (by assumption)).mono ?_; rintro e w1 ⟨rfl, hw⟩; obtain rfl := hw.symm) | (go_at_call 15; refine (pn_Set _ _ _ _ (by assumption)).mono ?_; rintro e w1 ⟨rfl, hw⟩; obtain rfl := hw.symm) | (go_at_call 13; refine (pn_Drop _ _ _ (by assumption)).mono ?_; rintro e w1 ⟨rfl, hw⟩; obtain rfl := hw.symm) | (go_at_call 16; refine (pn_Len _ _ (by assumption)).mono ?_; rintro e w1 ⟨rfl, hw⟩; obtain rfl := hw.symm) | (go_at_call 10; refine (pn_IDs _ _ (by assumption)).mono ?_; rintro e w1 ⟨rfl, hw⟩; obtain rfl := hw.symm))
      go_roundw
      case rel => exact ⟨1, by decide, rfl, trivial⟩
      case measure => decide
    | 1, _ =>
      have hN : pnNone W0 (some ⟨w.heap.size, 0, none⟩) := .inr ⟨_, rfl, e0⟩
      go_wp2_with (first | (go_at_call 11; refine (pn_Give _ _ _ (by assumption)).mono ?_; rintro e w1 ⟨rfl, hw⟩; obtain rfl := hw.symm) | (go_at_call 14; refine (pn_Get _ _ _ (by assumption)).mono ?_; rintro e w1 ⟨rfl, hw⟩; obtain rfl := hw.symm) | (go_at_call 12; refine (pn_Hold _ _ _ _ (by assumption)).mono ?_; rintro e w1 ⟨rfl, hw⟩; obtain rfl := hw.symm) | (go_at_call 15; refine (pn_Set _ _ _ _ (by assumption)).mono ?_; rintro e w1 ⟨rfl, hw⟩; obtain rfl := hw.symm) | (go_at_call 13; refine (pn_Drop _ _ _ (by assumption)).mono ?_; rintro e w1 ⟨rfl, hw⟩; obtain rfl := hw.symm) | (go_at_call 16; refine (pn_Len _ _ (by assumption)).mono ?_; rintro e w1 ⟨rfl, hw⟩; obtain rfl := hw.symm) | (go_at_call 10; refine (pn_IDs _ _ (by assumption)).mono ?_; rintro e w1 ⟨rfl, hw⟩; obtain rfl := hw.symm))
      go_roundw
      case rel => exact ⟨2, by decide, rfl, trivial⟩
      case measure => decide
    | 2, _ =>
      go_wp2_with fail
      go_ret
      exact ⟨rfl, hb⟩
/-- THE ONE PURE STATEMENT of postilionlaw03_RackNil. -/
def postilionlaw03_RackNil.Pure : Prop := ∀ (a0 a1 : Int), (Lit.int .i64 a0).wf = true → (Lit.int .i64 a1).wf = true → True
theorem postilionlaw03_RackNil.walk (_P : postilionlaw03_RackNil.Pure) (a0 : Int) (a1 : Int) (w : World) (_w0 : (Lit.int .i64 a0).wf = true) (_w1 : (Lit.int .i64 a1).wf = true) :
    Calls Try.prog 4 #[.int .i64 a0, .int .i64 a1] w fun e w' => e = .returned (.bool true) ∧ Below w.heap.size w w' := postilionlaw03_RackNil.calls a0 a1 w

end Go.Proofs.Ytnlckandbgpncaa.P
