-- Laid by sp.py, a program of this session's, out of the translation and the session's own stand-ins.
import Derived.Test.YtnajlpmpofljhaaPx0
namespace Go.Proofs.Ytnajlpmpofljhaa.P
open Go.RowKit Go.Proofs.YtnajlpmpofljhaaW.PrintWords Go.Proofs.YtnajlpmpofljhaaW.PrintLast Go.Proofs.YtnajlpmpofljhaaW.PrintMore
attribute [local go_sem] max2_int min2_int max_two min_two max_three min_three max_four min_four   -- for this text's walks alone
set_option linter.unusedVariables false
set_option linter.unusedSimpArgs false
set_option linter.unnecessarySimpa false

/-! ### ProbeNil: a law by hand: a nil plan, and one of zeros -/
theorem hp_cell {W : World} {B : Nat} {C : Array Value} {t : Nat} {fr : Nat × Nat} (h : W.heap[B]? = some (.cells C t fr)) (j : Nat) : W.cell? ⟨B, j, none⟩ = C[j]? := by
  simp [World.cell?, h]
/-- Nobody made this. -/
def pnNone (W : World) (p : Option Addr) : Prop := p = none ∨ ∃ b, p = some ⟨b, 0, none⟩ ∧ W.cell? ⟨b, 0, none⟩ = some (.int .i64 0)
theorem pn_none (p : Option Addr) (W : World) (h : pnNone W p) : Calls Try.prog 24 #[.pointer p] W fun e W' => e = .returned (.bool true) ∧ W' = W := by
  rcases h with rfl | ⟨b, rfl, c⟩
  · go_enter Try.func24, Try.ntmps24
    go_wp2_with fail
    go_ret
    exact ⟨rfl, rfl⟩
  · go_enter Try.func24, Try.ntmps24
    go_wp2_with fail
    go_ret
    exact ⟨rfl, rfl⟩
theorem pn_Add (p : Option Addr) (n : Int) (W : World) (h : pnNone W p) : Calls Try.prog 9 #[.pointer p, .int .i64 n] W fun e W' => e = .returned (.int .i64 1) ∧ W' = W := by
  go_enter Try.func9, Try.ntmps9
  go_wp2_with (go_at_call 24; refine (pn_none p _ h).mono ?_; rintro e w1 ⟨rfl, rfl⟩)
  go_ret
  exact ⟨rfl, rfl⟩
theorem pn_Drop (p : Option Addr) (n : Int) (W : World) (h : pnNone W p) : Calls Try.prog 12 #[.pointer p, .int .i64 n] W fun e W' => e = .returned (.int .i64 1) ∧ W' = W := by
  go_enter Try.func12, Try.ntmps12
  go_wp2_with (go_at_call 24; refine (pn_none p _ h).mono ?_; rintro e w1 ⟨rfl, rfl⟩)
  go_ret
  exact ⟨rfl, rfl⟩
theorem pn_Every (p : Option Addr) (n : Int) (W : World) (h : pnNone W p) : Calls Try.prog 13 #[.pointer p, .int .i64 n] W fun e W' => e = .returned (.int .i64 1) ∧ W' = W := by
  go_enter Try.func13, Try.ntmps13
  go_wp2_with (go_at_call 24; refine (pn_none p _ h).mono ?_; rintro e w1 ⟨rfl, rfl⟩)
  go_ret
  exact ⟨rfl, rfl⟩
theorem pn_Round (p : Option Addr) (n : Int) (v : Value) (W : World) (h : pnNone W p) : Calls Try.prog 11 #[.pointer p, .int .i64 n, v] W fun e W' => e = .returned (.slice none 0 0) ∧ W' = W := by
  go_enter Try.func11, Try.ntmps11
  go_wp2_with fail
  go_step3
  go_wp2_with (go_at_call 24; refine (pn_none p _ h).mono ?_; rintro e w1 ⟨rfl, rfl⟩)
  rw [Exit.noGoto_ret]
  go_ret
  exact ⟨rfl, rfl⟩
theorem pn_Keys (p : Option Addr) (W : World) (h : pnNone W p) : Calls Try.prog 14 #[.pointer p] W fun e W' => e = .returned (.slice none 0 0) ∧ W' = W := by
  go_enter Try.func14, Try.ntmps14
  go_wp2_with (go_at_call 24; refine (pn_none p _ h).mono ?_; rintro e w1 ⟨rfl, rfl⟩)
  go_ret
  exact ⟨rfl, rfl⟩
set_option maxHeartbeats 4000000 in
theorem postilionlaw10_ProbeNil.calls (n : Int) (A0 : Option Addr) (len c0 : Nat) (w : World) (hl : len ≤ 9223372036854775807) : Calls Try.prog 5 #[.int .i64 n, .slice A0 len c0] w fun e w' => e = .returned (.bool true) ∧ Below w.heap.size w w' := by
  by_cases hg : 100 < len
  · have q1 : decide (100 < (len : Int)) = true := decide_eq_true (by omega)
    go_enter Try.func5, Try.ntmps5
    go_wp2_with fail
    go_ret
    exact ⟨rfl, Below.refl _ _⟩
  · have q1 : decide (100 < (len : Int)) = false := decide_eq_false (by omega)
    go_enter Try.func5, Try.ntmps5
    go_wp2_with fail
    obtain ⟨W0, hW0⟩ : ∃ W0, W0 = ((w.alloc (.cells #[.int .i64 0, .slice none 0 0] 36)).alloc (.cells #[.pointer none, .pointer (some ⟨w.heap.size, 0, none⟩)] 24)) := ⟨_, rfl⟩
    have k0 := blk_alloc (heap_alloc_new w (.cells #[.int .i64 0, .slice none 0 0] 36)) (.cells #[.pointer none, .pointer (some ⟨w.heap.size, 0, none⟩)] 24)
    have k1 := heap_alloc_new (w.alloc (.cells #[.int .i64 0, .slice none 0 0] 36)) (.cells #[.pointer none, .pointer (some ⟨w.heap.size, 0, none⟩)] 24)
    have s1 : (w.alloc (.cells #[.int .i64 0, .slice none 0 0] 36)).heap.size = w.heap.size + 1 := Array.size_push _
    have hb : Below w.heap.size w W0 := by rw [hW0]; exact below_alloc (below_alloc (Below.refl _ _) _) _
    rw [s1] at k1
    rw [← hW0] at k0 k1 ⊢
    have e0 : W0.cell? ⟨w.heap.size, 0, none⟩ = some (.int .i64 0) := by rw [hp_cell k0]; rfl
    have c1 : W0.cell? ⟨w.heap.size + 1, 0, none⟩ = some (.pointer none) := by rw [hp_cell k1]; rfl
    have c2 : W0.cell? ⟨w.heap.size + 1, 1, none⟩ = some (.pointer (some ⟨w.heap.size, 0, none⟩)) := by rw [hp_cell k1]; rfl
    clear k0 k1 s1 hW0
    go_loopw [7] (fun v wr => ∃ k : Nat, k ≤ 2 ∧ v = .int .i64 (k : Int) ∧ wr = W0) (fun v _ => 2 - (intOf v).toNat)
    case atStart => exact ⟨0, by decide, rfl, rfl⟩
    case round =>
      obtain ⟨k, hk, rfl, hw⟩ := hrel
      obtain rfl := hw.symm
      match k, hk with
      | 0, _ =>
        have hN : pnNone W0 none := .inl rfl
        go_wp2_with (first | (go_at_call 9; refine (pn_Add _ n _ (by assumption)).mono ?_; rintro e w1 ⟨rfl, hw⟩; obtain rfl := hw.symm) | (go_at_call 12; refine (pn_Drop _ n _ (by assumption)).mono ?_; rintro e w1 ⟨rfl, hw⟩; obtain rfl := hw.symm) | (go_at_call 13; refine (pn_Every _ n _ (by assumption)).mono ?_; rintro e w1 ⟨rfl, hw⟩; obtain rfl := hw.symm) | (go_at_call 11; refine (pn_Round _ n _ _ (by assumption)).mono ?_; rintro e w1 ⟨rfl, hw⟩; obtain rfl := hw.symm) | (go_at_call 14; refine (pn_Keys _ _ (by assumption)).mono ?_; rintro e w1 ⟨rfl, hw⟩; obtain rfl := hw.symm))
        go_roundw
        case rel => exact ⟨1, by decide, rfl, trivial⟩
        case measure => decide
      | 1, _ =>
        have hN : pnNone W0 (some ⟨w.heap.size, 0, none⟩) := .inr ⟨_, rfl, e0⟩
        go_wp2_with (first | (go_at_call 9; refine (pn_Add _ n _ (by assumption)).mono ?_; rintro e w1 ⟨rfl, hw⟩; obtain rfl := hw.symm) | (go_at_call 12; refine (pn_Drop _ n _ (by assumption)).mono ?_; rintro e w1 ⟨rfl, hw⟩; obtain rfl := hw.symm) | (go_at_call 13; refine (pn_Every _ n _ (by assumption)).mono ?_; rintro e w1 ⟨rfl, hw⟩; obtain rfl := hw.symm) | (go_at_call 11; refine (pn_Round _ n _ _ (by assumption)).mono ?_; rintro e w1 ⟨rfl, hw⟩; obtain rfl := hw.symm) | (go_at_call 14; refine (pn_Keys _ _ (by assumption)).mono ?_; rintro e w1 ⟨rfl, hw⟩; obtain rfl := hw.symm))
        go_roundw
        case rel => exact ⟨2, by decide, rfl, trivial⟩
        case measure => decide
      | 2, _ =>
        go_wp2_with fail
        go_ret
        exact ⟨rfl, hb⟩
/-- THE ONE PURE STATEMENT of postilionlaw10_ProbeNil. -/
def postilionlaw10_ProbeNil.Pure : Prop := ∀ (a0 : Int) (l1 : List Int), (Lit.int .i64 a0).wf = true → l1.length ≤ maxLen → True
theorem postilionlaw10_ProbeNil.walk (_P : postilionlaw10_ProbeNil.Pure) (a0 : Int) (a1 : Option Addr) (len1 cap1 : Nat) (z1 : List Int) (w : World) (_w0 : (Lit.int .i64 a0).wf = true) (w1 : (a1 = none ∧ len1 = 0 ∧ cap1 = 0 ∧ z1 = []) ∨ ∃ x, a1 = some x ∧ len1 ≤ cap1 ∧ cap1 ≤ maxLen ∧ z1.length = cap1 ∧ (∀ i, i < z1.length → w.cell? (x.add i) = some (.int .i64 (z1.getD i 0))) ∧ ∀ n ∈ z1, (Lit.int .i64 n).wf = true) (_y1 : len1 * 8 ≤ 140737488351232) :
    Calls Try.prog 5 #[.int .i64 a0, .slice a1 len1 cap1] w fun e w' => e = .returned (.bool true) ∧ Below w.heap.size w w' := by
  refine postilionlaw10_ProbeNil.calls a0 a1 len1 cap1 w ?_
  rcases w1 with ⟨_, h, _⟩ | ⟨_, _, h1, h2, _⟩
  · omega
  · exact Nat.le_trans h1 h2

end Go.Proofs.Ytnajlpmpofljhaa.P
