-- Laid by sp.py, a program of this session's, out of the translation and the session's own stand-ins.
import Derived.Test.YtnlggkihjfobkaaPx0
import Derived.Test.YtnlggkihjfobkaaStsextetEncode
import Derived.Test.YtnlggkihjfobkaaPx3
import Derived.Test.YtnlggkihjfobkaaPx8
import Derived.Lib.SlBytesConst
namespace Go.Proofs.Ytnlggkihjfobkaa.P
open Go.RowKit Go.Proofs.YtnlggkihjfobkaaW.PrintWords Go.Proofs.YtnlggkihjfobkaaW.PrintLast Go.Proofs.YtnlggkihjfobkaaW.PrintMore
attribute [local go_sem] max2_int min2_int max_two min_two max_three min_three max_four min_four   -- for this text's walks alone
set_option linter.unusedVariables false
set_option linter.unusedSimpArgs false
set_option linter.unnecessarySimpa false

/-! ### awake: a stand-in: texts as bytes by constants -/
def postilionlaw05_awake.f : Option Bool := some true
theorem lit_cell {W : World} {C : Array Value} {t : Nat} {fr : Nat × Nat} (j : Nat) : (W.alloc (.cells C t fr)).cell? ⟨W.heap.size, j, none⟩ = C[j]? := by
  have h : (W.alloc (.cells C t fr)).heap[W.heap.size]? = some (.cells C t fr) := by
    show (W.heap.push _)[W.heap.size]? = _
    simp
  rw [Lib.cell_of_heap h]
theorem lit_C {α : Type} (enc : α → Value) (h1 : ∀ x, (enc x).oneCell' = true) (d : α) (W : World) (t : Nat) (fr : Nat × Nat) (xs : List α) (hm : xs.length ≤ 1000) : Kd.C (Kd.scalar enc h1) (W.alloc (.cells (xs.map enc).toArray t fr)) (some ⟨W.heap.size, 0, none⟩) xs.length xs :=
  Kd.C_of_reads (d := d) (h1 := h1) ⟨rfl, by omega, fun _ => ⟨⟨W.heap.size, 0, none⟩, rfl, fun j hj => by
    rw [Addr.add_lit, Nat.zero_add, lit_cell]
    simp [List.getElem?_eq_getElem hj]⟩⟩
theorem bl_step {w W W' : World} {o : Obj} (h : Below w.heap.size w W) (hb : Below (W.heap.size + 1) (W.alloc o) W') : Below w.heap.size w W' :=
  (below_alloc h o).trans ⟨hb.os, hb.tape, hb.output, hb.size, fun j hj => hb.block j (Nat.lt_succ_of_lt (Nat.lt_of_lt_of_le hj h.size))⟩
theorem bl_next {w W W' : World} (h : Below w.heap.size w W) (hb : Below W.heap.size W W') : Below w.heap.size w W' :=
  h.trans ⟨hb.os, hb.tape, hb.output, hb.size, fun j hj => hb.block j (Nat.lt_of_lt_of_le hj h.size)⟩
theorem lit_B (W : World) (fr : Nat × Nat) (xs : List Int) (hm : xs.length ≤ 1000) : Kd.C (Kd.int .u8) (W.alloc (.cells (xs.map (Value.int .u8)).toArray 5 fr)) (some ⟨W.heap.size, 0, none⟩) xs.length xs := lit_C (Value.int .u8) (fun _ => rfl) 0 W 5 fr xs hm
theorem lit_S (W : World) (fr : Nat × Nat) (xs : List ByteArray) (hm : xs.length ≤ 1000) : Kd.C Kd.string (W.alloc (.cells (xs.map Value.string).toArray 9 fr)) (some ⟨W.heap.size, 0, none⟩) xs.length xs := lit_C Value.string (fun _ => rfl) ByteArray.empty W 9 fr xs hm
set_option maxHeartbeats 8000000 in
set_option maxRecDepth 100000 in
theorem postilionlaw05_awake.calls (r : Bool) (w : World) (h : postilionlaw05_awake.f = some r) :
    Calls Try.prog 14 #[] w fun e w' => e = .returned (.bool r) ∧ Below w.heap.size w w' := by
  obtain rfl := Option.some.inj h
  have kc := fun (w : World) (C : Array Value) (n c : Nat) => Lib.run_convert_bytes_const (P := Try.prog) w 22 5 C n c Try.underlying22 Try.underlying5
  have E0 : ∀ (W : World), Calls Try.prog 8 #[.slice none 0 0] W fun e w' => e = .returned (.string ⟨#[]⟩) ∧ Below W.heap.size W w' := fun W => sextet_Encode.calls none 0 [] ⟨#[]⟩ W (Kd.C_nil _ _) (Nat.le_refl _) (by decide +kernel)
  have E1 : ∀ (W : World) (fr : Nat × Nat), Calls Try.prog 8 #[.slice (some ⟨W.heap.size, 0, none⟩) 1 1] (W.alloc (.cells #[.int .u8 102] 5 fr)) fun e w' => e = .returned (.string ⟨#[90, 103, 61, 61]⟩) ∧ Below (W.heap.size + 1) (W.alloc (.cells #[.int .u8 102] 5 fr)) w' := fun W fr => by
    have h := sextet_Encode.calls (some ⟨W.heap.size, 0, none⟩) 1 [102] ⟨#[90, 103, 61, 61]⟩ _ (lit_B W fr [102] (by decide)) (Nat.le_refl _) (by decide +kernel)
    rw [show (W.alloc (.cells (([102] : List Int).map (Value.int .u8)).toArray 5 fr)).heap.size = W.heap.size + 1 from Array.size_push _] at h
    exact h
  have E2 : ∀ (W : World) (fr : Nat × Nat), Calls Try.prog 8 #[.slice (some ⟨W.heap.size, 0, none⟩) 2 2] (W.alloc (.cells #[.int .u8 102, .int .u8 111] 5 fr)) fun e w' => e = .returned (.string ⟨#[90, 109, 56, 61]⟩) ∧ Below (W.heap.size + 1) (W.alloc (.cells #[.int .u8 102, .int .u8 111] 5 fr)) w' := fun W fr => by
    have h := sextet_Encode.calls (some ⟨W.heap.size, 0, none⟩) 2 [102, 111] ⟨#[90, 109, 56, 61]⟩ _ (lit_B W fr [102, 111] (by decide)) (Nat.le_refl _) (by decide +kernel)
    rw [show (W.alloc (.cells (([102, 111] : List Int).map (Value.int .u8)).toArray 5 fr)).heap.size = W.heap.size + 1 from Array.size_push _] at h
    exact h
  have E3 : ∀ (W : World) (fr : Nat × Nat), Calls Try.prog 8 #[.slice (some ⟨W.heap.size, 0, none⟩) 3 3] (W.alloc (.cells #[.int .u8 102, .int .u8 111, .int .u8 111] 5 fr)) fun e w' => e = .returned (.string ⟨#[90, 109, 57, 118]⟩) ∧ Below (W.heap.size + 1) (W.alloc (.cells #[.int .u8 102, .int .u8 111, .int .u8 111] 5 fr)) w' := fun W fr => by
    have h := sextet_Encode.calls (some ⟨W.heap.size, 0, none⟩) 3 [102, 111, 111] ⟨#[90, 109, 57, 118]⟩ _ (lit_B W fr [102, 111, 111] (by decide)) (Nat.le_refl _) (by decide +kernel)
    rw [show (W.alloc (.cells (([102, 111, 111] : List Int).map (Value.int .u8)).toArray 5 fr)).heap.size = W.heap.size + 1 from Array.size_push _] at h
    exact h
  have E4 : ∀ (W : World) (fr : Nat × Nat), Calls Try.prog 8 #[.slice (some ⟨W.heap.size, 0, none⟩) 6 6] (W.alloc (.cells #[.int .u8 102, .int .u8 111, .int .u8 111, .int .u8 98, .int .u8 97, .int .u8 114] 5 fr)) fun e w' => e = .returned (.string ⟨#[90, 109, 57, 118, 89, 109, 70, 121]⟩) ∧ Below (W.heap.size + 1) (W.alloc (.cells #[.int .u8 102, .int .u8 111, .int .u8 111, .int .u8 98, .int .u8 97, .int .u8 114] 5 fr)) w' := fun W fr => by
    have h := sextet_Encode.calls (some ⟨W.heap.size, 0, none⟩) 6 [102, 111, 111, 98, 97, 114] ⟨#[90, 109, 57, 118, 89, 109, 70, 121]⟩ _ (lit_B W fr [102, 111, 111, 98, 97, 114] (by decide)) (Nat.le_refl _) (by decide +kernel)
    rw [show (W.alloc (.cells (([102, 111, 111, 98, 97, 114] : List Int).map (Value.int .u8)).toArray 5 fr)).heap.size = W.heap.size + 1 from Array.size_push _] at h
    exact h
  have E5 : ∀ (W : World) (fr : Nat × Nat), Calls Try.prog 8 #[.slice (some ⟨W.heap.size, 0, none⟩) 3 3] (W.alloc (.cells #[.int .u8 255, .int .u8 254, .int .u8 253] 5 fr)) fun e w' => e = .returned (.string ⟨#[47, 47, 55, 57]⟩) ∧ Below (W.heap.size + 1) (W.alloc (.cells #[.int .u8 255, .int .u8 254, .int .u8 253] 5 fr)) w' := fun W fr => by
    have h := sextet_Encode.calls (some ⟨W.heap.size, 0, none⟩) 3 [255, 254, 253] ⟨#[47, 47, 55, 57]⟩ _ (lit_B W fr [255, 254, 253] (by decide)) (Nat.le_refl _) (by decide +kernel)
    rw [show (W.alloc (.cells (([255, 254, 253] : List Int).map (Value.int .u8)).toArray 5 fr)).heap.size = W.heap.size + 1 from Array.size_push _] at h
    exact h
  have N0 : ∀ (W : World) (fr : Nat × Nat), Calls Try.prog 24 #[.slice (some ⟨W.heap.size, 0, none⟩) 5 5] (W.alloc (.cells #[.string ⟨#[90, 103]⟩, .string ⟨#[90, 104, 61, 61]⟩, .string ⟨#[90, 103, 61]⟩, .string ⟨#[61]⟩, .string ⟨#[90, 109, 57, 118, 32]⟩] 9 fr)) fun e w' => e = .returned (.bool true) ∧ Below (W.heap.size + 1) (W.alloc (.cells #[.string ⟨#[90, 103]⟩, .string ⟨#[90, 104, 61, 61]⟩, .string ⟨#[90, 103, 61]⟩, .string ⟨#[61]⟩, .string ⟨#[90, 109, 57, 118, 32]⟩] 9 fr)) w' := fun W fr => by
    have h := postilionlaw05_none.calls 1000 (some ⟨W.heap.size, 0, none⟩) 5 [⟨#[90, 103]⟩, ⟨#[90, 104, 61, 61]⟩, ⟨#[90, 103, 61]⟩, ⟨#[61]⟩, ⟨#[90, 109, 57, 118, 32]⟩] true _ (lit_S W fr [⟨#[90, 103]⟩, ⟨#[90, 104, 61, 61]⟩, ⟨#[90, 103, 61]⟩, ⟨#[61]⟩, ⟨#[90, 109, 57, 118, 32]⟩] (by decide)) (Nat.le_refl _) (by decide +kernel)
    rw [show (W.alloc (.cells (([⟨#[90, 103]⟩, ⟨#[90, 104, 61, 61]⟩, ⟨#[90, 103, 61]⟩, ⟨#[61]⟩, ⟨#[90, 109, 57, 118, 32]⟩] : List ByteArray).map Value.string).toArray 9 fr)).heap.size = W.heap.size + 1 from Array.size_push _] at h
    exact h
  have S0 : ∀ (W : World), Calls Try.prog 10 #[.int .i64 0] W fun e w' => e = .returned (.int .i64 0) ∧ Below W.heap.size W w' := fun W => sextet_Size.calls 0 0 W (by decide +kernel)
  have S1 : ∀ (W : World), Calls Try.prog 10 #[.int .i64 1] W fun e w' => e = .returned (.int .i64 4) ∧ Below W.heap.size W w' := fun W => sextet_Size.calls 1 4 W (by decide +kernel)
  have S3 : ∀ (W : World), Calls Try.prog 10 #[.int .i64 3] W fun e w' => e = .returned (.int .i64 4) ∧ Below W.heap.size W w' := fun W => sextet_Size.calls 3 4 W (by decide +kernel)
  have S4 : ∀ (W : World), Calls Try.prog 10 #[.int .i64 4] W fun e w' => e = .returned (.int .i64 8) ∧ Below W.heap.size W w' := fun W => sextet_Size.calls 4 8 W (by decide +kernel)
  go_enter Try.func14, Try.ntmps14
  go_wp2_with (first | (go_at_call 8; (with_reducible refine (E0 _).mono ?_); rintro e v0 ⟨rfl, hb0⟩) | (go_at_call 8; (with_reducible refine (E1 _ _).mono ?_); rintro e v1 ⟨rfl, hb1⟩) | (go_at_call 8; (with_reducible refine (E2 _ _).mono ?_); rintro e v2 ⟨rfl, hb2⟩) | (go_at_call 8; (with_reducible refine (E3 _ _).mono ?_); rintro e v3 ⟨rfl, hb3⟩) | (go_at_call 8; (with_reducible refine (E4 _ _).mono ?_); rintro e v4 ⟨rfl, hb4⟩) | (go_at_call 8; (with_reducible refine (E5 _ _).mono ?_); rintro e v5 ⟨rfl, hb5⟩) | (go_at_call 24; (with_reducible refine (N0 _ _).mono ?_); rintro e v9 ⟨rfl, hb9⟩) | (go_at_call 10; (with_reducible refine (S0 _).mono ?_); rintro e s0 ⟨rfl, hs0⟩) | (go_at_call 10; (with_reducible refine (S1 _).mono ?_); rintro e s1 ⟨rfl, hs1⟩) | (go_at_call 10; (with_reducible refine (S3 _).mono ?_); rintro e s3 ⟨rfl, hs3⟩) | (go_at_call 10; (with_reducible refine (S4 _).mono ?_); rintro e s4 ⟨rfl, hs4⟩))
  go_ret
  exact ⟨rfl, bl_step (bl_next (bl_next (bl_next (bl_next (bl_step (bl_step (bl_step (bl_step (bl_step hb0 hb1) hb2) hb3) hb4) hb5) hs0) hs1) hs3) hs4) hb9⟩

end Go.Proofs.Ytnlggkihjfobkaa.P
