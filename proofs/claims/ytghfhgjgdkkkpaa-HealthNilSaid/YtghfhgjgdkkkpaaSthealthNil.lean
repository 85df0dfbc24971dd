-- Laid by sp.py, a program of this session's, out of the translation and the session's own stand-ins.
import Derived.Test.YtghfhgjgdkkkpaaPx0
import Derived.Test.YtghfhgjgdkkkpaaPx2
namespace Go.Proofs.Ytghfhgjgdkkkpaa.P
open Go.RowKit Go.Proofs.YtghfhgjgdkkkpaaW.PrintWords Go.Proofs.YtghfhgjgdkkkpaaW.PrintLast Go.Proofs.YtghfhgjgdkkkpaaW.PrintMore
attribute [local go_sem] max2_int min2_int max_two min_two max_three min_three max_four min_four   -- for this text's walks alone
set_option linter.unusedVariables false
set_option linter.unusedSimpArgs false
set_option linter.unnecessarySimpa false

/-! ### HealthNil: a law by hand: nil health, and one of zeros -/
theorem hp_cell {W : World} {B : Nat} {C : Array Value} {t : Nat} {fr : Nat × Nat} (h : W.heap[B]? = some (.cells C t fr)) (j : Nat) : W.cell? ⟨B, j, none⟩ = C[j]? := by
  simp [World.cell?, h]
/-- Nobody made this. -/
def pnNone (W : World) (p : Option Addr) : Prop := p = none ∨ ∃ b, p = some ⟨b, 0, none⟩ ∧ b < W.heap.size ∧ W.cell? ⟨b, 12, none⟩ = some (.int .i64 0)
theorem pnNone.below {W W' : World} {p : Option Addr} (h : pnNone W p) (hb : Below W.heap.size W W') : pnNone W' p := by
  rcases h with rfl | ⟨b, rfl, hl, c⟩
  · exact .inl rfl
  · refine .inr ⟨b, rfl, Nat.lt_of_lt_of_le hl hb.size, ?_⟩
    unfold World.cell? at c ⊢
    rw [hb.block b hl]
    exact c
theorem pn_step {w a b : World} (h : Below w.heap.size w a) (hb : Below a.heap.size a b) : Below w.heap.size w b :=
  h.trans ⟨hb.os, hb.tape, hb.output, hb.size, fun j hj => hb.block j (Nat.lt_of_lt_of_le hj h.size)⟩
theorem pn_none (p : Option Addr) (W : World) (h : pnNone W p) : Calls Try.prog 34 #[.pointer p] W fun e W' => e = .returned (.bool true) ∧ W' = W := by
  rcases h with rfl | ⟨b, rfl, _, c⟩
  · go_enter Try.func34, Try.ntmps34
    go_wp2_with fail
    go_ret
    exact ⟨rfl, rfl⟩
  · go_enter Try.func34, Try.ntmps34
    go_wp2_with fail
    go_ret
    exact ⟨rfl, rfl⟩
theorem pn_at (p : Option Addr) (i : Int) (W : World) (h : pnNone W p) : Calls Try.prog 35 #[.pointer p, .int .i64 i] W fun e W' => e = .returned (.pointer none) ∧ W' = W := by
  go_enter Try.func35, Try.ntmps35
  go_wp2_with (go_at_call 34; refine (pn_none p _ h).mono ?_; rintro e w1 ⟨rfl, rfl⟩)
  go_ret
  exact ⟨rfl, rfl⟩
theorem pn_Try (p : Option Addr) (i : Int) (W : World) (h : pnNone W p) : Calls Try.prog 9 #[.pointer p, .int .i64 i] W fun e W' => e = .returned (.tuple #[.bool false, .int .i64 1]) ∧ W' = W := by
  go_enter Try.func9, Try.ntmps9
  go_wp2_with (go_at_call 34; refine (pn_none p _ h).mono ?_; rintro e w1 ⟨rfl, rfl⟩)
  go_ret2
  exact ⟨rfl, rfl⟩
theorem pn_Now (p : Option Addr) (W : World) (h : pnNone W p) : Calls Try.prog 13 #[.pointer p] W fun e W' => e = .returned (.int .i64 0) ∧ W' = W := by
  go_enter Try.func13, Try.ntmps13
  go_wp2_with (go_at_call 34; refine (pn_none p _ h).mono ?_; rintro e w1 ⟨rfl, rfl⟩)
  go_ret
  exact ⟨rfl, rfl⟩
theorem pn_Tick (p : Option Addr) (W : World) (h : pnNone W p) : Calls Try.prog 12 #[.pointer p] W fun e W' => e = .returned (.slice none 0 0) ∧ W' = W := by
  go_enter Try.func12, Try.ntmps12
  go_wp2_with (go_at_call 34; refine (pn_none p _ h).mono ?_; rintro e w1 ⟨rfl, rfl⟩)
  go_ret
  exact ⟨rfl, rfl⟩
theorem pn_Key (p : Option Addr) (i : Int) (W : World) (h : pnNone W p) : Calls Try.prog 14 #[.pointer p, .int .i64 i] W fun e W' => e = .returned (.int .i64 0) ∧ W' = W := by
  go_enter Try.func14, Try.ntmps14
  go_wp2_with (go_at_call 35; refine (pn_at p i _ h).mono ?_; rintro e w1 ⟨rfl, rfl⟩)
  go_ret
  exact ⟨rfl, rfl⟩
theorem pn_Lets (p : Option Addr) (i : Int) (W : World) (h : pnNone W p) : Calls Try.prog 16 #[.pointer p, .int .i64 i] W fun e W' => e = .returned (.bool false) ∧ Below W.heap.size W W' := by
  go_enter Try.func16, Try.ntmps16
  go_wp2_with (go_at_call 35; refine (pn_at p i _ h).mono ?_; rintro e w1 ⟨rfl, rfl⟩)
  refine start_ (n := 14) (S := fun w' => True) (ds := []) #[false, false, false, false, false, false, false, false, false, false, false, false, false, false] (by kernel_rfl) rfl rfl trivial (fun hHeld => ?_)
  refine pure_ (i := 0) (N := some 9) (v := ?_) (a' := ?_) #[true, false, false, false, false, false, false, false, false, false, false, false, false, false] rfl rfl (by kernel_rfl) (fun _ _ _ h => h) (Or.inl ⟨by rfl, ?_⟩) ?_ ?_
  rotate_left
  · intro w'
    go_simp
    with_reducible rfl
  rotate_left
  · simp only [Act.put, List.setIfInBounds_toArray, List.set_cons_zero, List.set_cons_succ, i64_w, i32_w]
    rfl
  refine pure_ (i := 1) (N := some 10) (v := ?_) (a' := ?_) #[true, true, false, false, false, false, false, false, false, false, false, false, false, false] rfl rfl (by kernel_rfl) (fun _ _ _ h => h) (Or.inl ⟨by rfl, ?_⟩) ?_ ?_
  rotate_left
  · intro w'
    go_simp
    with_reducible rfl
  rotate_left
  · simp only [Act.put, List.setIfInBounds_toArray, List.set_cons_zero, List.set_cons_succ, i64_w, i32_w]
    rfl
  refine pure_ (i := 2) (N := some 11) (v := ?_) (a' := ?_) #[true, true, true, false, false, false, false, false, false, false, false, false, false, false] rfl rfl (by kernel_rfl) (fun _ _ _ h => h) (Or.inl ⟨by rfl, ?_⟩) ?_ ?_
  rotate_left
  · intro w'
    go_simp
    with_reducible rfl
  rotate_left
  · simp only [Act.put, List.setIfInBounds_toArray, List.set_cons_zero, List.set_cons_succ, i64_w, i32_w]
    rfl
  refine pure_ (i := 3) (N := some 12) (v := undef) (a' := ?_) #[true, true, true, true, false, false, false, false, false, false, false, false, false, false] rfl rfl (by kernel_rfl) (fun _ _ _ h => h) (Or.inr ⟨by rfl, rfl⟩) ?_ ?_
  rotate_left
  · simp only [Act.put, List.setIfInBounds_toArray, List.set_cons_zero, List.set_cons_succ, i64_w, i32_w]
    rfl
  refine pure_ (i := 4) (N := some 13) (v := undef) (a' := ?_) #[true, true, true, true, true, false, false, false, false, false, false, false, false, false] rfl rfl (by kernel_rfl) (fun _ _ _ h => h) (Or.inr ⟨by rfl, rfl⟩) ?_ ?_
  rotate_left
  · simp only [Act.put, List.setIfInBounds_toArray, List.set_cons_zero, List.set_cons_succ, i64_w, i32_w]
    rfl
  refine pure_ (i := 5) (N := some 14) (v := undef) (a' := ?_) #[true, true, true, true, true, true, false, false, false, false, false, false, false, false] rfl rfl (by kernel_rfl) (fun _ _ _ h => h) (Or.inr ⟨by rfl, rfl⟩) ?_ ?_
  rotate_left
  · simp only [Act.put, List.setIfInBounds_toArray, List.set_cons_zero, List.set_cons_succ, i64_w, i32_w]
    rfl
  refine pure_ (i := 6) (N := some 15) (v := undef) (a' := ?_) #[true, true, true, true, true, true, true, false, false, false, false, false, false, false] rfl rfl (by kernel_rfl) (fun _ _ _ h => h) (Or.inr ⟨by rfl, rfl⟩) ?_ ?_
  rotate_left
  · simp only [Act.put, List.setIfInBounds_toArray, List.set_cons_zero, List.set_cons_succ, i64_w, i32_w]
    rfl
  refine pure_ (i := 7) (N := some 16) (v := undef) (a' := ?_) #[true, true, true, true, true, true, true, true, false, false, false, false, false, false] rfl rfl (by kernel_rfl) (fun _ _ _ h => h) (Or.inr ⟨by rfl, rfl⟩) ?_ ?_
  rotate_left
  · simp only [Act.put, List.setIfInBounds_toArray, List.set_cons_zero, List.set_cons_succ, i64_w, i32_w]
    rfl
  refine pure_ (i := 8) (N := some 17) (v := undef) (a' := ?_) #[true, true, true, true, true, true, true, true, true, false, false, false, false, false] rfl rfl (by kernel_rfl) (fun _ _ _ h => h) (Or.inr ⟨by rfl, rfl⟩) ?_ ?_
  rotate_left
  · simp only [Act.put, List.setIfInBounds_toArray, List.set_cons_zero, List.set_cons_succ, i64_w, i32_w]
    rfl
  refine pure_ (i := 9) (N := some 18) (v := undef) (a' := ?_) #[true, true, true, true, true, true, true, true, true, true, false, false, false, false] rfl rfl (by kernel_rfl) (fun _ _ _ h => h) (Or.inr ⟨by rfl, rfl⟩) ?_ ?_
  rotate_left
  · simp only [Act.put, List.setIfInBounds_toArray, List.set_cons_zero, List.set_cons_succ, i64_w, i32_w]
    rfl
  refine pure_ (i := 10) (N := some 19) (v := undef) (a' := ?_) #[true, true, true, true, true, true, true, true, true, true, true, false, false, false] rfl rfl (by kernel_rfl) (fun _ _ _ h => h) (Or.inr ⟨by rfl, rfl⟩) ?_ ?_
  rotate_left
  · simp only [Act.put, List.setIfInBounds_toArray, List.set_cons_zero, List.set_cons_succ, i64_w, i32_w]
    rfl
  refine pure_ (i := 11) (N := some 20) (v := undef) (a' := ?_) #[true, true, true, true, true, true, true, true, true, true, true, true, false, false] rfl rfl (by kernel_rfl) (fun _ _ _ h => h) (Or.inr ⟨by rfl, rfl⟩) ?_ ?_
  rotate_left
  · simp only [Act.put, List.setIfInBounds_toArray, List.set_cons_zero, List.set_cons_succ, i64_w, i32_w]
    rfl
  refine pure_ (i := 12) (N := some 21) (v := ?_) (a' := ?_) #[true, true, true, true, true, true, true, true, true, true, true, true, true, false] rfl rfl (by kernel_rfl) (fun _ _ _ h => h) (Or.inl ⟨by rfl, ?_⟩) ?_ ?_
  rotate_left
  · intro w'
    go_simp
    with_reducible rfl
  rotate_left
  · simp only [Act.put, List.setIfInBounds_toArray, List.set_cons_zero, List.set_cons_succ, i64_w, i32_w]
    rfl
  refine pure_ (i := 13) (N := some 4) (v := ?_) (a' := ?_) #[true, true, true, true, true, true, true, true, true, true, true, true, true, true] rfl rfl (by kernel_rfl) (fun _ _ _ h => h) (Or.inl ⟨by rfl, ?_⟩) ?_ ?_
  rotate_left
  · intro w'
    go_simp
    with_reducible rfl
  rotate_left
  · simp only [Act.put, List.setIfInBounds_toArray, List.set_cons_zero, List.set_cons_succ, i64_w, i32_w]
    rfl
  refine done_ (by kernel_rfl) ?_
  go_wp2_with fail
  go_ret
  exact ⟨rfl, (Below.refl _ _).drew⟩
theorem pn_Place (p : Option Addr) (i : Int) (W : World) (h : pnNone W p) : Calls Try.prog 15 #[.pointer p, .int .i64 i] W fun e W' => e = .returned (.int .i64 (-1)) ∧ Below W.heap.size W W' := by
  have hb : Below W.heap.size W (W.alloc (.cells #[.int .i64 i] 3)) := below_alloc (Below.refl _ _) _
  go_enter Try.func15, Try.ntmps15
  go_wp2_with (go_at_call 34; refine (pn_none p _ (h.below hb)).mono ?_; rintro e w1 ⟨rfl, rfl⟩)
  go_ret
  exact ⟨rfl, hb⟩
theorem pn_note (p : Option Addr) (i : Int) (g : Value) (W : World) (h : pnNone W p) : Calls Try.prog 48 #[.pointer p, .int .i64 i, g] W fun e W' => e = .returned (.int .i64 1) ∧ W' = W := by
  go_enter Try.func48, Try.ntmps48
  go_wp2_with (go_at_call 34; refine (pn_none p _ h).mono ?_; rintro e w1 ⟨rfl, rfl⟩)
  go_ret
  exact ⟨rfl, rfl⟩
theorem pn_Good (p : Option Addr) (i : Int) (b : Bool) (W : World) (h : pnNone W p) : Calls Try.prog 17 #[.pointer p, .int .i64 i, .bool b] W fun e W' => e = .returned (.int .i64 1) ∧ Below W.heap.size W W' := by
  have hb : Below W.heap.size W ((W.alloc (.cells #[.pointer p] 31)).alloc (.cells #[.bool b] 4)) := below_alloc (below_alloc (Below.refl _ _) _) _
  go_enter Try.func17, Try.ntmps17
  go_wp2_with (go_at_call 48; refine (pn_note p i _ _ (h.below hb)).mono ?_; rintro e w1 ⟨rfl, rfl⟩)
  go_ret
  exact ⟨rfl, hb⟩
theorem pn_Bad (p : Option Addr) (i : Int) (b : Bool) (W : World) (h : pnNone W p) : Calls Try.prog 18 #[.pointer p, .int .i64 i, .bool b] W fun e W' => e = .returned (.int .i64 1) ∧ Below W.heap.size W W' := by
  have hb : Below W.heap.size W ((W.alloc (.cells #[.pointer p] 31)).alloc (.cells #[.bool b] 4)) := below_alloc (below_alloc (Below.refl _ _) _) _
  go_enter Try.func18, Try.ntmps18
  go_wp2_with (go_at_call 48; refine (pn_note p i _ _ (h.below hb)).mono ?_; rintro e w1 ⟨rfl, rfl⟩)
  go_ret
  exact ⟨rfl, hb⟩
theorem pn_Back (p : Option Addr) (i : Int) (b : Bool) (W : World) (h : pnNone W p) : Calls Try.prog 19 #[.pointer p, .int .i64 i, .bool b] W fun e W' => e = .returned (.int .i64 1) ∧ Below W.heap.size W W' := by
  have hb : Below W.heap.size W (W.alloc (.cells #[.bool b] 4)) := below_alloc (Below.refl _ _) _
  go_enter Try.func19, Try.ntmps19
  go_wp2_with (go_at_call 48; refine (pn_note p i _ _ (h.below hb)).mono ?_; rintro e w1 ⟨rfl, rfl⟩)
  go_ret
  exact ⟨rfl, hb⟩
set_option maxHeartbeats 4000000 in
theorem pn_Tells (p : Option Addr) (i : Int) (W : World) (h : pnNone W p) : Calls Try.prog 10 #[.pointer p, .int .i64 i] W fun e W' => e = .returned (.tuple #[.int .u16 0, .agg #[.bool false, .int .i64 0, .int .i64 0, .bool false]]) ∧ Below W.heap.size W W' := by
  have hb : Below W.heap.size W (W.alloc (.cells #[.bool false, .int .i64 0, .int .i64 0, .bool false] 43)) := below_alloc (Below.refl _ _) _
  go_enter Try.func10, Try.ntmps10
  go_wp2_with (go_at_call 35; refine (pn_at p i _ (h.below hb)).mono ?_; rintro e w1 ⟨rfl, rfl⟩)
  refine bodyPost_ret (v := .tuple #[.int .u16 0, .agg #[.bool false, .int .i64 0, .int .i64 0, .bool false]]) (by simp [results, Try.results10, go_sem]) rfl ?_
  exact ⟨rfl, hb⟩
set_option maxHeartbeats 4000000 in
theorem pn_Reload (p : Option Addr) (a2_0 : ByteArray) (a2_1 : Int) (a2_2 : Int) (a2_3 : Int) (a2_4 : Int) (a2_5 : Int) (a2_6 : Int) (a2_7 : Int) (a2_8 : Int) (a2_9 : Int) (a2_10 : Int) (a2_11 : Int) (A2_12 : Option Addr) (c2_12 : Nat) (l2_12 : List (S171)) (A2_13 : Option Addr) (c2_13 : Nat) (l2_13 : List (S66)) (A2_14 : Option Addr) (c2_14 : Nat) (l2_14 : List (S173)) (A2_15 : Option Addr) (c2_15 : Nat) (l2_15 : List (S177)) (W : World) (h : pnNone W p) : Calls Try.prog 11 #[.pointer p, .agg #[.string a2_0, .int .i64 a2_1, .int .i64 a2_2, .int .i64 a2_3, .int .i64 a2_4, .int .i64 a2_5, .int .i64 a2_6, .int .i64 a2_7, .int .i64 a2_8, .int .i64 a2_9, .int .i64 a2_10, .int .i64 a2_11, .slice A2_12 l2_12.length c2_12, .slice A2_13 l2_13.length c2_13, .slice A2_14 l2_14.length c2_14, .slice A2_15 l2_15.length c2_15]] W fun e W' => e = .returned (.int .i64 1) ∧ Below W.heap.size W W' := by
  have hb : Below W.heap.size W (W.alloc (.cells #[.string a2_0, .int .i64 a2_1, .int .i64 a2_2, .int .i64 a2_3, .int .i64 a2_4, .int .i64 a2_5, .int .i64 a2_6, .int .i64 a2_7, .int .i64 a2_8, .int .i64 a2_9, .int .i64 a2_10, .int .i64 a2_11, .slice A2_12 l2_12.length c2_12, .slice A2_13 l2_13.length c2_13, .slice A2_14 l2_14.length c2_14, .slice A2_15 l2_15.length c2_15] 29)) := below_alloc (Below.refl _ _) _
  go_enter Try.func11, Try.ntmps11
  go_wp2_with (go_at_call 34; refine (pn_none p _ (h.below hb)).mono ?_; rintro e w1 ⟨rfl, rfl⟩)
  go_ret
  exact ⟨rfl, hb⟩
def postilionlaw11_HealthNil.f (k : Nat) (_a0 : Int) (_a1 : Bool) (a2_0 : ByteArray) (a2_1 : Int) (a2_2 : Int) (a2_3 : Int) (a2_4 : Int) (a2_5 : Int) (a2_6 : Int) (a2_7 : Int) (a2_8 : Int) (a2_9 : Int) (a2_10 : Int) (a2_11 : Int) (l2_12 : List (S171)) (l2_13 : List (S66)) (l2_14 : List (S173)) (l2_15 : List (S177)) : Option Bool := (postilionlaw11_long.f k a2_0 a2_1 a2_2 a2_3 a2_4 a2_5 a2_6 a2_7 a2_8 a2_9 a2_10 a2_11 l2_12 l2_13 l2_14 l2_15).bind fun _ => some true
set_option maxRecDepth 100000 in
set_option maxHeartbeats 16000000 in
theorem postilionlaw11_HealthNil.calls (k : Nat) (a0 : Int) (a1 : Bool) (a2_0 : ByteArray) (a2_1 : Int) (a2_2 : Int) (a2_3 : Int) (a2_4 : Int) (a2_5 : Int) (a2_6 : Int) (a2_7 : Int) (a2_8 : Int) (a2_9 : Int) (a2_10 : Int) (a2_11 : Int) (A2_12 : Option Addr) (c2_12 : Nat) (l2_12 : List (S171)) (A2_13 : Option Addr) (c2_13 : Nat) (l2_13 : List (S66)) (A2_14 : Option Addr) (c2_14 : Nat) (l2_14 : List (S173)) (A2_15 : Option Addr) (c2_15 : Nat) (l2_15 : List (S177)) (r : Bool) (w : World) (hr2_12 : Kd.C k171 w A2_12 l2_12.length l2_12) (hc2_12 : l2_12.length ≤ c2_12) (hr2_13 : Kd.C k66 w A2_13 l2_13.length l2_13) (hc2_13 : l2_13.length ≤ c2_13) (hr2_14 : Kd.C k173 w A2_14 l2_14.length l2_14) (hc2_14 : l2_14.length ≤ c2_14) (hr2_15 : Kd.C k177 w A2_15 l2_15.length l2_15) (hc2_15 : l2_15.length ≤ c2_15) (h : postilionlaw11_HealthNil.f k a0 a1 a2_0 a2_1 a2_2 a2_3 a2_4 a2_5 a2_6 a2_7 a2_8 a2_9 a2_10 a2_11 l2_12 l2_13 l2_14 l2_15 = some r) (hT : Aside0 (r = true)) :
    Calls Try.prog 3 #[.int .i64 a0, .bool a1, .agg #[.string a2_0, .int .i64 a2_1, .int .i64 a2_2, .int .i64 a2_3, .int .i64 a2_4, .int .i64 a2_5, .int .i64 a2_6, .int .i64 a2_7, .int .i64 a2_8, .int .i64 a2_9, .int .i64 a2_10, .int .i64 a2_11, .slice A2_12 l2_12.length c2_12, .slice A2_13 l2_13.length c2_13, .slice A2_14 l2_14.length c2_14, .slice A2_15 l2_15.length c2_15]] w fun e w' => e = .returned (.bool r) ∧ Below w.heap.size w w' := by
  obtain rfl := hT.out
  unfold postilionlaw11_HealthNil.f at h
  obtain ⟨b, hL, _⟩ := Option.bind_eq_some_iff.mp h
  have hb0 : Below w.heap.size w (w.alloc (.cells #[.string a2_0, .int .i64 a2_1, .int .i64 a2_2, .int .i64 a2_3, .int .i64 a2_4, .int .i64 a2_5, .int .i64 a2_6, .int .i64 a2_7, .int .i64 a2_8, .int .i64 a2_9, .int .i64 a2_10, .int .i64 a2_11, .slice A2_12 l2_12.length c2_12, .slice A2_13 l2_13.length c2_13, .slice A2_14 l2_14.length c2_14, .slice A2_15 l2_15.length c2_15] 29)) := below_alloc (Below.refl _ _) _
  have bk0 := heap_alloc_new w (.cells #[.string a2_0, .int .i64 a2_1, .int .i64 a2_2, .int .i64 a2_3, .int .i64 a2_4, .int .i64 a2_5, .int .i64 a2_6, .int .i64 a2_7, .int .i64 a2_8, .int .i64 a2_9, .int .i64 a2_10, .int .i64 a2_11, .slice A2_12 l2_12.length c2_12, .slice A2_13 l2_13.length c2_13, .slice A2_14 l2_14.length c2_14, .slice A2_15 l2_15.length c2_15] 29)
  have LG := postilionlaw11_long.calls k a2_0 a2_1 a2_2 a2_3 a2_4 a2_5 a2_6 a2_7 a2_8 a2_9 a2_10 a2_11 A2_12 c2_12 l2_12 A2_13 c2_13 l2_13 A2_14 c2_14 l2_14 A2_15 c2_15 l2_15 b _ (Kd.C_below hr2_12 hb0) hc2_12 (Kd.C_below hr2_13 hb0) hc2_13 (Kd.C_below hr2_14 hb0) hc2_14 (Kd.C_below hr2_15 hb0) hc2_15 hL
  clear h hL
  cases b with
  | true =>
    go_enter Try.func3, Try.ntmps3
    go_wp2_with (go_at_call 8; refine LG.mono ?_; rintro e w1 ⟨rfl, hb1⟩)
    go_ret
    exact ⟨rfl, pn_step hb0 hb1⟩
  | false =>
    go_enter Try.func3, Try.ntmps3
    go_wp2_with (go_at_call 8; refine LG.mono ?_; rintro e w1 ⟨rfl, hb1⟩)
    have hb2 := pn_step hb0 hb1
    have bk1 := (hb1.block _ (Array.getElem?_eq_some_iff.1 bk0).1).trans bk0
    obtain ⟨W0, hW0⟩ : ∃ W0, W0 = ((w1.alloc (.cells #[.int .i64 0, .int .i64 0, .int .i64 0, .int .i64 0, .int .i64 0, .int .i64 0, .int .i64 0, .int .i64 0, .int .i64 0, .int .i64 0, .int .i64 0, .int .i64 0, .int .i64 0, .slice none 0 0, .pointer none] 35)).alloc (.cells #[.pointer none, .pointer (some ⟨w1.heap.size, 0, none⟩)] 31)) := ⟨_, rfl⟩
    have k0 := blk_alloc (heap_alloc_new w1 (.cells #[.int .i64 0, .int .i64 0, .int .i64 0, .int .i64 0, .int .i64 0, .int .i64 0, .int .i64 0, .int .i64 0, .int .i64 0, .int .i64 0, .int .i64 0, .int .i64 0, .int .i64 0, .slice none 0 0, .pointer none] 35)) (.cells #[.pointer none, .pointer (some ⟨w1.heap.size, 0, none⟩)] 31)
    have k1 := heap_alloc_new (w1.alloc (.cells #[.int .i64 0, .int .i64 0, .int .i64 0, .int .i64 0, .int .i64 0, .int .i64 0, .int .i64 0, .int .i64 0, .int .i64 0, .int .i64 0, .int .i64 0, .int .i64 0, .int .i64 0, .slice none 0 0, .pointer none] 35)) (.cells #[.pointer none, .pointer (some ⟨w1.heap.size, 0, none⟩)] 31)
    have s1 : (w1.alloc (.cells #[.int .i64 0, .int .i64 0, .int .i64 0, .int .i64 0, .int .i64 0, .int .i64 0, .int .i64 0, .int .i64 0, .int .i64 0, .int .i64 0, .int .i64 0, .int .i64 0, .int .i64 0, .slice none 0 0, .pointer none] 35)).heap.size = w1.heap.size + 1 := Array.size_push _
    have s2 : ((w1.alloc (.cells #[.int .i64 0, .int .i64 0, .int .i64 0, .int .i64 0, .int .i64 0, .int .i64 0, .int .i64 0, .int .i64 0, .int .i64 0, .int .i64 0, .int .i64 0, .int .i64 0, .int .i64 0, .slice none 0 0, .pointer none] 35)).alloc (.cells #[.pointer none, .pointer (some ⟨w1.heap.size, 0, none⟩)] 31)).heap.size = w1.heap.size + 1 + 1 := by rw [← s1]; exact Array.size_push _
    have hb3 : Below w1.heap.size w1 W0 := by rw [hW0]; exact below_alloc (below_alloc (Below.refl _ _) _) _
    rw [s1] at k1
    rw [← hW0] at k0 k1 s2 ⊢
    have bk2 := (hb3.block _ (Array.getElem?_eq_some_iff.1 bk1).1).trans bk1
    have e0 : W0.cell? ⟨w1.heap.size, 12, none⟩ = some (.int .i64 0) := by rw [hp_cell k0]; rfl
    have c1 : W0.cell? ⟨w1.heap.size + 1, 0, none⟩ = some (.pointer none) := by rw [hp_cell k1]; rfl
    have c2 : W0.cell? ⟨w1.heap.size + 1, 1, none⟩ = some (.pointer (some ⟨w1.heap.size, 0, none⟩)) := by rw [hp_cell k1]; rfl
    have hbw := pn_step hb2 hb3
    have l1 : w1.heap.size < W0.heap.size := by omega
    have l2 : w1.heap.size + 1 < W0.heap.size := by omega
    clear k0 k1 s1 s2 hW0 hb3 LG bk0 bk1 hb1 hb0 hb2
    go_loopw [9] (fun v wr => ∃ k : Nat, k ≤ 2 ∧ v = .int .i64 (k : Int) ∧ Below W0.heap.size W0 wr) (fun v _ => 2 - (intOf v).toNat)
    case atStart => exact ⟨0, by decide, rfl, Below.refl _ _⟩
    case round =>
      obtain ⟨k, hk, rfl, hB⟩ := hrel
      have d1 := (hB.cell (p := ⟨w1.heap.size + 1, 0, none⟩) l2).trans c1
      have d2 := (hB.cell (p := ⟨w1.heap.size + 1, 1, none⟩) l2).trans c2
      have d0 := (hB.cell (p := ⟨w1.heap.size, 12, none⟩) l1).trans e0
      have b2 := (hB.block _ (Array.getElem?_eq_some_iff.1 bk2).1).trans bk2
      have lw := hB.size
      match k, hk with
      | 0, _ =>
        have hN : pnNone wr none := .inl rfl
        go_wp2_with (first | (go_at_call 9; refine (pn_Try _ a0 _ hN).mono ?_; rintro e w2 ⟨rfl, rfl⟩) | (go_at_call 10; refine (pn_Tells _ a0 _ hN).mono ?_; rintro e w3 ⟨rfl, h3⟩; have b3 := (h3.block _ (Array.getElem?_eq_some_iff.1 b2).1).trans b2; have hl3 := h3.size; have n3 : ¬ (w.heap.size = w3.heap.size) := (by have := (Array.getElem?_eq_some_iff.1 b3).1; omega); have hX : Below w3.heap.size w3 (w3.alloc (.cells #[.bool false, .int .i64 0, .int .i64 0, .bool false] 43)) := below_alloc (Below.refl _ _) _; have bX := (hX.block _ (Array.getElem?_eq_some_iff.1 b3).1).trans b3; have q0 : (w3.alloc (.cells #[.bool false, .int .i64 0, .int .i64 0, .bool false] 43)).cell? ⟨w.heap.size, 0, none⟩ = some (.string a2_0) := (hp_cell bX 0).trans rfl; have q1 : (w3.alloc (.cells #[.bool false, .int .i64 0, .int .i64 0, .bool false] 43)).cell? ⟨w.heap.size, 1, none⟩ = some (.int .i64 a2_1) := (hp_cell bX 1).trans rfl; have q2 : (w3.alloc (.cells #[.bool false, .int .i64 0, .int .i64 0, .bool false] 43)).cell? ⟨w.heap.size, 2, none⟩ = some (.int .i64 a2_2) := (hp_cell bX 2).trans rfl; have q3 : (w3.alloc (.cells #[.bool false, .int .i64 0, .int .i64 0, .bool false] 43)).cell? ⟨w.heap.size, 3, none⟩ = some (.int .i64 a2_3) := (hp_cell bX 3).trans rfl; have q4 : (w3.alloc (.cells #[.bool false, .int .i64 0, .int .i64 0, .bool false] 43)).cell? ⟨w.heap.size, 4, none⟩ = some (.int .i64 a2_4) := (hp_cell bX 4).trans rfl; have q5 : (w3.alloc (.cells #[.bool false, .int .i64 0, .int .i64 0, .bool false] 43)).cell? ⟨w.heap.size, 5, none⟩ = some (.int .i64 a2_5) := (hp_cell bX 5).trans rfl; have q6 : (w3.alloc (.cells #[.bool false, .int .i64 0, .int .i64 0, .bool false] 43)).cell? ⟨w.heap.size, 6, none⟩ = some (.int .i64 a2_6) := (hp_cell bX 6).trans rfl; have q7 : (w3.alloc (.cells #[.bool false, .int .i64 0, .int .i64 0, .bool false] 43)).cell? ⟨w.heap.size, 7, none⟩ = some (.int .i64 a2_7) := (hp_cell bX 7).trans rfl; have q8 : (w3.alloc (.cells #[.bool false, .int .i64 0, .int .i64 0, .bool false] 43)).cell? ⟨w.heap.size, 8, none⟩ = some (.int .i64 a2_8) := (hp_cell bX 8).trans rfl; have q9 : (w3.alloc (.cells #[.bool false, .int .i64 0, .int .i64 0, .bool false] 43)).cell? ⟨w.heap.size, 9, none⟩ = some (.int .i64 a2_9) := (hp_cell bX 9).trans rfl; have q10 : (w3.alloc (.cells #[.bool false, .int .i64 0, .int .i64 0, .bool false] 43)).cell? ⟨w.heap.size, 10, none⟩ = some (.int .i64 a2_10) := (hp_cell bX 10).trans rfl; have q11 : (w3.alloc (.cells #[.bool false, .int .i64 0, .int .i64 0, .bool false] 43)).cell? ⟨w.heap.size, 11, none⟩ = some (.int .i64 a2_11) := (hp_cell bX 11).trans rfl; have q12 : (w3.alloc (.cells #[.bool false, .int .i64 0, .int .i64 0, .bool false] 43)).cell? ⟨w.heap.size, 12, none⟩ = some (.slice A2_12 l2_12.length c2_12) := (hp_cell bX 12).trans rfl; have q13 : (w3.alloc (.cells #[.bool false, .int .i64 0, .int .i64 0, .bool false] 43)).cell? ⟨w.heap.size, 13, none⟩ = some (.slice A2_13 l2_13.length c2_13) := (hp_cell bX 13).trans rfl; have q14 : (w3.alloc (.cells #[.bool false, .int .i64 0, .int .i64 0, .bool false] 43)).cell? ⟨w.heap.size, 14, none⟩ = some (.slice A2_14 l2_14.length c2_14) := (hp_cell bX 14).trans rfl; have q15 : (w3.alloc (.cells #[.bool false, .int .i64 0, .int .i64 0, .bool false] 43)).cell? ⟨w.heap.size, 15, none⟩ = some (.slice A2_15 l2_15.length c2_15) := (hp_cell bX 15).trans rfl; have hN3 := (hN.below h3).below hX; have hB3 := pn_step (pn_step hB h3) hX) | (go_at_call 11; refine (pn_Reload _ a2_0 a2_1 a2_2 a2_3 a2_4 a2_5 a2_6 a2_7 a2_8 a2_9 a2_10 a2_11 A2_12 c2_12 l2_12 A2_13 c2_13 l2_13 A2_14 c2_14 l2_14 A2_15 c2_15 l2_15 _ hN3).mono ?_; rintro e w4 ⟨rfl, h4⟩; have hN4 := hN3.below h4; have hB4 := pn_step hB3 h4) | (go_at_call 12; refine (pn_Tick _ _ hN4).mono ?_; rintro e w4a ⟨rfl, hw⟩; obtain rfl := hw.symm) | (go_at_call 13; refine (pn_Now _ _ hN4).mono ?_; rintro e w4b ⟨rfl, hw⟩; obtain rfl := hw.symm) | (go_at_call 14; refine (pn_Key _ a0 _ hN4).mono ?_; rintro e w4c ⟨rfl, hw⟩; obtain rfl := hw.symm) | (go_at_call 15; refine (pn_Place _ a0 _ hN4).mono ?_; rintro e w5 ⟨rfl, h5⟩; have hN5 := hN4.below h5; have hB5 := pn_step hB4 h5) | (go_at_call 16; refine (pn_Lets _ a0 _ hN5).mono ?_; rintro e w6 ⟨rfl, h6⟩; have hN6 := hN5.below h6; have hB6 := pn_step hB5 h6) | (go_at_call 17; refine (pn_Good _ a0 a1 _ hN6).mono ?_; rintro e w7 ⟨rfl, h7⟩; have hN7 := hN6.below h7; have hB7 := pn_step hB6 h7) | (go_at_call 18; refine (pn_Bad _ a0 a1 _ hN7).mono ?_; rintro e w8 ⟨rfl, h8⟩; have hN8 := hN7.below h8; have hB8 := pn_step hB7 h8) | (go_at_call 19; refine (pn_Back _ a0 a1 _ hN8).mono ?_; rintro e w9 ⟨rfl, h9⟩; have hN9 := hN8.below h9; have hB9 := pn_step hB8 h9))
        go_roundw
        case rel => exact ⟨1, by decide, rfl, hB9⟩
        case measure => simp only [intOf]; decide
      | 1, _ =>
        have hN : pnNone wr (some ⟨w1.heap.size, 0, none⟩) := .inr ⟨_, rfl, by omega, d0⟩
        go_wp2_with (first | (go_at_call 9; refine (pn_Try _ a0 _ hN).mono ?_; rintro e w2 ⟨rfl, rfl⟩) | (go_at_call 10; refine (pn_Tells _ a0 _ hN).mono ?_; rintro e w3 ⟨rfl, h3⟩; have b3 := (h3.block _ (Array.getElem?_eq_some_iff.1 b2).1).trans b2; have hl3 := h3.size; have n3 : ¬ (w.heap.size = w3.heap.size) := (by have := (Array.getElem?_eq_some_iff.1 b3).1; omega); have hX : Below w3.heap.size w3 (w3.alloc (.cells #[.bool false, .int .i64 0, .int .i64 0, .bool false] 43)) := below_alloc (Below.refl _ _) _; have bX := (hX.block _ (Array.getElem?_eq_some_iff.1 b3).1).trans b3; have q0 : (w3.alloc (.cells #[.bool false, .int .i64 0, .int .i64 0, .bool false] 43)).cell? ⟨w.heap.size, 0, none⟩ = some (.string a2_0) := (hp_cell bX 0).trans rfl; have q1 : (w3.alloc (.cells #[.bool false, .int .i64 0, .int .i64 0, .bool false] 43)).cell? ⟨w.heap.size, 1, none⟩ = some (.int .i64 a2_1) := (hp_cell bX 1).trans rfl; have q2 : (w3.alloc (.cells #[.bool false, .int .i64 0, .int .i64 0, .bool false] 43)).cell? ⟨w.heap.size, 2, none⟩ = some (.int .i64 a2_2) := (hp_cell bX 2).trans rfl; have q3 : (w3.alloc (.cells #[.bool false, .int .i64 0, .int .i64 0, .bool false] 43)).cell? ⟨w.heap.size, 3, none⟩ = some (.int .i64 a2_3) := (hp_cell bX 3).trans rfl; have q4 : (w3.alloc (.cells #[.bool false, .int .i64 0, .int .i64 0, .bool false] 43)).cell? ⟨w.heap.size, 4, none⟩ = some (.int .i64 a2_4) := (hp_cell bX 4).trans rfl; have q5 : (w3.alloc (.cells #[.bool false, .int .i64 0, .int .i64 0, .bool false] 43)).cell? ⟨w.heap.size, 5, none⟩ = some (.int .i64 a2_5) := (hp_cell bX 5).trans rfl; have q6 : (w3.alloc (.cells #[.bool false, .int .i64 0, .int .i64 0, .bool false] 43)).cell? ⟨w.heap.size, 6, none⟩ = some (.int .i64 a2_6) := (hp_cell bX 6).trans rfl; have q7 : (w3.alloc (.cells #[.bool false, .int .i64 0, .int .i64 0, .bool false] 43)).cell? ⟨w.heap.size, 7, none⟩ = some (.int .i64 a2_7) := (hp_cell bX 7).trans rfl; have q8 : (w3.alloc (.cells #[.bool false, .int .i64 0, .int .i64 0, .bool false] 43)).cell? ⟨w.heap.size, 8, none⟩ = some (.int .i64 a2_8) := (hp_cell bX 8).trans rfl; have q9 : (w3.alloc (.cells #[.bool false, .int .i64 0, .int .i64 0, .bool false] 43)).cell? ⟨w.heap.size, 9, none⟩ = some (.int .i64 a2_9) := (hp_cell bX 9).trans rfl; have q10 : (w3.alloc (.cells #[.bool false, .int .i64 0, .int .i64 0, .bool false] 43)).cell? ⟨w.heap.size, 10, none⟩ = some (.int .i64 a2_10) := (hp_cell bX 10).trans rfl; have q11 : (w3.alloc (.cells #[.bool false, .int .i64 0, .int .i64 0, .bool false] 43)).cell? ⟨w.heap.size, 11, none⟩ = some (.int .i64 a2_11) := (hp_cell bX 11).trans rfl; have q12 : (w3.alloc (.cells #[.bool false, .int .i64 0, .int .i64 0, .bool false] 43)).cell? ⟨w.heap.size, 12, none⟩ = some (.slice A2_12 l2_12.length c2_12) := (hp_cell bX 12).trans rfl; have q13 : (w3.alloc (.cells #[.bool false, .int .i64 0, .int .i64 0, .bool false] 43)).cell? ⟨w.heap.size, 13, none⟩ = some (.slice A2_13 l2_13.length c2_13) := (hp_cell bX 13).trans rfl; have q14 : (w3.alloc (.cells #[.bool false, .int .i64 0, .int .i64 0, .bool false] 43)).cell? ⟨w.heap.size, 14, none⟩ = some (.slice A2_14 l2_14.length c2_14) := (hp_cell bX 14).trans rfl; have q15 : (w3.alloc (.cells #[.bool false, .int .i64 0, .int .i64 0, .bool false] 43)).cell? ⟨w.heap.size, 15, none⟩ = some (.slice A2_15 l2_15.length c2_15) := (hp_cell bX 15).trans rfl; have hN3 := (hN.below h3).below hX; have hB3 := pn_step (pn_step hB h3) hX) | (go_at_call 11; refine (pn_Reload _ a2_0 a2_1 a2_2 a2_3 a2_4 a2_5 a2_6 a2_7 a2_8 a2_9 a2_10 a2_11 A2_12 c2_12 l2_12 A2_13 c2_13 l2_13 A2_14 c2_14 l2_14 A2_15 c2_15 l2_15 _ hN3).mono ?_; rintro e w4 ⟨rfl, h4⟩; have hN4 := hN3.below h4; have hB4 := pn_step hB3 h4) | (go_at_call 12; refine (pn_Tick _ _ hN4).mono ?_; rintro e w4a ⟨rfl, hw⟩; obtain rfl := hw.symm) | (go_at_call 13; refine (pn_Now _ _ hN4).mono ?_; rintro e w4b ⟨rfl, hw⟩; obtain rfl := hw.symm) | (go_at_call 14; refine (pn_Key _ a0 _ hN4).mono ?_; rintro e w4c ⟨rfl, hw⟩; obtain rfl := hw.symm) | (go_at_call 15; refine (pn_Place _ a0 _ hN4).mono ?_; rintro e w5 ⟨rfl, h5⟩; have hN5 := hN4.below h5; have hB5 := pn_step hB4 h5) | (go_at_call 16; refine (pn_Lets _ a0 _ hN5).mono ?_; rintro e w6 ⟨rfl, h6⟩; have hN6 := hN5.below h6; have hB6 := pn_step hB5 h6) | (go_at_call 17; refine (pn_Good _ a0 a1 _ hN6).mono ?_; rintro e w7 ⟨rfl, h7⟩; have hN7 := hN6.below h7; have hB7 := pn_step hB6 h7) | (go_at_call 18; refine (pn_Bad _ a0 a1 _ hN7).mono ?_; rintro e w8 ⟨rfl, h8⟩; have hN8 := hN7.below h8; have hB8 := pn_step hB7 h8) | (go_at_call 19; refine (pn_Back _ a0 a1 _ hN8).mono ?_; rintro e w9 ⟨rfl, h9⟩; have hN9 := hN8.below h9; have hB9 := pn_step hB8 h9))
        go_roundw
        case rel => exact ⟨2, by decide, rfl, hB9⟩
        case measure => simp only [intOf]; decide
      | 2, _ =>
        go_wp2_with fail
        go_ret
        exact ⟨rfl, pn_step hbw hB⟩

/-- THE ONE PURE STATEMENT of postilionlaw11_HealthNil: yours. -/
def postilionlaw11_HealthNil.Pure : Prop := ∀ (a0 : Int) (a1 : Bool) (a2_0 : ByteArray) (a2_1 : Int) (a2_2 : Int) (a2_3 : Int) (a2_4 : Int) (a2_5 : Int) (a2_6 : Int) (a2_7 : Int) (a2_8 : Int) (a2_9 : Int) (a2_10 : Int) (a2_11 : Int) (l2_12 : List (S171)) (l2_13 : List (S66)) (l2_14 : List (S173)) (l2_15 : List (S177)), (Lit.int .i64 a0).wf = true → (a2_0.size ≤ 9223372036854775807) → ((Lit.int .i64 a2_1).wf = true) → ((Lit.int .i64 a2_2).wf = true) → ((Lit.int .i64 a2_3).wf = true) → ((Lit.int .i64 a2_4).wf = true) → ((Lit.int .i64 a2_5).wf = true) → ((Lit.int .i64 a2_6).wf = true) → ((Lit.int .i64 a2_7).wf = true) → ((Lit.int .i64 a2_8).wf = true) → ((Lit.int .i64 a2_9).wf = true) → ((Lit.int .i64 a2_10).wf = true) → ((Lit.int .i64 a2_11).wf = true) → (l2_12.length ≤ maxLen) → (∀ y_ ∈ l2_12, (y_.f0.size ≤ 9223372036854775807) ∧ (y_.f1.size ≤ 9223372036854775807) ∧ ((Lit.int .i64 y_.f2).wf = true)) → (l2_13.length ≤ maxLen) → (∀ y_ ∈ l2_13, (y_.f0.size ≤ 9223372036854775807) ∧ ((Lit.int .u8 y_.f1.f0.f0).wf = true) ∧ (y_.f1.f0.f1.size ≤ 9223372036854775807) ∧ ((Lit.int .i64 y_.f1.f1).wf = true) ∧ ((Lit.int .u8 y_.f2).wf = true) ∧ (y_.f3.size ≤ 9223372036854775807) ∧ (y_.f4.size ≤ 9223372036854775807) ∧ ((Lit.int .i64 y_.f5).wf = true)) → (l2_14.length ≤ maxLen) → (∀ y_ ∈ l2_14, (y_.f0.size ≤ 9223372036854775807) ∧ (y_.f1.length ≤ maxLen) ∧ (∀ z_ ∈ y_.f1, ((Lit.int .i64 z_).wf = true))) → (l2_15.length ≤ maxLen) → (∀ y_ ∈ l2_15, ((Lit.int .i64 y_.f0).wf = true) ∧ ((Lit.int .u8 y_.f1.f0).wf = true) ∧ ((Lit.int .u8 y_.f1.f1.f0).wf = true) ∧ (y_.f1.f1.f1.size ≤ 9223372036854775807) ∧ ((Lit.int .i64 y_.f1.f2).wf = true) ∧ ((Lit.int .i64 y_.f2).wf = true) ∧ ((Lit.int .i64 y_.f3).wf = true) ∧ ((Lit.int .u8 y_.f4).wf = true) ∧ (y_.f5.length ≤ maxLen) ∧ (∀ z_ ∈ y_.f5, ((Lit.int .i64 z_).wf = true))) → ∃ k, postilionlaw11_HealthNil.f k a0 a1 a2_0 a2_1 a2_2 a2_3 a2_4 a2_5 a2_6 a2_7 a2_8 a2_9 a2_10 a2_11 l2_12 l2_13 l2_14 l2_15 = some true

end Go.Proofs.Ytghfhgjgdkkkpaa.P
