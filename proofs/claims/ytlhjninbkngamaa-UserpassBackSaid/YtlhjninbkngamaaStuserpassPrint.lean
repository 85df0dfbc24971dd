-- Laid by sp.py, a program of this session's, out of the translation and the session's own stand-ins.
import Derived.Test.YtlhjninbkngamaaPx0
import Derived.LoopN
namespace Go.Proofs.Ytlhjninbkngamaa.P
open Go.RowKit Go.Proofs.YtlhjninbkngamaaW.PrintWords Go.Proofs.YtlhjninbkngamaaW.PrintLast Go.Proofs.YtlhjninbkngamaaW.PrintMore
attribute [local go_sem] max2_int min2_int max_two min_two max_three min_three max_four min_four   -- for this text's walks alone
set_option linter.unusedVariables false
set_option linter.unusedSimpArgs false
set_option linter.unnecessarySimpa false

/-! ### userpass.Print: a stand-in: a range over two strings, round by round -/
def userpass_Print.f (a0 a1 : ByteArray) : Option (List Int × Int) :=
  if 1 ≤ a0.size ∧ a0.size ≤ 255 then (if 1 ≤ a1.size ∧ a1.size ≤ 255 then some (((([1] ++ [(a0.size : Int)]) ++ bytesOf a0) ++ [(a1.size : Int)]) ++ bytesOf a1, 0) else some ([], 2)) else some ([], 2)
theorem up_list (s : ByteArray) : s.toList.length = s.size := by
  rw [ByteArray.toList_eq, data_length]
theorem up_empty {s : ByteArray} (h : s.size = 0) : s.toList.isEmpty = true := by
  rw [← up_list s] at h
  simpa using h
theorem up_full {s : ByteArray} (h : s.size ≠ 0) : s.toList.isEmpty = false := by
  rw [← up_list s] at h
  cases hs : s.toList with
  | nil => rw [hs] at h; exact absurd rfl h
  | cons x xs => rfl
set_option maxHeartbeats 4000000 in
theorem userpass_Print.calls (a0 a1 : ByteArray) (r1 : List Int) (r2 : Int) (w : World) (h : userpass_Print.f a0 a1 = some (r1, r2)) :
    Calls Try.prog 8 #[.string a0, .string a1] w fun e w' => ∃ v0_ : Value, e = .returned (.tuple #[v0_, .int .i64 r2]) ∧ Kd.R (Kd.int .u8) 5 w' w.heap.size (fun _ => True) v0_ r1 ∧ Below w.heap.size w w' := by
  unfold userpass_Print.f at h
  have i0 : ∀ w, (Instr.index 42 (.agg #[.string a0, .string a1]) (.int .i64 0)).run Try.prog w = .ok (.string a0) w := fun _ => by kernel_rfl
  have i1 : ∀ w, (Instr.index 42 (.agg #[.string a0, .string a1]) (.int .i64 1)).run Try.prog w = .ok (.string a1) w := fun _ => by kernel_rfl
  by_cases e0 : a0.size = 0
  · rw [if_neg (by omega)] at h
    simp only [Option.some.injEq, Prod.mk.injEq] at h
    obtain ⟨rfl, rfl⟩ := h
    have t0 : a0.toList.isEmpty = true := up_empty (by omega)
    go_enter Try.func8, Try.ntmps8
    go_wp2_with ((with_reducible refine gate_dst (N := 9) rfl ?_); (try (refine gate_guard (by rfl) ?_; dsimp only)); refine Kd.R_lit (Kd.int .u8) _ 5 ?hg (N := 9) ?hd (xs := ([1] : List Int)) (inner := [.int .u8 1]) (ok := fun _ => True) (okp := fun _ => True) ?hr ?hp (fun _ hk => hk) trivial (Below.refl _ _) (Nat.le_refl _) (by simp) ?_; (case hd => rfl); (case hg => rfl); (case hr => first | (go_simp; done) | (go_simp; rfl)); (case hp => exact (Reps.one (show Kd.M (Kd.int .u8) _ _ _ 1 [.int .u8 1] from rfl) (Reps.none _ _))); intro v1 w1 ho hb hg_ hnew_; clear hg_ hnew_)
    refine wp_loop_rounds 3 ?_
    rw [rounds_succ]
    go_wp2
    go_ret2
    exact ⟨_, rfl, Kd.R_nil _ _ _ _ _, hb⟩
  by_cases e1 : 255 < a0.size
  · rw [if_neg (by omega)] at h
    simp only [Option.some.injEq, Prod.mk.injEq] at h
    obtain ⟨rfl, rfl⟩ := h
    have t0 : a0.toList.isEmpty = false := up_full (by omega)
    have c0 : decide (255 < (a0.size : Int)) = true := decide_eq_true (by omega)
    have d0 : decide (255 < a0.size) = true := decide_eq_true (by omega)
    go_enter Try.func8, Try.ntmps8
    go_wp2_with ((with_reducible refine gate_dst (N := 9) rfl ?_); (try (refine gate_guard (by rfl) ?_; dsimp only)); refine Kd.R_lit (Kd.int .u8) _ 5 ?hg (N := 9) ?hd (xs := ([1] : List Int)) (inner := [.int .u8 1]) (ok := fun _ => True) (okp := fun _ => True) ?hr ?hp (fun _ hk => hk) trivial (Below.refl _ _) (Nat.le_refl _) (by simp) ?_; (case hd => rfl); (case hg => rfl); (case hr => first | (go_simp; done) | (go_simp; rfl)); (case hp => exact (Reps.one (show Kd.M (Kd.int .u8) _ _ _ 1 [.int .u8 1] from rfl) (Reps.none _ _))); intro v1 w1 ho hb hg_ hnew_; clear hg_ hnew_)
    refine wp_loop_rounds 3 ?_
    rw [rounds_succ]
    go_wp2
    go_ret2
    exact ⟨_, rfl, Kd.R_nil _ _ _ _ _, hb⟩
  rw [if_pos (by omega)] at h
  by_cases e2 : a1.size = 0
  · rw [if_neg (by omega)] at h
    simp only [Option.some.injEq, Prod.mk.injEq] at h
    obtain ⟨rfl, rfl⟩ := h
    have t0 : a0.toList.isEmpty = false := up_full (by omega)
    have c0 : decide (255 < (a0.size : Int)) = false := decide_eq_false (by omega)
    have d0 : decide (255 < a0.size) = false := decide_eq_false (by omega)
    have q0 : (a0.size : Int) % 256 = a0.size := by omega
    have t1 : a1.toList.isEmpty = true := up_empty (by omega)
    go_enter Try.func8, Try.ntmps8
    go_wp2_with ((with_reducible refine gate_dst (N := 9) rfl ?_); (try (refine gate_guard (by rfl) ?_; dsimp only)); refine Kd.R_lit (Kd.int .u8) _ 5 ?hg (N := 9) ?hd (xs := ([1] : List Int)) (inner := [.int .u8 1]) (ok := fun _ => True) (okp := fun _ => True) ?hr ?hp (fun _ hk => hk) trivial (Below.refl _ _) (Nat.le_refl _) (by simp) ?_; (case hd => rfl); (case hg => rfl); (case hr => first | (go_simp; done) | (go_simp; rfl)); (case hp => exact (Reps.one (show Kd.M (Kd.int .u8) _ _ _ 1 [.int .u8 1] from rfl) (Reps.none _ _))); intro v1 w1 ho hb hg_ hnew_; clear hg_ hnew_)
    refine wp_loop_rounds 3 ?_
    rw [rounds_succ]
    go_wp2_with (first | ((with_reducible refine gate_builtin (b := .append) (xs := #[.tmp 23, .tmp 27]) rfl ?_); (try (refine gate_guard (by rfl) ?_; dsimp only)); at_builtin; refine Kd.R_append (Kd.int .u8) (w0 := w) w.heap.size rfl (.tmp 23) (.tmp 27) 22 5 (.int .u8 0) 1 rfl Try.underlying22 info5 rfl (by decide) (by omega) v1 ([1]) (a0.size : Int) [.int .u8 (a0.size : Int)] (fun _ => True) (fun _ => False) rfl rfl ?aP (fun _ hk => hk.elim) ?aF ?aO ?aB ?aS ?aL ?_; (case aP => exact rfl); (case aB => exact hb); (case aF => exact (fun _ _ => trivial)); (case aO => exact ho); (case aS => exact below_size hb); (case aL => simp only [List.length_append, bytesOf_length, List.length_cons, List.length_nil]; omega); intro v2 w2 ho2 hb2 hg hat; clear hg hat) | (at_builtin; refine print_append_str (w0 := w) w.heap.size rfl (.tmp 28) _ 22 9 5 rfl Try.underlying22 Try.underlying9 info5 v2 ([1] ++ [(a0.size : Int)]) a0 rfl rfl ?aO ?aB ?aS ?aL ?_; (case aB => exact hb2); (case aO => exact Kd.own_of_R ho2); (case aS => exact below_size hb2); (case aL => simp only [List.length_append, bytesOf_length, List.length_cons, List.length_nil]; omega); intro v3 w3 ho0 hb3 hg; have ho3 := Kd.R_of_own (h1 := fun _ => rfl) (ok := fun _ => True) ho0 (fun _ _ => trivial); clear ho0 hg; change Kd.R (Kd.int .u8) 5 w3 w.heap.size (fun _ => True) v3 (([1] ++ [(a0.size : Int)]) ++ bytesOf a0) at ho3))
    rw [rounds_succ]
    go_wp2
    go_ret2
    exact ⟨_, rfl, Kd.R_nil _ _ _ _ _, hb3⟩
  by_cases e3 : 255 < a1.size
  · rw [if_neg (by omega)] at h
    simp only [Option.some.injEq, Prod.mk.injEq] at h
    obtain ⟨rfl, rfl⟩ := h
    have t0 : a0.toList.isEmpty = false := up_full (by omega)
    have c0 : decide (255 < (a0.size : Int)) = false := decide_eq_false (by omega)
    have d0 : decide (255 < a0.size) = false := decide_eq_false (by omega)
    have q0 : (a0.size : Int) % 256 = a0.size := by omega
    have t1 : a1.toList.isEmpty = false := up_full (by omega)
    have c1 : decide (255 < (a1.size : Int)) = true := decide_eq_true (by omega)
    have d1 : decide (255 < a1.size) = true := decide_eq_true (by omega)
    go_enter Try.func8, Try.ntmps8
    go_wp2_with ((with_reducible refine gate_dst (N := 9) rfl ?_); (try (refine gate_guard (by rfl) ?_; dsimp only)); refine Kd.R_lit (Kd.int .u8) _ 5 ?hg (N := 9) ?hd (xs := ([1] : List Int)) (inner := [.int .u8 1]) (ok := fun _ => True) (okp := fun _ => True) ?hr ?hp (fun _ hk => hk) trivial (Below.refl _ _) (Nat.le_refl _) (by simp) ?_; (case hd => rfl); (case hg => rfl); (case hr => first | (go_simp; done) | (go_simp; rfl)); (case hp => exact (Reps.one (show Kd.M (Kd.int .u8) _ _ _ 1 [.int .u8 1] from rfl) (Reps.none _ _))); intro v1 w1 ho hb hg_ hnew_; clear hg_ hnew_)
    refine wp_loop_rounds 3 ?_
    rw [rounds_succ]
    go_wp2_with (first | ((with_reducible refine gate_builtin (b := .append) (xs := #[.tmp 23, .tmp 27]) rfl ?_); (try (refine gate_guard (by rfl) ?_; dsimp only)); at_builtin; refine Kd.R_append (Kd.int .u8) (w0 := w) w.heap.size rfl (.tmp 23) (.tmp 27) 22 5 (.int .u8 0) 1 rfl Try.underlying22 info5 rfl (by decide) (by omega) v1 ([1]) (a0.size : Int) [.int .u8 (a0.size : Int)] (fun _ => True) (fun _ => False) rfl rfl ?aP (fun _ hk => hk.elim) ?aF ?aO ?aB ?aS ?aL ?_; (case aP => exact rfl); (case aB => exact hb); (case aF => exact (fun _ _ => trivial)); (case aO => exact ho); (case aS => exact below_size hb); (case aL => simp only [List.length_append, bytesOf_length, List.length_cons, List.length_nil]; omega); intro v2 w2 ho2 hb2 hg hat; clear hg hat) | (at_builtin; refine print_append_str (w0 := w) w.heap.size rfl (.tmp 28) _ 22 9 5 rfl Try.underlying22 Try.underlying9 info5 v2 ([1] ++ [(a0.size : Int)]) a0 rfl rfl ?aO ?aB ?aS ?aL ?_; (case aB => exact hb2); (case aO => exact Kd.own_of_R ho2); (case aS => exact below_size hb2); (case aL => simp only [List.length_append, bytesOf_length, List.length_cons, List.length_nil]; omega); intro v3 w3 ho0 hb3 hg; have ho3 := Kd.R_of_own (h1 := fun _ => rfl) (ok := fun _ => True) ho0 (fun _ _ => trivial); clear ho0 hg; change Kd.R (Kd.int .u8) 5 w3 w.heap.size (fun _ => True) v3 (([1] ++ [(a0.size : Int)]) ++ bytesOf a0) at ho3))
    rw [rounds_succ]
    go_wp2
    go_ret2
    exact ⟨_, rfl, Kd.R_nil _ _ _ _ _, hb3⟩
  · rw [if_pos (by omega)] at h
    simp only [Option.some.injEq, Prod.mk.injEq] at h
    obtain ⟨rfl, rfl⟩ := h
    have t0 : a0.toList.isEmpty = false := up_full (by omega)
    have c0 : decide (255 < (a0.size : Int)) = false := decide_eq_false (by omega)
    have d0 : decide (255 < a0.size) = false := decide_eq_false (by omega)
    have q0 : (a0.size : Int) % 256 = a0.size := by omega
    have t1 : a1.toList.isEmpty = false := up_full (by omega)
    have c1 : decide (255 < (a1.size : Int)) = false := decide_eq_false (by omega)
    have d1 : decide (255 < a1.size) = false := decide_eq_false (by omega)
    have q1 : (a1.size : Int) % 256 = a1.size := by omega
    go_enter Try.func8, Try.ntmps8
    go_wp2_with ((with_reducible refine gate_dst (N := 9) rfl ?_); (try (refine gate_guard (by rfl) ?_; dsimp only)); refine Kd.R_lit (Kd.int .u8) _ 5 ?hg (N := 9) ?hd (xs := ([1] : List Int)) (inner := [.int .u8 1]) (ok := fun _ => True) (okp := fun _ => True) ?hr ?hp (fun _ hk => hk) trivial (Below.refl _ _) (Nat.le_refl _) (by simp) ?_; (case hd => rfl); (case hg => rfl); (case hr => first | (go_simp; done) | (go_simp; rfl)); (case hp => exact (Reps.one (show Kd.M (Kd.int .u8) _ _ _ 1 [.int .u8 1] from rfl) (Reps.none _ _))); intro v1 w1 ho hb hg_ hnew_; clear hg_ hnew_)
    refine wp_loop_rounds 3 ?_
    rw [rounds_succ]
    go_wp2_with (first | ((with_reducible refine gate_builtin (b := .append) (xs := #[.tmp 23, .tmp 27]) rfl ?_); (try (refine gate_guard (by rfl) ?_; dsimp only)); at_builtin; refine Kd.R_append (Kd.int .u8) (w0 := w) w.heap.size rfl (.tmp 23) (.tmp 27) 22 5 (.int .u8 0) 1 rfl Try.underlying22 info5 rfl (by decide) (by omega) v1 ([1]) (a0.size : Int) [.int .u8 (a0.size : Int)] (fun _ => True) (fun _ => False) rfl rfl ?aP (fun _ hk => hk.elim) ?aF ?aO ?aB ?aS ?aL ?_; (case aP => exact rfl); (case aB => exact hb); (case aF => exact (fun _ _ => trivial)); (case aO => exact ho); (case aS => exact below_size hb); (case aL => simp only [List.length_append, bytesOf_length, List.length_cons, List.length_nil]; omega); intro v2 w2 ho2 hb2 hg hat; clear hg hat) | (at_builtin; refine print_append_str (w0 := w) w.heap.size rfl (.tmp 28) _ 22 9 5 rfl Try.underlying22 Try.underlying9 info5 v2 ([1] ++ [(a0.size : Int)]) a0 rfl rfl ?aO ?aB ?aS ?aL ?_; (case aB => exact hb2); (case aO => exact Kd.own_of_R ho2); (case aS => exact below_size hb2); (case aL => simp only [List.length_append, bytesOf_length, List.length_cons, List.length_nil]; omega); intro v3 w3 ho0 hb3 hg; have ho3 := Kd.R_of_own (h1 := fun _ => rfl) (ok := fun _ => True) ho0 (fun _ _ => trivial); clear ho0 hg; change Kd.R (Kd.int .u8) 5 w3 w.heap.size (fun _ => True) v3 (([1] ++ [(a0.size : Int)]) ++ bytesOf a0) at ho3))
    rw [rounds_succ]
    go_wp2_with (first | ((with_reducible refine gate_builtin (b := .append) (xs := #[.tmp 23, .tmp 27]) rfl ?_); (try (refine gate_guard (by rfl) ?_; dsimp only)); at_builtin; refine Kd.R_append (Kd.int .u8) (w0 := w) w.heap.size rfl (.tmp 23) (.tmp 27) 22 5 (.int .u8 0) 1 rfl Try.underlying22 info5 rfl (by decide) (by omega) v3 (([1] ++ [(a0.size : Int)]) ++ bytesOf a0) (a1.size : Int) [.int .u8 (a1.size : Int)] (fun _ => True) (fun _ => False) rfl rfl ?aP (fun _ hk => hk.elim) ?aF ?aO ?aB ?aS ?aL ?_; (case aP => exact rfl); (case aB => exact hb3); (case aF => exact (fun _ _ => trivial)); (case aO => exact ho3); (case aS => exact below_size hb3); (case aL => simp only [List.length_append, bytesOf_length, List.length_cons, List.length_nil]; omega); intro v4 w4 ho4 hb4 hg hat; clear hg hat) | (at_builtin; refine print_append_str (w0 := w) w.heap.size rfl (.tmp 28) _ 22 9 5 rfl Try.underlying22 Try.underlying9 info5 v4 ((([1] ++ [(a0.size : Int)]) ++ bytesOf a0) ++ [(a1.size : Int)]) a1 rfl rfl ?aO ?aB ?aS ?aL ?_; (case aB => exact hb4); (case aO => exact Kd.own_of_R ho4); (case aS => exact below_size hb4); (case aL => simp only [List.length_append, bytesOf_length, List.length_cons, List.length_nil]; omega); intro v5 w5 ho0 hb5 hg; have ho5 := Kd.R_of_own (h1 := fun _ => rfl) (ok := fun _ => True) ho0 (fun _ _ => trivial); clear ho0 hg; change Kd.R (Kd.int .u8) 5 w5 w.heap.size (fun _ => True) v5 (((([1] ++ [(a0.size : Int)]) ++ bytesOf a0) ++ [(a1.size : Int)]) ++ bytesOf a1) at ho5))
    rw [rounds_succ]
    go_wp2
    go_ret2
    exact ⟨_, rfl, ho5, hb5⟩

end Go.Proofs.Ytlhjninbkngamaa.P
