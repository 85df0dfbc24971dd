import Derived.Test.YtlpibchjcmndjabSLstaysH
namespace Go.Proofs.Ytlpibchjcmndjab.P
open Go.RowKit Go.Proofs.YtlpibchjcmndjabW.PrintWords Go.Proofs.YtlpibchjcmndjabW.PrintLast Go.Proofs.YtlpibchjcmndjabW.PrintMore
attribute [local go_sem] max2_int min2_int max_two min_two max_three min_three max_four min_four   -- for this text's walks alone
set_option linter.unusedVariables false
set_option linter.unusedSimpArgs false
set_option linter.unnecessarySimpa false
set_option maxRecDepth 100000 in
set_option maxHeartbeats 32000000 in
theorem stays_wayAO (A0 A1 : Option Addr) (c0 c1 : Nat) (b m : List Int) (n : Int) (w : World) (hC0 : Kd.C (Kd.int .u8) w A0 b.length b) (hC1 : Kd.C (Kd.int .u8) w A1 m.length m) (hc0 : b.length ≤ c0) (hc1 : m.length ≤ c1) (hb0 : ∀ x ∈ b, 0 ≤ x ∧ x < 256) (hb1 : ∀ x ∈ m, 0 ≤ x ∧ x < 256) (hm : hasMax w) (hP : b.length ≤ 300 → m.length ≤ 100 → StaysOk b m n) (hA : (lineS b 0 n).2.1 = 5) (h0 : ¬ n < 0) (h1 : ¬ ((b ++ m).length : Int) < n) (h2 : ¬ (b.length : Int) < n) :
    Calls Try.prog 3 #[.slice A0 b.length c0, .slice A1 m.length c1, .int .i64 n] w fun e w' => e = .returned (.bool true) ∧ Below w.heap.size w w' := by
  have hAw := postilionlaw02_awake.calls true w rfl hm
  by_cases hs : 300 < b.length
  · have q : decide (300 < (b.length : Int)) = true := decide_eq_true (by omega)
    go_enter Try.func3, Try.ntmps3
    go_wp2_with (go_at_call 4; (with_reducible refine hAw.mono ?_); rintro e w1 ⟨rfl, hb1⟩)
    go_ret
    exact ⟨rfl, hb1⟩
  have q : decide (300 < (b.length : Int)) = false := decide_eq_false (by omega)
  by_cases hs2 : 100 < m.length
  · have q2 : decide (100 < (m.length : Int)) = true := decide_eq_true (by omega)
    go_enter Try.func3, Try.ntmps3
    go_wp2_with (go_at_call 4; (with_reducible refine hAw.mono ?_); rintro e w1 ⟨rfl, hb1⟩)
    go_ret
    exact ⟨rfl, hb1⟩
  have q2 : decide (100 < (m.length : Int)) = false := decide_eq_false (by omega)
  obtain ⟨hline, hsame⟩ := hP (by omega) (by omega)
  have SAME := Aside0.mk hsame
  have HB3 := Aside0.mk (show b.length ≤ 300 by omega)
  clear hsame
  have hLl : (b ++ m).length = b.length + m.length := List.length_append
  obtain ⟨L, hL⟩ : ∃ L, L = b ++ m := ⟨_, rfl⟩
  have hbL : ∀ x ∈ L, 0 ≤ x ∧ x < 256 := by
    intro x hx
    rw [hL] at hx
    rcases List.mem_append.1 hx with hx | hx
    · exact hb0 x hx
    · exact hb1 x hx
  have hLlen : L.length ≤ 1000000 := by rw [hL]; omega
  have htk : ∀ k : Nat, k ≤ b.length → L.take k = b.take k := fun k hk => by rw [hL, List.take_append_of_le_length hk]
  have hbL2 : b.length ≤ L.length := by rw [hL]; omega
  rw [← hL] at hline
  rw [← hL] at h1
  have LN1 := fun (w0 : World) (R : Nat) (v : Value) (W : World) (h : RdIn w0 R v b 0 W) (hmx : hasMax W) => rf_Line w0 R v b 0 W h hmx n (Nat.zero_le _) (by omega) hb0
  have LN2 := fun (w0 : World) (R : Nat) (v : Value) (W : World) (h : RdIn w0 R v L 0 W) (hmx : hasMax W) => rf_Line w0 R v L 0 W h hmx n (Nat.zero_le _) hLlen hbL
  obtain ⟨S, hS⟩ : ∃ S, S = lineS b 0 n := ⟨_, rfl⟩
  obtain ⟨T, hT⟩ : ∃ T, T = lineS L 0 n := ⟨_, rfl⟩
  rw [← hS] at LN1 hline hA
  rw [← hT] at LN2 hline
  clear hS hT
  obtain ⟨s1, s2, s3⟩ := S
  obtain ⟨t1, t2, t3⟩ := T
  simp only at LN1 LN2 hline
  have CPY := fun (W : World) (h : Kd.C (Kd.int .u8) W A0 b.length b) => postilionref01_Copy.calls A0 c0 b b W h hc0 (copy_some (by omega))
  have HAP := Aside0.mk (show (b.length + m.length) * 1 ≤ 140737488355328 by omega)
  have HCB := Aside0.mk hC0
  have HCM := Aside0.mk hC1
  have HB0 := Aside0.mk hb0
  have HBL := Aside0.mk hbL
  have HL := Aside0.mk hL
  have NB := fun (W : World) (h : Kd.C (Kd.int .u8) W A0 b.length b) => rd_New A0 c0 b W h hc0 b (clone_some (by omega))
  have NL := fun (A : Option Addr) (c : Nat) (W : World) (h : Kd.C (Kd.int .u8) W A L.length L) (hc : L.length ≤ c) => rd_New A c L W h hc L (clone_some hLlen)
  have HTK := Aside0.mk htk
  have HBB := Aside0.mk hbL2
  have HLL := Aside0.mk hLlen
  have HM := Aside0.mk hm
  have HBLEN := Aside0.mk (show b.length ≤ 1000000 by omega)
  clear hC0 hC1 hb0 hb1 hbL hL hLl hP hs hs2 htk hbL2 hLlen hm hc1
  rcases hline with ⟨hs2, hs3⟩ | ⟨hs2, hts⟩
  · clear hA
    subst hs2
    subst hs3
    by_cases hn0 : n < 0
    · exact absurd hn0 h0
    by_cases hn1 : (L.length : Int) < n
    · exact absurd hn1 h1
    by_cases hn2 : (b.length : Int) < n
    · exact absurd hn2 h2
    clear h0 h1 h2
    have q5 : decide ((b.length : Int) < n) = false := decide_eq_false hn2
    have Y1 := Aside0.mk (fun (w0 : World) (R : Nat) (u : Value) (W : World) (h : RdIn w0 R u b 0 W) => rd_Bytes1 w0 R u b 0 W h n (by omega) HBLEN.out (by omega))
    have Y2 := Aside0.mk (fun (w0 : World) (R : Nat) (u : Value) (W : World) (h : RdIn w0 R u L 0 W) => rd_Bytes1 w0 R u L 0 W h n (by omega) HLL.out (by omega))
    have HNB := Aside0.mk (show n.toNat ≤ b.length by omega)
    clear hn0 hn1 hn2
    go_enter Try.func3, Try.ntmps3
    go_wp2_with (first | (go_at_call 4; (with_reducible refine hAw.mono ?_); rintro e w1 ⟨rfl, hw1⟩; have cp := CPY w1 (Kd.C_below HCB.out hw1)) | (go_at_call 5; (with_reducible refine cp.mono ?_); rintro e w2 ⟨v2, rfl, ho2, hw2⟩; have hw2 := nlb_below hw1 hw2; have ho2 := Kd.R_lower ho2 hw1.size) | ((with_reducible refine gate_builtin (b := .append) (xs := #[.tmp 29, .tmp 30]) rfl ?_); at_builtin; refine Kd.R_append_rows (Kd.int .u8) (w0 := w) w.heap.size rfl (.tmp 29) (.tmp 30) 22 5 (.int .u8 0) 1 rfl Try.underlying22 info5 rfl (by decide) (by omega) v2 b m _ _ _ (fun _ => True) (fun _ => False) rfl rfl ho2 (Kd.C_below HCM.out hw2) (fun _ _ h => h) (fun _ h => h.elim) (fun _ _ => trivial) hw2 hw2.size HAP.out ?_; intro v3 w3 ho3 hw3 hg3 hat3; clear hg3 hat3; rw [← HL.out] at ho3; obtain ⟨A3, c3, ev⟩ := Kd.R_slice ho3; subst ev; have oc3 := own_C ho3; have n1 := NB w3 (Kd.C_below HCB.out hw3)) | (go_at_call 6; (with_reducible refine n1.mono ?_); rintro e w4 ⟨R1, u1, rfl, r1⟩; have n2 := NL A3 c3 w4 (Kd.C_below oc3.1 r1.hB) oc3.2) | (go_at_call 6; (with_reducible refine n2.mono ?_); rintro e w5 ⟨R2, u2, rfl, r2⟩; have ne12 : R2 ≠ R1 := by { have := r2.le; have := (Array.getElem?_eq_some_iff.1 r1.blk).1; omega }; have r2' := r2.rebase r1.hB; have r1 := r1.below r2.hB; clear r2; have r2 := r2'; clear r2'; have l1 := LN1 w3 R1 u1 w5 r1 (HM.out.below (nlb_below hw3 r1.hB))) | (go_at_call 7; (with_reducible refine l1.mono ?_); rintro e w6 ⟨rfl, r1', f1⟩; have r2 := r2.other r1 r1' f1 ne12; have r1 := r1'; clear r1'; have l2 := LN2 w3 R2 u2 w6 r2 (HM.out.below (nlb_below hw3 r2.hB))) | (go_at_call 7; (with_reducible refine l2.mono ?_); rintro e w7 ⟨rfl, r2', f2⟩; have r1 := r1.other r2 r2' f2 (Ne.symm ne12); have r2 := r2'; clear r2'; have n3 := NB w7 (Kd.C_below HCB.out (nlb_below hw3 r2.hB))) | (go_at_call 8; (with_reducible refine (rd_At _ R1 _ _ _ _ r1).mono ?_); rintro e a1 ⟨rfl, ha1⟩; obtain rfl := ha1.symm) | (go_at_call 6; (with_reducible refine n3.mono ?_); rintro e w8 ⟨R3, u3, rfl, r3⟩; have hw7 := nlb_below hw3 r2.hB; have hw37 := r2.hB; have n4 := NL A3 c3 w8 (Kd.C_below oc3.1 (nlb_below hw37 r3.hB)) oc3.2) | (go_at_call 6; (with_reducible refine n4.mono ?_); rintro e w9 ⟨R4, u4, rfl, r4⟩; have ne34 : R4 ≠ R3 := by { have := r4.le; have := (Array.getElem?_eq_some_iff.1 r3.blk).1; omega }; have r4' := r4.rebase r3.hB; have r3 := r3.below r4.hB; clear r4; have r4 := r4'; clear r4'; have y1 := (Y1.out _ R3 u3 w9 r3)) | (go_at_call 9; (with_reducible refine y1.mono ?_); rintro e w10 ⟨v10, rfl, r3', o3, f3⟩; have r4 := r4.other r3 r3' f3 ne34; have r3 := r3'; clear r3'; (rw [Nat.zero_add, List.drop_zero] at o3); obtain ⟨T, hT⟩ : ∃ T, b.take n.toNat = T := ⟨_, rfl⟩; (rw [hT] at o3); have HT := Aside0.mk hT; clear hT; obtain ⟨A10, c10, ev⟩ := Kd.R_slice o3; subst ev; have O3 := Aside0.mk o3; have F3 := Aside0.mk f3; clear o3 f3; have y2 := (Y2.out _ R4 u4 w10 r4)) | (go_at_call 9; (with_reducible refine y2.mono ?_); rintro e w11 ⟨v11, rfl, r4', o4, f4⟩; have r3 := r3.other r4 r4' f4 (Ne.symm ne34); have o3 := own_fr O3.out r4 f4; (rw [Nat.zero_add, List.drop_zero, HTK.out _ HNB.out, HT.out] at o4); obtain ⟨A11, c11, ev⟩ := Kd.R_slice o4; subst ev; have sm := postilionref01_Same.calls 1000 A10 c10 T A11 c11 T true w11 (own_C o3).1 (own_C o3).2 (own_C o4).1 (own_C o4).2 (SAME.out _ (by have := HB3.out; rw [← HT.out, List.length_take]; omega)); clear o3 o4 f4; have r4 := r4'; clear r4') | (go_at_call 10; (with_reducible refine sm.mono ?_); rintro e w12 ⟨rfl, hd12⟩))
    go_ret
    exact ⟨rfl, (by obtain ⟨d, rfl⟩ := hd12; exact pw_below_drewN (nlb_below hw7 r4.hB) _)⟩
  · exact absurd hA hs2
end Go.Proofs.Ytlpibchjcmndjab.P
