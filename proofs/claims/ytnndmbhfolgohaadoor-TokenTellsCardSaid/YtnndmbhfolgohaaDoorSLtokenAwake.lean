import Derived.Test.YtnndmbhfolgohaaDoorSLtokenSame
namespace Go.Proofs.YtnndmbhfolgohaaDoor.P
open Go.RowKit Go.Proofs.YtnndmbhfolgohaaDoorW.PrintWords Go.Proofs.YtnndmbhfolgohaaDoorW.PrintLast Go.Proofs.YtnndmbhfolgohaaDoorW.PrintMore
set_option linter.unusedVariables false
set_option linter.unusedSimpArgs false
set_option linter.unnecessarySimpa false
attribute [local go_sem] max2_int min2_int max_two min_two max_three min_three max_four min_four
set_option linter.unusedVariables false
set_option linter.unusedSimpArgs false
set_option linter.unnecessarySimpa false
/-! ### token: the chapter's examples -/
theorem bnext {w W W' : World} (h : Below w.heap.size w W) (hb : Below W.heap.size W W') : Below w.heap.size w W' :=
  h.trans ⟨hb.os, hb.tape, hb.output, hb.size, fun j hj => hb.block j (Nat.lt_of_lt_of_le hj h.size)⟩
theorem balloc {w W : World} (h : Below w.heap.size w W) (o : Obj) : Below w.heap.size w (W.alloc o) := h.alloc h.size o
set_option maxHeartbeats 1000000 in
theorem tk_none {A : Option Addr} {q : Nat} (l : List ByteArray) (W : World) (hC : Kd.C Kd.string W A l.length l) (hl : l.length ≤ 1000) (hs : ∀ s ∈ l, s.size ≤ 1000 ∧ parE s 44 = 6) : Calls Tryd.prog 21 #[.slice A l.length q] W fun e W' => e = .returned (.bool true) ∧ Below W.heap.size W W' := by
  have HC := Aside0.mk hC
  have HS := Aside0.mk hs
  clear hC hs
  go_enter Tryd.func21, Tryd.ntmps21
  go_wp2_with fail
  go_loopw [3] (fun ii wr => ∃ k : Nat, k ≤ l.length ∧ ii = .int .i64 (k : Int) ∧ Below W.heap.size W wr) (fun ii _ => l.length - (intOf ii).toNat)
  case atStart => exact ⟨0, Nat.zero_le _, rfl, Below.refl _ _⟩
  case round =>
    obtain ⟨k, hk, rfl, hd⟩ := hrel
    by_cases hlt : k < l.length
    · have p1 : decide ((k : Int) < (l.length : Int)) = true := decide_eq_true (by omega)
      obtain ⟨ad, e, c0⟩ := Kd.at_string (Kd.C_below HC.out hd) (k : Int) (by omega) (by omega)
      subst e
      rw [Int.toNat_natCast] at c0
      obtain ⟨hsz, hpe⟩ := HS.out _ (odd_at hlt)
      have i1 : (0 : Int) ≤ (k : Int) := by omega
      have i2 : (k : Int) < (l.length : Int) := by omega
      generalize rdOf ByteArray.empty l (k : Int) = s at c0 hsz hpe
      have PA := tk_Parse s 44 wr (by omega)
      have hpl : parL s 44 = [] := by
        unfold parE at hpe
        unfold parL
        repeat' split at hpe
        all_goals first | (exact absurd hpe (by decide)) | simp_all
      rw [hpe, hpl] at PA
      have PB : Calls Tryd.prog 14 #[.string s, .int .u8 44] wr fun e W' => ∃ v, e = .returned (.tuple #[v, .int .i64 6]) ∧ W'.ownsRow wr.heap.size 9 1 v 0 (strs []) ∧ Below wr.heap.size wr W' := PA
      clear hsz hpe hpl PA
      go_wp2_with (go_at_call 14; (with_reducible refine PB.mono ?_); rintro e w1 ⟨v, rfl, h1, hb1⟩; obtain ⟨A1, q1, rfl, _, _⟩ := strs_reads (l := []) h1 (by decide); clear h1)
      exact ⟨⟨k + 1, by omega, by simp, bnext hd hb1⟩, by simp [intOf]; omega⟩
    · have p1 : decide ((k : Int) < (l.length : Int)) = false := decide_eq_false (by omega)
      go_wp2_with fail
      go_ret
      exact ⟨rfl, hd⟩
theorem tk_P1 (W : World) : Calls Tryd.prog 14 #[.string ⟨#[97, 44, 98, 50]⟩, .int .u8 44] W fun e W' => ∃ A q, e = .returned (.tuple #[.slice A 2 q, .int .i64 0]) ∧ Kd.C Kd.string W' A 2 [⟨#[97]⟩, ⟨#[98, 50]⟩] ∧ Below W.heap.size W W' := by
  refine (tk_Parse ⟨#[97, 44, 98, 50]⟩ 44 W (by decide)).mono ?_
  rintro e w1 ⟨v, rfl, h1, h2⟩
  rw [show parL ⟨#[97, 44, 98, 50]⟩ 44 = [⟨#[97]⟩, ⟨#[98, 50]⟩] by decide +kernel] at h1
  obtain ⟨A, q, rfl, _, h3⟩ := strs_reads h1 (by decide)
  exact ⟨A, q, by rw [show parE ⟨#[97, 44, 98, 50]⟩ 44 = 0 by decide +kernel]; rfl, h3, h2⟩
theorem tk_P2 (W : World) : Calls Tryd.prog 14 #[.string ⟨#[]⟩, .int .u8 44] W fun e W' => ∃ A q, e = .returned (.tuple #[.slice A 0 q, .int .i64 0]) ∧ Below W.heap.size W W' := by
  refine (tk_Parse ⟨#[]⟩ 44 W (by decide)).mono ?_
  rintro e w1 ⟨v, rfl, h1, h2⟩
  rw [show parL ⟨#[]⟩ 44 = [] by decide +kernel] at h1
  obtain ⟨A, q, rfl, _, h3⟩ := strs_reads h1 (by decide)
  exact ⟨A, q, by rw [show parE ⟨#[]⟩ 44 = 0 by decide +kernel]; rfl, h2⟩
theorem tk_P3 (W : World) : Calls Tryd.prog 14 #[.string ⟨#[97]⟩, .int .u8 97] W fun e W' => ∃ A q, e = .returned (.tuple #[.slice A 0 q, .int .i64 2]) ∧ Below W.heap.size W W' := by
  refine (tk_Parse ⟨#[97]⟩ 97 W (by decide)).mono ?_
  rintro e w1 ⟨v, rfl, h1, h2⟩
  rw [show parL ⟨#[97]⟩ 97 = [] by decide +kernel] at h1
  obtain ⟨A, q, rfl, _, h3⟩ := strs_reads h1 (by decide)
  exact ⟨A, q, by rw [show parE ⟨#[97]⟩ 97 = 2 by decide +kernel]; rfl, h2⟩
theorem tk_N (W : World) : Calls Tryd.prog 21 #[.slice (some ⟨W.heap.size, 0, none⟩) 6 6] (W.alloc (.cells #[.string ⟨#[97, 44]⟩, .string ⟨#[65]⟩, .string ⟨#[97, 59, 98]⟩, .string ⟨#[97, 44, 98, 44, 99, 44, 100, 44, 101, 44, 102, 44, 103, 44, 104, 44, 105]⟩, .string ⟨#[44]⟩, .string ⟨#[110, 105, 110, 101, 98, 121, 116, 101, 115]⟩] 9)) fun e W' => e = .returned (.bool true) ∧ Below (W.heap.size + 1) (W.alloc (.cells #[.string ⟨#[97, 44]⟩, .string ⟨#[65]⟩, .string ⟨#[97, 59, 98]⟩, .string ⟨#[97, 44, 98, 44, 99, 44, 100, 44, 101, 44, 102, 44, 103, 44, 104, 44, 105]⟩, .string ⟨#[44]⟩, .string ⟨#[110, 105, 110, 101, 98, 121, 116, 101, 115]⟩] 9)) W' := by
  have h := tk_none (q := 6) [⟨#[97, 44]⟩, ⟨#[65]⟩, ⟨#[97, 59, 98]⟩, ⟨#[97, 44, 98, 44, 99, 44, 100, 44, 101, 44, 102, 44, 103, 44, 104, 44, 105]⟩, ⟨#[44]⟩, ⟨#[110, 105, 110, 101, 98, 121, 116, 101, 115]⟩] _ (strs_lit W _ (by decide)) (by decide) (by decide +kernel)
  rw [World.size_alloc] at h
  exact h
theorem bstep {w W W' : World} {o : Obj} (h : Below w.heap.size w W) (hb : Below (W.heap.size + 1) (W.alloc o) W') : Below w.heap.size w W' :=
  (balloc h o).trans ⟨hb.os, hb.tape, hb.output, hb.size, fun j hj => hb.block j (Nat.lt_succ_of_lt (Nat.lt_of_lt_of_le hj h.size))⟩
theorem tk_two {B : Option Addr} {W : World} (h : Kd.C Kd.string W B 2 [⟨#[97]⟩, ⟨#[98]⟩]) (own : ByteArray) (most r : Int) (hr : ckE own [⟨#[97]⟩, ⟨#[98]⟩] most = r) : Calls Tryd.prog 9 #[.string own, .slice B 2 2, .int .i64 most] W fun e W' => e = .returned (.int .i64 r) ∧ Drawn0 W W' := by
  rw [← hr]
  exact tk_Check (c := 2) own [⟨#[97]⟩, ⟨#[98]⟩] most W h (by decide) (by decide)
theorem two_later {w4 w5 : World} {X : Option Addr} {l : List ByteArray} {o : Obj} (h : Kd.C Kd.string w4 X 2 l) (hb : Below (w4.heap.size + 1) (w4.alloc o) w5) : Kd.C Kd.string w5 X 2 l :=
  Kd.C_below h ⟨hb.os, hb.tape, hb.output, Nat.le_trans (by rw [World.size_alloc]; omega) hb.size, fun j hj => (hb.block j (by omega)).trans ((Below.refl _ w4).alloc (Nat.le_refl _) o |>.block j hj)⟩
theorem tk_same2 {w : World} {q1 : Nat} {A1 : Option Addr} (w3 : World) (B3 : Below w.heap.size w w3) (cL : Kd.C Kd.string w3 A1 2 [⟨#[97]⟩, ⟨#[98, 50]⟩]) : Calls Tryd.prog 11 #[.slice A1 2 q1, .slice (some ⟨w3.heap.size + 1, 0, none⟩) 2 2] ((w3.alloc (.cells #[.string ⟨#[97]⟩, .string ⟨#[98]⟩] 9)).alloc (.cells #[.string ⟨#[97]⟩, .string ⟨#[98, 50]⟩] 9)) fun e W' => e = .returned (.bool true) ∧ Below w.heap.size w W' ∧ Kd.C Kd.string W' (some ⟨w3.heap.size, 0, none⟩) 2 [⟨#[97]⟩, ⟨#[98]⟩] := by
  have c1 := strs_lit w3 [⟨#[97]⟩, ⟨#[98]⟩] (by decide)
  have c2 := strs_lit (w3.alloc (.cells #[.string ⟨#[97]⟩, .string ⟨#[98]⟩] 9)) [⟨#[97]⟩, ⟨#[98, 50]⟩] (by decide)
  rw [World.size_alloc] at c2
  have b1 : Below w3.heap.size w3 (w3.alloc (.cells #[.string ⟨#[97]⟩, .string ⟨#[98]⟩] 9)) := (Below.refl _ w3).alloc (Nat.le_refl _) _
  have b2 : ∀ o, Below (w3.alloc (.cells #[.string ⟨#[97]⟩, .string ⟨#[98]⟩] 9)).heap.size (w3.alloc (.cells #[.string ⟨#[97]⟩, .string ⟨#[98]⟩] 9)) ((w3.alloc (.cells #[.string ⟨#[97]⟩, .string ⟨#[98]⟩] 9)).alloc o) := fun o => (Below.refl _ _).alloc (Nat.le_refl _) o
  refine (tk_Same (p := q1) (q := 2) [⟨#[97]⟩, ⟨#[98, 50]⟩] _ (Kd.C_below (Kd.C_below cL b1) (b2 _)) c2 (by decide)).mono ?_
  rintro e w4 ⟨rfl, n, rfl⟩
  exact ⟨rfl, pw_below_drewN (balloc (balloc B3 _) _) n, Kd.C_below (Kd.C_below c1 (b2 _)) (pw_below_drewN (Below.refl _ _) n)⟩
set_option maxHeartbeats 8000000 in
set_option maxRecDepth 100000 in
theorem tk_awake (w : World) : Calls Tryd.prog 6 #[] w fun e w' => e = .returned (.bool true) ∧ Below w.heap.size w w' := by
  have P1 := tk_P1 w
  have k1 : ckE ⟨#[99]⟩ [⟨#[97]⟩, ⟨#[98]⟩] 3 = 0 := by decide +kernel
  have k2 : ckE ⟨#[99]⟩ [⟨#[97]⟩, ⟨#[98]⟩] 2 = 170 := by decide +kernel
  have k3 : ckE ⟨#[98]⟩ [⟨#[97]⟩, ⟨#[98]⟩] 3 = 170 := by decide +kernel
  have K := Aside0.mk (And.intro k1 (And.intro k2 k3))
  clear k1 k2 k3
  go_enter Tryd.func6, Tryd.ntmps6
  go_wp2_with (first
    | (go_at_call 14; (with_reducible refine P1.mono ?_); rintro e w1 ⟨A1, q1, rfl, c1, hb1⟩; have P2 := tk_P2 w1; clear P1)
    | (go_at_call 14; (with_reducible refine P2.mono ?_); rintro e w2 ⟨A2, q2, rfl, hb2⟩; have P3 := tk_P3 w2; clear P2)
    | (go_at_call 14; (with_reducible refine P3.mono ?_); rintro e w3 ⟨A3, q3, rfl, hb3⟩; have B3 := bnext (bnext hb1 hb2) hb3; have cL := Aside0.mk (Kd.C_below (Kd.C_below c1 hb2) hb3); have SM := tk_same2 (w := w) (q1 := q1) (A1 := A1) w3 B3 cL.out; clear P3 hb1 hb2 hb3 c1 B3 cL)
    | (go_at_call 11; (with_reducible refine SM.mono ?_); rintro e w4 ⟨rfl, B5, cT4⟩; have N4 := tk_N w4; clear SM)
    | (go_at_call 21; (with_reducible refine N4.mono ?_); rintro e w5 ⟨rfl, hb5⟩; have B6 := bstep B5 hb5; have cT5 := two_later cT4 hb5; have C5 := tk_two cT5 ⟨#[99]⟩ 3 0 K.out.1; clear N4 B5 cT4 hb5)
    | (go_at_call 9; (with_reducible refine C5.mono ?_); rintro e w6 ⟨rfl, d6⟩; have B7 := bnext B6 d6.below; have cT6 := Kd.C_below cT5 d6.below; have C6 := tk_two cT6 ⟨#[99]⟩ 2 170 K.out.2.1; clear C5 d6 B6 cT5)
    | (go_at_call 9; (with_reducible refine C6.mono ?_); rintro e w7 ⟨rfl, d7⟩; have B8 := bnext B7 d7.below; have cT7 := Kd.C_below cT6 d7.below; have C7 := tk_two cT7 ⟨#[98]⟩ 3 170 K.out.2.2; clear C6 d7 B7 cT6)
    | (go_at_call 9; (with_reducible refine C7.mono ?_); rintro e w8 ⟨rfl, d8⟩; have B9 := bnext B8 d8.below; clear C7 d8 B8 cT7))
  go_ret
  exact ⟨rfl, B9⟩
end Go.Proofs.YtnndmbhfolgohaaDoor.P
