-- Laid by sp.py, a program of this session's, out of the translation and the session's own stand-ins.
import Derived.Test.YtpllckhmnjgohaaDoorPx0
import Derived.Test.YtpllckhmnjgohaaDoorStlinesAwake
import Derived.Test.YtpllckhmnjgohaaDoorStlinesJoined
import Derived.Test.YtpllckhmnjgohaaDoorPx4
import Derived.Test.YtpllckhmnjgohaaDoorPx7
import Derived.Test.YtpllckhmnjgohaaDoorStlinesPrint
import Derived.Test.YtpllckhmnjgohaaDoorLinesBackLem
namespace Go.Proofs.YtpllckhmnjgohaaDoor.P
open Go.RowKit Go.Proofs.YtpllckhmnjgohaaDoorW.PrintWords Go.Proofs.YtpllckhmnjgohaaDoorW.PrintLast Go.Proofs.YtpllckhmnjgohaaDoorW.PrintMore
attribute [local go_sem] max2_int min2_int max_two min_two max_three min_three max_four min_four   -- for this text's walks alone
set_option linter.unusedVariables false
set_option linter.unusedSimpArgs false
set_option linter.unnecessarySimpa false

/-! ### LinesBack: a law by hand -/
def postilionlaw18_LinesBack.f (l : List (List ByteArray)) (_s : ByteArray) : Option Bool := if l.all (fun r => decide (r.length ≤ 9223372036854775807)) = true then some true else none
theorem lk_split (s : ByteArray) (W : World) (hs : s.size ≤ 1000000) (hT : spTab W) (E : Int) (L : List (List ByteArray)) (hE : splE s = E) (hL : splL s = L) : Calls Tryd.prog 6 #[.string s] W fun e W' => ∃ A q, e = .returned (.tuple #[.slice A L.length q, .int .i64 E]) ∧ L.length ≤ q ∧ Kd.C kdL W' A L.length L ∧ Below W.heap.size W W' := by
  subst hE hL
  refine (ls_Split s W hs hT).mono ?_
  rintro e w1 ⟨v, rfl, o1, b1⟩
  obtain ⟨A, q, rfl, hq, c1⟩ := rows2_reads o1
  exact ⟨A, q, rfl, hq, c1, b1⟩
theorem lk_print (l : List (List ByteArray)) (hs : Pure.Small l) (hc : Pure.cost l ≤ 9000) (S : ByteArray) (E : Int) (hS : Pure.prS l = S) (hE : Pure.prE l = E) (W : World) (A : Option Addr) (q : Nat) (hC : Kd.C kdL W A l.length l) (hq : l.length ≤ q) : Calls Tryd.prog 11 #[.slice A l.length q] W fun e W' => e = .returned (.tuple #[.string S, .int .i64 E]) ∧ Below W.heap.size W W' := by
  subst hS hE
  obtain ⟨K, hK⟩ := Pure.print_ev2 l hs hc
  exact lines_Print.calls K A q l _ _ W hC hq (hK K (Nat.le_refl _))
theorem lk_may (l : List (List ByteArray)) (hs : Pure.Small l) (b : Bool) (hb : Pure.allOk l = b) (W : World) (A : Option Addr) (q : Nat) (hC : Kd.C kdL W A l.length l) (hq : l.length ≤ q) : Calls Tryd.prog 12 #[.slice A l.length q] W fun e W' => e = .returned (.bool b) ∧ Below W.heap.size W W' := by
  subst hb
  obtain ⟨K, hK⟩ := Pure.may_ev l hs
  refine (lines_May.calls K A q l _ W hC hq (hK K (Nat.le_refl _))).mono ?_
  rintro e w' ⟨rfl, ⟨nd, rfl⟩⟩
  exact ⟨rfl, pw_below_drewN (Below.refl _ _) nd⟩
theorem lk_same (l : List (List ByteArray)) (hs : Pure.Small l) (W : World) (A B : Option Addr) (p q : Nat) (hA : Kd.C kdL W A l.length l) (hp : l.length ≤ p) (hB : Kd.C kdL W B l.length l) (hq : l.length ≤ q) : Calls Tryd.prog 8 #[.slice A l.length p, .slice B l.length q] W fun e W' => e = .returned (.bool true) ∧ Below W.heap.size W W' := lw_same W l hs rfl hA hp hB hq
theorem lk_great (l : List (List ByteArray)) (b : Bool) (K : Nat) (hb : postilionlaw18_great.f K l = some b) (W : World) (A : Option Addr) (q : Nat) (hC : Kd.C kdL W A l.length l) (hq : l.length ≤ q) : Calls Tryd.prog 10 #[.slice A l.length q] W fun e W' => e = .returned (.bool b) ∧ Below W.heap.size W W' := by
  refine (postilionlaw18_great.calls K A q l _ W hC hq hb).mono ?_
  rintro e w' ⟨rfl, ⟨nd, rfl⟩⟩
  exact ⟨rfl, pw_below_drewN (Below.refl _ _) nd⟩
theorem splL_bad' {s : ByteArray} (h : splE s ≠ 0) : splL s = [] := by unfold splL; rw [if_neg h]
set_option maxRecDepth 100000 in
set_option maxHeartbeats 8000000 in
theorem lk_11 (A0 : Option Addr) (c0 : Nat) (l : List (List ByteArray)) (s : ByteArray) (w : World) (hT : spTab w) (hC0 : Kd.C kdL w A0 l.length l) (hc0 : l.length ≤ c0) (hs : s.size ≤ 6000) (K : Nat) (hg : postilionlaw18_great.f K l = some false) (hls : Pure.Small l) (hlc : Pure.cost l ≤ 9000)
    (T1 : ByteArray) (hP : Pure.prS l = T1) (hQ : Pure.prE l = 0) (hS1 : splE T1 = 0) (hS2 : splL T1 = l) (hT1 : T1.size ≤ 4096)
    (E : Int) (hE : splE s = E) (hE0 : E ≠ 0) (hL0 : splL s = []) :
    Calls Tryd.prog 5 #[.slice A0 l.length c0, .string s] w fun e w' => e = .returned (.bool true) ∧ Below w.heap.size w w' := by
  have AW := postilionlaw18_awake.calls w hT
  have p2 : decide ((6000 : Int) < (s.size : Int)) = false := decide_eq_false (by omega)
  have GR := Aside0.mk (fun (W : World) (hB : Below w.heap.size w W) => lk_great l false K hg W A0 c0 (Kd.C_below hC0 hB) hc0)
  have PR := Aside0.mk (fun (W : World) (hB : Below w.heap.size w W) => lk_print l hls hlc T1 0 hP hQ W A0 c0 (Kd.C_below hC0 hB) hc0)
  have ST := Aside0.mk (fun (W : World) (hB : Below w.heap.size w W) => lk_split T1 W (by omega) (spTab_below hT hB) 0 l hS1 hS2)
  have SM := Aside0.mk (fun (W : World) (hB : Below w.heap.size w W) (B : Option Addr) (q : Nat) (hC : Kd.C kdL W B l.length l) (hq : l.length ≤ q) => lk_same l hls W A0 B c0 q (Kd.C_below hC0 hB) hc0 hC hq)
  have t1 : decide ((4096 : Int) < (T1.size : Int)) = false := decide_eq_false (by omega)
  have S2 := Aside0.mk (fun (W : World) (hB : Below w.heap.size w W) => lk_split s W (by omega) (spTab_below hT hB) E [] hE hL0)
  have q1 : (E != 0) = true := bne_iff_ne.2 hE0
  clear hT hC0
  clear hP hQ hS1 hS2 hE hL0 hg hls hlc
  go_enter Tryd.func5, Tryd.ntmps5
  go_wp2_with (first | (go_at_call 9; (with_reducible refine AW.mono ?_); rintro e w1 ⟨rfl, b1⟩; have X2 := GR.out w1 b1; clear AW) | (go_at_call 10; (with_reducible refine X2.mono ?_); rintro e w2 ⟨rfl, d2⟩; have b2 := bnext b1 d2; have X3 := PR.out w2 b2; clear X2 d2 b1) | (go_at_call 11; (with_reducible refine X3.mono ?_); rintro e w3 ⟨rfl, d3⟩; have b3 := bnext b2 d3; have X4 := ST.out w3 b3; clear X3 d3 b2) | (go_at_call 6; (with_reducible refine X4.mono ?_); rintro e w4 ⟨A4, q4, rfl, h4, c4, d4⟩; have b4 := bnext b3 d4; have X5 := SM.out w4 b4 A4 q4 c4 h4; clear X4 d4 b3 c4) | (go_at_call 8; (with_reducible refine X5.mono ?_); rintro e w5 ⟨rfl, d5⟩; have b5 := bnext b4 d5; have X6 := S2.out w5 b5; clear X5 d5 b4) | (go_at_call 6; (with_reducible refine X6.mono ?_); rintro e w6 ⟨A6, q6, rfl, h6, c6, d6⟩; have b6 := bnext b5 d6; clear X6 d6 b5))
  go_ret
  exact ⟨rfl, b6⟩
set_option maxRecDepth 100000 in
set_option maxHeartbeats 8000000 in
theorem lk_12 (A0 : Option Addr) (c0 : Nat) (l : List (List ByteArray)) (s : ByteArray) (w : World) (hT : spTab w) (hC0 : Kd.C kdL w A0 l.length l) (hc0 : l.length ≤ c0) (hs : s.size ≤ 6000) (K : Nat) (hg : postilionlaw18_great.f K l = some false) (hls : Pure.Small l) (hlc : Pure.cost l ≤ 9000)
    (T1 : ByteArray) (hP : Pure.prS l = T1) (hQ : Pure.prE l = 0) (hS1 : splE T1 = 0) (hS2 : splL T1 = l) (hT1 : T1.size ≤ 4096)
    (hE : splE s = 0) (M : List (List ByteArray)) (hM : splL s = M) (hMs : Pure.Small M) (hMc : Pure.cost M ≤ 9000) (hMo : Pure.allOk M = true) (T2 : ByteArray) (hP2 : Pure.prS M = T2) (hQ2 : Pure.prE M = 0) (hR1 : splE T2 = 0) (hR2 : splL T2 = M) (hT2 : T2.size ≤ 4096) (hT3 : T2.size ≤ s.size + 1) :
    Calls Tryd.prog 5 #[.slice A0 l.length c0, .string s] w fun e w' => e = .returned (.bool true) ∧ Below w.heap.size w w' := by
  have AW := postilionlaw18_awake.calls w hT
  have p2 : decide ((6000 : Int) < (s.size : Int)) = false := decide_eq_false (by omega)
  have GR := Aside0.mk (fun (W : World) (hB : Below w.heap.size w W) => lk_great l false K hg W A0 c0 (Kd.C_below hC0 hB) hc0)
  have PR := Aside0.mk (fun (W : World) (hB : Below w.heap.size w W) => lk_print l hls hlc T1 0 hP hQ W A0 c0 (Kd.C_below hC0 hB) hc0)
  have ST := Aside0.mk (fun (W : World) (hB : Below w.heap.size w W) => lk_split T1 W (by omega) (spTab_below hT hB) 0 l hS1 hS2)
  have SM := Aside0.mk (fun (W : World) (hB : Below w.heap.size w W) (B : Option Addr) (q : Nat) (hC : Kd.C kdL W B l.length l) (hq : l.length ≤ q) => lk_same l hls W A0 B c0 q (Kd.C_below hC0 hB) hc0 hC hq)
  have t1 : decide ((4096 : Int) < (T1.size : Int)) = false := decide_eq_false (by omega)
  have S2 := Aside0.mk (fun (W : World) (hB : Below w.heap.size w W) => lk_split s W (by omega) (spTab_below hT hB) 0 M hE hM)
  have M2 := Aside0.mk (fun (W : World) (A : Option Addr) (q : Nat) (hC : Kd.C kdL W A M.length M) (hq : M.length ≤ q) => lk_may M hMs true hMo W A q hC hq)
  have P2 := Aside0.mk (fun (W : World) (A : Option Addr) (q : Nat) (hC : Kd.C kdL W A M.length M) (hq : M.length ≤ q) => lk_print M hMs hMc T2 0 hP2 hQ2 W A q hC hq)
  have S3 := Aside0.mk (fun (W : World) (hB : Below w.heap.size w W) => lk_split T2 W (by omega) (spTab_below hT hB) 0 M hR1 hR2)
  have SM2 := Aside0.mk (fun (W : World) (A B : Option Addr) (p q : Nat) (hA : Kd.C kdL W A M.length M) (hp : M.length ≤ p) (hB : Kd.C kdL W B M.length M) (hq : M.length ≤ q) => lk_same M hMs W A B p q hA hp hB hq)
  have t2 : decide ((T2.size : Int) ≤ (s.size : Int) + 1) = true := decide_eq_true (by omega)
  have t3 : T2.size ≤ s.size + 1 := hT3
  clear hT hC0
  clear hP hQ hS1 hS2 hE hM hMs hMc hMo hP2 hQ2 hR1 hR2 hg hls hlc
  go_enter Tryd.func5, Tryd.ntmps5
  go_wp2_with (first | (go_at_call 9; (with_reducible refine AW.mono ?_); rintro e w1 ⟨rfl, b1⟩; have X2 := GR.out w1 b1; clear AW) | (go_at_call 10; (with_reducible refine X2.mono ?_); rintro e w2 ⟨rfl, d2⟩; have b2 := bnext b1 d2; have X3 := PR.out w2 b2; clear X2 d2 b1) | (go_at_call 11; (with_reducible refine X3.mono ?_); rintro e w3 ⟨rfl, d3⟩; have b3 := bnext b2 d3; have X4 := ST.out w3 b3; clear X3 d3 b2) | (go_at_call 6; (with_reducible refine X4.mono ?_); rintro e w4 ⟨A4, q4, rfl, h4, c4, d4⟩; have b4 := bnext b3 d4; have X5 := SM.out w4 b4 A4 q4 c4 h4; clear X4 d4 b3 c4) | (go_at_call 8; (with_reducible refine X5.mono ?_); rintro e w5 ⟨rfl, d5⟩; have b5 := bnext b4 d5; have X6 := S2.out w5 b5; clear X5 d5 b4) | (go_at_call 6; (with_reducible refine X6.mono ?_); rintro e w6 ⟨A6, q6, rfl, h6, c6, d6⟩; have b6 := bnext b5 d6; have X7 := P2.out w6 A6 q6 c6 h6; clear X6 d6 b5) | (go_at_call 11; (with_reducible refine X7.mono ?_); rintro e w7 ⟨rfl, d7⟩; have b7 := bnext b6 d7; have c7 := Kd.C_below c6 d7; have X8 := M2.out w7 A6 q6 c7 h6; clear X7 d7 b6 c6) | (go_at_call 12; (with_reducible refine X8.mono ?_); rintro e w8 ⟨rfl, d8⟩; have b8 := bnext b7 d8; have c8 := Kd.C_below c7 d8; have X9 := S3.out w8 b8; clear X8 d8 b7 c7) | (go_at_call 6; (with_reducible refine X9.mono ?_); rintro e w9 ⟨A9, q9, rfl, h9, c9, d9⟩; have b9 := bnext b8 d9; have X10 := SM2.out w9 A6 A9 q6 q9 (Kd.C_below c8 d9) h6 c9 h9; clear X9 d9 b8 c8 c9) | (go_at_call 8; (with_reducible refine X10.mono ?_); rintro e w10 ⟨rfl, d10⟩; have b10 := bnext b9 d10; clear X10 d10 b9))
  go_ret
  exact ⟨rfl, b10⟩
set_option maxRecDepth 100000 in
set_option maxHeartbeats 8000000 in
theorem lk_13 (A0 : Option Addr) (c0 : Nat) (l : List (List ByteArray)) (s : ByteArray) (w : World) (hT : spTab w) (hC0 : Kd.C kdL w A0 l.length l) (hc0 : l.length ≤ c0) (hs : s.size ≤ 6000) (K : Nat) (hg : postilionlaw18_great.f K l = some false) (hls : Pure.Small l) (hlc : Pure.cost l ≤ 9000)
    (T1 : ByteArray) (hP : Pure.prS l = T1) (hQ : Pure.prE l = 0) (hS1 : splE T1 = 0) (hS2 : splL T1 = l) (hT1 : T1.size ≤ 4096)
    (hE : splE s = 0) (M : List (List ByteArray)) (hM : splL s = M) (hMs : Pure.Small M) (hMc : Pure.cost M ≤ 9000) (hMo : Pure.allOk M = true) (hP2 : Pure.prS M = ⟨#[]⟩) (hQ2 : Pure.prE M = 3) (hlong : 4096 ≤ s.size) :
    Calls Tryd.prog 5 #[.slice A0 l.length c0, .string s] w fun e w' => e = .returned (.bool true) ∧ Below w.heap.size w w' := by
  have AW := postilionlaw18_awake.calls w hT
  have p2 : decide ((6000 : Int) < (s.size : Int)) = false := decide_eq_false (by omega)
  have GR := Aside0.mk (fun (W : World) (hB : Below w.heap.size w W) => lk_great l false K hg W A0 c0 (Kd.C_below hC0 hB) hc0)
  have PR := Aside0.mk (fun (W : World) (hB : Below w.heap.size w W) => lk_print l hls hlc T1 0 hP hQ W A0 c0 (Kd.C_below hC0 hB) hc0)
  have ST := Aside0.mk (fun (W : World) (hB : Below w.heap.size w W) => lk_split T1 W (by omega) (spTab_below hT hB) 0 l hS1 hS2)
  have SM := Aside0.mk (fun (W : World) (hB : Below w.heap.size w W) (B : Option Addr) (q : Nat) (hC : Kd.C kdL W B l.length l) (hq : l.length ≤ q) => lk_same l hls W A0 B c0 q (Kd.C_below hC0 hB) hc0 hC hq)
  have t1 : decide ((4096 : Int) < (T1.size : Int)) = false := decide_eq_false (by omega)
  have S2 := Aside0.mk (fun (W : World) (hB : Below w.heap.size w W) => lk_split s W (by omega) (spTab_below hT hB) 0 M hE hM)
  have M2 := Aside0.mk (fun (W : World) (A : Option Addr) (q : Nat) (hC : Kd.C kdL W A M.length M) (hq : M.length ≤ q) => lk_may M hMs true hMo W A q hC hq)
  have P2 := Aside0.mk (fun (W : World) (A : Option Addr) (q : Nat) (hC : Kd.C kdL W A M.length M) (hq : M.length ≤ q) => lk_print M hMs hMc ⟨#[]⟩ 3 hP2 hQ2 W A q hC hq)
  have t2 : decide ((s.size : Int) < 4096) = false := decide_eq_false (by omega)
  clear hT hC0
  clear hP hQ hS1 hS2 hE hM hMs hMc hMo hP2 hQ2 hg hls hlc
  go_enter Tryd.func5, Tryd.ntmps5
  go_wp2_with (first | (go_at_call 9; (with_reducible refine AW.mono ?_); rintro e w1 ⟨rfl, b1⟩; have X2 := GR.out w1 b1; clear AW) | (go_at_call 10; (with_reducible refine X2.mono ?_); rintro e w2 ⟨rfl, d2⟩; have b2 := bnext b1 d2; have X3 := PR.out w2 b2; clear X2 d2 b1) | (go_at_call 11; (with_reducible refine X3.mono ?_); rintro e w3 ⟨rfl, d3⟩; have b3 := bnext b2 d3; have X4 := ST.out w3 b3; clear X3 d3 b2) | (go_at_call 6; (with_reducible refine X4.mono ?_); rintro e w4 ⟨A4, q4, rfl, h4, c4, d4⟩; have b4 := bnext b3 d4; have X5 := SM.out w4 b4 A4 q4 c4 h4; clear X4 d4 b3 c4) | (go_at_call 8; (with_reducible refine X5.mono ?_); rintro e w5 ⟨rfl, d5⟩; have b5 := bnext b4 d5; have X6 := S2.out w5 b5; clear X5 d5 b4) | (go_at_call 6; (with_reducible refine X6.mono ?_); rintro e w6 ⟨A6, q6, rfl, h6, c6, d6⟩; have b6 := bnext b5 d6; have X7 := P2.out w6 A6 q6 c6 h6; clear X6 d6 b5) | (go_at_call 11; (with_reducible refine X7.mono ?_); rintro e w7 ⟨rfl, d7⟩; have b7 := bnext b6 d7; have c7 := Kd.C_below c6 d7; have X8 := M2.out w7 A6 q6 c7 h6; clear X7 d7 b6 c6) | (go_at_call 12; (with_reducible refine X8.mono ?_); rintro e w8 ⟨rfl, d8⟩; have b8 := bnext b7 d8; have c8 := Kd.C_below c7 d8; clear X8 d8 b7 c7))
  go_ret
  exact ⟨rfl, b8⟩
set_option maxRecDepth 100000 in
set_option maxHeartbeats 8000000 in
theorem lk_21 (A0 : Option Addr) (c0 : Nat) (l : List (List ByteArray)) (s : ByteArray) (w : World) (hT : spTab w) (hC0 : Kd.C kdL w A0 l.length l) (hc0 : l.length ≤ c0) (hs : s.size ≤ 6000) (K : Nat) (hg : postilionlaw18_great.f K l = some false) (hls : Pure.Small l) (hlc : Pure.cost l ≤ 9000)
    (hP : Pure.prS l = ⟨#[]⟩) (hQ : Pure.prE l = 3)
    (E : Int) (hE : splE s = E) (hE0 : E ≠ 0) (hL0 : splL s = []) :
    Calls Tryd.prog 5 #[.slice A0 l.length c0, .string s] w fun e w' => e = .returned (.bool true) ∧ Below w.heap.size w w' := by
  have AW := postilionlaw18_awake.calls w hT
  have p2 : decide ((6000 : Int) < (s.size : Int)) = false := decide_eq_false (by omega)
  have GR := Aside0.mk (fun (W : World) (hB : Below w.heap.size w W) => lk_great l false K hg W A0 c0 (Kd.C_below hC0 hB) hc0)
  have PR := Aside0.mk (fun (W : World) (hB : Below w.heap.size w W) => lk_print l hls hlc ⟨#[]⟩ 3 hP hQ W A0 c0 (Kd.C_below hC0 hB) hc0)
  have S2 := Aside0.mk (fun (W : World) (hB : Below w.heap.size w W) => lk_split s W (by omega) (spTab_below hT hB) E [] hE hL0)
  have q1 : (E != 0) = true := bne_iff_ne.2 hE0
  clear hT hC0
  clear hP hQ hE hL0 hg hls hlc
  go_enter Tryd.func5, Tryd.ntmps5
  go_wp2_with (first | (go_at_call 9; (with_reducible refine AW.mono ?_); rintro e w1 ⟨rfl, b1⟩; have X2 := GR.out w1 b1; clear AW) | (go_at_call 10; (with_reducible refine X2.mono ?_); rintro e w2 ⟨rfl, d2⟩; have b2 := bnext b1 d2; have X3 := PR.out w2 b2; clear X2 d2 b1) | (go_at_call 11; (with_reducible refine X3.mono ?_); rintro e w3 ⟨rfl, d3⟩; have b5 := bnext b2 d3; have X6 := S2.out w3 b5; clear X3 d3 b2) | (go_at_call 6; (with_reducible refine X6.mono ?_); rintro e w6 ⟨A6, q6, rfl, h6, c6, d6⟩; have b6 := bnext b5 d6; clear X6 d6 b5))
  go_ret
  exact ⟨rfl, b6⟩
set_option maxRecDepth 100000 in
set_option maxHeartbeats 8000000 in
theorem lk_22 (A0 : Option Addr) (c0 : Nat) (l : List (List ByteArray)) (s : ByteArray) (w : World) (hT : spTab w) (hC0 : Kd.C kdL w A0 l.length l) (hc0 : l.length ≤ c0) (hs : s.size ≤ 6000) (K : Nat) (hg : postilionlaw18_great.f K l = some false) (hls : Pure.Small l) (hlc : Pure.cost l ≤ 9000)
    (hP : Pure.prS l = ⟨#[]⟩) (hQ : Pure.prE l = 3)
    (hE : splE s = 0) (M : List (List ByteArray)) (hM : splL s = M) (hMs : Pure.Small M) (hMc : Pure.cost M ≤ 9000) (hMo : Pure.allOk M = true) (T2 : ByteArray) (hP2 : Pure.prS M = T2) (hQ2 : Pure.prE M = 0) (hR1 : splE T2 = 0) (hR2 : splL T2 = M) (hT2 : T2.size ≤ 4096) (hT3 : T2.size ≤ s.size + 1) :
    Calls Tryd.prog 5 #[.slice A0 l.length c0, .string s] w fun e w' => e = .returned (.bool true) ∧ Below w.heap.size w w' := by
  have AW := postilionlaw18_awake.calls w hT
  have p2 : decide ((6000 : Int) < (s.size : Int)) = false := decide_eq_false (by omega)
  have GR := Aside0.mk (fun (W : World) (hB : Below w.heap.size w W) => lk_great l false K hg W A0 c0 (Kd.C_below hC0 hB) hc0)
  have PR := Aside0.mk (fun (W : World) (hB : Below w.heap.size w W) => lk_print l hls hlc ⟨#[]⟩ 3 hP hQ W A0 c0 (Kd.C_below hC0 hB) hc0)
  have S2 := Aside0.mk (fun (W : World) (hB : Below w.heap.size w W) => lk_split s W (by omega) (spTab_below hT hB) 0 M hE hM)
  have M2 := Aside0.mk (fun (W : World) (A : Option Addr) (q : Nat) (hC : Kd.C kdL W A M.length M) (hq : M.length ≤ q) => lk_may M hMs true hMo W A q hC hq)
  have P2 := Aside0.mk (fun (W : World) (A : Option Addr) (q : Nat) (hC : Kd.C kdL W A M.length M) (hq : M.length ≤ q) => lk_print M hMs hMc T2 0 hP2 hQ2 W A q hC hq)
  have S3 := Aside0.mk (fun (W : World) (hB : Below w.heap.size w W) => lk_split T2 W (by omega) (spTab_below hT hB) 0 M hR1 hR2)
  have SM2 := Aside0.mk (fun (W : World) (A B : Option Addr) (p q : Nat) (hA : Kd.C kdL W A M.length M) (hp : M.length ≤ p) (hB : Kd.C kdL W B M.length M) (hq : M.length ≤ q) => lk_same M hMs W A B p q hA hp hB hq)
  have t2 : decide ((T2.size : Int) ≤ (s.size : Int) + 1) = true := decide_eq_true (by omega)
  have t3 : T2.size ≤ s.size + 1 := hT3
  clear hT hC0
  clear hP hQ hE hM hMs hMc hMo hP2 hQ2 hR1 hR2 hg hls hlc
  go_enter Tryd.func5, Tryd.ntmps5
  go_wp2_with (first | (go_at_call 9; (with_reducible refine AW.mono ?_); rintro e w1 ⟨rfl, b1⟩; have X2 := GR.out w1 b1; clear AW) | (go_at_call 10; (with_reducible refine X2.mono ?_); rintro e w2 ⟨rfl, d2⟩; have b2 := bnext b1 d2; have X3 := PR.out w2 b2; clear X2 d2 b1) | (go_at_call 11; (with_reducible refine X3.mono ?_); rintro e w3 ⟨rfl, d3⟩; have b5 := bnext b2 d3; have X6 := S2.out w3 b5; clear X3 d3 b2) | (go_at_call 6; (with_reducible refine X6.mono ?_); rintro e w6 ⟨A6, q6, rfl, h6, c6, d6⟩; have b6 := bnext b5 d6; have X7 := P2.out w6 A6 q6 c6 h6; clear X6 d6 b5) | (go_at_call 11; (with_reducible refine X7.mono ?_); rintro e w7 ⟨rfl, d7⟩; have b7 := bnext b6 d7; have c7 := Kd.C_below c6 d7; have X8 := M2.out w7 A6 q6 c7 h6; clear X7 d7 b6 c6) | (go_at_call 12; (with_reducible refine X8.mono ?_); rintro e w8 ⟨rfl, d8⟩; have b8 := bnext b7 d8; have c8 := Kd.C_below c7 d8; have X9 := S3.out w8 b8; clear X8 d8 b7 c7) | (go_at_call 6; (with_reducible refine X9.mono ?_); rintro e w9 ⟨A9, q9, rfl, h9, c9, d9⟩; have b9 := bnext b8 d9; have X10 := SM2.out w9 A6 A9 q6 q9 (Kd.C_below c8 d9) h6 c9 h9; clear X9 d9 b8 c8 c9) | (go_at_call 8; (with_reducible refine X10.mono ?_); rintro e w10 ⟨rfl, d10⟩; have b10 := bnext b9 d10; clear X10 d10 b9))
  go_ret
  exact ⟨rfl, b10⟩
set_option maxRecDepth 100000 in
set_option maxHeartbeats 8000000 in
theorem lk_23 (A0 : Option Addr) (c0 : Nat) (l : List (List ByteArray)) (s : ByteArray) (w : World) (hT : spTab w) (hC0 : Kd.C kdL w A0 l.length l) (hc0 : l.length ≤ c0) (hs : s.size ≤ 6000) (K : Nat) (hg : postilionlaw18_great.f K l = some false) (hls : Pure.Small l) (hlc : Pure.cost l ≤ 9000)
    (hP : Pure.prS l = ⟨#[]⟩) (hQ : Pure.prE l = 3)
    (hE : splE s = 0) (M : List (List ByteArray)) (hM : splL s = M) (hMs : Pure.Small M) (hMc : Pure.cost M ≤ 9000) (hMo : Pure.allOk M = true) (hP2 : Pure.prS M = ⟨#[]⟩) (hQ2 : Pure.prE M = 3) (hlong : 4096 ≤ s.size) :
    Calls Tryd.prog 5 #[.slice A0 l.length c0, .string s] w fun e w' => e = .returned (.bool true) ∧ Below w.heap.size w w' := by
  have AW := postilionlaw18_awake.calls w hT
  have p2 : decide ((6000 : Int) < (s.size : Int)) = false := decide_eq_false (by omega)
  have GR := Aside0.mk (fun (W : World) (hB : Below w.heap.size w W) => lk_great l false K hg W A0 c0 (Kd.C_below hC0 hB) hc0)
  have PR := Aside0.mk (fun (W : World) (hB : Below w.heap.size w W) => lk_print l hls hlc ⟨#[]⟩ 3 hP hQ W A0 c0 (Kd.C_below hC0 hB) hc0)
  have S2 := Aside0.mk (fun (W : World) (hB : Below w.heap.size w W) => lk_split s W (by omega) (spTab_below hT hB) 0 M hE hM)
  have M2 := Aside0.mk (fun (W : World) (A : Option Addr) (q : Nat) (hC : Kd.C kdL W A M.length M) (hq : M.length ≤ q) => lk_may M hMs true hMo W A q hC hq)
  have P2 := Aside0.mk (fun (W : World) (A : Option Addr) (q : Nat) (hC : Kd.C kdL W A M.length M) (hq : M.length ≤ q) => lk_print M hMs hMc ⟨#[]⟩ 3 hP2 hQ2 W A q hC hq)
  have t2 : decide ((s.size : Int) < 4096) = false := decide_eq_false (by omega)
  clear hT hC0
  clear hP hQ hE hM hMs hMc hMo hP2 hQ2 hg hls hlc
  go_enter Tryd.func5, Tryd.ntmps5
  go_wp2_with (first | (go_at_call 9; (with_reducible refine AW.mono ?_); rintro e w1 ⟨rfl, b1⟩; have X2 := GR.out w1 b1; clear AW) | (go_at_call 10; (with_reducible refine X2.mono ?_); rintro e w2 ⟨rfl, d2⟩; have b2 := bnext b1 d2; have X3 := PR.out w2 b2; clear X2 d2 b1) | (go_at_call 11; (with_reducible refine X3.mono ?_); rintro e w3 ⟨rfl, d3⟩; have b5 := bnext b2 d3; have X6 := S2.out w3 b5; clear X3 d3 b2) | (go_at_call 6; (with_reducible refine X6.mono ?_); rintro e w6 ⟨A6, q6, rfl, h6, c6, d6⟩; have b6 := bnext b5 d6; have X7 := P2.out w6 A6 q6 c6 h6; clear X6 d6 b5) | (go_at_call 11; (with_reducible refine X7.mono ?_); rintro e w7 ⟨rfl, d7⟩; have b7 := bnext b6 d7; have c7 := Kd.C_below c6 d7; have X8 := M2.out w7 A6 q6 c7 h6; clear X7 d7 b6 c6) | (go_at_call 12; (with_reducible refine X8.mono ?_); rintro e w8 ⟨rfl, d8⟩; have b8 := bnext b7 d8; have c8 := Kd.C_below c7 d8; clear X8 d8 b7 c7))
  go_ret
  exact ⟨rfl, b8⟩
set_option maxRecDepth 100000 in
set_option maxHeartbeats 8000000 in
theorem lk_31 (A0 : Option Addr) (c0 : Nat) (l : List (List ByteArray)) (s : ByteArray) (w : World) (hT : spTab w) (hC0 : Kd.C kdL w A0 l.length l) (hc0 : l.length ≤ c0) (hs : s.size ≤ 6000) (K : Nat) (hg : postilionlaw18_great.f K l = some false) (hls : Pure.Small l) (hlc : Pure.cost l ≤ 9000)
    (hP : Pure.prS l = ⟨#[]⟩) (hQ : Pure.prE l = 2) (hO : Pure.allOk l = false)
    (E : Int) (hE : splE s = E) (hE0 : E ≠ 0) (hL0 : splL s = []) :
    Calls Tryd.prog 5 #[.slice A0 l.length c0, .string s] w fun e w' => e = .returned (.bool true) ∧ Below w.heap.size w w' := by
  have AW := postilionlaw18_awake.calls w hT
  have p2 : decide ((6000 : Int) < (s.size : Int)) = false := decide_eq_false (by omega)
  have GR := Aside0.mk (fun (W : World) (hB : Below w.heap.size w W) => lk_great l false K hg W A0 c0 (Kd.C_below hC0 hB) hc0)
  have PR := Aside0.mk (fun (W : World) (hB : Below w.heap.size w W) => lk_print l hls hlc ⟨#[]⟩ 2 hP hQ W A0 c0 (Kd.C_below hC0 hB) hc0)
  have MY := Aside0.mk (fun (W : World) (hB : Below w.heap.size w W) => lk_may l hls false hO W A0 c0 (Kd.C_below hC0 hB) hc0)
  have S2 := Aside0.mk (fun (W : World) (hB : Below w.heap.size w W) => lk_split s W (by omega) (spTab_below hT hB) E [] hE hL0)
  have q1 : (E != 0) = true := bne_iff_ne.2 hE0
  clear hT hC0
  clear hP hQ hO hE hL0 hg hls hlc
  go_enter Tryd.func5, Tryd.ntmps5
  go_wp2_with (first | (go_at_call 9; (with_reducible refine AW.mono ?_); rintro e w1 ⟨rfl, b1⟩; have X2 := GR.out w1 b1; clear AW) | (go_at_call 10; (with_reducible refine X2.mono ?_); rintro e w2 ⟨rfl, d2⟩; have b2 := bnext b1 d2; have X3 := PR.out w2 b2; clear X2 d2 b1) | (go_at_call 11; (with_reducible refine X3.mono ?_); rintro e w3 ⟨rfl, d3⟩; have b3 := bnext b2 d3; have X4 := MY.out w3 b3; clear X3 d3 b2) | (go_at_call 12; (with_reducible refine X4.mono ?_); rintro e w4 ⟨rfl, d4⟩; have b5 := bnext b3 d4; have X6 := S2.out w4 b5; clear X4 d4 b3) | (go_at_call 6; (with_reducible refine X6.mono ?_); rintro e w6 ⟨A6, q6, rfl, h6, c6, d6⟩; have b6 := bnext b5 d6; clear X6 d6 b5))
  go_ret
  exact ⟨rfl, b6⟩
set_option maxRecDepth 100000 in
set_option maxHeartbeats 8000000 in
theorem lk_32 (A0 : Option Addr) (c0 : Nat) (l : List (List ByteArray)) (s : ByteArray) (w : World) (hT : spTab w) (hC0 : Kd.C kdL w A0 l.length l) (hc0 : l.length ≤ c0) (hs : s.size ≤ 6000) (K : Nat) (hg : postilionlaw18_great.f K l = some false) (hls : Pure.Small l) (hlc : Pure.cost l ≤ 9000)
    (hP : Pure.prS l = ⟨#[]⟩) (hQ : Pure.prE l = 2) (hO : Pure.allOk l = false)
    (hE : splE s = 0) (M : List (List ByteArray)) (hM : splL s = M) (hMs : Pure.Small M) (hMc : Pure.cost M ≤ 9000) (hMo : Pure.allOk M = true) (T2 : ByteArray) (hP2 : Pure.prS M = T2) (hQ2 : Pure.prE M = 0) (hR1 : splE T2 = 0) (hR2 : splL T2 = M) (hT2 : T2.size ≤ 4096) (hT3 : T2.size ≤ s.size + 1) :
    Calls Tryd.prog 5 #[.slice A0 l.length c0, .string s] w fun e w' => e = .returned (.bool true) ∧ Below w.heap.size w w' := by
  have AW := postilionlaw18_awake.calls w hT
  have p2 : decide ((6000 : Int) < (s.size : Int)) = false := decide_eq_false (by omega)
  have GR := Aside0.mk (fun (W : World) (hB : Below w.heap.size w W) => lk_great l false K hg W A0 c0 (Kd.C_below hC0 hB) hc0)
  have PR := Aside0.mk (fun (W : World) (hB : Below w.heap.size w W) => lk_print l hls hlc ⟨#[]⟩ 2 hP hQ W A0 c0 (Kd.C_below hC0 hB) hc0)
  have MY := Aside0.mk (fun (W : World) (hB : Below w.heap.size w W) => lk_may l hls false hO W A0 c0 (Kd.C_below hC0 hB) hc0)
  have S2 := Aside0.mk (fun (W : World) (hB : Below w.heap.size w W) => lk_split s W (by omega) (spTab_below hT hB) 0 M hE hM)
  have M2 := Aside0.mk (fun (W : World) (A : Option Addr) (q : Nat) (hC : Kd.C kdL W A M.length M) (hq : M.length ≤ q) => lk_may M hMs true hMo W A q hC hq)
  have P2 := Aside0.mk (fun (W : World) (A : Option Addr) (q : Nat) (hC : Kd.C kdL W A M.length M) (hq : M.length ≤ q) => lk_print M hMs hMc T2 0 hP2 hQ2 W A q hC hq)
  have S3 := Aside0.mk (fun (W : World) (hB : Below w.heap.size w W) => lk_split T2 W (by omega) (spTab_below hT hB) 0 M hR1 hR2)
  have SM2 := Aside0.mk (fun (W : World) (A B : Option Addr) (p q : Nat) (hA : Kd.C kdL W A M.length M) (hp : M.length ≤ p) (hB : Kd.C kdL W B M.length M) (hq : M.length ≤ q) => lk_same M hMs W A B p q hA hp hB hq)
  have t2 : decide ((T2.size : Int) ≤ (s.size : Int) + 1) = true := decide_eq_true (by omega)
  have t3 : T2.size ≤ s.size + 1 := hT3
  clear hT hC0
  clear hP hQ hO hE hM hMs hMc hMo hP2 hQ2 hR1 hR2 hg hls hlc
  go_enter Tryd.func5, Tryd.ntmps5
  go_wp2_with (first | (go_at_call 9; (with_reducible refine AW.mono ?_); rintro e w1 ⟨rfl, b1⟩; have X2 := GR.out w1 b1; clear AW) | (go_at_call 10; (with_reducible refine X2.mono ?_); rintro e w2 ⟨rfl, d2⟩; have b2 := bnext b1 d2; have X3 := PR.out w2 b2; clear X2 d2 b1) | (go_at_call 11; (with_reducible refine X3.mono ?_); rintro e w3 ⟨rfl, d3⟩; have b3 := bnext b2 d3; have X4 := MY.out w3 b3; clear X3 d3 b2) | (go_at_call 12; (with_reducible refine X4.mono ?_); rintro e w4 ⟨rfl, d4⟩; have b5 := bnext b3 d4; have X6 := S2.out w4 b5; clear X4 d4 b3) | (go_at_call 6; (with_reducible refine X6.mono ?_); rintro e w6 ⟨A6, q6, rfl, h6, c6, d6⟩; have b6 := bnext b5 d6; have X7 := P2.out w6 A6 q6 c6 h6; clear X6 d6 b5) | (go_at_call 11; (with_reducible refine X7.mono ?_); rintro e w7 ⟨rfl, d7⟩; have b7 := bnext b6 d7; have c7 := Kd.C_below c6 d7; have X8 := M2.out w7 A6 q6 c7 h6; clear X7 d7 b6 c6) | (go_at_call 12; (with_reducible refine X8.mono ?_); rintro e w8 ⟨rfl, d8⟩; have b8 := bnext b7 d8; have c8 := Kd.C_below c7 d8; have X9 := S3.out w8 b8; clear X8 d8 b7 c7) | (go_at_call 6; (with_reducible refine X9.mono ?_); rintro e w9 ⟨A9, q9, rfl, h9, c9, d9⟩; have b9 := bnext b8 d9; have X10 := SM2.out w9 A6 A9 q6 q9 (Kd.C_below c8 d9) h6 c9 h9; clear X9 d9 b8 c8 c9) | (go_at_call 8; (with_reducible refine X10.mono ?_); rintro e w10 ⟨rfl, d10⟩; have b10 := bnext b9 d10; clear X10 d10 b9))
  go_ret
  exact ⟨rfl, b10⟩
set_option maxRecDepth 100000 in
set_option maxHeartbeats 8000000 in
theorem lk_33 (A0 : Option Addr) (c0 : Nat) (l : List (List ByteArray)) (s : ByteArray) (w : World) (hT : spTab w) (hC0 : Kd.C kdL w A0 l.length l) (hc0 : l.length ≤ c0) (hs : s.size ≤ 6000) (K : Nat) (hg : postilionlaw18_great.f K l = some false) (hls : Pure.Small l) (hlc : Pure.cost l ≤ 9000)
    (hP : Pure.prS l = ⟨#[]⟩) (hQ : Pure.prE l = 2) (hO : Pure.allOk l = false)
    (hE : splE s = 0) (M : List (List ByteArray)) (hM : splL s = M) (hMs : Pure.Small M) (hMc : Pure.cost M ≤ 9000) (hMo : Pure.allOk M = true) (hP2 : Pure.prS M = ⟨#[]⟩) (hQ2 : Pure.prE M = 3) (hlong : 4096 ≤ s.size) :
    Calls Tryd.prog 5 #[.slice A0 l.length c0, .string s] w fun e w' => e = .returned (.bool true) ∧ Below w.heap.size w w' := by
  have AW := postilionlaw18_awake.calls w hT
  have p2 : decide ((6000 : Int) < (s.size : Int)) = false := decide_eq_false (by omega)
  have GR := Aside0.mk (fun (W : World) (hB : Below w.heap.size w W) => lk_great l false K hg W A0 c0 (Kd.C_below hC0 hB) hc0)
  have PR := Aside0.mk (fun (W : World) (hB : Below w.heap.size w W) => lk_print l hls hlc ⟨#[]⟩ 2 hP hQ W A0 c0 (Kd.C_below hC0 hB) hc0)
  have MY := Aside0.mk (fun (W : World) (hB : Below w.heap.size w W) => lk_may l hls false hO W A0 c0 (Kd.C_below hC0 hB) hc0)
  have S2 := Aside0.mk (fun (W : World) (hB : Below w.heap.size w W) => lk_split s W (by omega) (spTab_below hT hB) 0 M hE hM)
  have M2 := Aside0.mk (fun (W : World) (A : Option Addr) (q : Nat) (hC : Kd.C kdL W A M.length M) (hq : M.length ≤ q) => lk_may M hMs true hMo W A q hC hq)
  have P2 := Aside0.mk (fun (W : World) (A : Option Addr) (q : Nat) (hC : Kd.C kdL W A M.length M) (hq : M.length ≤ q) => lk_print M hMs hMc ⟨#[]⟩ 3 hP2 hQ2 W A q hC hq)
  have t2 : decide ((s.size : Int) < 4096) = false := decide_eq_false (by omega)
  clear hT hC0
  clear hP hQ hO hE hM hMs hMc hMo hP2 hQ2 hg hls hlc
  go_enter Tryd.func5, Tryd.ntmps5
  go_wp2_with (first | (go_at_call 9; (with_reducible refine AW.mono ?_); rintro e w1 ⟨rfl, b1⟩; have X2 := GR.out w1 b1; clear AW) | (go_at_call 10; (with_reducible refine X2.mono ?_); rintro e w2 ⟨rfl, d2⟩; have b2 := bnext b1 d2; have X3 := PR.out w2 b2; clear X2 d2 b1) | (go_at_call 11; (with_reducible refine X3.mono ?_); rintro e w3 ⟨rfl, d3⟩; have b3 := bnext b2 d3; have X4 := MY.out w3 b3; clear X3 d3 b2) | (go_at_call 12; (with_reducible refine X4.mono ?_); rintro e w4 ⟨rfl, d4⟩; have b5 := bnext b3 d4; have X6 := S2.out w4 b5; clear X4 d4 b3) | (go_at_call 6; (with_reducible refine X6.mono ?_); rintro e w6 ⟨A6, q6, rfl, h6, c6, d6⟩; have b6 := bnext b5 d6; have X7 := P2.out w6 A6 q6 c6 h6; clear X6 d6 b5) | (go_at_call 11; (with_reducible refine X7.mono ?_); rintro e w7 ⟨rfl, d7⟩; have b7 := bnext b6 d7; have c7 := Kd.C_below c6 d7; have X8 := M2.out w7 A6 q6 c7 h6; clear X7 d7 b6 c6) | (go_at_call 12; (with_reducible refine X8.mono ?_); rintro e w8 ⟨rfl, d8⟩; have b8 := bnext b7 d8; have c8 := Kd.C_below c7 d8; clear X8 d8 b7 c7))
  go_ret
  exact ⟨rfl, b8⟩
theorem lk_ways (s : ByteArray) (hs : s.size ≤ 6000) : (splE s ≠ 0 ∧ splL s = []) ∨ (splE s = 0 ∧ Pure.Small (splL s) ∧ Pure.cost (splL s) ≤ 9000 ∧ Pure.allOk (splL s) = true ∧ (linesText (splL s)).length ≤ s.size + 1) := by
  by_cases h : splE s = 0
  · obtain ⟨h1, h2, h3, h4⟩ := Pure.split_ways s h
    exact .inr ⟨h, splL_small2 s hs, h4, h2, h3⟩
  · exact .inl ⟨h, splL_bad' h⟩
set_option maxRecDepth 100000 in
set_option maxHeartbeats 8000000 in
theorem postilionlaw18_LinesBack.calls (A0 : Option Addr) (c0 : Nat) (l : List (List ByteArray)) (s : ByteArray) (r : Bool) (w : World) (hC0 : Kd.C (Kd.slice 9 Kd.string) w A0 l.length l) (hc0 : l.length ≤ c0) (h : postilionlaw18_LinesBack.f l s = some r) (hT : Aside0 (r = true)) (ht : spTab w) :
    Calls Tryd.prog 5 #[.slice A0 l.length c0, .string s] w fun e w' => e = .returned (.bool r) ∧ Below w.heap.size w w' := by
  obtain rfl := hT.out
  have hr : ∀ x ∈ l, x.length ≤ 9223372036854775807 := by
    unfold postilionlaw18_LinesBack.f at h
    split at h
    · rename_i hg
      exact fun x hx => of_decide_eq_true (List.all_eq_true.1 hg x hx)
    · cases h
  clear h hT
  obtain ⟨b, ⟨K, hK⟩, hb⟩ := Pure.great_ev l hr
  have hg := hK K (Nat.le_refl _)
  have AW := postilionlaw18_awake.calls w ht
  have GR := Aside0.mk (fun (W : World) (hB : Below w.heap.size w W) => lk_great l b K hg W A0 c0 (Kd.C_below hC0 hB) hc0)
  cases b with
  | true =>
    clear hC0 hr hb hK hg
    go_enter Tryd.func5, Tryd.ntmps5
    go_wp2_with (first | (go_at_call 9; (with_reducible refine AW.mono ?_); rintro e w1 ⟨rfl, b1⟩; have X2 := GR.out w1 b1; clear AW) | (go_at_call 10; (with_reducible refine X2.mono ?_); rintro e w2 ⟨rfl, d2⟩; have b2 := bnext b1 d2; clear X2 d2 b1))
    go_ret
    exact ⟨rfl, b2⟩
  | false =>
    by_cases hs : s.size ≤ 6000
    case neg =>
      have p2 : decide ((6000 : Int) < (s.size : Int)) = true := decide_eq_true (by omega)
      clear hC0 hr hb hK hg
      go_enter Tryd.func5, Tryd.ntmps5
      go_wp2_with (first | (go_at_call 9; (with_reducible refine AW.mono ?_); rintro e w1 ⟨rfl, b1⟩; have X2 := GR.out w1 b1; clear AW) | (go_at_call 10; (with_reducible refine X2.mono ?_); rintro e w2 ⟨rfl, d2⟩; have b2 := bnext b1 d2; clear X2 d2 b1))
      go_ret
      exact ⟨rfl, b2⟩
    clear AW GR
    obtain ⟨hl2, hlc⟩ := hb rfl
    have hls := Pure.small_of hl2 hlc
    have hg' : postilionlaw18_great.f K l = some false := hg
    rcases Pure.pr_ways l with ⟨e1, e2, e3, e4, _, _⟩ | ⟨e1, e2, _, _⟩ | ⟨e1, e2, e3⟩
    · rcases lk_ways s hs with ⟨f1, f2⟩ | ⟨f1, f2, f3, f4, f5⟩
      · exact lk_11 A0 c0 l s w ht hC0 hc0 hs K hg' hls hlc _ rfl e1 e2 e3 e4 _ rfl f1 f2
      · rcases Pure.pr_ways (splL s) with ⟨g1, g2, g3, g4, g5, _⟩ | ⟨g1, g2, g3, _⟩ | ⟨_, _, g3⟩
        · exact lk_12 A0 c0 l s w ht hC0 hc0 hs K hg' hls hlc _ rfl e1 e2 e3 e4 f1 _ rfl f2 f3 f4 _ rfl g1 g2 g3 g4 (by omega)
        · exact lk_13 A0 c0 l s w ht hC0 hc0 hs K hg' hls hlc _ rfl e1 e2 e3 e4 f1 _ rfl f2 f3 f4 g2 g1 (by omega)
        · rw [f4] at g3; cases g3
    · rcases lk_ways s hs with ⟨f1, f2⟩ | ⟨f1, f2, f3, f4, f5⟩
      · exact lk_21 A0 c0 l s w ht hC0 hc0 hs K hg' hls hlc e2 e1 _ rfl f1 f2
      · rcases Pure.pr_ways (splL s) with ⟨g1, g2, g3, g4, g5, _⟩ | ⟨g1, g2, g3, _⟩ | ⟨_, _, g3⟩
        · exact lk_22 A0 c0 l s w ht hC0 hc0 hs K hg' hls hlc e2 e1 f1 _ rfl f2 f3 f4 _ rfl g1 g2 g3 g4 (by omega)
        · exact lk_23 A0 c0 l s w ht hC0 hc0 hs K hg' hls hlc e2 e1 f1 _ rfl f2 f3 f4 g2 g1 (by omega)
        · rw [f4] at g3; cases g3
    · rcases lk_ways s hs with ⟨f1, f2⟩ | ⟨f1, f2, f3, f4, f5⟩
      · exact lk_31 A0 c0 l s w ht hC0 hc0 hs K hg' hls hlc e2 e1 e3 _ rfl f1 f2
      · rcases Pure.pr_ways (splL s) with ⟨g1, g2, g3, g4, g5, _⟩ | ⟨g1, g2, g3, _⟩ | ⟨_, _, g3⟩
        · exact lk_32 A0 c0 l s w ht hC0 hc0 hs K hg' hls hlc e2 e1 e3 f1 _ rfl f2 f3 f4 _ rfl g1 g2 g3 g4 (by omega)
        · exact lk_33 A0 c0 l s w ht hC0 hc0 hs K hg' hls hlc e2 e1 e3 f1 _ rfl f2 f3 f4 g2 g1 (by omega)
        · rw [f4] at g3; cases g3

/-- THE ONE PURE STATEMENT of postilionlaw18_LinesBack: yours. -/
def postilionlaw18_LinesBack.Pure : Prop := ∀ (l0 : List (List ByteArray)) (a1 : ByteArray), l0.length ≤ maxLen → (∀ y_ ∈ l0, (y_.length ≤ maxLen) ∧ (∀ z_ ∈ y_, (z_.size ≤ 9223372036854775807))) → a1.size ≤ 140737488351232 → postilionlaw18_LinesBack.f l0 a1 = some true

end Go.Proofs.YtpllckhmnjgohaaDoor.P
