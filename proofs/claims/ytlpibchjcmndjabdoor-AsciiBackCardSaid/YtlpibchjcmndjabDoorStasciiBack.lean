-- Laid by sp.py, a program of this session's, out of the translation and the session's own stand-ins.
import Derived.Test.YtlpibchjcmndjabDoorPx0
import Derived.Test.YtlpibchjcmndjabDoorStasciiParse
import Derived.Test.YtlpibchjcmndjabDoorStasciiAwake
import Derived.Test.YtlpibchjcmndjabDoorShelf
import Derived.Lib.AppendIntMem
namespace Go.Proofs.YtlpibchjcmndjabDoor.P
open Go.RowKit Go.Proofs.YtlpibchjcmndjabDoorW.PrintWords Go.Proofs.YtlpibchjcmndjabDoorW.PrintLast Go.Proofs.YtlpibchjcmndjabDoorW.PrintMore
attribute [local go_sem] max2_int min2_int max_two min_two max_three min_three max_four min_four   -- for this text's walks alone
set_option linter.unusedVariables false
set_option linter.unusedSimpArgs false
set_option linter.unnecessarySimpa false

/-! ### AsciiBack: a law by hand: strconv.Itoa by the shelf -/
def numS (n : Int) : ByteArray := if n < 0 then ⟨#[]⟩ else ⟨(Lib.itoa n).toArray⟩
def numE (n : Int) : Int := if n < 0 then 2 else 0
/-- The variable that Itoa reads holds its table. -/
def itoaTab (W : World) : Prop := Lib.TabIs Tryd.prog W "internal/strconv.uint64pow10" .u64 Lib.pow10Tab
theorem an_Number (n : Int) (h0 : -9223372036854775808 ≤ n) (h1 : n ≤ 9223372036854775807) (W : World) (ht : itoaTab W) :
    Calls Tryd.prog 5 #[.int .i64 n] W fun e W' => e = .returned (.tuple #[.string (numS n), .int .i64 (numE n)]) ∧ Below W.heap.size W W' := by
  have hI := Tryd.strconv_Itoa n h0 h1 W ht
  unfold numS numE
  by_cases c : n < 0
  · have q : decide (n < 0) = true := decide_eq_true c
    rw [if_pos c, if_pos c]
    go_enter Tryd.func5, Tryd.ntmps5
    go_wp2_with fail
    go_ret2
    exact ⟨rfl, Below.refl _ _⟩
  · have q : decide (n < 0) = false := decide_eq_false c
    rw [if_neg c, if_neg c]
    go_enter Tryd.func5, Tryd.ntmps5
    go_wp2_with (go_at_call 12; refine hI.mono ?_; rintro e w1 ⟨rfl, k, os, rfl⟩)
    go_ret2
    exact ⟨rfl, Lib.below_grow _ _ (Nat.le_refl _) _ _⟩
theorem itoaTab.below {W W' : World} (h : itoaTab W) (hb : Below W.heap.size W W') : itoaTab W' := by
  unfold itoaTab Lib.TabIs World.var? at h ⊢
  rw [show Tryd.prog.globalNamed "internal/strconv.uint64pow10" = some 1 by kernel_rfl] at h ⊢
  simp only [Option.bind_some] at h ⊢
  have hlt : 1 < W.heap.size := by
    rcases Nat.lt_or_ge 1 W.heap.size with h' | h'
    · exact h'
    · simp [Array.getElem?_eq_none h'] at h
  rw [hb.block 1 hlt]
  exact h
theorem nlb_below {w a b : World} (h : Below w.heap.size w a) (hb : Below a.heap.size a b) : Below w.heap.size w b :=
  h.trans ⟨hb.os, hb.tape, hb.output, hb.size, fun j hj => hb.block j (Nat.lt_of_lt_of_le hj h.size)⟩
/-- What is to be shown of a number, bounds, a text. -/
structure BackOk (n l g : Int) (s : ByteArray) : Prop where
  num : 0 ≤ n → 0 ≤ l → l ≤ g → ascii_Parse.f (numS n) l g = some (if l ≤ n ∧ n ≤ g then (n, 0) else (0, 6))
  text : ∃ m f, ascii_Parse.f s l g = some (m, f) ∧ ((f ≠ 0 ∧ m = 0) ∨ (f = 0 ∧ 0 ≤ m ∧ l ≤ m ∧ m ≤ g ∧ (numS m).toList = s.toList))
set_option maxHeartbeats 8000000 in
theorem postilionlaw02_AsciiBack.calls (n l g : Int) (s : ByteArray) (w : World) (hm : hasMax w) (ht : itoaTab w) (hn0 : -9223372036854775808 ≤ n) (hn1 : n ≤ 9223372036854775807) (hg1 : g ≤ 9223372036854775807) (hP : s.size ≤ 100 → BackOk n l g s) :
    Calls Tryd.prog 3 #[.int .i64 n, .int .i64 l, .int .i64 g, .string s] w fun e w' => e = .returned (.bool true) ∧ Below w.heap.size w w' := by
  have hAw := postilionlaw02_awake.calls true w rfl hm
  by_cases hs : 100 < s.size
  · have q : decide (100 < (s.size : Int)) = true := decide_eq_true (by omega)
    go_enter Tryd.func3, Tryd.ntmps3
    go_wp2_with (go_at_call 4; refine hAw.mono ?_; rintro e w1 ⟨rfl, hb1⟩)
    go_ret
    exact ⟨rfl, hb1⟩
  · have q : decide (100 < (s.size : Int)) = false := decide_eq_false (by omega)
    obtain ⟨hnum, m, f, hpm, hmf⟩ := hP (by omega)
    have HS := Aside0.mk (fun W => ascii_Parse.calls s l g m f W hpm)
    have HN := Aside0.mk (fun W (h : itoaTab W) => an_Number n hn0 hn1 W h)
    clear hpm hs hP
    have HN2 : Aside0 (0 ≤ m → m ≤ g → ∀ W, itoaTab W → Calls Tryd.prog 5 #[.int .i64 m] W fun e W' => e = .returned (.tuple #[.string (numS m), .int .i64 (numE m)]) ∧ Below W.heap.size W W') := Aside0.mk (fun h1 h2 W h => an_Number m (by omega) (by omega) W h)
    generalize numS n = T at HN hnum
    generalize numS m = U at HN2 hmf
    by_cases c : n < 0
    · have q1 : decide (0 ≤ n) = false := decide_eq_false (by omega)
      have q2 : numE n = 2 := by unfold numE; rw [if_pos c]
      rw [q2] at HN
      clear hnum q2
      rcases hmf with ⟨hf, rfl⟩ | ⟨rfl, hm0, hlm, hmg, heq⟩
      · have k1 : (f == 0) = false := by simpa using hf
        go_enter Tryd.func3, Tryd.ntmps3
        go_wp2_with (first | (go_at_call 4; refine hAw.mono ?_; rintro e w1 ⟨rfl, hb1⟩; have ht1 := ht.below hb1) | (go_at_call 5; refine (HN.out _ ht1).mono ?_; rintro e w2 ⟨rfl, hb2⟩; have ht2 := ht1.below hb2) | (go_at_call 6; (with_reducible refine (HS.out _).mono ?_); rintro e p2 ⟨rfl, ⟨d2, rfl⟩⟩))
        go_ret
        exact ⟨rfl, pw_below_drewN (nlb_below hb1 hb2) _⟩
      · have k1 : (U.toList == s.toList) = true := beq_iff_eq.mpr heq
        have k2 : numE m = 0 := by unfold numE; rw [if_neg (by omega)]
        have k3 : decide (l ≤ m) = true := decide_eq_true hlm
        have k4 : decide (m ≤ g) = true := decide_eq_true hmg
        rw [k2] at HN2
        go_enter Tryd.func3, Tryd.ntmps3
        go_wp2_with (first | (go_at_call 4; refine hAw.mono ?_; rintro e w1 ⟨rfl, hb1⟩; have ht1 := ht.below hb1) | (go_at_call 5; refine (HN.out _ ht1).mono ?_; rintro e w2 ⟨rfl, hb2⟩; have ht2 := ht1.below hb2) | (go_at_call 6; (with_reducible refine (HS.out _).mono ?_); rintro e p2 ⟨rfl, ⟨d2, rfl⟩⟩) | (go_at_call 5; refine (HN2.out hm0 hmg _ (ht2.below (pw_below_drewN (Below.refl _ _) _))).mono ?_; rintro e w3 ⟨rfl, hb3⟩))
        go_ret
        exact ⟨rfl, nlb_below (pw_below_drewN (nlb_below hb1 hb2) _) hb3⟩
    · have q1 : decide (0 ≤ n) = true := decide_eq_true (by omega)
      have q2 : numE n = 0 := by unfold numE; rw [if_neg c]
      rw [q2] at HN
      clear q2
      by_cases c2 : l < 0
      · have q3 : decide (0 ≤ l) = false := decide_eq_false (by omega)
        clear hnum
        rcases hmf with ⟨hf, rfl⟩ | ⟨rfl, hm0, hlm, hmg, heq⟩
        · have k1 : (f == 0) = false := by simpa using hf
          go_enter Tryd.func3, Tryd.ntmps3
          go_wp2_with (first | (go_at_call 4; refine hAw.mono ?_; rintro e w1 ⟨rfl, hb1⟩; have ht1 := ht.below hb1) | (go_at_call 5; refine (HN.out _ ht1).mono ?_; rintro e w2 ⟨rfl, hb2⟩; have ht2 := ht1.below hb2) | (go_at_call 6; (with_reducible refine (HS.out _).mono ?_); rintro e p2 ⟨rfl, ⟨d2, rfl⟩⟩))
          go_ret
          exact ⟨rfl, pw_below_drewN (nlb_below hb1 hb2) _⟩
        · have k1 : (U.toList == s.toList) = true := beq_iff_eq.mpr heq
          have k2 : numE m = 0 := by unfold numE; rw [if_neg (by omega)]
          have k3 : decide (l ≤ m) = true := decide_eq_true hlm
          have k4 : decide (m ≤ g) = true := decide_eq_true hmg
          rw [k2] at HN2
          go_enter Tryd.func3, Tryd.ntmps3
          go_wp2_with (first | (go_at_call 4; refine hAw.mono ?_; rintro e w1 ⟨rfl, hb1⟩; have ht1 := ht.below hb1) | (go_at_call 5; refine (HN.out _ ht1).mono ?_; rintro e w2 ⟨rfl, hb2⟩; have ht2 := ht1.below hb2) | (go_at_call 6; (with_reducible refine (HS.out _).mono ?_); rintro e p2 ⟨rfl, ⟨d2, rfl⟩⟩) | (go_at_call 5; refine (HN2.out hm0 hmg _ (ht2.below (pw_below_drewN (Below.refl _ _) _))).mono ?_; rintro e w3 ⟨rfl, hb3⟩))
          go_ret
          exact ⟨rfl, nlb_below (pw_below_drewN (nlb_below hb1 hb2) _) hb3⟩
      have q3 : decide (0 ≤ l) = true := decide_eq_true (by omega)
      by_cases c3 : g < l
      · have q4 : decide (l ≤ g) = false := decide_eq_false (by omega)
        clear hnum
        rcases hmf with ⟨hf, rfl⟩ | ⟨rfl, hm0, hlm, hmg, heq⟩
        · have k1 : (f == 0) = false := by simpa using hf
          go_enter Tryd.func3, Tryd.ntmps3
          go_wp2_with (first | (go_at_call 4; refine hAw.mono ?_; rintro e w1 ⟨rfl, hb1⟩; have ht1 := ht.below hb1) | (go_at_call 5; refine (HN.out _ ht1).mono ?_; rintro e w2 ⟨rfl, hb2⟩; have ht2 := ht1.below hb2) | (go_at_call 6; (with_reducible refine (HS.out _).mono ?_); rintro e p2 ⟨rfl, ⟨d2, rfl⟩⟩))
          go_ret
          exact ⟨rfl, pw_below_drewN (nlb_below hb1 hb2) _⟩
        · have k1 : (U.toList == s.toList) = true := beq_iff_eq.mpr heq
          have k2 : numE m = 0 := by unfold numE; rw [if_neg (by omega)]
          have k3 : decide (l ≤ m) = true := decide_eq_true hlm
          have k4 : decide (m ≤ g) = true := decide_eq_true hmg
          rw [k2] at HN2
          go_enter Tryd.func3, Tryd.ntmps3
          go_wp2_with (first | (go_at_call 4; refine hAw.mono ?_; rintro e w1 ⟨rfl, hb1⟩; have ht1 := ht.below hb1) | (go_at_call 5; refine (HN.out _ ht1).mono ?_; rintro e w2 ⟨rfl, hb2⟩; have ht2 := ht1.below hb2) | (go_at_call 6; (with_reducible refine (HS.out _).mono ?_); rintro e p2 ⟨rfl, ⟨d2, rfl⟩⟩) | (go_at_call 5; refine (HN2.out hm0 hmg _ (ht2.below (pw_below_drewN (Below.refl _ _) _))).mono ?_; rintro e w3 ⟨rfl, hb3⟩))
          go_ret
          exact ⟨rfl, nlb_below (pw_below_drewN (nlb_below hb1 hb2) _) hb3⟩
      have q4 : decide (l ≤ g) = true := decide_eq_true (by omega)
      have hpn := hnum (by omega) (by omega) (by omega)
      clear hnum
      by_cases c4 : n < l
      · have q5 : decide (l ≤ n) = false := decide_eq_false (by omega)
        rw [if_neg (by omega)] at hpn
        have HP := Aside0.mk (fun W => ascii_Parse.calls T l g 0 6 W hpn)
        clear hpn
        rcases hmf with ⟨hf, rfl⟩ | ⟨rfl, hm0, hlm, hmg, heq⟩
        · have k1 : (f == 0) = false := by simpa using hf
          go_enter Tryd.func3, Tryd.ntmps3
          go_wp2_with (first | (go_at_call 4; refine hAw.mono ?_; rintro e w1 ⟨rfl, hb1⟩; have ht1 := ht.below hb1) | (go_at_call 5; refine (HN.out _ ht1).mono ?_; rintro e w2 ⟨rfl, hb2⟩; have ht2 := ht1.below hb2) | (go_at_call 6; (with_reducible refine (HP.out _).mono ?_); rintro e p1 ⟨rfl, ⟨d1, rfl⟩⟩) | (go_at_call 6; (with_reducible refine (HS.out _).mono ?_); rintro e p2 ⟨rfl, ⟨d2, rfl⟩⟩))
          go_ret
          exact ⟨rfl, pw_below_drewN (nlb_below hb1 hb2) _⟩
        · have k1 : (U.toList == s.toList) = true := beq_iff_eq.mpr heq
          have k2 : numE m = 0 := by unfold numE; rw [if_neg (by omega)]
          have k3 : decide (l ≤ m) = true := decide_eq_true hlm
          have k4 : decide (m ≤ g) = true := decide_eq_true hmg
          rw [k2] at HN2
          go_enter Tryd.func3, Tryd.ntmps3
          go_wp2_with (first | (go_at_call 4; refine hAw.mono ?_; rintro e w1 ⟨rfl, hb1⟩; have ht1 := ht.below hb1) | (go_at_call 5; refine (HN.out _ ht1).mono ?_; rintro e w2 ⟨rfl, hb2⟩; have ht2 := ht1.below hb2) | (go_at_call 6; (with_reducible refine (HP.out _).mono ?_); rintro e p1 ⟨rfl, ⟨d1, rfl⟩⟩) | (go_at_call 6; (with_reducible refine (HS.out _).mono ?_); rintro e p2 ⟨rfl, ⟨d2, rfl⟩⟩) | (go_at_call 5; refine (HN2.out hm0 hmg _ (ht2.below (pw_below_drewN (Below.refl _ _) _))).mono ?_; rintro e w3 ⟨rfl, hb3⟩))
          go_ret
          exact ⟨rfl, nlb_below (pw_below_drewN (nlb_below hb1 hb2) _) hb3⟩
      have q5 : decide (l ≤ n) = true := decide_eq_true (by omega)
      by_cases c5 : g < n
      · have q6 : decide (n ≤ g) = false := decide_eq_false (by omega)
        rw [if_neg (by omega)] at hpn
        have HP := Aside0.mk (fun W => ascii_Parse.calls T l g 0 6 W hpn)
        clear hpn
        rcases hmf with ⟨hf, rfl⟩ | ⟨rfl, hm0, hlm, hmg, heq⟩
        · have k1 : (f == 0) = false := by simpa using hf
          go_enter Tryd.func3, Tryd.ntmps3
          go_wp2_with (first | (go_at_call 4; refine hAw.mono ?_; rintro e w1 ⟨rfl, hb1⟩; have ht1 := ht.below hb1) | (go_at_call 5; refine (HN.out _ ht1).mono ?_; rintro e w2 ⟨rfl, hb2⟩; have ht2 := ht1.below hb2) | (go_at_call 6; (with_reducible refine (HP.out _).mono ?_); rintro e p1 ⟨rfl, ⟨d1, rfl⟩⟩) | (go_at_call 6; (with_reducible refine (HS.out _).mono ?_); rintro e p2 ⟨rfl, ⟨d2, rfl⟩⟩))
          go_ret
          exact ⟨rfl, pw_below_drewN (nlb_below hb1 hb2) _⟩
        · have k1 : (U.toList == s.toList) = true := beq_iff_eq.mpr heq
          have k2 : numE m = 0 := by unfold numE; rw [if_neg (by omega)]
          have k3 : decide (l ≤ m) = true := decide_eq_true hlm
          have k4 : decide (m ≤ g) = true := decide_eq_true hmg
          rw [k2] at HN2
          go_enter Tryd.func3, Tryd.ntmps3
          go_wp2_with (first | (go_at_call 4; refine hAw.mono ?_; rintro e w1 ⟨rfl, hb1⟩; have ht1 := ht.below hb1) | (go_at_call 5; refine (HN.out _ ht1).mono ?_; rintro e w2 ⟨rfl, hb2⟩; have ht2 := ht1.below hb2) | (go_at_call 6; (with_reducible refine (HP.out _).mono ?_); rintro e p1 ⟨rfl, ⟨d1, rfl⟩⟩) | (go_at_call 6; (with_reducible refine (HS.out _).mono ?_); rintro e p2 ⟨rfl, ⟨d2, rfl⟩⟩) | (go_at_call 5; refine (HN2.out hm0 hmg _ (ht2.below (pw_below_drewN (Below.refl _ _) _))).mono ?_; rintro e w3 ⟨rfl, hb3⟩))
          go_ret
          exact ⟨rfl, nlb_below (pw_below_drewN (nlb_below hb1 hb2) _) hb3⟩
      · have q6 : decide (n ≤ g) = true := decide_eq_true (by omega)
        rw [if_pos (by omega)] at hpn
        have HP := Aside0.mk (fun W => ascii_Parse.calls T l g n 0 W hpn)
        clear hpn
        rcases hmf with ⟨hf, rfl⟩ | ⟨rfl, hm0, hlm, hmg, heq⟩
        · have k1 : (f == 0) = false := by simpa using hf
          go_enter Tryd.func3, Tryd.ntmps3
          go_wp2_with (first | (go_at_call 4; refine hAw.mono ?_; rintro e w1 ⟨rfl, hb1⟩; have ht1 := ht.below hb1) | (go_at_call 5; refine (HN.out _ ht1).mono ?_; rintro e w2 ⟨rfl, hb2⟩; have ht2 := ht1.below hb2) | (go_at_call 6; (with_reducible refine (HP.out _).mono ?_); rintro e p1 ⟨rfl, ⟨d1, rfl⟩⟩) | (go_at_call 6; (with_reducible refine (HS.out _).mono ?_); rintro e p2 ⟨rfl, ⟨d2, rfl⟩⟩))
          go_ret
          exact ⟨rfl, pw_below_drewN (nlb_below hb1 hb2) _⟩
        · have k1 : (U.toList == s.toList) = true := beq_iff_eq.mpr heq
          have k2 : numE m = 0 := by unfold numE; rw [if_neg (by omega)]
          have k3 : decide (l ≤ m) = true := decide_eq_true hlm
          have k4 : decide (m ≤ g) = true := decide_eq_true hmg
          rw [k2] at HN2
          go_enter Tryd.func3, Tryd.ntmps3
          go_wp2_with (first | (go_at_call 4; refine hAw.mono ?_; rintro e w1 ⟨rfl, hb1⟩; have ht1 := ht.below hb1) | (go_at_call 5; refine (HN.out _ ht1).mono ?_; rintro e w2 ⟨rfl, hb2⟩; have ht2 := ht1.below hb2) | (go_at_call 6; (with_reducible refine (HP.out _).mono ?_); rintro e p1 ⟨rfl, ⟨d1, rfl⟩⟩) | (go_at_call 6; (with_reducible refine (HS.out _).mono ?_); rintro e p2 ⟨rfl, ⟨d2, rfl⟩⟩) | (go_at_call 5; refine (HN2.out hm0 hmg _ (ht2.below (pw_below_drewN (Below.refl _ _) _))).mono ?_; rintro e w3 ⟨rfl, hb3⟩))
          go_ret
          exact ⟨rfl, nlb_below (pw_below_drewN (nlb_below hb1 hb2) _) hb3⟩
def postilionlaw02_AsciiBack.Pure : Prop := ∀ (a0 a1 a2 : Int) (a3 : ByteArray), (Lit.int .i64 a0).wf = true → (Lit.int .i64 a1).wf = true → (Lit.int .i64 a2).wf = true → a3.size ≤ 140737488351232 → a3.size ≤ 100 → BackOk a0 a1 a2 a3
theorem postilionlaw02_AsciiBack.walk (P : postilionlaw02_AsciiBack.Pure) (a0 a1 a2 : Int) (a3 : ByteArray) (w : World) (w0 : (Lit.int .i64 a0).wf = true) (w1 : (Lit.int .i64 a1).wf = true) (w2 : (Lit.int .i64 a2).wf = true) (w3 : a3.size ≤ 140737488351232) (ht : itoaTab w) (hm : hasMax w) :
    Calls Tryd.prog 3 #[.int .i64 a0, .int .i64 a1, .int .i64 a2, .string a3] w fun e w' => e = .returned (.bool true) ∧ Below w.heap.size w w' := by
  have h := P a0 a1 a2 a3 w0 w1 w2 w3
  simp only [Lit.wf, Bool.and_eq_true, decide_eq_true_eq] at w0 w2
  exact postilionlaw02_AsciiBack.calls a0 a1 a2 a3 w hm ht w0.1 w0.2 w2.2 h

end Go.Proofs.YtlpibchjcmndjabDoor.P
