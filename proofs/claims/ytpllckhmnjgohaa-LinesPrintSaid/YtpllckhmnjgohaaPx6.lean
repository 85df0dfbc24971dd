-- Laid by sp.py, a program of this session's, out of the translation and the session's own stand-ins.
import Derived.Test.YtpllckhmnjgohaaPx0
namespace Go.Proofs.Ytpllckhmnjgohaa.P
open Go.RowKit Go.Proofs.YtpllckhmnjgohaaW.PrintWords Go.Proofs.YtpllckhmnjgohaaW.PrintLast Go.Proofs.YtpllckhmnjgohaaW.PrintMore
attribute [local go_sem] max2_int min2_int max_two min_two max_three min_three max_four min_four   -- for this text's walks alone
set_option linter.unusedVariables false
set_option linter.unusedSimpArgs false
set_option linter.unnecessarySimpa false

/-! ### postilionref18_May: function 9 -/
mutual
def postilionref18_May.l0 : Nat → List (List ByteArray) → Int → Option (Bool)
  | 0, _, _ => none
  | k + 1, x0, x3 => if x3 < (x0.length : Int) then (if 0 ≤ x3 then (if ((rd_L1 x0 x3).length : Int) = 0 then (some false) else (postilionref18_May.l1 k x0 x3 0)) else (none)) else (some true)
def postilionref18_May.l1 : Nat → List (List ByteArray) → Int → Int → Option (Bool)
  | 0, _, _, _ => none
  | k + 1, x0, x3, x4 => if 0 ≤ x3 then (if x3 < (x0.length : Int) then (if x4 < ((rd_L1 x0 x3).length : Int) then (if 0 ≤ x4 then (if (rdOf ByteArray.empty (rd_L1 x0 x3) x4).toList = ([] : List UInt8) then (postilionref18_May.j2 k x0 x3 x4 (rdOf ByteArray.empty (rd_L1 x0 x3) x4) true) else (if 0 < ((rdOf ByteArray.empty (rd_L1 x0 x3) x4).size : Int) then (postilionref18_May.j2 k x0 x3 x4 (rdOf ByteArray.empty (rd_L1 x0 x3) x4) ((bt (rdOf ByteArray.empty (rd_L1 x0 x3) x4) 0) == 35)) else (none))) else (none)) else (postilionref18_May.l0 k x0 (wrap64 (x3 + 1)))) else (none)) else (none)
def postilionref18_May.j2 : Nat → List (List ByteArray) → Int → Int → ByteArray → Bool → Option (Bool)
  | 0, _, _, _, _, _ => none
  | k + 1, x0, x3, x4, x5, x41 => if x41 = true then (some false) else (postilionref18_May.l2 k x0 x3 x4 x5 0)
def postilionref18_May.l2 : Nat → List (List ByteArray) → Int → Int → ByteArray → Int → Option (Bool)
  | 0, _, _, _, _, _ => none
  | k + 1, x0, x3, x4, x5, x6 => if x6 < (x5.size : Int) then (if 0 ≤ x6 then (if (bt x5 x6) < 33 then (some false) else (if (bt x5 x6) > 126 then (some false) else (postilionref18_May.l2 k x0 x3 x4 x5 (wrap64 (x6 + 1))))) else (none)) else (postilionref18_May.l1 k x0 x3 (wrap64 (x4 + 1)))
end
def postilionref18_May.f (k : Nat) (l0 : List (List ByteArray)) : Option (Bool) := postilionref18_May.l0 k l0 0
theorem postilionref18_May.mono_l : ∀ k, (∀ y0 y1, LeO (postilionref18_May.l0 k y0 y1) (postilionref18_May.l0 (k + 1) y0 y1)) ∧ (∀ y0 y1 y2, LeO (postilionref18_May.l1 k y0 y1 y2) (postilionref18_May.l1 (k + 1) y0 y1 y2)) ∧ (∀ y0 y1 y2 y3 y4, LeO (postilionref18_May.j2 k y0 y1 y2 y3 y4) (postilionref18_May.j2 (k + 1) y0 y1 y2 y3 y4)) ∧ (∀ y0 y1 y2 y3 y4, LeO (postilionref18_May.l2 k y0 y1 y2 y3 y4) (postilionref18_May.l2 (k + 1) y0 y1 y2 y3 y4))
  | 0 => ⟨fun _ _ r h => by simp [postilionref18_May.l0] at h, fun _ _ _ r h => by simp [postilionref18_May.l1] at h, fun _ _ _ _ _ r h => by simp [postilionref18_May.j2] at h, fun _ _ _ _ _ r h => by simp [postilionref18_May.l2] at h⟩
  | k + 1 => by
    obtain ⟨ih0, ih1, ih2, ih3⟩ := postilionref18_May.mono_l k
    refine ⟨?_, ?_, ?_, ?_⟩
    · intro y0 y1
      unfold postilionref18_May.l0
      repeat' first
      | (with_reducible exact ih0 _ _)
      | (with_reducible exact ih1 _ _ _)
      | (with_reducible exact ih2 _ _ _ _ _)
      | (with_reducible exact ih3 _ _ _ _ _)
      | (with_reducible exact LeO.refl _)
      | (with_reducible exact LeO.none _)
      | (with_reducible refine LeO.ite ?_ ?_)
      | (with_reducible refine LeO.bind ?_ (fun _ => ?_))
      | exact ih0 _ _
      | exact ih1 _ _ _
      | exact ih2 _ _ _ _ _
      | exact ih3 _ _ _ _ _
      | exact LeO.none _
      | refine LeO.ite ?_ ?_
      | refine LeO.bind ?_ (fun _ => ?_)
    · intro y0 y1 y2
      unfold postilionref18_May.l1
      repeat' first
      | (with_reducible exact ih0 _ _)
      | (with_reducible exact ih1 _ _ _)
      | (with_reducible exact ih2 _ _ _ _ _)
      | (with_reducible exact ih3 _ _ _ _ _)
      | (with_reducible exact LeO.refl _)
      | (with_reducible exact LeO.none _)
      | (with_reducible refine LeO.ite ?_ ?_)
      | (with_reducible refine LeO.bind ?_ (fun _ => ?_))
      | exact ih0 _ _
      | exact ih1 _ _ _
      | exact ih2 _ _ _ _ _
      | exact ih3 _ _ _ _ _
      | exact LeO.none _
      | refine LeO.ite ?_ ?_
      | refine LeO.bind ?_ (fun _ => ?_)
    · intro y0 y1 y2 y3 y4
      unfold postilionref18_May.j2
      repeat' first
      | (with_reducible exact ih0 _ _)
      | (with_reducible exact ih1 _ _ _)
      | (with_reducible exact ih2 _ _ _ _ _)
      | (with_reducible exact ih3 _ _ _ _ _)
      | (with_reducible exact LeO.refl _)
      | (with_reducible exact LeO.none _)
      | (with_reducible refine LeO.ite ?_ ?_)
      | (with_reducible refine LeO.bind ?_ (fun _ => ?_))
      | exact ih0 _ _
      | exact ih1 _ _ _
      | exact ih2 _ _ _ _ _
      | exact ih3 _ _ _ _ _
      | exact LeO.none _
      | refine LeO.ite ?_ ?_
      | refine LeO.bind ?_ (fun _ => ?_)
    · intro y0 y1 y2 y3 y4
      unfold postilionref18_May.l2
      repeat' first
      | (with_reducible exact ih0 _ _)
      | (with_reducible exact ih1 _ _ _)
      | (with_reducible exact ih2 _ _ _ _ _)
      | (with_reducible exact ih3 _ _ _ _ _)
      | (with_reducible exact LeO.refl _)
      | (with_reducible exact LeO.none _)
      | (with_reducible refine LeO.ite ?_ ?_)
      | (with_reducible refine LeO.bind ?_ (fun _ => ?_))
      | exact ih0 _ _
      | exact ih1 _ _ _
      | exact ih2 _ _ _ _ _
      | exact ih3 _ _ _ _ _
      | exact LeO.none _
      | refine LeO.ite ?_ ?_
      | refine LeO.bind ?_ (fun _ => ?_)
theorem postilionref18_May.mono : ∀ a0 k, LeO (postilionref18_May.f k a0) (postilionref18_May.f (k + 1) a0) := by
  intro a0 k
  obtain ⟨ih0, ih1, ih2, ih3⟩ := postilionref18_May.mono_l k
  unfold postilionref18_May.f
  repeat' first
      | (with_reducible exact ih0 _ _)
      | (with_reducible exact ih1 _ _ _)
      | (with_reducible exact ih2 _ _ _ _ _)
      | (with_reducible exact ih3 _ _ _ _ _)
      | (with_reducible exact LeO.refl _)
      | (with_reducible exact LeO.none _)
      | (with_reducible refine LeO.ite ?_ ?_)
      | (with_reducible refine LeO.bind ?_ (fun _ => ?_))
      | exact ih0 _ _
      | exact ih1 _ _ _
      | exact ih2 _ _ _ _ _
      | exact ih3 _ _ _ _ _
      | exact LeO.none _
      | refine LeO.ite ?_ ?_
      | refine LeO.bind ?_ (fun _ => ?_)
set_option maxHeartbeats 8000000 in
set_option maxRecDepth 100000 in
theorem postilionref18_May.calls (k : Nat) (A0 : Option Addr) (c0 : Nat) (l0 : List (List ByteArray)) (r : Bool) (w : World) (hr0 : Kd.C (Kd.slice 9 Kd.string) w A0 l0.length l0) (hc0 : l0.length ≤ c0) (h : postilionref18_May.f k l0 = some r) :
    Calls Try.prog 9 #[.slice A0 l0.length c0] w fun e w' => e = .returned (.bool r) ∧ Drawn0 w w' := by
  have HR0 := Aside0.mk hr0
  have HC0 := Aside0.mk hc0
  clear hr0 hc0
  have H : (postilionref18_May.l0 k l0 0) = some r := h
  clear h
  have H' := Aside0.mk H
  clear H
  go_enter Try.func9, Try.ntmps9
  go_wp2
  go_loopg [3] k (fun kq v3 w' => ∃ (x3_1 : Int), v3 = .int .i64 x3_1 ∧ Aside0 (postilionref18_May.l0 kq l0 x3_1 = some r) ∧ Aside0 (kq ≤ k) ∧ Drawn0 w w')
  case atStart => exact ⟨(0), (by first | rfl | (simp; done) | (simp [*]; done)), H', ⟨Nat.le_refl _⟩, by repeat (first | exact Drawn0.refl _ | apply Drawn0.step)⟩
  case round =>
    clear H'
    obtain ⟨x3_1, rfl, HA, HK1, ⟨m1, rfl⟩⟩ := hrel
    cases gk with
    | zero => exact absurd HA.out (by simp [postilionref18_May.l0])
    | succ k1 =>
      have H := HA.out
      clear HA
      simp only [postilionref18_May.l0] at H
      by_cases c2 : x3_1 < (l0.length : Int)
      · rw [if_pos c2] at H
        have c2b0 : decide (x3_1 < (l0.length : Int)) = true := decide_eq_true c2
        clear c2
        by_cases c3 : 0 ≤ x3_1
        · rw [if_pos c3] at H
          have c3b0 : decide (0 ≤ x3_1) = true := decide_eq_true c3
          clear c3
          by_cases c4 : ((rd_L1 l0 x3_1).length : Int) = 0
          · rw [if_pos c4] at H
            have c4b0 : (((rd_L1 l0 x3_1).length : Int) == 0) = true := beq_iff_eq.mpr c4
            have c4b1 : (((rd_L1 l0 x3_1).length : Int) != 0) = false := bne_eq_false_iff_eq.mpr c4
            clear c4
            obtain rfl := Option.some.inj H
            have p118 : 0 ≤ (x3_1 : Int) := of_decide_eq_true (by first | (with_reducible assumption) | assumption)
            have q118 : x3_1 < (l0.length : Int) := of_decide_eq_true (by first | (with_reducible assumption) | assumption)
            obtain ⟨ad118, A118_0, c118_0, e118, hx118_0, hl118_0, hi118_0⟩ := at_L1 HR0.out x3_1 p118 q118
            cases e118
            have HR118_0 := Aside0.mk hi118_0
            have HC118_0 := Aside0.mk hl118_0
            clear hi118_0 hl118_0
            replace p118 := eq_true p118
            replace q118 := eq_true q118
            go_wp2
            go_ret
            exact ⟨by first | rfl | (simp; done) | (simp [*]; done), by repeat (first | exact Drawn0.refl _ | apply Drawn0.step)⟩
          · rw [if_neg c4] at H
            have c4b0 : (((rd_L1 l0 x3_1).length : Int) == 0) = false := beq_eq_false_iff_ne.mpr c4
            have c4b1 : (((rd_L1 l0 x3_1).length : Int) != 0) = true := bne_iff_ne.mpr c4
            have c4b2 : ¬ ((rd_L1 l0 x3_1) = []) := fun h_ => c4 (by rw [h_]; rfl)
            have H' := Aside0.mk H
            clear H
            have p118 : 0 ≤ (x3_1 : Int) := of_decide_eq_true (by first | (with_reducible assumption) | assumption)
            have q118 : x3_1 < (l0.length : Int) := of_decide_eq_true (by first | (with_reducible assumption) | assumption)
            obtain ⟨ad118, A118_0, c118_0, e118, hx118_0, hl118_0, hi118_0⟩ := at_L1 HR0.out x3_1 p118 q118
            cases e118
            have HR118_0 := Aside0.mk hi118_0
            have HC118_0 := Aside0.mk hl118_0
            clear hi118_0 hl118_0
            replace p118 := eq_true p118
            replace q118 := eq_true q118
            go_wp2
            go_loopg [4] k1 (fun kq v4 w' => ∃ (x4_2 : Int), v4 = .int .i64 x4_2 ∧ Aside0 (postilionref18_May.l1 kq l0 x3_1 x4_2 = some r) ∧ Aside0 (kq ≤ k1) ∧ Drawn0 w w')
            case atStart => exact ⟨(0), (by first | rfl | (simp; done) | (simp [*]; done)), H', ⟨Nat.le_refl _⟩, by repeat (first | exact Drawn0.refl _ | apply Drawn0.step)⟩
            case round =>
              clear H'
              try clear c1
              try clear p1
              try clear q1
              try clear hx1
              try clear c2
              try clear c2b0
              try clear p2
              try clear c3
              try clear c3b0
              try clear c4
              try clear c4b0
              try clear c4b1
              try clear c4b2
              try clear hx118_0
              try clear p118
              try clear q118
              obtain ⟨x4_2, rfl, HA, HK2, ⟨m2, rfl⟩⟩ := hrel
              cases gk with
              | zero => exact absurd HA.out (by simp [postilionref18_May.l1])
              | succ k2 =>
                have H := HA.out
                clear HA
                simp only [postilionref18_May.l1] at H
                by_cases c5 : 0 ≤ x3_1
                · rw [if_pos c5] at H
                  have c5b0 : decide (0 ≤ x3_1) = true := decide_eq_true c5
                  clear c5
                  by_cases c6 : x3_1 < (l0.length : Int)
                  · rw [if_pos c6] at H
                    have c6b0 : decide (x3_1 < (l0.length : Int)) = true := decide_eq_true c6
                    clear c6
                    by_cases c7 : x4_2 < ((rd_L1 l0 x3_1).length : Int)
                    · rw [if_pos c7] at H
                      have c7b0 : decide (x4_2 < ((rd_L1 l0 x3_1).length : Int)) = true := decide_eq_true c7
                      clear c7
                      by_cases c8 : 0 ≤ x4_2
                      · rw [if_pos c8] at H
                        have c8b0 : decide (0 ≤ x4_2) = true := decide_eq_true c8
                        clear c8
                        have HC9 := Aside0.mk H
                        clear H
                        have p119 : 0 ≤ (x3_1 : Int) := of_decide_eq_true (by first | (with_reducible assumption) | assumption)
                        have q119 : x3_1 < (l0.length : Int) := of_decide_eq_true (by first | (with_reducible assumption) | assumption)
                        obtain ⟨ad119, A119_0, c119_0, e119, hx119_0, hl119_0, hi119_0⟩ := at_L1 HR0.out x3_1 p119 q119
                        obtain rfl : ad118 = ad119 := (by injection e119)
                        have HR119_0 := Aside0.mk hi119_0
                        have HC119_0 := Aside0.mk hl119_0
                        clear hi119_0 hl119_0
                        replace p119 := eq_true p119
                        replace q119 := eq_true q119
                        have p120 : 0 ≤ (x3_1 : Int) := of_decide_eq_true (by first | (with_reducible assumption) | assumption)
                        have q120 : x3_1 < (l0.length : Int) := of_decide_eq_true (by first | (with_reducible assumption) | assumption)
                        obtain ⟨ad120, A120_0, c120_0, e120, hx120_0, hl120_0, hi120_0⟩ := at_L1 HR0.out x3_1 p120 q120
                        obtain rfl : ad118 = ad120 := (by injection e120)
                        have HR120_0 := Aside0.mk hi120_0
                        have HC120_0 := Aside0.mk hl120_0
                        clear hi120_0 hl120_0
                        replace p120 := eq_true p120
                        replace q120 := eq_true q120
                        have ea_ := Option.some.inj (hx119_0.symm.trans hx120_0)
                        injection ea_ with ea_ en_ ec_
                        subst ea_
                        subst ec_
                        clear en_
                        have p121 : 0 ≤ (x4_2 : Int) := of_decide_eq_true (by first | (with_reducible assumption) | assumption)
                        have q121 : x4_2 < ((rd_L1 l0 x3_1).length : Int) := of_decide_eq_true (by first | (with_reducible assumption) | assumption)
                        obtain ⟨ad121, e121, hx121_0⟩ := Kd.at_string HR120_0.out x4_2 p121 q121
                        cases e121
                        replace p121 := eq_true p121
                        replace q121 := eq_true q121
                        go_upto_region 10 with (fail)
                        go_cut [41] (fun v41 wc => ∃ (kq : Nat) (x41_8 : Bool), v41 = .bool x41_8 ∧ Aside0 (postilionref18_May.j2 kq l0 x3_1 x4_2 (rdOf ByteArray.empty (rd_L1 l0 x3_1) x4_2) x41_8 = some r) ∧ Aside0 (kq ≤ k2) ∧ Drawn0 w wc)
                        case first =>
                          have H := HC9.out
                          clear HC9
                          by_cases c10 : (rdOf ByteArray.empty (rd_L1 l0 x3_1) x4_2).toList = ([] : List UInt8)
                          · rw [if_pos c10] at H
                            have c10b0 : ((rdOf ByteArray.empty (rd_L1 l0 x3_1) x4_2).toList == ([] : List UInt8)) = true := beq_iff_eq.mpr c10
                            have c10b1 : ((rdOf ByteArray.empty (rd_L1 l0 x3_1) x4_2).toList != ([] : List UInt8)) = false := bne_eq_false_iff_eq.mpr c10
                            clear c10
                            (first | rw [c10b0] | (simp only [i64_w, i32_w]; rw [c10b0]) | skip)
                            have H' := Aside0.mk H
                            clear H
                            go_wp2
                            go_meet
                            case rel => exact ⟨_, (true), (by first | rfl | (simp; done) | (simp [*]; done)), H', ⟨by have := HK1.out; have := HK2.out; first | omega | exact Nat.le_refl _⟩, by repeat (first | exact Drawn0.refl _ | apply Drawn0.step)⟩
                          · rw [if_neg c10] at H
                            have c10b0 : ((rdOf ByteArray.empty (rd_L1 l0 x3_1) x4_2).toList == ([] : List UInt8)) = false := beq_eq_false_iff_ne.mpr c10
                            have c10b1 : ((rdOf ByteArray.empty (rd_L1 l0 x3_1) x4_2).toList != ([] : List UInt8)) = true := bne_iff_ne.mpr c10
                            (first | rw [c10b0] | (simp only [i64_w, i32_w]; rw [c10b0]) | skip)
                            by_cases c11 : 0 < ((rdOf ByteArray.empty (rd_L1 l0 x3_1) x4_2).size : Int)
                            · rw [if_pos c11] at H
                              have c11b0 : decide (0 < ((rdOf ByteArray.empty (rd_L1 l0 x3_1) x4_2).size : Int)) = true := decide_eq_true c11
                              have c11b1 : decide (0 < (rdOf ByteArray.empty (rd_L1 l0 x3_1) x4_2).size) = true := decide_eq_true (by omega)
                              clear c11
                              have H' := Aside0.mk H
                              clear H
                              have p12 : 0 ≤ (0 : Int) := (by omega)
                              have q12 : 0 < (rdOf ByteArray.empty (rd_L1 l0 x3_1) x4_2).size := (by have : (0 : Int) < ((rdOf ByteArray.empty (rd_L1 l0 x3_1) x4_2).size : Int) := of_decide_eq_true (by first | (with_reducible assumption) | assumption); omega)
                              have hx12 : ∀ h : 0 < (rdOf ByteArray.empty (rd_L1 l0 x3_1) x4_2).size, (((rdOf ByteArray.empty (rd_L1 l0 x3_1) x4_2)[0]'h).toNat : Int) = bt (rdOf ByteArray.empty (rd_L1 l0 x3_1) x4_2) 0 := bt_at (rdOf ByteArray.empty (rd_L1 l0 x3_1) x4_2) 0
                              clear p12
                              have qi12 : (0 < ((rdOf ByteArray.empty (rd_L1 l0 x3_1) x4_2).size : Int)) = True := eq_true (of_decide_eq_true (by first | (with_reducible assumption) | assumption))
                              replace q12 := eq_true q12
                              go_wp2
                              go_meet
                              case rel => exact ⟨_, (((bt (rdOf ByteArray.empty (rd_L1 l0 x3_1) x4_2) 0) == 35)), (by first | rfl | (simp; done) | (simp [*]; done)), H', ⟨by have := HK1.out; have := HK2.out; first | omega | exact Nat.le_refl _⟩, by repeat (first | exact Drawn0.refl _ | apply Drawn0.step)⟩
                            · rw [if_neg c11] at H
                              exact absurd H (by simp)
                        case rest =>
                          clear HC9
                          try clear c1
                          try clear p1
                          try clear q1
                          try clear hx1
                          try clear qi1
                          try clear c2
                          try clear c2b0
                          try clear p2
                          try clear c3
                          try clear c3b0
                          try clear c4
                          try clear c4b0
                          try clear c4b1
                          try clear c4b2
                          try clear c5
                          try clear c5b0
                          try clear c6
                          try clear c6b0
                          try clear c7
                          try clear c7b0
                          try clear c8
                          try clear c8b0
                          try clear c9
                          try clear c10
                          try clear c10b0
                          try clear c10b1
                          try clear c11
                          try clear c11b0
                          try clear c11b1
                          try clear p11
                          try clear q11
                          try clear hx11
                          try clear c12
                          try clear p12
                          try clear q12
                          try clear hx12
                          try clear qi12
                          try clear hx118_0
                          try clear hx119_0
                          try clear hx120_0
                          try clear hx121_0
                          try clear p1
                          try clear p118
                          try clear p119
                          try clear p12
                          try clear p120
                          try clear p121
                          try clear p2
                          try clear q1
                          try clear q118
                          try clear q119
                          try clear q12
                          try clear q120
                          try clear q121
                          obtain ⟨kq, x41_8, rfl, HA, HJ8, ⟨mc8, rfl⟩⟩ := hcut
                          cases kq with
                          | zero => exact absurd HA.out (by simp [postilionref18_May.j2])
                          | succ kj8 =>
                            have H := HA.out
                            clear HA
                            simp only [postilionref18_May.j2] at H
                            by_cases c13 : x41_8 = true
                            · subst c13
                              have H1 : (some false) = some r := by rw [if_pos rfl] at H; exact H
                              clear H
                              have H := H1
                              clear H1
                              obtain rfl := Option.some.inj H
                              go_wp2
                              go_ret
                              exact ⟨by first | rfl | (simp; done) | (simp [*]; done), by repeat (first | exact Drawn0.refl _ | apply Drawn0.step)⟩
                            · replace c13 := Bool.eq_false_iff.mpr c13
                              subst c13
                              have H1 : (postilionref18_May.l2 kj8 l0 x3_1 x4_2 (rdOf ByteArray.empty (rd_L1 l0 x3_1) x4_2) 0) = some r := by rw [if_neg (show ¬ (false = true) by decide)] at H; exact H
                              clear H
                              have H := H1
                              clear H1
                              have H' := Aside0.mk H
                              clear H
                              go_wp2
                              go_loopg [6] kj8 (fun kq v6 w' => ∃ (x6_4 : Int), v6 = .int .i64 x6_4 ∧ Aside0 (postilionref18_May.l2 kq l0 x3_1 x4_2 (rdOf ByteArray.empty (rd_L1 l0 x3_1) x4_2) x6_4 = some r) ∧ Aside0 (kq ≤ kj8) ∧ Drawn0 w w')
                              case atStart => exact ⟨(0), (by first | rfl | (simp; done) | (simp [*]; done)), H', ⟨Nat.le_refl _⟩, by repeat (first | exact Drawn0.refl _ | apply Drawn0.step)⟩
                              case round =>
                                clear H'
                                try clear c1
                                try clear p1
                                try clear q1
                                try clear hx1
                                try clear qi1
                                try clear c2
                                try clear c2b0
                                try clear p2
                                try clear c3
                                try clear c3b0
                                try clear c4
                                try clear c4b0
                                try clear c4b1
                                try clear c4b2
                                try clear c5
                                try clear c5b0
                                try clear c6
                                try clear c6b0
                                try clear c7
                                try clear c7b0
                                try clear c8
                                try clear c8b0
                                try clear c9
                                try clear c10
                                try clear c10b0
                                try clear c10b1
                                try clear c11
                                try clear c11b0
                                try clear c11b1
                                try clear p11
                                try clear q11
                                try clear hx11
                                try clear c12
                                try clear p12
                                try clear q12
                                try clear hx12
                                try clear qi12
                                try clear c13
                                try clear hx118_0
                                try clear hx119_0
                                try clear hx120_0
                                try clear hx121_0
                                try clear p1
                                try clear p11
                                try clear p118
                                try clear p119
                                try clear p12
                                try clear p120
                                try clear p121
                                try clear p2
                                try clear q1
                                try clear q11
                                try clear q118
                                try clear q119
                                try clear q12
                                try clear q120
                                try clear q121
                                obtain ⟨x6_4, rfl, HA, HK4, ⟨m4, rfl⟩⟩ := hrel
                                cases gk with
                                | zero => exact absurd HA.out (by simp [postilionref18_May.l2])
                                | succ k4 =>
                                  have H := HA.out
                                  clear HA
                                  simp only [postilionref18_May.l2] at H
                                  by_cases c14 : x6_4 < ((rdOf ByteArray.empty (rd_L1 l0 x3_1) x4_2).size : Int)
                                  · rw [if_pos c14] at H
                                    have c14b0 : decide (x6_4 < ((rdOf ByteArray.empty (rd_L1 l0 x3_1) x4_2).size : Int)) = true := decide_eq_true c14
                                    clear c14
                                    by_cases c15 : 0 ≤ x6_4
                                    · rw [if_pos c15] at H
                                      have c15b0 : decide (0 ≤ x6_4) = true := decide_eq_true c15
                                      clear c15
                                      by_cases c17 : (bt (rdOf ByteArray.empty (rd_L1 l0 x3_1) x4_2) x6_4) < 33
                                      · rw [if_pos c17] at H
                                        have c17b0 : decide ((bt (rdOf ByteArray.empty (rd_L1 l0 x3_1) x4_2) x6_4) < 33) = true := decide_eq_true c17
                                        clear c17
                                        obtain rfl := Option.some.inj H
                                        have p16 : 0 ≤ (x6_4 : Int) := of_decide_eq_true (by first | (with_reducible assumption) | assumption)
                                        have q16 : x6_4 < ((rdOf ByteArray.empty (rd_L1 l0 x3_1) x4_2).size : Int) := of_decide_eq_true (by first | (with_reducible assumption) | assumption)
                                        have hx16 := bt_at (rdOf ByteArray.empty (rd_L1 l0 x3_1) x4_2) x6_4
                                        replace p16 := eq_true p16
                                        replace q16 := eq_true q16
                                        go_wp2
                                        go_ret
                                        exact ⟨by first | rfl | (simp; done) | (simp [*]; done), by repeat (first | exact Drawn0.refl _ | apply Drawn0.step)⟩
                                      · rw [if_neg c17] at H
                                        have c17b0 : decide ((bt (rdOf ByteArray.empty (rd_L1 l0 x3_1) x4_2) x6_4) < 33) = false := decide_eq_false c17
                                        clear c17
                                        by_cases c19 : (bt (rdOf ByteArray.empty (rd_L1 l0 x3_1) x4_2) x6_4) > 126
                                        · rw [if_pos c19] at H
                                          have c19b0 : decide (126 < (bt (rdOf ByteArray.empty (rd_L1 l0 x3_1) x4_2) x6_4)) = true := decide_eq_true c19
                                          clear c19
                                          obtain rfl := Option.some.inj H
                                          have p16 : 0 ≤ (x6_4 : Int) := of_decide_eq_true (by first | (with_reducible assumption) | assumption)
                                          have q16 : x6_4 < ((rdOf ByteArray.empty (rd_L1 l0 x3_1) x4_2).size : Int) := of_decide_eq_true (by first | (with_reducible assumption) | assumption)
                                          have hx16 := bt_at (rdOf ByteArray.empty (rd_L1 l0 x3_1) x4_2) x6_4
                                          replace p16 := eq_true p16
                                          replace q16 := eq_true q16
                                          have p18 : 0 ≤ (x6_4 : Int) := of_decide_eq_true (by first | (with_reducible assumption) | assumption)
                                          have q18 : x6_4 < ((rdOf ByteArray.empty (rd_L1 l0 x3_1) x4_2).size : Int) := of_decide_eq_true (by first | (with_reducible assumption) | assumption)
                                          have hx18 := bt_at (rdOf ByteArray.empty (rd_L1 l0 x3_1) x4_2) x6_4
                                          replace p18 := eq_true p18
                                          replace q18 := eq_true q18
                                          go_wp2
                                          go_ret
                                          exact ⟨by first | rfl | (simp; done) | (simp [*]; done), by repeat (first | exact Drawn0.refl _ | apply Drawn0.step)⟩
                                        · rw [if_neg c19] at H
                                          have c19b0 : decide (126 < (bt (rdOf ByteArray.empty (rd_L1 l0 x3_1) x4_2) x6_4)) = false := decide_eq_false c19
                                          clear c19
                                          have H' := Aside0.mk H
                                          clear H
                                          have p16 : 0 ≤ (x6_4 : Int) := of_decide_eq_true (by first | (with_reducible assumption) | assumption)
                                          have q16 : x6_4 < ((rdOf ByteArray.empty (rd_L1 l0 x3_1) x4_2).size : Int) := of_decide_eq_true (by first | (with_reducible assumption) | assumption)
                                          have hx16 := bt_at (rdOf ByteArray.empty (rd_L1 l0 x3_1) x4_2) x6_4
                                          replace p16 := eq_true p16
                                          replace q16 := eq_true q16
                                          have p18 : 0 ≤ (x6_4 : Int) := of_decide_eq_true (by first | (with_reducible assumption) | assumption)
                                          have q18 : x6_4 < ((rdOf ByteArray.empty (rd_L1 l0 x3_1) x4_2).size : Int) := of_decide_eq_true (by first | (with_reducible assumption) | assumption)
                                          have hx18 := bt_at (rdOf ByteArray.empty (rd_L1 l0 x3_1) x4_2) x6_4
                                          replace p18 := eq_true p18
                                          replace q18 := eq_true q18
                                          go_wp2
                                          go_roundg k4
                                          case measure => have := HK1.out; have := HK2.out; have := HJ8.out; have := HK4.out; omega
                                          case rel => exact ⟨(wrap64 (x6_4 + 1)), (by first | rfl | (simp; done) | (simp [*]; done)), H', ⟨by have := HK1.out; have := HK2.out; have := HJ8.out; have := HK4.out; omega⟩, by repeat (first | exact Drawn0.refl _ | apply Drawn0.step)⟩
                                    · rw [if_neg c15] at H
                                      exact absurd H (by simp)
                                  · rw [if_neg c14] at H
                                    have c14b0 : decide (x6_4 < ((rdOf ByteArray.empty (rd_L1 l0 x3_1) x4_2).size : Int)) = false := decide_eq_false c14
                                    clear c14
                                    have H' := Aside0.mk H
                                    clear H
                                    go_wp2
                                    go_roundg k4
                                    case measure => have := HK1.out; have := HK2.out; have := HJ8.out; have := HK4.out; omega
                                    case rel => exact ⟨(wrap64 (x4_2 + 1)), (by first | rfl | (simp; done) | (simp [*]; done)), H', ⟨by have := HK1.out; have := HK2.out; have := HJ8.out; have := HK4.out; omega⟩, by repeat (first | exact Drawn0.refl _ | apply Drawn0.step)⟩
                      · rw [if_neg c8] at H
                        exact absurd H (by simp)
                    · rw [if_neg c7] at H
                      have c7b0 : decide (x4_2 < ((rd_L1 l0 x3_1).length : Int)) = false := decide_eq_false c7
                      clear c7
                      have H' := Aside0.mk H
                      clear H
                      have p119 : 0 ≤ (x3_1 : Int) := of_decide_eq_true (by first | (with_reducible assumption) | assumption)
                      have q119 : x3_1 < (l0.length : Int) := of_decide_eq_true (by first | (with_reducible assumption) | assumption)
                      obtain ⟨ad119, A119_0, c119_0, e119, hx119_0, hl119_0, hi119_0⟩ := at_L1 HR0.out x3_1 p119 q119
                      obtain rfl : ad118 = ad119 := (by injection e119)
                      have HR119_0 := Aside0.mk hi119_0
                      have HC119_0 := Aside0.mk hl119_0
                      clear hi119_0 hl119_0
                      replace p119 := eq_true p119
                      replace q119 := eq_true q119
                      go_wp2
                      go_roundg k2
                      case measure => have := HK1.out; have := HK2.out; omega
                      case rel => exact ⟨(wrap64 (x3_1 + 1)), (by first | rfl | (simp; done) | (simp [*]; done)), H', ⟨by have := HK1.out; have := HK2.out; omega⟩, by repeat (first | exact Drawn0.refl _ | apply Drawn0.step)⟩
                  · rw [if_neg c6] at H
                    exact absurd H (by simp)
                · rw [if_neg c5] at H
                  exact absurd H (by simp)
        · rw [if_neg c3] at H
          exact absurd H (by simp)
      · rw [if_neg c2] at H
        have c2b0 : decide (x3_1 < (l0.length : Int)) = false := decide_eq_false c2
        clear c2
        obtain rfl := Option.some.inj H
        go_wp2
        go_ret
        exact ⟨by first | rfl | (simp; done) | (simp [*]; done), by repeat (first | exact Drawn0.refl _ | apply Drawn0.step)⟩

end Go.Proofs.Ytpllckhmnjgohaa.P
