import Derived.Test.YtbdodjedigegdaaDoorPx0
import Derived.Test.YtbdodjedigegdaaDoorShelf
import Derived.Test.YtbdodjedigegdaaDoorSLpairs
import Derived.Shelf.Strings.SlTrimAscii
import Derived.BigQuiet
import Derived.RangeFuncBox
import Derived.Laws.RangeAny
namespace Go.Proofs.YtbdodjedigegdaaDoor.P
open Go.RowKit Go.Proofs.YtbdodjedigegdaaDoorW.PrintWords Go.Proofs.YtbdodjedigegdaaDoorW.PrintLast Go.Proofs.YtbdodjedigegdaaDoorW.PrintMore
set_option linter.unusedVariables false
set_option linter.unusedSimpArgs false
set_option linter.unnecessarySimpa false
attribute [local go_sem] max2_int min2_int max_two min_two max_three min_three max_four min_four
set_option linter.unusedVariables false
set_option linter.unusedSimpArgs false
set_option linter.unnecessarySimpa false
/-! ### bytes of a head -/
def plainB (c : UInt8) : Bool := decide (32 ≤ c.toNat) && decide (c.toNat ≤ 126)
def valueB (c : UInt8) : Bool := c == 9 || plainB c
def signsL : List UInt8 := [33, 35, 36, 37, 38, 39, 42, 43, 45, 46, 94, 95, 96, 124, 126]
def signB (c : UInt8) : Bool := (decide (97 ≤ c.toNat) && decide (c.toNat ≤ 122)) || (decide (65 ≤ c.toNat) && decide (c.toNat ≤ 90)) || (decide (48 ≤ c.toNat) && decide (c.toNat ≤ 57)) || decide (0 ≤ Lib.indexByte signsL c)
theorem hd_plain (c : UInt8) (W : World) : Calls Tryd.prog 27 #[.int .u8 (c.toNat : Int)] W fun e W' => e = .returned (.bool (plainB c)) ∧ Drawn0 W W' := by
  have key : ∀ b1 b2 : Bool, decide (32 ≤ (c.toNat : Int)) = b1 → decide ((c.toNat : Int) ≤ 126) = b2 → Calls Tryd.prog 27 #[.int .u8 (c.toNat : Int)] W fun e W' => e = .returned (.bool (b1 && b2)) ∧ Drawn0 W W' := by
    intro b1 b2 p1 p2
    cases b1 <;> cases b2 <;> (go_enter Tryd.func27, Tryd.ntmps27; go_wp2_with fail; go_ret; exact ⟨rfl, Drawn0.refl _⟩)
  have e : plainB c = (decide (32 ≤ (c.toNat : Int)) && decide ((c.toNat : Int) ≤ 126)) := by
    unfold plainB
    rw [decide_eq_decide.2 (show 32 ≤ c.toNat ↔ 32 ≤ (c.toNat : Int) by omega), decide_eq_decide.2 (show c.toNat ≤ 126 ↔ (c.toNat : Int) ≤ 126 by omega)]
  rw [e]
  exact key _ _ rfl rfl
theorem hd_value (c : UInt8) (W : World) : Calls Tryd.prog 28 #[.int .u8 (c.toNat : Int)] W fun e W' => e = .returned (.bool (valueB c)) ∧ Drawn0 W W' := by
  have P := hd_plain c W
  by_cases h : c = 9
  · subst h
    go_enter Tryd.func28, Tryd.ntmps28
    go_wp2_with fail
    go_ret
    exact ⟨rfl, Drawn0.refl _⟩
  · have hn : ¬ c.toNat = 9 := fun e => h (UInt8.toNat_inj.1 e)
    have p1 : ((c.toNat : Int) == 9) = false := by rw [beq_eq_false_iff_ne]; omega
    have e : valueB c = plainB c := by unfold valueB; rw [beq_false_of_ne h, Bool.false_or]
    rw [e]
    generalize plainB c = b at P
    clear h hn e
    go_enter Tryd.func28, Tryd.ntmps28
    go_wp2_with (go_at_call 27; (with_reducible refine P.mono ?_); rintro e w1 ⟨rfl, d1⟩)
    go_ret
    exact ⟨rfl, d1⟩
set_option maxHeartbeats 2000000 in
theorem hd_sign (c : UInt8) (W : World) : Calls Tryd.prog 31 #[.int .u8 (c.toNat : Int)] W fun e W' => e = .returned (.bool (signB c)) ∧ Drawn0 W W' := by
  have IX := Tryd.strings_IndexByte ⟨#[33, 35, 36, 37, 38, 39, 42, 43, 45, 46, 94, 95, 96, 124, 126]⟩ (c.toNat : Int) W
  have ec : (c.toNat : Int).toNat.toUInt8 = c := by simp
  rw [ec] at IX
  have el : (⟨#[33, 35, 36, 37, 38, 39, 42, 43, 45, 46, 94, 95, 96, 124, 126]⟩ : ByteArray).data.toList = signsL := rfl
  rw [el] at IX
  obtain ⟨r, hr⟩ : ∃ r, r = signB c := ⟨_, rfl⟩
  rw [← hr]
  unfold signB at hr
  generalize Lib.indexByte signsL c = i at IX hr
  have hc := c.toNat_lt
  generalize c.toNat = n at *
  have key : ∀ b1 b2 b3 b4 b5 b6 : Bool, decide (97 ≤ (n : Int)) = b1 → decide ((n : Int) ≤ 122) = b2 → decide (65 ≤ (n : Int)) = b3 → decide ((n : Int) ≤ 90) = b4 → decide (48 ≤ (n : Int)) = b5 → decide ((n : Int) ≤ 57) = b6 →
      ((b1 && b2) || (b3 && b4) || (b5 && b6)) = true → Calls Tryd.prog 31 #[.int .u8 (n : Int)] W fun e W' => e = .returned (.bool true) ∧ Drawn0 W W' := by
    intro b1 b2 b3 b4 b5 b6 p1 p2 p3 p4 p5 p6 hb
    clear IX hr
    cases b1 <;> cases b2 <;> cases b3 <;> cases b4 <;> cases b5 <;> cases b6 <;> first | (exact absurd hb (by decide)) | (exfalso; have := of_decide_eq_true p1; have := of_decide_eq_false p3; omega) | (clear hb; go_enter Tryd.func31, Tryd.ntmps31; go_wp2_with fail; go_ret; exact ⟨rfl, Drawn0.refl _⟩)
  have hI : ∀ n0 : Nat, decide (97 ≤ n0) = decide (97 ≤ (n0 : Int)) := fun n0 => decide_eq_decide.2 (by omega)
  by_cases h : ((decide (97 ≤ n) && decide (n ≤ 122)) || (decide (65 ≤ n) && decide (n ≤ 90)) || (decide (48 ≤ n) && decide (n ≤ 57))) = true
  · have e : r = true := by rw [hr, h, Bool.true_or]
    rw [e]
    refine key _ _ _ _ _ _ rfl rfl rfl rfl rfl rfl ?_
    rw [← h]
    congr 1
    · congr 1
      · rw [decide_eq_decide.2 (show 97 ≤ (n : Int) ↔ 97 ≤ n by omega), decide_eq_decide.2 (show (n : Int) ≤ 122 ↔ n ≤ 122 by omega)]
      · rw [decide_eq_decide.2 (show 65 ≤ (n : Int) ↔ 65 ≤ n by omega), decide_eq_decide.2 (show (n : Int) ≤ 90 ↔ n ≤ 90 by omega)]
    · rw [decide_eq_decide.2 (show 48 ≤ (n : Int) ↔ 48 ≤ n by omega), decide_eq_decide.2 (show (n : Int) ≤ 57 ↔ n ≤ 57 by omega)]
  · have e : r = decide (0 ≤ i) := by rw [hr, Bool.eq_false_iff.2 h, Bool.false_or]
    rw [e]
    have hrange : n < 48 ∨ (57 < n ∧ n < 65) ∨ (90 < n ∧ n < 97) ∨ 122 < n := by
      rw [Bool.or_eq_true, Bool.or_eq_true, Bool.and_eq_true, Bool.and_eq_true, Bool.and_eq_true, decide_eq_true_eq, decide_eq_true_eq, decide_eq_true_eq, decide_eq_true_eq, decide_eq_true_eq, decide_eq_true_eq] at h
      omega
    clear key hr e h hI
    obtain ⟨b7, p7⟩ : ∃ b7, decide (0 ≤ i) = b7 := ⟨_, rfl⟩
    rw [p7]
    rcases hrange with h | h | h | h
    · have p1 : decide (97 ≤ (n : Int)) = false := decide_eq_false (by omega)
      have p3 : decide (65 ≤ (n : Int)) = false := decide_eq_false (by omega)
      have p5 : decide (48 ≤ (n : Int)) = false := decide_eq_false (by omega)
      cases b7 <;> (go_enter Tryd.func31, Tryd.ntmps31; go_wp2_with (go_at_call 46; (with_reducible refine IX.mono ?_); rintro e w1 ⟨rfl, hw1⟩; obtain rfl := hw1.symm); go_ret; exact ⟨rfl, Drawn0.refl _⟩)
    · have p1 : decide (97 ≤ (n : Int)) = false := decide_eq_false (by omega)
      have p3 : decide (65 ≤ (n : Int)) = false := decide_eq_false (by omega)
      have p5 : decide (48 ≤ (n : Int)) = true := decide_eq_true (by omega)
      have p6 : decide ((n : Int) ≤ 57) = false := decide_eq_false (by omega)
      cases b7 <;> (go_enter Tryd.func31, Tryd.ntmps31; go_wp2_with (go_at_call 46; (with_reducible refine IX.mono ?_); rintro e w1 ⟨rfl, hw1⟩; obtain rfl := hw1.symm); go_ret; exact ⟨rfl, Drawn0.refl _⟩)
    · have p1 : decide (97 ≤ (n : Int)) = false := decide_eq_false (by omega)
      have p3 : decide (65 ≤ (n : Int)) = true := decide_eq_true (by omega)
      have p4 : decide ((n : Int) ≤ 90) = false := decide_eq_false (by omega)
      have p5 : decide (48 ≤ (n : Int)) = true := decide_eq_true (by omega)
      have p6 : decide ((n : Int) ≤ 57) = false := decide_eq_false (by omega)
      cases b7 <;> (go_enter Tryd.func31, Tryd.ntmps31; go_wp2_with (go_at_call 46; (with_reducible refine IX.mono ?_); rintro e w1 ⟨rfl, hw1⟩; obtain rfl := hw1.symm); go_ret; exact ⟨rfl, Drawn0.refl _⟩)
    · have p1 : decide (97 ≤ (n : Int)) = true := decide_eq_true (by omega)
      have p2 : decide ((n : Int) ≤ 122) = false := decide_eq_false (by omega)
      have p3 : decide (65 ≤ (n : Int)) = true := decide_eq_true (by omega)
      have p4 : decide ((n : Int) ≤ 90) = false := decide_eq_false (by omega)
      have p5 : decide (48 ≤ (n : Int)) = true := decide_eq_true (by omega)
      have p6 : decide ((n : Int) ≤ 57) = false := decide_eq_false (by omega)
      cases b7 <;> (go_enter Tryd.func31, Tryd.ntmps31; go_wp2_with (go_at_call 46; (with_reducible refine IX.mono ?_); rintro e w1 ⟨rfl, hw1⟩; obtain rfl := hw1.symm); go_ret; exact ⟨rfl, Drawn0.refl _⟩)
/-- A text's trimmed form. -/
def trimT (s : ByteArray) : ByteArray := ⟨(Lib.trimS s.data.toList [32, 9]).toArray⟩
theorem hd_Trim (s : ByteArray) (W : World) (hs : s.size ≤ 9223372036854775807) : Calls Tryd.prog 29 #[.string s, .string ⟨#[32, 9]⟩] W fun e W' => e = .returned (.string (trimT s)) ∧ Below W.heap.size W W' :=
  Any.strings_Trim_laid Tryd.lays160 (by kernel_rfl) s ⟨#[32, 9]⟩ W hs (by decide) (fun j b hb => by
    have hm : b ∈ [32, 9] := List.mem_of_getElem? hb
    rcases List.mem_cons.1 hm with rfl | hm
    · decide
    · rw [List.mem_singleton.1 hm]; decide)
end Go.Proofs.YtbdodjedigegdaaDoor.P
