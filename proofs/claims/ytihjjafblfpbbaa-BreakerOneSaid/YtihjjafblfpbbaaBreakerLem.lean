import Derived.Test.YtihjjafblfpbbaaPx4
import Derived.Test.YtihjjafblfpbbaaPx7
import Derived.Test.YtihjjafblfpbbaaPx10
import Derived.Test.YtihjjafblfpbbaaPx11
import Derived.Test.YtihjjafblfpbbaaPx12
import Derived.Test.YtihjjafblfpbbaaPx13
namespace Go.Proofs.Ytihjjafblfpbbaa.Pure
open Go.RowKit Go.Proofs.Ytihjjafblfpbbaa.P Go.Proofs.YtihjjafblfpbbaaW.PrintWords Go.Proofs.YtihjjafblfpbbaaW.PrintLast

def mayB (a : Bool) (b c : Int) (d : Bool) : Bool := if a = true then decide (0 ≤ b ∧ b ≤ 1099511619775 ∧ 1 ≤ c ∧ c ≤ 8000) else (!d && (decide (b = 0) && decide (c = 0)))
def stB (a : Bool) (b c : Int) (d : Bool) (now : Int) : Int := if mayB a b c d = true then (if a = true then (if now < b + c then 1 else 2) else 0) else 1
def letsB (a : Bool) (b c : Int) (d : Bool) (now : Int) : Bool := decide (stB a b c d now = 0) || (decide (stB a b c d now = 2) && !d)
theorem may_p (a : Bool) (b c : Int) (d : Bool) : breaker_May.f a b c d = some (mayB a b c d) := by
  unfold breaker_May.f breaker_tick.f mayB
  cases a <;> cases d <;> simp <;> grind
theorem may_r (a : Bool) (b c : Int) (d : Bool) : postilionref09_May.f a b c d = some (mayB a b c d) := by
  unfold postilionref09_May.f mayB
  cases a <;> cases d <;> simp <;> grind
theorem may_sum {a : Bool} {b c : Int} {d : Bool} (h : mayB a b c d = true) : wrap64 (b + c) = b + c := by
  unfold mayB at h
  unfold wrap64
  cases a <;> simp at h <;> omega
theorem st_p (a : Bool) (b c : Int) (d : Bool) (now : Int) : breaker_Breaker_State.f a b c d now = some (stB a b c d now) := by
  unfold breaker_Breaker_State.f stB
  rw [may_p]
  simp only [Option.bind_some]
  by_cases hm : mayB a b c d = true
  · rw [may_sum hm]
    unfold mayB at *
    cases a <;> cases d <;> simp at hm ⊢ <;> grind
  · unfold mayB at *
    cases a <;> cases d <;> simp at hm ⊢ <;> grind
theorem st_r (a : Bool) (b c : Int) (d : Bool) (now : Int) : postilionref09_State.f a b c d now = some (stB a b c d now) := by
  unfold postilionref09_State.f stB
  rw [may_r]
  simp only [Option.bind_some]
  by_cases hm : mayB a b c d = true
  · rw [may_sum hm, if_pos hm, if_pos hm]
    grind
  · rw [if_neg hm, if_neg hm]
theorem lets_p (a : Bool) (b c : Int) (d : Bool) (now : Int) : breaker_Breaker_Lets.f a b c d now = some (letsB a b c d now) := by
  unfold breaker_Breaker_Lets.f letsB
  rw [st_p]
  simp only [Option.bind_some]
  grind
theorem lets_r (a : Bool) (b c : Int) (d : Bool) (now : Int) : postilionref09_Lets.f a b c d now = some (letsB a b c d now) := by
  unfold postilionref09_Lets.f letsB
  rw [st_r]
  simp only [Option.bind_some]
  grind
def tickB (n : Int) : Bool := decide (0 ≤ n ∧ n ≤ 1099511619775)
theorem tick_p (n : Int) : breaker_tick.f n = some (tickB n) := by
  unfold breaker_tick.f tickB
  grind
def tryB (a : Bool) (b c : Int) (d : Bool) (now : Int) : Bool × Int × Int × Bool × Bool × Int :=
  if tickB now = true ∧ letsB a b c d now = true then (a, b, c, a, a, 0) else (a, b, c, d, false, 2)
theorem try_p (a : Bool) (b c : Int) (d : Bool) (now : Int) : breaker_Breaker_Try.f a b c d now = some (tryB a b c d now) := by
  unfold breaker_Breaker_Try.f tryB
  rw [tick_p, lets_p]
  simp only [Option.bind_some]
  grind
theorem lets_may {a : Bool} {b c : Int} {d : Bool} {now : Int} (h : letsB a b c d now = true) : mayB a b c d = true := by
  unfold letsB stB at h
  grind
theorem st_zero {a : Bool} {b c : Int} {d : Bool} {now : Int} (h : letsB a b c d now = true) : (stB a b c d now = 0 ↔ a = false) ∧ (a = false → d = false) := by
  have hm := lets_may h
  unfold stB
  rw [if_pos hm]
  unfold mayB at hm
  cases a <;> simp at hm ⊢
  · exact hm.1
  · split <;> decide
theorem try_r (a : Bool) (b c : Int) (d : Bool) (now : Int) (k : Nat) : postilionref09_Try.f (k + 1) a b c d now = some (tryB a b c d now) := by
  unfold postilionref09_Try.f tryB
  simp only [postilionref09_Try.j0]
  rw [may_r, lets_r, st_r]
  simp only [Option.bind_some]
  have hz := @lets_may a b c d now
  have hs := @st_zero a b c d now
  unfold tickB
  by_cases hl : letsB a b c d now = true
  · have hm := hz hl
    obtain ⟨hs1, hs2⟩ := hs hl
    rw [if_pos hm]
    simp only [hl]
    cases a <;> simp at hs1 hs2 ⊢ <;> grind
  · simp only [Bool.not_eq_true] at hl
    simp only [hl]
    cases mayB a b c d <;> simp <;> grind
def itsB (a : Bool) (b c : Int) (d tr : Bool) : Bool := tr && (d && mayB a b c d)
theorem its_p (a : Bool) (b c : Int) (d tr : Bool) : breaker_Breaker_its.f a b c d tr = some (itsB a b c d tr) := by
  unfold breaker_Breaker_its.f itsB
  rw [may_p]
  cases tr <;> cases d <;> simp
def goodB (a : Bool) (b c : Int) (d tr : Bool) : Bool × Int × Int × Bool := if itsB a b c d tr = true then (false, 0, 0, false) else (a, b, c, d)
theorem good_p (a : Bool) (b c : Int) (d tr : Bool) : breaker_Breaker_Good.f a b c d tr = some (goodB a b c d tr) := by
  unfold breaker_Breaker_Good.f goodB
  rw [its_p]
  simp only [Option.bind_some]
  split <;> rfl
theorem good_r (a : Bool) (b c : Int) (d tr : Bool) : postilionref09_Good.f a b c d tr = some (goodB a b c d tr) := by
  unfold postilionref09_Good.f goodB itsB
  rw [may_r]
  cases tr <;> cases d <;> cases mayB a b c _ <;> rfl
def backB (a : Bool) (b c : Int) (d tr : Bool) : Bool × Int × Int × Bool := if itsB a b c d tr = true then (a, b, c, false) else (a, b, c, d)
theorem back_p (a : Bool) (b c : Int) (d tr : Bool) : breaker_Breaker_Back.f a b c d tr = some (backB a b c d tr) := by
  unfold breaker_Breaker_Back.f backB
  rw [its_p]
  simp only [Option.bind_some]
  split <;> rfl
theorem back_r (a : Bool) (b c : Int) (d tr : Bool) : postilionref09_Back.f a b c d tr = some (backB a b c d tr) := by
  unfold postilionref09_Back.f backB itsB
  rw [may_r]
  cases tr <;> cases d <;> cases mayB a b c _ <;> rfl
def badB (a : Bool) (b c : Int) (d : Bool) (now cool : Int) (tr trip : Bool) : Bool × Int × Int × Bool × Int :=
  if mayB a b c d = true ∧ 0 ≤ now ∧ now ≤ 1099511619775 ∧ 1 ≤ cool ∧ cool ≤ 1000 then
    (if tr = true then (if d = true then (true, now, (if 2 * c < 8 * cool then 2 * c else 8 * cool), false, 0) else (a, b, c, d, 0))
     else if a = false ∧ trip = true then (true, now, cool, false, 0) else (a, b, c, d, 0))
  else (a, b, c, d, 2)
theorem may_c {a : Bool} {b c : Int} {d : Bool} (h : mayB a b c d = true) : 0 ≤ c ∧ c ≤ 8000 := by
  unfold mayB at h
  cases a <;> simp at h <;> omega
theorem wrap_in {x : Int} (h1 : -9223372036854775808 ≤ x) (h2 : x ≤ 9223372036854775807) : wrap64 x = x := by unfold wrap64; omega
theorem st_closed {a : Bool} {b c : Int} {d : Bool} (h : mayB a b c d = true) (now : Int) : stB a b c d now = 0 ↔ a = false := by
  unfold stB
  rw [if_pos h]
  cases a <;> simp
  split <;> decide
theorem bad_p (a : Bool) (b c : Int) (d : Bool) (now cool : Int) (tr trip : Bool) (k : Nat) : breaker_Breaker_Bad.f (k + 1) a b c d now cool tr trip = some (badB a b c d now cool tr trip) := by
  unfold breaker_Breaker_Bad.f badB
  simp only [breaker_Breaker_Bad.j0]
  rw [may_p, tick_p, its_p, st_p]
  simp only [Option.bind_some]
  unfold tickB itsB
  by_cases hm : mayB a b c d = true
  · have hc := may_c hm
    have hs := st_closed hm now
    by_cases hcool : 1 ≤ cool ∧ cool ≤ 1000
    · rw [wrap_in (x := 2 * c) (by omega) (by omega), wrap_in (x := 8 * cool) (by omega) (by omega)]
      unfold mn
      rw [hm]
      cases tr <;> cases d <;> cases trip <;> cases a <;> simp at hs ⊢ <;> grind
    · rw [hm]
      cases tr <;> cases d <;> cases trip <;> simp <;> grind
  · simp only [Bool.not_eq_true] at hm
    rw [hm]
    simp
theorem bad_r (a : Bool) (b c : Int) (d : Bool) (now cool : Int) (tr trip : Bool) (k : Nat) : postilionref09_Bad.f (k + 1) a b c d now cool tr trip = some (badB a b c d now cool tr trip) := by
  unfold postilionref09_Bad.f badB
  simp only [postilionref09_Bad.j0]
  rw [may_r]
  simp only [Option.bind_some]
  by_cases hm : mayB a b c d = true
  · have hc := may_c hm
    by_cases hcool : 1 ≤ cool ∧ cool ≤ 1000
    · rw [wrap_in (x := 2 * c) (by omega) (by omega), wrap_in (x := 8 * cool) (by omega) (by omega)]
      rw [hm]
      cases tr <;> cases d <;> cases trip <;> cases a <;> simp <;> grind
    · rw [hm]
      cases tr <;> cases d <;> cases trip <;> simp <;> grind
  · simp only [Bool.not_eq_true] at hm
    rw [hm]
    simp
end Go.Proofs.Ytihjjafblfpbbaa.Pure
