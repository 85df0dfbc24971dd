import Derived.Test.YtgmhbelgeopbdaaGreetLem
import Derived.Test.YtgmhbelgeopbdaaPx9
namespace Go.Proofs.Ytgmhbelgeopbdaa.Pure
open Go.RowKit Go.Proofs.Ytgmhbelgeopbdaa.P Go.Proofs.YtgmhbelgeopbdaaW.PrintWords Go.Proofs.YtgmhbelgeopbdaaW.PrintLast

theorem take_cases (l : List Int) (hl : l.length ≤ 1000000) (hb : Bytes l) :
    (l.length = 0 ∧ greet_Take.f l = some ([], 0, 5)) ∨ (1 ≤ l.length ∧ rd l 0 ≠ 5 ∧ greet_Take.f l = some ([], 0, 6)) ∨
    (l.length = 1 ∧ rd l 0 = 5 ∧ greet_Take.f l = some ([], 0, 5)) ∨ (2 ≤ l.length ∧ rd l 0 = 5 ∧ rd l 1 = 0 ∧ greet_Take.f l = some ([], 0, 6)) ∨
    (2 ≤ l.length ∧ rd l 0 = 5 ∧ 0 < rd l 1 ∧ (l.length : Int) < 2 + rd l 1 ∧ greet_Take.f l = some ([], 0, 5)) ∨
    (2 ≤ l.length ∧ rd l 0 = 5 ∧ 0 < rd l 1 ∧ 2 + rd l 1 ≤ (l.length : Int) ∧ greet_Take.f l = some ((l.drop 2).take (rd l 1).toNat, 2 + rd l 1, 0)) := by
  have h1 := rd_bytes hb 1
  have e2 : ((l.take (2 + rd l 1).toNat).drop 2).length ≤ 140737488355328 := by rw [List.length_drop, List.length_take]; omega
  have e : (l.take (2 + rd l 1).toNat).drop 2 = (l.drop 2).take (rd l 1).toNat := by
    rw [List.drop_take]
    congr 1
    omega
  unfold greet_Take.f bytes_Clone.f
  rw [if_pos e2, if_pos h1.1, if_pos h1.2, e]
  simp only [Option.bind_some]
  by_cases c1 : l.length = 0
  · exact .inl ⟨c1, if_pos c1⟩
  rw [if_neg c1]
  by_cases c2 : rd l 0 = 5
  · rw [if_pos c2]
    by_cases c3 : l.length = 1
    · exact .inr (.inr (.inl ⟨c3, c2, if_pos c3⟩))
    rw [if_neg c3]
    by_cases c4 : rd l 1 = 0
    · exact .inr (.inr (.inr (.inl ⟨by omega, c2, c4, if_pos c4⟩)))
    rw [if_neg c4]
    by_cases c5 : (l.length : Int) < 2 + rd l 1
    · exact .inr (.inr (.inr (.inr (.inl ⟨by omega, c2, by omega, c5, if_pos c5⟩))))
    · exact .inr (.inr (.inr (.inr (.inr ⟨by omega, c2, by omega, by omega, if_neg c5⟩))))
  · exact .inr (.inl ⟨by omega, c2, if_neg c2⟩)

theorem rd_append (l m : List Int) (i : Nat) (h : i < l.length) : rd (l ++ m) i = rd l i := by
  unfold rd
  rw [List.getD_eq_getElem?_getD, List.getD_eq_getElem?_getD, List.getElem?_append_left (by omega)]
theorem rd_take (l : List Int) (n i : Nat) (h : i < n) : rd (l.take n) i = rd l i := by
  unfold rd
  rw [List.getD_eq_getElem?_getD, List.getD_eq_getElem?_getD, List.getElem?_take_of_lt (by omega)]
theorem Bytes.append {l m : List Int} (h : Bytes l) (k : Bytes m) : Bytes (l ++ m) := fun x hx => by
  rcases List.mem_append.1 hx with hx | hx
  · exact h x hx
  · exact k x hx
theorem Bytes.take {l : List Int} (h : Bytes l) (n : Nat) : Bytes (l.take n) := fun x hx => h x (List.mem_of_mem_take hx)
theorem strOf_eq {l m : List Int} (h : l = m) : (strOfNums l).toList = (strOfNums m).toList := by rw [h]
theorem awake_true (k : Nat) : postilionlaw12_awake.f k = some true := rfl
end Go.Proofs.Ytgmhbelgeopbdaa.Pure
