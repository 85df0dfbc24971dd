/- The statement GreetHas (postilionlaw12): whether the method that is spoken here is among any, and what is answered, is what the reference says; for every row of bytes and either answer; no condition. -/
import Derived.Test.YtgmhbelgeopbdaaPx4
namespace Go.Proofs.Ytgmhbelgeopbdaa.Pure
open Go.RowKit Go.Proofs.Ytgmhbelgeopbdaa.P Go.Proofs.YtgmhbelgeopbdaaW.PrintWords Go.Proofs.YtgmhbelgeopbdaaW.PrintLast

theorem wrap_id {x : Int} (h1 : -9223372036854775808 ≤ x) (h2 : x ≤ 9223372036854775807) : wrap64 x = x := by unfold wrap64; omega
theorem has_loop (l : List Int) (hl : l.length ≤ 1000) (d : Nat) : ∀ (k i : Nat), l.length - i = d → d < k → i ≤ l.length → postilionref12_Has.l0 k l (i : Int) = some (decide ((2 : Int) ∈ l.drop i)) := by
  induction d with
  | zero =>
    intro k i hd hk hi
    obtain ⟨k, rfl⟩ : ∃ q, k = q + 1 := ⟨k - 1, by omega⟩
    simp only [postilionref12_Has.l0]
    rw [if_neg (by omega), List.drop_of_length_le (by omega)]
    simp
  | succ d ih =>
    intro k i hd hk hi
    obtain ⟨k, rfl⟩ : ∃ q, k = q + 1 := ⟨k - 1, by omega⟩
    have hil : i < l.length := by omega
    simp only [postilionref12_Has.l0]
    have e : rd l (i : Int) = l[i] := by
      unfold rd
      rw [List.getD_eq_getElem?_getD, Int.toNat_natCast, List.getElem?_eq_getElem hil]
      rfl
    rw [if_pos (by omega), if_pos (by omega), e, List.drop_eq_getElem_cons hil]
    by_cases h : l[i] = 2
    · rw [if_pos h, h]
      simp
    · rw [if_neg h, show wrap64 ((i : Int) + 1) = ((i + 1 : Nat) : Int) from by rw [wrap_id (by omega) (by omega)]; omega, ih k (i + 1) (by omega) (by omega) (by omega)]
      simp only [List.mem_cons]
      congr 1
      simp only [decide_eq_decide]
      constructor
      · exact Or.inr
      · rintro (h2 | h2)
        · exact absurd h2.symm h
        · exact h2
theorem byte_eq {x : Int} (h0 : 0 ≤ x) (h1 : x ≤ 255) : (UInt8.ofNat x.toNat = (2 : Int).toNat.toUInt8) ↔ x = 2 := by
  constructor
  · intro h
    have := congrArg UInt8.toNat h
    simp at this
    omega
  · rintro rfl
    rfl
theorem has_index (l : List Int) (hl : ∀ x ∈ l, (Lit.int .u8 x).wf = true) : (decide (Lib.indexByte (Lib.bytesOf l) ((2 : Int).toNat.toUInt8) ≥ 0)) = decide ((2 : Int) ∈ l) := by
  induction l with
  | nil => rfl
  | cons x l ih =>
    have hx := hl x (List.mem_cons_self)
    simp only [Lit.wf, Bool.and_eq_true, decide_eq_true_eq] at hx
    have ih := ih (fun y hy => hl y (List.mem_cons_of_mem _ hy))
    have hg := Lib.indexByte_ge (Lib.bytesOf l) ((2 : Int).toNat.toUInt8)
    have e : Lib.bytesOf (x :: l) = UInt8.ofNat x.toNat :: Lib.bytesOf l := rfl
    rw [e]
    unfold Lib.indexByte
    have hb := byte_eq (x := x) hx.1 hx.2
    by_cases h : x = 2
    · rw [if_pos (beq_iff_eq.mpr (hb.mpr h)), h]
      simp
    · rw [if_neg (fun h2 => h (hb.mp (beq_iff_eq.mp h2)))]
      by_cases hm : (2 : Int) ∈ l
      · rw [decide_eq_true hm] at ih
        have hi := of_decide_eq_true ih
        rw [if_neg (by simp only [beq_iff_eq]; omega), decide_eq_true (by omega), decide_eq_true (List.mem_cons_of_mem _ hm)]
      · rw [decide_eq_false hm] at ih
        have hi := of_decide_eq_false ih
        rw [if_pos (by simp only [beq_iff_eq]; omega), decide_eq_false (by omega), decide_eq_false (by simp only [List.mem_cons, not_or]; exact ⟨fun h2 => h h2.symm, hm⟩)]
theorem l1_loop (b : Bool) (d : Nat) : ∀ (k i : Nat) (x : List Int), x.length ≤ 1000 → x.length - i = d → d < k → i ≤ x.length → postilionlaw12_GreetHas.l1 k b x (i : Int) = some true := by
  induction d with
  | zero =>
    intro k i x hx hd hk hi
    obtain ⟨k, rfl⟩ : ∃ q, k = q + 1 := ⟨k - 1, by omega⟩
    simp only [postilionlaw12_GreetHas.l1]
    rw [if_neg (by omega)]
    unfold greet_Answer.f postilionref12_Answer.f greet_Greeting.f
    cases b <;> simp
  | succ d ih =>
    intro k i x hx hd hk hi
    obtain ⟨k, rfl⟩ : ∃ q, k = q + 1 := ⟨k - 1, by omega⟩
    simp only [postilionlaw12_GreetHas.l1]
    rw [if_pos (by omega), if_pos (by omega), show wrap64 ((i : Int) + 1) = ((i + 1 : Nat) : Int) from by rw [wrap_id (by omega) (by omega)]; omega]
    exact ih k (i + 1) _ (by rw [List.length_set]; omega) (by rw [List.length_set]; omega) (by omega) (by rw [List.length_set]; omega)
theorem l0_loop (b : Bool) (y : List Int) (hy : y.length ≤ 10) (d : Nat) : ∀ (k i : Nat) (x : List Int), x.length ≤ 1000 → x.length - i = d → d + 20 < k → i ≤ x.length → postilionlaw12_GreetHas.l0 k b x y (i : Int) = some true := by
  induction d with
  | zero =>
    intro k i x hx hd hk hi
    obtain ⟨k, rfl⟩ : ∃ q, k = q + 1 := ⟨k - 1, by omega⟩
    simp only [postilionlaw12_GreetHas.l0]
    rw [if_neg (by omega)]
    have := l1_loop b y.length k 0 y (by omega) (by omega) (by omega) (by omega)
    rw [Int.natCast_zero] at this
    exact this
  | succ d ih =>
    intro k i x hx hd hk hi
    obtain ⟨k, rfl⟩ : ∃ q, k = q + 1 := ⟨k - 1, by omega⟩
    simp only [postilionlaw12_GreetHas.l0]
    rw [if_pos (by omega), if_pos (by omega), show wrap64 ((i : Int) + 1) = ((i + 1 : Nat) : Int) from by rw [wrap_id (by omega) (by omega)]; omega]
    exact ih k (i + 1) _ (by rw [List.length_set]; omega) (by rw [List.length_set]; omega) (by omega) (by rw [List.length_set]; omega)
theorem GreetHas : postilionlaw12_GreetHas.Pure := by
  intro l b _ _ hl
  refine ⟨1100, ?_⟩
  unfold postilionlaw12_GreetHas.f
  by_cases hlen : (l.length : Int) > 1000
  · rw [if_pos hlen]
  rw [if_neg hlen]
  have ha : postilionref12_Answer.f b = greet_Answer.f b := rfl
  obtain ⟨t, ht, htl⟩ : ∃ t, greet_Answer.f b = some t ∧ t.length = 2 := by
    unfold greet_Answer.f
    cases b
    · exact ⟨_, rfl, rfl⟩
    · exact ⟨_, rfl, rfl⟩
  have hh : greet_Has.f l = some (decide ((2 : Int) ∈ l)) := by
    unfold greet_Has.f bytes_IndexByte.f
    rw [Option.bind_some, has_index l hl]
  have hr : postilionref12_Has.f 1100 l = some (decide ((2 : Int) ∈ l)) := by
    have := has_loop l (by omega) l.length 1100 0 (by omega) (by omega) (by omega)
    rw [Int.natCast_zero, List.drop_zero] at this
    exact this
  rw [ha, ht]
  unfold greet_Greeting.f
  simp only [Option.bind_some]
  rw [if_pos trivial, if_pos trivial, hh, hr]
  simp only [Option.bind_some, bne_self_eq_false]
  rw [show (1100 : Nat) = 1099 + 1 from rfl]
  simp only [postilionlaw12_GreetHas.j0]
  rw [if_neg (by simp)]
  have := l0_loop b [5, 1, 2] (by simp) t.length 1099 0 t (by omega) (by omega) (by omega) (by omega)
  rw [Int.natCast_zero] at this
  exact this
end Go.Proofs.Ytgmhbelgeopbdaa.Pure
