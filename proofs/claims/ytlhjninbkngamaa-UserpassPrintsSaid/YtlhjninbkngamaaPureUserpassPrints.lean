/- The statement UserpassPrints (postilionlaw13): any user and password have the word of introduction that the reference says, or none; answers are what it says; for every two texts and either answer; no condition. -/
import Derived.Test.YtlhjninbkngamaaPx3
import Derived.Test.YtlhjninbkngamaaStuserpassPrint
namespace Go.Proofs.Ytlhjninbkngamaa.Pure
open Go.RowKit Go.Proofs.Ytlhjninbkngamaa.P Go.Proofs.YtlhjninbkngamaaW.PrintWords Go.Proofs.YtlhjninbkngamaaW.PrintLast

theorem wrap_in {x : Int} (h1 : -9223372036854775808 ≤ x) (h2 : x ≤ 9223372036854775807) : wrap64 x = x := by unfold wrap64; omega
theorem print_eq (a b : ByteArray) (ha : a.size ≤ 140737488351232) (hb : b.size ≤ 140737488351232) : postilionref13_Print.f a b = userpass_Print.f a b := by
  unfold postilionref13_Print.f userpass_Print.f
  by_cases c1 : (a.size : Int) < 1
  · rw [if_pos c1, if_neg (by omega)]
  rw [if_neg c1]
  by_cases c2 : (a.size : Int) > 255
  · rw [if_pos c2, if_neg (by omega)]
  rw [if_neg c2, if_pos (show 1 ≤ a.size ∧ a.size ≤ 255 by omega)]
  by_cases c3 : (b.size : Int) < 1
  · rw [if_pos c3, if_neg (by omega)]
  rw [if_neg c3]
  by_cases c4 : (b.size : Int) > 255
  · rw [if_pos c4, if_neg (by omega)]
  rw [if_neg c4, if_pos (show 1 ≤ b.size ∧ b.size ≤ 255 by omega)]
  simp only [Option.bind_some, List.length_append, List.length_cons, List.length_nil, bytesOf_length]
  rw [if_pos (by omega), if_pos (by omega), if_pos (by omega), show (a.size : Int) % 256 = a.size by omega, show (b.size : Int) % 256 = b.size by omega]
  simp
theorem print_some (a b : ByteArray) : ∃ r, userpass_Print.f a b = some r ∧ r.1.length ≤ 600 := by
  unfold userpass_Print.f
  by_cases h1 : 1 ≤ a.size ∧ a.size ≤ 255
  · rw [if_pos h1]
    by_cases h2 : 1 ≤ b.size ∧ b.size ≤ 255
    · rw [if_pos h2]
      refine ⟨_, rfl, ?_⟩
      simp only [List.length_append, bytesOf_length, List.length_cons, List.length_nil]
      omega
    · rw [if_neg h2]; exact ⟨_, rfl, by simp⟩
  · rw [if_neg h1]; exact ⟨_, rfl, by simp⟩
theorem l2_loop (a b : ByteArray) (c : Bool) (x7 : List Int) (x8 x9 : Int) (R : Option Bool) (K : Nat) (hR : ∀ k, K ≤ k → postilionlaw13_UserpassPrints.l0 k a b c x7 x8 (wrap64 (x9 + 1)) = R) (d : Nat) : ∀ (k i : Nat) (x : List Int), x.length ≤ 1000 → x.length - i = d → d + K < k → i ≤ x.length → postilionlaw13_UserpassPrints.l2 k a b c x7 x8 x9 x (i : Int) = R := by
  induction d with
  | zero =>
    intro k i x hx hd hk hi
    obtain ⟨k, rfl⟩ : ∃ q, k = q + 1 := ⟨k - 1, by omega⟩
    simp only [postilionlaw13_UserpassPrints.l2]
    rw [if_neg (by omega)]
    exact hR k (by omega)
  | succ d ih =>
    intro k i x hx hd hk hi
    obtain ⟨k, rfl⟩ : ∃ q, k = q + 1 := ⟨k - 1, by omega⟩
    simp only [postilionlaw13_UserpassPrints.l2]
    rw [if_pos (by omega), if_pos (by omega), show wrap64 ((i : Int) + 1) = ((i + 1 : Nat) : Int) from by rw [wrap_in (by omega) (by omega)]; omega]
    exact ih k (i + 1) _ (by rw [List.length_set]; omega) (by rw [List.length_set]; omega) (by omega) (by rw [List.length_set]; omega)
theorem l1_loop (a b : ByteArray) (c : Bool) (x7 : List Int) (x8 x9 : Int) (y : List Int) (hy : y.length ≤ 1000) (R : Option Bool) (K : Nat) (hR : ∀ k, K ≤ k → postilionlaw13_UserpassPrints.l0 k a b c x7 x8 (wrap64 (x9 + 1)) = R) (d : Nat) : ∀ (k i : Nat) (x : List Int), x.length ≤ 1000 → x.length - i = d → d + 1100 + K < k → i ≤ x.length → postilionlaw13_UserpassPrints.l1 k a b c x7 x8 x9 x y (i : Int) = R := by
  induction d with
  | zero =>
    intro k i x hx hd hk hi
    obtain ⟨k, rfl⟩ : ∃ q, k = q + 1 := ⟨k - 1, by omega⟩
    simp only [postilionlaw13_UserpassPrints.l1]
    rw [if_neg (by omega)]
    have := l2_loop a b c x7 x8 x9 R K hR y.length k 0 y hy (by omega) (by omega) (by omega)
    rw [Int.natCast_zero] at this
    exact this
  | succ d ih =>
    intro k i x hx hd hk hi
    obtain ⟨k, rfl⟩ : ∃ q, k = q + 1 := ⟨k - 1, by omega⟩
    simp only [postilionlaw13_UserpassPrints.l1]
    rw [if_pos (by omega), if_pos (by omega), show wrap64 ((i : Int) + 1) = ((i + 1 : Nat) : Int) from by rw [wrap_in (by omega) (by omega)]; omega]
    exact ih k (i + 1) _ (by rw [List.length_set]; omega) (by rw [List.length_set]; omega) (by omega) (by rw [List.length_set]; omega)
theorem l0_turn (a b : ByteArray) (c : Bool) (r : List Int × Int) (hr : userpass_Print.f a b = some r) (hl : r.1.length ≤ 600) (x9 : Int) (h9 : x9 < 2) (R : Option Bool) (K : Nat) (hR : ∀ k, K ≤ k → postilionlaw13_UserpassPrints.l0 k a b c r.1 r.2 (wrap64 (x9 + 1)) = R) (k : Nat) (hk : K + 3000 ≤ k) : postilionlaw13_UserpassPrints.l0 k a b c r.1 r.2 x9 = R := by
  obtain ⟨k, rfl⟩ : ∃ q, k = q + 2 := ⟨k - 2, by omega⟩
  have ha : postilionref13_Answer.f c = userpass_Answer.f c := rfl
  obtain ⟨t, ht, htl⟩ : ∃ t, userpass_Answer.f c = some t ∧ t.length = 2 := by
    unfold userpass_Answer.f
    cases c
    · exact ⟨_, rfl, rfl⟩
    · exact ⟨_, rfl, rfl⟩
  simp only [postilionlaw13_UserpassPrints.l0]
  rw [if_pos h9, hr, ha, ht]
  simp only [Option.bind_some, if_true, bne_self_eq_false]
  simp only [postilionlaw13_UserpassPrints.j2]
  rw [if_neg (by simp)]
  have := l1_loop a b c r.1 r.2 x9 t (by omega) R K hR r.1.length k 0 r.1 (by omega) (by omega) (by omega) (by omega)
  rw [Int.natCast_zero] at this
  exact this
theorem UserpassPrints : postilionlaw13_UserpassPrints.Pure := by
  intro a b c ha hb
  refine ⟨10000, ?_⟩
  have done : postilionlaw13_UserpassPrints.j0 10000 a b c true = some true := by
    rw [show (10000 : Nat) = 9999 + 1 from rfl]
    simp only [postilionlaw13_UserpassPrints.j0]
    rw [if_pos trivial]
  unfold postilionlaw13_UserpassPrints.f
  by_cases c1 : (a.size : Int) > 1000
  · rw [if_pos c1, done]
  rw [if_neg c1]
  by_cases c2 : (b.size : Int) > 1000
  · rw [decide_eq_true c2, done]
  rw [decide_eq_false c2, show (10000 : Nat) = 9999 + 1 from rfl]
  simp only [postilionlaw13_UserpassPrints.j0]
  obtain ⟨r, hr, hl⟩ := print_some a b
  rw [if_neg (by simp), print_eq a b ha hb, hr, Option.bind_some]
  refine l0_turn a b c r hr hl 0 (by omega) _ 4000 (fun k hk => ?_) 9999 (by omega)
  refine l0_turn a b c r hr hl _ (by unfold wrap64; omega) _ 10 (fun k hk => ?_) k (by omega)
  obtain ⟨k, rfl⟩ : ∃ q, k = q + 1 := ⟨k - 1, by omega⟩
  simp only [postilionlaw13_UserpassPrints.l0]
  rw [if_neg (by unfold wrap64; omega)]
end Go.Proofs.Ytlhjninbkngamaa.Pure
