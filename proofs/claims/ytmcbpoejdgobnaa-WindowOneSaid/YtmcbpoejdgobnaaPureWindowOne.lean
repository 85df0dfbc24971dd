/- The statement WindowOne (postilionlaw08): one number for one row of outcomes, and 8 outcomes forget all that was before; for every window and every two rows of outcomes; no condition. -/
import Derived.Test.YtmcbpoejdgobnaaPx14
import Derived.Test.YtmcbpoejdgobnaaPx12
import Derived.Test.YtmcbpoejdgobnaaWindowLem2
namespace Go.Proofs.Ytmcbpoejdgobnaa.Pure
open Go.RowKit Go.Proofs.Ytmcbpoejdgobnaa.P Go.Proofs.YtmcbpoejdgobnaaW.PrintWords Go.Proofs.YtmcbpoejdgobnaaW.PrintLast

theorem last8_long (l m : List Bool) (h : 8 ≤ m.length) : last8 (l ++ m) = last8 m := by
  unfold last8
  rw [List.drop_append, List.length_append, List.drop_of_length_le (by omega), List.nil_append]
  congr 1
  omega
theorem added_more (l : List Bool) (k : Nat) (hk : 20 ≤ k) (z : Int) (h : postilionlaw08_added.f 20 0 l = some z) : postilionlaw08_added.f k 0 l = some z := by
  have : ∀ d, postilionlaw08_added.f (20 + d) 0 l = some z := by
    intro d
    induction d with
    | zero => exact h
    | succ d ih => exact postilionlaw08_added.mono _ _ _ _ ih
  have := this (k - 20)
  rwa [show 20 + (k - 20) = k by omega] at this
theorem one_j1 (x : Int) (a b : List Bool) (ha : a.length ≤ 300) (hb : b.length ≤ 300) (h0 : 0 ≤ x) (h1 : x ≤ 65535) (k : Nat) (hk : 400 ≤ k) : postilionlaw08_WindowOne.j1 k a b x false = some true := by
  obtain ⟨k, rfl⟩ : ∃ q, k = q + 1 := ⟨k - 1, by omega⟩
  simp only [postilionlaw08_WindowOne.j1]
  rw [if_neg (by simp)]
  by_cases h8 : (b.length : Int) < 8
  · rw [if_pos h8]
  · rw [if_neg h8]
    obtain ⟨y, hy, y0, y1, y2, -, -⟩ := added_of a (by omega) x h0 h1 k (by omega)
    obtain ⟨z, hz, z0, z1, z2, z3, -⟩ := added_of b (by omega) y y0 y1 k (by omega)
    obtain ⟨u, hu, u0, u1, u2, u3, -⟩ := added_of b (by omega) 0 (by omega) (by omega) k (by omega)
    rw [hy, Option.bind_some, hz, Option.bind_some, hu, Option.bind_some]
    have : z = u := one_number (z3 (by omega)) (u3 (by omega)) (by rw [z2, u2, last8_long _ _ (by omega), last8_long _ _ (by omega)])
    rw [this]
    simp
theorem WindowOne : postilionlaw08_WindowOne.Pure := by
  intro x a b w _ _ _ _
  simp only [Lit.wf, Bool.and_eq_true, decide_eq_true_eq] at w
  have h0 : 0 ≤ x := w.1
  have h1 : x ≤ 65535 := w.2
  refine ⟨500, ?_⟩
  unfold postilionlaw08_WindowOne.f
  rw [show postilionlaw08_awake.f 500 = some true from by decide +kernel, Option.bind_some, if_pos rfl]
  have done : postilionlaw08_WindowOne.j0 500 x a b true = some true := by
    rw [show (500 : Nat) = 499 + 1 from rfl]
    simp only [postilionlaw08_WindowOne.j0]
    rw [if_pos trivial]
  by_cases ha : (a.length : Int) > 300
  · rw [if_pos ha, done]
  · rw [if_neg ha]
    by_cases hb : (b.length : Int) > 300
    · rw [decide_eq_true hb, done]
    · rw [decide_eq_false hb, show (500 : Nat) = 499 + 1 from rfl]
      simp only [postilionlaw08_WindowOne.j0]
      rw [if_neg (by simp)]
      rcases may_some x h0 h1 with h | h
      · obtain ⟨hh, hr⟩ := may_holds x h0 h1 h
        rw [h, Option.bind_some, if_pos rfl, hh.2.1, Option.bind_some, added_more _ 499 (by omega) _ hr, Option.bind_some, bne_self_eq_false]
        exact one_j1 x a b (by omega) (by omega) h0 h1 499 (by omega)
      · rw [h, Option.bind_some, if_neg (by simp)]
        exact one_j1 x a b (by omega) (by omega) h0 h1 499 (by omega)
end Go.Proofs.Ytmcbpoejdgobnaa.Pure
