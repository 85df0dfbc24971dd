import Derived.Test.YtnajlpmpofljhaaSLpairs
namespace Go.Proofs.Ytnajlpmpofljhaa.P
open Go.RowKit Go.Proofs.YtnajlpmpofljhaaW.PrintWords Go.Proofs.YtnajlpmpofljhaaW.PrintLast Go.Proofs.YtnajlpmpofljhaaW.PrintMore
set_option linter.unusedVariables false
set_option linter.unusedSimpArgs false
set_option linter.unnecessarySimpa false
attribute [local go_sem] max2_int min2_int max_two min_two max_three min_three max_four min_four
/-! ### rows of numbers, and whether two are the same -/
theorem own1_form {W : World} {base : Nat} {e : TypeId} {v : Value} {xs : List Int} (h : W.ownsRow base e 1 v xs.length (nums .i64 xs)) : (v = .slice none 0 0 ∧ xs = []) ∨ ∃ g cap cur, v = .slice (some ⟨g, 0, none⟩) xs.length cap ∧ base ≤ g ∧ W.heap[g]? = some (.cells cur e (0, 0)) ∧ xs.length ≤ cap ∧ cap ≤ maxLen ∧ cur.size = cap ∧ cur.toList.take xs.length = nums .i64 xs ∧ ∀ j, j < xs.length → W.cell? ⟨g, j, none⟩ = some (.int .i64 (xs.getD j 0)) := by
  obtain ⟨hlen, hrest⟩ := h
  rcases hrest with ⟨rfl, h0⟩ | ⟨g, cap, cur, rfl, hg, hh, hnc, hcm, hsz, htk⟩
  · exact .inl ⟨rfl, List.eq_nil_of_length_eq_zero h0⟩
  · rw [Nat.mul_one] at hsz htk
    refine .inr ⟨g, cap, cur, rfl, hg, hh, hnc, hcm, hsz, htk, fun j hj => ?_⟩
    have h1 : (nums .i64 xs)[j]? = some (.int .i64 (xs.getD j 0)) := by
      unfold nums
      rw [List.getElem?_map, List.getElem?_eq_getElem hj, List.getD_eq_getElem?_getD, List.getElem?_eq_getElem hj]
      rfl
    rw [← htk, List.getElem?_take_of_lt hj] at h1
    rw [blk_cell hh]
    simpa using h1
theorem own1_mk {W : World} {g base n cap : Nat} {e : TypeId} {cur : Array Value} {ys : List Int} (h : W.heap[g]? = some (.cells cur e (0, 0))) (hb : base ≤ g) (hy : ys.length = n) (hn : n ≤ cap) (hm : cap ≤ maxLen) (hs : cur.size = cap) (ht : cur.toList.take n = nums .i64 ys) : W.ownsRow base e 1 (.slice (some ⟨g, 0, none⟩) n cap) ys.length (nums .i64 ys) := by
  subst hy
  exact ⟨by unfold nums; simp, .inr ⟨g, cap, cur, rfl, hb, h, hn, hm, by rw [Nat.mul_one]; exact hs, by rw [Nat.mul_one]; exact ht⟩⟩
theorem own1_set {W : World} {base : Nat} {e : TypeId} {g cap : Nat} {xs : List Int} (h : W.ownsRow base e 1 (.slice (some ⟨g, 0, none⟩) xs.length cap) xs.length (nums .i64 xs)) (i : Nat) (v : Int) : (W.setCell ⟨g, i, none⟩ (.int .i64 v)).ownsRow base e 1 (.slice (some ⟨g, 0, none⟩) xs.length cap) (xs.set i v).length (nums .i64 (xs.set i v)) := by
  rcases own1_form h with ⟨hv, _⟩ | ⟨g2, cap2, cur, hv, hg, hh, hnc, hcm, hsz, htk, _⟩
  · cases hv
  · cases hv
    refine own1_mk (blk_set hh _ _) hg (by simp) hnc hcm (by simpa using hsz) ?_
    have e : nums .i64 (xs.set i v) = (nums .i64 xs).set i (.int .i64 v) := by
      unfold nums
      rw [List.map_set]
    rw [e, ← htk]
    simp [List.take_set]
set_option maxHeartbeats 1000000 in
theorem ints_same {b0 b1 c0 c1 : Nat} {e0 e1 : TypeId} {A0 A1 : Option Addr} {xs : List Int} {W : World} (h0 : W.ownsRow b0 e0 1 (.slice A0 xs.length c0) xs.length (nums .i64 xs)) (h1 : W.ownsRow b1 e1 1 (.slice A1 xs.length c1) xs.length (nums .i64 xs)) (hl : xs.length ≤ 1000) :
    Calls Try.prog 20 #[.slice A0 xs.length c0, .slice A1 xs.length c1] W fun e W' => e = .returned (.bool true) ∧ ∃ n, W' = W.drewN n := by
  have H0 := Aside0.mk h0
  have H1 := Aside0.mk h1
  have hq : ((xs.length : Int) != (xs.length : Int)) = false := by simp
  clear h0 h1
  go_enter Try.func20, Try.ntmps20
  go_wp2_with fail
  go_loopw [5] (fun i wr => ∃ k nd : Nat, k ≤ xs.length ∧ i = .int .i64 (k : Int) ∧ wr = W.drewN nd) (fun i _ => xs.length - (intOf i).toNat)
  case atStart => exact ⟨0, 0, Nat.zero_le _, rfl, rfl⟩
  case round =>
    obtain ⟨k, nd, hk, rfl, rfl⟩ := hrel
    by_cases hlt : k < xs.length
    · have p1 : decide ((k : Int) < (xs.length : Int)) = true := decide_eq_true (by omega)
      rcases own1_form H0.out with ⟨_, rfl⟩ | ⟨g0, q0, cur0, ev0, _, _, _, _, _, _, hc0⟩
      · exact absurd hlt (Nat.not_lt_zero _)
      rcases own1_form H1.out with ⟨_, rfl⟩ | ⟨g1, q1, cur1, ev1, _, _, _, _, _, _, hc1⟩
      · exact absurd hlt (Nat.not_lt_zero _)
      obtain rfl : A0 = some ⟨g0, 0, none⟩ := (Value.slice.inj ev0).1
      obtain rfl : A1 = some ⟨g1, 0, none⟩ := (Value.slice.inj ev1).1
      have d0 := hc0 k hlt
      have d1 := hc1 k hlt
      clear hc0 hc1 ev0 ev1
      generalize xs.getD k 0 = x at d0 d1
      have hx : (x != x) = false := by simp
      have i1 : (0 : Int) ≤ (k : Int) := by omega
      have i2 : (k : Int) < (xs.length : Int) := by omega
      go_wp2_with fail
      go_region
      go_wp2_with fail
      exact ⟨⟨k + 1, nd + 1, by omega, by simp, rfl⟩, by simp [intOf]; omega⟩
    · have p1 : decide ((k : Int) < (xs.length : Int)) = false := decide_eq_false (by omega)
      go_wp2_with fail
      go_ret
      exact ⟨rfl, nd, rfl⟩
end Go.Proofs.Ytnajlpmpofljhaa.P
