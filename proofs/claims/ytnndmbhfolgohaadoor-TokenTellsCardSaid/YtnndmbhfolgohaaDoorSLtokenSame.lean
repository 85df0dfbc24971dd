import Derived.Test.YtnndmbhfolgohaaDoorSLtokenPrint
namespace Go.Proofs.YtnndmbhfolgohaaDoor.P
open Go.RowKit Go.Proofs.YtnndmbhfolgohaaDoorW.PrintWords Go.Proofs.YtnndmbhfolgohaaDoorW.PrintLast Go.Proofs.YtnndmbhfolgohaaDoorW.PrintMore
set_option linter.unusedVariables false
set_option linter.unusedSimpArgs false
set_option linter.unnecessarySimpa false
attribute [local go_sem] max2_int min2_int max_two min_two max_three min_three max_four min_four
set_option linter.unusedVariables false
set_option linter.unusedSimpArgs false
set_option linter.unnecessarySimpa false
/-! ### rows of texts; whether two are the same -/
theorem strs_reads {W : World} {base : Nat} {v : Value} {l : List ByteArray} (h : W.ownsRow base 9 1 v l.length (strs l)) (hl : l.length ≤ 1000) : ∃ A q, v = .slice A l.length q ∧ l.length ≤ q ∧ Kd.C Kd.string W A l.length l := by
  obtain ⟨hlen, hrest⟩ := h
  rcases hrest with ⟨rfl, h0⟩ | ⟨g, cap, cur, rfl, hg, hh, hnc, hcm, hsz, htk⟩
  · obtain rfl : l = [] := List.eq_nil_of_length_eq_zero h0
    exact ⟨none, 0, rfl, Nat.le_refl _, Kd.C_nil _ _⟩
  · rw [Nat.mul_one] at hsz htk
    refine ⟨_, cap, rfl, hnc, Kd.C_of_reads (d := ByteArray.empty) (h1 := fun _ => rfl) ⟨rfl, by omega, fun _ => ⟨⟨g, 0, none⟩, rfl, fun j hj => ?_⟩⟩⟩
    have h1 : (strs l)[j]? = some (.string (l.getD j ByteArray.empty)) := by
      unfold strs
      rw [List.getElem?_map, List.getElem?_eq_getElem hj, List.getD_eq_getElem?_getD, List.getElem?_eq_getElem hj]
      rfl
    rw [← htk, List.getElem?_take_of_lt hj] at h1
    rw [Addr.add_lit, Nat.zero_add, Lib.cell_of_heap hh]
    simpa using h1
theorem strs_lit (W : World) (l : List ByteArray) (hm : l.length ≤ 1000) : Kd.C Kd.string (W.alloc (.cells (l.map Value.string).toArray 9)) (some ⟨W.heap.size, 0, none⟩) l.length l :=
  Kd.C_of_reads (d := ByteArray.empty) (h1 := fun _ => rfl) ⟨rfl, by omega, fun _ => ⟨⟨W.heap.size, 0, none⟩, rfl, fun j hj => by
    rw [Addr.add_lit, Nat.zero_add, World.cell?_alloc_new]
    simp [List.getD_eq_getElem?_getD, List.getElem?_eq_getElem hj]⟩⟩
set_option maxHeartbeats 1000000 in
theorem tk_Same {A B : Option Addr} {p q : Nat} (l : List ByteArray) (W : World) (hA : Kd.C Kd.string W A l.length l) (hB : Kd.C Kd.string W B l.length l) (hl : l.length ≤ 1000) :
    Calls Tryd.prog 11 #[.slice A l.length p, .slice B l.length q] W fun e W' => e = .returned (.bool true) ∧ ∃ n, W' = W.drewN n := by
  have H0 := Aside0.mk hA
  have H1 := Aside0.mk hB
  have hq : ((l.length : Int) != (l.length : Int)) = false := by simp
  clear hA hB
  go_enter Tryd.func11, Tryd.ntmps11
  go_wp2_with fail
  go_loopw [5] (fun i wr => ∃ k nd : Nat, k ≤ l.length ∧ i = .int .i64 (k : Int) ∧ wr = W.drewN nd) (fun i _ => l.length - (intOf i).toNat)
  case atStart => exact ⟨0, 0, Nat.zero_le _, rfl, rfl⟩
  case round =>
    obtain ⟨k, nd, hk, rfl, rfl⟩ := hrel
    by_cases hlt : k < l.length
    · have p1 : decide ((k : Int) < (l.length : Int)) = true := decide_eq_true (by omega)
      obtain ⟨a0, e0, d0⟩ := Kd.at_string H0.out (k : Int) (by omega) (by omega)
      obtain ⟨a1, e1, d1⟩ := Kd.at_string H1.out (k : Int) (by omega) (by omega)
      subst e0
      subst e1
      rw [Int.toNat_natCast] at d0 d1
      generalize rdOf ByteArray.empty l (k : Int) = x at d0 d1
      have hx : (x.toList != x.toList) = false := by simp
      have i1 : (0 : Int) ≤ (k : Int) := by omega
      have i2 : (k : Int) < (l.length : Int) := by omega
      go_wp2_with fail
      go_region
      go_wp2_with fail
      exact ⟨⟨k + 1, nd + 1, by omega, by simp, rfl⟩, by simp [intOf]; omega⟩
    · have p1 : decide ((k : Int) < (l.length : Int)) = false := decide_eq_false (by omega)
      go_wp2_with fail
      go_ret
      exact ⟨rfl, nd, rfl⟩
end Go.Proofs.YtnndmbhfolgohaaDoor.P
