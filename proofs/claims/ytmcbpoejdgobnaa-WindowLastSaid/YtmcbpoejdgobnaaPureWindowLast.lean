/- The statement WindowLast (postilionlaw08): of whatever was added, the last 8 are kept, the oldest first; for every row of outcomes; no condition. -/
import Derived.Test.YtmcbpoejdgobnaaPx13
import Derived.Test.YtmcbpoejdgobnaaPx12
import Derived.Test.YtmcbpoejdgobnaaWindowLem2
namespace Go.Proofs.Ytmcbpoejdgobnaa.Pure
open Go.RowKit Go.Proofs.Ytmcbpoejdgobnaa.P Go.Proofs.YtmcbpoejdgobnaaW.PrintWords Go.Proofs.YtmcbpoejdgobnaaW.PrintLast

theorem rd_at (l : List Bool) (i : Nat) (h : i < l.length) : rdOf false l (i : Int) = l[i] := by
  unfold rdOf
  rw [List.getD_eq_getElem?_getD, Int.toNat_natCast, List.getElem?_eq_getElem h]
  rfl
theorem last_loop (l : List Bool) (hl : l.length ≤ 300) (y : Int) (b : Nat) (hb : b = l.length - 8) (hB : window_Window_Bad.f y = some (((l.drop b).filter fun c => !c).length : Int)) (d : Nat) :
    ∀ (k i c : Nat), (l.length : Int) - i = d → d < k → b ≤ i → i ≤ l.length → c + ((l.drop i).filter fun c => !c).length = ((l.drop b).filter fun c => !c).length →
    postilionlaw08_WindowLast.l0 k l y (b : Int) (l.drop b) (c : Int) (i : Int) = some true := by
  induction d with
  | zero =>
    intro k i c hd hk hbi hi hc
    obtain ⟨k, rfl⟩ : ∃ q, k = q + 1 := ⟨k - 1, by omega⟩
    simp only [postilionlaw08_WindowLast.l0]
    rw [if_neg (by omega), hB, Option.bind_some]
    rw [List.drop_of_length_le (show l.length ≤ i by omega)] at hc
    simp only [List.filter_nil, List.length_nil, Nat.add_zero] at hc
    rw [hc]
    simp
  | succ d ih =>
    intro k i c hd hk hbi hi hc
    obtain ⟨k, rfl⟩ : ∃ q, k = q + 1 := ⟨k - 1, by omega⟩
    have hil : i < l.length := by omega
    simp only [postilionlaw08_WindowLast.l0]
    have hdl : (l.drop b).length = l.length - b := List.length_drop
    have hy : i - b < (l.drop b).length := by rw [hdl]; exact Nat.sub_lt_sub_right hbi hil
    have r1 : rdOf false (l.drop b) ((i - b : Nat) : Int) = l[i] := by
      rw [rd_at (l.drop b) (i - b) hy, List.getElem_drop]
      simp only [Nat.add_sub_of_le hbi]
    have hb8 : (l.drop b).length ≤ 8 := by omega
    have hcl : ((l.drop b).filter fun c => !c).length ≤ 8 := Nat.le_trans (List.length_filter_le _ _) hb8
    have hc9 : c ≤ 8 := Nat.le_trans (Nat.le_trans (Nat.le_add_right _ _) (Nat.le_of_eq hc)) hcl
    clear hcl
    have p1 : (i : Int) < l.length := Int.ofNat_lt.mpr hil
    have p2 : (0 : Int) ≤ ((i - b : Nat) : Int) := Int.natCast_nonneg _
    have p3 : ((i - b : Nat) : Int) < ((l.drop b).length : Int) := Int.ofNat_lt.mpr hy
    have p4 : (0 : Int) ≤ (i : Int) := Int.natCast_nonneg _
    have e1 : wrap64 ((i : Int) - b) = ((i - b : Nat) : Int) := by clear hc r1 p3 hy; rw [wrap_id (by omega) (by omega)]; omega
    have e2 : wrap64 ((i : Int) + 1) = ((i + 1 : Nat) : Int) := by clear hc r1 p3 hy e1; rw [wrap_id (by omega) (by omega)]; omega
    have e3 : wrap64 ((c : Int) + 1) = ((c + 1 : Nat) : Int) := by clear hc r1 p3 hy e1 e2; rw [wrap_id (by omega) (by omega)]; omega
    rw [List.drop_eq_getElem_cons hil] at hc
    rw [if_pos p1, e1, if_pos p2, if_pos p3, if_pos p4, r1, rd_at l i hil, bne_self_eq_false, if_neg (by simp), e2, e3]
    clear r1 e1 e2 e3 p1 p2 p3 p4 hy hdl hb8
    cases hv : l[i] with
    | true =>
      rw [if_pos rfl]
      refine ih k (i + 1) c (by omega) (by omega) (by omega) (by omega) ?_
      rw [hv] at hc
      simpa using hc
    | false =>
      rw [if_neg (by simp)]
      refine ih k (i + 1) (c + 1) (by omega) (by omega) (by omega) (by omega) ?_
      rw [hv] at hc
      simp only [List.filter_cons, Bool.not_false, if_true, List.length_cons] at hc
      omega
theorem last_j0 (l : List Bool) (hl : l.length ≤ 300) (y : Int) (b : Nat) (hb : b = l.length - 8) (hy : holds y (l.drop b)) (k : Nat) (hk : 310 ≤ k) : postilionlaw08_WindowLast.j0 k l y (b : Int) = some true := by
  obtain ⟨k, rfl⟩ : ∃ q, k = q + 2 := ⟨k - 2, by omega⟩
  have hdl : (l.drop b).length = l.length - b := List.length_drop
  have e1 : wrap64 ((l.length : Int) - b) = ((l.drop b).length : Int) := by rw [wrap_id (by omega) (by omega)]; omega
  simp only [postilionlaw08_WindowLast.j0]
  rw [hy.2.1, Option.bind_some, hy.1, Option.bind_some, if_pos rfl, hy.2.2.1, Option.bind_some, e1, if_pos rfl, Option.bind_some, bne_self_eq_false]
  simp only [postilionlaw08_WindowLast.j1]
  rw [if_neg (by simp)]
  exact last_loop l hl y b hb hy.2.2.2.1 (l.length - b) k b 0 (by omega) (by omega) (by omega) (by omega) (by simp)
theorem WindowLast : postilionlaw08_WindowLast.Pure := by
  intro l _ _
  refine ⟨500, ?_⟩
  unfold postilionlaw08_WindowLast.f
  rw [show postilionlaw08_awake.f 500 = some true from by decide +kernel, Option.bind_some, if_pos rfl]
  by_cases ha : (l.length : Int) > 300
  · rw [if_pos ha]
  · rw [if_neg ha]
    obtain ⟨y, hy, y0, y1, y2, y3, y4⟩ := added_of l (by omega) 0 (by omega) (by omega) 500 (by omega)
    rw [kept_zero, List.nil_append] at y2
    have hh : holds y (l.drop (l.length - 8)) := by
      have e : l.drop (l.length - 8) = kept y := by rw [y2, last8]
      rw [e]
      by_cases h : 0 < l.length
      · exact y3 h
      · have : l = [] := by simpa using h
        rw [y4 this]
        decide +kernel
    rw [hy, Option.bind_some]
    by_cases h8 : (l.length : Int) > 8
    · rw [if_pos h8]
      have e : wrap64 ((l.length : Int) - 8) = ((l.length - 8 : Nat) : Int) := by rw [wrap_id (by omega) (by omega)]; omega
      rw [e]
      exact last_j0 l (by omega) y _ rfl hh 500 (by omega)
    · rw [if_neg h8]
      have := last_j0 l (by omega) y 0 (by omega) (by rw [show l.length - 8 = 0 by omega] at hh; exact hh) 500 (by omega)
      simpa using this
end Go.Proofs.Ytmcbpoejdgobnaa.Pure
