import Derived.Test.YtbdodjedigegdaaDoorSLheadApp
namespace Go.Proofs.YtbdodjedigegdaaDoor.P
open Go.RowKit Go.Proofs.YtbdodjedigegdaaDoorW.PrintWords Go.Proofs.YtbdodjedigegdaaDoorW.PrintLast Go.Proofs.YtbdodjedigegdaaDoorW.PrintMore
set_option linter.unusedVariables false
set_option linter.unusedSimpArgs false
set_option linter.unnecessarySimpa false
attribute [local go_sem] max2_int min2_int max_two min_two max_three min_three max_four min_four
set_option linter.unusedVariables false
set_option linter.unusedSimpArgs false
set_option linter.unnecessarySimpa false
/-! ### slices.Equal at rows of pairs; head.Same -/
/-- A row of pairs is read. -/
def RdP (W : World) (A : Option Addr) (l : List (ByteArray × ByteArray)) : Prop := l = [] ∨ ∃ b off, A = some ⟨b, off, none⟩ ∧ ∀ j, j < l.length → W.cell? ⟨b, off + j * 2, none⟩ = some (.string (l.getD j (⟨#[]⟩, ⟨#[]⟩)).1) ∧ W.cell? ⟨b, off + j * 2 + 1, none⟩ = some (.string (l.getD j (⟨#[]⟩, ⟨#[]⟩)).2)
theorem cell_lt {W : World} {p : Addr} {v : Value} (h : W.cell? p = some v) : p.block < W.heap.size := by
  rcases Nat.lt_or_ge p.block W.heap.size with h' | h'
  · exact h'
  · simp [World.cell?, Array.getElem?_eq_none h'] at h
theorem RdP.below {W W' : World} {A : Option Addr} {l : List (ByteArray × ByteArray)} (h : RdP W A l) (hb : Below W.heap.size W W') : RdP W' A l := by
  rcases h with h | ⟨b, off, e, hc⟩
  · exact .inl h
  · refine .inr ⟨b, off, e, fun j hj => ?_⟩
    obtain ⟨h1, h2⟩ := hc j hj
    exact ⟨(hb.cell (cell_lt h1)).trans h1, (hb.cell (cell_lt h2)).trans h2⟩
theorem rdp_own {W : World} {base : Nat} {e : TypeId} {A : Option Addr} {n c : Nat} {l : List (ByteArray × ByteArray)} (h : W.ownsRow base e 2 (.slice A n c) l.length (spr l)) : n = l.length ∧ RdP W A l := by
  rcases spr_form h with ⟨hv, rfl⟩ | ⟨g, cap, cur, hv, hg, hh, hnc, hcm, hsz, htk, hc⟩
  · cases hv
    exact ⟨rfl, .inl rfl⟩
  · cases hv
    refine ⟨rfl, .inr ⟨g, 0, rfl, fun j hj => ?_⟩⟩
    rw [Nat.zero_add]
    exact hc j hj
theorem ba_ext {a b : ByteArray} (h : a.toList = b.toList) : a = b := by
  rw [ByteArray.toList_eq, ByteArray.toList_eq] at h
  cases a
  cases b
  exact congrArg _ (Array.toList_inj.1 h)
theorem pair_ne {p q : ByteArray × ByteArray} (h : p ≠ q) : (p.1.toList == q.1.toList && p.2.toList == q.2.toList) = false := by
  cases h1 : p.1.toList == q.1.toList with
  | false => rfl
  | true =>
    cases h2 : p.2.toList == q.2.toList with
    | false => rfl
    | true => exact absurd (Prod.ext (ba_ext (beq_iff_eq.1 h1)) (ba_ext (beq_iff_eq.1 h2))) h
set_option maxHeartbeats 8000000 in
theorem hd_Equal (l m : List (ByteArray × ByteArray)) (A B : Option Addr) (c d : Nat) (W : World) (hl : l.length ≤ 1000000) (hA : RdP W A l) (hB : RdP W B m) :
    Calls Tryd.prog 30 #[.slice A l.length c, .slice B m.length d] W fun e W' => e = .returned (.bool (decide (l = m))) ∧ Below W.heap.size W W' := by
  by_cases hlen : l.length = m.length
  case neg =>
    have e : decide (l = m) = false := decide_eq_false (fun h => hlen (by rw [h]))
    have p1 : ((l.length : Int) != (m.length : Int)) = true := by rw [bne_iff_ne]; omega
    rw [e]
    clear hA hB
    go_enter Tryd.func30, Tryd.ntmps30
    go_wp2
    go_ret
    exact ⟨rfl, Below.refl _ _⟩
  have EQ := fun (a b c e : ByteArray) (w : World) => run_eq2 9998 a b c e w
  have p1 : ((l.length : Int) != (m.length : Int)) = false := by rw [bne_eq_false_iff_eq]; omega
  obtain ⟨R, hR⟩ : ∃ R, R = decide (l = m) := ⟨_, rfl⟩
  rw [← hR]
  have HR := Aside0.mk hR
  have HL := Aside0.mk hlen
  clear hR
  rw [← hlen]
  have p2 : ((l.length : Int) != (l.length : Int)) = false := by rw [bne_eq_false_iff_eq]
  clear p1 hlen
  go_enter Tryd.func30, Tryd.ntmps30
  go_wp2
  go_loopw [13] (fun v wr => ∃ i : Nat, v = .int .i64 (i : Int) ∧ i ≤ l.length ∧ Aside0 (Below W.heap.size W wr) ∧ Aside0 (∀ j, j < i → l.getD j (⟨#[]⟩, ⟨#[]⟩) = m.getD j (⟨#[]⟩, ⟨#[]⟩))) (fun v _ => l.length - (intOf v).toNat)
  case atStart => exact ⟨0, rfl, Nat.zero_le _, ⟨Below.refl _ _⟩, ⟨fun j hj => absurd hj (Nat.not_lt_zero _)⟩⟩
  case round =>
    obtain ⟨i, rfl, hi, HB, HJ⟩ := hrel
    by_cases hlt : i < l.length
    · have p3 : decide ((i : Int) < (l.length : Int)) = true := decide_eq_true (by omega)
      have hd := HB.out.drew
      rcases hA.below hd with h0 | ⟨b, off, rfl, hc⟩
      · rw [h0] at hlt
        exact absurd hlt (Nat.not_lt_zero _)
      rcases hB.below hd with h0 | ⟨b2, off2, rfl, hc2⟩
      · have := HL.out
        rw [h0] at this
        exact absurd (this ▸ hlt) (Nat.not_lt_zero _)
      obtain ⟨q1, q2⟩ := hc i hlt
      obtain ⟨q3, q4⟩ := hc2 i (by have := HL.out; omega)
      clear hc hc2 hA hB
      have HJ2 := Aside0.mk (fun (h : l.getD i (⟨#[]⟩, ⟨#[]⟩) = m.getD i (⟨#[]⟩, ⟨#[]⟩)) => show ∀ j, j < i + 1 → l.getD j (⟨#[]⟩, ⟨#[]⟩) = m.getD j (⟨#[]⟩, ⟨#[]⟩) from fun j hj => by
        rcases Nat.lt_or_ge j i with h2 | h2
        · exact HJ.out j h2
        · obtain rfl : j = i := by omega
          exact h)
      by_cases hq : l.getD i (⟨#[]⟩, ⟨#[]⟩) = m.getD i (⟨#[]⟩, ⟨#[]⟩)
      · have HJ3 := Aside0.mk (HJ2.out hq)
        rw [← hq] at q3 q4
        have p4 : ((l.getD i (⟨#[]⟩, ⟨#[]⟩)).1.toList == (l.getD i (⟨#[]⟩, ⟨#[]⟩)).1.toList && (l.getD i (⟨#[]⟩, ⟨#[]⟩)).2.toList == (l.getD i (⟨#[]⟩, ⟨#[]⟩)).2.toList) = true := by simp
        clear HJ HJ2 hq
        generalize (l.getD i (⟨#[]⟩, ⟨#[]⟩)).1 = x at *
        generalize (l.getD i (⟨#[]⟩, ⟨#[]⟩)).2 = y at *
        go_wp2
        go_region
        go_wp2
        go_roundw
        case rel => exact ⟨i + 1, by go_num, by omega, ⟨hd⟩, HJ3⟩
        case measure => simp only [intOf]; omega
      · have p4 := pair_ne hq
        have HE := Aside0.mk (show R = false by
          rw [HR.out]
          exact decide_eq_false (fun h => hq (by rw [h])))
        clear HJ HJ2 hq
        generalize (l.getD i (⟨#[]⟩, ⟨#[]⟩)).1 = x at *
        generalize (l.getD i (⟨#[]⟩, ⟨#[]⟩)).2 = y at *
        generalize (m.getD i (⟨#[]⟩, ⟨#[]⟩)).1 = x2 at *
        generalize (m.getD i (⟨#[]⟩, ⟨#[]⟩)).2 = y2 at *
        go_wp2
        go_region
        go_wp2
        go_ret
        exact ⟨by rw [HE.out]; rfl, hd⟩
    · have p3 : decide ((i : Int) < (l.length : Int)) = false := decide_eq_false (by omega)
      have HE := Aside0.mk (show R = true by
        rw [HR.out]
        refine decide_eq_true (List.ext_getElem HL.out fun j h1 h2 => ?_)
        have := HJ.out j (by omega)
        rw [List.getD_eq_getElem?_getD, List.getD_eq_getElem?_getD, List.getElem?_eq_getElem h1, List.getElem?_eq_getElem h2] at this
        exact this)
      clear HJ
      go_wp2
      go_ret
      exact ⟨by rw [HE.out]; rfl, HB.out⟩
set_option maxHeartbeats 4000000 in
theorem hd_Same (s t : ByteArray) (l m : List (ByteArray × ByteArray)) (A B : Option Addr) (c d : Nat) (W : World) (hl : l.length ≤ 1000000) (hA : RdP W A l) (hB : RdP W B m) :
    Calls Tryd.prog 15 #[.agg #[.string s, .slice A l.length c], .agg #[.string t, .slice B m.length d]] W fun e W' => e = .returned (.bool (s.toList == t.toList && decide (l = m))) ∧ Below W.heap.size W W' := by
  have EQ := fun W1 (hb : Below W.heap.size W W1) => hd_Equal l m A B c d W1 hl (hA.below hb) (hB.below hb)
  have bA := (Below.refl _ W).alloc (Nat.le_refl _) (.cells #[.string s, .slice A l.length c] 24)
  have bB := bA.alloc bA.size (.cells #[.string t, .slice B m.length d] 24)
  clear hA hB
  generalize decide (l = m) = D at *
  cases hs : s.toList == t.toList with
  | true =>
    go_enter Tryd.func15, Tryd.ntmps15
    go_wp2_with (go_at_call 30; (with_reducible refine (EQ _ bB).mono ?_); rintro e w1 ⟨rfl, b1⟩)
    go_ret
    exact ⟨by simp, below_then bB bB.size b1⟩
  | false =>
    go_enter Tryd.func15, Tryd.ntmps15
    go_wp2_with fail
    go_ret
    exact ⟨by simp, bB⟩
end Go.Proofs.YtbdodjedigegdaaDoor.P
