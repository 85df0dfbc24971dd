/- The statement UserpassOnce (postilionlaw13): behind what was taken, or refused, more bytes change nothing; each beginning of what is taken, but itself, is told ErrMore; what is told ErrMore becomes one with some more bytes; for every two rows of bytes; no condition. -/
import Derived.Test.YtlhjninbkngamaaPx11
import Derived.Test.YtlhjninbkngamaaPx9
import Derived.Test.YtlhjninbkngamaaUserpassLem
namespace Go.Proofs.Ytlhjninbkngamaa.Pure
open Go.RowKit Go.Proofs.Ytlhjninbkngamaa.P Go.Proofs.YtlhjninbkngamaaW.PrintWords Go.Proofs.YtlhjninbkngamaaW.PrintLast

theorem rd_append (l m : List Int) (i : Int) (h0 : 0 ≤ i) (h : i < l.length) : rd (l ++ m) i = rd l i := by
  unfold rd
  rw [List.getD_eq_getElem?_getD, List.getD_eq_getElem?_getD, List.getElem?_append_left (by omega)]
theorem rd_take (l : List Int) (n : Nat) (i : Int) (h0 : 0 ≤ i) (h : i < n) : rd (l.take n) i = rd l i := by
  unfold rd
  rw [List.getD_eq_getElem?_getD, List.getD_eq_getElem?_getD, List.getElem?_take_of_lt (by omega)]
theorem take_mid_append (l m : List Int) (a b : Nat) (h : b ≤ l.length) : ((l ++ m).take b).drop a = (l.take b).drop a := by
  rw [List.take_append_of_le_length h]
/-- Taken, or refused: with more bytes behind, the same. -/
theorem take_more (l m : List Int) (hl : Bytes l) (hm : Bytes m) (h5 : (upTake l).2.2.2 ≠ 5) : upTake (l ++ m) = upTake l := by
  have hlen : (l ++ m).length = l.length + m.length := List.length_append
  have hr1 := rd_bytes hl 1
  have hr2 := rd_bytes hl (2 + rd l 1)
  rcases take_cases l hl with ⟨c, e⟩ | ⟨c, c1, e⟩ | ⟨c1, c, e⟩ | ⟨c, c1, c2, e⟩ | ⟨c, c1, c2, c3, e⟩ | ⟨c1, c2, c3, c4, e⟩ | ⟨c1, c2, c3, c4, c5, e⟩ | ⟨c1, c2, c4, c5, e⟩
  · rw [e] at h5; exact absurd rfl h5
  · have e0 := rd_append l m 0 (by omega) (by omega)
    rcases take_cases (l ++ m) (hl.append hm) with ⟨d, f⟩ | ⟨d, d1, f⟩ | ⟨d1, d, f⟩ | ⟨d, d1, d2, f⟩ | ⟨d, d1, d2, d3, f⟩ | ⟨d1, d2, d3, d4, f⟩ | ⟨d1, d2, d3, d4, d5, f⟩ | ⟨d1, d2, d4, d5, f⟩
    · omega
    · rw [e, f]
    all_goals exact absurd (e0.symm.trans d1) c1
  · rw [e] at h5; exact absurd rfl h5
  · have e0 := rd_append l m 0 (by omega) (by omega)
    have e1 := rd_append l m 1 (by omega) (by omega)
    rcases take_cases (l ++ m) (hl.append hm) with ⟨d, f⟩ | ⟨d, d1, f⟩ | ⟨d1, d, f⟩ | ⟨d, d1, d2, f⟩ | ⟨d, d1, d2, d3, f⟩ | ⟨d1, d2, d3, d4, f⟩ | ⟨d1, d2, d3, d4, d5, f⟩ | ⟨d1, d2, d4, d5, f⟩
    · omega
    · exact absurd (e0.trans c1) d1
    · omega
    · rw [e, f]
    all_goals exact absurd (e1.trans c2) d2
  · rw [e] at h5; exact absurd rfl h5
  · have e0 := rd_append l m 0 (by omega) (by omega)
    have e1 := rd_append l m 1 (by omega) (by omega)
    have e2 := rd_append l m (2 + rd l 1) (by omega) (by omega)
    rcases take_cases (l ++ m) (hl.append hm) with ⟨d, f⟩ | ⟨d, d1, f⟩ | ⟨d1, d, f⟩ | ⟨d, d1, d2, f⟩ | ⟨d, d1, d2, d3, f⟩ | ⟨d1, d2, d3, d4, f⟩ | ⟨d1, d2, d3, d4, d5, f⟩ | ⟨d1, d2, d4, d5, f⟩
    · omega
    · exact absurd (e0.trans c1) d1
    · omega
    · exact absurd (e1.symm.trans d2) c2
    · rw [e1] at d3; omega
    · rw [e, f]
    · rw [e1] at d4; exact absurd (e2.trans c4) d4
    · rw [e1] at d4; exact absurd (e2.trans c4) d4
  · rw [e] at h5; exact absurd rfl h5
  · have e0 := rd_append l m 0 (by omega) (by omega)
    have e1 := rd_append l m 1 (by omega) (by omega)
    have e2 := rd_append l m (2 + rd l 1) (by omega) (by omega)
    rcases take_cases (l ++ m) (hl.append hm) with ⟨d, f⟩ | ⟨d, d1, f⟩ | ⟨d1, d, f⟩ | ⟨d, d1, d2, f⟩ | ⟨d, d1, d2, d3, f⟩ | ⟨d1, d2, d3, d4, f⟩ | ⟨d1, d2, d3, d4, d5, f⟩ | ⟨d1, d2, d4, d5, f⟩
    · omega
    · exact absurd (e0.trans c1) d1
    · omega
    · exact absurd (e1.symm.trans d2) c2
    · rw [e1] at d3; omega
    · rw [e1] at d4; exact absurd (e2.symm.trans d4) c4
    · rw [e1, e2] at d5; omega
    · rw [e, f, e1, e2, take_mid_append _ _ _ _ (by omega), take_mid_append _ _ _ _ (by omega)]
theorem take_err (l : List Int) (hl : Bytes l) : (upTake l).2.2.2 = 0 ∨ (upTake l).2.2.2 = 5 ∨ (upTake l).2.2.2 = 6 := by
  rcases take_cases l hl with ⟨c, e⟩ | ⟨c, c1, e⟩ | ⟨c1, c, e⟩ | ⟨c, c1, c2, e⟩ | ⟨c, c1, c2, c3, e⟩ | ⟨c1, c2, c3, c4, e⟩ | ⟨c1, c2, c3, c4, c5, e⟩ | ⟨c1, c2, c4, c5, e⟩ <;> rw [e] <;> simp
theorem take_bad (l : List Int) (hl : Bytes l) (h : (upTake l).2.2.2 ≠ 0) : (upTake l).2.2.1 = 0 := by
  rcases take_cases l hl with ⟨c, e⟩ | ⟨c, c1, e⟩ | ⟨c1, c, e⟩ | ⟨c, c1, c2, e⟩ | ⟨c, c1, c2, c3, e⟩ | ⟨c1, c2, c3, c4, e⟩ | ⟨c1, c2, c3, c4, c5, e⟩ | ⟨c1, c2, c4, c5, e⟩ <;> rw [e] at h ⊢ <;> simp at h ⊢
theorem take_le (l : List Int) (hl : Bytes l) : (upTake l).2.2.1 ≤ l.length := by
  rcases take_cases l hl with ⟨c, e⟩ | ⟨c, c1, e⟩ | ⟨c1, c, e⟩ | ⟨c, c1, c2, e⟩ | ⟨c, c1, c2, c3, e⟩ | ⟨c1, c2, c3, c4, e⟩ | ⟨c1, c2, c3, c4, c5, e⟩ | ⟨c1, c2, c4, c5, e⟩ <;> rw [e] <;> simp <;> omega
/-- A beginning of what is taken, but itself: more is wanted. -/
theorem take_less (l : List Int) (hl : Bytes l) (i : Nat) (h : (i : Int) < (upTake l).2.2.1) : (upTake (l.take i)).2.2.2 = 5 := by
  have hr1 := rd_bytes hl 1
  have hr2 := rd_bytes hl (2 + rd l 1)
  have hle := take_le l hl
  have hlen : (l.take i).length = i := by rw [List.length_take]; omega
  rcases take_cases l hl with ⟨c, e⟩ | ⟨c, c1, e⟩ | ⟨c1, c, e⟩ | ⟨c, c1, c2, e⟩ | ⟨c, c1, c2, c3, e⟩ | ⟨c1, c2, c3, c4, e⟩ | ⟨c1, c2, c3, c4, c5, e⟩ | ⟨c1, c2, c4, c5, e⟩
  all_goals (try (rw [e] at h; simp at h; omega))
  rw [e] at h
  simp only at h
  rcases take_cases (l.take i) (hl.take i) with ⟨d, f⟩ | ⟨d, d1, f⟩ | ⟨d1, d, f⟩ | ⟨d, d1, d2, f⟩ | ⟨d, d1, d2, d3, f⟩ | ⟨d1, d2, d3, d4, f⟩ | ⟨d1, d2, d3, d4, d5, f⟩ | ⟨d1, d2, d4, d5, f⟩
  · rw [f]
  · exact absurd ((rd_take l i 0 (by omega) (by omega)).trans c1) d1
  · rw [f]
  · exact absurd ((rd_take l i 1 (by omega) (by omega)).symm.trans d2) c2
  · rw [f]
  · have e1 : rd (l.take i) 1 = rd l 1 := by
      by_cases h1 : 1 < i
      · exact rd_take l i 1 (by omega) (by omega)
      · have := rd_bytes (hl.take i) 1; omega
    rw [e1] at d3 d4
    exact absurd ((rd_take l i (2 + rd l 1) (by omega) (by omega)).symm.trans d4) c4
  · rw [f]
  · have e1 : rd (l.take i) 1 = rd l 1 := by
      by_cases h1 : 1 < i
      · exact rd_take l i 1 (by omega) (by omega)
      · have := rd_bytes (hl.take i) 1; have := rd_bytes (hl.take i) (2 + rd (l.take i) 1); omega
    rw [e1] at d4 d5
    have hr3 := rd_bytes (hl.take i) (2 + rd l 1)
    rw [rd_take l i (2 + rd l 1) (by omega) (by omega)] at d5
    omega
/-- More is wanted, and something is there: with one more 1 it isn't refused. -/
theorem take_one (l : List Int) (hl : Bytes l) (h0 : 0 < l.length) (h : (upTake l).2.2.2 = 5) : (upTake (l ++ [1])).2.2.2 ≠ 6 := by
  have hb1 : Bytes [1] := fun x hx => by simp at hx; omega
  have hlen : (l ++ [1]).length = l.length + 1 := List.length_append
  have hr1 := rd_bytes hl 1
  have hr2 := rd_bytes hl (2 + rd l 1)
  have hlast : ∀ i : Int, i = l.length → rd (l ++ [1]) i = 1 := by
    rintro i rfl
    unfold rd
    simp [List.getD_eq_getElem?_getD]
  have hhead : rd l 0 = 1 := by
    rcases take_cases l hl with ⟨c, e⟩ | ⟨c, c1, e⟩ | ⟨c1, c, e⟩ | ⟨c, c1, c2, e⟩ | ⟨c, c1, c2, c3, e⟩ | ⟨c1, c2, c3, c4, e⟩ | ⟨c1, c2, c3, c4, c5, e⟩ | ⟨c1, c2, c4, c5, e⟩
    · omega
    · rw [e] at h; simp at h
    all_goals assumption
  have e0 := rd_append l [1] 0 (by omega) (by omega)
  rcases take_cases (l ++ [1]) (hl.append hb1) with ⟨d, f⟩ | ⟨d, d1, f⟩ | ⟨d1, d, f⟩ | ⟨d, d1, d2, f⟩ | ⟨d, d1, d2, d3, f⟩ | ⟨d1, d2, d3, d4, f⟩ | ⟨d1, d2, d3, d4, d5, f⟩ | ⟨d1, d2, d4, d5, f⟩
  · rw [f]; simp
  · exact absurd (e0.trans hhead) d1
  · rw [f]; simp
  · by_cases hx : (l.length : Int) = 1
    · rw [hlast 1 hx.symm] at d2; omega
    · have e1 := rd_append l [1] 1 (by omega) (by omega)
      rw [e1] at d2
      rcases take_cases l hl with ⟨c, e⟩ | ⟨c, c1, e⟩ | ⟨c1, c, e⟩ | ⟨c, c1, c2, e⟩ | ⟨c, c1, c2, c3, e⟩ | ⟨c1, c2, c3, c4, e⟩ | ⟨c1, c2, c3, c4, c5, e⟩ | ⟨c1, c2, c4, c5, e⟩
      · omega
      · exact absurd hhead c1
      · omega
      · rw [e] at h; simp at h
      all_goals exact absurd d2 c2
  · rw [f]; simp
  · have hr3 := rd_bytes (hl.append hb1) 1
    by_cases hx : (l.length : Int) = 2 + rd (l ++ [1]) 1
    · rw [hlast _ hx.symm] at d4; omega
    · have e1 := rd_append l [1] 1 (by omega) (by omega)
      rw [e1] at d2 d3 d4 hx
      have e2 := rd_append l [1] (2 + rd l 1) (by omega) (by omega)
      rw [e2] at d4
      rcases take_cases l hl with ⟨c, e⟩ | ⟨c, c1, e⟩ | ⟨c1, c, e⟩ | ⟨c, c1, c2, e⟩ | ⟨c, c1, c2, c3, e⟩ | ⟨c1, c2, c3, c4, e⟩ | ⟨c1, c2, c3, c4, c5, e⟩ | ⟨c1, c2, c4, c5, e⟩
      · omega
      · exact absurd hhead c1
      · omega
      · exact absurd c2 d2
      · omega
      · rw [e] at h; simp at h
      · exact absurd d4 c4
      · rw [e] at h; simp at h
  · rw [f]; simp
  · rw [f]; simp
theorem take_long (l : List Int) (hl : Bytes l) (h0 : 513 ≤ l.length) : (upTake l).2.2.2 ≠ 5 := by
  have hr1 := rd_bytes hl 1
  have hr2 := rd_bytes hl (2 + rd l 1)
  rcases take_cases l hl with ⟨c, e⟩ | ⟨c, c1, e⟩ | ⟨c1, c, e⟩ | ⟨c, c1, c2, e⟩ | ⟨c, c1, c2, c3, e⟩ | ⟨c1, c2, c3, c4, e⟩ | ⟨c1, c2, c3, c4, c5, e⟩ | ⟨c1, c2, c4, c5, e⟩
  all_goals first | omega | (rw [e]; simp)
theorem more_loop (d : Nat) : ∀ (k i : Nat) (x : List Int), 600 - i = d → d < k → i < 600 → i < x.length → x.length ≤ 10000 + i → Bytes x → (upTake x).2.2.2 ≠ 6 → postilionlaw13_UserpassOnce.l1 k x (i : Int) = some true := by
  induction d with
  | zero => intro k i x hd; omega
  | succ d ih =>
    intro k i x hd hk hi hx hx2 hb h6
    obtain ⟨k, rfl⟩ : ∃ q, k = q + 1 := ⟨k - 1, by omega⟩
    simp only [postilionlaw13_UserpassOnce.l1]
    rw [if_pos (by omega), take_f hb, Option.bind_some]
    rcases take_err x hb with h | h | h
    · rw [if_pos h]
    · have hlt : x.length < 513 := by
        rcases Nat.lt_or_ge x.length 513 with h2 | h2
        · exact h2
        · exact absurd h (take_long x hb h2)
      rw [if_neg (by rw [h]; omega), if_pos h, if_pos (by omega), show wrap64 ((i : Int) + 1) = ((i + 1 : Nat) : Int) from by rw [wrap_id (by omega) (by omega)]; omega]
      exact ih k (i + 1) _ (by omega) (by omega) (by omega) (by simp; omega) (by simp; omega) (hb.append fun y hy => by simp at hy; omega) (take_one x hb (by omega) h)
    · exact absurd h h6
theorem less_loop (l : List Int) (hl : Bytes l) (hlen : l.length ≤ 1000) (d : Nat) : ∀ (k i : Nat), (upTake l).2.2.1 - i = d → 2 * d + 4 < k → postilionlaw13_UserpassOnce.l0 k l (upTake l).2.2.1 (i : Int) = some true := by
  have hle := take_le l hl
  induction d with
  | zero =>
    intro k i hd hk
    obtain ⟨k, rfl⟩ : ∃ q, k = q + 2 := ⟨k - 2, by omega⟩
    simp only [postilionlaw13_UserpassOnce.l0]
    rw [if_neg (by omega)]
    simp only [postilionlaw13_UserpassOnce.j3]
    rw [if_neg (by simp)]
  | succ d ih =>
    intro k i hd hk
    obtain ⟨k, rfl⟩ : ∃ q, k = q + 2 := ⟨k - 2, by omega⟩
    have hi : (i : Int) < (upTake l).2.2.1 := by omega
    simp only [postilionlaw13_UserpassOnce.l0]
    rw [if_pos hi, decide_eq_true (by omega)]
    simp only [postilionlaw13_UserpassOnce.j3]
    rw [if_pos trivial, if_pos (by omega), if_pos (by omega), Int.toNat_natCast, take_f (hl.take i), Option.bind_some, if_pos (take_less l hl i hi), show wrap64 ((i : Int) + 1) = ((i + 1 : Nat) : Int) from by rw [wrap_id (by omega) (by omega)]; omega]
    exact ih k (i + 1) (by omega) (by omega)
theorem UserpassOnce : postilionlaw13_UserpassOnce.Pure := by
  intro l m _ _ hl _ _ hm
  refine ⟨10000, ?_⟩
  have hb := bytes_of_wf hl
  have hbm := bytes_of_wf hm
  have done : postilionlaw13_UserpassOnce.j0 10000 l m true = some true := by
    rw [show (10000 : Nat) = 9999 + 1 from rfl]
    simp only [postilionlaw13_UserpassOnce.j0]
    rw [if_pos trivial]
  unfold postilionlaw13_UserpassOnce.f
  rw [show postilionlaw13_awake.f 10000 = some true from rfl, Option.bind_some, if_pos rfl]
  by_cases c1 : (l.length : Int) > 600
  · rw [if_pos c1, done]
  rw [if_neg c1]
  by_cases c2 : (m.length : Int) > 100
  · rw [decide_eq_true c2, done]
  rw [decide_eq_false c2, show (10000 : Nat) = 9999 + 1 from rfl]
  simp only [postilionlaw13_UserpassOnce.j0]
  rw [if_neg (by simp), take_f hb]
  simp only [Option.bind_some, List.nil_append, List.length_nil, Nat.zero_add]
  rw [if_pos (by omega), if_pos (by omega), take_f (hb.append hbm)]
  simp only [Option.bind_some]
  by_cases h5 : (upTake l).2.2.2 = 5
  · rw [if_pos h5, if_pos (by omega)]
    by_cases h0 : (l.length : Int) = 0
    · rw [if_pos h0, if_pos (by omega)]
      have hl0 : l = [] := by simpa using h0
      subst hl0
      rw [show (9999 : Nat) = 9998 + 1 from rfl]
      simp only [postilionlaw13_UserpassOnce.j4, List.nil_append]
      have h1 : Bytes [1] := fun y hy => by simp at hy; omega
      have := more_loop 600 9998 0 [1] (by omega) (by omega) (by omega) (by simp) (by simp) h1 (by
        rcases take_cases [1] h1 with ⟨c, e⟩ | ⟨c, c1, e⟩ | ⟨c1, c, e⟩ | ⟨c, c1, c2, e⟩ | ⟨c, c1, c2, c3, e⟩ | ⟨c1, c2, c3, c4, e⟩ | ⟨c1, c2, c3, c4, c5, e⟩ | ⟨c1, c2, c4, c5, e⟩
        · rw [e]; simp
        · exact absurd rfl c1
        · rw [e]; simp
        · simp at c
        · rw [e]; simp
        · have := rd_bytes h1 1; simp at c3; omega
        · rw [e]; simp
        · rw [e]; simp)
      rw [Int.natCast_zero] at this
      exact this
    · rw [if_neg h0, show (9999 : Nat) = 9998 + 1 from rfl]
      simp only [postilionlaw13_UserpassOnce.j4]
      have := more_loop 600 9998 0 l (by omega) (by omega) (by omega) (by omega) (by omega) hb (by rw [h5]; omega)
      rw [Int.natCast_zero] at this
      exact this
  · have hs := take_more l m hb hbm h5
    rw [if_neg h5, hs]
    simp only [if_true]
    have hfin : postilionlaw13_UserpassOnce.j1 9999 l (upTake l).2.2.1 false = some true := by
      rw [show (9999 : Nat) = 9998 + 1 from rfl]
      simp only [postilionlaw13_UserpassOnce.j1]
      rw [if_neg (by simp)]
      have := less_loop l hb (by omega) (upTake l).2.2.1.toNat 9998 0 (by
        by_cases hz : (upTake l).2.2.2 = 0
        · rcases take_cases l hb with ⟨c, e⟩ | ⟨c, c1, e⟩ | ⟨c1, c, e⟩ | ⟨c, c1, c2, e⟩ | ⟨c, c1, c2, c3, e⟩ | ⟨c1, c2, c3, c4, e⟩ | ⟨c1, c2, c3, c4, c5, e⟩ | ⟨c1, c2, c4, c5, e⟩
          all_goals (rw [e] at hz ⊢; simp at hz ⊢)
          have hr1 := rd_bytes hb 1
          have hr2 := rd_bytes hb (2 + rd l 1)
          omega
        · rw [take_bad l hb hz]; rfl) (by have := take_le l hb; omega)
      rw [Int.natCast_zero] at this
      exact this
    rcases take_err l hb with h | h | h
    · rw [if_pos h, hfin]
    · exact absurd h h5
    · rw [if_neg (by rw [h]; omega), show ((upTake l).2.2.2 != 6) = false by rw [h]; rfl, hfin]
end Go.Proofs.Ytlhjninbkngamaa.Pure
