/- The statement LinesPrint (postilionlaw18): any lines may be, and have the text, that the reference says; they stay; for every row of rows of texts; no condition. -/
import Derived.Test.YtpllckhmnjgohaaLinesLem3
namespace Go.Proofs.Ytpllckhmnjgohaa.Pure
open Go.RowKit Go.Proofs.Ytpllckhmnjgohaa.P Go.Proofs.YtpllckhmnjgohaaW.PrintWords Go.Proofs.YtpllckhmnjgohaaW.PrintLast

def W (r : List ByteArray) : List (List UInt8) := r.map (·.data.toList)
theorem tail_cons (s : ByteArray) (r : List ByteArray) : Lib.joinTail [32] (W (s :: r)) = [32] ++ s.data.toList ++ Lib.joinTail [32] (W r) := by
  unfold Lib.joinTail W
  simp
theorem tail_len (r : List ByteArray) : (Lib.joinTail [32] (W r)).length = costR r := by
  induction r with
  | nil => rfl
  | cons s r ih =>
    rw [tail_cons, List.length_append, List.length_append, ih, data_length]
    unfold costR
    simp only [List.map_cons, List.sum_cons, List.length_cons, List.length_nil]
    omega
theorem join_len (r : List ByteArray) : (Lib.join (W r) [32]).length ≤ costR r := by
  cases r with
  | nil => exact Nat.zero_le _
  | cons s r =>
    have : W (s :: r) = s.data.toList :: W r := rfl
    rw [this, Lib.join_cons, List.length_append, tail_len, data_length]
    unfold costR
    simp only [List.map_cons, List.sum_cons]
    omega
theorem text_cons (r : List ByteArray) (l : List (List ByteArray)) : linesText (r :: l) = Lib.join (W r) [32] ++ [10] ++ linesText l := by
  unfold linesText W
  rw [List.flatMap_cons]
theorem text_len (l : List (List ByteArray)) : (linesText l).length ≤ cost l := by
  induction l with
  | nil => exact Nat.zero_le _
  | cons r l ih =>
    have := join_len r
    rw [text_cons, List.length_append, List.length_append]
    unfold cost at ih ⊢
    simp only [List.map_cons, List.sum_cons, List.length_cons, List.length_nil]
    omega
theorem cost_take (l : List (List ByteArray)) (i : Nat) : cost (l.take i) ≤ cost l := by
  induction l generalizing i with
  | nil => simp
  | cons r l ih =>
    cases i with
    | zero => exact Nat.zero_le _
    | succ i =>
      have := ih i
      unfold cost at this ⊢
      simp only [List.take_succ_cons, List.map_cons, List.sum_cons]
      omega
/-- What a text comes to. -/
def fin (t : List UInt8) : ByteArray × Int := if t.length > 4096 then (⟨#[]⟩, 3) else (⟨t.toArray⟩, 0)
/-- What of a line is left to be told. -/
def rest (r : List ByteArray) (i : Nat) : List UInt8 := if i = 0 then Lib.join (W r) [32] else Lib.joinTail [32] (W (r.drop i))
theorem app_data (a b : ByteArray) : (a ++ b).data.toList = a.data.toList ++ b.data.toList := by simp
theorem print_row (l : List (List ByteArray)) (j : Nat) (hj : j < l.length) (hR : ∀ acc : ByteArray, acc.size + cost (l.drop (j + 1)) ≤ 2000000 → Ev (fun k => postilionref18_Print.l0 k l acc (wrap64 ((j : Int) + 1))) (fin (acc.data.toList ++ linesText (l.drop (j + 1))))) (hlen : l[j].length ≤ 1000000) (d : Nat) : ∀ (i : Nat) (acc : ByteArray), l[j].length - i = d → i ≤ l[j].length → acc.size + costR (l[j].drop i) + 1 + cost (l.drop (j + 1)) ≤ 2000000 →
    Ev (fun k => postilionref18_Print.l1 k l acc (j : Int) (i : Int)) (fin (acc.data.toList ++ rest l[j] i ++ [10] ++ linesText (l.drop (j + 1)))) := by
  induction d with
  | zero =>
    intro i acc hd hi hb
    have hsz : (acc ++ (⟨#[10]⟩ : ByteArray)).size = acc.size + 1 := by rw [ByteArray.size_append]; rfl
    obtain ⟨K, hK⟩ := hR (acc ++ ⟨#[10]⟩) (by rw [hsz]; omega)
    refine Ev.succ K fun q hq => ?_
    have h1 := hK q hq
    simp only [postilionref18_Print.l1]
    rw [if_pos (by omega), if_pos (by omega), rd_row l j hj, if_neg (by omega), if_pos (by omega)]
    refine Eq.trans h1 ?_
    rw [app_data]
    have hre : rest l[j] i = [] := by
      unfold rest
      by_cases h0 : i = 0
      · rw [if_pos h0]
        have : l[j] = [] := List.length_eq_zero_iff.1 (by omega)
        rw [this]; rfl
      · rw [if_neg h0, List.drop_of_length_le (by omega)]; rfl
    rw [hre, List.append_nil]
  | succ d ih =>
    intro i acc hd hi hb
    have hil : i < l[j].length := by omega
    have hdc : costR (l[j].drop i) = l[j][i].size + 1 + costR (l[j].drop (i + 1)) := by
      rw [List.drop_eq_getElem_cons hil]
      unfold costR
      simp only [List.map_cons, List.sum_cons]
    have hw : wrap64 ((i : Int) + 1) = ((i + 1 : Nat) : Int) := by rw [wrap_id (by omega) (by omega)]; omega
    by_cases h0 : i = 0
    · subst h0
      simp only [Nat.zero_add] at hdc
      have hsz : (acc ++ l[j][0]).size = acc.size + l[j][0].size := ByteArray.size_append
      obtain ⟨K, hK⟩ := ih 1 (acc ++ l[j][0]) (by omega) (by omega) (by rw [hsz]; omega)
      refine Ev.succ K fun q hq => ?_
      have h1 := hK q hq
      simp only [postilionref18_Print.l1]
      rw [if_pos (by omega), if_pos (by omega), rd_row l j hj, if_pos (by omega), if_neg (by omega), if_pos (by omega), rd_word l[j] 0 hil, if_pos (by omega), hw]
      refine Eq.trans h1 ?_
      rw [app_data]
      have hre : l[j][0].data.toList ++ rest l[j] 1 = rest l[j] 0 := by
        unfold rest
        rw [if_neg (by omega), if_pos rfl]
        have e : l[j] = l[j][0] :: l[j].drop 1 := by
          have := List.drop_eq_getElem_cons hil
          rw [List.drop_zero] at this
          exact this
        have e2 : W l[j] = l[j][0].data.toList :: W (l[j].drop 1) := by
          conv => lhs; rw [e]
          rfl
        rw [e2, Lib.join_cons]
      rw [← hre, List.append_assoc acc.data.toList]
    · have hsz : ((acc ++ (⟨#[32]⟩ : ByteArray)) ++ l[j][i]).size = acc.size + 1 + l[j][i].size := by rw [ByteArray.size_append, ByteArray.size_append]; rfl
      have hsz1 : (acc ++ (⟨#[32]⟩ : ByteArray)).size = acc.size + 1 := by rw [ByteArray.size_append]; rfl
      have hb1 : ((acc ++ (⟨#[32]⟩ : ByteArray)) ++ l[j][i]).size + costR (l[j].drop (i + 1)) + 1 + cost (l.drop (j + 1)) ≤ 2000000 := by
        rw [hdc] at hb
        rw [hsz]
        generalize l[j][i].size = u at hb ⊢
        generalize costR (l[j].drop (i + 1)) = v at hb ⊢
        generalize cost (l.drop (j + 1)) = z at hb ⊢
        generalize acc.size = y at hb ⊢
        clear hsz hsz1 hdc hw hlen hR ih
        omega
      have hb2 : acc.size + 1 ≤ 9223372036854775807 := by
        clear hsz hsz1 hdc hw hR ih hb1
        omega
      have hb3 : (acc ++ (⟨#[32]⟩ : ByteArray)).size + l[j][i].size ≤ 9223372036854775807 := by
        rw [hdc] at hb
        rw [hsz1]
        generalize l[j][i].size = u at hb ⊢
        generalize costR (l[j].drop (i + 1)) = v at hb
        generalize cost (l.drop (j + 1)) = z at hb
        generalize acc.size = y at hb ⊢
        clear hsz hsz1 hdc hw hlen hR ih hb1 hb2
        omega
      have hi1 : l[j].length - (i + 1) = d := by rw [← Nat.sub_sub, hd]; rfl
      have hi2 : i + 1 ≤ l[j].length := hil
      obtain ⟨K, hK⟩ := ih (i + 1) ((acc ++ ⟨#[32]⟩) ++ l[j][i]) hi1 hi2 hb1
      refine Ev.succ K fun q hq => ?_
      have h1 := hK q hq
      simp only [postilionref18_Print.l1]
      rw [if_pos (Int.natCast_nonneg j), if_pos (Int.ofNat_lt.mpr hj), rd_row l j hj, if_pos (Int.ofNat_lt.mpr hil), if_pos (show (i : Int) > 0 from Int.natCast_pos.mpr (Nat.pos_of_ne_zero h0)), if_pos hb2, if_pos (Int.natCast_nonneg i), rd_word l[j] i hil, if_pos hb3, hw]
      refine Eq.trans h1 ?_
      rw [app_data, app_data]
      have hre : ([32] : List UInt8) ++ l[j][i].data.toList ++ rest l[j] (i + 1) = rest l[j] i := by
        unfold rest
        rw [if_neg (Nat.succ_ne_zero i), if_neg h0, List.drop_eq_getElem_cons hil, tail_cons]
      rw [← hre, show (⟨#[32]⟩ : ByteArray).data.toList = ([32] : List UInt8) from rfl]
      simp only [List.append_assoc]
theorem print_rows (l : List (List ByteArray)) (hs : Small l) (d : Nat) : ∀ (j : Nat) (acc : ByteArray), l.length - j = d → j ≤ l.length → acc.size + cost (l.drop j) ≤ 2000000 → Ev (fun k => postilionref18_Print.l0 k l acc (j : Int)) (fin (acc.data.toList ++ linesText (l.drop j))) := by
  have hs1 := hs.1
  induction d with
  | zero =>
    intro j acc hd hj hb
    refine Ev.succ 0 fun q _ => ?_
    simp only [postilionref18_Print.l0]
    rw [if_neg (by omega), List.drop_of_length_le (by omega)]
    have e : acc.data.toList ++ linesText [] = acc.data.toList := List.append_nil _
    rw [e]
    unfold fin
    rw [data_length]
    by_cases h : (acc.size : Int) > 4096
    · rw [if_pos h, if_pos (by omega)]
    · rw [if_neg h, if_neg (by omega)]
  | succ d ih =>
    intro j acc hd hj hb
    have hjl : j < l.length := by omega
    have hm := hs.2 l[j] (List.getElem_mem hjl)
    have hc : cost (l.drop j) = costR l[j] + 1 + cost (l.drop (j + 1)) := by
      rw [List.drop_eq_getElem_cons hjl]
      unfold cost
      simp only [List.map_cons, List.sum_cons]
    obtain ⟨K, hK⟩ := print_row l j hjl (fun acc2 h2 => by
      have := ih (j + 1) acc2 (by omega) (by omega) h2
      rw [show wrap64 ((j : Int) + 1) = ((j + 1 : Nat) : Int) from by rw [wrap_id (by omega) (by omega)]; omega]
      exact this) hm.1 l[j].length 0 acc (by omega) (by omega) (by rw [List.drop_zero]; omega)
    refine Ev.succ K fun q hq => ?_
    have h1 := hK q hq
    rw [Int.natCast_zero] at h1
    simp only [postilionref18_Print.l0]
    rw [if_pos (by omega)]
    refine Eq.trans h1 ?_
    rw [List.drop_eq_getElem_cons hjl, text_cons]
    unfold rest
    rw [if_pos rfl]
    simp only [List.append_assoc]
theorem refprint_ev (l : List (List ByteArray)) (hs : Small l) (hc : cost l ≤ 9000) : Ev (fun k => postilionref18_Print.f k l) (if allOk l = true then fin (linesText l) else (⟨#[]⟩, 2)) := by
  obtain ⟨K1, h1⟩ := refmay_ev l hs
  obtain ⟨K2, h2⟩ := print_rows l hs l.length 0 ⟨#[]⟩ (by omega) (by omega) (by rw [List.drop_zero]; show 0 + cost l ≤ _; omega)
  refine ⟨K1 + K2, fun k hk => ?_⟩
  have h1 := h1 k (by omega)
  have h2 := h2 k (by omega)
  rw [Int.natCast_zero, List.drop_zero] at h2
  simp only at h1
  simp only [postilionref18_Print.f]
  rw [h1, Option.bind_some]
  by_cases ha : allOk l = true
  · rw [if_pos ha, if_pos ha]; exact h2
  · rw [if_neg ha, if_neg ha]
theorem print_ev (l : List (List ByteArray)) (hs : Small l) (hc : cost l ≤ 9000) : Ev (fun k => lines_Print.f k l) (if allOk l = true then fin (linesText l) else (⟨#[]⟩, 2)) := by
  obtain ⟨K1, h1⟩ := may_ev l hs
  refine ⟨K1, fun k hk => ?_⟩
  have h1 := h1 k hk
  simp only at h1
  simp only [lines_Print.f]
  rw [h1, Option.bind_some]
  by_cases ha : allOk l = true
  · rw [if_pos ha, if_pos ha, if_pos ⟨hs.1, fun i hi => by rw [rd_row l i hi]; exact (hs.2 _ (List.getElem_mem hi)).1, fun i _ => by
      have := text_len (l.take i)
      have := cost_take l i
      omega⟩]
    unfold fin
    split <;> rfl
  · rw [if_neg ha, if_neg ha]
theorem LinesPrint : postilionlaw18_LinesPrint.Pure := by
  intro l hl hy
  obtain ⟨b, ⟨K0, h0⟩, hb⟩ := great_ev l (fun r hr => by
    have := (hy r hr).1
    unfold maxLen at this
    omega)
  cases b with
  | true =>
    refine ⟨K0, ?_⟩
    have h0 := h0 K0 (Nat.le_refl _)
    simp only at h0
    unfold postilionlaw18_LinesPrint.f
    rw [h0, Option.bind_some, if_pos rfl]
  | false =>
    obtain ⟨g1, g2⟩ := hb rfl
    have hs := small_of g1 g2
    obtain ⟨K1, h1⟩ := copy_ev l hs
    obtain ⟨K2, h2⟩ := print_ev l hs g2
    obtain ⟨K3, h3⟩ := refprint_ev l hs g2
    obtain ⟨K4, h4⟩ := may_ev l hs
    obtain ⟨K5, h5⟩ := refmay_ev l hs
    obtain ⟨K6, h6⟩ := same_ev l hs
    refine ⟨K0 + K1 + K2 + K3 + K4 + K5 + K6, ?_⟩
    generalize hk : K0 + K1 + K2 + K3 + K4 + K5 + K6 = k
    have h0 := h0 k (by omega)
    have h1 := h1 k (by omega)
    have h2 := h2 k (by omega)
    have h3 := h3 k (by omega)
    have h4 := h4 k (by omega)
    have h5 := h5 k (by omega)
    have h6 := h6 k (by omega)
    simp only at h0 h1 h2 h3 h4 h5 h6
    unfold postilionlaw18_LinesPrint.f
    rw [h0, Option.bind_some, if_neg (by simp), h1, Option.bind_some, h2, Option.bind_some, h3, Option.bind_some, if_pos rfl, if_pos rfl, h4, Option.bind_some, h5, Option.bind_some, if_pos (by simp), h6]
    rfl
end Go.Proofs.Ytpllckhmnjgohaa.Pure
