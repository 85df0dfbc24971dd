/- The statement UserpassBack (postilionlaw13): what is printed is taken as it was, whatever stands behind it; what is taken, printed, is those bytes; for every two texts and every row of bytes; no condition. -/
import Derived.Test.YtlhjninbkngamaaPx10
import Derived.Test.YtlhjninbkngamaaPx9
import Derived.Test.YtlhjninbkngamaaStuserpassPrint
import Derived.Test.YtlhjninbkngamaaUserpassLem
namespace Go.Proofs.Ytlhjninbkngamaa.Pure
open Go.RowKit Go.Proofs.Ytlhjninbkngamaa.P Go.Proofs.YtlhjninbkngamaaW.PrintWords Go.Proofs.YtlhjninbkngamaaW.PrintLast

theorem bytes_of_string (s : ByteArray) : Bytes (bytesOf s) := fun x hx => by
  unfold bytesOf at hx
  obtain ⟨b, -, rfl⟩ := List.mem_map.1 hx
  have := b.toNat_lt
  omega
theorem str_bytes (s : ByteArray) : strOfNums (bytesOf s) = s := by
  apply ByteArray.ext
  apply Array.ext'
  unfold strOfNums bytesOf
  simp only [List.map_map]
  conv => rhs; rw [← List.map_id s.data.toList]
  exact List.map_congr_left fun b _ => by simp
theorem bytes_str {l : List Int} (h : Bytes l) : bytesOf (strOfNums l) = l := by
  unfold strOfNums bytesOf
  simp only [List.map_map]
  conv => rhs; rw [← List.map_id l]
  apply List.map_congr_left
  intro x hx
  have := h x hx
  simp
  omega
theorem str_size (l : List Int) : (strOfNums l).size = l.length := by
  unfold strOfNums
  simp [ByteArray.size]
/-- What is printed. -/
def word (u p : ByteArray) : List Int := 1 :: (u.size : Int) :: (bytesOf u ++ (p.size : Int) :: bytesOf p)
theorem print_ok (u p : ByteArray) (h1 : 1 ≤ u.size ∧ u.size ≤ 255) (h2 : 1 ≤ p.size ∧ p.size ≤ 255) : userpass_Print.f u p = some (word u p, 0) := by
  unfold userpass_Print.f word
  rw [if_pos h1, if_pos h2]
  simp
theorem print_no (u p : ByteArray) (h : ¬ ((1 ≤ u.size ∧ u.size ≤ 255) ∧ 1 ≤ p.size ∧ p.size ≤ 255)) : userpass_Print.f u p = some ([], 2) := by
  unfold userpass_Print.f
  by_cases h1 : 1 ≤ u.size ∧ u.size ≤ 255
  · rw [if_pos h1, if_neg (fun h2 => h ⟨h1, h2⟩)]
  · rw [if_neg h1]
theorem word_len (u p : ByteArray) : (word u p).length = 3 + u.size + p.size := by
  unfold word
  simp [bytesOf_length]
  omega
theorem word_bytes (u p : ByteArray) (h1 : u.size ≤ 255) (h2 : p.size ≤ 255) : Bytes (word u p) := by
  intro x hx
  unfold word at hx
  simp only [List.mem_cons, List.mem_append] at hx
  rcases hx with rfl | rfl | hx | rfl | hx
  · omega
  · omega
  · exact bytes_of_string u x hx
  · omega
  · exact bytes_of_string p x hx
theorem take_word (u p : ByteArray) (b : List Int) (hb : Bytes b) (h1 : 1 ≤ u.size ∧ u.size ≤ 255) (h2 : 1 ≤ p.size ∧ p.size ≤ 255) : upTake (word u p ++ b) = (u, p, ((word u p).length : Int), 0) := by
  have hw := (word_bytes u p h1.2 h2.2).append hb
  have hlen : (word u p ++ b).length = 3 + u.size + p.size + b.length := by rw [List.length_append, word_len]
  have e0 : rd (word u p ++ b) 0 = 1 := rfl
  have e1 : rd (word u p ++ b) 1 = u.size := rfl
  have hu := bytesOf_length u
  have hp := bytesOf_length p
  have e2 : rd (word u p ++ b) (2 + (u.size : Int)) = p.size := by
    unfold rd word
    rw [show ((2 : Int) + (u.size : Int)).toNat = u.size + 2 by omega]
    simp only [List.cons_append, List.getD_cons_succ, List.append_assoc]
    rw [List.getD_eq_getElem?_getD, List.getElem?_append_right (by omega), hu, Nat.sub_self]
    rfl
  rcases take_cases (word u p ++ b) hw with ⟨c, e⟩ | ⟨c, c1, e⟩ | ⟨c1, c, e⟩ | ⟨c, c1, c2, e⟩ | ⟨c, c1, c2, c3, e⟩ | ⟨c1, c2, c3, c4, e⟩ | ⟨c1, c2, c3, c4, c5, e⟩ | ⟨c1, c2, c4, c5, e⟩
  · omega
  · exact absurd e0 c1
  · omega
  · omega
  · omega
  · rw [e1, e2] at c4; omega
  · rw [e1, e2] at c5; omega
  · rw [e, e1, e2, word_len]
    have k1 : ((word u p ++ b).take ((2 : Int) + u.size).toNat).drop 2 = bytesOf u := by
      rw [show ((2 : Int) + (u.size : Int)).toNat = u.size + 2 by omega]
      unfold word
      simp only [List.cons_append, List.take_succ_cons, List.drop_succ_cons, List.drop_zero, List.append_assoc]
      rw [List.take_append_of_le_length (by omega), List.take_of_length_le (by omega)]
    have k2 : ((word u p ++ b).take ((3 : Int) + u.size + p.size).toNat).drop ((3 : Int) + u.size).toNat = bytesOf p := by
      rw [show ((3 : Int) + (u.size : Int) + p.size).toNat = (u.size + 1 + p.size) + 2 by omega, show ((3 : Int) + (u.size : Int)).toNat = (u.size + 1) + 2 by omega]
      unfold word
      simp only [List.cons_append, List.take_succ_cons, List.drop_succ_cons, List.append_assoc]
      rw [List.drop_take, show u.size + 1 + p.size - (u.size + 1) = p.size by omega, List.drop_append, hu, show u.size + 1 - u.size = 1 by omega, List.drop_of_length_le (by omega), List.nil_append, List.drop_succ_cons, List.drop_zero, List.take_append_of_le_length (by omega), List.take_of_length_le (by omega)]
    rw [k1, k2, str_bytes, str_bytes]
    simp only [Prod.mk.injEq, true_and, and_true]
    omega
theorem list_parts (t : List Int) (a b : Nat) (h : a < t.length) : t.take (1 + a + b) = t.take a ++ t[a] :: (t.take (1 + a + b)).drop (1 + a) := by
  have := (List.take_append_drop a (t.take (1 + a + b))).symm
  rw [List.take_take, Nat.min_eq_left (by omega)] at this
  rw [List.drop_eq_getElem_cons (i := a) (l := t.take (1 + a + b)) (by rw [List.length_take]; omega), List.getElem_take, show a + 1 = 1 + a by omega] at this
  exact this
theorem print_take (l : List Int) (hl : Bytes l) (h : (upTake l).2.2.2 = 0) :
    ∃ n : Nat, (upTake l).2.2.1 = n ∧ n ≤ l.length ∧ userpass_Print.f (upTake l).1 (upTake l).2.1 = some (l.take n, 0) ∧ (l.take n).length = n := by
  have hr1 := rd_bytes hl 1
  have hr2 := rd_bytes hl (2 + rd l 1)
  rcases take_cases l hl with ⟨c, e⟩ | ⟨c, c1, e⟩ | ⟨c1, c, e⟩ | ⟨c, c1, c2, e⟩ | ⟨c, c1, c2, c3, e⟩ | ⟨c1, c2, c3, c4, e⟩ | ⟨c1, c2, c3, c4, c5, e⟩ | ⟨c1, c2, c4, c5, e⟩
  all_goals (try (rw [e] at h; simp at h; done))
  rw [e]
  obtain ⟨a, ha⟩ : ∃ a : Nat, rd l 1 = a := ⟨(rd l 1).toNat, by omega⟩
  rw [ha] at hr2 c2 c4 c5 ⊢
  obtain ⟨b, hb⟩ : ∃ b : Nat, rd l (2 + (a : Int)) = b := ⟨(rd l (2 + (a : Int))).toNat, by omega⟩
  rw [hb] at hr2 c4 c5 ⊢
  refine ⟨3 + a + b, by simp only; omega, by omega, ?_, by rw [List.length_take]; omega⟩
  simp only
  match l, hl, c1, ha, hb, c5 with
  | [], _, _, _, _, c5 => simp at c5; omega
  | [_], _, _, _, _, c5 => simp at c5; omega
  | x :: y :: t, hl, c1, ha, hb, c5 =>
    have hx : x = 1 := c1
    have hy : y = a := ha
    simp only [List.length_cons] at c5
    have hat : a < t.length := by omega
    have hta : t[a] = b := by
      unfold rd at hb
      rw [show ((2 : Int) + (a : Int)).toNat = a + 2 by omega] at hb
      simp only [List.getD_cons_succ] at hb
      rw [List.getD_eq_getElem?_getD, List.getElem?_eq_getElem hat] at hb
      exact hb
    have k1 : ((x :: y :: t).take ((2 : Int) + a).toNat).drop 2 = t.take a := by
      rw [show ((2 : Int) + (a : Int)).toNat = a + 2 by omega]
      simp only [List.take_succ_cons, List.drop_succ_cons, List.drop_zero]
    have k2 : ((x :: y :: t).take ((3 : Int) + a + b).toNat).drop ((3 : Int) + a).toNat = (t.take (1 + a + b)).drop (1 + a) := by
      rw [show ((3 : Int) + (a : Int) + b).toNat = (1 + a + b) + 2 by omega, show ((3 : Int) + (a : Int)).toNat = (1 + a) + 2 by omega]
      simp only [List.take_succ_cons, List.drop_succ_cons]
    have k3 : (x :: y :: t).take (3 + a + b) = x :: y :: t.take (1 + a + b) := by
      rw [show 3 + a + b = (1 + a + b) + 2 by omega]
      simp only [List.take_succ_cons]
    have ht : Bytes t := fun z hz => hl z (List.mem_cons_of_mem _ (List.mem_cons_of_mem _ hz))
    have hd : Bytes ((t.take (1 + a + b)).drop (1 + a)) := fun z hz => ht z (List.mem_of_mem_take (List.mem_of_mem_drop hz))
    have s1 : (strOfNums (t.take a)).size = a := by rw [str_size, List.length_take]; omega
    have s2 : (strOfNums ((t.take (1 + a + b)).drop (1 + a))).size = b := by rw [str_size, List.length_drop, List.length_take]; omega
    rw [k1, k2, k3, print_ok _ _ (by rw [s1]; omega) (by rw [s2]; omega)]
    unfold word
    rw [s1, s2, bytes_str (ht.take a), bytes_str hd, hx, hy, list_parts t a b hat, hta]
    have k4 : (t.take a ++ (b : Int) :: (t.take (1 + a + b)).drop (1 + a)).drop (1 + a) = (t.take (1 + a + b)).drop (1 + a) := by
      rw [← hta, ← list_parts t a b hat]
    rw [k4]
theorem take_bad (l : List Int) (hl : Bytes l) (h : (upTake l).2.2.2 ≠ 0) : (upTake l).2.2.1 = 0 := by
  rcases take_cases l hl with ⟨c, e⟩ | ⟨c, c1, e⟩ | ⟨c1, c, e⟩ | ⟨c, c1, c2, e⟩ | ⟨c, c1, c2, c3, e⟩ | ⟨c1, c2, c3, c4, e⟩ | ⟨c1, c2, c3, c4, c5, e⟩ | ⟨c1, c2, c4, c5, e⟩ <;> rw [e] at h ⊢ <;> simp at h ⊢
theorem back_j2 (l : List Int) (hl : Bytes l) (k : Nat) (hk : 0 < k) : postilionlaw13_UserpassBack.j2 k l = some true := by
  obtain ⟨k, rfl⟩ : ∃ q, k = q + 1 := ⟨k - 1, by omega⟩
  simp only [postilionlaw13_UserpassBack.j2]
  rw [take_f hl, Option.bind_some]
  by_cases h : (upTake l).2.2.2 = 0
  · obtain ⟨n, hn, hle, hp, hlen⟩ := print_take l hl h
    rw [if_pos h, hp, Option.bind_some, if_pos rfl, hn, hlen, if_pos rfl, if_pos (by omega), if_pos (by omega), Int.toNat_natCast]
    simp
  · rw [if_neg h, take_bad l hl h]
    rfl
theorem back_j1 (u p : ByteArray) (l : List Int) (hl : Bytes l) (hlen : l.length ≤ 1000) (x : List Int) (e : Int) (he : e = 0 → x = word u p ∧ (1 ≤ u.size ∧ u.size ≤ 255) ∧ 1 ≤ p.size ∧ p.size ≤ 255) (k : Nat) (hk : 2 ≤ k) : postilionlaw13_UserpassBack.j1 k u p l x e false = some true := by
  obtain ⟨k, rfl⟩ : ∃ q, k = q + 1 := ⟨k - 1, by omega⟩
  simp only [postilionlaw13_UserpassBack.j1]
  rw [if_neg (by simp)]
  by_cases h : e = 0
  · obtain ⟨rfl, h1, h2⟩ := he h
    have hw := word_bytes u p h1.2 h2.2
    have hwl := word_len u p
    rw [if_pos h]
    simp only [Option.bind_some, List.nil_append, List.length_nil, Nat.zero_add]
    rw [if_pos (by omega), if_pos (by omega), take_f (hw.append hl), take_word u p l hl h1 h2]
    simp only [Option.bind_some, if_true]
    exact back_j2 l hl k (by omega)
  · rw [if_neg h]
    exact back_j2 l hl k (by omega)
theorem UserpassBack : postilionlaw13_UserpassBack.Pure := by
  intro u p l _ _ _ _ hl
  refine ⟨10, ?_⟩
  have hb := bytes_of_wf hl
  have done : postilionlaw13_UserpassBack.j0 10 u p l true = some true := by
    rw [show (10 : Nat) = 9 + 1 from rfl]
    simp only [postilionlaw13_UserpassBack.j0]
    rw [if_pos trivial]
  unfold postilionlaw13_UserpassBack.f
  rw [show postilionlaw13_awake.f 10 = some true from rfl, Option.bind_some, if_pos rfl]
  by_cases c1 : (u.size : Int) > 300
  · rw [if_pos c1, done]
  rw [if_neg c1]
  by_cases c2 : (p.size : Int) > 300
  · rw [if_pos c2, done]
  rw [if_neg c2]
  by_cases c3 : (l.length : Int) > 600
  · rw [decide_eq_true c3, done]
  rw [decide_eq_false c3, show (10 : Nat) = 9 + 1 from rfl]
  simp only [postilionlaw13_UserpassBack.j0]
  rw [if_neg (by simp)]
  by_cases hv : (1 ≤ u.size ∧ u.size ≤ 255) ∧ 1 ≤ p.size ∧ p.size ≤ 255
  · rw [print_ok u p hv.1 hv.2, Option.bind_some, if_pos (by omega), if_pos (by omega), if_pos (by omega), decide_eq_true (by omega)]
    exact back_j1 u p l hb (by omega) _ 0 (fun _ => ⟨rfl, hv⟩) 9 (by omega)
  · have hj := back_j1 u p l hb (by omega) [] 2 (fun h => by omega) 9 (by omega)
    rw [print_no u p hv, Option.bind_some]
    by_cases d1 : (u.size : Int) ≥ 1
    · rw [if_pos d1]
      by_cases d2 : (u.size : Int) ≤ 255
      · rw [if_pos d2]
        by_cases d3 : (p.size : Int) ≥ 1
        · rw [if_pos d3, decide_eq_false (by omega)]
          exact hj
        · rw [if_neg d3]; exact hj
      · rw [if_neg d2]; exact hj
    · rw [if_neg d1]; exact hj
end Go.Proofs.Ytlhjninbkngamaa.Pure
