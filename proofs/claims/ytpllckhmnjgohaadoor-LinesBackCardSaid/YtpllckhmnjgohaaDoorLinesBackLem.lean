/- Plain laws: lines that are printed are split as they were; what is split may be printed, in no more bytes, and one; no condition beyond the sizes. -/
import Derived.Test.YtpllckhmnjgohaaDoorLinesEvB
import Derived.Test.YtpllckhmnjgohaaDoorStlinesPrint
import Derived.Test.YtpllckhmnjgohaaDoorStlinesJoined
namespace Go.Proofs.YtpllckhmnjgohaaDoor.Pure
open Go.RowKit Go.Proofs.YtpllckhmnjgohaaDoor.P Go.Proofs.YtpllckhmnjgohaaDoorW.PrintWords Go.Proofs.YtpllckhmnjgohaaDoorW.PrintLast

def W (r : List ByteArray) : List (List UInt8) := r.map (·.data.toList)
theorem tail_cons (s : ByteArray) (r : List ByteArray) : Lib.joinTail [32] (W (s :: r)) = [32] ++ s.data.toList ++ Lib.joinTail [32] (W r) := by
  unfold Lib.joinTail W
  simp
theorem tail_len (r : List ByteArray) : (Lib.joinTail [32] (W r)).length = costR r := by
  induction r with
  | nil => rfl
  | cons s r ih =>
    rw [tail_cons, List.length_append, List.length_append, ih, data_length]
    unfold costR
    simp only [List.map_cons, List.sum_cons, List.length_cons, List.length_nil]
    omega
theorem join_len (r : List ByteArray) : (Lib.join (W r) [32]).length ≤ costR r := by
  cases r with
  | nil => exact Nat.zero_le _
  | cons s r =>
    have : W (s :: r) = s.data.toList :: W r := rfl
    rw [this, Lib.join_cons, List.length_append, tail_len, data_length]
    unfold costR
    simp only [List.map_cons, List.sum_cons]
    omega
theorem text_cons (r : List ByteArray) (l : List (List ByteArray)) : linesText (r :: l) = Lib.join (W r) [32] ++ [10] ++ linesText l := by
  unfold linesText W
  rw [List.flatMap_cons]
theorem text_len (l : List (List ByteArray)) : (linesText l).length ≤ cost l := by
  induction l with
  | nil => exact Nat.zero_le _
  | cons r l ih =>
    have := join_len r
    rw [text_cons, List.length_append, List.length_append]
    unfold cost at ih ⊢
    simp only [List.map_cons, List.sum_cons, List.length_cons, List.length_nil]
    omega
theorem cost_take (l : List (List ByteArray)) (i : Nat) : cost (l.take i) ≤ cost l := by
  induction l generalizing i with
  | nil => simp
  | cons r l ih =>
    cases i with
    | zero => exact Nat.zero_le _
    | succ i =>
      have := ih i
      unfold cost at this ⊢
      simp only [List.take_succ_cons, List.map_cons, List.sum_cons]
      omega
/-- What a text comes to. -/
def fin (t : List UInt8) : ByteArray × Int := if t.length > 4096 then (⟨#[]⟩, 3) else (⟨t.toArray⟩, 0)
theorem print_ev (l : List (List ByteArray)) (hs : Small l) (hc : cost l ≤ 9000) : Ev (fun k => lines_Print.f k l) (if allOk l = true then fin (linesText l) else (⟨#[]⟩, 2)) := by
  obtain ⟨K1, h1⟩ := may_ev l hs
  refine ⟨K1, fun k hk => ?_⟩
  have h1 := h1 k hk
  simp only at h1
  simp only [lines_Print.f]
  rw [h1, Option.bind_some]
  by_cases ha : allOk l = true
  · rw [if_pos ha, if_pos ha, if_pos ⟨hs.1, fun i hi => by rw [rd_row l i hi]; exact (hs.2 _ (List.getElem_mem hi)).1, fun i _ => by
      have := text_len (l.take i)
      have := cost_take l i
      omega⟩]
    unfold fin
    split <;> rfl
  · rw [if_neg ha, if_neg ha]
/-! ### a word, a line, a text: split again -/
theorem okc_byte (b : UInt8) : okc ((b.toNat : Nat) : Int) = (decide (33 ≤ b.toNat) && decide (b.toNat ≤ 126)) := by
  unfold okc
  rw [decide_eq_decide.2 (show (33 : Int) ≤ ((b.toNat : Nat) : Int) ↔ 33 ≤ b.toNat by omega), decide_eq_decide.2 (show ((b.toNat : Nat) : Int) ≤ 126 ↔ b.toNat ≤ 126 by omega)]
theorem bt_list (s : ByteArray) (i : Nat) (h : i < s.size) (h2 : i < s.data.toList.length) : bt s (i : Int) = ((s.data.toList[i]'h2).toNat : Int) := by
  have h3 := bt_at s (i : Int) (by simpa using h)
  rw [← h3]
  rfl
/-- What a word is, of its bytes. -/
def wOkL (l : List UInt8) : Bool := !l.isEmpty && !(l.head? == some 35) && l.all (fun b => decide (33 ≤ b.toNat) && decide (b.toNat ≤ 126))
theorem wOk_list (s : ByteArray) : wOk s = wOkL s.data.toList := by
  unfold wOk wOkL
  have e1 : (bytesOf s).all okc = s.data.toList.all (fun b => decide (33 ≤ b.toNat) && decide (b.toNat ≤ 126)) := by
    unfold bytesOf
    rw [List.all_map]
    congr 1
    funext b
    exact okc_byte b
  rw [e1]
  cases h : s.data.toList with
  | nil =>
    have : s.size = 0 := by rw [← data_length, h]; rfl
    rw [decide_eq_false (by omega)]
    rfl
  | cons b l =>
    have hs : 0 < s.size := by rw [← data_length, h]; exact Nat.succ_pos _
    have h2 : 0 < s.data.toList.length := by rw [h]; exact Nat.succ_pos _
    have hb := bt_list s 0 hs h2
    have hb2 : s.data.toList[0]'h2 = b := by simp [h]
    rw [hb2] at hb
    have e2 : (bt s 0 == 35) = (b == 35) := by
      have hb' : bt s 0 = (b.toNat : Int) := hb
      rw [hb', Bool.eq_iff_iff, beq_iff_eq, beq_iff_eq]
      constructor
      · intro e
        exact UInt8.toNat_inj.1 (by rw [show (35 : UInt8).toNat = 35 from rfl]; omega)
      · intro e
        rw [e]; rfl
    rw [decide_eq_true hs, e2]
    simp
theorem fldG_app {w : List UInt8} : ∀ (cur rest : List UInt8), (∀ b ∈ w, b ≠ 32) → fldG cur (w ++ rest) = fldG (cur ++ w) rest := by
  induction w with
  | nil => intro cur rest _; simp
  | cons b w ih =>
    intro cur rest h
    rw [List.cons_append, fldG_word (h b (List.mem_cons_self ..)), ih _ _ (fun x hx => h x (List.mem_cons_of_mem _ hx)), List.append_assoc]
    rfl
theorem wOkL_bytes {l : List UInt8} (h : wOkL l = true) : l ≠ [] ∧ l.head? ≠ some 35 ∧ ∀ b ∈ l, 33 ≤ b.toNat ∧ b.toNat ≤ 126 := by
  unfold wOkL at h
  rw [Bool.and_eq_true, Bool.and_eq_true] at h
  refine ⟨fun e => by rw [e] at h; exact absurd h.1.1 (by decide), fun e => ?_, fun b hb => ?_⟩
  · have := h.1.2
    rw [e] at this
    exact absurd this (by decide)
  · have := List.all_eq_true.1 h.2 b hb
    rw [Bool.and_eq_true] at this
    exact ⟨of_decide_eq_true this.1, of_decide_eq_true this.2⟩
theorem not32 {l : List UInt8} (h : wOkL l = true) : ∀ b ∈ l, b ≠ 32 := fun b hb e => by
  have := (wOkL_bytes h).2.2 b hb
  rw [e] at this
  exact absurd this.1 (by decide)
theorem fldG_join : ∀ (r : List (List UInt8)) (w : List UInt8), (∀ x ∈ w :: r, wOkL x = true) → fldG [] (Lib.join (w :: r) [32]) = w :: r
  | [], w, h => by
    have hw := h w (List.mem_cons_self ..)
    rw [Lib.join_one]
    have := fldG_app (w := w) [] [] (not32 hw)
    rw [List.append_nil] at this
    rw [this, List.nil_append, fldG, if_neg (wOkL_bytes hw).1]
  | x :: r, w, h => by
    have hw := h w (List.mem_cons_self ..)
    have ih := fldG_join r x (fun y hy => h y (List.mem_cons_of_mem _ hy))
    have e : Lib.join (w :: x :: r) [32] = w ++ 32 :: Lib.join (x :: r) [32] := by
      rw [Lib.join_cons, joinTail_cons]
    rw [e, fldG_app [] _ (not32 hw), List.nil_append, fldG_end (wOkL_bytes hw).1, ih]
theorem rowOk_words {r : List ByteArray} (h : rowOk r = true) : r ≠ [] ∧ ∀ s ∈ r, wOkL s.data.toList = true := by
  unfold rowOk at h
  rw [Bool.and_eq_true] at h
  refine ⟨fun e => by rw [e] at h; exact absurd h.1 (by decide), fun s hs => ?_⟩
  rw [← wOk_list]
  exact List.all_eq_true.1 h.2 s hs
theorem hashB_ok {s : ByteArray} (h : wOkL s.data.toList = true) : hashB s = false := by
  obtain ⟨h1, h2, _⟩ := wOkL_bytes h
  unfold hashB
  cases e : s.data.toList with
  | nil => exact absurd e h1
  | cons b l =>
    have := hashB_cons b l
    unfold hashB at this
    rw [show (mkB (b :: l)).data.toList = b :: l from rfl] at this
    rw [this]
    rw [e] at h2
    exact beq_false_of_ne (fun e2 => h2 (by rw [e2]; rfl))
theorem map_mk (r : List ByteArray) : (W r).map (fun l => (⟨l.toArray⟩ : ByteArray)) = r := by
  unfold W
  rw [List.map_map]
  exact List.map_id _
theorem counts_join {r : List ByteArray} (h : rowOk r = true) : countsT ⟨(Lib.join (W r) [32]).toArray⟩ = r := by
  obtain ⟨hne, hw⟩ := rowOk_words h
  unfold countsT fieldsT
  cases r with
  | nil => exact absurd rfl hne
  | cons s r =>
    have e : W (s :: r) = s.data.toList :: W r := rfl
    have h2 := fldG_join (W r) s.data.toList (fun x hx => by
      rw [← e] at hx
      unfold W at hx
      obtain ⟨y, hy, rfl⟩ := List.mem_map.1 hx
      exact hw y hy)
    rw [← e] at h2
    show ((fldG [] (Lib.join (W (s :: r)) [32])).map _).takeWhile _ = _
    rw [h2, map_mk]
    exact takeWhile_all (List.all_eq_true.2 (fun x hx => by rw [hashB_ok (hw x hx)]; rfl))
theorem joined_bytes : ∀ (r : List (List UInt8)), (∀ x ∈ r, wOkL x = true) → ∀ b ∈ Lib.joinTail [32] r, 32 ≤ b.toNat ∧ b.toNat ≤ 126
  | [], _ => fun b hb => by simp [Lib.joinTail] at hb
  | x :: r, h => fun b hb => by
    have e : Lib.joinTail [32] (x :: r) = 32 :: (x ++ Lib.joinTail [32] r) := by simp [Lib.joinTail]
    rw [e] at hb
    rcases List.mem_cons.1 hb with rfl | hb
    · exact ⟨by decide, by decide⟩
    · rcases List.mem_append.1 hb with hb | hb
      · have := (wOkL_bytes (h x (List.mem_cons_self ..))).2.2 b hb
        omega
      · exact joined_bytes r (fun y hy => h y (List.mem_cons_of_mem _ hy)) b hb
theorem join_bytes {r : List ByteArray} (h : rowOk r = true) : ∀ b ∈ Lib.join (W r) [32], 32 ≤ b.toNat ∧ b.toNat ≤ 126 := by
  obtain ⟨hne, hw⟩ := rowOk_words h
  cases r with
  | nil => exact absurd rfl hne
  | cons s r =>
    have e : W (s :: r) = s.data.toList :: W r := rfl
    intro b hb
    rw [e, Lib.join_cons] at hb
    rcases List.mem_append.1 hb with hb | hb
    · have := (wOkL_bytes (hw s (List.mem_cons_self ..))).2.2 b hb
      omega
    · refine joined_bytes _ (fun x hx => ?_) b hb
      unfold W at hx
      obtain ⟨y, hy, rfl⟩ := List.mem_map.1 hx
      exact hw y (List.mem_cons_of_mem _ hy)
theorem pieces_one (c : UInt8) : ∀ l : List UInt8, c ∉ l → piecesL c l = [l]
  | [], _ => rfl
  | x :: l, h => piecesL_step (fun e => h (by rw [e]; exact List.mem_cons_self ..)) (pieces_one c l (fun hm => h (List.mem_cons_of_mem _ hm)))
theorem spB_row {r : List ByteArray} (h : rowOk r = true) : spB (Lib.join (W r) [32]) = [r] := by
  have hn : (10 : UInt8) ∉ Lib.join (W r) [32] := fun hm => by
    have := (join_bytes h _ hm).1
    exact absurd this (by decide)
  unfold spB
  rw [pieces_one _ _ hn]
  show ([countsT ⟨(Lib.join (W r) [32]).toArray⟩]).filter _ = _
  rw [counts_join h]
  cases r with
  | nil => exact absurd rfl (rowOk_words h).1
  | cons s r => rfl
/-- What is printed is split as it was. -/
theorem spB_text : ∀ l : List (List ByteArray), allOk l = true → spB (linesText l) = l ∧ (linesText l).all okB = true
  | [], _ => ⟨spB_nil, rfl⟩
  | r :: l, h => by
    unfold allOk at h
    rw [List.all_cons, Bool.and_eq_true] at h
    obtain ⟨ih1, ih2⟩ := spB_text l h.2
    rw [text_cons, List.append_assoc, show [10] ++ linesText l = (10 : UInt8) :: linesText l from rfl]
    refine ⟨by rw [spB_end, spB_row h.1, ih1]; rfl, ?_⟩
    rw [List.all_append, List.all_cons, ih2, Bool.and_true, Bool.and_eq_true]
    refine ⟨List.all_eq_true.2 (fun b hb => ?_), rfl⟩
    obtain ⟨g1, g2⟩ := join_bytes h.1 b hb
    unfold okB
    rw [decide_eq_true g1, decide_eq_true g2]
    simp
theorem text_split {l : List (List ByteArray)} (h : allOk l = true) (hl : (linesText l).length ≤ 4096) : splE ⟨(linesText l).toArray⟩ = 0 ∧ splL ⟨(linesText l).toArray⟩ = l := by
  obtain ⟨h1, h2⟩ := spB_text l h
  have hs : (⟨(linesText l).toArray⟩ : ByteArray).size = (linesText l).length := List.size_toArray ..
  have e : splE ⟨(linesText l).toArray⟩ = 0 := by
    rw [splE_of (by omega)]
    have : okT ⟨(linesText l).toArray⟩ = true := h2
    rw [this]
    rfl
  exact ⟨e, by rw [splL_ok e]; exact h1⟩
/-! ### what is split may be printed -/
theorem fldG_words : ∀ (l cur : List UInt8), (∀ b ∈ l, 32 ≤ b.toNat ∧ b.toNat ≤ 126) → (∀ b ∈ cur, 33 ≤ b.toNat ∧ b.toNat ≤ 126) → ∀ w ∈ fldG cur l, w ≠ [] ∧ ∀ b ∈ w, 33 ≤ b.toNat ∧ b.toNat ≤ 126
  | [], cur, _, hc => fun w hw => by
    unfold fldG at hw
    split at hw
    · cases hw
    · rename_i h
      rw [List.mem_singleton.1 hw]
      exact ⟨h, hc⟩
  | x :: l, cur, h, hc => fun w hw => by
    have hl := fun b hb => h b (List.mem_cons_of_mem _ hb)
    by_cases hx : x = 32
    · subst hx
      by_cases h0 : cur = []
      · subst h0
        rw [fldG_gap] at hw
        exact fldG_words l [] hl (fun b hb => by cases hb) w hw
      · rw [fldG_end h0] at hw
        rcases List.mem_cons.1 hw with rfl | hw
        · exact ⟨h0, hc⟩
        · exact fldG_words l [] hl (fun b hb => by cases hb) w hw
    · rw [fldG_word hx] at hw
      refine fldG_words l (cur ++ [x]) hl (fun b hb => ?_) w hw
      rcases List.mem_append.1 hb with hb | hb
      · exact hc b hb
      · rw [List.mem_singleton.1 hb]
        have := h x (List.mem_cons_self ..)
        have h32 : x.toNat ≠ 32 := fun e => hx (UInt8.toNat_inj.1 e)
        omega
theorem fldG_cost : ∀ (l cur : List UInt8), ((fldG cur l).map (fun w => w.length + 1)).sum ≤ cur.length + l.length + 1
  | [], cur => by
    unfold fldG
    split
    · simp
    · simp
  | x :: l, cur => by
    by_cases hx : x = 32
    · subst hx
      have ih := fldG_cost l []
      by_cases h0 : cur = []
      · subst h0
        rw [fldG_gap]
        simp only [List.length_nil, List.length_cons] at ih ⊢
        omega
      · rw [fldG_end h0]
        simp only [List.length_nil, List.length_cons, List.map_cons, List.sum_cons] at ih ⊢
        omega
    · have ih := fldG_cost l (cur ++ [x])
      rw [fldG_word hx]
      simp only [List.length_append, List.length_nil, List.length_cons] at ih ⊢
      omega
theorem sum_sub {l m : List Nat} (h : l.Sublist m) : l.sum ≤ m.sum := by
  induction h with
  | slnil => exact Nat.le_refl _
  | cons a h ih => simp only [List.sum_cons]; omega
  | cons_cons a h ih => simp only [List.sum_cons]; omega
theorem counts_cost (p : List UInt8) : costR (countsT ⟨p.toArray⟩) ≤ p.length + 1 := by
  have h := fldG_cost p []
  unfold countsT fieldsT costR
  have e : ((fldG [] (⟨p.toArray⟩ : ByteArray).data.toList).map (fun l => (⟨l.toArray⟩ : ByteArray))).map (fun s => s.size + 1) = (fldG [] p).map (fun w => w.length + 1) := by
    rw [List.map_map]
    apply List.map_congr_left
    intro w _
    show w.toArray.size + 1 = _
    rw [List.size_toArray]
  have h2 := sum_sub ((List.takeWhile_sublist (fun w => !(hashB w)) (l := (fldG [] (⟨p.toArray⟩ : ByteArray).data.toList).map (fun l => (⟨l.toArray⟩ : ByteArray)))).map (fun s => s.size + 1))
  rw [e] at h2
  simp only [List.length_nil] at h
  omega
theorem mem_take {α : Type} {p : α → Bool} {l : List α} {x : α} (h : x ∈ l.takeWhile p) : p x = true := by
  induction l with
  | nil => cases h
  | cons y l ih =>
    rw [List.takeWhile] at h
    split at h
    · rcases List.mem_cons.1 h with rfl | h
      · assumption
      · exact ih h
    · cases h
theorem counts_ok {p : List UInt8} (h : ∀ b ∈ p, 32 ≤ b.toNat ∧ b.toNat ≤ 126) : ∀ s ∈ countsT ⟨p.toArray⟩, wOk s = true := by
  intro s hs
  unfold countsT fieldsT at hs
  have hh : hashB s = false := by
    have := mem_take hs
    simpa using this
  have hm := (List.takeWhile_sublist _).subset hs
  obtain ⟨w, hw, rfl⟩ := List.mem_map.1 hm
  obtain ⟨h1, h2⟩ := fldG_words p [] h (fun b hb => by cases hb) w hw
  rw [wOk_list]
  unfold wOkL
  show (!w.isEmpty && !(w.head? == some 35) && w.all _) = true
  rw [Bool.and_eq_true, Bool.and_eq_true]
  refine ⟨⟨?_, ?_⟩, List.all_eq_true.2 (fun b hb => ?_)⟩
  · cases w with
    | nil => exact absurd rfl h1
    | cons _ _ => rfl
  · cases w with
    | nil => exact absurd rfl h1
    | cons b w =>
      have := hashB_cons b w
      unfold mkB at this
      rw [this] at hh
      have hne : b ≠ 35 := by simpa using hh
      have e : ((b :: w).head? == some 35) = false := beq_false_of_ne (fun e => hne (Option.some.inj e))
      rw [e]
      rfl
  · obtain ⟨g1, g2⟩ := h2 b hb
    rw [decide_eq_true g1, decide_eq_true g2]
    rfl
theorem pieces_sum (c : UInt8) : ∀ l : List UInt8, ((piecesL c l).map (fun p => p.length + 1)).sum = l.length + 1
  | [] => by unfold piecesL; rfl
  | x :: l => by
    have ih := pieces_sum c l
    by_cases hx : x = c
    · subst hx
      rw [piecesL_same]
      simp only [List.map_cons, List.sum_cons, List.length_nil, List.length_cons] at ih ⊢
      omega
    · cases e : piecesL c l with
      | nil => exact absurd e (piecesL_ne c l)
      | cons p ps =>
        rw [piecesL_step hx e]
        rw [e] at ih
        simp only [List.map_cons, List.sum_cons, List.length_cons] at ih ⊢
        omega
theorem rows_sum (f : List ByteArray → Nat) (g : List UInt8 → Nat) (h : ∀ p, f (countsT ⟨p.toArray⟩) ≤ g p) : ∀ ps : List (List UInt8), (((ps.map (fun p => countsT ⟨p.toArray⟩)).filter (fun l => !l.isEmpty)).map f).sum ≤ (ps.map g).sum
  | [] => Nat.le_refl _
  | p :: ps => by
    have ih := rows_sum f g h ps
    have hp := h p
    simp only [List.map_cons, List.filter_cons, List.sum_cons]
    split
    · simp only [List.map_cons, List.sum_cons]
      omega
    · omega
theorem spB_all {l : List UInt8} (h : l.all okB = true) : allOk (spB l) = true := by
  unfold allOk
  refine List.all_eq_true.2 (fun r hr => ?_)
  unfold spB at hr
  obtain ⟨h1, h2⟩ := List.mem_filter.1 hr
  obtain ⟨p, hp, rfl⟩ := List.mem_map.1 h1
  have hb : ∀ b ∈ p, 32 ≤ b.toNat ∧ b.toNat ≤ 126 := fun b hb => by
    obtain ⟨g1, g2⟩ := piecesL_mem 10 l p hp b hb
    rcases okB_good (List.all_eq_true.1 h b g1) with h3 | h3
    · exact absurd (UInt8.toNat_inj.1 h3) g2
    · exact h3
  unfold rowOk
  rw [Bool.and_eq_true]
  refine ⟨?_, List.all_eq_true.2 (counts_ok hb)⟩
  rw [decide_eq_true_eq]
  cases e : countsT ⟨p.toArray⟩ with
  | nil => rw [e] at h2; exact absurd h2 (by decide)
  | cons a b => exact Nat.succ_pos _
theorem join_len' (r : List ByteArray) : r ≠ [] → (Lib.join (W r) [32]).length + 1 = costR r := by
  intro hne
  cases r with
  | nil => exact absurd rfl hne
  | cons s r =>
    have : W (s :: r) = s.data.toList :: W r := rfl
    rw [this, Lib.join_cons, List.length_append, tail_len, data_length]
    unfold costR
    simp only [List.map_cons, List.sum_cons]
    omega
theorem text_sum : ∀ l : List (List ByteArray), (∀ r ∈ l, r ≠ []) → (linesText l).length = (l.map costR).sum
  | [], _ => rfl
  | r :: l, h => by
    have ih := text_sum l (fun x hx => h x (List.mem_cons_of_mem _ hx))
    have := join_len' r (h r (List.mem_cons_self ..))
    rw [text_cons, List.length_append, List.length_append, ih]
    simp only [List.map_cons, List.sum_cons, List.length_cons, List.length_nil]
    omega
theorem spB_ne (l : List UInt8) : ∀ r ∈ spB l, r ≠ [] := fun r hr e => by
  unfold spB at hr
  have := (List.mem_filter.1 hr).2
  rw [e] at this
  exact absurd this (by decide)
theorem spB_len (l : List UInt8) : (linesText (spB l)).length ≤ l.length + 1 := by
  rw [text_sum _ (spB_ne l), ← pieces_sum 10 l]
  unfold spB
  exact rows_sum costR (fun p => p.length + 1) counts_cost _
theorem spB_cost (l : List UInt8) : cost (spB l) ≤ 2 * (l.length + 1) := by
  have h := rows_sum (fun r => costR r + 1) (fun p => p.length + 2) (fun p => by have := counts_cost p; omega) (piecesL 10 l)
  have e : ∀ ps : List (List UInt8), (ps.map (fun p => p.length + 2)).sum ≤ 2 * (ps.map (fun p => p.length + 1)).sum := by
    intro ps
    induction ps with
    | nil => exact Nat.le_refl _
    | cons p ps ih => simp only [List.map_cons, List.sum_cons]; omega
  have h2 := e (piecesL 10 l)
  rw [pieces_sum] at h2
  unfold cost spB
  omega
/-! ### together -/
def prS (l : List (List ByteArray)) : ByteArray := if allOk l = true then (fin (linesText l)).1 else ⟨#[]⟩
def prE (l : List (List ByteArray)) : Int := if allOk l = true then (fin (linesText l)).2 else 2
theorem print_ev2 (l : List (List ByteArray)) (hs : Small l) (hc : cost l ≤ 9000) : Ev (fun k => lines_Print.f k l) (prS l, prE l) := by
  have := print_ev l hs hc
  unfold prS prE
  by_cases h : allOk l = true
  · rw [if_pos h] at this
    rw [if_pos h, if_pos h]
    exact this
  · rw [if_neg h] at this
    rw [if_neg h, if_neg h]
    exact this
theorem pr_ways (l : List (List ByteArray)) : (prE l = 0 ∧ splE (prS l) = 0 ∧ splL (prS l) = l ∧ (prS l).size ≤ 4096 ∧ (prS l).size = (linesText l).length ∧ allOk l = true) ∨ (prE l = 3 ∧ prS l = ⟨#[]⟩ ∧ 4096 < (linesText l).length ∧ allOk l = true) ∨ (prE l = 2 ∧ prS l = ⟨#[]⟩ ∧ allOk l = false) := by
  unfold prE prS
  cases h : allOk l with
  | false => exact .inr (.inr ⟨rfl, rfl, rfl⟩)
  | true =>
    rw [if_pos rfl, if_pos rfl]
    unfold fin
    by_cases hl : (linesText l).length > 4096
    · rw [if_pos hl]
      exact .inr (.inl ⟨rfl, rfl, hl, rfl⟩)
    · rw [if_neg hl]
      obtain ⟨h1, h2⟩ := text_split h (by omega)
      have hs : (⟨(linesText l).toArray⟩ : ByteArray).size = (linesText l).length := List.size_toArray ..
      exact .inl ⟨rfl, h1, h2, by show (⟨(linesText l).toArray⟩ : ByteArray).size ≤ 4096; omega, hs, rfl⟩
theorem split_ways (s : ByteArray) (h : splE s = 0) : s.size ≤ 4096 ∧ allOk (splL s) = true ∧ (linesText (splL s)).length ≤ s.size + 1 ∧ cost (splL s) ≤ 9000 := by
  have hs : s.size ≤ 4096 := by
    unfold splE at h
    split at h
    · exact absurd h (by decide)
    · omega
  have hok : okT s = true := by
    rw [splE_of hs] at h
    split at h
    · assumption
    · exact absurd h (by decide)
  rw [splL_ok h]
  refine ⟨hs, spB_all hok, ?_, ?_⟩
  · have := spB_len s.data.toList
    rw [data_length] at this
    exact this
  · have := spB_cost s.data.toList
    rw [data_length] at this
    omega
end Go.Proofs.YtpllckhmnjgohaaDoor.Pure
