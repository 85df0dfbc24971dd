/- Plain laws: the document's ids, tokens, their texts, and whether a request goes round, are those that the program tells; no condition beyond the sizes. -/
import Derived.Test.YtnndmbhfolgohaaDoorPx5
import Derived.Test.YtnndmbhfolgohaaDoorPx6
import Derived.Test.YtnndmbhfolgohaaDoorPx7
import Derived.Test.YtnndmbhfolgohaaDoorPx8
import Derived.Test.YtnndmbhfolgohaaDoorSLtokenGreat
namespace Go.Proofs.YtnndmbhfolgohaaDoor.Pure
open Go.RowKit Go.Proofs.YtnndmbhfolgohaaDoor.P Go.Proofs.YtnndmbhfolgohaaDoorW.PrintWords Go.Proofs.YtnndmbhfolgohaaDoorW.PrintLast

/-- From some number of rounds on, that is told. -/
def Ev {α : Type} (F : Nat → Option α) (r : α) : Prop := ∃ K, ∀ k, K ≤ k → F k = some r
theorem Ev.succ {α : Type} {F : Nat → Option α} {r : α} (K : Nat) (h : ∀ q, K ≤ q → F (q + 1) = some r) : Ev F r :=
  ⟨K + 1, fun k hk => by obtain ⟨q, rfl⟩ : ∃ q, k = q + 1 := ⟨k - 1, by omega⟩; exact h q (by omega)⟩
theorem ref_letter (c : Int) : postilionref17_letter.f c = some (ltB c) := by
  unfold postilionref17_letter.f ltB
  by_cases h1 : c ≥ 97
  · rw [if_pos h1]
    by_cases h2 : c ≤ 122
    · rw [if_pos h2, decide_eq_true (show 97 ≤ c ∧ c ≤ 122 from ⟨h1, h2⟩)]; rfl
    · rw [if_neg h2, if_pos (by omega), decide_eq_false (show ¬ (97 ≤ c ∧ c ≤ 122) by omega), decide_eq_false (show ¬ (48 ≤ c ∧ c ≤ 57) by omega), decide_eq_false (show ¬ c ≤ 57 by omega)]; rfl
  · rw [if_neg h1, decide_eq_false (show ¬ (97 ≤ c ∧ c ≤ 122) by omega)]
    by_cases h2 : c ≥ 48
    · rw [if_pos h2]
      by_cases h3 : c ≤ 57
      · rw [decide_eq_true h3, decide_eq_true (show 48 ≤ c ∧ c ≤ 57 from ⟨h2, h3⟩)]; rfl
      · rw [decide_eq_false h3, decide_eq_false (show ¬ (48 ≤ c ∧ c ≤ 57) by omega)]; rfl
    · rw [if_neg h2, decide_eq_false (show ¬ (48 ≤ c ∧ c ≤ 57) by omega)]; rfl
theorem ref_ID_loop (s : ByteArray) (hs : s.size ≤ 1000000) : ∀ (d i : Nat), s.size - i = d → i ≤ s.size → ltUp s i = true → Ev (fun k => postilionref17_ID.l0 k s (i : Int)) (idB s) := by
  intro d
  induction d with
  | zero =>
    intro i hd hi hu
    obtain rfl : i = s.size := by omega
    refine Ev.succ 0 (fun q _ => ?_)
    show postilionref17_ID.l0 (q + 1) s _ = _
    rw [postilionref17_ID.l0, if_neg (Int.lt_irrefl _)]
    unfold idB
    rw [hu, Bool.and_true]
    by_cases h1 : (s.size : Int) ≥ 1
    · rw [if_pos h1]
      congr 1
      exact decide_eq_decide.2 (by omega)
    · rw [if_neg h1, decide_eq_false (by omega)]
  | succ d ih =>
    intro i hd hi hu
    have hm := ltUp_more s i
    rw [hu, Bool.true_and] at hm
    have e0 : ∀ q, postilionref17_ID.l0 (q + 1) s (i : Int) = if ltB (bt s (i : Int)) = true then postilionref17_ID.l0 q s ((i + 1 : Nat) : Int) else some false := fun q => by
      rw [postilionref17_ID.l0, if_pos (by omega), if_pos (by omega), ref_letter, Option.bind_some, show wrap64 ((i : Int) + 1) = ((i + 1 : Nat) : Int) by unfold wrap64; omega]
    cases hb : ltB (bt s (i : Int)) with
    | true =>
      obtain ⟨K, hK⟩ := ih (i + 1) (by omega) (by omega) (by rw [hm, hb])
      refine Ev.succ K (fun q hq => ?_)
      show postilionref17_ID.l0 (q + 1) s _ = _
      rw [e0, hb, if_pos rfl]
      exact hK q hq
    | false =>
      refine Ev.succ 0 (fun q _ => ?_)
      show postilionref17_ID.l0 (q + 1) s _ = _
      rw [e0, hb, if_neg (by decide)]
      unfold idB
      rw [ltUp_no (n := s.size) hb (by omega), Bool.and_false]
theorem refID_ev (s : ByteArray) (hs : s.size ≤ 1000000) : Ev (fun k => postilionref17_ID.f k s) (idB s) := ref_ID_loop s hs (s.size - 0) 0 rfl (Nat.zero_le _) rfl
theorem ref_May_loop (l : List ByteArray) (hl : l.length ≤ 1000000) (hs : ∀ x ∈ l, x.size ≤ 1000000) : ∀ (d i : Nat), l.length - i = d → i ≤ l.length → oddUp l i = false → Ev (fun k => postilionref17_May.l0 k l (i : Int)) (mayB l) := by
  intro d
  induction d with
  | zero =>
    intro i hd hi hu
    obtain rfl : i = l.length := by omega
    refine Ev.succ 0 (fun q _ => ?_)
    show postilionref17_May.l0 (q + 1) l _ = _
    rw [postilionref17_May.l0, if_neg (Int.lt_irrefl _), mayB_eq]
    unfold oddUp at hu
    rw [List.take_of_length_le (Nat.le_refl _)] at hu
    rw [hu, Bool.not_false, Bool.and_true]
  | succ d ih =>
    intro i hd hi hu
    have hlt : i < l.length := by omega
    have hm := oddUp_more hlt
    rw [hu, Bool.false_or] at hm
    have hmem := odd_at hlt
    obtain ⟨K1, hK1⟩ := refID_ev _ (hs _ hmem)
    replace hK1 : ∀ k, K1 ≤ k → postilionref17_ID.f k (rdOf ByteArray.empty l (i : Int)) = some (idB (rdOf ByteArray.empty l (i : Int))) := hK1
    have e0 : ∀ q, K1 ≤ q → postilionref17_May.l0 (q + 1) l (i : Int) = if idB (rdOf ByteArray.empty l (i : Int)) = true then postilionref17_May.l0 q l ((i + 1 : Nat) : Int) else some false := fun q hq => by
      rw [postilionref17_May.l0, if_pos (by omega), if_pos (by omega), hK1 q hq, Option.bind_some, show wrap64 ((i : Int) + 1) = ((i + 1 : Nat) : Int) by unfold wrap64; omega]
    cases hb : idB (rdOf ByteArray.empty l (i : Int)) with
    | true =>
      obtain ⟨K, hK⟩ := ih (i + 1) (by omega) (by omega) (by rw [hm, hb]; rfl)
      refine Ev.succ (max K K1) (fun q hq => ?_)
      show postilionref17_May.l0 (q + 1) l _ = _
      rw [e0 q (by omega), hb, if_pos rfl]
      exact hK q (by omega)
    | false =>
      refine Ev.succ K1 (fun q hq => ?_)
      show postilionref17_May.l0 (q + 1) l _ = _
      rw [e0 q hq, hb, if_neg (by decide), mayB_odd hmem hb]
theorem refMay_ev (l : List ByteArray) (hl : l.length ≤ 1000000) (hs : ∀ x ∈ l, x.size ≤ 1000000) : Ev (fun k => postilionref17_May.f k l) (mayB l) := ref_May_loop l hl hs (l.length - 0) 0 rfl (Nat.zero_le _) rfl
theorem ref_Check_loop (own : ByteArray) (l : List ByteArray) (most : Int) (hl : l.length ≤ 1000000) (hs : ∀ x ∈ l, x.size ≤ 1000000) : ∀ (d i : Nat), l.length - i = d → i ≤ l.length → (∀ j, j < i → (rdOf ByteArray.empty l (j : Int)).toList ≠ own.toList) → Ev (fun k => postilionref17_Check.l0 k own l most (i : Int)) (ckE own l most) := by
  intro d
  induction d with
  | zero =>
    intro i hd hi hu
    obtain rfl : i = l.length := by omega
    obtain ⟨K1, hK1⟩ := refMay_ev l hl hs
    replace hK1 : ∀ k, K1 ≤ k → postilionref17_May.f k l = some (mayB l) := hK1
    have hc : Lib.containsS l own = false := by
      rw [Bool.eq_false_iff]
      intro h
      rw [Lib.containsS_iff] at h
      obtain ⟨j, hj, e⟩ := List.getElem_of_mem h
      refine hu j hj ?_
      unfold rdOf
      rw [Int.toNat_natCast, List.getD_eq_getElem?_getD, List.getElem?_eq_getElem hj]
      exact congrArg _ e
    refine Ev.succ K1 (fun q hq => ?_)
    show postilionref17_Check.l0 (q + 1) own l most _ = _
    rw [postilionref17_Check.l0, if_neg (Int.lt_irrefl _), hK1 q hq, Option.bind_some]
    unfold ckE
    rw [hc]
    cases mayB l with
    | true =>
      rw [if_pos rfl]
      by_cases hm : (l.length : Int) ≥ most
      · rw [if_pos hm, if_neg (by omega)]
      · rw [if_neg hm, if_pos ⟨rfl, rfl, by omega⟩]
    | false => rw [if_neg (by decide), if_neg (by simp)]
  | succ d ih =>
    intro i hd hi hu
    have hlt : i < l.length := by omega
    have e0 : ∀ q, postilionref17_Check.l0 (q + 1) own l most (i : Int) = if (rdOf ByteArray.empty l (i : Int)).toList = own.toList then some 170 else postilionref17_Check.l0 q own l most ((i + 1 : Nat) : Int) := fun q => by
      rw [postilionref17_Check.l0, if_pos (by omega), if_pos (by omega), show wrap64 ((i : Int) + 1) = ((i + 1 : Nat) : Int) by unfold wrap64; omega]
    by_cases hb : (rdOf ByteArray.empty l (i : Int)).toList = own.toList
    · have hmem := odd_at hlt
      have hown : rdOf ByteArray.empty l (i : Int) = own := by
        rw [ByteArray.toList_eq, ByteArray.toList_eq] at hb
        apply ByteArray.ext
        exact Array.ext' hb
      rw [hown] at hmem
      refine Ev.succ 0 (fun q _ => ?_)
      show postilionref17_Check.l0 (q + 1) own l most _ = _
      rw [e0, if_pos hb]
      unfold ckE
      rw [(Lib.containsS_iff _ _).2 hmem, if_neg (by simp)]
    · obtain ⟨K, hK⟩ := ih (i + 1) (by omega) (by omega) (fun j hj => by
        rcases Nat.lt_or_ge j i with h | h
        · exact hu j h
        · obtain rfl : j = i := by omega
          exact hb)
      refine Ev.succ K (fun q hq => ?_)
      show postilionref17_Check.l0 (q + 1) own l most _ = _
      rw [e0, if_neg hb]
      exact hK q hq
theorem refCheck_ev (own : ByteArray) (l : List ByteArray) (most : Int) (hl : l.length ≤ 1000000) (hs : ∀ x ∈ l, x.size ≤ 1000000) : Ev (fun k => postilionref17_Check.f k own l most) (ckE own l most) := ref_Check_loop own l most hl hs (l.length - 0) 0 rfl (Nat.zero_le _) (fun _ hj => absurd hj (Nat.not_lt_zero _))
/-- The pieces, of which the first one goes on from what was read. -/
def joinW (w : List UInt8) : List (List UInt8) → List ByteArray
  | [] => []
  | p :: ps => ⟨(w ++ p).toArray⟩ :: ps.map (fun l => ⟨l.toArray⟩)
theorem one_data (c : UInt8) : strOfNums [(c.toNat : Int)] = ⟨#[c]⟩ := by
  apply ByteArray.ext
  apply Array.ext'
  rw [strOfNums_data]
  simp
theorem app_data (w : ByteArray) (c : UInt8) : (w ++ (⟨#[c]⟩ : ByteArray)).data.toList = w.data.toList ++ [c] := by
  have e : (w ++ (⟨#[c]⟩ : ByteArray)).data = w.data ++ #[c] := ByteArray.data_append
  rw [e, Array.toList_append]
theorem bt_list (s : ByteArray) (i : Nat) (h : i < s.size) (h2 : i < s.data.toList.length) : bt s (i : Int) = ((s.data.toList[i]'h2).toNat : Int) := by
  have h3 := bt_at s (i : Int) (by simpa using h)
  rw [← h3]
  rfl
theorem joinW_len (w : List UInt8) (c : UInt8) (r : List UInt8) : (joinW w (piecesL c r)).length ≤ r.length + 1 := by
  have h : ∀ r : List UInt8, (piecesL c r).length ≤ r.length + 1 := by
    intro r
    induction r with
    | nil => unfold piecesL; simp
    | cons x xs ih =>
      by_cases hx : x = c
      · subst hx; rw [piecesL_same]; simp; omega
      · cases e : piecesL c xs with
        | nil => exact absurd e (piecesL_ne c xs)
        | cons q qs =>
          rw [piecesL_step hx e]
          rw [e] at ih
          simp at ih ⊢
          omega
  have h2 := h r
  cases e : piecesL c r with
  | nil => simp [joinW]
  | cons p ps =>
    rw [e] at h2
    simp [joinW] at h2 ⊢
    omega
theorem joinW_size (w : List UInt8) (c : UInt8) (r : List UInt8) : ∀ x ∈ joinW w (piecesL c r), x.size ≤ w.length + r.length := by
  have h := piecesL_le c r
  cases e : piecesL c r with
  | nil => intro x hx; cases hx
  | cons p ps =>
    rw [e] at h
    intro x hx
    rcases List.mem_cons.1 hx with rfl | hx
    · have := h p (List.mem_cons_self ..)
      show (w ++ p).toArray.size ≤ _
      rw [List.size_toArray, List.length_append]
      omega
    · obtain ⟨y, hy, rfl⟩ := List.mem_map.1 hx
      have := h y (List.mem_cons_of_mem _ hy)
      show y.toArray.size ≤ _
      rw [List.size_toArray]
      omega
theorem ref_Parse_loop (s : ByteArray) (c : UInt8) (hs : s.size ≤ 100000) : ∀ (d i : Nat) (l : List ByteArray) (w : ByteArray), s.size - i = d → i ≤ s.size → l.length ≤ i → w.size ≤ i → (∀ x ∈ l, x.size ≤ i) →
    Ev (fun k => postilionref17_Parse.l0 k s (c.toNat : Int) l w (i : Int)) (if mayB (l ++ joinW w.data.toList (piecesL c (s.data.toList.drop i))) = true then (l ++ joinW w.data.toList (piecesL c (s.data.toList.drop i)), 0) else ([], 6)) := by
  intro d
  induction d with
  | zero =>
    intro i l w hd hi hl hw hx
    obtain rfl : i = s.size := by omega
    have e0 : s.data.toList.drop s.size = [] := List.drop_eq_nil_of_le (by rw [data_length]; exact Nat.le_refl _)
    have e1 : joinW w.data.toList (piecesL c []) = [w] := by unfold piecesL joinW; simp
    rw [e0, e1]
    obtain ⟨K1, hK1⟩ := refMay_ev (l ++ [w]) (by simp; omega) (fun x hm => by
      rcases List.mem_append.1 hm with h | h
      · have := hx x h; omega
      · rw [List.mem_singleton.1 h]; omega)
    replace hK1 : ∀ k, K1 ≤ k → postilionref17_May.f k (l ++ [w]) = some (mayB (l ++ [w])) := hK1
    refine Ev.succ K1 (fun q hq => ?_)
    show postilionref17_Parse.l0 (q + 1) s _ l w _ = _
    rw [postilionref17_Parse.l0, if_neg (Int.lt_irrefl _), if_pos (by omega), Option.bind_some, hK1 q hq, Option.bind_some]
    cases mayB (l ++ [w]) <;> rfl
  | succ d ih =>
    intro i l w hd hi hl hw hx
    have hlt : i < s.size := by omega
    have h2 : i < s.data.toList.length := by rw [data_length]; exact hlt
    have hb := bt_list s i hlt h2
    rw [List.drop_eq_getElem_cons h2]
    generalize hB : (s.data.toList[i]'h2) = b at hb
    have hwr : wrap64 ((i : Int) + 1) = ((i + 1 : Nat) : Int) := by unfold wrap64; omega
    by_cases hc : b = c
    · subst hc
      obtain ⟨K, hK⟩ := ih (i + 1) (l ++ [w]) ⟨#[]⟩ (by omega) (by omega) (by simp; omega) (by simp [ByteArray.size]) (fun x hm => by
        rcases List.mem_append.1 hm with h | h
        · have := hx x h; omega
        · rw [List.mem_singleton.1 h]; omega)
      have e1 : l ++ joinW w.data.toList (piecesL b (b :: s.data.toList.drop (i + 1))) = (l ++ [w]) ++ joinW ([] : List UInt8) (piecesL b (s.data.toList.drop (i + 1))) := by
        rw [piecesL_same]
        cases e : piecesL b (s.data.toList.drop (i + 1)) with
        | nil => exact absurd e (piecesL_ne _ _)
        | cons p ps =>
          simp [joinW]
      rw [e1]
      refine Ev.succ K (fun q hq => ?_)
      show postilionref17_Parse.l0 (q + 1) s _ l w _ = _
      rw [postilionref17_Parse.l0, if_pos (by omega), if_pos (by omega), if_pos hb, if_pos (by omega), hwr]
      exact hK q hq
    · have hbc : ¬ bt s (i : Int) = (c.toNat : Int) := by
        rw [hb]
        intro e
        exact hc (UInt8.toNat_inj.1 (by omega))
      obtain ⟨K, hK⟩ := ih (i + 1) l (w ++ (⟨#[b]⟩ : ByteArray)) (by omega) (by omega) (by omega) (by rw [ByteArray.size_append]; show _ + 1 ≤ _; omega) (fun x hm => by have := hx x hm; omega)
      have e1 : joinW w.data.toList (piecesL c (b :: s.data.toList.drop (i + 1))) = joinW (w ++ (⟨#[b]⟩ : ByteArray)).data.toList (piecesL c (s.data.toList.drop (i + 1))) := by
        cases e : piecesL c (s.data.toList.drop (i + 1)) with
        | nil => exact absurd e (piecesL_ne _ _)
        | cons p ps =>
          rw [piecesL_step hc e, app_data]
          simp [joinW]
      rw [e1]
      refine Ev.succ K (fun q hq => ?_)
      show postilionref17_Parse.l0 (q + 1) s _ l w _ = _
      rw [postilionref17_Parse.l0, if_pos (by omega), if_pos (by omega), if_neg hbc, Option.bind_some, hb, one_data, if_pos (by show w.size + 1 ≤ _; omega), hwr]
      exact hK q hq
theorem refParse_ev (s : ByteArray) (c : UInt8) (hs : s.size ≤ 100000) : Ev (fun k => postilionref17_Parse.f k s (c.toNat : Int)) (parL s c, parE s c) := by
  have e0 : ∀ k, postilionref17_Parse.f k s (c.toNat : Int) = if ltB (c.toNat : Int) = true then some ([], 2) else if s.toList = [] then some ([], 0) else postilionref17_Parse.l0 k s (c.toNat : Int) [] ⟨#[]⟩ 0 := fun k => by
    unfold postilionref17_Parse.f
    rw [ref_letter, Option.bind_some]
  have hz : s.toList = ([] : List UInt8) ↔ s.size = 0 := by
    rw [ByteArray.toList_eq, ← data_length, List.length_eq_zero_iff]
  unfold parL parE
  by_cases h1 : ltB (c.toNat : Int) = true
  · exact ⟨0, fun k _ => by show postilionref17_Parse.f k s _ = _; rw [e0, if_pos h1, if_pos h1, if_pos h1]⟩
  · rw [if_neg h1, if_neg h1]
    by_cases h2 : s.size = 0
    · exact ⟨0, fun k _ => by show postilionref17_Parse.f k s _ = _; rw [e0, if_neg h1, if_pos (hz.2 h2), if_pos h2, if_pos h2]⟩
    · rw [if_neg h2, if_neg h2]
      obtain ⟨K, hK⟩ := ref_Parse_loop s c hs (s.size - 0) 0 [] ⟨#[]⟩ rfl (Nat.zero_le _) (Nat.le_refl _) (by simp [ByteArray.size]) (fun x hm => by cases hm)
      refine ⟨K, fun k hk => ?_⟩
      show postilionref17_Parse.f k s _ = _
      rw [e0, if_neg h1, if_neg (fun e => h2 (hz.1 e))]
      refine (hK k hk).trans ?_
      have e1 : ([] : List ByteArray) ++ joinW (⟨#[]⟩ : ByteArray).data.toList (piecesL c (s.data.toList.drop 0)) = texts c s := by
        rw [List.drop_zero, List.nil_append]
        unfold texts
        cases e : piecesL c s.data.toList with
        | nil => exact absurd e (piecesL_ne _ _)
        | cons p ps => simp [joinW]
      rw [e1]
      by_cases h3 : mayB (texts c s) = true
      · rw [if_pos h3, if_pos h3, if_pos h3]
      · rw [if_neg h3, if_neg h3, if_neg h3]
theorem joinT_snoc {l : List ByteArray} {x : ByteArray} {c : UInt8} (h : l ≠ []) : joinT (l ++ [x]) c = (joinT l c ++ (⟨#[c]⟩ : ByteArray)) ++ x := by
  cases l with
  | nil => exact absurd rfl h
  | cons y ys =>
    have e : (Lib.join ((y :: ys ++ [x]).map (·.data.toList)) [c]) = Lib.join ((y :: ys).map (·.data.toList)) [c] ++ [c] ++ x.data.toList := by
      simp only [List.cons_append, List.map_cons, List.map_append, List.map_nil]
      rw [Lib.join_cons, Lib.join_cons]
      simp [Lib.joinTail]
    apply ByteArray.ext
    apply Array.ext'
    show (Lib.join ((y :: ys ++ [x]).map (·.data.toList)) [c]).toArray.toList = _
    rw [e]
    simp [joinT, ByteArray.data_append]
theorem ref_Print_loop (l : List ByteArray) (c : UInt8) (hl : l.length ≤ 8) (hs : ∀ x ∈ l, x.size ≤ 8) : ∀ (d i : Nat) (out : ByteArray), l.length - i = d → i ≤ l.length → out.size ≤ 9 * i → out = joinT (l.take i) c →
    Ev (fun k => postilionref17_Print.l0 k l (c.toNat : Int) out (i : Int)) (joinT l c, 0) := by
  intro d
  induction d with
  | zero =>
    intro i out hd hi ho he
    obtain rfl : i = l.length := by omega
    rw [List.take_of_length_le (Nat.le_refl _)] at he
    refine Ev.succ 0 (fun q _ => ?_)
    show postilionref17_Print.l0 (q + 1) l _ out _ = _
    rw [postilionref17_Print.l0, if_neg (Int.lt_irrefl _), he]
  | succ d ih =>
    intro i out hd hi ho he
    have hlt : i < l.length := by omega
    have hmem := odd_at hlt
    have hx := hs _ hmem
    have hwr : wrap64 ((i : Int) + 1) = ((i + 1 : Nat) : Int) := by unfold wrap64; omega
    have ht : l.take (i + 1) = l.take i ++ [rdOf ByteArray.empty l (i : Int)] := by
      rw [(take_snocD hlt).1]
      unfold rdOf
      rw [Int.toNat_natCast]
    generalize hrd : rdOf ByteArray.empty l (i : Int) = x at ht hx hmem
    have hstep : out.size + x.size ≤ 9 * (i + 1) := by omega
    by_cases h0 : i = 0
    · have e2 : out ++ x = joinT (l.take (i + 1)) c := by
        rw [ht, he, h0]
        unfold joinT
        apply ByteArray.ext
        apply Array.ext'
        simp [Lib.join_one, Lib.join_nil, ByteArray.data_append]
      obtain ⟨K, hK⟩ := ih (i + 1) (out ++ x) (by omega) (by omega) (by rw [ByteArray.size_append]; omega) e2
      refine Ev.succ K (fun q hq => ?_)
      show postilionref17_Print.l0 (q + 1) l _ out _ = _
      rw [postilionref17_Print.l0, if_pos (by omega), if_neg (by omega), if_pos (by omega), hrd, if_pos (by omega), hwr]
      exact hK q hq
    · have e2 : (out ++ (⟨#[c]⟩ : ByteArray)) ++ x = joinT (l.take (i + 1)) c := by
        have hne : l.take i ≠ [] := by
          intro e
          have := congrArg List.length e
          rw [List.length_take] at this
          simp only [List.length_nil] at this
          omega
        rw [ht, he, joinT_snoc hne]
      have hone : (strOfNums [(c.toNat : Int)]).size = 1 := by rw [one_data]; rfl
      obtain ⟨K, hK⟩ := ih (i + 1) ((out ++ (⟨#[c]⟩ : ByteArray)) ++ x) (by omega) (by omega) (by rw [ByteArray.size_append, ByteArray.size_append]; show out.size + 1 + x.size ≤ _; omega) e2
      refine Ev.succ K (fun q hq => ?_)
      show postilionref17_Print.l0 (q + 1) l _ out _ = _
      rw [postilionref17_Print.l0, if_pos (by omega), if_pos (by omega), Option.bind_some, if_pos (by omega), if_pos (by omega), hrd, if_pos (by rw [ByteArray.size_append]; omega), one_data, hwr]
      exact hK q hq
theorem refPrint_ev (l : List ByteArray) (c : UInt8) (hl : l.length ≤ 1000) (hs : ∀ x ∈ l, x.size ≤ 1000000) : Ev (fun k => postilionref17_Print.f k l (c.toNat : Int)) (priS l c, priE l c) := by
  obtain ⟨K1, hK1⟩ := refMay_ev l (by omega) hs
  replace hK1 : ∀ k, K1 ≤ k → postilionref17_May.f k l = some (mayB l) := hK1
  have e0 : ∀ k, K1 ≤ k → postilionref17_Print.f k l (c.toNat : Int) = if ltB (c.toNat : Int) = true then postilionref17_Print.j0 k l (c.toNat : Int) true else postilionref17_Print.j0 k l (c.toNat : Int) (!(mayB l)) := fun k hk => by
    unfold postilionref17_Print.f
    rw [ref_letter, Option.bind_some, hK1 k hk, Option.bind_some]
  have bad : ∀ q, postilionref17_Print.j0 (q + 1) l (c.toNat : Int) true = some (⟨#[]⟩, 2) := fun q => by rw [postilionref17_Print.j0, if_pos rfl]
  unfold priS priE
  by_cases h1 : ltB (c.toNat : Int) = true
  · rw [if_neg (by rw [h1]; simp), if_neg (by rw [h1]; simp)]
    refine Ev.succ K1 (fun q hq => ?_)
    show postilionref17_Print.f (q + 1) l _ = _
    rw [e0 _ (by omega), if_pos h1, bad]
  · have h1f : ltB (c.toNat : Int) = false := by simpa using h1
    cases hm : mayB l with
    | false =>
      rw [if_neg (by simp), if_neg (by simp)]
      refine Ev.succ K1 (fun q hq => ?_)
      show postilionref17_Print.f (q + 1) l _ = _
      rw [e0 _ (by omega), if_neg h1, hm]
      exact bad q
    | true =>
      rw [if_pos ⟨h1f, rfl⟩, if_pos ⟨h1f, rfl⟩]
      obtain ⟨h8, hid⟩ := mayB_id hm
      obtain ⟨K, hK⟩ := ref_Print_loop l c h8 (fun x hx => (idB_size (hid x hx)).2) (l.length - 0) 0 ⟨#[]⟩ rfl (Nat.zero_le _) (Nat.le_refl _) rfl
      refine Ev.succ (max K K1) (fun q hq => ?_)
      show postilionref17_Print.f (q + 1) l _ = _
      rw [e0 _ (by omega), if_neg h1, hm]
      show postilionref17_Print.j0 (q + 1) l _ false = _
      rw [postilionref17_Print.j0, if_neg (by decide)]
      exact hK q (by omega)
theorem refNext (own : ByteArray) (l : List ByteArray) (hl : l.length ≤ 1000) : postilionref17_Next.f own l = some (l ++ [own]) := by
  unfold postilionref17_Next.f
  rw [if_pos (by simp; omega), Option.bind_some, if_pos (by simp; omega), List.nil_append]
end Go.Proofs.YtnndmbhfolgohaaDoor.Pure
