import Derived.Test.YtnlggkihjfobkaaSextetLem2
namespace Go.Proofs.Ytnlggkihjfobkaa.Pure
open Go.RowKit Go.Proofs.Ytnlggkihjfobkaa.P Go.Proofs.YtnlggkihjfobkaaW.PrintWords Go.Proofs.YtnlggkihjfobkaaW.PrintLast

theorem bt_get (s : ByteArray) (i : Nat) (h : i < s.data.toList.length) : bt s (i : Int) = ((s.data.toList[i].toNat : Nat) : Int) := by
  have h2 : i < s.size := by rw [data_length] at h; exact h
  unfold bt
  rw [dif_pos (by rw [Int.toNat_natCast]; exact h2)]
  rfl
/-- One letter more: the number, how many letters. -/
def g (p : Nat × Nat) (v : Int) : Nat × Nat := if 0 ≤ v then (64 * p.1 + v.toNat, p.2 + 1) else (64 * p.1, p.2)
theorem g_in {p : Nat × Nat} {v : Int} (hv : v < 64) {B C : Nat} (h : p.1 < B) (h2 : p.2 ≤ C) : (g p v).1 < 64 * B ∧ (g p v).2 ≤ C + 1 := by
  unfold g
  split
  · exact ⟨by simp only; omega, by simp only; omega⟩
  · exact ⟨by simp only; omega, by simp only; omega⟩
theorem g_letter (p : Nat × Nat) (n : Nat) (h : n < 64) : g p (dxNum (S n)) = (64 * p.1 + n, p.2 + 1) := by
  unfold g
  rw [num_letter n h, if_pos (Int.natCast_nonneg n), Int.toNat_natCast]
theorem g_pad (p : Nat × Nat) : g p (dxNum 61) = (64 * p.1, p.2) := by
  unfold g
  rw [num_pad, if_neg (by decide)]
theorem l1_step (s : ByteArray) (X : List Int) (i j n m : Nat) (hj : j < 4) (hij : i + j < s.data.toList.length) (hi : i ≤ 1000000) (hn : n < 16777216) (hm : m ≤ 4) (q : Nat) (hq : 70 ≤ q) :
    postilionref05_Decode.l1 (q + 1) s X (i : Int) (n : Int) (m : Int) (j : Int) = postilionref05_Decode.l1 q s X (i : Int) ((g (n, m) (dxNum s.data.toList[i + j])).1 : Int) ((g (n, m) (dxNum s.data.toList[i + j])).2 : Int) ((j + 1 : Nat) : Int) := by
  have hij2 : i + j < s.size := by rw [data_length] at hij; exact hij
  have w1 : wrap64 ((i : Int) + (j : Int)) = ((i + j : Nat) : Int) := by rw [wrap_id (by omega) (by omega)]; omega
  have w2 : wrap64 ((j : Int) + 1) = ((j + 1 : Nat) : Int) := by rw [wrap_id (by omega) (by omega)]; omega
  have w3 : wrap64 ((m : Int) + 1) = ((m + 1 : Nat) : Int) := by rw [wrap_id (by omega) (by omega)]; omega
  have w4 : wrap64 (64 * (n : Int)) = ((64 * n : Nat) : Int) := by rw [wrap_id (by omega) (by omega)]; omega
  have hv := dxNum_in s.data.toList[i + j]
  simp only [postilionref05_Decode.l1]
  rw [if_pos (by omega), w1, if_pos (Int.natCast_nonneg _), if_pos (Int.ofNat_lt.mpr hij2), bt_get s (i + j) hij, value_f _ q hq, Option.bind_some, w2, w3, w4]
  generalize dxNum s.data.toList[i + j] = v at hv ⊢
  by_cases h0 : 0 ≤ v
  · have e : g (n, m) v = (64 * n + v.toNat, m + 1) := by unfold g; rw [if_pos h0]
    have w5 : wrap64 (((64 * n : Nat) : Int) + v) = ((64 * n + v.toNat : Nat) : Int) := by rw [wrap_id (by omega) (by omega)]; omega
    rw [if_pos (show v ≥ 0 from h0), w5, e]
  · have e : g (n, m) v = (64 * n, m) := by unfold g; rw [if_neg h0]
    rw [if_neg (show ¬ v ≥ 0 from h0), e]
/-- The bytes of a round. -/
def three (p : Nat × Nat) : List Nat := [p.1 / 65536 % 256, p.1 / 256 % 256 % 256, p.1 % 256 % 256].take (p.2 - 1)
theorem three_small (p : Nat × Nat) : Small (three p) := fun x hx => by
  have h := List.mem_of_mem_take hx
  simp only [List.mem_cons, List.not_mem_nil, or_false] at h
  rcases h with rfl | rfl | rfl <;> exact Nat.mod_lt _ (by decide)
theorem three_len (p : Nat × Nat) : (three p).length ≤ 3 := by
  unfold three
  rw [List.length_take]
  exact Nat.min_le_right _ _
theorem l1_end (s : ByteArray) (X : List Nat) (i n m : Nat) (hi : i ≤ 1000000) (hn : n < 16777216) (hm : m ≤ 4) (hX : X.length ≤ 1000000) (q : Nat) :
    postilionref05_Decode.l1 (q + 1) s (up X) (i : Int) (n : Int) (m : Int) 4 = if m < 2 then some ([], 6) else postilionref05_Decode.l0 q s (up (X ++ three (n, m))) ((i + 4 : Nat) : Int) := by
  have w1 : wrap64 ((i : Int) + 4) = ((i + 4 : Nat) : Int) := by rw [wrap_id (by omega) (by omega)]; omega
  have e1 : wrap64 (Int.tdiv (n : Int) 65536) % 256 = ((n / 65536 % 256 : Nat) : Int) := by
    rw [show Int.tdiv (n : Int) 65536 = ((n / 65536 : Nat) : Int) from rfl, wn _ (by omega)]
    rfl
  have e2 : Int.tmod (wrap64 (Int.tdiv (n : Int) 256)) 256 % 256 = ((n / 256 % 256 % 256 : Nat) : Int) := by
    rw [show Int.tdiv (n : Int) 256 = ((n / 256 : Nat) : Int) from rfl, wn _ (by omega)]
    rfl
  have e3 : Int.tmod (n : Int) 256 % 256 = ((n % 256 % 256 : Nat) : Int) := rfl
  simp only [postilionref05_Decode.l1]
  rw [if_neg (by decide), Option.bind_some, e1, e2, e3, w1]
  by_cases h2 : m < 2
  · rw [if_pos (show (m : Int) < 2 by omega), if_pos h2]
  · have w2 : wrap64 ((m : Int) - 1) = ((m - 1 : Nat) : Int) := by clear e1 e2 e3; rw [wrap_id (by omega) (by omega)]; omega
    have hm3 : ((m - 1 : Nat) : Int) ≤ 3 := by clear e1 e2 e3; omega
    rw [if_neg (show ¬ (m : Int) < 2 by omega), if_neg h2, w2, if_pos (Int.natCast_nonneg _), if_pos (by exact hm3), Option.bind_some, Int.toNat_natCast]
    have e : ([((n / 65536 % 256 : Nat) : Int), ((n / 256 % 256 % 256 : Nat) : Int), ((n % 256 % 256 : Nat) : Int)] : List Int).take (m - 1) = up (three (n, m)) := by
      unfold three up
      rw [List.map_take]
      rfl
    rw [e, ← up_append]
    have hl := three_len (n, m)
    rw [if_pos (by rw [up_length, up_length]; clear e1 e2 e3 e; omega)]
def grp (c0 c1 c2 c3 : UInt8) : Nat × Nat := g (g (g (g (0, 0) (dxNum c0)) (dxNum c1)) (dxNum c2)) (dxNum c3)
/-- What the reference takes out of a text, four letters by four. -/
def refOut : List UInt8 → Option (List Nat)
  | c0 :: c1 :: c2 :: c3 :: r => if (grp c0 c1 c2 c3).2 < 2 then none else (refOut r).map (three (grp c0 c1 c2 c3) ++ ·)
  | _ => some []
theorem refOut_small : ∀ (l : List UInt8) (b : List Nat), refOut l = some b → Small b
  | c0 :: c1 :: c2 :: c3 :: r, b, h => by
    simp only [refOut] at h
    by_cases h2 : (grp c0 c1 c2 c3).2 < 2
    · rw [if_pos h2] at h; cases h
    · rw [if_neg h2] at h
      obtain ⟨y, hy, rfl⟩ := Option.map_eq_some_iff.1 h
      intro x hx
      rcases List.mem_append.1 hx with hx | hx
      · exact three_small _ x hx
      · exact refOut_small r y hy x hx
  | [], b, h => by cases h; exact fun x hx => (List.not_mem_nil hx).elim
  | [_], b, h => by cases h; exact fun x hx => (List.not_mem_nil hx).elim
  | [_, _], b, h => by cases h; exact fun x hx => (List.not_mem_nil hx).elim
  | [_, _, _], b, h => by cases h; exact fun x hx => (List.not_mem_nil hx).elim
theorem refOut_enc : ∀ ns : List Nat, Small ns → refOut (encS ns) = some ns
  | [], _ => rfl
  | [a], hs => by
    have ha := (small_cons hs).1
    have e : grp (S (a / 4)) (S (a % 4 * 16)) 61 61 = (a * 65536, 2) := by
      unfold grp
      rw [g_letter _ _ (by omega), g_letter _ _ (by omega), g_pad, g_pad]
      simp only [Prod.mk.injEq, and_true]
      omega
    simp only [encS, refOut, e, Option.map_some]
    rw [if_neg (by decide)]
    have e1 : a * 65536 / 65536 % 256 = a := by omega
    unfold three
    simp
    omega
  | [a, b], hs => by
    have ha := (small_cons hs).1
    have hb := (small_cons (small_cons hs).2).1
    have e : grp (S (a / 4)) (S (a % 4 * 16 + b / 16)) (S (b % 16 * 4)) 61 = (a * 65536 + b * 256, 3) := by
      unfold grp
      rw [g_letter _ _ (by omega), g_letter _ _ (by omega), g_letter _ _ (by omega), g_pad]
      simp only [Prod.mk.injEq, and_true]
      omega
    simp only [encS, refOut, e, Option.map_some]
    rw [if_neg (by decide)]
    have e1 : (a * 65536 + b * 256) / 65536 % 256 = a := by omega
    have e2 : (a * 65536 + b * 256) / 256 % 256 % 256 = b := by omega
    unfold three
    simp [e2]
    omega
  | a :: b :: c :: r, hs => by
    have ha := (small_cons hs).1
    have hb := (small_cons (small_cons hs).2).1
    have hc := (small_cons (small_cons (small_cons hs).2).2).1
    have ih := refOut_enc r (small_cons (small_cons (small_cons hs).2).2).2
    have e : grp (S (a / 4)) (S (a % 4 * 16 + b / 16)) (S (b % 16 * 4 + c / 64)) (S (c % 64)) = (a * 65536 + b * 256 + c, 4) := by
      unfold grp
      rw [g_letter _ _ (by omega), g_letter _ _ (by omega), g_letter _ _ (by omega), g_letter _ _ (by omega)]
      simp only [Prod.mk.injEq, and_true]
      omega
    simp only [encS, refOut, e, ih, Option.map_some]
    rw [if_neg (by decide)]
    have e1 : (a * 65536 + b * 256 + c) / 65536 % 256 = a := by omega
    have e2 : (a * 65536 + b * 256 + c) / 256 % 256 % 256 = b := by omega
    have e3 : (a * 65536 + b * 256 + c) % 256 % 256 = c := by omega
    unfold three
    simp [e1, e2, e3]
def refFin (s : ByteArray) : Option (List Nat) → List Int × Int
  | none => ([], 6)
  | some b => if encS b = s.data.toList then (up b, 0) else ([], 6)
theorem drop4 (l : List UInt8) (i : Nat) (h : i + 4 ≤ l.length) : l.drop i = l[i]'(by omega) :: l[i + 1]'(by omega) :: l[i + 2]'(by omega) :: l[i + 3]'(by omega) :: l.drop (i + 4) := by
  rw [List.drop_eq_getElem_cons (by omega : i < l.length), List.drop_eq_getElem_cons (by omega : i + 1 < l.length), List.drop_eq_getElem_cons (by omega : i + 2 < l.length), List.drop_eq_getElem_cons (by omega : i + 3 < l.length)]
theorem ref_round (s : ByteArray) (hs : s.data.toList.length ≤ 100000) (X : List Nat) (hX : X.length ≤ 1000000) (i : Nat) (hi : i + 4 ≤ s.data.toList.length) (q : Nat) (hq : 70 ≤ q) :
    postilionref05_Decode.l0 (q + 6) s (up X) (i : Int) = if (grp (s.data.toList[i]'(by omega)) (s.data.toList[i + 1]'(by omega)) (s.data.toList[i + 2]'(by omega)) (s.data.toList[i + 3]'(by omega))).2 < 2 then some ([], 6)
      else postilionref05_Decode.l0 q s (up (X ++ three (grp (s.data.toList[i]'(by omega)) (s.data.toList[i + 1]'(by omega)) (s.data.toList[i + 2]'(by omega)) (s.data.toList[i + 3]'(by omega))))) ((i + 4 : Nat) : Int) := by
  have hi2 : i < s.size := by rw [data_length] at hi; omega
  have hi3 : i ≤ 1000000 := by omega
  simp only [postilionref05_Decode.l0]
  rw [if_pos (Int.ofNat_lt.mpr hi2)]
  have b0 := g_in (p := (0, 0)) (B := 1) (C := 0) (dxNum_in (s.data.toList[i]'(by omega))).2 (by decide) (by decide)
  have s0 := l1_step s (up X) i 0 0 0 (by decide) (by omega) hi3 (by decide) (by decide) (q + 4) (by omega)
  rw [Int.natCast_zero] at s0
  rw [s0]
  simp only [Nat.add_zero]
  unfold grp
  generalize g (0, 0) (dxNum (s.data.toList[i]'(by omega))) = p1 at b0 ⊢
  have s1 := l1_step s (up X) i 1 p1.1 p1.2 (by decide) (by omega) hi3 (by omega) (by omega) (q + 3) (by omega)
  rw [s1]
  have b1 := g_in (p := p1) (dxNum_in (s.data.toList[i + 1]'(by omega))).2 b0.1 b0.2
  rw [show ((p1.1, p1.2) : Nat × Nat) = p1 from rfl]
  generalize g p1 (dxNum (s.data.toList[i + 1]'(by omega))) = p2 at b1 ⊢
  have s2 := l1_step s (up X) i 2 p2.1 p2.2 (by decide) (by omega) hi3 (by omega) (by omega) (q + 2) (by omega)
  rw [s2]
  have b2 := g_in (p := p2) (dxNum_in (s.data.toList[i + 2]'(by omega))).2 b1.1 b1.2
  rw [show ((p2.1, p2.2) : Nat × Nat) = p2 from rfl]
  generalize g p2 (dxNum (s.data.toList[i + 2]'(by omega))) = p3 at b2 ⊢
  have s3 := l1_step s (up X) i 3 p3.1 p3.2 (by decide) (by omega) hi3 (by omega) (by omega) (q + 1) (by omega)
  rw [s3]
  have b3 := g_in (p := p3) (dxNum_in (s.data.toList[i + 3]'(by omega))).2 b2.1 b2.2
  rw [show ((p3.1, p3.2) : Nat × Nat) = p3 from rfl]
  generalize g p3 (dxNum (s.data.toList[i + 3]'(by omega))) = p4 at b3 ⊢
  exact l1_end s X i p4.1 p4.2 hi3 (by omega) (by omega) hX q
theorem ref_dec (s : ByteArray) (hs : s.data.toList.length ≤ 100000) (d : Nat) : ∀ (i : Nat) (X : List Nat), s.data.toList.length = i + 4 * d → Small X → X.length + 3 * d ≤ 100000 → Ev (fun k => postilionref05_Decode.l0 k s (up X) (i : Int)) (refFin s ((refOut (s.data.toList.drop i)).map (X ++ ·))) := by
  induction d with
  | zero =>
    intro i X hi hX hl
    obtain ⟨K, hK⟩ := refEnc hX (by omega)
    refine Ev.succ K fun q hq => ?_
    have h1 := hK q hq
    simp only at h1
    simp only [postilionref05_Decode.l0]
    rw [if_neg (by rw [data_length] at hi; omega), h1, Option.bind_some, List.drop_of_length_le (by omega)]
    show _ = some (refFin s (some (X ++ [])))
    rw [List.append_nil, ByteArray.toList_eq, ByteArray.toList_eq]
    rw [show refFin s (some X) = if encS X = s.data.toList then (up X, 0) else ([], 6) from rfl]
    by_cases h : encS X = s.data.toList
    · rw [if_pos h, if_pos h]
    · rw [if_neg h, if_neg h]
  | succ d ih =>
    intro i X hi hX hl
    have hi4 : i + 4 ≤ s.data.toList.length := by omega
    rw [drop4 _ _ hi4]
    simp only [refOut]
    have hr := ref_round s hs X (by omega) i hi4
    obtain ⟨p, hp⟩ : ∃ p, p = grp (s.data.toList[i]'(by omega)) (s.data.toList[i + 1]'(by omega)) (s.data.toList[i + 2]'(by omega)) (s.data.toList[i + 3]'(by omega)) := ⟨_, rfl⟩
    simp only [← hp] at hr ⊢
    by_cases h2 : p.2 < 2
    · refine ⟨76, fun k hk => ?_⟩
      obtain ⟨q, rfl⟩ : ∃ q, k = q + 6 := ⟨k - 6, by omega⟩
      have := hr q (by omega)
      rw [if_pos h2] at this
      rw [if_pos h2]
      exact this
    · have ht := three_len p
      obtain ⟨K, hK⟩ := ih (i + 4) (X ++ three p) (by omega) (fun x hx => by
        rcases List.mem_append.1 hx with hx | hx
        · exact hX x hx
        · exact three_small p x hx) (by rw [List.length_append]; omega)
      refine ⟨K + 76, fun k hk => ?_⟩
      obtain ⟨q, rfl⟩ : ∃ q, k = q + 6 := ⟨k - 6, by omega⟩
      have h3 := hr q (by omega)
      rw [if_neg h2] at h3
      have h4 := hK q (by omega)
      simp only at h4
      rw [if_neg h2]
      show postilionref05_Decode.l0 (q + 6) s (up X) (i : Int) = _
      rw [h3, h4]
      cases refOut (s.data.toList.drop (i + 4)) with
      | none => rfl
      | some b =>
        show some (refFin s (some (X ++ three p ++ b))) = some (refFin s (some (X ++ (three p ++ b))))
        rw [List.append_assoc]
theorem refDec {s : ByteArray} (hs : s.size ≤ 10000) : (∀ ns, Small ns → s.data.toList = encS ns → Ev (fun k => postilionref05_Decode.f k s) (up ns, 0)) ∧ ((∀ ns, Small ns → s.data.toList ≠ encS ns) → Ev (fun k => postilionref05_Decode.f k s) ([], 6)) := by
  have hdl := data_length s
  by_cases h4 : s.size % 4 = 0
  · obtain ⟨K, hK⟩ := ref_dec s (by omega) (s.size / 4) 0 [] (by omega) (fun x hx => (List.not_mem_nil hx).elim) (by simp only [List.length_nil]; omega)
    rw [List.drop_zero] at hK
    have hf : ∀ k, K ≤ k → postilionref05_Decode.f k s = some (refFin s ((refOut s.data.toList).map ([] ++ ·))) := fun k hk => by
      have := hK k hk
      unfold postilionref05_Decode.f
      rw [if_pos (by omega)]
      rw [Int.natCast_zero] at this
      exact this
    refine ⟨fun ns hn h => ⟨K, fun k hk => ?_⟩, fun h => ⟨K, fun k hk => ?_⟩⟩
    · show postilionref05_Decode.f k s = _
      rw [hf k hk, h, refOut_enc ns hn]
      show some (if encS ([] ++ ns) = s.data.toList then (up ([] ++ ns), 0) else ([], 6)) = _
      rw [List.nil_append, if_pos h.symm]
    · show postilionref05_Decode.f k s = _
      rw [hf k hk]
      cases e : refOut s.data.toList with
      | none => rfl
      | some b =>
        show some (if encS ([] ++ b) = s.data.toList then (up ([] ++ b), 0) else ([], 6)) = _
        rw [List.nil_append, if_neg (fun h2 => h b (refOut_small _ b e) h2.symm)]
  · refine ⟨fun ns hn h => ?_, fun _ => ⟨0, fun k _ => ?_⟩⟩
    · have := encS_len ns
      rw [← h, hdl] at this
      omega
    · show postilionref05_Decode.f k s = _
      unfold postilionref05_Decode.f
      rw [if_neg (by omega)]
end Go.Proofs.Ytnlggkihjfobkaa.Pure
