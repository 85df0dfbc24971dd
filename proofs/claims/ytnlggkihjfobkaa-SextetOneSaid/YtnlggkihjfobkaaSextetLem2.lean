import Derived.Test.YtnlggkihjfobkaaSextetLem
namespace Go.Proofs.Ytnlggkihjfobkaa.Pure
open Go.RowKit Go.Proofs.Ytnlggkihjfobkaa.P Go.Proofs.YtnlggkihjfobkaaW.PrintWords Go.Proofs.YtnlggkihjfobkaaW.PrintLast

theorem letter_f (n : Nat) (h : n < 64) : postilionref05_letter.f (n : Int) = some ((S n).toNat : Int) := by
  have : ∀ n : Fin 64, postilionref05_letter.f (n.val : Int) = some ((S n.val).toNat : Int) := by decide +kernel
  exact this ⟨n, h⟩
theorem value_f (c : UInt8) : ∀ k, 70 ≤ k → postilionref05_value.f k (c.toNat : Int) = some (dxNum c) := by
  have h : ∀ c : Fin 256, postilionref05_value.f 70 (c.val : Int) = some (dxNum (UInt8.ofNat c.val)) := by decide +kernel
  have h70 : postilionref05_value.f 70 (c.toNat : Int) = some (dxNum c) := by
    have := h ⟨c.toNat, UInt8.toNat_lt c⟩
    rw [show UInt8.ofNat (⟨c.toNat, UInt8.toNat_lt c⟩ : Fin 256).val = c from UInt8.ofNat_toNat] at this
    exact this
  intro k hk
  induction k with
  | zero => omega
  | succ k ih =>
    by_cases h2 : 70 ≤ k
    · exact postilionref05_value.mono _ k _ (ih h2)
    · have : k + 1 = 70 := by omega
      rw [this]
      exact h70
/-- Codes, as the reference holds them. -/
def cd (l : List UInt8) : List Int := l.map fun (b : UInt8) => (b.toNat : Int)
theorem str_cd (l : List UInt8) : strOfNums (cd l) = ⟨l.toArray⟩ := by
  unfold strOfNums cd
  rw [List.map_map]
  have : l.map ((fun n : Int => UInt8.ofNat n.toNat) ∘ fun (b : UInt8) => (b.toNat : Int)) = l := by
    conv => rhs; rw [← List.map_id l]
    exact List.map_congr_left fun b _ => by simp
  rw [this]
theorem cd_length (l : List UInt8) : (cd l).length = l.length := List.length_map _
theorem cd_append (a b : List UInt8) : cd (a ++ b) = cd a ++ cd b := List.map_append
theorem rd_up (ns : List Nat) (i : Nat) (h : i < ns.length) : rd (up ns) (i : Int) = ((ns[i] : Nat) : Int) := by
  unfold rd up
  rw [Int.toNat_natCast, List.getD_eq_getElem?_getD, List.getElem?_map, List.getElem?_eq_getElem h]
  rfl
theorem wn (n : Nat) (h : n ≤ 1000000000000) : wrap64 (n : Int) = (n : Int) := wrap_id (by omega) (by omega)
/-- What the last step of a round lays down. -/
theorem ref_j2 (ns : List Nat) (acc : List UInt8) (i n : Nat) (hi : i < ns.length) (hl : ns.length ≤ 100000) (hn : n < 16777216) (ha : acc.length ≤ 1000000) (four : List UInt8)
    (hf : four = [S (n / 262144), S (n / 4096 % 64), if ns.length ≤ i + 1 then 61 else S (n / 64 % 64), if ns.length ≤ i + 2 then 61 else S (n % 64)])
    {r : ByteArray} (K : Nat) (hK : ∀ q, K ≤ q → postilionref05_Encode.l0 q (up ns) (cd (acc ++ four)) ((i + 3 : Nat) : Int) = some r) :
    ∀ q, K ≤ q → postilionref05_Encode.j2 (q + 1) (up ns) (cd acc) (i : Int) (n : Int) = some r := by
  intro q hq
  have h := hK q hq
  have w1 : wrap64 ((i : Int) + 1) = ((i + 1 : Nat) : Int) := by rw [wrap_id (by omega) (by omega)]; omega
  have w2 : wrap64 ((i : Int) + 2) = ((i + 2 : Nat) : Int) := by rw [wrap_id (by omega) (by omega)]; omega
  have w3 : wrap64 ((i : Int) + 3) = ((i + 3 : Nat) : Int) := by rw [wrap_id (by omega) (by omega)]; omega
  have g : (cd acc).length + 4 < 140737488355328 := by rw [cd_length]; omega
  have e1 : wrap64 (Int.tdiv (n : Int) 262144) = ((n / 262144 : Nat) : Int) := by
    rw [show Int.tdiv (n : Int) 262144 = ((n / 262144 : Nat) : Int) from rfl]
    exact wn _ (by omega)
  have e2 : Int.tmod (wrap64 (Int.tdiv (n : Int) 4096)) 64 = ((n / 4096 % 64 : Nat) : Int) := by
    rw [show Int.tdiv (n : Int) 4096 = ((n / 4096 : Nat) : Int) from rfl, wn _ (by omega)]
    rfl
  have e3 : Int.tmod (wrap64 (Int.tdiv (n : Int) 64)) 64 = ((n / 64 % 64 : Nat) : Int) := by
    rw [show Int.tdiv (n : Int) 64 = ((n / 64 : Nat) : Int) from rfl, wn _ (by omega)]
    rfl
  have e4 : Int.tmod (n : Int) 64 = ((n % 64 : Nat) : Int) := rfl
  simp only [postilionref05_Encode.j2]
  rw [e1, letter_f _ (by omega), Option.bind_some, e2, letter_f _ (by omega), Option.bind_some, e3, letter_f _ (by omega), Option.bind_some, e4, letter_f _ (by omega), Option.bind_some, Option.bind_some, w1, w2, w3, up_length]
  rw [cd_append] at h
  clear e1 e2 e3 e4 w1 w2 w3
  subst hf
  by_cases c2 : ns.length ≤ i + 2
  · rw [if_pos (show ((i + 2 : Nat) : Int) ≥ (ns.length : Int) by omega), if_pos (show (3 : Int) < (([((S (n / 262144)).toNat : Int), ((S (n / 4096 % 64)).toNat : Int), ((S (n / 64 % 64)).toNat : Int), ((S (n % 64)).toNat : Int)] : List Int).length : Int) from (by decide : (3 : Int) < 4)), Option.bind_some]
    rw [if_pos c2] at h
    by_cases c1 : ns.length ≤ i + 1
    · rw [if_pos c1] at h
      rw [if_pos (show ((i + 1 : Nat) : Int) ≥ (ns.length : Int) by omega), if_pos (show (2 : Int) < (([((S (n / 262144)).toNat : Int), ((S (n / 4096 % 64)).toNat : Int), ((S (n / 64 % 64)).toNat : Int), ((S (n % 64)).toNat : Int)] : List Int).length : Int) from (by decide : (2 : Int) < 4)), Option.bind_some]
      rw [if_pos (by exact g)]
      exact h
    · rw [if_neg c1] at h
      rw [if_neg (show ¬ ((i + 1 : Nat) : Int) ≥ (ns.length : Int) by omega)]
      rw [if_pos (by exact g)]
      exact h
  · have c1 : ¬ ns.length ≤ i + 1 := by omega
    rw [if_neg c2, if_neg c1] at h
    rw [if_neg (show ¬ ((i + 2 : Nat) : Int) ≥ (ns.length : Int) by omega), if_neg (show ¬ ((i + 1 : Nat) : Int) ≥ (ns.length : Int) by omega)]
    rw [if_pos (by exact g)]
    exact h
theorem encS_step (ns : List Nat) (hs : Small ns) (i : Nat) (hi : i < ns.length) :
    ∃ n, n < 16777216 ∧ n = 65536 * ns[i] + (if h : i + 1 < ns.length then 256 * ns[i + 1] else 0) + (if h : i + 2 < ns.length then ns[i + 2] else 0) ∧
      encS (ns.drop i) = [S (n / 262144), S (n / 4096 % 64), if ns.length ≤ i + 1 then 61 else S (n / 64 % 64), if ns.length ≤ i + 2 then 61 else S (n % 64)] ++ encS (ns.drop (i + 3)) := by
  have ha := hs ns[i] (List.getElem_mem hi)
  by_cases h1 : i + 1 < ns.length
  · have hb := hs ns[i + 1] (List.getElem_mem h1)
    by_cases h2 : i + 2 < ns.length
    · have hc := hs ns[i + 2] (List.getElem_mem h2)
      refine ⟨65536 * ns[i] + 256 * ns[i + 1] + ns[i + 2], by omega, by rw [dif_pos h1, dif_pos h2], ?_⟩
      rw [List.drop_eq_getElem_cons hi, List.drop_eq_getElem_cons h1, List.drop_eq_getElem_cons h2, if_neg (by omega), if_neg (by omega)]
      generalize ns[i] = a at *
      generalize ns[i + 1] = b at *
      generalize ns[i + 2] = c at *
      have e1 : (65536 * a + 256 * b + c) / 262144 = a / 4 := by omega
      have e2 : (65536 * a + 256 * b + c) / 4096 % 64 = a % 4 * 16 + b / 16 := by omega
      have e3 : (65536 * a + 256 * b + c) / 64 % 64 = b % 16 * 4 + c / 64 := by omega
      have e4 : (65536 * a + 256 * b + c) % 64 = c % 64 := by omega
      rw [e1, e2, e3, e4]
      rfl
    · refine ⟨65536 * ns[i] + 256 * ns[i + 1] + 0, by omega, by rw [dif_pos h1, dif_neg h2], ?_⟩
      rw [List.drop_eq_getElem_cons hi, List.drop_eq_getElem_cons h1, List.drop_of_length_le (by omega), List.drop_of_length_le (by omega), if_neg (by omega), if_pos (by omega)]
      generalize ns[i] = a at *
      generalize ns[i + 1] = b at *
      have e1 : (65536 * a + 256 * b + 0) / 262144 = a / 4 := by omega
      have e2 : (65536 * a + 256 * b + 0) / 4096 % 64 = a % 4 * 16 + b / 16 := by omega
      have e3 : (65536 * a + 256 * b + 0) / 64 % 64 = b % 16 * 4 := by omega
      rw [e1, e2, e3]
      rfl
  · refine ⟨65536 * ns[i] + 0 + 0, by omega, by rw [dif_neg h1, dif_neg (by omega)], ?_⟩
    rw [List.drop_eq_getElem_cons hi, List.drop_of_length_le (by omega), List.drop_of_length_le (by omega), if_pos (by omega), if_pos (by omega)]
    generalize ns[i] = a at *
    have e1 : (65536 * a + 0 + 0) / 262144 = a / 4 := by omega
    have e2 : (65536 * a + 0 + 0) / 4096 % 64 = a % 4 * 16 := by omega
    rw [e1, e2]
    rfl
theorem w65536 (a : Nat) (h : a < 256) : wrap64 (65536 * wrap64 (a : Int)) = ((65536 * a : Nat) : Int) := by
  rw [wrap_id (x := (a : Int)) (by omega) (by omega), wrap_id (by omega) (by omega)]
  omega
theorem w256 (a : Nat) (h : a < 256) : wrap64 (256 * wrap64 (a : Int)) = ((256 * a : Nat) : Int) := by
  rw [wrap_id (x := (a : Int)) (by omega) (by omega), wrap_id (by omega) (by omega)]
  omega
theorem wsum (x y : Nat) (h : x + y < 16777216) : wrap64 ((x : Int) + (y : Int)) = ((x + y : Nat) : Int) := by
  rw [wrap_id (by omega) (by omega)]
  omega
theorem sum2 {a b : Nat} (ha : a < 256) (hb : b < 256) : 65536 * a + 256 * b < 16777216 := by omega
theorem sum3 {a b c : Nat} (ha : a < 256) (hb : b < 256) (hc : c < 256) : 65536 * a + 256 * b + c < 16777216 := by omega
theorem ref_l0 (ns : List Nat) (hs : Small ns) (hl : ns.length ≤ 100000) (i n : Nat) (hi : i < ns.length) (X : List Int)
    (en : n = 65536 * ns[i] + (if h : i + 1 < ns.length then 256 * ns[i + 1] else 0) + (if h : i + 2 < ns.length then ns[i + 2] else 0)) (q : Nat) :
    postilionref05_Encode.l0 (q + 2) (up ns) X (i : Int) = postilionref05_Encode.j2 q (up ns) X (i : Int) (n : Int) := by
  have w1 : wrap64 ((i : Int) + 1) = ((i + 1 : Nat) : Int) := by rw [wrap_id (by omega) (by omega)]; omega
  have w2 : wrap64 ((i : Int) + 2) = ((i + 2 : Nat) : Int) := by rw [wrap_id (by omega) (by omega)]; omega
  have hA := hs ns[i] (List.getElem_mem hi)
  simp only [postilionref05_Encode.l0]
  rw [up_length, if_pos (Int.ofNat_lt.mpr hi), if_pos (Int.natCast_nonneg i), w1, rd_up ns i hi, w65536 _ hA]
  by_cases c1 : i + 1 < ns.length
  · have hB := hs ns[i + 1] (List.getElem_mem c1)
    rw [dif_pos c1] at en
    rw [if_pos (Int.ofNat_lt.mpr c1), if_pos (Int.natCast_nonneg _), rd_up ns (i + 1) c1, w256 _ hB, wsum _ _ (sum2 hA hB)]
    simp only [postilionref05_Encode.j1]
    rw [up_length, w2]
    by_cases c2 : i + 2 < ns.length
    · have hC := hs ns[i + 2] (List.getElem_mem c2)
      rw [dif_pos c2] at en
      rw [if_pos (Int.ofNat_lt.mpr c2), if_pos (Int.natCast_nonneg _), rd_up ns (i + 2) c2, wn ns[i + 2] (Nat.le_trans (Nat.le_of_lt hC) (by decide)), wsum _ _ (sum3 hA hB hC), en]
    · rw [dif_neg c2, Nat.add_zero] at en
      rw [if_neg (fun h => c2 (Int.ofNat_lt.mp h)), en]
  · have c2 : ¬ i + 2 < ns.length := fun h => c1 (Nat.lt_of_succ_lt h)
    rw [dif_neg c1, dif_neg c2, Nat.add_zero] at en
    rw [if_neg (fun h => c1 (Int.ofNat_lt.mp h))]
    simp only [postilionref05_Encode.j1]
    rw [up_length, w2, if_neg (fun h => c2 (Int.ofNat_lt.mp h)), en]
theorem ref_end (ns : List Nat) (i : Nat) (acc : List UInt8) (h : ns.length ≤ i) : Ev (fun k => postilionref05_Encode.l0 k (up ns) (cd acc) (i : Int)) ⟨(acc ++ encS (ns.drop i)).toArray⟩ := by
  refine Ev.succ 0 fun q _ => ?_
  simp only [postilionref05_Encode.l0]
  rw [up_length, if_neg (by omega), str_cd, List.drop_of_length_le h]
  rw [show encS [] = [] from rfl, List.append_nil]
theorem ref_enc (ns : List Nat) (hs : Small ns) (hl : ns.length ≤ 100000) (d : Nat) : ∀ (i : Nat) (acc : List UInt8), ns.length ≤ i + 3 * d → acc.length + 4 * d ≤ 1000000 → Ev (fun k => postilionref05_Encode.l0 k (up ns) (cd acc) (i : Int)) ⟨(acc ++ encS (ns.drop i)).toArray⟩ := by
  induction d with
  | zero =>
    intro i acc hi _
    exact ref_end ns i acc (by omega)
  | succ d ih =>
    intro i acc hi ha
    by_cases hlt : i < ns.length
    · have g1 : ns.length ≤ i + 3 + 3 * d := by omega
      have g2 : acc.length + 4 + 4 * d ≤ 1000000 := by omega
      have g3 : acc.length ≤ 1000000 := by omega
      obtain ⟨n, hn, en, es⟩ := encS_step ns hs i hlt
      obtain ⟨four, hfour⟩ : ∃ four, four = [S (n / 262144), S (n / 4096 % 64), if ns.length ≤ i + 1 then 61 else S (n / 64 % 64), if ns.length ≤ i + 2 then 61 else S (n % 64)] := ⟨_, rfl⟩
      rw [← hfour] at es
      have h4 : four.length = 4 := by rw [hfour]; rfl
      obtain ⟨K, hK⟩ := ih (i + 3) (acc ++ four) g1 (by rw [List.length_append, h4]; exact g2)
      rw [List.append_assoc, ← es] at hK
      have h2 := ref_j2 ns acc i n hlt hl hn g3 four hfour K hK
      refine ⟨K + 3, fun k hk => ?_⟩
      obtain ⟨p, rfl⟩ : ∃ p, k = p + 1 + 2 := ⟨k - 3, by clear en es hK h2; omega⟩
      show postilionref05_Encode.l0 (p + 1 + 2) (up ns) (cd acc) (i : Int) = _
      rw [ref_l0 ns hs hl i n hlt _ en]
      exact h2 p (by clear en es hK h2; omega)
    · exact ref_end ns i acc (by omega)
theorem refEnc {ns : List Nat} (hs : Small ns) (hl : ns.length ≤ 100000) : Ev (fun k => postilionref05_Encode.f k (up ns)) ⟨(encS ns).toArray⟩ := by
  obtain ⟨K, hK⟩ := ref_enc ns hs hl ns.length 0 [] (by omega) (by simp; omega)
  refine ⟨K, fun k hk => ?_⟩
  have := hK k hk
  rw [Int.natCast_zero] at this
  exact this
/-! ### sizes -/
theorem sizeF (n : Int) (h : n ≤ 10000) : sextet_Size.f n = some (((n.toNat + 2) / 3 * 4 : Nat) : Int) := by
  have e : mx n 0 = (n.toNat : Int) := by unfold mx; split <;> omega
  have hb : n.toNat ≤ 10000 := by omega
  unfold sextet_Size.f
  rw [e]
  generalize n.toNat = m at hb ⊢
  rw [show ((m : Int) + 2) = ((m + 2 : Nat) : Int) from rfl, wn (m + 2) (by omega), show Int.tdiv (((m + 2 : Nat)) : Int) 3 = (((m + 2) / 3 : Nat) : Int) from rfl, wn _ (by omega), show (((m + 2) / 3 : Nat) : Int) * 4 = (((m + 2) / 3 * 4 : Nat) : Int) from by push_cast; rfl, wn _ (by omega)]
theorem ref_size (n : Int) (h : n ≤ 10000) (d : Nat) : ∀ (i s : Nat), n ≤ (i + 3 * d : Nat) → i ≤ 20000 → s + 4 * d ≤ 1000000 → Ev (fun k => postilionref05_Size.l0 k n (s : Int) (i : Int)) (((s + ((n - i).toNat + 2) / 3 * 4 : Nat) : Int)) := by
  induction d with
  | zero =>
    intro i s hi hb hs
    refine Ev.succ 0 fun q _ => ?_
    simp only [postilionref05_Size.l0]
    rw [if_neg (by omega), show (n - i).toNat = 0 by omega]
    rfl
  | succ d ih =>
    intro i s hi hb hs
    by_cases c : (i : Int) < n
    · obtain ⟨K, hK⟩ := ih (i + 3) (s + 4) (by omega) (by omega) (by omega)
      refine Ev.succ K fun q hq => ?_
      have h1 := hK q hq
      simp only [postilionref05_Size.l0]
      rw [if_pos c, show (s : Int) + 4 = ((s + 4 : Nat) : Int) from by push_cast; rfl, show (i : Int) + 3 = ((i + 3 : Nat) : Int) from by push_cast; rfl, wn _ (by omega), wn _ (by omega)]
      simp only at h1
      rw [h1]
      congr 1
      omega
    · refine Ev.succ 0 fun q _ => ?_
      simp only [postilionref05_Size.l0]
      rw [if_neg c, show (n - i).toNat = 0 by omega]
      rfl
end Go.Proofs.Ytnlggkihjfobkaa.Pure
