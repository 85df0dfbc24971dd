import Derived.Test.YtlpibchjcmndjaaDoorNumbersLem
namespace Go.Proofs.YtlpibchjcmndjaaDoor.Pure
open Go.RowKit Go.Proofs.YtlpibchjcmndjaaDoor.P Go.Proofs.YtlpibchjcmndjaaDoorW.PrintWords Go.Proofs.YtlpibchjcmndjaaDoorW.PrintLast

theorem ext_dig (d : Nat) (h : d < 10) : (⟨#[48, 49, 50, 51, 52, 53, 54, 55, 56, 57]⟩ : ByteArray).extract d (d + 1) = ⟨#[UInt8.ofNat (48 + d)]⟩ := by
  have : ∀ d : Fin 10, (⟨#[48, 49, 50, 51, 52, 53, 54, 55, 56, 57]⟩ : ByteArray).extract d.val (d.val + 1) = ⟨#[UInt8.ofNat (48 + d.val)]⟩ := by decide +kernel
  exact this ⟨d, h⟩
theorem wn (n : Nat) (h : n ≤ 9223372036854775807) : wrap64 (n : Int) = (n : Int) := wrap_id (by omega) (by omega)
theorem one_app (c : UInt8) (out : ByteArray) : ((⟨#[c]⟩ : ByteArray) ++ out).data.toList = c :: out.data.toList := by simp
theorem num_loop (d : Nat) : ∀ (x : Nat) (out : ByteArray), x < 10 ^ (d + 1) → x ≤ 9223372036854775807 → out.size + d ≤ 1000 → Ev (fun k => postilionref02_Number.l0 k (x : Int) out) (⟨(Lib.decDigits x ++ out.data.toList).toArray⟩, 0) := by
  induction d with
  | zero =>
    intro x out hx _ ho
    have hx : x < 10 := by simpa using hx
    refine Ev.succ 0 fun q _ => ?_
    have w1 : wrap64 ((x : Int) + 1) = ((x + 1 : Nat) : Int) := by rw [wrap_id (by omega) (by omega)]; omega
    simp only [postilionref02_Number.l0]
    rw [w1, if_neg (by omega), if_pos (by omega), if_pos (by omega), if_pos (by omega), Int.toNat_natCast, Int.toNat_natCast, ext_dig x hx, if_pos (by show 1 + out.size ≤ _; omega), decDigits_one hx]
    have e : ((⟨#[UInt8.ofNat (48 + x)]⟩ : ByteArray) ++ out) = ⟨([UInt8.ofNat (48 + x)] ++ out.data.toList).toArray⟩ := by
      apply ByteArray.ext
      simp
    rw [e]
  | succ d ih =>
    intro x out hx hm ho
    by_cases h9 : x < 10
    · refine Ev.succ 0 fun q _ => ?_
      have w1 : wrap64 ((x : Int) + 1) = ((x + 1 : Nat) : Int) := by rw [wrap_id (by omega) (by omega)]; omega
      simp only [postilionref02_Number.l0]
      rw [w1, if_neg (by omega), if_pos (by omega), if_pos (by omega), if_pos (by omega), Int.toNat_natCast, Int.toNat_natCast, ext_dig x h9, if_pos (by show 1 + out.size ≤ _; omega), decDigits_one h9]
      have e : ((⟨#[UInt8.ofNat (48 + x)]⟩ : ByteArray) ++ out) = ⟨([UInt8.ofNat (48 + x)] ++ out.data.toList).toArray⟩ := by
        apply ByteArray.ext
        simp
      rw [e]
    · have hx2 : x / 10 < 10 ^ (d + 1) := by rw [Nat.pow_succ] at hx; omega
      have hsz : ((⟨#[UInt8.ofNat (48 + x % 10)]⟩ : ByteArray) ++ out).size = 1 + out.size := by rw [ByteArray.size_append]; rfl
      obtain ⟨K, hK⟩ := ih (x / 10) ((⟨#[UInt8.ofNat (48 + x % 10)]⟩ : ByteArray) ++ out) hx2 (by omega) (by rw [hsz]; omega)
      refine Ev.succ K fun q hq => ?_
      have h1 := hK q hq
      have hd0 : x % 10 < 10 := Nat.mod_lt _ (by decide)
      have c0 : 1 + out.size ≤ 9223372036854775807 := by omega
      have c1 : (x : Int) > 9 := by omega
      have c2 : ((x % 10 : Nat) : Int) ≤ ((x % 10 + 1 : Nat) : Int) := Int.ofNat_le.mpr (Nat.le_succ _)
      have c3 : ((x % 10 + 1 : Nat) : Int) ≤ 10 := Int.ofNat_le.mpr hd0
      have e1 : Int.tmod (x : Int) 10 = ((x % 10 : Nat) : Int) := rfl
      have e2 : wrap64 (Int.tdiv (x : Int) 10) = ((x / 10 : Nat) : Int) := by
        rw [show Int.tdiv (x : Int) 10 = ((x / 10 : Nat) : Int) from rfl]
        exact wn _ (by omega)
      have hd : x % 10 < 10 := Nat.mod_lt _ (by decide)
      have w1 : wrap64 (((x % 10 : Nat) : Int) + 1) = ((x % 10 + 1 : Nat) : Int) := by clear e1 e2; rw [wrap_id (by omega) (by omega)]; omega
      simp only [postilionref02_Number.l0]
      rw [e1, e2, w1, if_pos c1, if_pos (Int.natCast_nonneg _), if_pos c2, if_pos c3, Int.toNat_natCast, Int.toNat_natCast, ext_dig _ hd, if_pos (by exact c0)]
      refine Eq.trans h1 ?_
      rw [one_app, decDigits_more h9, List.append_assoc]
      rfl
theorem pow_max {x : Nat} (h : x ≤ 9223372036854775807) : x < 10 ^ (20 + 1) := Nat.lt_of_le_of_lt h (by decide)
theorem refNum (n : Int) (h : n ≤ 9223372036854775807) : Ev (fun k => postilionref02_Number.f k n) (if n < 0 then (⟨#[]⟩, 2) else (⟨(Lib.decDigits n.toNat).toArray⟩, 0)) := by
  by_cases c : n < 0
  · refine ⟨0, fun k _ => ?_⟩
    show postilionref02_Number.f k n = _
    unfold postilionref02_Number.f
    rw [if_pos c, if_pos c]
  · obtain ⟨K, hK⟩ := num_loop 20 n.toNat ⟨#[]⟩ (pow_max (by omega)) (by omega) (by decide)
    refine ⟨K, fun k hk => ?_⟩
    have h1 := hK k hk
    show postilionref02_Number.f k n = _
    unfold postilionref02_Number.f
    rw [if_neg c, if_neg c]
    simp only at h1
    rw [Int.toNat_of_nonneg (by omega)] at h1
    rw [h1]
    simp
/-! ### the reference's Parse -/
theorem wrap_step (V c : Int) : wrap64 (wrap64 (wrap64 (10 * wrap64 V) + wrap64 c) - 48) = wrap64 (10 * V + (c - 48)) := by
  unfold wrap64
  omega
theorem bt_get (s : ByteArray) (i : Nat) (h : i < s.data.toList.length) : bt s (i : Int) = ((s.data.toList[i].toNat : Nat) : Int) := by
  have h2 : i < s.size := by rw [data_length] at h; exact h
  unfold bt
  rw [dif_pos (by rw [Int.toNat_natCast]; exact h2)]
  rfl
/-- What stands at the end of the reference's Parse. -/
def refFin (s : ByteArray) (a g n : Int) : Int × Int := if n < 0 then (0, 6) else if Lib.decDigits n.toNat = s.data.toList then (if n < a then (0, 6) else if n > g then (0, 6) else (n, 0)) else (0, 6)
theorem wrap_max (V : Int) : wrap64 V ≤ 9223372036854775807 := by unfold wrap64; omega
theorem parse_loop (s : ByteArray) (a g : Int) (hs : s.data.toList.length ≤ 1000) (d : Nat) : ∀ (i V : Nat), s.data.toList.length - i = d → i ≤ s.data.toList.length → Ev (fun k => postilionref02_Parse.l0 k s a g (wrap64 (V : Int)) (i : Int)) (if (∀ c ∈ s.data.toList.drop i, isDig c = true) then refFin s a g (wrap64 ((valFrom V (s.data.toList.drop i) : Nat) : Int)) else (0, 6)) := by
  have hdl := data_length s
  induction d with
  | zero =>
    intro i V hd hi
    obtain ⟨K, hK⟩ := refNum (wrap64 (V : Int)) (wrap_max _)
    refine Ev.succ K fun q hq => ?_
    have h1 := hK q hq
    simp only at h1
    simp only [postilionref02_Parse.l0]
    rw [if_neg (by omega), h1, Option.bind_some, List.drop_of_length_le (by omega), if_pos (fun c hc => (List.not_mem_nil hc).elim)]
    show _ = some (refFin s a g (wrap64 (V : Int)))
    unfold refFin
    by_cases c : wrap64 (V : Int) < 0
    · rw [if_pos c, if_pos c, if_neg (by decide)]
    · rw [if_neg c, if_neg c, if_pos rfl, ByteArray.toList_eq, ByteArray.toList_eq]
      by_cases c2 : Lib.decDigits (wrap64 (V : Int)).toNat = s.data.toList
      · rw [if_pos c2, if_pos c2]
        split
        · rfl
        · split <;> rfl
      · rw [if_neg c2, if_neg c2]
  | succ d ih =>
    intro i V hd hi
    have hlt : i < s.data.toList.length := by omega
    have hx := bt_get s i hlt
    have w1 : wrap64 ((i : Int) + 1) = ((i + 1 : Nat) : Int) := by rw [wrap_id (by omega) (by omega)]; omega
    rw [List.drop_eq_getElem_cons hlt]
    generalize s.data.toList[i] = c at hx
    by_cases hc : isDig c = true
    · have hc2 := (isDig_iff c).1 hc
      obtain ⟨K, hK⟩ := ih (i + 1) (10 * V + (c.toNat - 48)) (by omega) (by omega)
      refine Ev.succ K fun q hq => ?_
      have h1 := hK q hq
      simp only at h1
      have e : (10 : Int) * (V : Int) + ((c.toNat : Int) - 48) = ((10 * V + (c.toNat - 48) : Nat) : Int) := by omega
      simp only [postilionref02_Parse.l0]
      rw [if_pos (by omega), if_pos (by omega), hx, if_neg (by omega), if_neg (by omega), wrap_step, e, w1, h1, valFrom_cons]
      by_cases h2 : ∀ x ∈ s.data.toList.drop (i + 1), isDig x = true
      · rw [if_pos h2, if_pos (fun x hx => by
          rcases List.mem_cons.1 hx with rfl | hx
          · exact hc
          · exact h2 x hx)]
      · rw [if_neg h2, if_neg (fun h3 => h2 fun x hx => h3 x (List.mem_cons_of_mem _ hx))]
    · refine Ev.succ 0 fun q _ => ?_
      have hc2 : ¬ (48 ≤ c.toNat ∧ c.toNat ≤ 57) := fun h => hc ((isDig_iff c).2 h)
      simp only [postilionref02_Parse.l0]
      rw [if_pos (by omega), if_pos (by omega), hx, if_neg (show ¬ (∀ x ∈ c :: s.data.toList.drop (i + 1), isDig x = true) from fun h => hc (h c List.mem_cons_self))]
      by_cases h1 : ((c.toNat : Nat) : Int) < 48
      · rw [if_pos h1]
      · rw [if_neg h1, if_pos (by omega)]
theorem val_lt (l : List UInt8) : ∀ n, (∀ c ∈ l, isDig c = true) → valFrom n l + 1 ≤ (n + 1) * 10 ^ l.length := by
  induction l with
  | nil => intro n _; simp [valFrom]
  | cons c l ih =>
    intro n h
    have hc := (isDig_iff c).1 (h c List.mem_cons_self)
    have := ih (10 * n + (c.toNat - 48)) (fun x hx => h x (List.mem_cons_of_mem _ hx))
    rw [valFrom_cons, List.length_cons, Nat.pow_succ]
    have h2 : (10 * n + (c.toNat - 48) + 1) * 10 ^ l.length ≤ (10 * (n + 1)) * 10 ^ l.length := Nat.mul_le_mul_right _ (by omega)
    have e : (n + 1) * (10 ^ l.length * 10) = 10 * (n + 1) * 10 ^ l.length := by rw [Nat.mul_comm (10 ^ l.length) 10, ← Nat.mul_assoc, Nat.mul_comm (n + 1) 10]
    rw [e]
    exact Nat.le_trans this h2
/-- What Parse tells, in one word. -/
def parseS (s : ByteArray) (a g : Int) : Int × Int := if a < 0 ∨ g < a then (0, 2) else if good s.data.toList ∧ a ≤ ((valFrom 0 s.data.toList : Nat) : Int) ∧ ((valFrom 0 s.data.toList : Nat) : Int) ≤ g then (((valFrom 0 s.data.toList : Nat) : Int), 0) else (0, 6)
theorem prsF {s : ByteArray} {a g : Int} (hs : s.size ≤ 1000000) (hg : g ≤ 9223372036854775807) : ascii_Parse.f s a g = some (parseS s a g) := by
  unfold ascii_Parse.f parseS
  rw [if_pos ⟨hs, hg⟩]
  by_cases c : a < 0 ∨ g < a
  · rw [if_pos c, if_pos c]
  · rw [if_neg c, if_neg c, ← prs_spec _ a g (by omega) (by omega), data_length]
theorem refParse {s : ByteArray} {a g : Int} (hs : s.size ≤ 1000) (hg : g ≤ 9223372036854775807) : Ev (fun k => postilionref02_Parse.f k s a g) (parseS s a g) := by
  have hdl := data_length s
  unfold parseS
  by_cases c1 : a < 0
  · refine ⟨1, fun k hk => ?_⟩
    obtain ⟨q, rfl⟩ : ∃ q, k = q + 1 := ⟨k - 1, by omega⟩
    show postilionref02_Parse.f (q + 1) s a g = _
    unfold postilionref02_Parse.f
    rw [if_pos c1, if_pos (.inl c1)]
    rfl
  · by_cases c2 : g < a
    · refine ⟨1, fun k hk => ?_⟩
      obtain ⟨q, rfl⟩ : ∃ q, k = q + 1 := ⟨k - 1, by omega⟩
      show postilionref02_Parse.f (q + 1) s a g = _
      unfold postilionref02_Parse.f
      rw [if_neg c1, decide_eq_true (show a > g from c2), if_pos (.inr c2)]
      rfl
    · have e1 : decide (a > g) = false := decide_eq_false c2
      rw [if_neg (by omega : ¬ (a < 0 ∨ g < a))]
      by_cases c3 : s.size = 0
      · refine ⟨2, fun k hk => ?_⟩
        obtain ⟨q, rfl⟩ : ∃ q, k = q + 2 := ⟨k - 2, by omega⟩
        show postilionref02_Parse.f (q + 2) s a g = _
        unfold postilionref02_Parse.f
        rw [if_neg c1, e1, if_neg (fun h => h.1.1 (List.eq_nil_of_length_eq_zero (by omega)))]
        simp only [postilionref02_Parse.j0]
        rw [if_neg (by decide), if_pos (by omega)]
        rfl
      · by_cases c4 : s.size > 19
        · refine ⟨2, fun k hk => ?_⟩
          obtain ⟨q, rfl⟩ : ∃ q, k = q + 2 := ⟨k - 2, by omega⟩
          show postilionref02_Parse.f (q + 2) s a g = _
          unfold postilionref02_Parse.f
          rw [if_neg c1, e1, if_neg (fun h => by
            have h2 := dec_good h.1
            have h3 : valFrom 0 s.data.toList < 10 ^ (18 + 1) := by
              have := h.2.2
              have : valFrom 0 s.data.toList ≤ 9223372036854775807 := by omega
              exact Nat.lt_of_le_of_lt this (by decide)
            have h4 := dec_len _ h3
            rw [← h2] at h4
            omega)]
          simp only [postilionref02_Parse.j0]
          rw [if_neg (by decide), if_neg (by omega), decide_eq_true (show (s.size : Int) > 19 by omega)]
          rfl
        · obtain ⟨K, hK⟩ := parse_loop s a g (by omega) s.data.toList.length 0 0 (by omega) (by omega)
          rw [List.drop_zero, show wrap64 ((0 : Nat) : Int) = 0 from by unfold wrap64; omega, Int.natCast_zero] at hK
          refine ⟨K + 2, fun k hk => ?_⟩
          obtain ⟨q, rfl⟩ : ∃ q, k = q + 2 := ⟨k - 2, by omega⟩
          have h1 := hK q (by omega)
          simp only at h1
          show postilionref02_Parse.f (q + 2) s a g = _
          unfold postilionref02_Parse.f
          rw [if_neg c1, e1]
          simp only [postilionref02_Parse.j0]
          rw [if_neg (by decide), if_neg (by omega), decide_eq_false (show ¬ (s.size : Int) > 19 by omega)]
          simp only [postilionref02_Parse.j1]
          rw [if_neg (by decide), h1]
          congr 1
          by_cases hd : ∀ c ∈ s.data.toList, isDig c = true
          · rw [if_pos hd]
            have hv := val_lt _ 0 hd
            have hp : 10 ^ s.data.toList.length ≤ 10 ^ 19 := Nat.pow_le_pow_right (by decide) (by omega)
            have hv2 : valFrom 0 s.data.toList < 10000000000000000000 := by
              have : (10 : Nat) ^ 19 = 10000000000000000000 := by decide
              omega
            clear hv hp
            have hgood : good s.data.toList ↔ Lib.decDigits (valFrom 0 s.data.toList) = s.data.toList := ⟨fun h => (dec_good h).symm, fun h => by rw [← h]; exact good_dec _⟩
            generalize valFrom 0 s.data.toList = v at hv2 hgood ⊢
            unfold refFin
            by_cases hm : v ≤ 9223372036854775807
            · rw [wn v hm, if_neg (by omega), Int.toNat_natCast]
              by_cases h2 : Lib.decDigits v = s.data.toList
              · rw [if_pos h2]
                by_cases h3 : (v : Int) < a
                · rw [if_pos h3, if_neg (by omega)]
                · rw [if_neg h3]
                  by_cases h4 : (v : Int) > g
                  · rw [if_pos h4, if_neg (by omega)]
                  · rw [if_neg h4, if_pos ⟨hgood.2 h2, by omega, by omega⟩]
              · rw [if_neg h2, if_neg (fun h => h2 (hgood.1 h.1))]
            · have hn : wrap64 (v : Int) < 0 := by unfold wrap64; omega
              rw [if_pos hn, if_neg (by omega)]
          · rw [if_neg hd, if_neg (fun h => hd h.1.2.1)]
end Go.Proofs.YtlpibchjcmndjaaDoor.Pure
