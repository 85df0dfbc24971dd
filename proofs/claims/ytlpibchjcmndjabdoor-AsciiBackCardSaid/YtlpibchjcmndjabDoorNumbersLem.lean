import Derived.Test.YtlpibchjcmndjabDoorStasciiParse
import Derived.Lib.ItoaNum
namespace Go.Proofs.YtlpibchjcmndjabDoor.Pure
open Go.RowKit Go.Proofs.YtlpibchjcmndjabDoor.P Go.Proofs.YtlpibchjcmndjabDoorW.PrintWords Go.Proofs.YtlpibchjcmndjabDoorW.PrintLast

theorem wrap_id {x : Int} (h1 : -9223372036854775808 ≤ x) (h2 : x ≤ 9223372036854775807) : wrap64 x = x := by unfold wrap64; omega
/-- From some number of rounds on, that is told. -/
def Ev {α : Type} (F : Nat → Option α) (r : α) : Prop := ∃ K, ∀ k, K ≤ k → F k = some r
theorem Ev.succ {α : Type} {F : Nat → Option α} {r : α} (K : Nat) (h : ∀ q, K ≤ q → F (q + 1) = some r) : Ev F r :=
  ⟨K + 1, fun k hk => by obtain ⟨q, rfl⟩ : ∃ q, k = q + 1 := ⟨k - 1, by omega⟩; exact h q (by omega)⟩
/-! ### digits and their value -/
/-- The number that digits are, behind a number. -/
def valFrom (n : Nat) (l : List UInt8) : Nat := l.foldl (fun a c => 10 * a + (c.toNat - 48)) n
theorem valFrom_cons (n : Nat) (c : UInt8) (l : List UInt8) : valFrom n (c :: l) = valFrom (10 * n + (c.toNat - 48)) l := by
  unfold valFrom
  rw [List.foldl_cons]
theorem valFrom_append (n : Nat) (l m : List UInt8) : valFrom n (l ++ m) = valFrom (valFrom n l) m := List.foldl_append
theorem valFrom_ge (l : List UInt8) : ∀ n, n ≤ valFrom n l := by
  induction l with
  | nil => intro n; exact Nat.le_refl _
  | cons c l ih => intro n; rw [valFrom_cons]; exact Nat.le_trans (by omega) (ih _)
def isDig (c : UInt8) : Bool := decide (48 ≤ c.toNat) && decide (c.toNat ≤ 57)
theorem isDig_iff (c : UInt8) : isDig c = true ↔ 48 ≤ c.toNat ∧ c.toNat ≤ 57 := by unfold isDig; simp
/-- Digits, of which the first is no zero if it is not alone. -/
def good (l : List UInt8) : Prop := l ≠ [] ∧ (∀ c ∈ l, isDig c = true) ∧ (l.head? = some 48 → l.length = 1)
theorem dig_toNat {d : Nat} (h : d < 10) : (UInt8.ofNat (48 + d)).toNat = 48 + d := by simp; omega
theorem decDigits_one {u : Nat} (h : u < 10) : Lib.decDigits u = [UInt8.ofNat (48 + u)] := by
  rw [Lib.decDigits, dif_pos h]
theorem decDigits_more {u : Nat} (h : ¬ u < 10) : Lib.decDigits u = Lib.decDigits (u / 10) ++ [UInt8.ofNat (48 + u % 10)] := by
  conv => lhs; rw [Lib.decDigits]
  rw [dif_neg h]
theorem decDigits_step {n d : Nat} (hn : 1 ≤ n) (hd : d < 10) : Lib.decDigits (10 * n + d) = Lib.decDigits n ++ [UInt8.ofNat (48 + d)] := by
  rw [decDigits_more (by omega), show (10 * n + d) / 10 = n by omega, show (10 * n + d) % 10 = d by omega]
theorem val_dec (v : Nat) : valFrom 0 (Lib.decDigits v) = v := by
  induction v using Nat.strongRecOn with
  | _ v ih =>
    by_cases h : v < 10
    · rw [decDigits_one h]
      show 10 * 0 + ((UInt8.ofNat (48 + v)).toNat - 48) = v
      rw [dig_toNat h]
      omega
    · rw [decDigits_more h, valFrom_append, ih (v / 10) (by omega)]
      show 10 * (v / 10) + ((UInt8.ofNat (48 + v % 10)).toNat - 48) = v
      rw [dig_toNat (by omega)]
      omega
theorem dec_len {d : Nat} : ∀ v, v < 10 ^ (d + 1) → (Lib.decDigits v).length ≤ d + 1 := by
  induction d with
  | zero => intro v h; rw [decDigits_one (by simpa using h)]; exact Nat.le_refl _
  | succ d ih =>
    intro v h
    by_cases h2 : v < 10
    · rw [decDigits_one h2]; simp
    · rw [decDigits_more h2, List.length_append]
      have := ih (v / 10) (by rw [Nat.pow_succ] at h; omega)
      simp only [List.length_singleton]
      omega
theorem dec_pos (v : Nat) : Lib.decDigits v ≠ [] ∧ (∀ c ∈ Lib.decDigits v, isDig c = true) ∧ ((Lib.decDigits v).head? = some 48 → v = 0) := by
  induction v using Nat.strongRecOn with
  | _ v ih =>
    by_cases h : v < 10
    · rw [decDigits_one h]
      refine ⟨by simp, fun c hc => ?_, fun hh => ?_⟩
      · rw [List.mem_singleton.1 hc, isDig_iff, dig_toNat h]
        omega
      · have h2 := congrArg UInt8.toNat (Option.some.inj hh)
        rw [dig_toNat h] at h2
        have : (48 : UInt8).toNat = 48 := rfl
        omega
    · obtain ⟨h1, h2, h3⟩ := ih (v / 10) (by omega)
      rw [decDigits_more h]
      refine ⟨by simp, fun c hc => ?_, fun hh => ?_⟩
      · rcases List.mem_append.1 hc with hc | hc
        · exact h2 c hc
        · rw [List.mem_singleton.1 hc, isDig_iff, dig_toNat (by omega)]
          omega
      · cases e : Lib.decDigits (v / 10) with
        | nil => exact absurd e h1
        | cons c r =>
          rw [e] at hh h3
          have := h3 (by simpa using hh)
          omega
theorem good_dec (v : Nat) : good (Lib.decDigits v) := by
  obtain ⟨h1, h2, h3⟩ := dec_pos v
  refine ⟨h1, h2, fun h => ?_⟩
  rw [h3 h, decDigits_one (by decide)]
  rfl
theorem digit_eq {c : UInt8} (h : isDig c = true) : c = UInt8.ofNat (48 + (c.toNat - 48)) := by
  have := (isDig_iff c).1 h
  rw [show 48 + (c.toNat - 48) = c.toNat by omega, UInt8.ofNat_toNat]
theorem dec_from (l : List UInt8) : ∀ n, 1 ≤ n → (∀ c ∈ l, isDig c = true) → Lib.decDigits n ++ l = Lib.decDigits (valFrom n l) := by
  induction l with
  | nil => intro n _ _; rw [List.append_nil]; rfl
  | cons c l ih =>
    intro n hn hd
    have hc := hd c List.mem_cons_self
    have hc2 := (isDig_iff c).1 hc
    rw [valFrom_cons, ← ih (10 * n + (c.toNat - 48)) (by omega) (fun x hx => hd x (List.mem_cons_of_mem _ hx)), decDigits_step hn (by omega), ← digit_eq hc, List.append_assoc]
    rfl
theorem dec_good {l : List UInt8} (h : good l) : l = Lib.decDigits (valFrom 0 l) := by
  obtain ⟨h1, h2, h3⟩ := h
  cases l with
  | nil => exact absurd rfl h1
  | cons c l =>
    have hc := h2 c List.mem_cons_self
    have hc2 := (isDig_iff c).1 hc
    rw [valFrom_cons]
    have e1 : 10 * 0 + (c.toNat - 48) = c.toNat - 48 := by omega
    rw [e1]
    by_cases hz : c.toNat - 48 = 0
    · have ec : c = 48 := by
        rw [digit_eq hc, hz]
        rfl
      have hl := h3 (by rw [ec]; rfl)
      have : l = [] := by
        rw [List.length_cons] at hl
        exact List.eq_nil_of_length_eq_zero (by omega)
      rw [this, hz, ec]
      show _ = Lib.decDigits 0
      rw [decDigits_one (by decide)]
      rfl
    · rw [← dec_from l (c.toNat - 48) (by omega) (fun x hx => h2 x (List.mem_cons_of_mem _ hx)), decDigits_one (by omega), ← digit_eq hc]
      rfl
instance (l : List UInt8) : Decidable (good l) := by unfold good; exact inferInstance
/-! ### ascii.Parse -/
theorem tdiv_lt {g n : Int} {d : Nat} (hg : 0 ≤ g) (hn : 0 ≤ n) (hd : d ≤ 9) : (g - (d : Int)).tdiv 10 < n ↔ (1 ≤ n ∧ g < 10 * n + d) := by
  rcases Int.lt_or_le (g - d) 0 with h1 | h1
  · have e : (g - (d : Int)).tdiv 10 = 0 := by
      have : g - (d : Int) = -((d : Int) - g) := by omega
      rw [this, Int.neg_tdiv, Int.tdiv_eq_zero_of_lt (by omega) (by omega)]
      rfl
    rw [e]
    omega
  · rw [Int.tdiv_eq_ediv_of_nonneg h1]
    omega
/-- Behind the first digit. -/
theorem loop_tail (size : Nat) (g : Int) (hg : 0 ≤ g) (l : List UInt8) : ∀ (i n : Nat), 1 ≤ i → 1 ≤ n → 
    ((∀ c ∈ l, isDig c = true) ∧ ((valFrom n l : Nat) : Int) ≤ g → prsLoop size g l i (n : Int) = ((valFrom n l : Nat) : Int)) ∧
    (¬ ((∀ c ∈ l, isDig c = true) ∧ ((valFrom n l : Nat) : Int) ≤ g) → prsLoop size g l i (n : Int) = -1 ∨ g < prsLoop size g l i (n : Int)) := by
  induction l with
  | nil =>
    intro i n _ _
    refine ⟨fun _ => rfl, fun h => .inr ?_⟩
    have : ¬ ((n : Nat) : Int) ≤ g := fun h2 => h ⟨fun c hc => (List.not_mem_nil hc).elim, h2⟩
    show g < (n : Int)
    omega
  | cons c l ih =>
    intro i n hi hn
    simp only [prsLoop]
    by_cases hc : isDig c = true
    · have hc2 := (isDig_iff c).1 hc
      rw [if_neg (by omega), show ((c.toNat : Int) - 48) = ((c.toNat - 48 : Nat) : Int) by omega]
      have ht := tdiv_lt (g := g) (n := (n : Int)) (d := c.toNat - 48) hg (by omega) (by omega)
      have hge := valFrom_ge l (10 * n + (c.toNat - 48))
      by_cases hb : (g - ((c.toNat - 48 : Nat) : Int)).tdiv 10 < (n : Int)
      · rw [if_pos hb]
        refine ⟨fun h => ?_, fun _ => .inl rfl⟩
        have h2 := (ht.1 hb).2
        have h3 := h.2
        rw [valFrom_cons] at h3
        omega
      · rw [if_neg hb]
        have e : 10 * (n : Int) + ((c.toNat - 48 : Nat) : Int) = ((10 * n + (c.toNat - 48) : Nat) : Int) := by omega
        rw [e]
        obtain ⟨a, b⟩ := ih (i + 1) (10 * n + (c.toNat - 48)) (by omega) (by omega)
        rw [valFrom_cons]
        refine ⟨fun h => a ⟨fun x hx => h.1 x (List.mem_cons_of_mem _ hx), h.2⟩, fun h => b (fun h2 => h ⟨fun x hx => ?_, h2.2⟩)⟩
        rcases List.mem_cons.1 hx with rfl | hx
        · exact hc
        · exact h2.1 x hx
    · have hc2 : ¬ (48 ≤ c.toNat ∧ c.toNat ≤ 57) := fun h => hc ((isDig_iff c).2 h)
      rw [if_pos (by omega)]
      exact ⟨fun h => absurd (h.1 c List.mem_cons_self) hc, fun _ => .inl rfl⟩
theorem prs_spec (l : List UInt8) (a g : Int) (ha : 0 ≤ a) (hag : a ≤ g) : prsEnd l.length a g (prsLoop l.length g l 0 0) = if good l ∧ a ≤ ((valFrom 0 l : Nat) : Int) ∧ ((valFrom 0 l : Nat) : Int) ≤ g then (((valFrom 0 l : Nat) : Int), 0) else (0, 6) := by
  have hbad : ∀ n : Int, n = -1 ∨ g < n → prsEnd l.length a g n = (0, 6) := fun n h => by
    unfold prsEnd
    rw [if_pos (by omega)]
  cases l with
  | nil =>
    rw [if_neg (fun h => h.1.1 rfl)]
    rfl
  | cons c l =>
    have hne : ¬ (c :: l).length = 0 := by simp
    by_cases hc : isDig c = true
    · have hc2 := (isDig_iff c).1 hc
      have e : ((c.toNat : Int) - 48) = ((c.toNat - 48 : Nat) : Int) := by omega
      have e0 : valFrom 0 (c :: l) = valFrom (c.toNat - 48) l := by rw [valFrom_cons]; congr 1; omega
      have ht : ¬ (g - ((c.toNat - 48 : Nat) : Int)).tdiv 10 < (0 : Int) := fun h => by
        have := (tdiv_lt (g := g) (n := 0) (d := c.toNat - 48) (by omega) (by omega) (by omega)).1 h
        omega
      by_cases hz : c.toNat - 48 = 0
      · have ec : c = 48 := by
          rw [digit_eq hc, hz]
          rfl
        cases l with
        | nil =>
          have hl : prsLoop (List.length [c]) g [c] 0 0 = 0 := by
            simp only [prsLoop]
            rw [if_neg (by simp only [List.length_singleton]; omega), e, if_neg ht]
            omega
          have hv : valFrom 0 [c] = 0 := by rw [e0]; exact hz
          rw [hl, hv]
          have hg2 : good [c] := ⟨by simp, fun x hx => by rw [List.mem_singleton.1 hx]; exact hc, fun _ => rfl⟩
          unfold prsEnd
          by_cases h : a ≤ 0
          · rw [if_neg (by simp only [List.length_singleton]; omega), if_pos ⟨hg2, by simpa using h, by simp; omega⟩]
            rfl
          · rw [if_pos (.inr (.inl (by omega))), if_neg (fun h2 => h (by simpa using h2.2.1))]
        | cons x l =>
          have hl : prsLoop (List.length (c :: x :: l)) g (c :: x :: l) 0 0 = -1 := by
            rw [prsLoop]
            rw [if_pos (.inr (.inr ⟨rfl, by omega, by simp⟩))]
          rw [hl, hbad _ (.inl rfl), if_neg (fun h => by
            have := h.1.2.2 (by rw [ec]; rfl)
            simp at this)]
      · have hl : prsLoop (List.length (c :: l)) g (c :: l) 0 0 = prsLoop (List.length (c :: l)) g l 1 ((c.toNat - 48 : Nat) : Int) := by
          rw [prsLoop]
          rw [if_neg (by omega), e, if_neg ht]
          congr 1
          omega
        rw [hl, e0]
        obtain ⟨p, q⟩ := loop_tail (List.length (c :: l)) g (by omega) l 1 (c.toNat - 48) (by omega) (by omega)
        have hgood : good (c :: l) ↔ ∀ x ∈ l, isDig x = true := by
          refine ⟨fun h x hx => h.2.1 x (List.mem_cons_of_mem _ hx), fun h => ⟨by simp, fun x hx => ?_, fun hh => ?_⟩⟩
          · rcases List.mem_cons.1 hx with rfl | hx
            · exact hc
            · exact h x hx
          · have := Option.some.inj hh
            rw [this] at hz
            exact absurd rfl hz
        by_cases h : (∀ x ∈ l, isDig x = true) ∧ ((valFrom (c.toNat - 48) l : Nat) : Int) ≤ g
        · rw [p h]
          unfold prsEnd
          by_cases h2 : a ≤ ((valFrom (c.toNat - 48) l : Nat) : Int)
          · rw [if_neg (by omega), if_pos ⟨hgood.2 h.1, h2, h.2⟩]
          · rw [if_pos (.inr (.inl (by omega))), if_neg (fun h3 => h2 h3.2.1)]
        · rw [hbad _ (q h), if_neg (fun h2 => h ⟨hgood.1 h2.1, h2.2.2⟩)]
    · have hc2 : ¬ (48 ≤ c.toNat ∧ c.toNat ≤ 57) := fun h => hc ((isDig_iff c).2 h)
      have hl : prsLoop (List.length (c :: l)) g (c :: l) 0 0 = -1 := by
        rw [prsLoop]
        rw [if_pos (by omega)]
      rw [hl, hbad _ (.inl rfl), if_neg (fun h => hc (h.1.2.1 c List.mem_cons_self))]
end Go.Proofs.YtlpibchjcmndjabDoor.Pure
