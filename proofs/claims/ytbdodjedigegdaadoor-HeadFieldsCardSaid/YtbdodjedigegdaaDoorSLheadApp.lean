import Derived.Test.YtbdodjedigegdaaDoorSLheadTold
namespace Go.Proofs.YtbdodjedigegdaaDoor.P
open Go.RowKit Go.Proofs.YtbdodjedigegdaaDoorW.PrintWords Go.Proofs.YtbdodjedigegdaaDoorW.PrintLast Go.Proofs.YtbdodjedigegdaaDoorW.PrintMore
set_option linter.unusedVariables false
set_option linter.unusedSimpArgs false
set_option linter.unnecessarySimpa false
attribute [local go_sem] max2_int min2_int max_two min_two max_three min_three max_four min_four
set_option linter.unusedVariables false
set_option linter.unusedSimpArgs false
set_option linter.unnecessarySimpa false
/-! ### rows of bytes that grow; what more bytes do -/
theorem u8s_append (a b : List UInt8) : u8s (a ++ b) = u8s a ++ u8s b := by unfold u8s; rw [List.map_append]
theorem u8_slice {W : World} {base : Nat} {v : Value} {l : List UInt8} {n : Nat} (hn : n = l.length) (h : W.ownsRow base 5 1 v n (u8s l)) : ∃ A q, v = .slice A n q := by
  subst hn
  obtain ⟨A, q, e, -⟩ := own_u8_form h
  exact ⟨A, q, e⟩
theorem run_app_u8 (base : Nat) {W : World} {v : Value} {l0 l : List UInt8} {A : Option Addr} {c : Nat} (ty : TypeId) (own : W.ownsRow base 5 1 v l0.length (u8s l0)) (hr : ReadsInt W .u8 A l.length (l.map fun b => (b.toNat : Int))) (hl0 : l0.length ≤ 100000) (hl : l.length ≤ 100000) (hbase : base ≤ W.heap.size) :
    ∃ A' c' W', (Builtin.append_ #[26, 26] ty #[v, .slice A l.length c]).run Tryd.prog W = .ok (.slice A' (l0.length + l.length) c') W' ∧ W'.ownsRow base 5 1 (.slice A' (l0.length + l.length) c') (l0 ++ l).length (u8s (l0 ++ l)) ∧ W.grownBy W' v.ownBlock := by
  obtain ⟨i0, hi, hz0, hz1, hz2⟩ := info_parts infoU8
  cases A with
  | none =>
    have e0 : l = [] := by
      cases l with
      | nil => rfl
      | cons a t =>
        obtain ⟨ad, h, _⟩ := hr.2.2 (by simp)
        cases h
    subst e0
    obtain ⟨A, q, ev, hq, -, -⟩ := own_u8_form own
    subst ev
    refine ⟨A, q, W, ?_, by rw [List.append_nil]; exact own, ⟨rfl, rfl, rfl, Nat.le_refl _, fun _ _ _ => rfl⟩⟩
    simp [Builtin.append_, run_underlying Tryd.underlying26, sizeOf, typeInfo, hi, Builtin.lenOf, Builtin.firstCells, loadCells, loadCellsFrom, storeCells, hq]
    cases A <;> rfl
  | some ad =>
    obtain ⟨v', w', h1, h2, h3, h4, h5⟩ := run_append_own_at (P := Tryd.prog) W base 26 ty 5 i0 (.int .u8 0) 1 1 Tryd.underlying26 hi hz0 hz1 hz2 rfl (by decide) v l0.length (u8s l0) own ad l.length c (u8s l) (by rw [u8s_length]; omega) (fun j u hj => by
      have hlt : j < l.length := by
        rcases Nat.lt_or_ge j l.length with h | h
        · exact h
        · rw [List.getElem?_eq_none (by rw [u8s_length]; exact h)] at hj
          cases hj
      obtain ⟨ad2, e, hc⟩ := hr.2.2 (by omega)
      cases e
      rw [hc j hlt, ← hj]
      unfold u8s
      rw [List.getElem?_map, List.getElem?_eq_getElem hlt, List.getD_eq_getElem?_getD, List.getElem?_map, List.getElem?_eq_getElem hlt]
      rfl) (fun u hu => by
      unfold u8s at hu
      obtain ⟨x, _, rfl⟩ := List.mem_map.1 hu
      rfl) (by unfold maxLen; omega) (by omega) hbase
    rw [← u8s_append] at h2
    obtain ⟨A', q', ev⟩ := u8_slice (List.length_append.symm) h2
    subst ev
    refine ⟨A', q', w', h1, ?_, h3⟩
    rw [List.length_append]
    exact h2
theorem run_app_str (base : Nat) {W : World} {v : Value} {l0 : List UInt8} (s : ByteArray) (ty : TypeId) (own : W.ownsRow base 5 1 v l0.length (u8s l0)) (hl0 : l0.length ≤ 100000) (hl : s.size ≤ 100000) (hbase : base ≤ W.heap.size) :
    ∃ A' c' W', (Builtin.append_ #[26, 9] ty #[v, .string s]).run Tryd.prog W = .ok (.slice A' (l0.length + s.size) c') W' ∧ W'.ownsRow base 5 1 (.slice A' (l0.length + s.size) c') (l0 ++ s.data.toList).length (u8s (l0 ++ s.data.toList)) ∧ W.grownBy W' v.ownBlock := by
  obtain ⟨i0, hi, hz0, hz1, hz2⟩ := info_parts infoU8
  obtain ⟨v', w', h1, h2, h3, h4⟩ := Lib.run_append_own_string (P := Tryd.prog) W base 26 9 ty 5 i0 Tryd.underlying26 Tryd.underlying9 hi hz0 hz1 hz2 v l0.length (u8s l0) own s (by unfold maxLen; omega) (by omega) hbase
  have e : Lib.strCells s = u8s s.data.toList := rfl
  rw [e, ← u8s_append] at h2
  obtain ⟨A', q', ev⟩ := u8_slice (by rw [List.length_append, data_length]) h2
  subst ev
  refine ⟨A', q', w', h1, ?_, h3⟩
  rw [List.length_append, data_length]
  exact h2
/-! ### what more bytes do -/
def stepsT (k : Tk) : List UInt8 → Tk
  | [] => k
  | c :: l => stepsT (tkStep k c).2 l
theorem step_e (k : Tk) (c : UInt8) : (tkStep k c).1 = 0 ∨ (tkStep k c).1 = 3 ∨ (tkStep k c).1 = 6 := by
  unfold tkStep
  cases k.st <;> unfold stepF <;> (repeat' split) <;> simp
theorem takeG_e : ∀ (l : List UInt8) (k : Tk) (i : Nat), (takeG k i l).e = 0 ∨ (takeG k i l).e = 3 ∨ (takeG k i l).e = 5 ∨ (takeG k i l).e = 6
  | [], k, i => .inr (.inr (.inl rfl))
  | c :: l, k, i => by
    unfold takeG
    by_cases h1 : (tkStep k c).1 = 0
    · rw [if_pos h1]
      by_cases h2 : (tkStep k c).2.over = true
      · rw [if_pos h2]
        exact .inl rfl
      · rw [if_neg h2]
        by_cases h3 : i + 1 = 512
        · rw [if_pos h3]
          exact .inr (.inl rfl)
        · rw [if_neg h3]
          exact takeG_e l _ _
    · rw [if_neg h1]
      rcases step_e k c with h | h | h
      · exact absurd h h1
      · rw [h]; exact .inr (.inl rfl)
      · rw [h]; exact .inr (.inr (.inr rfl))
theorem takeG_more5 : ∀ (l : List UInt8) (k : Tk) (i : Nat), (takeG k i l).e = 5 → k.over = false → (∀ m, takeG k i (l ++ m) = takeG (stepsT k l) (i + l.length) m) ∧ (stepsT k l).over = false
  | [], k, i, _, ho => ⟨fun m => rfl, ho⟩
  | c :: l, k, i, h, ho => by
    obtain ⟨x, k', e⟩ : ∃ x k', tkStep k c = (x, k') := ⟨_, _, rfl⟩
    have hx : x = 0 := by
      rcases step_e k c with h1 | h1 | h1
      · rw [e] at h1; exact h1
      · rw [e] at h1
        rw [takeG_bad e (by rw [show x = 3 from h1]; decide)] at h
        rw [show x = 3 from h1] at h
        exact absurd h (by decide)
      · rw [e] at h1
        rw [takeG_bad e (by rw [show x = 6 from h1]; decide)] at h
        rw [show x = 6 from h1] at h
        exact absurd h (by decide)
    subst hx
    have ho' : k'.over = false := by
      cases hv : k'.over with
      | false => rfl
      | true =>
        rw [takeG_over e hv] at h
        exact absurd h (by show ¬ (0 : Int) = 5; decide)
    have hi : i + 1 ≠ 512 := fun hi => by
      rw [takeG_long e ho' hi] at h
      exact absurd h (by show ¬ (3 : Int) = 5; decide)
    rw [takeG_go e ho' hi] at h
    obtain ⟨h1, h2⟩ := takeG_more5 l k' (i + 1) h ho'
    have es : stepsT k (c :: l) = stepsT k' l := by show stepsT (tkStep k c).2 l = _; rw [e]
    rw [es]
    refine ⟨fun m => ?_, h2⟩
    rw [List.cons_append, takeG_go e ho' hi, h1 m, List.length_cons]
    congr 1
    omega
/-- What was taken, or refused: more bytes change nothing. -/
theorem takeG_stays : ∀ (l m : List UInt8) (k : Tk) (i : Nat), (takeG k i l).e ≠ 5 → takeG k i (l ++ m) = takeG k i l
  | [], m, k, i, h => absurd rfl h
  | c :: l, m, k, i, h => by
    rw [List.cons_append]
    unfold takeG at h ⊢
    by_cases h1 : (tkStep k c).1 = 0
    · rw [if_pos h1] at h ⊢
      by_cases h2 : (tkStep k c).2.over = true
      · rw [if_pos h2, if_pos h1, if_pos h2]
      · rw [if_neg h2] at h ⊢
        rw [if_pos h1, if_neg h2]
        by_cases h3 : i + 1 = 512
        · rw [if_pos h3, if_pos h3]
        · rw [if_neg h3] at h ⊢
          rw [if_neg h3]
          exact takeG_stays l m _ _ h
    · rw [if_neg h1, if_neg h1]
/-- How many bytes. -/
theorem takeG_n : ∀ (l : List UInt8) (k : Tk) (i : Nat), ((takeG k i l).e = 0 → i < (takeG k i l).n ∧ (takeG k i l).n ≤ i + l.length ∧ (i < 512 → (takeG k i l).n ≤ 512)) ∧ ((takeG k i l).e ≠ 0 → (takeG k i l).n = 0)
  | [], k, i => ⟨fun h => absurd h (by show ¬ (5 : Int) = 0; decide), fun _ => rfl⟩
  | c :: l, k, i => by
    unfold takeG
    by_cases h1 : (tkStep k c).1 = 0
    · rw [if_pos h1]
      by_cases h2 : (tkStep k c).2.over = true
      · rw [if_pos h2]
        refine ⟨fun _ => ⟨?_, ?_, ?_⟩, fun h => absurd rfl h⟩
        · show i < i + 1; omega
        · show i + 1 ≤ i + (c :: l).length; simp
        · intro h; show i + 1 ≤ 512; omega
      · rw [if_neg h2]
        by_cases h3 : i + 1 = 512
        · rw [if_pos h3]
          exact ⟨fun h => absurd h (by show ¬ (3 : Int) = 0; decide), fun _ => rfl⟩
        · rw [if_neg h3]
          obtain ⟨ha, hb⟩ := takeG_n l (tkStep k c).2 (i + 1)
          refine ⟨fun h => ?_, hb⟩
          obtain ⟨p, q, r⟩ := ha h
          rw [List.length_cons]
          exact ⟨by omega, by omega, fun _ => r (by omega)⟩
    · rw [if_neg h1]
      exact ⟨fun h => absurd h h1, fun _ => rfl⟩
/-- Each beginning of what is taken is told ErrMore. -/
theorem takeG_pre : ∀ (l : List UInt8) (k : Tk) (i j : Nat), (takeG k i l).e = 0 → i + j < (takeG k i l).n → (takeG k i (l.take j)).e = 5
  | [], k, i, j, h, _ => absurd h (by show ¬ (5 : Int) = 0; decide)
  | c :: l, k, i, 0, h, _ => rfl
  | c :: l, k, i, j + 1, h, hj => by
    rw [List.take_succ_cons]
    unfold takeG at h hj ⊢
    by_cases h1 : (tkStep k c).1 = 0
    · rw [if_pos h1] at h hj ⊢
      by_cases h2 : (tkStep k c).2.over = true
      · rw [if_pos h2] at hj
        have : i + (j + 1) < i + 1 := hj
        omega
      · rw [if_neg h2] at h hj ⊢
        by_cases h3 : i + 1 = 512
        · rw [if_pos h3] at h
          exact absurd h (by show ¬ (3 : Int) = 0; decide)
        · rw [if_neg h3] at h hj ⊢
          exact takeG_pre l _ _ j h (by omega)
    · rw [if_neg h1] at h
      exact absurd h h1
theorem takeG_512 : ∀ (l : List UInt8) (k : Tk) (i : Nat), i < 512 → (takeG k i l).e = 5 → i + l.length < 512
  | [], k, i, hi, _ => by simpa using hi
  | c :: l, k, i, hi, h => by
    unfold takeG at h
    by_cases h1 : (tkStep k c).1 = 0
    · rw [if_pos h1] at h
      by_cases h2 : (tkStep k c).2.over = true
      · rw [if_pos h2] at h
        exact absurd h (by show ¬ (0 : Int) = 5; decide)
      · rw [if_neg h2] at h
        by_cases h3 : i + 1 = 512
        · rw [if_pos h3] at h
          exact absurd h (by show ¬ (3 : Int) = 5; decide)
        · rw [if_neg h3] at h
          have := takeG_512 l _ (i + 1) (by omega) h
          rw [List.length_cons]
          omega
    · rw [if_neg h1] at h
      rcases step_e k c with h5 | h5 | h5
      · exact absurd h5 h1
      · exact absurd (h5.symm.trans h) (by decide)
      · exact absurd (h5.symm.trans h) (by decide)
def endsL : List ByteArray := [⟨#[13, 10, 13, 10]⟩, ⟨#[10, 13, 10]⟩, ⟨#[10]⟩, ⟨#[13, 10]⟩, ⟨#[65, 13, 10, 13, 10]⟩, ⟨#[58, 13, 10, 13, 10]⟩, ⟨#[65, 58, 13, 10, 13, 10]⟩]
theorem fin_last {k : Tk} {i : Nat} (hs : k.st = .last) : (takeG k i [10]).e = 0 := by
  rw [takeG_over (k' := { k with over := true }) (by rw [stepOf hs]; rfl) rfl]
theorem fin_begin {k : Tk} {i : Nat} (hs : k.st = .begin) (ho : k.over = false) (hi : i ≤ 508) : (takeG k i [13, 10]).e = 0 := by
  rw [takeG_go (k' := { k with st := .last }) (by rw [stepOf hs]; rfl) ho (by omega)]
  exact fin_last rfl
theorem fin_feed {k : Tk} {i : Nat} (hs : k.st = .feed) (ho : k.over = false) (hi : i ≤ 507) : (takeG k i [10, 13, 10]).e = 0 := by
  rw [takeG_go (k' := { k with st := .begin }) (by rw [stepOf hs]; rfl) ho (by omega)]
  exact fin_begin rfl ho (by omega)
theorem fin_valued {k : Tk} {i : Nat} (hs : k.st = .valued) (ho : k.over = false) (hi : i ≤ 506) : (takeG k i [13, 10, 13, 10]).e = 0 := by
  rw [takeG_go (k' := { k with fields := k.fields ++ [(k.name, trimT (txtL k.text))], text := [], st := .feed }) (by rw [stepOf hs]; rfl) ho (by omega)]
  exact fin_feed rfl ho (by omega)
theorem fin_named {k : Tk} {i : Nat} (hs : k.st = .named) (ho : k.over = false) (hi : i ≤ 505) : (takeG k i [58, 13, 10, 13, 10]).e = 0 := by
  rw [takeG_go (k' := { k with name := lowT (txtL k.text), text := [], st := .valued }) (by rw [stepOf hs]; rfl) ho (by omega)]
  exact fin_valued rfl ho (by omega)
theorem fin_first {k : Tk} {i : Nat} (hs : k.st = .first) (ht : k.text ≠ []) (ho : k.over = false) (hi : i ≤ 506) : (takeG k i [13, 10, 13, 10]).e = 0 := by
  have e : tkStep k 13 = (0, { k with line := txtL k.text, text := [], st := .feed }) := by
    rw [stepOf hs]
    unfold stepF
    rw [if_neg (show ¬ plainB 13 = true by decide), if_pos (show (13 : UInt8) = 13 ∧ k.text ≠ [] from ⟨rfl, ht⟩)]
  rw [takeG_go e ho (by omega)]
  exact fin_feed rfl ho (by omega)
theorem fin_first0 {k : Tk} {i : Nat} (hs : k.st = .first) (ho : k.over = false) (hi : i ≤ 505) : (takeG k i [65, 13, 10, 13, 10]).e = 0 := by
  rw [takeG_go (k' := { k with text := k.text ++ [65] }) (by rw [stepOf hs]; rfl) ho (by omega)]
  exact fin_first hs (by simp) ho (by omega)
theorem ends_ok {l : List UInt8} (h : (takeT l).e = 5) (hl : l.length ≤ 500) : ∃ j, j < 7 ∧ (takeT (l ++ (endsL.getD j ⟨#[]⟩).data.toList)).e = 0 := by
  obtain ⟨h1, ho⟩ := takeG_more5 l tk0 0 h rfl
  unfold takeT
  rw [Nat.zero_add] at h1
  cases hs : (stepsT tk0 l).st with
  | first => exact ⟨4, by decide, by rw [h1]; exact fin_first0 hs ho (by omega)⟩
  | feed => exact ⟨1, by decide, by rw [h1]; exact fin_feed hs ho (by omega)⟩
  | begin => exact ⟨3, by decide, by rw [h1]; exact fin_begin hs ho (by omega)⟩
  | last => exact ⟨2, by decide, by rw [h1]; exact fin_last hs⟩
  | named => exact ⟨5, by decide, by rw [h1]; exact fin_named hs ho (by omega)⟩
  | valued => exact ⟨0, by decide, by rw [h1]; exact fin_valued hs ho (by omega)⟩
theorem more_n {l m : List UInt8} (h : (takeT l).e = 5) (h0 : (takeT (l ++ m)).e = 0) : l.length < (takeT (l ++ m)).n ∧ (takeT (l ++ m)).n ≤ l.length + m.length := by
  obtain ⟨h1, ho⟩ := takeG_more5 l tk0 0 h rfl
  unfold takeT at h0 ⊢
  rw [Nat.zero_add] at h1
  rw [h1] at h0 ⊢
  obtain ⟨p, q, _⟩ := (takeG_n m _ l.length).1 h0
  exact ⟨p, q⟩
end Go.Proofs.YtbdodjedigegdaaDoor.P
