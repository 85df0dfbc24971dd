/- The statement GreetOnce (postilionlaw12): behind what was taken, or refused, more bytes change nothing; each beginning of what is taken, but itself, is told ErrMore; what is told ErrMore becomes a greeting with some more bytes; for every input, no condition. -/
import Derived.Test.YtgmhbelgeopbdaaPx10
import Derived.Test.YtgmhbelgeopbdaaGreetLem2
namespace Go.Proofs.Ytgmhbelgeopbdaa.Pure
open Go.RowKit Go.Proofs.Ytgmhbelgeopbdaa.P Go.Proofs.YtgmhbelgeopbdaaW.PrintWords Go.Proofs.YtgmhbelgeopbdaaW.PrintLast

/-- Taken, or refused: with more bytes behind, the same. -/
theorem take_more (l m : List Int) (hl : Bytes l) (hm : Bytes m) (h1 : l.length ≤ 400) (h2 : m.length ≤ 400) (r : List Int × Int × Int) (h : greet_Take.f l = some r) (h5 : r.2.2 ≠ 5) : greet_Take.f (l ++ m) = some r := by
  have hlen : (l ++ m).length = l.length + m.length := List.length_append
  rcases take_cases l (by omega) hl with c | c | c | c | c | c
  · obtain rfl := Option.some.inj (h.symm.trans c.2); exact absurd rfl h5
  · rcases take_cases (l ++ m) (by omega) (hl.append hm) with d | d | d | d | d | d
    · omega
    · rw [d.2.2, ← c.2.2, h]
    all_goals (have := rd_append l m 0 (by omega); have e : rd (l ++ m) 0 = rd l 0 := this; exact absurd (e.symm.trans d.2.1) c.2.1)
  · obtain rfl := Option.some.inj (h.symm.trans c.2.2); exact absurd rfl h5
  · have e0 : rd (l ++ m) 0 = rd l 0 := rd_append l m 0 (by omega)
    have e1 : rd (l ++ m) 1 = rd l 1 := rd_append l m 1 (by omega)
    rcases take_cases (l ++ m) (by omega) (hl.append hm) with d | d | d | d | d | d
    · omega
    · exact absurd (e0.trans c.2.1) d.2.1
    · omega
    · rw [d.2.2.2, ← c.2.2.2, h]
    · omega
    · omega
  · obtain rfl := Option.some.inj (h.symm.trans c.2.2.2.2); exact absurd rfl h5
  · have e0 : rd (l ++ m) 0 = rd l 0 := rd_append l m 0 (by omega)
    have e1 : rd (l ++ m) 1 = rd l 1 := rd_append l m 1 (by omega)
    rcases take_cases (l ++ m) (by omega) (hl.append hm) with d | d | d | d | d | d
    · omega
    · exact absurd (e0.trans c.2.1) d.2.1
    · omega
    · omega
    · omega
    · rw [d.2.2.2.2, e1, h.symm.trans c.2.2.2.2 |> Option.some.inj]
      congr 2
      rw [List.drop_append_of_le_length (by omega), List.take_append_of_le_length (by rw [List.length_drop]; omega)]

/-- A beginning of what is taken is told that more is wanted. -/
theorem take_part (l : List Int) (hl : Bytes l) (h1 : l.length ≤ 400) (i : Nat) (h2 : 2 ≤ l.length) (h3 : rd l 0 = 5) (h4 : 0 < rd l 1) (hi : (i : Int) < 2 + rd l 1) (hn : i < l.length) : greet_Take.f (l.take i) = some ([], 0, 5) := by
  have hlen : (l.take i).length = i := by rw [List.length_take]; omega
  rcases take_cases (l.take i) (by omega) (hl.take i) with d | d | d | d | d | d
  · exact d.2
  · have e0 : rd (l.take i) 0 = rd l 0 := rd_take l i 0 (by omega)
    exact absurd (e0.trans h3) d.2.1
  · exact d.2.2
  · have e1 : rd (l.take i) 1 = rd l 1 := rd_take l i 1 (by omega)
    omega
  · exact d.2.2.2.2
  · have e1 : rd (l.take i) 1 = rd l 1 := rd_take l i 1 (by omega)
    omega

theorem parts_loop (l : List Int) (hl : Bytes l) (h1 : l.length ≤ 400) (h2 : 2 ≤ l.length) (h3 : rd l 0 = 5) (h4 : 0 < rd l 1) (h5 : 2 + rd l 1 ≤ (l.length : Int)) (m : List Int) (hm : (m.length : Int) = rd l 1) (d : Nat) :
    ∀ (k i : Nat), (i : Int) + d = 2 + rd l 1 → 2 * d + 2 < k → postilionlaw12_GreetOnce.l0 k l m (2 + rd l 1) 0 i = some true := by
  induction d with
  | zero =>
    intro k i hi hk
    obtain ⟨k, rfl⟩ : ∃ q, k = q + 2 := ⟨k - 2, by omega⟩
    simp only [postilionlaw12_GreetOnce.l0, postilionlaw12_GreetOnce.j3]
    rw [if_neg (by omega), if_neg (by decide), if_neg (by decide), if_pos (by decide), wrap_in (by omega) (by omega), if_pos (by omega), if_pos h5]
    simp only [Option.some.injEq, decide_eq_true_eq]
    omega
  | succ d ih =>
    intro k i hi hk
    obtain ⟨k, rfl⟩ : ∃ q, k = q + 2 := ⟨k - 2, by omega⟩
    simp only [postilionlaw12_GreetOnce.l0, postilionlaw12_GreetOnce.j3]
    rw [if_pos (by omega), if_pos (by simp; omega), if_pos (by omega), if_pos (by omega)]
    simp only [Int.toNat_natCast]
    rw [take_part l hl h1 i h2 h3 h4 (by omega) (by omega), wrap_in (by omega) (by omega)]
    simp only [Option.bind_some, if_true]
    exact ih k (i + 1) (by omega) (by omega)

theorem whole_loop (d : Nat) : ∀ (k : Nat) (l : List Int), Bytes l → l.length ≤ 1000 → 2 ≤ l.length → rd l 0 = 5 → 0 < rd l 1 → 2 + rd l 1 - (l.length : Int) ≤ d → d < k → postilionlaw12_GreetOnce.l1 k l = some true := by
  induction d with
  | zero =>
    intro k l hl h1 h2 h3 h4 hd hk
    have hr := rd_bytes hl 1
    obtain ⟨k, rfl⟩ : ∃ q, k = q + 1 := ⟨k - 1, by omega⟩
    simp only [postilionlaw12_GreetOnce.l1]
    rw [if_pos (by omega), wrap_in (x := rd l 1) (by omega) (by omega), wrap_in (by omega) (by omega), if_neg (by omega)]
    rcases take_cases l (by omega) hl with c | c | c | c | c | c
    · omega
    · exact absurd h3 c.2.1
    · omega
    · omega
    · omega
    · rw [c.2.2.2.2]; rfl
  | succ d ih =>
    intro k l hl h1 h2 h3 h4 hd hk
    have hr := rd_bytes hl 1
    obtain ⟨k, rfl⟩ : ∃ q, k = q + 1 := ⟨k - 1, by omega⟩
    by_cases hc : (l.length : Int) < 2 + rd l 1
    · have e0 : rd (l ++ [7]) 0 = rd l 0 := rd_append l [7] 0 (by omega)
      have e1 : rd (l ++ [7]) 1 = rd l 1 := rd_append l [7] 1 (by omega)
      have el : (l ++ [7]).length = l.length + 1 := by simp
      simp only [postilionlaw12_GreetOnce.l1]
      rw [if_pos (by omega), wrap_in (x := rd l 1) (by omega) (by omega), wrap_in (by omega) (by omega), if_pos hc, if_pos (by omega)]
      exact ih k (l ++ [7]) (hl.append (fun x hx => by simp at hx; omega)) (by omega) (by omega) (by omega) (by omega) (by omega) (by omega)
    · simp only [postilionlaw12_GreetOnce.l1]
      rw [if_pos (by omega), wrap_in (x := rd l 1) (by omega) (by omega), wrap_in (by omega) (by omega), if_neg hc]
      rcases take_cases l (by omega) hl with c | c | c | c | c | c
      · omega
      · exact absurd h3 c.2.1
      · omega
      · omega
      · omega
      · rw [c.2.2.2.2]; rfl

theorem refused (k : Nat) (l : List Int) : postilionlaw12_GreetOnce.l0 (k + 2) l [] 0 6 0 = some true := by
  simp only [postilionlaw12_GreetOnce.l0, postilionlaw12_GreetOnce.j3]
  simp

theorem GreetOnce : postilionlaw12_GreetOnce.Pure := by
  intro l m h0 h1 hw h2 h3 hv
  have hl := bytes_of_wf hw
  have hm := bytes_of_wf hv
  refine ⟨3000, ?_⟩
  unfold postilionlaw12_GreetOnce.f
  rw [awake_true]
  simp only [Option.bind_some, if_true, postilionlaw12_GreetOnce.j0]
  by_cases c1 : (l.length : Int) > 400
  · rw [if_pos c1]
  rw [if_neg c1]
  by_cases c2 : (m.length : Int) > 400
  · rw [if_pos (by simpa using c2)]
  rw [if_neg (by simpa using c2)]
  simp only [List.nil_append, List.length_nil]
  rw [if_pos (by omega), if_pos (by omega), if_pos (by omega)]
  obtain ⟨r, hr⟩ := take_some l (by omega) hl
  obtain ⟨q, hq⟩ := take_some (l ++ m) (by rw [List.length_append]; omega) (hl.append hm)
  rw [hr, hq]
  simp only [Option.bind_some]
  by_cases c5 : r.2.2 = 5
  · rw [if_pos c5]
    have hr5 := rd_bytes hl 1
    by_cases d0 : l.length = 0
    · obtain rfl : l = [] := List.eq_nil_of_length_eq_zero d0
      rw [if_pos (by simp), if_pos (by simp)]
      simp only [postilionlaw12_GreetOnce.j4, postilionlaw12_GreetOnce.j5, List.nil_append]
      rw [if_pos (by simp), if_pos (by simp)]
      exact whole_loop 10 2997 [5, 1] (fun x hx => by simp at hx; omega) (by simp) (by simp) (by simp [rd]) (by simp [rd]) (by simp [rd]) (by omega)
    · rw [if_neg (by omega)]
      simp only [postilionlaw12_GreetOnce.j4, postilionlaw12_GreetOnce.j5]
      by_cases d1 : l.length = 1
      · have e0 : rd (l ++ [1]) 0 = rd l 0 := rd_append l [1] 0 (by omega)
        have e1 : rd (l ++ [1]) 1 = 1 := by
          unfold rd
          rw [List.getD_eq_getElem?_getD, List.getElem?_append_right (by simp; omega)]
          simp [d1]
        have el : (l ++ [1]).length = 2 := by simp [d1]
        have h05 : rd l 0 = 5 := by
          rcases take_cases l (by omega) hl with c | c | c | c | c | c
          · omega
          · obtain rfl := Option.some.inj (hr.symm.trans c.2.2); exact absurd c5 (by decide)
          · exact c.2.1
          · omega
          · omega
          · omega
        rw [if_pos (by omega), if_pos (by omega)]
        exact whole_loop 10 2997 _ (hl.append (fun x hx => by simp at hx; omega)) (by omega) (by omega) (by omega) (by omega) (by omega) (by omega)
      · rw [if_neg (by omega)]
        have h05 : rd l 0 = 5 ∧ 0 < rd l 1 := by
          rcases take_cases l (by omega) hl with c | c | c | c | c | c
          · omega
          · obtain rfl := Option.some.inj (hr.symm.trans c.2.2); exact absurd c5 (by decide)
          · omega
          · obtain rfl := Option.some.inj (hr.symm.trans c.2.2.2); exact absurd c5 (by decide)
          · exact ⟨c.2.1, c.2.2.1⟩
          · exact ⟨c.2.1, c.2.2.1⟩
        exact whole_loop 300 2997 l hl (by omega) (by omega) h05.1 h05.2 (by omega) (by omega)
  · rw [if_neg c5]
    obtain rfl := Option.some.inj ((take_more l m hl hm (by omega) (by omega) r hr c5).symm.trans hq)
    rw [if_pos rfl, if_pos rfl]
    simp only [postilionlaw12_GreetOnce.j1]
    rw [if_neg (by simp)]
    rcases take_cases l (by omega) hl with c | c | c | c | c | c
    · obtain rfl := Option.some.inj (hr.symm.trans c.2); exact absurd rfl c5
    · obtain rfl := Option.some.inj (hr.symm.trans c.2.2)
      exact refused 2996 l
    · obtain rfl := Option.some.inj (hr.symm.trans c.2.2); exact absurd rfl c5
    · obtain rfl := Option.some.inj (hr.symm.trans c.2.2.2)
      exact refused 2996 l
    · obtain rfl := Option.some.inj (hr.symm.trans c.2.2.2.2); exact absurd rfl c5
    · obtain rfl := Option.some.inj (hr.symm.trans c.2.2.2.2)
      have hr5 := rd_bytes hl 1
      have := parts_loop l hl (by omega) c.1 c.2.1 c.2.2.1 c.2.2.2.1 ((l.drop 2).take (rd l 1).toNat) (by rw [List.length_take, List.length_drop]; omega) (2 + rd l 1).toNat 2998 0 (by omega) (by omega)
      simpa using this
end Go.Proofs.Ytgmhbelgeopbdaa.Pure
