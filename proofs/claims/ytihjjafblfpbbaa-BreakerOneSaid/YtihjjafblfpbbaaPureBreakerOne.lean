/- The statement BreakerOne (postilionlaw09): between a trial that begins, and its outcome or its being given back, none other begins; while a breaker is open, it may not be tried; while it is closed, it may; for every cool and every row of acts; no condition. -/
import Derived.Test.YtihjjafblfpbbaaPx17
import Derived.Test.YtihjjafblfpbbaaPx15
import Derived.Test.YtihjjafblfpbbaaBreakerLem
namespace Go.Proofs.Ytihjjafblfpbbaa.Pure
open Go.RowKit Go.Proofs.Ytihjjafblfpbbaa.P Go.Proofs.YtihjjafblfpbbaaW.PrintWords Go.Proofs.YtihjjafblfpbbaaW.PrintLast
theorem rd_act {l : List S47} (h : ∀ y_ ∈ l, ((Lit.int .u8 y_.f0).wf = true) ∧ ((Lit.int .u16 y_.f1).wf = true)) (i : Int) : 0 ≤ (rd_T47 l i).f1 ∧ (rd_T47 l i).f1 ≤ 65535 := by
  unfold rd_T47
  rw [List.getD_eq_getElem?_getD]
  cases e : l[i.toNat]? with
  | none => simp [z47]
  | some x =>
    have h2 := (h x (List.mem_of_getElem? e)).2
    simp only [Lit.wf, Bool.and_eq_true, decide_eq_true_eq] at h2
    exact ⟨h2.1, h2.2⟩
theorem lets_open {a : Bool} {b c : Int} {d : Bool} {now : Int} (h : stB a b c d now = 1) : letsB a b c d now = false := by
  unfold letsB
  rw [h]
  rfl
theorem lets_shut {a : Bool} {b c : Int} {d : Bool} {now : Int} (h : stB a b c d now = 0) : letsB a b c d now = true := by
  unfold letsB
  rw [h]
  rfl
theorem lets_half {a : Bool} {b c : Int} {d : Bool} {now : Int} (h : stB a b c d now = 2) : letsB a b c d now = !d := by
  unfold letsB
  rw [h]
  cases d <;> rfl
theorem st_three (a : Bool) (b c : Int) (d : Bool) (now : Int) : stB a b c d now = 0 ∨ stB a b c d now = 1 ∨ stB a b c d now = 2 := by
  unfold stB
  grind
theorem j2_ok (k : Nat) (cool : Int) (l : List S47) (now i : Int) (a : Bool) (b c : Int) (d : Bool) (hm : mayB a b c d = true) :
    postilionlaw09_BreakerOne.j2 (k + 1) cool l now d i 0 a b c d = postilionlaw09_BreakerOne.l0 k cool l now d (wrap64 (i + 1)) a b c d := by
  simp only [postilionlaw09_BreakerOne.j2]
  rw [st_p, may_p, lets_p, hm]
  simp only [Option.bind_some, if_true]
  rcases st_three a b c d now with h | h | h
  · rw [h, lets_shut h]
    simp
  · rw [h, lets_open h]
    simp
  · rw [h, lets_half h]
    cases d <;> simp
theorem may_opened {now span : Int} {d : Bool} (h0 : 0 ≤ now) (h1 : now ≤ 1099511619775) (h2 : 1 ≤ span) (h3 : span ≤ 8000) : mayB true now span d = true := by
  unfold mayB
  simp
  omega
theorem st_opened {now span : Int} {d : Bool} (h0 : 0 ≤ now) (h1 : now ≤ 1099511619775) (h2 : 1 ≤ span) (h3 : span ≤ 8000) : stB true now span d now = 1 := by
  unfold stB
  rw [if_pos (may_opened h0 h1 h2 h3), if_pos rfl, if_pos (by omega)]
theorem may_free {a : Bool} {b c : Int} {d : Bool} (h : mayB a b c d = true) : mayB a b c false = true := by
  unfold mayB at *
  cases a <;> cases d <;> simp at h ⊢ <;> first | exact h | omega
theorem may_shut {b c : Int} {d : Bool} (h : mayB false b c d = true) : b = 0 ∧ c = 0 ∧ d = false := by
  unfold mayB at h
  cases d <;> simp at h
  exact ⟨h.1, h.2, rfl⟩
theorem may_held {a : Bool} {b c : Int} (h : mayB a b c true = true) : a = true ∧ 1 ≤ c := by
  unfold mayB at h
  cases a <;> simp at h
  exact ⟨rfl, h.2.2.1⟩
theorem may_tried {a : Bool} {b c : Int} {d : Bool} (h : mayB a b c d = true) : mayB a b c a = true := by
  unfold mayB at *
  cases a <;> simp at h ⊢ <;> first | exact h.2 | omega
theorem one_loop (cool : Int) (hc0 : 1 ≤ cool) (hc1 : cool ≤ 1000) (l : List S47) (hl : ∀ y_ ∈ l, ((Lit.int .u8 y_.f0).wf = true) ∧ ((Lit.int .u16 y_.f1).wf = true)) (hn : l.length ≤ 200) (n : Nat) :
    ∀ (k i : Nat) (now : Int) (a : Bool) (b c : Int) (d : Bool), (l.length : Int) - i = n → 0 ≤ now → now ≤ i * 65535 → mayB a b c d = true → 2 * n + 2 < k →
      postilionlaw09_BreakerOne.l0 k cool l now d i a b c d = some true := by
  induction n with
  | zero =>
    intro k i now a b c d hi h0 h1 hm hk
    obtain ⟨k, rfl⟩ : ∃ q, k = q + 1 := ⟨k - 1, by omega⟩
    simp only [postilionlaw09_BreakerOne.l0]
    rw [if_neg (by omega)]
  | succ n ih =>
    intro k i now a b c d hi h0 h1 hm hk
    obtain ⟨k, rfl⟩ : ∃ q, k = q + 2 := ⟨k - 2, by omega⟩
    have hr := rd_act hl (i : Int)
    have hcc := may_c hm
    have next : ∀ (a' : Bool) (b' c' : Int) (d' : Bool), mayB a' b' c' d' = true → postilionlaw09_BreakerOne.j2 (k + 1) cool l (now + (rd_T47 l i).f1) d' i 0 a' b' c' d' = some true := by
      intro a' b' c' d' hm'
      rw [j2_ok k cool l _ i a' b' c' d' hm', wrap_in (by omega) (by omega)]
      exact ih k (i + 1) _ a' b' c' d' (by omega) (by omega) (by omega) hm' (by omega)
    rw [postilionlaw09_BreakerOne.l0.eq_2]
    rw [if_pos (by omega), if_pos (by omega), wrap_in (x := (rd_T47 l i).f1) (by omega) (by omega), wrap_in (x := now + _) (by omega) (by omega)]
    generalize hT : now + (rd_T47 l i).f1 = t at *
    have ht0 : 0 ≤ t := by omega
    have ht1 : t ≤ 1099511619775 := by omega
    have htick : tickB t = true := by unfold tickB; simp; omega
    have hs := st_three a b c d t
    simp only [try_p, lets_p, st_p, good_p, back_p, bad_p, Option.bind_some]
    by_cases k0 : Int.tmod (rd_T47 l i).f0 6 = 0
    · rw [if_pos k0]
      by_cases hlt : letsB a b c d t = true
      · have htr : tryB a b c d t = (a, b, c, a, a, 0) := by unfold tryB; rw [if_pos ⟨htick, hlt⟩]
        have hz := st_zero hlt
        have hd : a = true → d = false := by
          rintro rfl
          rcases hs with h | h | h
          · exact absurd (hz.1.1 h) (by decide)
          · rw [lets_open h] at hlt; exact absurd hlt (by decide)
          · rw [lets_half h] at hlt; simpa using hlt
        have hst : (stB a b c d t == 2) = a := by
          cases a with
          | false => rw [hz.1.2 rfl]; rfl
          | true =>
            rcases hs with h | h | h
            · exact absurd (hz.1.1 h) (by decide)
            · rw [lets_open h] at hlt; exact absurd hlt (by decide)
            · rw [h]; rfl
        rw [htr, hlt]
        simp only [hst]
        have hdf : d = false := by
          cases a with
          | false => exact hz.2 rfl
          | true => exact hd rfl
        subst hdf
        cases a with
        | false => simpa using next false b c false hm
        | true => simpa using next true b c true (may_tried hm)
      · have hlf : letsB a b c d t = false := by simpa using hlt
        have htr : tryB a b c d t = (a, b, c, d, false, 2) := by unfold tryB; rw [if_neg (by simp [hlf])]
        rw [htr, hlf]
        cases d with
        | false => simpa using next a b c false hm
        | true => simpa using next a b c true hm
    rw [if_neg k0]
    by_cases k1 : Int.tmod (rd_T47 l i).f0 6 = 1
    · rw [if_pos k1]
      unfold goodB itsB
      rw [hm]
      cases d with
      | false => simpa using next a b c false hm
      | true => simpa using next false 0 0 false rfl
    rw [if_neg k1]
    by_cases k2 : Int.tmod (rd_T47 l i).f0 6 = 2
    · rw [if_pos k2]
      have hb : ∀ trip, badB a b c d t cool true trip = (if d = true then (true, t, (if 2 * c < 8 * cool then 2 * c else 8 * cool), false, 0) else (a, b, c, d, 0)) := fun trip => by
        unfold badB
        rw [if_pos ⟨hm, ht0, ht1, hc0, hc1⟩, if_pos rfl]
      simp only [hb]
      cases d with
      | false => simpa using next a b c false hm
      | true =>
        have hcp := (may_held hm).2
        have hsp : 1 ≤ (if 2 * c < 8 * cool then 2 * c else 8 * cool) ∧ (if 2 * c < 8 * cool then 2 * c else 8 * cool) ≤ 8000 := by split <;> omega
        generalize (if 2 * c < 8 * cool then 2 * c else 8 * cool) = sp at hsp ⊢
        have h1 := st_opened (d := false) ht0 ht1 hsp.1 hsp.2
        have h2 := lets_open h1
        simp only [if_true, h1, h2]
        simpa using next true t sp false (may_opened ht0 ht1 hsp.1 hsp.2)
    rw [if_neg k2]
    by_cases k3 : Int.tmod (rd_T47 l i).f0 6 = 3
    · rw [if_pos k3]
      unfold backB itsB
      rw [hm]
      cases d with
      | false => simpa using next a b c false hm
      | true => simpa using next a b c false (may_free hm)
    rw [if_neg k3]
    by_cases k4 : Int.tmod (rd_T47 l i).f0 6 = 4
    · rw [if_pos k4]
      have hb : ∀ trip, badB a b c d t cool false trip = (if a = false ∧ trip = true then (true, t, cool, false, 0) else (a, b, c, d, 0)) := fun trip => by
        unfold badB
        rw [if_pos ⟨hm, ht0, ht1, hc0, hc1⟩, if_neg (by decide)]
      simp only [hb]
      have hcl := st_closed hm t
      cases a with
      | false =>
        obtain ⟨rfl, rfl, rfl⟩ := may_shut hm
        have h0' := hcl.2 rfl
        cases htp : (rd_T47 l i).f2 with
        | false => simpa [h0'] using next false 0 0 false rfl
        | true =>
          have h1 := st_opened (d := false) ht0 ht1 hc0 (show cool ≤ 8000 by omega)
          simpa [h0', h1] using next true t cool false (may_opened ht0 ht1 hc0 (by omega))
      | true =>
        have h0' : ¬ stB true b c d t = 0 := fun h => absurd (hcl.1 h) (by decide)
        simpa [h0'] using next true b c d hm
    rw [if_neg k4]
    unfold goodB itsB
    simpa using next a b c d hm
theorem awake_true (k : Nat) : postilionlaw09_awake.f k = some true := rfl
theorem BreakerOne : postilionlaw09_BreakerOne.Pure := by
  intro cool l hc h1 hl
  refine ⟨1000, ?_⟩
  unfold postilionlaw09_BreakerOne.f
  rw [awake_true]
  simp only [Option.bind_some, if_true, postilionlaw09_BreakerOne.j0]
  by_cases c0 : cool < 1
  · rw [if_pos c0]
  by_cases c1 : cool > 1000
  · rw [if_neg c0, if_pos c1]
  by_cases c2 : (l.length : Int) > 200
  · rw [if_neg c0, if_neg c1, if_pos (by simpa using c2)]
  rw [if_neg c0, if_neg c1, if_neg (by simpa using c2)]
  have := one_loop cool (by omega) (by omega) l hl (by omega) l.length 999 0 0 false 0 0 false (by omega) (by omega) (by omega) rfl (by omega)
  rw [Int.natCast_zero] at this
  exact this
end Go.Proofs.Ytihjjafblfpbbaa.Pure
