/- The statement BreakerLonger (postilionlaw09): from one bad trial to the next one the span is twice as long, up to 8 times the cool; behind a good one it begins anew; for every cool and every row of later ticks; no condition. -/
import Derived.Test.YtihjjafblfpbbaaPx16
import Derived.Test.YtihjjafblfpbbaaPx16
import Derived.Test.YtihjjafblfpbbaaBreakerLem
namespace Go.Proofs.Ytihjjafblfpbbaa.Pure
open Go.RowKit Go.Proofs.Ytihjjafblfpbbaa.P Go.Proofs.YtihjjafblfpbbaaW.PrintWords Go.Proofs.YtihjjafblfpbbaaW.PrintLast
theorem rd_bytes {l : List Int} (h : ∀ x ∈ l, (Lit.int .u8 x).wf = true) (i : Int) : 0 ≤ rd l i ∧ rd l i ≤ 255 := by
  unfold rd
  rw [List.getD_eq_getElem?_getD]
  cases e : l[i.toNat]? with
  | none => simp
  | some x =>
    have h2 := h x (List.mem_of_getElem? e)
    simp only [Lit.wf, Bool.and_eq_true, decide_eq_true_eq] at h2
    exact ⟨h2.1, h2.2⟩
theorem may_open {now span : Int} {d : Bool} (h0 : 0 ≤ now) (h1 : now ≤ 1099511619775) (h2 : 1 ≤ span) (h3 : span ≤ 8000) : mayB true now span d = true := by
  unfold mayB
  simp
  omega
theorem lets_early {now span : Int} (h0 : 0 ≤ now) (h1 : now ≤ 1099511619775) (h2 : 1 ≤ span) (h3 : span ≤ 8000) : letsB true now span false (now + span - 1) = false := by
  unfold letsB stB
  rw [if_pos (may_open h0 h1 h2 h3), if_pos rfl, if_pos (by omega)]
  rfl
theorem lets_late {now span t : Int} (h0 : 0 ≤ now) (h1 : now ≤ 1099511619775) (h2 : 1 ≤ span) (h3 : span ≤ 8000) (ht : now + span ≤ t) : letsB true now span false t = true := by
  unfold letsB stB
  rw [if_pos (may_open h0 h1 h2 h3), if_pos rfl, if_neg (by omega)]
  rfl
theorem longer_loop (cool : Int) (hc0 : 1 ≤ cool) (hc1 : cool ≤ 1000) (l : List Int) (hl : ∀ x ∈ l, (Lit.int .u8 x).wf = true) (hn : l.length ≤ 20) (d : Nat) :
    ∀ (k i : Nat) (now span : Int), (l.length : Int) - i = d → 0 ≤ now → now ≤ 7 + i * 8300 → 1 ≤ span → span ≤ 8 * cool → 3 * d + 3 < k → postilionlaw09_BreakerLonger.l0 k cool l 0 now span i true now span false = some true := by
  induction d with
  | zero =>
    intro k i now span hd h0 h1 h2 h3 hk
    obtain ⟨k, rfl⟩ : ∃ q, k = q + 1 := ⟨k - 1, by omega⟩
    simp only [postilionlaw09_BreakerLonger.l0]
    rw [if_neg (by omega), if_pos trivial, wrap_in (x := now + span) (by omega) (by omega), wrap_in (x := now + span - 1) (by omega) (by omega), lets_p, lets_p, lets_early h0 (by omega) h2 (by omega), lets_late h0 (by omega) h2 (by omega) (Int.le_refl _)]
    rfl
  | succ d ih =>
    intro k i now span hd h0 h1 h2 h3 hk
    obtain ⟨k, rfl⟩ : ∃ q, k = q + 3 := ⟨k - 3, by omega⟩
    have hr := rd_bytes hl (i : Int)
    simp only [postilionlaw09_BreakerLonger.l0, postilionlaw09_BreakerLonger.j2, postilionlaw09_BreakerLonger.j3]
    rw [if_pos (by omega), if_pos trivial, wrap_in (x := now + span) (by omega) (by omega), wrap_in (x := now + span - 1) (by omega) (by omega), lets_p, lets_p, lets_early h0 (by omega) h2 (by omega), lets_late h0 (by omega) h2 (by omega) (Int.le_refl _)]
    simp only [Option.bind_some, Bool.not_true, Bool.false_eq_true, if_false]
    rw [if_pos (by omega), if_pos (by omega), wrap_in (x := rd l i) (by omega) (by omega), wrap_in (x := now + span + rd l i) (by omega) (by omega), try_p]
    have ht : tryB true now span false (now + span + rd l i) = (true, now, span, true, true, 0) := by
      unfold tryB tickB
      rw [if_pos ⟨by simp; omega, lets_late h0 (by omega) h2 (by omega) (by omega)⟩]
    rw [ht]
    have hm : mayB true now span true = true := may_open h0 (by omega) h2 (by omega)
    have hg : goodB true now span true true = (false, 0, 0, false) := by
      unfold goodB itsB
      rw [hm]
      rfl
    have hb : badB true now span true (now + span + rd l i) cool true false = (true, now + span + rd l i, (if 2 * span < 8 * cool then 2 * span else 8 * cool), false, 0) := by
      unfold badB
      rw [if_pos ⟨hm, by omega, by omega, hc0, hc1⟩, if_pos rfl, if_pos rfl]
    obtain ⟨k2, rfl⟩ : ∃ q, k = q + 1 := ⟨k - 1, by omega⟩
    simp only [Option.bind_some, if_true, Bool.not_true, Bool.false_eq_true, if_false, good_p, hg, bad_p, hb]
    rw [wrap_in (x := 2 * span) (by omega) (by omega), wrap_in (x := 8 * cool) (by omega) (by omega), wrap_in (x := (i : Int) + 1) (by omega) (by omega)]
    simp only [beq_self_eq_true, Bool.not_true, Bool.or_self, Bool.false_eq_true, if_false]
    by_cases hc : 2 * span < 8 * cool
    · rw [if_neg (by omega), if_pos hc]
      exact ih (k2 + 1) (i + 1) _ _ (by omega) (by omega) (by omega) (by omega) (by omega) (by omega)
    · rw [if_neg hc]
      by_cases hc' : 2 * span > 8 * cool
      · rw [if_pos hc']
        exact ih (k2 + 1) (i + 1) _ _ (by omega) (by omega) (by omega) (by omega) (by omega) (by omega)
      · rw [if_neg hc', show 2 * span = 8 * cool by omega]
        exact ih (k2 + 1) (i + 1) _ _ (by omega) (by omega) (by omega) (by omega) (by omega) (by omega)
theorem awake_true (k : Nat) : postilionlaw09_awake.f k = some true := rfl
theorem BreakerLonger : postilionlaw09_BreakerLonger.Pure := by
  intro cool l hc h1 h2 hl
  refine ⟨200, ?_⟩
  unfold postilionlaw09_BreakerLonger.f
  rw [awake_true]
  simp only [Option.bind_some, if_true, postilionlaw09_BreakerLonger.j0]
  by_cases c0 : cool < 1
  · rw [if_pos c0]
  by_cases c1 : cool > 1000
  · rw [if_neg c0, if_pos c1]
  by_cases c2 : (l.length : Int) > 20
  · rw [if_neg c0, if_neg c1, if_pos (by simpa using c2)]
  rw [if_neg c0, if_neg c1, if_neg (by simpa using c2), bad_p]
  have hb : badB false 0 0 false 7 cool false true = (true, 7, cool, false, 0) := by
    unfold badB
    rw [if_pos ⟨rfl, by omega, by omega, by omega, by omega⟩]
    rfl
  rw [hb]
  simp only [Option.bind_some]
  have := longer_loop cool (by omega) (by omega) l hl (by omega) l.length 199 0 7 cool (by omega) (by omega) (by omega) (by omega) (by omega) (by omega)
  rw [Int.natCast_zero] at this
  exact this
end Go.Proofs.Ytihjjafblfpbbaa.Pure
