-- Laid by sp.py, a program of this session's, out of the translation and the session's own stand-ins.
import Derived.Test.YtlpibchjcmndjabPx0
namespace Go.Proofs.Ytlpibchjcmndjab.P
open Go.RowKit Go.Proofs.YtlpibchjcmndjabW.PrintWords Go.Proofs.YtlpibchjcmndjabW.PrintLast Go.Proofs.YtlpibchjcmndjabW.PrintMore
attribute [local go_sem] max2_int min2_int max_two min_two max_three min_three max_four min_four   -- for this text's walks alone
set_option linter.unusedVariables false
set_option linter.unusedSimpArgs false
set_option linter.unnecessarySimpa false

/-! ### ascii.Parse: a stand-in: a loop that is left by a label -/
/-- The number of digits, as it is gathered; -1: it is none. -/
def prsLoop (size : Nat) (g : Int) : List UInt8 → Nat → Int → Int
  | [], _, n => n
  | c :: r, i, n => if (c.toNat : Int) - 48 < 0 ∨ 9 < (c.toNat : Int) - 48 ∨ (i = 0 ∧ (c.toNat : Int) - 48 = 0 ∧ 1 < size) then -1 else if (g - ((c.toNat : Int) - 48)).tdiv 10 < n then -1 else prsLoop size g r (i + 1) (10 * n + ((c.toNat : Int) - 48))
def prsEnd (size : Nat) (l g n : Int) : Int × Int := if size = 0 ∨ n < l ∨ g < n then (0, 6) else (n, 0)
def ascii_Parse.f (a0 : ByteArray) (a1 a2 : Int) : Option (Int × Int) :=
  if a0.size ≤ 1000000 ∧ a2 ≤ 9223372036854775807 then some (if a1 < 0 ∨ a2 < a1 then (0, 2) else prsEnd a0.size a1 a2 (prsLoop a0.size a2 a0.data.toList 0 0)) else none
theorem prs_bad {size : Nat} {l g : Int} (_hz : size ≠ 0) (hl : 0 ≤ l) : prsEnd size l g (-1) = (0, 6) := by
  unfold prsEnd
  rw [if_pos (.inr (.inl (by omega)))]
theorem prs_tdiv {g d n : Int} (hg : 0 ≤ g) (hd0 : 0 ≤ d) (hd9 : d ≤ 9) (hn : 0 ≤ n) (h : ¬ (g - d).tdiv 10 < n) : 0 ≤ 10 * n + d ∧ (10 * n + d ≤ g ∨ 10 * n + d ≤ 9) := by
  rcases Int.lt_or_le (g - d) 0 with h1 | h1
  · have e : (g - d).tdiv 10 = 0 := by
      have : (g - d) = -((d - g)) := by omega
      rw [this, Int.neg_tdiv, Int.tdiv_eq_zero_of_lt (by omega) (by omega)]
      rfl
    rw [e] at h
    exact ⟨by omega, .inr (by omega)⟩
  · rw [Int.tdiv_eq_ediv_of_nonneg h1] at h
    exact ⟨by omega, .inl (by omega)⟩
set_option maxHeartbeats 8000000 in
theorem ascii_Parse.calls (a0 : ByteArray) (a1 a2 : Int) (r1 r2 : Int) (w : World) (h : ascii_Parse.f a0 a1 a2 = some (r1, r2)) :
    Calls Try.prog 18 #[.string a0, .int .i64 a1, .int .i64 a2] w fun e w' => e = .returned (.tuple #[.int .i64 r1, .int .i64 r2]) ∧ Drawn0 w w' := by
  unfold ascii_Parse.f at h
  by_cases hn : a0.size ≤ 1000000 ∧ a2 ≤ 9223372036854775807
  case neg => rw [if_neg hn] at h; exact absurd h (by simp)
  rw [if_pos hn] at h
  obtain ⟨hn, hmax⟩ := hn
  have h := Option.some.inj h
  by_cases c1 : a1 < 0
  · have q1 : decide (a1 < 0) = true := decide_eq_true c1
    rw [if_pos (.inl c1)] at h
    obtain ⟨rfl, rfl⟩ := Prod.mk.inj h
    go_enter Try.func18, Try.ntmps18
    go_wp2_with fail
    go_step3
    go_wp2_with fail
    rw [Exit.noGoto_ret]
    go_ret2
    exact ⟨rfl, 0, rfl⟩
  · have q1 : decide (a1 < 0) = false := decide_eq_false c1
    by_cases c2 : a2 < a1
    · have q2 : decide (a2 < a1) = true := decide_eq_true c2
      rw [if_pos (.inr c2)] at h
      obtain ⟨rfl, rfl⟩ := Prod.mk.inj h
      go_enter Try.func18, Try.ntmps18
      go_wp2_with fail
      go_step3
      go_wp2_with fail
      rw [Exit.noGoto_ret]
      go_ret2
      exact ⟨rfl, 0, rfl⟩
    · have q2 : decide (a2 < a1) = false := decide_eq_false c2
      rw [if_neg (by omega)] at h
      obtain ⟨tot, htot⟩ : ∃ tot, tot = prsLoop a0.size a2 a0.data.toList 0 0 := ⟨_, rfl⟩
      rw [← htot] at h
      have HH := Aside0.mk h
      have HT := Aside0.mk htot
      clear h htot
      go_enter Try.func18, Try.ntmps18
      go_wp2_with fail
      go_step3
      go_wp2_with fail
      go_step3
      go_wp2_with fail
      have ha2 : 0 ≤ a2 := by omega
      go_loopw [8, 20] (fun nv iv wr => ∃ (k : Nat) (n : Int), k ≤ a0.size ∧ nv = .int .i64 n ∧ iv = .int .i64 (k : Int) ∧ 0 ≤ n ∧ (n ≤ a2 ∨ n ≤ 9) ∧ wr = w ∧ prsLoop a0.size a2 (a0.data.toList.drop k) k n = tot) (fun _ iv _ => a0.size - (intOf iv).toNat)
      case atStart => exact ⟨0, 0, Nat.zero_le _, rfl, rfl, Int.le_refl _, .inr (by decide), rfl, HT.out.symm⟩
      case round =>
        obtain ⟨k, n, hk, rfl, rfl, hn0, hn1, rfl, ht⟩ := hrel
        by_cases hlt : k < a0.size
        · have s1 : decide ((k : Int) < (a0.size : Int)) = true := decide_eq_true (by omega)
          have p1 : (k < a0.size) = True := eq_true hlt
          have hlt2 : k < a0.data.toList.length := by rw [data_length]; exact hlt
          rw [List.drop_eq_getElem_cons hlt2] at ht
          have ex : a0.data.toList[k] = a0[k]'hlt := rfl
          rw [ex] at ht
          simp only [prsLoop] at ht
          have hb := UInt8.toNat_lt (a0[k]'hlt)
          have hz : a0.size ≠ 0 := by omega
          have z1 : a0.toList.isEmpty = false := by
            rw [ByteArray.toList_eq]
            cases e : a0.data.toList with
            | nil => rw [e] at hlt2; exact absurd hlt2 (by simp)
            | cons _ _ => rfl
          have z2 : decide ((-1 : Int) < a1) = true := decide_eq_true (by omega)
          by_cases d1 : (((a0[k]'hlt).toNat : Nat) : Int) - 48 < 0
          · have f1 : decide ((((a0[k]'hlt).toNat : Nat) : Int) - 48 < 0) = true := decide_eq_true d1
            rw [if_pos (.inl d1)] at ht
            have HHt := Aside0.mk ht
            clear ht
            go_wp2_with fail
            all_goals (try rw [Exit.noGoto_ret])
            all_goals go_ret2
            all_goals (have hh := HH.out; rw [← HHt.out, prs_bad hz (by omega)] at hh; obtain ⟨rfl, rfl⟩ := Prod.mk.inj hh; exact ⟨rfl, 0, rfl⟩)
          · have f1 : decide ((((a0[k]'hlt).toNat : Nat) : Int) - 48 < 0) = false := decide_eq_false d1
            by_cases d2 : 9 < (((a0[k]'hlt).toNat : Nat) : Int) - 48
            · have f2 : decide (9 < (((a0[k]'hlt).toNat : Nat) : Int) - 48) = true := decide_eq_true d2
              rw [if_pos (.inr (.inl d2))] at ht
              have HHt := Aside0.mk ht
              clear ht
              go_wp2_with fail
              all_goals (try rw [Exit.noGoto_ret])
              all_goals go_ret2
              all_goals (have hh := HH.out; rw [← HHt.out, prs_bad hz (by omega)] at hh; obtain ⟨rfl, rfl⟩ := Prod.mk.inj hh; exact ⟨rfl, 0, rfl⟩)
            · have f2 : decide (9 < (((a0[k]'hlt).toNat : Nat) : Int) - 48) = false := decide_eq_false d2
              by_cases k0 : k = 0
              · subst k0
                by_cases d3 : ((((a0[0]'hlt).toNat : Nat) : Int) - 48) = 0
                · have f4 : (((((a0[0]'hlt).toNat : Nat) : Int) - 48) == 0) = true := beq_iff_eq.mpr d3
                  by_cases sz : 1 < a0.size
                  · have f5 : decide (1 < (a0.size : Int)) = true := decide_eq_true (by omega)
                    rw [if_pos (.inr (.inr ⟨rfl, d3, sz⟩))] at ht
                    have HHt := Aside0.mk ht
                    clear ht
                    go_wp2_with fail
                    all_goals (try rw [Exit.noGoto_ret])
                    all_goals go_ret2
                    all_goals (have hh := HH.out; rw [← HHt.out, prs_bad hz (by omega)] at hh; obtain ⟨rfl, rfl⟩ := Prod.mk.inj hh; exact ⟨rfl, 0, rfl⟩)
                  · have f5 : decide (1 < (a0.size : Int)) = false := decide_eq_false (by omega)
                    have hno : ¬ (((((a0[0]'hlt).toNat : Nat) : Int) - 48) < 0 ∨ (9 : Int) < ((((a0[0]'hlt).toNat : Nat) : Int) - 48) ∨ ((0 : Nat) = 0 ∧ ((((a0[0]'hlt).toNat : Nat) : Int) - 48) = 0 ∧ 1 < a0.size)) := by omega
                    clear d3
                    by_cases t1 : (a2 - ((((a0[0]'hlt).toNat : Nat) : Int) - 48)).tdiv 10 < n
                    · have u1 : decide ((a2 - ((((a0[0]'hlt).toNat : Nat) : Int) - 48)).tdiv 10 < n) = true := decide_eq_true t1
                      rw [if_neg hno, if_pos t1] at ht
                      have HHt := Aside0.mk ht
                      clear ht
                      go_wp2_with fail
                      all_goals (try rw [Exit.noGoto_ret])
                      all_goals go_ret2
                      all_goals (have hh := HH.out; rw [← HHt.out, prs_bad hz (by omega)] at hh; obtain ⟨rfl, rfl⟩ := Prod.mk.inj hh; exact ⟨rfl, 0, rfl⟩)
                    · have u1 : decide ((a2 - ((((a0[0]'hlt).toNat : Nat) : Int) - 48)).tdiv 10 < n) = false := decide_eq_false t1
                      rw [if_neg hno, if_neg t1] at ht
                      have hnx := prs_tdiv ha2 (by omega) (by omega) hn0 t1
                      have HHt := Aside0.mk ht
                      clear ht
                      go_wp2_with fail
                      go_roundw
                      case rel => exact ⟨0 + 1, 10 * n + ((((a0[0]'hlt).toNat : Nat) : Int) - 48), by omega, by go_num, by go_num, hnx.1, hnx.2, by first | rfl | trivial, HHt.out⟩
                      case measure => simp only [intOf]; omega
                · have f4 : (((((a0[0]'hlt).toNat : Nat) : Int) - 48) == 0) = false := beq_eq_false_iff_ne.mpr d3
                  have hno : ¬ (((((a0[0]'hlt).toNat : Nat) : Int) - 48) < 0 ∨ (9 : Int) < ((((a0[0]'hlt).toNat : Nat) : Int) - 48) ∨ ((0 : Nat) = 0 ∧ ((((a0[0]'hlt).toNat : Nat) : Int) - 48) = 0 ∧ 1 < a0.size)) := by omega
                  by_cases t1 : (a2 - ((((a0[0]'hlt).toNat : Nat) : Int) - 48)).tdiv 10 < n
                  · have u1 : decide ((a2 - ((((a0[0]'hlt).toNat : Nat) : Int) - 48)).tdiv 10 < n) = true := decide_eq_true t1
                    rw [if_neg hno, if_pos t1] at ht
                    have HHt := Aside0.mk ht
                    clear ht
                    go_wp2_with fail
                    all_goals (try rw [Exit.noGoto_ret])
                    all_goals go_ret2
                    all_goals (have hh := HH.out; rw [← HHt.out, prs_bad hz (by omega)] at hh; obtain ⟨rfl, rfl⟩ := Prod.mk.inj hh; exact ⟨rfl, 0, rfl⟩)
                  · have u1 : decide ((a2 - ((((a0[0]'hlt).toNat : Nat) : Int) - 48)).tdiv 10 < n) = false := decide_eq_false t1
                    rw [if_neg hno, if_neg t1] at ht
                    have hnx := prs_tdiv ha2 (by omega) (by omega) hn0 t1
                    have HHt := Aside0.mk ht
                    clear ht
                    go_wp2_with fail
                    go_roundw
                    case rel => exact ⟨0 + 1, 10 * n + ((((a0[0]'hlt).toNat : Nat) : Int) - 48), by omega, by go_num, by go_num, hnx.1, hnx.2, by first | rfl | trivial, HHt.out⟩
                    case measure => simp only [intOf]; omega
              · have f3 : ((k : Int) == 0) = false := beq_eq_false_iff_ne.mpr (by omega)
                have hno : ¬ (((((a0[k]'hlt).toNat : Nat) : Int) - 48) < 0 ∨ (9 : Int) < ((((a0[k]'hlt).toNat : Nat) : Int) - 48) ∨ (k = 0 ∧ ((((a0[k]'hlt).toNat : Nat) : Int) - 48) = 0 ∧ 1 < a0.size)) := by omega
                by_cases t1 : (a2 - ((((a0[k]'hlt).toNat : Nat) : Int) - 48)).tdiv 10 < n
                · have u1 : decide ((a2 - ((((a0[k]'hlt).toNat : Nat) : Int) - 48)).tdiv 10 < n) = true := decide_eq_true t1
                  rw [if_neg hno, if_pos t1] at ht
                  have HHt := Aside0.mk ht
                  clear ht
                  go_wp2_with fail
                  all_goals (try rw [Exit.noGoto_ret])
                  all_goals go_ret2
                  all_goals (have hh := HH.out; rw [← HHt.out, prs_bad hz (by omega)] at hh; obtain ⟨rfl, rfl⟩ := Prod.mk.inj hh; exact ⟨rfl, 0, rfl⟩)
                · have u1 : decide ((a2 - ((((a0[k]'hlt).toNat : Nat) : Int) - 48)).tdiv 10 < n) = false := decide_eq_false t1
                  rw [if_neg hno, if_neg t1] at ht
                  have hnx := prs_tdiv ha2 (by omega) (by omega) hn0 t1
                  have HHt := Aside0.mk ht
                  clear ht
                  go_wp2_with fail
                  go_roundw
                  case rel => exact ⟨k + 1, 10 * n + ((((a0[k]'hlt).toNat : Nat) : Int) - 48), by omega, by go_num, by go_num, hnx.1, hnx.2, by first | rfl | trivial, HHt.out⟩
                  case measure => simp only [intOf]; omega
        · have s1 : decide ((k : Int) < (a0.size : Int)) = false := decide_eq_false (by omega)
          rw [List.drop_of_length_le (by rw [data_length]; omega)] at ht
          simp only [prsLoop] at ht
          by_cases z0 : a0.size = 0
          · have z1 : a0.toList.isEmpty = true := by
              rw [ByteArray.toList_eq]
              have e : a0.data.toList.length = 0 := by rw [data_length]; exact z0
              rw [List.eq_nil_of_length_eq_zero e]
              rfl
            have hh := HH.out
            rw [← ht] at hh
            unfold prsEnd at hh
            rw [if_pos (.inl z0)] at hh
            simp only [Prod.mk.injEq] at hh
            obtain ⟨rfl, rfl⟩ := hh
            clear ht
            go_wp2_with fail
            (try rw [Exit.noGoto_ret])
            go_ret2
            exact ⟨rfl, 0, rfl⟩
          · have z1 : a0.toList.isEmpty = false := by
              rw [ByteArray.toList_eq]
              have e : a0.data.toList.length ≠ 0 := by rw [data_length]; exact z0
              cases e2 : a0.data.toList with
              | nil => rw [e2] at e; exact absurd rfl e
              | cons _ _ => rfl
            by_cases m1 : n < a1
            · have v1 : decide (n < a1) = true := decide_eq_true m1
              have hh := HH.out
              rw [← ht] at hh
              unfold prsEnd at hh
              rw [if_pos (.inr (.inl m1))] at hh
              simp only [Prod.mk.injEq] at hh
              obtain ⟨rfl, rfl⟩ := hh
              clear ht
              go_wp2_with fail
              (try rw [Exit.noGoto_ret])
              go_ret2
              exact ⟨rfl, 0, rfl⟩
            · have v1 : decide (n < a1) = false := decide_eq_false m1
              by_cases m2 : a2 < n
              · have v2 : decide (a2 < n) = true := decide_eq_true m2
                have hh := HH.out
                rw [← ht] at hh
                unfold prsEnd at hh
                rw [if_pos (.inr (.inr m2))] at hh
                simp only [Prod.mk.injEq] at hh
                obtain ⟨rfl, rfl⟩ := hh
                clear ht
                go_wp2_with fail
                (try rw [Exit.noGoto_ret])
                go_ret2
                exact ⟨rfl, 0, rfl⟩
              · have v2 : decide (a2 < n) = false := decide_eq_false m2
                have hh := HH.out
                rw [← ht] at hh
                unfold prsEnd at hh
                rw [if_neg (by omega)] at hh
                simp only [Prod.mk.injEq] at hh
                obtain ⟨rfl, rfl⟩ := hh
                clear ht
                go_wp2_with fail
                (try rw [Exit.noGoto_ret])
                go_ret2
                exact ⟨rfl, 0, rfl⟩

end Go.Proofs.Ytlpibchjcmndjab.P
