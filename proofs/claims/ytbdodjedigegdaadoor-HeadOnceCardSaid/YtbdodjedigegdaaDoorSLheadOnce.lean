import Derived.Test.YtbdodjedigegdaaDoorSLheadRow
namespace Go.Proofs.YtbdodjedigegdaaDoor.P
open Go.RowKit Go.Proofs.YtbdodjedigegdaaDoorW.PrintWords Go.Proofs.YtbdodjedigegdaaDoorW.PrintLast Go.Proofs.YtbdodjedigegdaaDoorW.PrintMore
set_option linter.unusedVariables false
set_option linter.unusedSimpArgs false
set_option linter.unnecessarySimpa false
attribute [local go_sem] max2_int min2_int max_two min_two max_three min_three max_four min_four
/-! ### HeadOnce: a law by hand -/
theorem takeG_fields : ∀ (l : List UInt8) (k : Tk) (i : Nat), (takeG k i l).fields.length ≤ k.fields.length + l.length
  | [], k, i => Nat.zero_le _
  | c :: l, k, i => by
    have hs := (step_len k c).2
    unfold takeG
    by_cases h1 : (tkStep k c).1 = 0
    · rw [if_pos h1]
      by_cases h2 : (tkStep k c).2.over = true
      · rw [if_pos h2]
        simp only [List.length_cons]
        omega
      · rw [if_neg h2]
        by_cases h3 : i + 1 = 512
        · rw [if_pos h3]
          exact Nat.zero_le _
        · rw [if_neg h3]
          have := takeG_fields l (tkStep k c).2 (i + 1)
          rw [List.length_cons]
          omega
    · rw [if_neg h1]
      exact Nat.zero_le _
set_option maxRecDepth 100000 in
set_option maxHeartbeats 16000000 in
theorem hm_once (l m : List UInt8) (A B : Option Addr) (c d : Nat) (W : World) (hlc : l.length ≤ c) (hA : ReadsInt W .u8 A l.length (l.map fun b => (b.toNat : Int))) (hB : ReadsInt W .u8 B m.length (m.map fun b => (b.toNat : Int))) :
    Calls Tryd.prog 7 #[.slice A l.length c, .slice B m.length d] W fun e W' => e = .returned (.bool true) ∧ Below W.heap.size W W' := by
  have AW := hd_awake W
  by_cases h6 : 600 < l.length
  · have q1 : decide ((600 : Int) < (l.length : Int)) = true := decide_eq_true (by omega)
    clear hA hB
    go_enter Tryd.func7, Tryd.ntmps7
    go_wp2_with (go_at_call 22; (with_reducible refine AW.mono ?_); rintro e w1 ⟨rfl, b1⟩)
    go_ret
    exact ⟨rfl, b1⟩
  have q1 : decide ((600 : Int) < (l.length : Int)) = false := decide_eq_false (by omega)
  by_cases h3 : 300 < m.length
  · have q2 : decide ((300 : Int) < (m.length : Int)) = true := decide_eq_true (by omega)
    clear hA hB
    go_enter Tryd.func7, Tryd.ntmps7
    go_wp2_with (go_at_call 22; (with_reducible refine AW.mono ?_); rintro e w1 ⟨rfl, b1⟩)
    go_ret
    exact ⟨rfl, b1⟩
  have q2 : decide ((300 : Int) < (m.length : Int)) = false := decide_eq_false (by omega)
  have TK := fun W1 (hb : Below W.heap.size W W1) => hd_Take l A c W1 (by omega) (hA.below hb)
  have TM := fun A6 c6 W1 (h : ReadsInt W1 .u8 A6 (l ++ m).length ((l ++ m).map fun b => (b.toNat : Int))) => hd_Take (l ++ m) A6 c6 W1 (by rw [List.length_append]; omega) h
  have TW := fun X n hn (hb : Below W.heap.size W X) => twice_u8 X n hn (c := c) (d := d) 26 (hA.below hb) (hB.below hb) (by omega) (by omega)
  have hnl : (takeT l).n ≤ l.length := by
    by_cases h : (takeT l).e = 0
    · have := ((takeG_n l tk0 0).1 h).2.1
      rw [Nat.zero_add] at this
      exact this
    · have := (takeG_n l tk0 0).2 h
      show (takeG tk0 0 l).n ≤ _
      omega
  have TI : ∀ i, i < (takeT l).n → ∀ W1, Below W.heap.size W W1 → ∀ c', Calls Tryd.prog 20 #[.slice A i c'] W1 fun e W' => ∃ A2 q2, e = .returned (.tuple #[.agg #[.string ⟨#[]⟩, .slice A2 0 q2], .int .i64 0, .int .i64 5]) ∧ Below W1.heap.size W1 W' := fun i hi W1 hb c' => by
    have h0 : (takeT l).e = 0 := by
      by_cases h : (takeT l).e = 0
      · exact h
      · have := (takeG_n l tk0 0).2 h
        have h2 : (takeT l).n = 0 := this
        omega
    have h5 : (takeT (l.take i)).e = 5 := takeG_pre l tk0 0 i h0 (by rw [Nat.zero_add]; exact hi)
    have e1 : (l.take i).length = i := by rw [List.length_take]; omega
    have hr := (hA.below hb).take_ i (by omega)
    rw [← List.map_take] at hr
    have T := hd_TakeErr (l.take i) A c' W1 (by omega) (by rw [e1]; exact hr) (by rw [h5]; decide)
    rw [e1, h5] at T
    exact T
  have hst : (takeT l).e ≠ 5 → takeT (l ++ m) = takeT l := fun h => takeG_stays l m tk0 0 h
  have h51 : (takeT l).e = 5 → l.length < 512 := fun h => by
    have := takeG_512 l tk0 0 (by decide) h
    omega
  have hfl : (takeT l).fields.length ≤ 1000 := by
    have := takeG_fields l tk0 0
    show (takeG tk0 0 l).fields.length ≤ _
    have e0 : tk0.fields.length = 0 := rfl
    omega
  have hlm : (l ++ m).length ≤ 1000 := by rw [List.length_append]; omega
  clear hA hB
  by_cases h5 : (takeT l).e = 5
  · have q3 : ((takeT l).e != 5) = false := by rw [h5]; rfl
    have q4 : decide ((l.length : Int) < 512) = true := decide_eq_true (by have := h51 h5; omega)
    clear hst h51 h5
    generalize takeT l = r at *
    generalize takeT (l ++ m) = r2 at *
    generalize (l ++ m).length = LL at *
    go_enter Tryd.func7, Tryd.ntmps7
    go_wp2_with (first | (go_at_call 22; (with_reducible refine AW.mono ?_); rintro e w1 ⟨rfl, b1⟩) | (go_at_call 20; (with_reducible refine (TK _ b1).mono ?_); rintro e w2 ⟨vf, rfl, ho, b2⟩; obtain ⟨A2, q2', ev, -⟩ := spr_slice ho; subst ev; have b3 := below_then b1 b1.size b2; have b4 := b3.alloc b3.size (.cells #[.string r.line, .slice A2 r.fields.length q2'] 24); obtain ⟨A5, c5, w5, A6, c6, w6, hrun5, hrun6, b6, hr6⟩ := TW _ (w2.heap.size + 1) (alloc_sz w2 (.cells #[.string r.line, .slice A2 r.fields.length q2'] 24)) b4; have b7 := below_then b4 b4.size b6; have hH1 := blk_below (blk_new w2 (.cells #[.string r.line, .slice A2 r.fields.length q2'] 24)) b6; have hP1 := ((rdp_own ho).2.below ((Below.refl _ w2).alloc (Nat.le_refl _) (.cells #[.string r.line, .slice A2 r.fields.length q2'] 24))).below b6; clear ho) | (at_builtin; refine wpList_appR rfl _ _ _ _ rfl _ _ _ rfl rfl hrun5 ?_) | (at_builtin; refine wpList_appR rfl _ _ _ _ rfl _ _ _ rfl rfl hrun6 ?_) | (go_at_call 20; (with_reducible refine (TM _ _ _ hr6).mono ?_); rintro e w7 ⟨vf7, rfl, ho7, b8⟩; obtain ⟨A7, q7, ev7, -⟩ := spr_slice ho7; subst ev7; have b9 := below_then b7 b7.size b8; clear ho7 hr6 hrun5 hrun6))
    have BX := b9.alloc b9.size (.cells #[.string r2.line, .slice A7 r2.fields.length q7] 24)
    go_loopw [11] (fun v wr => ∃ i : Nat, v = .int .i64 (i : Int) ∧ i ≤ r.n ∧ Aside0 (Below W.heap.size W wr)) (fun v _ => r.n - (intOf v).toNat)
    case atStart => exact ⟨0, rfl, Nat.zero_le _, ⟨BX⟩⟩
    case round =>
      clear BX
      obtain ⟨i, rfl, hi, HB⟩ := hrel
      by_cases hlt : i < r.n
      · have p1 : decide ((i : Int) < (r.n : Int)) = true := decide_eq_true (by omega)
        have p2 : decide ((i : Int) < (l.length : Int)) = true := decide_eq_true (by omega)
        have n1 : decide (i < r.n) = true := decide_eq_true hlt
        have n2 : decide (i < l.length) = true := decide_eq_true (by omega)
        have hic : (i : Int) ≤ (c : Int) := by omega
        have T := TI i hlt wr HB.out
        have HI := Aside0.mk hlt
        have h512 : r.n ≤ 100000 := by omega
        have HNL := Aside0.mk hnl
        clear hnl
        go_wp2_with (go_at_call 20; (with_reducible refine (T _).mono ?_); rintro e w9 ⟨A9, q9, rfl, b9⟩)
        have b10 := below_then HB.out HB.out.size b9
        go_roundw
        case rel => exact ⟨i + 1, by go_num, HI.out, ⟨b10.alloc b10.size _⟩⟩
        case measure => have := HI.out; simp only [intOf]; omega
      · have p1 : decide ((i : Int) < (r.n : Int)) = false := decide_eq_false (by omega)
        have n1 : decide (i < r.n) = false := decide_eq_false hlt
        have n3 : decide (r.n ≤ l.length) = true := decide_eq_true hnl
        have p3 : decide ((r.n : Int) ≤ (l.length : Int)) = true := decide_eq_true (by omega)
        go_wp2
        go_ret
        exact ⟨rfl, HB.out⟩
  · have q3 : ((takeT l).e != 5) = true := by rw [bne_iff_ne]; exact h5
    rw [hst h5] at TM
    clear hst h51 h5
    have q6 : ((takeT l).e != (takeT l).e) = false := by rw [bne_eq_false_iff_eq]
    have q7 : ((((takeT l).n : Int)) != ((takeT l).n : Int)) = false := by rw [bne_eq_false_iff_eq]
    generalize takeT l = r at *
    have SM := fun A B c d W1 h1 h2 h3 => hd_Same r.line r.line r.fields r.fields A B c d W1 h1 h2 h3
    simp only [beq_self_eq_true, decide_true, Bool.and_self] at SM
    generalize (l ++ m).length = LL at *
    go_enter Tryd.func7, Tryd.ntmps7
    go_wp2_with (first | (go_at_call 22; (with_reducible refine AW.mono ?_); rintro e w1 ⟨rfl, b1⟩) | (go_at_call 20; (with_reducible refine (TK _ b1).mono ?_); rintro e w2 ⟨vf, rfl, ho, b2⟩; obtain ⟨A2, q2', ev, -⟩ := spr_slice ho; subst ev; have b3 := below_then b1 b1.size b2; have b4 := b3.alloc b3.size (.cells #[.string r.line, .slice A2 r.fields.length q2'] 24); obtain ⟨A5, c5, w5, A6, c6, w6, hrun5, hrun6, b6, hr6⟩ := TW _ (w2.heap.size + 1) (alloc_sz w2 (.cells #[.string r.line, .slice A2 r.fields.length q2'] 24)) b4; have b7 := below_then b4 b4.size b6; have hH1 := blk_below (blk_new w2 (.cells #[.string r.line, .slice A2 r.fields.length q2'] 24)) b6; have hP1 := ((rdp_own ho).2.below ((Below.refl _ w2).alloc (Nat.le_refl _) (.cells #[.string r.line, .slice A2 r.fields.length q2'] 24))).below b6; clear ho) | (at_builtin; refine wpList_appR rfl _ _ _ _ rfl _ _ _ rfl rfl hrun5 ?_) | (at_builtin; refine wpList_appR rfl _ _ _ _ rfl _ _ _ rfl rfl hrun6 ?_) | (go_at_call 20; (with_reducible refine (TM _ _ _ hr6).mono ?_); rintro e w7 ⟨vf7, rfl, ho7, b8⟩; obtain ⟨A7, q7', ev7, -⟩ := spr_slice ho7; subst ev7; have b9 := below_then b7 b7.size b8; have hb9 := b9.alloc b9.size (.cells #[.string r.line, .slice A7 r.fields.length q7'] 24); have hal := (Below.refl _ w7).alloc (Nat.le_refl _) (.cells #[.string r.line, .slice A7 r.fields.length q7'] 24); have hH2 := blk_below (blk_below hH1 b8) hal; have d10 := (blk_cell hH2 0).trans rfl; have d11 := (blk_cell hH2 1).trans rfl; have hS := SM A2 A7 q2' q7' _ (by omega) ((hP1.below b8).below hal) ((rdp_own ho7).2.below hal); clear ho7 hr6 hrun5 hrun6 hH2) | (go_at_call 15; (with_reducible refine hS.mono ?_); rintro e w8 ⟨rfl, b10⟩; have b10 := below_then hb9 hb9.size b10))
    have BX := b10
    go_loopw [11] (fun v wr => ∃ i : Nat, v = .int .i64 (i : Int) ∧ i ≤ r.n ∧ Aside0 (Below W.heap.size W wr)) (fun v _ => r.n - (intOf v).toNat)
    case atStart => exact ⟨0, rfl, Nat.zero_le _, ⟨BX⟩⟩
    case round =>
      clear BX
      obtain ⟨i, rfl, hi, HB⟩ := hrel
      by_cases hlt : i < r.n
      · have p1 : decide ((i : Int) < (r.n : Int)) = true := decide_eq_true (by omega)
        have p2 : decide ((i : Int) < (l.length : Int)) = true := decide_eq_true (by omega)
        have n1 : decide (i < r.n) = true := decide_eq_true hlt
        have n2 : decide (i < l.length) = true := decide_eq_true (by omega)
        have hic : (i : Int) ≤ (c : Int) := by omega
        have T := TI i hlt wr HB.out
        have HI := Aside0.mk hlt
        have h512 : r.n ≤ 100000 := by omega
        have HNL := Aside0.mk hnl
        clear hnl
        go_wp2_with (go_at_call 20; (with_reducible refine (T _).mono ?_); rintro e w9 ⟨A9, q9, rfl, b9⟩)
        have b10 := below_then HB.out HB.out.size b9
        go_roundw
        case rel => exact ⟨i + 1, by go_num, HI.out, ⟨b10.alloc b10.size _⟩⟩
        case measure => have := HI.out; simp only [intOf]; omega
      · have p1 : decide ((i : Int) < (r.n : Int)) = false := decide_eq_false (by omega)
        have n1 : decide (i < r.n) = false := decide_eq_false hlt
        have n3 : decide (r.n ≤ l.length) = true := decide_eq_true hnl
        have p3 : decide ((r.n : Int) ≤ (l.length : Int)) = true := decide_eq_true (by omega)
        go_wp2
        go_ret
        exact ⟨rfl, HB.out⟩
end Go.Proofs.YtbdodjedigegdaaDoor.P
