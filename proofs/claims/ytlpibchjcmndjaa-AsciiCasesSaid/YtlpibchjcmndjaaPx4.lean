-- Laid by sp.py, a program of this session's, out of the translation and the session's own stand-ins.
import Derived.Test.YtlpibchjcmndjaaPx0
import Derived.Test.YtlpibchjcmndjaaStasciiWord
import Derived.Test.YtlpibchjcmndjaaPx1
import Derived.Test.YtlpibchjcmndjaaStasciiLower
import Derived.Test.YtlpibchjcmndjaaPx2
import Derived.Test.YtlpibchjcmndjaaPx3
namespace Go.Proofs.Ytlpibchjcmndjaa.P
open Go.RowKit Go.Proofs.YtlpibchjcmndjaaW.PrintWords Go.Proofs.YtlpibchjcmndjaaW.PrintLast Go.Proofs.YtlpibchjcmndjaaW.PrintMore
attribute [local go_sem] max2_int min2_int max_two min_two max_three min_three max_four min_four   -- for this text's walks alone
set_option linter.unusedVariables false
set_option linter.unusedSimpArgs false
set_option linter.unnecessarySimpa false

/-! ### postilionlaw02_AsciiWords: function 3 -/
def postilionlaw02_AsciiWords.j0 : Nat → ByteArray → ByteArray → Bool → Option (Bool)
  | 0, _, _, _ => none
  | k + 1, x0, x1, x12 => if x12 = true then (some true) else ((ascii_Word.f x0).bind fun t112 => ((postilionref02_Word.f k x0).bind fun t113 => (if (t112 == t113) = true then ((ascii_Lower.f x0).bind fun t114 => ((postilionref02_Lower.f k x0).bind fun t115 => (if t114.toList = t115.toList then ((ascii_Same.f x0 x1).bind fun t116 => ((postilionref02_Lower.f k x0).bind fun t117 => ((postilionref02_Lower.f k x1).bind fun t118 => (some (t116 == (t117.toList == t118.toList)))))) else (some false)))) else (some false))))
def postilionlaw02_AsciiWords.f (k : Nat) (a0 : ByteArray) (a1 : ByteArray) : Option (Bool) := if (a0.size : Int) > 100 then (postilionlaw02_AsciiWords.j0 k a0 a1 true) else (postilionlaw02_AsciiWords.j0 k a0 a1 (decide ((a1.size : Int) > 100)))
theorem postilionlaw02_AsciiWords.mono_l : ∀ k, (∀ y0 y1 y2, LeO (postilionlaw02_AsciiWords.j0 k y0 y1 y2) (postilionlaw02_AsciiWords.j0 (k + 1) y0 y1 y2))
  | 0 => fun _ _ _ r h => by simp [postilionlaw02_AsciiWords.j0] at h
  | k + 1 => by
    have ih0 := postilionlaw02_AsciiWords.mono_l k
    · intro y0 y1 y2
      unfold postilionlaw02_AsciiWords.j0
      repeat' first
      | (with_reducible exact ih0 _ _ _)
      | (with_reducible exact postilionref02_Lower.mono _ _)
      | (with_reducible exact postilionref02_Word.mono _ _)
      | (with_reducible exact LeO.refl _)
      | (with_reducible exact LeO.none _)
      | (with_reducible refine LeO.ite ?_ ?_)
      | (with_reducible refine LeO.bind ?_ (fun _ => ?_))
      | exact ih0 _ _ _
      | exact postilionref02_Lower.mono _ _
      | exact postilionref02_Word.mono _ _
      | exact LeO.none _
      | refine LeO.ite ?_ ?_
      | refine LeO.bind ?_ (fun _ => ?_)
theorem postilionlaw02_AsciiWords.mono : ∀ a0 a1 k, LeO (postilionlaw02_AsciiWords.f k a0 a1) (postilionlaw02_AsciiWords.f (k + 1) a0 a1) := by
  intro a0 a1 k
  have ih0 := postilionlaw02_AsciiWords.mono_l k
  unfold postilionlaw02_AsciiWords.f
  repeat' first
      | (with_reducible exact ih0 _ _ _)
      | (with_reducible exact postilionref02_Lower.mono _ _)
      | (with_reducible exact postilionref02_Word.mono _ _)
      | (with_reducible exact LeO.refl _)
      | (with_reducible exact LeO.none _)
      | (with_reducible refine LeO.ite ?_ ?_)
      | (with_reducible refine LeO.bind ?_ (fun _ => ?_))
      | exact ih0 _ _ _
      | exact postilionref02_Lower.mono _ _
      | exact postilionref02_Word.mono _ _
      | exact LeO.none _
      | refine LeO.ite ?_ ?_
      | refine LeO.bind ?_ (fun _ => ?_)
set_option maxHeartbeats 8000000 in
set_option maxRecDepth 100000 in
theorem postilionlaw02_AsciiWords.calls (k : Nat) (a0 : ByteArray) (a1 : ByteArray) (r : Bool) (w : World) (h : postilionlaw02_AsciiWords.f k a0 a1 = some r) (hT : Aside0 (r = true)) :
    Calls Try.prog 3 #[.string a0, .string a1] w fun e w' => e = .returned (.bool r) ∧ Below w.heap.size w w' := by
  have HB := Aside0.mk (Below.refl w.heap.size w)
  have H : (if (a0.size : Int) > 100 then (postilionlaw02_AsciiWords.j0 k a0 a1 true) else (postilionlaw02_AsciiWords.j0 k a0 a1 (decide ((a1.size : Int) > 100)))) = some r := h
  clear h
  have HC3 := Aside0.mk H
  clear H
  go_enter Try.func3, Try.ntmps3
  go_upto_region 1 with (fail)
  go_cut [12] (fun v12 wc => ∃ (kq : Nat) (x12_2 : Bool), v12 = .bool x12_2 ∧ Aside0 (postilionlaw02_AsciiWords.j0 kq a0 a1 x12_2 = some r) ∧ Aside0 (kq ≤ k) ∧ Aside0 (Below w.heap.size w wc))
  case first =>
    have H := HC3.out
    clear HC3
    by_cases c4 : (a0.size : Int) > 100
    · rw [if_pos c4] at H
      have c4b0 : decide (100 < (a0.size : Int)) = true := decide_eq_true c4
      have c4b1 : decide (100 < a0.size) = true := decide_eq_true (by omega)
      clear c4
      (first | rw [c4b0] | (simp only [i64_w, i32_w]; rw [c4b0]) | skip)
      have H' := Aside0.mk H
      clear H
      go_wp2
      go_meet
      case rel => exact ⟨_, (true), (by first | rfl | (simp; done) | (simp [*]; done)), H', ⟨by first | omega | exact Nat.le_refl _⟩, ⟨by repeat (first | (with_reducible first | exact HB.out | apply below_alloc | apply pw_below_drewN | apply below_drew1) | exact HB.out)⟩⟩
    · rw [if_neg c4] at H
      have c4b0 : decide (100 < (a0.size : Int)) = false := decide_eq_false c4
      have c4b1 : decide (100 < a0.size) = false := decide_eq_false (by omega)
      clear c4
      (first | rw [c4b0] | (simp only [i64_w, i32_w]; rw [c4b0]) | skip)
      have H' := Aside0.mk H
      clear H
      go_wp2
      go_meet
      case rel => exact ⟨_, (decide ((a1.size : Int) > 100)), (by first | rfl | (simp; done) | (simp [*]; done)), H', ⟨by first | omega | exact Nat.le_refl _⟩, ⟨by repeat (first | (with_reducible first | exact HB.out | apply below_alloc | apply pw_below_drewN | apply below_drew1) | exact HB.out)⟩⟩
  case rest =>
    clear HC3
    try clear p2
    try clear c3
    try clear c4
    try clear c4b0
    try clear c4b1
    obtain ⟨kq, x12_2, rfl, HA, HJ2, HB⟩ := hcut
    cases kq with
    | zero => exact absurd HA.out (by simp [postilionlaw02_AsciiWords.j0])
    | succ kj2 =>
      have H := HA.out
      clear HA
      simp only [postilionlaw02_AsciiWords.j0] at H
      by_cases c5 : x12_2 = true
      · subst c5
        have H1 : (some true) = some r := by rw [if_pos rfl] at H; exact H
        clear H
        have H := H1
        clear H1
        obtain rfl := Option.some.inj H
        go_wp2
        go_ret
        exact ⟨by first | rfl | (simp [errW_none, errW_some] <;> rfl) | (simp [*, errW_none, errW_some] <;> rfl), by repeat (first | (with_reducible first | exact HB.out | apply below_alloc | apply pw_below_drewN | apply below_drew1) | exact HB.out)⟩
      · replace c5 := Bool.eq_false_iff.mpr c5
        subst c5
        have H1 : ((ascii_Word.f a0).bind fun t112 => ((postilionref02_Word.f kj2 a0).bind fun t113 => (if (t112 == t113) = true then ((ascii_Lower.f a0).bind fun t114 => ((postilionref02_Lower.f kj2 a0).bind fun t115 => (if t114.toList = t115.toList then ((ascii_Same.f a0 a1).bind fun t116 => ((postilionref02_Lower.f kj2 a0).bind fun t117 => ((postilionref02_Lower.f kj2 a1).bind fun t118 => (some (t116 == (t117.toList == t118.toList)))))) else (some false)))) else (some false)))) = some r := by rw [if_neg (show ¬ (false = true) by decide)] at H; exact H
        clear H
        have H := H1
        clear H1
        replace H := Option.bind_eq_some_iff.mp H
        obtain ⟨t112, A60, H⟩ := H
        replace H : ((postilionref02_Word.f kj2 a0).bind fun t113 => (if (t112 == t113) = true then ((ascii_Lower.f a0).bind fun t114 => ((postilionref02_Lower.f kj2 a0).bind fun t115 => (if t114.toList = t115.toList then ((ascii_Same.f a0 a1).bind fun t116 => ((postilionref02_Lower.f kj2 a0).bind fun t117 => ((postilionref02_Lower.f kj2 a1).bind fun t118 => (some (t116 == (t117.toList == t118.toList)))))) else (some false)))) else (some false))) = some r := H
        have A6 := Aside0.mk A60
        clear A60
        replace H := Option.bind_eq_some_iff.mp H
        obtain ⟨t113, A70, H⟩ := H
        replace H : (if (t112 == t113) = true then ((ascii_Lower.f a0).bind fun t114 => ((postilionref02_Lower.f kj2 a0).bind fun t115 => (if t114.toList = t115.toList then ((ascii_Same.f a0 a1).bind fun t116 => ((postilionref02_Lower.f kj2 a0).bind fun t117 => ((postilionref02_Lower.f kj2 a1).bind fun t118 => (some (t116 == (t117.toList == t118.toList)))))) else (some false)))) else (some false)) = some r := H
        have A7 := Aside0.mk A70
        clear A70
        by_cases c8 : (t112 == t113) = true
        · rw [if_pos c8] at H
          have c8b0 : (t112 == t113) = true := c8
          (try (have c8b1 : decide (t112 = t113) = true := by simpa using c8))
          (try (have c8b2 : (t112 == t113) = true := by simpa using c8))
          clear c8
          replace H := Option.bind_eq_some_iff.mp H
          obtain ⟨t114, A90, H⟩ := H
          replace H : ((postilionref02_Lower.f kj2 a0).bind fun t115 => (if t114.toList = t115.toList then ((ascii_Same.f a0 a1).bind fun t116 => ((postilionref02_Lower.f kj2 a0).bind fun t117 => ((postilionref02_Lower.f kj2 a1).bind fun t118 => (some (t116 == (t117.toList == t118.toList)))))) else (some false))) = some r := H
          have A9 := Aside0.mk A90
          clear A90
          replace H := Option.bind_eq_some_iff.mp H
          obtain ⟨t115, A100, H⟩ := H
          replace H : (if t114.toList = t115.toList then ((ascii_Same.f a0 a1).bind fun t116 => ((postilionref02_Lower.f kj2 a0).bind fun t117 => ((postilionref02_Lower.f kj2 a1).bind fun t118 => (some (t116 == (t117.toList == t118.toList)))))) else (some false)) = some r := H
          have A10 := Aside0.mk A100
          clear A100
          by_cases c11 : t114.toList = t115.toList
          · rw [if_pos c11] at H
            have c11b0 : (t114.toList == t115.toList) = true := beq_iff_eq.mpr c11
            have c11b1 : (t114.toList != t115.toList) = false := bne_eq_false_iff_eq.mpr c11
            clear c11
            replace H := Option.bind_eq_some_iff.mp H
            obtain ⟨t116, A120, H⟩ := H
            replace H : ((postilionref02_Lower.f kj2 a0).bind fun t117 => ((postilionref02_Lower.f kj2 a1).bind fun t118 => (some (t116 == (t117.toList == t118.toList))))) = some r := H
            have A12 := Aside0.mk A120
            clear A120
            replace H := Option.bind_eq_some_iff.mp H
            obtain ⟨t117, A130, H⟩ := H
            (try (have EA13 : t117 = t115 := Option.some.inj (A130.symm.trans A10.out)))
            replace H : ((postilionref02_Lower.f kj2 a1).bind fun t118 => (some (t116 == (t117.toList == t118.toList)))) = some r := H
            have A13 := Aside0.mk A130
            clear A130
            replace H := Option.bind_eq_some_iff.mp H
            obtain ⟨t118, A140, H⟩ := H
            replace H : (some (t116 == (t117.toList == t118.toList))) = some r := H
            have A14 := Aside0.mk A140
            clear A140
            obtain rfl := Option.some.inj H
            go_wp2_with (first | ((with_reducible refine gate_callee (f := 8) rfl ?_); refine goesL_ (some 14) rfl rfl Try.func8 (by kernel_rfl) rfl #[.string a0] rfl (by (try simp only [List.map_toArray, List.map_cons, List.map_nil]); first | done | rfl | (simp only [List.length_drop, List.length_take]; rfl)) ?_; (with_reducible refine (ascii_Word.calls a0 t112 _ A6.out).mono ?_); rintro e w15 ⟨rfl, hb⟩; refine ⟨_, rfl, ?_⟩; have n0_ := Aside0.mk (below_step (by repeat (first | (with_reducible first | exact HB.out | apply below_alloc | apply pw_below_drewN | apply below_drew1) | exact HB.out)) hb); clear HB; have HB := n0_; clear n0_; (try clear hb); (try clear hb2); (try clear hk); (try clear hi)) | ((with_reducible refine gate_callee (f := 9) rfl ?_); refine goesL_ (some 16) rfl rfl Try.func9 (by kernel_rfl) rfl #[.string a0] rfl (by (try simp only [List.map_toArray, List.map_cons, List.map_nil]); first | done | rfl | (simp only [List.length_drop, List.length_take]; rfl)) ?_; (with_reducible refine (postilionref02_Word.calls kj2 a0 t113 _ A7.out).mono ?_); rintro e w' ⟨rfl, ⟨nd, rfl⟩⟩; refine ⟨_, rfl, ?_⟩) | (go_at_call 10; (with_reducible refine (ascii_Lower.calls a0 t114 _ A9.out).mono ?_); rintro e w16 ⟨rfl, hb⟩; have n0_ := Aside0.mk (below_step (by repeat (first | (with_reducible first | exact HB.out | apply below_alloc | apply pw_below_drewN | apply below_drew1) | exact HB.out)) hb); clear HB; have HB := n0_; clear n0_; (try clear hb); (try clear hb2); (try clear hk); (try clear hi)) | (go_at_call 11; (with_reducible refine (postilionref02_Lower.calls kj2 a0 t115 _ A10.out).mono ?_); rintro e w17 ⟨rfl, hb⟩; have n0_ := Aside0.mk (below_step (by repeat (first | (with_reducible first | exact HB.out | apply below_alloc | apply pw_below_drewN | apply below_drew1) | exact HB.out)) hb); clear HB; have HB := n0_; clear n0_; (try clear hb); (try clear hb2); (try clear hk); (try clear hi)) | (go_at_call 12; (with_reducible refine (ascii_Same.calls a0 a1 t116 _ A12.out).mono ?_); rintro e w18 ⟨rfl, hb⟩; have n0_ := Aside0.mk (below_step (by repeat (first | (with_reducible first | exact HB.out | apply below_alloc | apply pw_below_drewN | apply below_drew1) | exact HB.out)) hb); clear HB; have HB := n0_; clear n0_; (try clear hb); (try clear hb2); (try clear hk); (try clear hi)) | (go_at_call 11; (with_reducible refine (postilionref02_Lower.calls kj2 a0 t117 _ A13.out).mono ?_); rintro e w19 ⟨rfl, hb⟩; have n0_ := Aside0.mk (below_step (by repeat (first | (with_reducible first | exact HB.out | apply below_alloc | apply pw_below_drewN | apply below_drew1) | exact HB.out)) hb); clear HB; have HB := n0_; clear n0_; (try clear hb); (try clear hb2); (try clear hk); (try clear hi)) | (go_at_call 11; (with_reducible refine (postilionref02_Lower.calls kj2 a1 t118 _ A14.out).mono ?_); rintro e w20 ⟨rfl, hb⟩; have n0_ := Aside0.mk (below_step (by repeat (first | (with_reducible first | exact HB.out | apply below_alloc | apply pw_below_drewN | apply below_drew1) | exact HB.out)) hb); clear HB; have HB := n0_; clear n0_; (try clear hb); (try clear hb2); (try clear hk); (try clear hi)))
            go_ret
            exact ⟨by first | rfl | (simp [errW_none, errW_some] <;> rfl) | (simp [*, errW_none, errW_some] <;> rfl), by repeat (first | (with_reducible first | exact HB.out | apply below_alloc | apply pw_below_drewN | apply below_drew1) | exact HB.out)⟩
          · rw [if_neg c11] at H
            have c11b0 : (t114.toList == t115.toList) = false := beq_eq_false_iff_ne.mpr c11
            have c11b1 : (t114.toList != t115.toList) = true := bne_iff_ne.mpr c11
            exact absurd ((Option.some.inj H).trans hT.out) (by decide)
        · rw [if_neg c8] at H
          have c8b0 : (t112 == t113) = false := by simpa using c8
          (try (have c8b1 : decide (t112 = t113) = false := by simpa using c8))
          (try (have c8b2 : (t112 == t113) = false := by simpa using c8))
          (try (have c8b3 : ¬ (t112 = t113) := by simpa using c8))
          clear c8
          exact absurd ((Option.some.inj H).trans hT.out) (by decide)

/-- THE ONE PURE STATEMENT of postilionlaw02_AsciiWords: yours. -/
def postilionlaw02_AsciiWords.Pure : Prop := ∀ (a0 : ByteArray) (a1 : ByteArray), a0.size ≤ 140737488351232 → a1.size ≤ 140737488351232 → ∃ k, postilionlaw02_AsciiWords.f k a0 a1 = some true
theorem postilionlaw02_AsciiWords.walk (P : postilionlaw02_AsciiWords.Pure) (a0 : ByteArray) (a1 : ByteArray) (w : World) (w0 : a0.size ≤ 140737488351232) (w1 : a1.size ≤ 140737488351232) :
    Calls Try.prog 3 #[.string a0, .string a1] w fun e w' => e = .returned (.bool true) ∧ Below w.heap.size w w' := by
  obtain ⟨k, h⟩ := P a0 a1 w0 w1
  refine (postilionlaw02_AsciiWords.calls k a0 a1 true w h ⟨rfl⟩).mono ?_
  rintro e w' ⟨rfl, hd⟩
  exact ⟨rfl, hd⟩

end Go.Proofs.Ytlpibchjcmndjaa.P
