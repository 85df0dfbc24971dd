-- Laid by sp.py, a program of this session's, out of the translation and the session's own stand-ins.
import Derived.Test.YtpllckhmnjgohaaDoorPx0
import Derived.Test.YtpllckhmnjgohaaDoorPx2
import Derived.Test.YtpllckhmnjgohaaDoorPx3
import Derived.Test.YtpllckhmnjgohaaDoorLinesEvB
namespace Go.Proofs.YtpllckhmnjgohaaDoor.P
open Go.RowKit Go.Proofs.YtpllckhmnjgohaaDoorW.PrintWords Go.Proofs.YtpllckhmnjgohaaDoorW.PrintLast Go.Proofs.YtpllckhmnjgohaaDoorW.PrintMore
attribute [local go_sem] max2_int min2_int max_two min_two max_three min_three max_four min_four   -- for this text's walks alone
set_option linter.unusedVariables false
set_option linter.unusedSimpArgs false
set_option linter.unnecessarySimpa false

/-! ### lines: the chapter's examples -/
theorem blanks_ev (n : Nat) (hn : n ≤ 100000) : ∀ (d i : Nat), n - i = d → i ≤ n → Pure.Ev (fun k => postilionlaw18_blanks.l0 k (n : Int) (List.replicate i 32) (i : Int)) (strOfNums (List.replicate n 32)) := by
  intro d
  induction d with
  | zero =>
    intro i hd hi
    obtain rfl : i = n := by omega
    exact Pure.Ev.succ 0 (fun q _ => by
      show postilionlaw18_blanks.l0 (q + 1) _ _ _ = _
      rw [postilionlaw18_blanks.l0, if_neg (Int.lt_irrefl _)])
  | succ d ih =>
    intro i hd hi
    obtain ⟨K, hK⟩ := ih (i + 1) (by omega) (by omega)
    refine Pure.Ev.succ K (fun q hq => ?_)
    show postilionlaw18_blanks.l0 (q + 1) _ _ _ = _
    rw [postilionlaw18_blanks.l0, if_pos (by omega), if_pos (by rw [List.length_replicate]; omega), show wrap64 ((i : Int) + 1) = ((i + 1 : Nat) : Int) by unfold wrap64; omega, ← List.replicate_succ']
    exact hK q hq
theorem lw_blanks (W : World) : ∃ T : ByteArray, T.size = 4097 ∧ Calls Tryd.prog 15 #[.int .i64 4097] W fun e W' => e = .returned (.string T) ∧ Below W.heap.size W W' := by
  obtain ⟨K, hK⟩ := blanks_ev 4097 (by omega) 4097 0 rfl (Nat.zero_le _)
  refine ⟨strOfNums (List.replicate 4097 32), ?_, postilionlaw18_blanks.calls K 4097 _ W (hK K (Nat.le_refl _))⟩
  rw [strOfNums_size, List.length_replicate]
abbrev kdL := Kd.slice 9 Kd.string
theorem lw_split (s : ByteArray) (W : World) (hs : s.size ≤ 1000000) (hT : spTab W) (E : Int) (L : List (List ByteArray)) (n : Nat) (hE : splE s = E) (hL : splL s = L) (hn : L.length = n) : Calls Tryd.prog 6 #[.string s] W fun e W' => ∃ A q, e = .returned (.tuple #[.slice A n q, .int .i64 E]) ∧ n ≤ q ∧ Kd.C kdL W' A n L ∧ Below W.heap.size W W' := by
  subst hE hL hn
  refine (ls_Split s W hs hT).mono ?_
  rintro e w1 ⟨v, rfl, o1, b1⟩
  obtain ⟨A, q, rfl, hq, c1⟩ := rows2_reads o1
  exact ⟨A, q, rfl, hq, c1, b1⟩
theorem rows_lit (W1 : World) (vs : List Value) (ls : List (List ByteArray)) (hm : ls.length ≤ 1000) (hvl : vs.length = ls.length) (h : ∀ j, j < ls.length → ∃ A q, vs.getD j undef = .slice A (ls.getD j []).length q ∧ (ls.getD j []).length ≤ q ∧ Kd.C Kd.string W1 A (ls.getD j []).length (ls.getD j [])) : Kd.C kdL (W1.alloc (.cells vs.toArray 39)) (some ⟨W1.heap.size, 0, none⟩) ls.length ls := by
  refine ⟨rfl, by omega, fun _ => ⟨⟨W1.heap.size, 0, none⟩, rfl, fun j l hj => ?_⟩⟩
  have hjl : j < ls.length := (List.getElem?_eq_some_iff.1 hj).1
  have el : ls.getD j [] = l := by rw [List.getD_eq_getElem?_getD, hj]; rfl
  obtain ⟨A2, q2, e2, hq2, c2⟩ := h j hjl
  rw [el] at e2 hq2 c2
  refine ⟨[vs.getD j undef], rfl, ⟨A2, q2, by rw [e2], hq2, Kd.C_below c2 ((Below.refl _ W1).alloc (Nat.le_refl _) _)⟩, fun i u hu => ?_⟩
  obtain rfl : i = 0 := by
    have := (List.getElem?_eq_some_iff.1 hu).1
    simpa using this
  have hu2 : vs.getD j undef = u := by simpa using hu
  have h1 : vs[j]? = some (vs.getD j undef) := by rw [List.getD_eq_getElem?_getD, List.getElem?_eq_getElem (by omega)]; rfl
  rw [hu2] at h1
  rw [Addr.add_lit, Nat.zero_add, World.cell?_alloc_new]
  simpa [Kd.slice] using h1
theorem lw_same (W : World) (L : List (List ByteArray)) (hL : Pure.Small L) {A B : Option Addr} {p q n : Nat} (hn : L.length = n) (hA : Kd.C kdL W A n L) (hp : n ≤ p) (hBB : Kd.C kdL W B n L) (hq : n ≤ q) : Calls Tryd.prog 8 #[.slice A n p, .slice B n q] W fun e W' => e = .returned (.bool true) ∧ Below W.heap.size W W' := by
  subst hn
  obtain ⟨K, hK⟩ := Pure.same_ev L hL
  refine (postilionref18_Same.calls K A p L B q L true W hA hp hBB hq (hK K (Nat.le_refl _))).mono ?_
  rintro e w3 ⟨rfl, n3, rfl⟩
  exact ⟨rfl, pw_below_drewN (Below.refl _ _) n3⟩
theorem lw_long {T : ByteArray} (h : T.size = 4097) : splE T = 3 ∧ splL T = [] := by
  have e : splE T = 3 := by unfold splE; rw [if_pos (by omega)]
  exact ⟨e, by unfold splL; rw [e, if_neg (by decide)]⟩
theorem lw_same1 (W : World) {A : Option Addr} {q : Nat} (hA : Kd.C kdL W A 2 [[⟨#[105, 100]⟩, ⟨#[97]⟩], [⟨#[98]⟩, ⟨#[99]⟩]]) (hq : 2 ≤ q) : Calls Tryd.prog 8 #[.slice A 2 q, .slice (some ⟨W.heap.size + 1 + 1, 0, none⟩) 2 2]
    (((W.alloc (.cells #[.string ⟨#[105, 100]⟩, .string ⟨#[97]⟩] 9)).alloc (.cells #[.string ⟨#[98]⟩, .string ⟨#[99]⟩] 9)).alloc (.cells #[.slice (some ⟨W.heap.size, 0, none⟩) 2 2, .slice (some ⟨W.heap.size + 1, 0, none⟩) 2 2] 39)) fun e W' => e = .returned (.bool true) ∧ Below W.heap.size W W' := by
  have c1 := strs_lit W [⟨#[105, 100]⟩, ⟨#[97]⟩] (by decide)
  have b1 : Below W.heap.size W (W.alloc (.cells #[.string ⟨#[105, 100]⟩, .string ⟨#[97]⟩] 9)) := (Below.refl _ W).alloc (Nat.le_refl _) _
  have e1 := World.size_alloc W (.cells #[.string ⟨#[105, 100]⟩, .string ⟨#[97]⟩] 9)
  have c1' : Kd.C Kd.string (W.alloc (.cells #[.string ⟨#[105, 100]⟩, .string ⟨#[97]⟩] 9)) (some ⟨W.heap.size, 0, none⟩) 2 [⟨#[105, 100]⟩, ⟨#[97]⟩] := c1
  clear c1
  generalize W.alloc (.cells #[.string ⟨#[105, 100]⟩, .string ⟨#[97]⟩] 9) = W1 at *
  have c2 := strs_lit W1 [⟨#[98]⟩, ⟨#[99]⟩] (by decide)
  have b2 : Below W1.heap.size W1 (W1.alloc (.cells #[.string ⟨#[98]⟩, .string ⟨#[99]⟩] 9)) := (Below.refl _ W1).alloc (Nat.le_refl _) _
  have e2 := World.size_alloc W1 (.cells #[.string ⟨#[98]⟩, .string ⟨#[99]⟩] 9)
  have c2' : Kd.C Kd.string (W1.alloc (.cells #[.string ⟨#[98]⟩, .string ⟨#[99]⟩] 9)) (some ⟨W1.heap.size, 0, none⟩) 2 [⟨#[98]⟩, ⟨#[99]⟩] := c2
  have c1'' := Kd.C_below c1' b2
  clear c2
  generalize W1.alloc (.cells #[.string ⟨#[98]⟩, .string ⟨#[99]⟩] 9) = W2 at *
  rw [e1] at e2 c2'
  have c3 := rows_lit W2 [.slice (some ⟨W.heap.size, 0, none⟩) 2 2, .slice (some ⟨W.heap.size + 1, 0, none⟩) 2 2] [[⟨#[105, 100]⟩, ⟨#[97]⟩], [⟨#[98]⟩, ⟨#[99]⟩]] (by decide) rfl (fun j hj => by
    have hj2 : j = 0 ∨ j = 1 := by simp at hj; omega
    rcases hj2 with rfl | rfl
    · exact ⟨_, _, rfl, Nat.le_refl _, c1''⟩
    · exact ⟨_, _, rfl, Nat.le_refl _, c2'⟩)
  rw [e2] at c3
  have b3 : Below W2.heap.size W2 (W2.alloc (.cells #[.slice (some ⟨W.heap.size, 0, none⟩) 2 2, .slice (some ⟨W.heap.size + 1, 0, none⟩) 2 2] 39)) := (Below.refl _ W2).alloc (Nat.le_refl _) _
  have hB3 := bnext (bnext b1 b2) b3
  refine (lw_same _ [[⟨#[105, 100]⟩, ⟨#[97]⟩], [⟨#[98]⟩, ⟨#[99]⟩]] ⟨by decide, by decide⟩ rfl (Kd.C_below (Kd.C_below (Kd.C_below hA b1) b2) b3) hq c3 (Nat.le_refl _)).mono ?_
  rintro e w4 ⟨rfl, b4⟩
  exact ⟨rfl, bnext hB3 b4⟩
theorem lw_same2 (W : World) {A : Option Addr} {q : Nat} (hA : Kd.C kdL W A 1 [[⟨#[97, 35, 98]⟩]]) (hq : 1 ≤ q) : Calls Tryd.prog 8 #[.slice A 1 q, .slice (some ⟨W.heap.size + 1, 0, none⟩) 1 1]
    ((W.alloc (.cells #[.string ⟨#[97, 35, 98]⟩] 9)).alloc (.cells #[.slice (some ⟨W.heap.size, 0, none⟩) 1 1] 39)) fun e W' => e = .returned (.bool true) ∧ Below W.heap.size W W' := by
  have b1 : Below W.heap.size W (W.alloc (.cells #[.string ⟨#[97, 35, 98]⟩] 9)) := (Below.refl _ W).alloc (Nat.le_refl _) _
  have e1 := World.size_alloc W (.cells #[.string ⟨#[97, 35, 98]⟩] 9)
  have c1' : Kd.C Kd.string (W.alloc (.cells #[.string ⟨#[97, 35, 98]⟩] 9)) (some ⟨W.heap.size, 0, none⟩) 1 [⟨#[97, 35, 98]⟩] := strs_lit W [⟨#[97, 35, 98]⟩] (by decide)
  generalize W.alloc (.cells #[.string ⟨#[97, 35, 98]⟩] 9) = W2 at *
  have c3 := rows_lit W2 [.slice (some ⟨W.heap.size, 0, none⟩) 1 1] [[⟨#[97, 35, 98]⟩]] (by decide) rfl (fun j hj => by
    obtain rfl : j = 0 := by simp at hj; omega
    exact ⟨_, _, rfl, Nat.le_refl _, c1'⟩)
  rw [e1] at c3
  have b3 : Below W2.heap.size W2 (W2.alloc (.cells #[.slice (some ⟨W.heap.size, 0, none⟩) 1 1] 39)) := (Below.refl _ W2).alloc (Nat.le_refl _) _
  have hB3 := bnext b1 b3
  refine (lw_same _ [[⟨#[97, 35, 98]⟩]] ⟨by decide, by decide⟩ rfl (Kd.C_below (Kd.C_below hA b1) b3) hq c3 (Nat.le_refl _)).mono ?_
  rintro e w4 ⟨rfl, b4⟩
  exact ⟨rfl, bnext hB3 b4⟩
set_option maxHeartbeats 8000000 in
set_option maxRecDepth 100000 in
theorem lw_awake (w : World) (hT : spTab w) : Calls Tryd.prog 9 #[] w fun e w' => e = .returned (.bool true) ∧ Below w.heap.size w w' := by
  have S1 := lw_split ⟨#[105, 100, 32, 97, 10, 10, 35, 32, 120, 10, 32, 32, 98, 32, 32, 32, 99, 32, 35, 100]⟩ w (by decide) hT 0 [[⟨#[105, 100]⟩, ⟨#[97]⟩], [⟨#[98]⟩, ⟨#[99]⟩]] 2 (by decide +kernel) (by decide +kernel) rfl
  have S2 := Aside0.mk (fun (W : World) (hB : Below w.heap.size w W) => lw_split ⟨#[97, 35, 98]⟩ W (by decide) (spTab_below hT hB) 0 [[⟨#[97, 35, 98]⟩]] 1 (by decide +kernel) (by decide +kernel) rfl)
  have S3 := Aside0.mk (fun (W : World) (hB : Below w.heap.size w W) => lw_split ⟨#[]⟩ W (by decide) (spTab_below hT hB) 0 [] 0 (by decide +kernel) (by decide +kernel) rfl)
  have S4 := Aside0.mk (fun (W : World) (hB : Below w.heap.size w W) => lw_split ⟨#[97, 9]⟩ W (by decide) (spTab_below hT hB) 180 [] 0 (by decide +kernel) (by decide +kernel) rfl)
  have S5 := Aside0.mk (fun (W : World) (hB : Below w.heap.size w W) => lw_split ⟨#[35, 200]⟩ W (by decide) (spTab_below hT hB) 180 [] 0 (by decide +kernel) (by decide +kernel) rfl)
  have BL := Aside0.mk (fun (W : World) => lw_blanks W)
  have S6 := Aside0.mk (fun (W : World) (hB : Below w.heap.size w W) (T : ByteArray) (h : T.size = 4097) => lw_split T W (by omega) (spTab_below hT hB) 3 [] 0 (lw_long h).1 (lw_long h).2 rfl)
  clear hT
  go_enter Tryd.func9, Tryd.ntmps9
  go_wp2_with (first
    | (go_at_call 6; (with_reducible refine S1.mono ?_); rintro e w1 ⟨A1, q1, rfl, g1, c1, b1⟩; have T2 := S2.out w1 b1; clear S1)
    | (go_at_call 6; (with_reducible refine T2.mono ?_); rintro e w2 ⟨A2, q2, rfl, g2, c2, d2⟩; have b2 := bnext b1 d2; have c1b := Kd.C_below c1 d2; have T3 := S3.out w2 b2; clear T2 c1 b1 d2)
    | (go_at_call 6; (with_reducible refine T3.mono ?_); rintro e w3 ⟨A3, q3, rfl, g3, c3, d3⟩; have b3 := bnext b2 d3; have c1c := Kd.C_below c1b d3; have c2c := Kd.C_below c2 d3; have T4 := S4.out w3 b3; clear T3 c1b c2 b2 d3 c3)
    | (go_at_call 6; (with_reducible refine T4.mono ?_); rintro e w4 ⟨A4, q4, rfl, g4, c4, d4⟩; have b4 := bnext b3 d4; have c1d := Kd.C_below c1c d4; have c2d := Kd.C_below c2c d4; have T5 := S5.out w4 b4; clear T4 c1c c2c b3 d4 c4)
    | (go_at_call 6; (with_reducible refine T5.mono ?_); rintro e w5 ⟨A5, q5, rfl, g5, c5, d5⟩; have b5 := bnext b4 d5; have c1e := Kd.C_below c1d d5; have c2e := Kd.C_below c2d d5; obtain ⟨T, hTs, T6⟩ := BL.out w5; clear T5 c1d c2d b4 d5 c5)
    | (go_at_call 15; (with_reducible refine T6.mono ?_); rintro e w6 ⟨rfl, d6⟩; have b6 := bnext b5 d6; have c1f := Kd.C_below c1e d6; have c2f := Kd.C_below c2e d6; have T7 := S6.out w6 b6 T hTs; clear T6 c1e c2e b5 d6)
    | (go_at_call 6; (with_reducible refine T7.mono ?_); rintro e w7 ⟨A7, q7, rfl, g7, c7, d7⟩; have b7 := bnext b6 d7; have c1g := Kd.C_below c1f d7; have c2g := Aside0.mk (Kd.C_below c2f d7); have T8 := lw_same1 w7 c1g g1; clear T7 c1f c2f b6 d7 c7 c1g)
    | (go_at_call 8; (with_reducible refine T8.mono ?_); rintro e w8 ⟨rfl, d8⟩; have b8 := bnext b7 d8; have T9 := lw_same2 w8 (Kd.C_below c2g.out d8) g2; clear T8 b7 d8 c2g)
    | (go_at_call 8; (with_reducible refine T9.mono ?_); rintro e w9 ⟨rfl, d9⟩; have b9 := bnext b8 d9; clear T9 b8 d9))
  go_ret
  exact ⟨rfl, b9⟩
/-- The contract under its printed name. -/
theorem postilionlaw18_awake.calls (w : World) (hT : spTab w) : Calls Tryd.prog 9 #[] w fun e w' => e = .returned (.bool true) ∧ Below w.heap.size w w' := lw_awake w hT

end Go.Proofs.YtpllckhmnjgohaaDoor.P
