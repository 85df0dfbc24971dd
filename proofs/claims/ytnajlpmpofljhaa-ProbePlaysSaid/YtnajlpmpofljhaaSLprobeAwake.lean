import Derived.Test.YtnajlpmpofljhaaSLplan
import Derived.Test.YtnajlpmpofljhaaSLints
namespace Go.Proofs.Ytnajlpmpofljhaa.P
open Go.RowKit Go.Proofs.YtnajlpmpofljhaaW.PrintWords Go.Proofs.YtnajlpmpofljhaaW.PrintLast Go.Proofs.YtnajlpmpofljhaaW.PrintMore
set_option linter.unusedVariables false
set_option linter.unusedSimpArgs false
set_option linter.unnecessarySimpa false
attribute [local go_sem] max2_int min2_int max_two min_two max_three min_three max_four min_four
/-! ### due, and the chapter's example -/
section
variable {w0 : World} {P : Nat} {rv : Value} {l : List (Int × Int)} {every : Int} {W : World}
theorem pz_DropNo (h : PnRaw w0 P rv l every W) (ok : PnOk l) (he : every ≠ 0) (k : Int) (hk : 1 ≤ k ∧ k ≤ 1099511627775) (hc : (l.map Prod.fst).contains k = false) : Calls Try.prog 12 #[.pointer (some ⟨P, 0, none⟩), .int .i64 k] W fun e W' => e = .returned (.int .i64 30) ∧ Below W.heap.size W W' := by
  have N := pz_none h he
  have AT := pz_at h ok k hk
  rw [hc] at AT
  obtain ⟨g1, g2⟩ := hk
  have p1 : decide (k < 1) = false := decide_eq_false (by omega)
  have p2 : decide (1099511627775 < k) = false := decide_eq_false (by omega)
  generalize posK (l.map Prod.fst) k = p at AT
  clear h he ok hc
  go_enter Try.func12, Try.ntmps12
  go_wp2_with (first | (go_at_call 24; (with_reducible refine N.mono ?_); rintro e w1 ⟨rfl, hw⟩; obtain rfl := hw.symm) | (go_at_call 25; (with_reducible refine AT.mono ?_); rintro e w2 ⟨rfl, hb⟩))
  go_ret
  exact ⟨rfl, hb⟩
set_option maxHeartbeats 4000000 in
theorem pz_due (h : PnRaw w0 P rv l every W) (ok : PnOk l) (he : 1 ≤ every ∧ every ≤ 1000) (now : Int) (hn : 0 ≤ now ∧ now ≤ 1099511626775) {A B : Option Addr} {c d : Nat} {ws xs : List Int} (hw : IntsAt w0.heap.size W.heap.size A ws W) (hwl : ws.length ≤ 1000) (hx : IntsAt w0.heap.size W.heap.size B xs W) (hxl : xs.length ≤ 1000) (hr : roundO ws now l = xs) :
    Calls Try.prog 10 #[.pointer (some ⟨P, 0, none⟩), .int .i64 now, .slice A ws.length c, .slice B xs.length d] W fun e W' => e = .returned (.bool true) ∧ PnRaw w0 P rv (l.map (rowF ws now every)) every W' ∧ PnMv P rv W W' := by
  have R := pz_Round (c := c) h ok he now hn hw hwl
  have H := Aside0.mk h
  have HX := Aside0.mk hx
  have HRR := Aside0.mk hr
  have hq : ((xs.length : Int) != (xs.length : Int)) = false := by simp
  clear h ok he hn hw hx hr
  go_enter Try.func10, Try.ntmps10
  go_wp2_with (go_at_call 11; (with_reducible refine R.mono ?_); rintro e w1 ⟨v, rfl, hown, hp, hm⟩; (rw [HRR.out] at hown); have HO := Aside0.mk hown; have HP := Aside0.mk hp; have HM := Aside0.mk hm; have HX2 := Aside0.mk (HX.out.mv (Nat.le_refl _) H.out hm); obtain ⟨A1, c1, ev⟩ := own_slice hown; subst ev; clear hown hp hm R)
  go_loopw [10] (fun i wr => ∃ k nd : Nat, k ≤ xs.length ∧ i = .int .i64 (k : Int) ∧ wr = w1.drewN nd) (fun i _ => xs.length - (intOf i).toNat)
  case atStart => exact ⟨0, 0, Nat.zero_le _, rfl, rfl⟩
  case round =>
    obtain ⟨k, nd, hk, rfl, rfl⟩ := hrel
    by_cases hlt : k < xs.length
    · have p1 : decide ((k : Int) < (xs.length : Int)) = true := decide_eq_true (by omega)
      rcases own1_form HO.out with ⟨_, rfl⟩ | ⟨g0, q0, cur0, ev0, _, _, _, _, _, _, hc0⟩
      · exact absurd hlt (Nat.not_lt_zero _)
      rcases HX2.out with rfl | ⟨b, off, rfl, _, _, hc1⟩
      · exact absurd hlt (Nat.not_lt_zero _)
      obtain rfl : A1 = some ⟨g0, 0, none⟩ := (Value.slice.inj ev0).1
      have d0 := hc0 k hlt
      have d1 := hc1 k hlt
      clear hc0 hc1 ev0
      generalize xs.getD k 0 = x at d0 d1
      have hxx : (x != x) = false := by simp
      have i1 : (0 : Int) ≤ (k : Int) := by omega
      have i2 : (k : Int) < (xs.length : Int) := by omega
      go_wp2_with fail
      go_region
      go_wp2_with fail
      exact ⟨⟨k + 1, nd + 1, by omega, by simp, rfl⟩, by simp [intOf]; omega⟩
    · have p1 : decide ((k : Int) < (xs.length : Int)) = false := decide_eq_false (by omega)
      go_wp2_with fail
      go_ret
      exact ⟨rfl, HP.out.below (pw_below_drewN (Below.refl _ _) nd), HM.out.below (pw_below_drewN (Below.refl _ _) nd)⟩
/-- A row that a call has just made. -/
theorem ints_new {base : Nat} {xs : List Int} {b : Nat} {W : World} (h : W.heap[b]? = some (.cells (nums .i64 xs).toArray 3 (0, 0))) : IntsAt base W.heap.size (some ⟨b, 0, none⟩) xs W := by
  refine .inr ⟨b, 0, rfl, blk_lt h, .inr ⟨_, h⟩, fun j hj => ?_⟩
  rw [blk_cell h, Nat.zero_add]
  unfold nums
  simp [hj]
end
theorem ints_blk {base N : Nat} {xs : List Int} {b : Nat} {W : World} (h : W.heap[b]? = some (.cells (nums .i64 xs).toArray 3 (0, 0))) (hN : b < N) : IntsAt base N (some ⟨b, 0, none⟩) xs W := by
  refine .inr ⟨b, 0, rfl, hN, .inr ⟨_, h⟩, fun j hj => ?_⟩
  rw [blk_cell h, Nat.zero_add]
  unfold nums
  simp [hj]
theorem ints_n {base : Nat} (W : World) (xs : List Int) : IntsAt base (W.heap.size + 1) (some ⟨W.heap.size, 0, none⟩) xs (W.alloc (.cells (nums .i64 xs).toArray 3)) := ints_blk (blk_new W _) (by omega)
section
variable {w0 : World} {P : Nat} {rv : Value} {l : List (Int × Int)} {every : Int} {W : World}
theorem due_gf (h : PnRaw w0 P rv l every W) (ok : PnOk l) (he : 1 ≤ every ∧ every ≤ 1000) (now : Int) (hn : 0 ≤ now ∧ now ≤ 1099511626775) {A : Option Addr} {c d : Nat} {ws xs : List Int} (hw : IntsAt w0.heap.size W.heap.size A ws W) (hwl : ws.length ≤ 1000) (hxl : xs.length ≤ 1000) (hr : roundO ws now l = xs) :
    Calls Try.prog 10 #[.pointer (some ⟨P, 0, none⟩), .int .i64 now, .slice A ws.length c, .slice (some ⟨W.heap.size, 0, none⟩) xs.length d] (W.alloc (.cells (nums .i64 xs).toArray 3)) fun e W' => e = .returned (.bool true) ∧ PnRaw w0 P rv (l.map (rowF ws now every)) every W' ∧ PnMv P rv W W' := by
  have hb : Below W.heap.size W (W.alloc (.cells (nums .i64 xs).toArray 3)) := (Below.refl _ _).alloc (Nat.le_refl _) _
  refine (pz_due (h.below hb) ok he now hn ((hw.below (Nat.le_refl _) hb).more hb.size) hwl (by have := ints_n (base := w0.heap.size) W xs; rw [← World.size_alloc W (.cells (nums .i64 xs).toArray 3)] at this; exact this) hxl hr).mono ?_
  rintro e W' ⟨rfl, h1, h2⟩
  exact ⟨rfl, h1, PnMv.after hb h2⟩
theorem due_fg (h : PnRaw w0 P rv l every W) (ok : PnOk l) (he : 1 ≤ every ∧ every ≤ 1000) (now : Int) (hn : 0 ≤ now ∧ now ≤ 1099511626775) {B : Option Addr} {c d : Nat} {ws xs : List Int} (hx : IntsAt w0.heap.size W.heap.size B xs W) (hwl : ws.length ≤ 1000) (hxl : xs.length ≤ 1000) (hr : roundO ws now l = xs) :
    Calls Try.prog 10 #[.pointer (some ⟨P, 0, none⟩), .int .i64 now, .slice (some ⟨W.heap.size, 0, none⟩) ws.length c, .slice B xs.length d] (W.alloc (.cells (nums .i64 ws).toArray 3)) fun e W' => e = .returned (.bool true) ∧ PnRaw w0 P rv (l.map (rowF ws now every)) every W' ∧ PnMv P rv W W' := by
  have hb : Below W.heap.size W (W.alloc (.cells (nums .i64 ws).toArray 3)) := (Below.refl _ _).alloc (Nat.le_refl _) _
  refine (pz_due (h.below hb) ok he now hn (by have := ints_n (base := w0.heap.size) W ws; rw [← World.size_alloc W (.cells (nums .i64 ws).toArray 3)] at this; exact this) hwl ((hx.below (Nat.le_refl _) hb).more hb.size) hxl hr).mono ?_
  rintro e W' ⟨rfl, h1, h2⟩
  exact ⟨rfl, h1, PnMv.after hb h2⟩
theorem due_ff (h : PnRaw w0 P rv l every W) (ok : PnOk l) (he : 1 ≤ every ∧ every ≤ 1000) (now : Int) (hn : 0 ≤ now ∧ now ≤ 1099511626775) {c d : Nat} {ws xs : List Int} (hwl : ws.length ≤ 1000) (hxl : xs.length ≤ 1000) (hr : roundO ws now l = xs) :
    Calls Try.prog 10 #[.pointer (some ⟨P, 0, none⟩), .int .i64 now, .slice (some ⟨W.heap.size, 0, none⟩) ws.length c, .slice (some ⟨W.heap.size + 1, 0, none⟩) xs.length d] ((W.alloc (.cells (nums .i64 ws).toArray 3)).alloc (.cells (nums .i64 xs).toArray 3)) fun e W' => e = .returned (.bool true) ∧ PnRaw w0 P rv (l.map (rowF ws now every)) every W' ∧ PnMv P rv W W' := by
  have hb : Below W.heap.size W (W.alloc (.cells (nums .i64 ws).toArray 3)) := (Below.refl _ _).alloc (Nat.le_refl _) _
  have := due_gf (c := c) (d := d) (xs := xs) (h.below hb) ok he now hn (by have := ints_n (base := w0.heap.size) W ws; rw [← World.size_alloc W (.cells (nums .i64 ws).toArray 3)] at this; exact this) hwl hxl hr
  rw [World.size_alloc] at this
  refine this.mono ?_
  rintro e W' ⟨rfl, h1, h2⟩
  exact ⟨rfl, h1, PnMv.after hb h2⟩
end
set_option maxRecDepth 20000 in
set_option maxHeartbeats 8000000 in
theorem pz_awake (w : World) : Calls Try.prog 7 #[] w fun e w' => e = .returned (.bool true) ∧ Below w.heap.size w w' := by
  go_enter Try.func7, Try.ntmps7
  go_wp2_with fail
  refine (pz_New 5 w rfl).mono ?_
  rintro e w1 ⟨rfl, hw1⟩
  have R1 := Aside0.mk (show PnRaw w w.heap.size (.slice none 0 0) [] 5 w1 by rw [hw1]; exact pz_made 5 w)
  have OK1 := Aside0.mk pz_ok_nil
  clear hw1
  go_wp2_with fail
  have A1 := pz_Add R1.out OK1.out (by decide) 8
  rw [show erA [] 8 = 0 from by decide, if_pos rfl, show insP [] 8 = [(8, 0)] from by decide] at A1
  refine A1.mono ?_
  rintro e w2 ⟨rfl, rv2, r2, m2⟩
  have R2 := Aside0.mk r2
  have OK2 := Aside0.mk (show PnOk [(8, 0)] from ⟨by decide, by decide, by decide⟩)
  clear A1 r2 m2
  go_wp2_with fail
  have A2 := pz_Add R2.out OK2.out (by decide) 3
  rw [show erA [(8, 0)] 3 = 0 from by decide, if_pos rfl, show insP [(8, 0)] 3 = [(3, 0), (8, 0)] from by decide] at A2
  refine A2.mono ?_
  rintro e w3 ⟨rfl, rv3, r3, m3⟩
  have R3 := Aside0.mk r3
  have OK3 := Aside0.mk (show PnOk [(3, 0), (8, 0)] from ⟨by decide, by decide, by decide⟩)
  clear A2 r3 m3
  go_wp2_with fail
  have A3 := pz_Add R3.out OK3.out (by decide) 3
  rw [show erA [(3, 0), (8, 0)] 3 = 2 from by decide, if_neg (by decide)] at A3
  refine A3.mono ?_
  rintro e w4 ⟨rfl, rv4, r4, m4⟩
  have R4 := Aside0.mk r4
  clear A3 r4 m4
  go_wp2_with fail
  refine (pz_DropNo R4.out OK3.out (by decide) 4 (by decide) (by decide)).mono ?_
  rintro e w5 ⟨rfl, hb5⟩
  have R5 := Aside0.mk (R4.out.below hb5)
  clear hb5
  go_wp2_with fail
  have hB6 : Below w5.heap.size w5 (w5.alloc (.cells #[.int .i64 3, .int .i64 8] 3)) := (Below.refl _ _).alloc (Nat.le_refl _) _
  have R5b := Aside0.mk (R5.out.below hB6)
  have BO := Aside0.mk (show IntsAt w.heap.size (w5.alloc (.cells #[.int .i64 3, .int .i64 8] 3)).heap.size (some ⟨w5.heap.size, 0, none⟩) [3, 8] (w5.alloc (.cells #[.int .i64 3, .int .i64 8] 3)) by rw [World.size_alloc]; exact ints_n (base := w.heap.size) w5 [3, 8])
  clear hB6
  have D1 := due_ff (c := 1) (d := 1) (ws := [3]) (xs := [3]) R5b.out OK3.out (by decide) 2 (by decide) (by decide) (by decide) (by decide)
  rw [World.size_alloc] at D1
  refine D1.mono ?_
  rintro e w6 ⟨rfl, r6, m6⟩
  have R6 := Aside0.mk (show PnRaw w w.heap.size rv4 [(3, 7), (8, 0)] 5 w6 from r6)
  have BO6 := Aside0.mk ((BO.out.mv (Nat.le_refl _) R5b.out m6).more m6.size)
  have OK6 := Aside0.mk (show PnOk [(3, 7), (8, 0)] from ⟨by decide, by decide, by decide⟩)
  clear D1 r6 m6
  go_wp2_with fail
  have D2 := due_gf (c := 2) (d := 1) (xs := [8]) R6.out OK6.out (by decide) 4 (by decide) BO6.out (by decide) (by decide) (by decide)
  refine D2.mono ?_
  rintro e w7 ⟨rfl, r7, m7⟩
  have R7 := Aside0.mk (show PnRaw w w.heap.size rv4 [(3, 7), (8, 9)] 5 w7 from r7)
  have BO7 := Aside0.mk ((BO6.out.mv (Nat.le_refl _) R6.out m7).more m7.size)
  have OK7 := Aside0.mk (show PnOk [(3, 7), (8, 9)] from ⟨by decide, by decide, by decide⟩)
  clear D2 r7 m7
  go_wp2_with fail
  have D3 := due_gf (c := 2) (d := 1) (xs := [3]) R7.out OK7.out (by decide) 7 (by decide) BO7.out (by decide) (by decide) (by decide)
  refine D3.mono ?_
  rintro e w8 ⟨rfl, r8, m8⟩
  have R8 := Aside0.mk (show PnRaw w w.heap.size rv4 [(3, 12), (8, 9)] 5 w8 from r8)
  have OK8 := Aside0.mk (show PnOk [(3, 12), (8, 9)] from ⟨by decide, by decide, by decide⟩)
  clear D3 r8 m8
  go_wp2_with fail
  have D4 := pz_due (A := none) (B := none) (c := 0) (d := 0) (ws := []) (xs := []) R8.out OK8.out (by decide) 8 (by decide) (.inl rfl) (by decide) (.inl rfl) (by decide) (by decide)
  refine D4.mono ?_
  rintro e w9 ⟨rfl, r9, m9⟩
  have R9 := Aside0.mk (show PnRaw w w.heap.size rv4 [(3, 0), (8, 0)] 5 w9 from r9)
  clear D4 r9 m9
  go_wp2_with fail
  have D5 := due_ff (c := 1) (d := 1) (ws := [3]) (xs := [3]) R9.out OK3.out (by decide) 9 (by decide) (by decide) (by decide) (by decide)
  refine D5.mono ?_
  rintro e w10 ⟨rfl, r10, m10⟩
  have HB := Aside0.mk r10.hB
  clear D5 r10 m10
  go_wp2_with fail
  go_ret
  exact ⟨rfl, HB.out⟩
end Go.Proofs.Ytnajlpmpofljhaa.P
