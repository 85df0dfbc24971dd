-- Laid by sp.py, a program of this session's, out of the translation and the session's own stand-ins.
import Derived.Test.YtlpibchjcmndjabPx0
import Derived.Test.YtlpibchjcmndjabPx1
import Derived.Test.YtlpibchjcmndjabStasciiWord
import Derived.Test.YtlpibchjcmndjabStbytesClone
import Derived.Test.YtlpibchjcmndjabShelf
import Derived.Lib.SlBytesConst
namespace Go.Proofs.Ytlpibchjcmndjab.P
open Go.RowKit Go.Proofs.YtlpibchjcmndjabW.PrintWords Go.Proofs.YtlpibchjcmndjabW.PrintLast Go.Proofs.YtlpibchjcmndjabW.PrintMore
attribute [local go_sem] max2_int min2_int max_two min_two max_three min_three max_four min_four   -- for this text's walks alone
set_option linter.unusedVariables false
set_option linter.unusedSimpArgs false
set_option linter.unnecessarySimpa false

/-! ### awake of 02: a stand-in: a reader over constant bytes -/
/-- A reader: its bytes and how many were read. -/
structure RdIn (w0 : World) (R : Nat) (v : Value) (l : List Int) (n : Nat) (W : World) : Prop where
  le : w0.heap.size ≤ R
  blk : W.heap[R]? = some (.cells #[v, .int .i64 (n : Int)] 38 (0, 0))
  hR : Kd.R (Kd.int .u8) 5 W w0.heap.size (fun _ => True) v l
  hB : Below w0.heap.size w0 W
theorem rd_cell {W : World} {B : Nat} {C : Array Value} {t : Nat} {fr : Nat × Nat} (h : W.heap[B]? = some (.cells C t fr)) (j : Nat) : W.cell? ⟨B, j, none⟩ = C[j]? := by
  simp [World.cell?, h]
theorem rd_free {W : World} {B : Nat} {C : Array Value} {t : Nat} (h : W.heap[B]? = some (.cells C t (0, 0))) (j : Nat) : W.frozen? ⟨B, j, none⟩ = false := by
  simp [World.frozen?, h]
theorem RdIn.below {w0 : World} {R : Nat} {v : Value} {l : List Int} {n : Nat} {W W' : World} (h : RdIn w0 R v l n W) (hb : Below W.heap.size W W') : RdIn w0 R v l n W' :=
  ⟨h.le, (hb.block R (Array.getElem?_eq_some_iff.1 h.blk).1).trans h.blk, Kd.R_below h.hR hb, h.hB.trans ⟨hb.os, hb.tape, hb.output, hb.size, fun j hj => hb.block j (Nat.lt_of_lt_of_le hj h.hB.size)⟩⟩
theorem RdIn.set {w0 : World} {R : Nat} {v : Value} {l : List Int} {n : Nat} {W : World} (h : RdIn w0 R v l n W) (n2 : Nat) : RdIn w0 R v l n2 (W.setCell ⟨R, 1, none⟩ (.int .i64 (n2 : Int))) := by
  refine ⟨h.le, ?_, Kd.R_set h.hR h.blk (by intro q hq; simp [Kd.int, Kd.scalar] at hq; subst hq; decide) 1 _, h.hB.setCell (p := ⟨R, 1, none⟩) h.le _⟩
  simp [World.setCell, Array.getElem?_modify, h.blk]
set_option maxHeartbeats 4000000 in
theorem rd_New (A0 : Option Addr) (c0 : Nat) (l0 : List Int) (w : World) (hr0 : Kd.C (Kd.int .u8) w A0 l0.length l0) (hc0 : l0.length ≤ c0) (r : List Int) (h : bytes_Clone.f l0 = some r) :
    Calls Try.prog 6 #[.slice A0 l0.length c0] w fun e W' => ∃ R v, e = .returned (.pointer (some ⟨R, 0, none⟩)) ∧ RdIn w R v r 0 W' := by
  go_enter Try.func6, Try.ntmps6
  go_wp2_with (go_at_call 13; refine (bytes_Clone.calls A0 c0 l0 r _ hr0 hc0 h).mono ?_; rintro e w1 ⟨v, rfl, HV, HW⟩; obtain ⟨A1, c1, ev⟩ := Kd.R_slice HV; subst ev)
  have k := heap_alloc_new w1 (.cells #[.slice A1 r.length c1, .int .i64 0] 38)
  have hb : Below w1.heap.size w1 (w1.alloc (.cells #[.slice A1 r.length c1, .int .i64 0] 38)) := below_alloc (Below.refl _ _) _
  go_ret
  exact ⟨w1.heap.size, _, rfl, HW.size, k, Kd.R_below HV hb, HW.trans ⟨hb.os, hb.tape, hb.output, hb.size, fun j hj => hb.block j (Nat.lt_of_lt_of_le hj HW.size)⟩⟩
theorem rd_At (w0 : World) (R : Nat) (v : Value) (l : List Int) (n : Nat) (W : World) (h : RdIn w0 R v l n W) :
    Calls Try.prog 8 #[.pointer (some ⟨R, 0, none⟩)] W fun e W' => e = .returned (.int .i64 (n : Int)) ∧ W' = W := by
  have c1 := rd_cell h.blk 1
  simp at c1
  go_enter Try.func8, Try.ntmps8
  go_wp2_with fail
  go_ret
  exact ⟨rfl, rfl⟩
set_option maxHeartbeats 8000000 in
/-- A line that is there, and short enough. -/
theorem rd_Line1 (w0 : World) (R : Nat) (v : Value) (l : List Int) (n : Nat) (W : World) (h : RdIn w0 R v l n W) (most : Int) (e : Nat) (hm0 : 0 ≤ most) (hn : n + 2 ≤ l.length) (hl : l.length ≤ 1000000) (hem : (e : Int) ≤ most) (hen : n + e + 2 ≤ l.length)
    (hI : ∀ (W1 : World) (c : Nat) (A : Option Addr), Kd.C (Kd.int .u8) W1 A (l.drop n).length (l.drop n) → Below W.heap.size W W1 → W1.cell? ⟨W.heap.size, 0, none⟩ = some (.int .u8 13) → W1.cell? ⟨W.heap.size, 1, none⟩ = some (.int .u8 10) → (l.drop n).length ≤ c →
      Calls Try.prog 14 #[.slice A (l.drop n).length c, .slice (some ⟨W.heap.size, 0, none⟩) 2 2] W1 fun x W' => x = .returned (.int .i64 (e : Int)) ∧ Below W1.heap.size W1 W') :
    Calls Try.prog 7 #[.pointer (some ⟨R, 0, none⟩), .int .i64 most] W fun x W' => x = .returned (.tuple #[.string (strOfNums ((l.drop n).take e)), .int .i64 0]) ∧ RdIn w0 R v l (n + e + 2) W' := by
  obtain ⟨A, c, ev, hc, hC⟩ := Kd.R_reads h.hR
  subst ev
  have c0 := rd_cell h.blk 0
  have c1 := rd_cell h.blk 1
  simp at c0 c1
  obtain ⟨i0, hi0, _, hsz, _⟩ := info_parts info5
  have q1 : decide (most < 0) = false := decide_eq_false (by omega)
  have hlen : (l.drop n).length = l.length - n := List.length_drop
  obtain ⟨A', hcut, hA, hC2⟩ := print_drop_of (P := Try.prog) (Value.int .u8) 0 22 5 .i64 Try.underlying22 hi0 hsz A c l n (by omega) (by omega) hc
  rw [Int.toNat_natCast] at hcut hA hC2
  have hlow := Kd.C_of_reads (d := (0 : Int)) (h1 := fun _ => rfl) (hA W (Kd.reads_of_C hC))
  obtain ⟨htk, htr, htc⟩ := print_take_of (P := Try.prog) (Value.int .u8) 0 22 5 .i64 Try.underlying22 hi0 hsz A' (c - n) (l.drop n) (e : Int) (by omega) (by omega) hC2
  rw [Int.toNat_natCast] at htk htr htc
  have hkk := heap_alloc_new W (.cells #[.int .u8 13, .int .u8 10] 5)
  have hba : Below W.heap.size W (W.alloc (.cells #[.int .u8 13, .int .u8 10] 5)) := below_alloc (Below.refl _ _) _
  have i0c : (W.alloc (.cells #[.int .u8 13, .int .u8 10] 5)).drew.cell? ⟨W.heap.size, 0, none⟩ = some (.int .u8 13) := (rd_cell hkk 0).trans rfl
  have i1c : (W.alloc (.cells #[.int .u8 13, .int .u8 10] 5)).drew.cell? ⟨W.heap.size, 1, none⟩ = some (.int .u8 10) := (rd_cell hkk 1).trans rfl
  have HI := hI (W.alloc (.cells #[.int .u8 13, .int .u8 10] 5)).drew (c - n) A' (Kd.C_below hlow hba.drew) hba.drew i0c i1c hC2
  have q2 : decide (most < (e : Int)) = false := decide_eq_false (by omega)
  have q3 : decide ((e : Int) < 0) = false := decide_eq_false (by omega)
  have htl : ((l.drop n).take e).length = e := by rw [List.length_take, hlen]; omega
  rw [htl] at htk htr htc
  rw [hlen] at hcut HI htk htr hlow hA
  have HT := Aside0.mk htr
  have HA := Aside0.mk hA
  have hcast : ((n + e + 2 : Nat) : Int) = (n : Int) + ((e : Int) + 2) := by omega
  have HC := Aside0.mk hcast
  clear hcast
  have HL := Aside0.mk hlow
  generalize hL : l.drop n = L at *
  clear hA hC hlow hC2 htr htc i0c i1c hkk
  go_enter Try.func7, Try.ntmps7
  go_wp2_with fail
  go_region
  go_wp2_with (go_at_call 14; refine HI.mono ?_; rintro x w2 ⟨rfl, hb2⟩; have h2 := h.below (hba.drew.trans ⟨hb2.os, hb2.tape, hb2.output, hb2.size, fun j hj => hb2.block j (Nat.lt_of_lt_of_le hj hba.drew.size)⟩); have d0 := rd_cell h2.blk 0; have d1 := rd_cell h2.blk 1; have d2 := rd_free h2.blk 1; simp at d0 d1; have h3 := h2.set (n + e + 2); have hst := Kd.C_string Try.underlying22 Try.underlying5 Try.underlying9 (c := c - n) (Kd.C_of_reads (d := (0 : Int)) (h1 := fun _ => rfl) (HT.out _ (HA.out _ (Kd.reads_of_C (Kd.R_reads' h3.hR).2.2)))); rw [HC.out] at h3 hst)
  go_ret2
  exact ⟨rfl, h3⟩
set_option maxHeartbeats 8000000 in
/-- No end is there. -/
theorem rd_Line2 (w0 : World) (R : Nat) (v : Value) (l : List Int) (n : Nat) (W : World) (h : RdIn w0 R v l n W) (most : Int) (b : Bool) (hm0 : 0 ≤ most) (hn : n ≤ l.length) (hl : l.length ≤ 1000000)
    (hI : ∀ (W1 : World) (c : Nat) (A : Option Addr), Kd.C (Kd.int .u8) W1 A (l.drop n).length (l.drop n) → Below W.heap.size W W1 → W1.cell? ⟨W.heap.size, 0, none⟩ = some (.int .u8 13) → W1.cell? ⟨W.heap.size, 1, none⟩ = some (.int .u8 10) → (l.drop n).length ≤ c →
      Calls Try.prog 14 #[.slice A (l.drop n).length c, .slice (some ⟨W.heap.size, 0, none⟩) 2 2] W1 fun x W' => x = .returned (.int .i64 (-1)) ∧ Below W1.heap.size W1 W')
    (hG : ∀ (W1 : World) (c : Nat) (A : Option Addr), Kd.C (Kd.int .u8) W1 A (l.drop n).length (l.drop n) → (l.drop n).length ≤ c →
      Calls Try.prog 15 #[.slice A (l.drop n).length c, .int .i64 most] W1 fun x W' => x = .returned (.bool b) ∧ Below W1.heap.size W1 W') :
    Calls Try.prog 7 #[.pointer (some ⟨R, 0, none⟩), .int .i64 most] W fun x W' => x = .returned (.tuple #[.string ⟨#[]⟩, .int .i64 (if b = true then 6 else 5)]) ∧ RdIn w0 R v l n W' := by
  obtain ⟨A, c, ev, hc, hC⟩ := Kd.R_reads h.hR
  subst ev
  have HRd := Aside0.mk h
  have c0 := rd_cell h.blk 0
  have c1 := rd_cell h.blk 1
  simp at c0 c1
  obtain ⟨i0, hi0, _, hsz, _⟩ := info_parts info5
  have q1 : decide (most < 0) = false := decide_eq_false (by omega)
  have hlen : (l.drop n).length = l.length - n := List.length_drop
  obtain ⟨A', hcut, hA, hC2⟩ := print_drop_of (P := Try.prog) (Value.int .u8) 0 22 5 .i64 Try.underlying22 hi0 hsz A c l n (by omega) (by omega) hc
  rw [Int.toNat_natCast] at hcut hA hC2
  have hlow := Kd.C_of_reads (d := (0 : Int)) (h1 := fun _ => rfl) (hA W (Kd.reads_of_C hC))
  have hkk := heap_alloc_new W (.cells #[.int .u8 13, .int .u8 10] 5)
  have hba : Below W.heap.size W (W.alloc (.cells #[.int .u8 13, .int .u8 10] 5)) := below_alloc (Below.refl _ _) _
  have i0c : (W.alloc (.cells #[.int .u8 13, .int .u8 10] 5)).drew.cell? ⟨W.heap.size, 0, none⟩ = some (.int .u8 13) := (rd_cell hkk 0).trans rfl
  have i1c : (W.alloc (.cells #[.int .u8 13, .int .u8 10] 5)).drew.cell? ⟨W.heap.size, 1, none⟩ = some (.int .u8 10) := (rd_cell hkk 1).trans rfl
  have HI := hI (W.alloc (.cells #[.int .u8 13, .int .u8 10] 5)).drew (c - n) A' (Kd.C_below hlow hba.drew) hba.drew i0c i1c hC2
  have q2 : decide (most < (-1 : Int)) = false := decide_eq_false (by omega)
  have HG := fun W1 c A => hG W1 c A
  rw [hlen] at hcut HI hlow hA hC2 HG
  have HL := Aside0.mk hlow
  have HA := Aside0.mk hA
  have HC2 := Aside0.mk hC2
  generalize hL : l.drop n = L at *
  clear hA hC hlow hC2 i0c i1c hkk
  go_enter Try.func7, Try.ntmps7
  go_wp2_with fail
  go_region
  cases b with
  | true =>
    go_wp2_with (first | (go_at_call 14; refine HI.mono ?_; rintro x w2 ⟨rfl, hb2⟩; have hlow2 := Kd.C_below HL.out (hba.drew.trans ⟨hb2.os, hb2.tape, hb2.output, hb2.size, fun j hj => hb2.block j (Nat.lt_of_lt_of_le hj hba.drew.size)⟩); have HG2 := HG w2 (c - n) A' hlow2 HC2.out) | (go_at_call 15; refine HG2.mono ?_; rintro x w3 ⟨rfl, hb3⟩))
    go_ret2
    refine ⟨rfl, HRd.out.below ((hba.drew.trans ⟨hb2.os, hb2.tape, hb2.output, hb2.size, fun j hj => hb2.block j (Nat.lt_of_lt_of_le hj hba.drew.size)⟩).trans ⟨hb3.os, hb3.tape, hb3.output, hb3.size, fun j hj => hb3.block j (Nat.lt_of_lt_of_le hj (Nat.le_trans hba.drew.size hb2.size))⟩)⟩
  | false =>
    go_wp2_with (first | (go_at_call 14; refine HI.mono ?_; rintro x w2 ⟨rfl, hb2⟩; have hlow2 := Kd.C_below HL.out (hba.drew.trans ⟨hb2.os, hb2.tape, hb2.output, hb2.size, fun j hj => hb2.block j (Nat.lt_of_lt_of_le hj hba.drew.size)⟩); have HG2 := HG w2 (c - n) A' hlow2 HC2.out) | (go_at_call 15; refine HG2.mono ?_; rintro x w3 ⟨rfl, hb3⟩))
    go_ret2
    refine ⟨rfl, HRd.out.below ((hba.drew.trans ⟨hb2.os, hb2.tape, hb2.output, hb2.size, fun j hj => hb2.block j (Nat.lt_of_lt_of_le hj hba.drew.size)⟩).trans ⟨hb3.os, hb3.tape, hb3.output, hb3.size, fun j hj => hb3.block j (Nat.lt_of_lt_of_le hj (Nat.le_trans hba.drew.size hb2.size))⟩)⟩
theorem long_of (A : Option Addr) (n c : Nat) (l : List Int) (most : Int) (W : World) (hl : l.length = n) (hn : n ≤ 1000000) (hnc : n ≤ c) (hC : Kd.C (Kd.int .u8) W A n l) (T : Value) (k : Nat) (hT : ∃ A2 c2, T = .slice A2 k c2)
    (hTr : ∀ W1, Below W.heap.size W W1 → W1.cell? ⟨W.heap.size, 0, none⟩ = some (.int .u8 13) → Calls Try.prog 27 #[.slice A n c, .slice (some ⟨W.heap.size, 0, none⟩) 1 1] W1 fun x W' => x = .returned T ∧ W' = W1) :
    Calls Try.prog 15 #[.slice A n c, .int .i64 most] W fun x W' => x = .returned (.bool (decide (most < (k : Int)))) ∧ Below W.heap.size W W' := by
  obtain ⟨A2, c2, rfl⟩ := hT
  have hkk := heap_alloc_new W (.cells #[.int .u8 13] 5)
  have hba : Below W.heap.size W (W.alloc (.cells #[.int .u8 13] 5)) := below_alloc (Below.refl _ _) _
  have i0c : (W.alloc (.cells #[.int .u8 13] 5)).cell? ⟨W.heap.size, 0, none⟩ = some (.int .u8 13) := (rd_cell hkk 0).trans rfl
  have HI := hTr _ hba i0c
  clear hkk i0c
  go_enter Try.func15, Try.ntmps15
  go_wp2_with (go_at_call 27; refine HI.mono ?_; rintro x w2 ⟨rfl, rfl⟩)
  go_ret
  exact ⟨rfl, hba⟩
/-- The library's own variable holds some number. -/
def hasMax (W : World) : Prop := ∃ m, W.cell? ⟨0, 0, none⟩ = some (.int .i64 m)
theorem hasMax.below {W W' : World} (h : hasMax W) (hb : Below W.heap.size W W') : hasMax W' := by
  obtain ⟨m, hm⟩ := h
  have hl : 0 < W.heap.size := by
    rcases Nat.lt_or_ge 0 W.heap.size with h' | h'
    · exact h'
    · simp [World.cell?, Array.getElem?_eq_none h'] at hm
  refine ⟨m, ?_⟩
  unfold World.cell? at hm ⊢
  rw [hb.block 0 hl]
  exact hm
theorem cells_of_C {W : World} {A : Option Addr} {l : List Int} (hC : Kd.C (Kd.int .u8) W A l.length l) (hne : 0 < l.length) : ∃ ad, A = some ad ∧ ad.spot = none ∧ ∀ i, i < l.length → W.cell? (ad.add i) = some (.int .u8 (l.getD i 0)) := by
  obtain ⟨ad, ea, h0⟩ := Kd.at_int hC 0 (by omega) (by omega)
  refine ⟨ad, ea, ?_, fun i hi => ?_⟩
  · rw [show (0 : Int).toNat = 0 from rfl, Addr.add_zero'] at h0
    exact World.cell?_spot h0
  · obtain ⟨ad2, e2, hx⟩ := Kd.at_int hC i (by omega) (by omega)
    rw [ea] at e2
    cases e2
    rw [Int.toNat_natCast] at hx
    rw [hx]
    unfold rd
    rw [Int.toNat_natCast]
theorem aw_Index (W W1 : World) (c : Nat) (A : Option Addr) (hC : Kd.C (Kd.int .u8) W1 A ([97, 98, 13, 10, 99] : List Int).length [97, 98, 13, 10, 99]) (h13 : W1.cell? ⟨W.heap.size, 0, none⟩ = some (.int .u8 13)) (h10 : W1.cell? ⟨W.heap.size, 1, none⟩ = some (.int .u8 10)) (hc : 5 ≤ c) (hm : hasMax W1) :
    Calls Try.prog 14 #[.slice A 5 c, .slice (some ⟨W.heap.size, 0, none⟩) 2 2] W1 fun x W' => x = .returned (.int .i64 ((2 : Nat) : Int)) ∧ Below W1.heap.size W1 W' := by
  obtain ⟨m, hm⟩ := hm
  obtain ⟨ad, rfl, _, hcs⟩ := cells_of_C hC (by decide)
  refine (Try.bytes_Index_at ad ⟨W.heap.size, 0, none⟩ 5 c 2 2 [97, 98, 13, 10, 99] [13, 10] m W1 rfl rfl (by decide) (by decide) (fun i hi => hcs i hi) (fun i hi => ?_) hc (by decide) (by decide) hm).mono ?_
  · match i, hi with
    | 0, _ => exact h13
    | 1, _ => exact h10
  · rintro x W' ⟨rfl, q, rfl⟩
    exact ⟨by rfl, pw_below_drewN (Below.refl _ _) _⟩
theorem aw_Line2 (w0 : World) (R : Nat) (v : Value) (W : World) (h : RdIn w0 R v [97, 98, 13, 10, 99] 4 W) :
    Calls Try.prog 7 #[.pointer (some ⟨R, 0, none⟩), .int .i64 9] W fun x W' => x = .returned (.tuple #[.string ⟨#[]⟩, .int .i64 5]) ∧ RdIn w0 R v [97, 98, 13, 10, 99] 4 W' := by
  refine rd_Line2 w0 R v [97, 98, 13, 10, 99] 4 W h 9 false (by decide) (by decide) (by decide) (fun W1 c A _ _ _ _ hc => ?_) (fun W1 c A hC hc => ?_)
  · refine (Try.bytes_Index_longer A (some ⟨W.heap.size, 0, none⟩) 1 c 2 2 W1 (by decide) (by decide) (by decide)).mono ?_
    rintro x W' ⟨rfl, rfl⟩
    exact ⟨rfl, Below.refl _ _⟩
  · obtain ⟨ad, rfl, hsp, hcs⟩ := cells_of_C hC (by decide)
    obtain ⟨b1, o1, sp⟩ := ad
    simp only at hsp
    subst hsp
    refine (long_of (some ⟨b1, o1, none⟩) 1 c [99] 9 W1 rfl (by decide) hc hC (.slice (some ⟨b1, o1, none⟩) 1 c) 1 ⟨_, _, rfl⟩ (fun W2 hb2 h13 => ?_)).mono ?_
    · have hC2 := Kd.C_below hC hb2
      obtain ⟨ad2, e2, _, hcs2⟩ := cells_of_C hC2 (by decide)
      cases e2
      refine (Try.bytes_TrimSuffix b1 o1 1 c W1.heap.size 0 1 1 [99] [13] W2 rfl rfl hc (by decide) (fun i hi => ?_) (fun i hi => ?_)).mono ?_
      · have := hcs2 i hi
        match i, hi with
        | 0, _ => rw [Addr.add_zero'] at this; exact this
      · match i, hi with
        | 0, _ => exact h13
      · rintro x W' ⟨rfl, rfl⟩
        exact ⟨rfl, rfl⟩
    · rintro x W' ⟨rfl, hb⟩
      exact ⟨rfl, hb⟩
theorem aw_lit (W : World) (fr : Nat × Nat) : Kd.C (Kd.int .u8) (W.alloc (.cells #[.int .u8 97, .int .u8 98, .int .u8 13, .int .u8 10, .int .u8 99] 5 fr)) (some ⟨W.heap.size, 0, none⟩) ([97, 98, 13, 10, 99] : List Int).length [97, 98, 13, 10, 99] :=
  Kd.C_of_reads (d := (0 : Int)) (h1 := fun _ => rfl) ⟨rfl, by decide, fun _ => ⟨⟨W.heap.size, 0, none⟩, rfl, fun j hj => by
    have h : (W.alloc (.cells #[.int .u8 97, .int .u8 98, .int .u8 13, .int .u8 10, .int .u8 99] 5 fr)).heap[W.heap.size]? = some (.cells #[.int .u8 97, .int .u8 98, .int .u8 13, .int .u8 10, .int .u8 99] 5 fr) := by
      show (W.heap.push _)[W.heap.size]? = _
      simp
    rw [Addr.add_lit, Nat.zero_add, rd_cell h]
    match j, hj with
    | 0, _ => rfl
    | 1, _ => rfl
    | 2, _ => rfl
    | 3, _ => rfl
    | 4, _ => rfl⟩⟩
def postilionlaw02_awake.f : Option Bool := some true
set_option maxHeartbeats 8000000 in
set_option maxRecDepth 100000 in
theorem postilionlaw02_awake.calls (r : Bool) (w : World) (h : postilionlaw02_awake.f = some r) (hm : hasMax w) :
    Calls Try.prog 4 #[] w fun e w' => e = .returned (.bool r) ∧ Below w.heap.size w w' := by
  obtain rfl := Option.some.inj h
  have kc := fun (w : World) (C : Array Value) (n c : Nat) => Lib.run_convert_bytes_const (P := Try.prog) w 22 5 C n c Try.underlying22 Try.underlying5
  have N0 := rd_New (some ⟨w.heap.size, 0, none⟩) 5 [97, 98, 13, 10, 99] _ (aw_lit w (5, 6)) (Nat.le_refl _) [97, 98, 13, 10, 99] (by decide +kernel)
  have hb0 : Below w.heap.size w (w.alloc (.cells #[.int .u8 97, .int .u8 98, .int .u8 13, .int .u8 10, .int .u8 99] 5 (5, 6))) := below_alloc (Below.refl _ _) _
  have hm0 := hm.below hb0
  have hs0 : (w.alloc (.cells #[.int .u8 97, .int .u8 98, .int .u8 13, .int .u8 10, .int .u8 99] 5 (5, 6))).heap.size = w.heap.size + 1 := Array.size_push _
  have hq : ((strOfNums ([97, 98] : List Int)).toList == [97, 98]) = true := by decide +kernel
  have P0 : ∀ (W : World), Calls Try.prog 11 #[.string ⟨#[56, 48]⟩, .int .i64 80, .int .i64 0] W fun e w' => e = .returned (.bool true) ∧ Drawn0 W w' := fun W => postilionlaw02_parses.calls ⟨#[56, 48]⟩ 80 0 true W (by decide +kernel)
  have P1 : ∀ (W : World), Calls Try.prog 11 #[.string ⟨#[48, 56, 48]⟩, .int .i64 0, .int .i64 6] W fun e w' => e = .returned (.bool true) ∧ Drawn0 W w' := fun W => postilionlaw02_parses.calls ⟨#[48, 56, 48]⟩ 0 6 true W (by decide +kernel)
  have P2 : ∀ (W : World), Calls Try.prog 11 #[.string ⟨#[]⟩, .int .i64 0, .int .i64 6] W fun e w' => e = .returned (.bool true) ∧ Drawn0 W w' := fun W => postilionlaw02_parses.calls ⟨#[]⟩ 0 6 true W (by decide +kernel)
  have P3 : ∀ (W : World), Calls Try.prog 11 #[.string ⟨#[54, 53, 53, 51, 54]⟩, .int .i64 0, .int .i64 6] W fun e w' => e = .returned (.bool true) ∧ Drawn0 W w' := fun W => postilionlaw02_parses.calls ⟨#[54, 53, 53, 51, 54]⟩ 0 6 true W (by decide +kernel)
  have V0 : ∀ (W : World), Calls Try.prog 12 #[.string ⟨#[97, 49]⟩] W fun e w' => e = .returned (.bool true) ∧ Below W.heap.size W w' := fun W => ascii_Word.calls ⟨#[97, 49]⟩ true W (by decide +kernel)
  have V1 : ∀ (W : World), Calls Try.prog 12 #[.string ⟨#[65, 49]⟩] W fun e w' => e = .returned (.bool false) ∧ Below W.heap.size W w' := fun W => ascii_Word.calls ⟨#[65, 49]⟩ false W (by decide +kernel)
  go_enter Try.func4, Try.ntmps4
  go_wp2_with (first | (go_at_call 6; refine N0.mono ?_; rintro e w1 ⟨R, v, rfl, h1⟩; have L1 := rd_Line1 _ R v [97, 98, 13, 10, 99] 0 w1 h1 9 2 (by decide) (by decide) (by decide) (by decide) (by decide) (fun W1 c A hC hb h13 h10 hc => aw_Index w1 W1 c A hC h13 h10 hc ((hm0.below h1.hB).below hb))) | (go_at_call 7; refine L1.mono ?_; rintro e w2 ⟨rfl, h2⟩; have L2 := aw_Line2 _ R v w2 h2) | (go_at_call 7; refine L2.mono ?_; rintro e w3 ⟨rfl, h3⟩) | (go_at_call 8; refine (rd_At _ R v _ _ _ h5).mono ?_; rintro e w9 ⟨rfl, hw⟩; obtain rfl := hw.symm) | (go_at_call 11; (with_reducible refine (P0 _).mono ?_); rintro e p0 ⟨rfl, ⟨d0, rfl⟩⟩) | (go_at_call 11; (with_reducible refine (P1 _).mono ?_); rintro e p1 ⟨rfl, ⟨d1, rfl⟩⟩) | (go_at_call 11; (with_reducible refine (P2 _).mono ?_); rintro e p2 ⟨rfl, ⟨d2, rfl⟩⟩) | (go_at_call 11; (with_reducible refine (P3 _).mono ?_); rintro e p3 ⟨rfl, ⟨d3, rfl⟩⟩) | (go_at_call 12; (with_reducible refine (V0 _).mono ?_); rintro e v0 ⟨rfl, hv0⟩; have h4 := (h3.below (pw_below_drewN (Below.refl _ _) _)).below hv0) | (go_at_call 12; (with_reducible refine (V1 _).mono ?_); rintro e v1 ⟨rfl, hv1⟩; have h5 := h4.below hv1))
  go_ret
  exact ⟨rfl, hb0.trans ⟨h5.hB.os, h5.hB.tape, h5.hB.output, h5.hB.size, fun j hj => h5.hB.block j (by rw [hs0]; omega)⟩⟩

end Go.Proofs.Ytlpibchjcmndjab.P
