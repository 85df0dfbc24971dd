-- Laid by sp.py, a program of this session's, out of the translation and the session's own stand-ins.
import Derived.Test.YtlpibchjcmndjabPx0
import Derived.Test.YtlpibchjcmndjabStbytesClone
import Derived.Test.YtlpibchjcmndjabStasciiAwake
import Derived.Test.YtlpibchjcmndjabStasciiReader
import Derived.Test.YtlpibchjcmndjabShelf
import Derived.Test.YtlpibchjcmndjabStasciiReader
import Derived.StillTailTactics
namespace Go.Proofs.Ytlpibchjcmndjab.P
open Go.RowKit Go.Proofs.YtlpibchjcmndjabW.PrintWords Go.Proofs.YtlpibchjcmndjabW.PrintLast Go.Proofs.YtlpibchjcmndjabW.PrintMore
attribute [local go_sem] max2_int min2_int max_two min_two max_three min_three max_four min_four   -- for this text's walks alone
set_option linter.unusedVariables false
set_option linter.unusedSimpArgs false
set_option linter.unnecessarySimpa false

/-! ### ascii.Reader's Bytes: for every bytes and place -/
theorem gf_Bytes (A : Option Addr) (c k : Nat) (l0 : List Int) (C : Nat) (W : World) (hk : l0.length = k) (hC : Kd.C (Kd.int .u8) W A l0.length l0) (hc : l0.length ≤ c) (hb : l0.length ≤ 1000000) (v0 : Value) (hblk : W.heap[C]? = some (.cells #[v0] 22 (0, 0))) :
    Calls Try.prog 17 #[.slice A k c, .pointer (some ⟨C, 0, none⟩)] W fun e W' => e = .returned (.tuple #[]) ∧ ∃ v2 W1, W' = W1.setCell ⟨C, 0, none⟩ v2 ∧ Kd.R (Kd.int .u8) 5 W1 W.heap.size (fun _ => True) v2 l0 ∧ Below W.heap.size W W1 := by
  subst hk
  have hlt : C < W.heap.size := (Array.getElem?_eq_some_iff.1 hblk).1
  have hX := bytes_Clone.calls A c l0 l0 W hC hc (by unfold bytes_Clone.f; rw [if_pos (by omega)])
  go_enter Try.func17, Try.ntmps17
  go_wp2_with (go_at_call 13; refine hX.mono ?_; rintro x w2 ⟨v2, rfl, hv2, hb2⟩; obtain ⟨A1, c1, ev⟩ := Kd.R_slice hv2; subst ev; have hblk2 := (hb2.block C hlt).trans hblk; have cc := rd_cell hblk2 0; have cf := rd_free hblk2 0; simp at cc)
  go_end0
  exact ⟨rfl, _, _, rfl, hv2, hb2⟩
/-- What is read lies below what is called. -/
theorem RdIn.got {w0 : World} {R : Nat} {v : Value} {l : List Int} {n : Nat} {W : World} (h : RdIn w0 R v l n W) {C : Nat} {x : Value} (hC : W.heap[C]? = some (.cells #[x] 22 (0, 0))) (hl : w0.heap.size ≤ C) (y : Value) : RdIn w0 R v l n (W.setCell ⟨C, 0, none⟩ y) := by
  have hne : C ≠ R := fun e => by
    subst e
    have := hC.symm.trans h.blk
    simp at this
  refine ⟨h.le, ?_, Kd.R_set h.hR hC (by intro q hq; simp [Kd.int, Kd.scalar] at hq; subst hq; decide) 0 _, h.hB.setCell (p := ⟨C, 0, none⟩) hl _⟩
  simp [World.setCell, Array.getElem?_modify, hne, h.blk]
set_option maxHeartbeats 8000000 in
theorem rd_nextB (w0 : World) (R : Nat) (v : Value) (l : List Int) (n : Nat) (W : World) (h : RdIn w0 R v l n W) (k : Int) (hk : 0 ≤ k) (hn : (n : Int) + k ≤ l.length) (hl : l.length ≤ 1000000) (C : Nat) (hCl : w0.heap.size ≤ C) (x : Value) (hblk : W.heap[C]? = some (.cells #[x] 22 (0, 0))) :
    Calls Try.prog 16 #[.pointer (some ⟨R, 0, none⟩), .int .i64 k, .func (.func 17) #[] #[.pointer (some ⟨C, 0, none⟩)]] W fun e W' => e = .returned (.int .i64 0) ∧ ∃ v2, RdIn w0 R v l (n + k.toNat) W' ∧ W'.heap[C]? = some (.cells #[v2] 22 (0, 0)) ∧ Kd.R (Kd.int .u8) 5 W' W.heap.size (fun _ => True) v2 ((l.take (n + k.toNat)).drop n) ∧ Below w0.heap.size w0 W' ∧ W.heap.size ≤ W'.heap.size ∧ ∀ j, j < W.heap.size → j ≠ C → j ≠ R → W'.heap[j]? = W.heap[j]? := by
  obtain ⟨A, c, ev, hc, hC⟩ := Kd.R_reads h.hR
  subst ev
  have HRd := Aside0.mk h
  have c0 := rd_cell h.blk 0
  have c1 := rd_cell h.blk 1
  simp at c0 c1
  obtain ⟨i0, hi0, _, hsz, _⟩ := info_parts info5
  have q1 : decide (k < 0) = false := decide_eq_false (by omega)
  have q2 : decide ((l.length : Int) - (n : Int) < k) = false := decide_eq_false (by omega)
  obtain ⟨A', hcut, hA, hC2⟩ := print_mid_of (P := Try.prog) (Value.int .u8) 0 22 5 .i64 .i64 Try.underlying22 hi0 hsz A c l n ((n : Int) + k) (by omega) (by omega) hn hc
  have e1 : ((n : Int) + k).toNat = n + k.toNat := by omega
  have e2 : IntKind.i64.wrap ((n : Int) + k) = (n : Int) + k := by
    simp only [IntKind.wrap, IntKind.bits, IntKind.signed]
    simp
    omega
  have HCs := Aside0.mk (show ((n + k.toNat : Nat) : Int) = (n : Int) + k by omega)
  have hCs : C < W.heap.size := (Array.getElem?_eq_some_iff.1 hblk).1
  rw [Int.toNat_natCast, e1] at hcut hA hC2
  have hlow := Kd.C_of_reads (d := (0 : Int)) (h1 := fun _ => rfl) (hA W (Kd.reads_of_C hC))
  have hll : ((l.take (n + k.toNat)).drop n).length ≤ 1000000 := by rw [List.length_drop, List.length_take]; omega
  have HG := fun (W1 : World) h1 h2 => gf_Bytes A' (c - n) _ ((l.take (n + k.toNat)).drop n) C W1 rfl h1 hC2 hll x h2
  generalize hLL : (l.take (n + k.toNat)).drop n = L at *
  have HL := Aside0.mk hlow
  have HB := Aside0.mk hblk
  clear hA hC hlow hC2 hll hblk
  go_enter Try.func16, Try.ntmps16
  go_wp2_with fail
  go_region
  go_wp2_with fail
  have c0' : W.drew.cell? ⟨R, 0, none⟩ = _ := c0
  have c1' : W.drew.cell? ⟨R, 1, none⟩ = _ := c1
  have HB1 : W.drew.heap[C]? = _ := HB.out
  have HL1 := Kd.C_below HL.out (Below.refl _ _).drew
  have HR1 := HRd.out.below (Below.refl _ _).drew
  have hCs3 : C < W.drew.heap.size := hCs
  have hsz3 : W.drew.drew.heap.size = W.heap.size := rfl
  have hsz3' : W.drew.drew.heap.size = W.heap.size := rfl
  have hk3 : ∀ j : Nat, W.drew.drew.heap[j]? = W.heap[j]? := fun _ => rfl
  generalize W.drew = w3 at *
  go_still_tail 16, (by kernel_rfl)
  change wpList _ _ _ _ _ w3.drew
  go_wp2_with (go_at_call 17; refine (HG _ (Kd.C_below HL1 (Below.refl _ _).drew) HB1).mono ?_; rintro e w2 ⟨rfl, v2, w1, rfl, hv2, hb2⟩; have h4 := (HR1.below (Below.refl _ _).drew).below hb2; have hblk4 := (hb2.block C hCs3).trans HB1; have h5 := h4.got hblk4 hCl v2; have d0 := rd_cell h5.blk 0; have d1 := rd_cell h5.blk 1; have d2 := rd_free h5.blk 1; simp at d0 d1; have h6 := h5.set (n + k.toNat); rw [HCs.out] at h6)
  go_ret
  have hne : R ≠ C := fun e => by
    subst e
    have := hblk4.symm.trans h4.blk
    simp at this
  rw [hsz3] at hv2
  refine ⟨rfl, v2, HCs.out ▸ h6, ?_, Kd.R_set (Kd.R_set hv2 hblk4 (by intro q hq; simp [Kd.int, Kd.scalar] at hq; subst hq; decide) 0 _) h5.blk (by intro q hq; simp [Kd.int, Kd.scalar] at hq; subst hq; decide) 1 _, h6.hB, ?_, fun j hj h1 h2 => ?_⟩
  · simp [World.setCell, Array.getElem?_modify, hne, hblk4]
  · have := hb2.size
    rw [hsz3'] at this
    simpa [World.setCell] using this
  · exact (Below.heap_setCell _ ⟨R, 1, none⟩ _ j h2).trans ((Below.heap_setCell _ ⟨C, 0, none⟩ _ j h1).trans ((hb2.block j (by rw [hsz3']; exact hj)).trans (hk3 j)))
set_option maxHeartbeats 4000000 in
/-- next, where nothing is read. -/
theorem rd_nextN (w0 : World) (R : Nat) (v : Value) (l : List Int) (n : Nat) (W : World) (h : RdIn w0 R v l n W) (k : Int) (hn : n ≤ l.length) (hl : l.length ≤ 1000000) (hk : k < 0 ∨ (l.length : Int) - (n : Int) < k) (g : Value) :
    Calls Try.prog 16 #[.pointer (some ⟨R, 0, none⟩), .int .i64 k, g] W fun e W' => e = .returned (.int .i64 (if k < 0 then 2 else 5)) ∧ Drawn0 W W' := by
  obtain ⟨A, c, ev, hc, hC⟩ := Kd.R_reads h.hR
  subst ev
  have c0 := rd_cell h.blk 0
  have c1 := rd_cell h.blk 1
  simp at c0 c1
  by_cases q : k < 0
  · have q1 : decide (k < 0) = true := decide_eq_true q
    rw [if_pos q]
    go_enter Try.func16, Try.ntmps16
    go_wp2_with fail
    go_ret
    exact ⟨rfl, Drawn0.refl _⟩
  · have q1 : decide (k < 0) = false := decide_eq_false q
    have q2 : decide ((l.length : Int) - (n : Int) < k) = true := decide_eq_true (by omega)
    rw [if_neg q]
    go_enter Try.func16, Try.ntmps16
    go_wp2_with fail
    go_region
    go_wp2_with fail
    go_ret
    exact ⟨rfl, 1, rfl⟩
/-- What Bytes answers: the error; where it is 0, the bytes. -/
def bytesE (l : List Int) (n : Nat) (k : Int) : Int := if k < 0 then 2 else if (l.length : Int) - (n : Int) < k then 5 else 0
set_option maxHeartbeats 8000000 in
theorem rd_Bytes0 (w0 : World) (R : Nat) (v : Value) (l : List Int) (n : Nat) (W : World) (h : RdIn w0 R v l n W) (k : Int) (hn : n ≤ l.length) (hl : l.length ≤ 1000000) (hk : k < 0 ∨ (l.length : Int) - (n : Int) < k) (E : Int) (hE : E = if k < 0 then 2 else 5) :
    Calls Try.prog 9 #[.pointer (some ⟨R, 0, none⟩), .int .i64 k] W fun e W' => e = .returned (.tuple #[.slice none 0 0, .int .i64 E]) ∧ RdIn w0 R v l n W' ∧ Fr R W W' := by
  have hkk := heap_alloc_new W (.cells #[.slice none 0 0] 22)
  have hba : Below W.heap.size W (W.alloc (.cells #[.slice none 0 0] 22)) := below_alloc (Below.refl _ _) _
  have hle := Nat.le_trans h.hB.size (Nat.le_refl W.heap.size)
  have h1 := h.below hba
  have hN := fun g => rd_nextN w0 R v l n _ h1 k hn hl hk g
  rw [← hE] at hN
  have HK := Aside0.mk hkk
  clear hkk hE hk
  go_enter Try.func9, Try.ntmps9
  go_wp2_with (go_at_call 16; refine (hN _).mono ?_; rintro e w2 ⟨rfl, hd2⟩; have hk2 : w2.heap[W.heap.size]? = some (.cells #[.slice none 0 0] 22 (0, 0)) := by { obtain ⟨d, rfl⟩ := hd2; exact HK.out }; have h2 : RdIn w0 R v l n w2 := by { obtain ⟨d, rfl⟩ := hd2; exact h1.below (pw_below_drewN (Below.refl _ _) _) }; have hb2 : Below W.heap.size W w2 := by { obtain ⟨d, rfl⟩ := hd2; exact pw_below_drewN hba _ }; clear hd2; have cc := cell_of_one hk2; have cf := free_of_one hk2)
  have hk3 := one_setCell (u := .slice none 0 0) hk2
  have c3 := cell_of_one hk3
  refine bodyPost_ret (by simp [results, Try.results9, go_sem, c3]; try rfl) rfl ?_
  exact ⟨rfl, h2.got hk2 hle _, Fr.of_below (hb2.setCell (p := ⟨W.heap.size, 0, none⟩) (Nat.le_refl _) _)⟩
set_option maxHeartbeats 8000000 in
theorem rd_Bytes1 (w0 : World) (R : Nat) (v : Value) (l : List Int) (n : Nat) (W : World) (h : RdIn w0 R v l n W) (k : Int) (hn : (n : Int) + k ≤ l.length) (hl : l.length ≤ 1000000) (hk : 0 ≤ k) :
    Calls Try.prog 9 #[.pointer (some ⟨R, 0, none⟩), .int .i64 k] W fun e W' => ∃ v2, e = .returned (.tuple #[v2, .int .i64 0]) ∧ RdIn w0 R v l (n + k.toNat) W' ∧ Kd.R (Kd.int .u8) 5 W' W.heap.size (fun _ => True) v2 ((l.take (n + k.toNat)).drop n) ∧ Fr R W W' := by
  have hkk := heap_alloc_new W (.cells #[.slice none 0 0] 22)
  have hba : Below W.heap.size W (W.alloc (.cells #[.slice none 0 0] 22)) := below_alloc (Below.refl _ _) _
  have hle := h.hB.size
  have h1 := h.below hba
  have hN := rd_nextB w0 R v l n _ h1 k hk hn hl W.heap.size hle _ hkk
  have hsz : (W.alloc (.cells #[.slice none 0 0] 22)).heap.size = W.heap.size + 1 := Array.size_push _
  generalize (l.take (n + k.toNat)).drop n = L at *
  generalize n + k.toNat = N at *
  have HS := Aside0.mk hsz
  clear hkk hk hn hl hsz
  go_enter Try.func9, Try.ntmps9
  go_wp2_with (go_at_call 16; refine hN.mono ?_; rintro e w2 ⟨rfl, v2, h2, hk2, hv2, hb2, hs2, hf2⟩; obtain ⟨A2, c2, ev⟩ := Kd.R_slice hv2; subst ev; have cc := cell_of_one hk2; have cf := free_of_one hk2)
  have hk3 := one_setCell (u := .slice A2 L.length c2) hk2
  have c3 := cell_of_one hk3
  refine bodyPost_ret (by simp [results, Try.results9, go_sem, c3]; try rfl) rfl ?_
  rw [HS.out] at hv2
  refine ⟨_, rfl, h2.got hk2 hle _, Kd.R_set (Kd.R_lower hv2 (Nat.le_succ _)) hk2 (by intro q hq; simp [Kd.int, Kd.scalar] at hq; subst hq; decide) 0 _, ?_, fun j hj hne => ?_⟩
  · rw [HS.out] at hs2
    simp [World.setCell]
    omega
  · refine (Below.heap_setCell _ ⟨W.heap.size, 0, none⟩ _ j (by simp only; omega)).trans ((hf2 j (by rw [HS.out]; omega) (by omega) hne).trans (hba.block j hj))

end Go.Proofs.Ytlpibchjcmndjab.P
