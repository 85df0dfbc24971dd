-- Laid by sp.py, a program of this session's, out of the translation and the session's own stand-ins.
import Derived.Test.YtlpibchjcmndjaaPx0
import Derived.Test.YtlpibchjcmndjaaPx5
import Derived.Test.YtlpibchjcmndjaaStasciiAwake
import Derived.Test.YtlpibchjcmndjaaStasciiReader
import Derived.Test.YtlpibchjcmndjaaStasciiBytes
import Derived.Test.YtlpibchjcmndjaaShelf
import Derived.Test.YtlpibchjcmndjaaStasciiBytes
import Derived.StillTailTactics
import Derived.Test.YtlpibchjcmndjaaLineLem
namespace Go.Proofs.Ytlpibchjcmndjaa.P
open Go.RowKit Go.Proofs.YtlpibchjcmndjaaW.PrintWords Go.Proofs.YtlpibchjcmndjaaW.PrintLast Go.Proofs.YtlpibchjcmndjaaW.PrintMore
attribute [local go_sem] max2_int min2_int max_two min_two max_three min_three max_four min_four   -- for this text's walks alone
set_option linter.unusedVariables false
set_option linter.unusedSimpArgs false
set_option linter.unnecessarySimpa false

/-! ### ascii.Reader's Byte and Pair; the reference's reader -/
theorem RdIn.far {w0 : World} {R : Nat} {v : Value} {l : List Int} {n : Nat} {W : World} (h : RdIn w0 R v l n W) {C : Nat} (hRC : C ≠ R) (hne : some C ≠ v.ownBlock) (hl : w0.heap.size ≤ C) (j : Nat) (y : Value) : RdIn w0 R v l n (W.setCell ⟨C, j, none⟩ y) :=
  ⟨h.le, blk_far h.blk (p := ⟨C, j, none⟩) (Ne.symm hRC) y, Kd.R_mono (Kd.R_far (p := ⟨C, j, none⟩) (Kd.R_far1 h.hR rfl hne) (fun k hk => hk.2) y) (fun _ hk => hk.1), h.hB.setCell (p := ⟨C, j, none⟩) hl _⟩
theorem rd_mem (l : List Int) (i : Nat) (h : i < l.length) : rd l (i : Int) ∈ l := by
  unfold rd
  rw [Int.toNat_natCast, List.getD_eq_getElem?_getD, List.getElem?_eq_getElem h]
  exact List.getElem_mem h
theorem rd_mid (l : List Int) (n k i : Nat) (h : i < k) (hl : n + k ≤ l.length) : rd ((l.take (n + k)).drop n) (i : Int) = rd l ((n + i : Nat) : Int) := by
  unfold rd
  rw [Int.toNat_natCast, Int.toNat_natCast, List.getD_eq_getElem?_getD, List.getD_eq_getElem?_getD, List.getElem?_drop, List.getElem?_take_of_lt (by omega)]
theorem rd_bits_or (H b x : Nat) (hH : H < 256) (hb : b ≤ 8) (hx : x < 2 ^ b) : Go.bits .or .i64 ((H * 2 ^ b : Nat) : Int) (x : Int) = ((H * 2 ^ b + x : Nat) : Int) := by
  have hp : 2 ^ b ≤ 2 ^ 8 := Nat.pow_le_pow_right (by omega) hb
  have hl : H * 2 ^ b ≤ 255 * 2 ^ 8 := Nat.mul_le_mul (by omega) hp
  have e : H * 2 ^ b ||| x = H * 2 ^ b + x := by
    rw [Nat.mul_comm]
    exact (Nat.two_pow_add_eq_or_of_lt hx H).symm
  have h1 : (BitVec.ofInt 64 ((H * 2 ^ b : Nat) : Int)).toNat = H * 2 ^ b := by
    rw [BitVec.ofInt_natCast, BitVec.toNat_ofNat]; exact Nat.mod_eq_of_lt (by omega)
  have h2 : (BitVec.ofInt 64 (x : Int)).toNat = x := by
    rw [BitVec.ofInt_natCast, BitVec.toNat_ofNat]; exact Nat.mod_eq_of_lt (by omega)
  show IntKind.i64.wrap ((BitVec.ofInt 64 ((H * 2 ^ b : Nat) : Int) ||| BitVec.ofInt 64 (x : Int)).toNat : Int) = _
  rw [BitVec.toNat_or, h1, h2, e, i64_w]
  unfold wrap64
  omega
theorem pair_bits {a b : Int} (ha : 0 ≤ a ∧ a < 256) (hb : 0 ≤ b ∧ b < 256) : Go.bits .or .i64 (a * 256) b = a * 256 + b := by
  obtain ⟨x, rfl⟩ := Int.eq_ofNat_of_zero_le ha.1
  obtain ⟨y, rfl⟩ := Int.eq_ofNat_of_zero_le hb.1
  have := rd_bits_or x 8 y (by omega) (by omega) (by omega)
  simpa using this
theorem gf_Byte (A : Option Addr) (c k : Nat) (l0 : List Int) (C : Nat) (W : World) (hk : l0.length = k) (h0 : 1 ≤ l0.length) (hb : ∀ x ∈ l0, 0 ≤ x ∧ x < 256) (hC : Kd.C (Kd.int .u8) W A l0.length l0) (v0 : Value) (hblk : W.heap[C]? = some (.cells #[v0] 5 (0, 0))) :
    Calls Try.prog 28 #[.slice A k c, .pointer (some ⟨C, 0, none⟩)] W fun e W' => e = .returned (.tuple #[]) ∧ ∃ W1, Drawn0 W W1 ∧ W' = W1.setCell ⟨C, 0, none⟩ (.int .u8 (rd l0 0)) := by
  subst hk
  have cc := cell_of_one hblk
  have cf := free_of_one hblk
  obtain ⟨b, o, rfl, hcs⟩ := bytesIn_of_C hC (by omega)
  have h1 : W.cell? ⟨b, o, none⟩ = some (.int .u8 (rd l0 0)) := hcs 0 (by omega)
  clear hcs hb
  have q1 : decide (0 < (l0.length : Int)) = true := decide_eq_true (by omega)
  have q2 : 0 < l0.length := by omega
  go_enter Try.func28, Try.ntmps28
  go_wp2_with fail
  go_end0
  exact ⟨rfl, W, Drawn0.refl _, rfl⟩
set_option maxHeartbeats 8000000 in
theorem rd_nextByte (w0 : World) (R : Nat) (v : Value) (l : List Int) (n : Nat) (W : World) (h : RdIn w0 R v l n W) (hn : (n : Int) + 1 ≤ l.length) (hl : l.length ≤ 1000000) (hb : ∀ x ∈ l, 0 ≤ x ∧ x < 256) (C : Nat) (hCl : w0.heap.size ≤ C) (hCR : C ≠ R) (hCv : some C ≠ v.ownBlock) (x : Value) (hblk : W.heap[C]? = some (.cells #[x] 5 (0, 0))) :
    Calls Try.prog 27 #[.pointer (some ⟨R, 0, none⟩), .int .i64 1, .func (.func 28) #[] #[.pointer (some ⟨C, 0, none⟩)]] W fun e W' => e = .returned (.int .i64 0) ∧ RdIn w0 R v l (n + 1) W' ∧ W'.heap[C]? = some (.cells #[.int .u8 (rd l (n : Int))] 5 (0, 0)) ∧ W.heap.size ≤ W'.heap.size ∧ ∀ j, j < W.heap.size → j ≠ C → j ≠ R → W'.heap[j]? = W.heap[j]? := by
  obtain ⟨A, c, ev, hc, hC⟩ := Kd.R_reads h.hR
  have HRd := Aside0.mk h
  have HV := Aside0.mk hCv
  subst ev
  have c0 := rd_cell h.blk 0
  have c1 := rd_cell h.blk 1
  simp at c0 c1
  obtain ⟨i0, hi0, _, hsz, _⟩ := info_parts info5
  have q2 : decide ((l.length : Int) - (n : Int) < 1) = false := decide_eq_false (by omega)
  obtain ⟨A', hcut, hA, hC2⟩ := print_mid_of (P := Try.prog) (Value.int .u8) 0 31 5 .i64 .i64 Try.underlying31 hi0 hsz A c l n ((n : Int) + 1) (by omega) (by omega) hn hc
  have e1 : ((n : Int) + 1).toNat = n + 1 := by omega
  have e2 : IntKind.i64.wrap ((n : Int) + 1) = (n : Int) + 1 := by
    simp only [IntKind.wrap, IntKind.bits, IntKind.signed]
    simp
    omega
  have HCs := Aside0.mk (show ((n + 1 : Nat) : Int) = (n : Int) + 1 by omega)
  have hCs : C < W.heap.size := (Array.getElem?_eq_some_iff.1 hblk).1
  rw [Int.toNat_natCast, e1] at hcut hA hC2
  have hlow := Kd.C_of_reads (d := (0 : Int)) (h1 := fun _ => rfl) (hA W (Kd.reads_of_C hC))
  have hll : 1 ≤ ((l.take (n + 1)).drop n).length := by rw [List.length_drop, List.length_take]; omega
  have hbb : ∀ x ∈ (l.take (n + 1)).drop n, 0 ≤ x ∧ x < 256 := fun x hx => hb x (List.mem_of_mem_take (List.mem_of_mem_drop hx))
  have HG := fun (W1 : World) h1 h2 => gf_Byte A' (c - n) _ ((l.take (n + 1)).drop n) C W1 rfl hll hbb h1 x h2
  have hr0 := Aside0.mk (show rd ((l.take (n + 1)).drop n) 0 = rd l (n : Int) from rd_mid l n 1 0 (by omega) (by omega))
  generalize hLL : (l.take (n + 1)).drop n = L at *
  have HL := Aside0.mk hlow
  have HB := Aside0.mk hblk
  clear hA hC hlow hC2 hll hblk hb hbb
  go_enter Try.func27, Try.ntmps27
  go_wp2_with fail
  go_region
  go_wp2_with fail
  have c0' : W.drew.cell? ⟨R, 0, none⟩ = _ := c0
  have c1' : W.drew.cell? ⟨R, 1, none⟩ = _ := c1
  have HB1 : W.drew.heap[C]? = _ := HB.out
  have HL1 := Kd.C_below HL.out (Below.refl _ _).drew
  have HR1 := HRd.out.below (Below.refl _ _).drew
  have hCs3 : C < W.drew.heap.size := hCs
  have hsz3 : W.drew.drew.heap.size = W.heap.size := rfl
  have hk3 : ∀ j : Nat, W.drew.drew.heap[j]? = W.heap[j]? := fun _ => rfl
  generalize W.drew = w3 at *
  go_still_tail 16, (by kernel_rfl)
  change wpList _ _ _ _ _ w3.drew
  go_wp2_with (go_at_call 28; refine (HG _ (Kd.C_below HL1 (Below.refl _ _).drew) HB1).mono ?_; rintro e w2 ⟨rfl, w1, hd1, rfl⟩; have hb2 := hd1.below; have h4 := (HR1.below (Below.refl _ _).drew).below hb2; have hblk4 := (hb2.block C hCs3).trans HB1; have h5 := h4.far hCR HV.out hCl 0 (.int .u8 (rd L 0)); have d0 := rd_cell h5.blk 0; have d1 := rd_cell h5.blk 1; have d2 := rd_free h5.blk 1; simp at d0 d1; have h6 := h5.set (n + 1); rw [HCs.out] at h6)
  go_ret
  refine ⟨rfl, HCs.out ▸ h6, ?_, ?_, fun j hj h1 h2 => ?_⟩
  · rw [← hr0.out]
    exact blk_far (one_setCell hblk4) (p := ⟨R, 1, none⟩) hCR _
  · have := hb2.size
    rw [hsz3] at this
    simpa [World.setCell] using this
  · exact (Below.heap_setCell _ ⟨R, 1, none⟩ _ j h2).trans ((Below.heap_setCell _ ⟨C, 0, none⟩ _ j h1).trans ((hb2.block j (by rw [hsz3]; exact hj)).trans (hk3 j)))
set_option maxHeartbeats 8000000 in
theorem rd_Byte0 (w0 : World) (R : Nat) (v : Value) (l : List Int) (n : Nat) (W : World) (h : RdIn w0 R v l n W) (hn : n ≤ l.length) (hl : l.length ≤ 1000000) (hk : (l.length : Int) - (n : Int) < 1) :
    Calls Try.prog 13 #[.pointer (some ⟨R, 0, none⟩)] W fun e W' => e = .returned (.tuple #[.int .u8 0, .int .i64 5]) ∧ RdIn w0 R v l n W' ∧ Fr R W W' := by
  have hkk := heap_alloc_new W (.cells #[.int .u8 0] 5)
  have hba : Below W.heap.size W (W.alloc (.cells #[.int .u8 0] 5)) := below_alloc (Below.refl _ _) _
  have hle := Nat.le_trans h.hB.size (Nat.le_refl W.heap.size)
  have h1 := h.below hba
  have hCR : W.heap.size ≠ R := by have := (Array.getElem?_eq_some_iff.1 h.blk).1; omega
  have hCv : some W.heap.size ≠ v.ownBlock := fun e => by have := Kd.R_lt h.hR _ e.symm; omega
  have hN := fun g => rd_nextN w0 R v l n _ h1 1 hn hl (.inr hk) g
  rw [if_neg (by decide)] at hN
  have HK := Aside0.mk hkk
  clear hkk hk
  go_enter Try.func13, Try.ntmps13
  go_wp2_with (go_at_call 27; refine (hN _).mono ?_; rintro e w2 ⟨rfl, hd2⟩; have hk2 : w2.heap[W.heap.size]? = some (.cells #[.int .u8 0] 5 (0, 0)) := by { obtain ⟨d, rfl⟩ := hd2; exact HK.out }; have h2 : RdIn w0 R v l n w2 := by { obtain ⟨d, rfl⟩ := hd2; exact h1.below (pw_below_drewN (Below.refl _ _) _) }; have hb2 : Below W.heap.size W w2 := by { obtain ⟨d, rfl⟩ := hd2; exact pw_below_drewN hba _ }; clear hd2; have cc := cell_of_one hk2; have cf := free_of_one hk2)
  have hk3 := one_setCell (u := .int .u8 0) hk2
  have c3 := cell_of_one hk3
  refine bodyPost_ret (by simp [results, Try.results13, go_sem, c3]; try rfl) rfl ?_
  exact ⟨rfl, h2.far hCR hCv hle 0 _, Fr.of_below (hb2.setCell (p := ⟨W.heap.size, 0, none⟩) (Nat.le_refl _) _)⟩
set_option maxHeartbeats 8000000 in
theorem rd_Byte1 (w0 : World) (R : Nat) (v : Value) (l : List Int) (n : Nat) (W : World) (h : RdIn w0 R v l n W) (hn : (n : Int) + 1 ≤ l.length) (hl : l.length ≤ 1000000) (hb : ∀ x ∈ l, 0 ≤ x ∧ x < 256) :
    Calls Try.prog 13 #[.pointer (some ⟨R, 0, none⟩)] W fun e W' => e = .returned (.tuple #[.int .u8 (rd l (n : Int)), .int .i64 0]) ∧ RdIn w0 R v l (n + 1) W' ∧ Fr R W W' := by
  have hkk := heap_alloc_new W (.cells #[.int .u8 0] 5)
  have hba : Below W.heap.size W (W.alloc (.cells #[.int .u8 0] 5)) := below_alloc (Below.refl _ _) _
  have hle := h.hB.size
  have h1 := h.below hba
  have hCR : W.heap.size ≠ R := by have := (Array.getElem?_eq_some_iff.1 h.blk).1; omega
  have hCv : some W.heap.size ≠ v.ownBlock := fun e => by have := Kd.R_lt h.hR _ e.symm; omega
  have hN := rd_nextByte w0 R v l n _ h1 hn hl hb W.heap.size hle hCR hCv _ hkk
  have hsz : (W.alloc (.cells #[.int .u8 0] 5)).heap.size = W.heap.size + 1 := Array.size_push _
  have HS := Aside0.mk hsz
  obtain ⟨V, hV⟩ : ∃ V : Int, V = (rd l (n : Int)) := ⟨_, rfl⟩
  rw [← hV] at hN ⊢
  clear hkk hn hl hsz hb hV
  go_enter Try.func13, Try.ntmps13
  go_wp2_with (go_at_call 27; refine hN.mono ?_; rintro e w2 ⟨rfl, h2, hk2, hs2, hf2⟩; have cc := cell_of_one hk2; have cf := free_of_one hk2)
  have hk3 := one_setCell (u := .int .u8 V) hk2
  have c3 := cell_of_one hk3
  refine bodyPost_ret (by simp [results, Try.results13, go_sem, c3]; try rfl) rfl ?_
  refine ⟨rfl, h2.far hCR hCv hle 0 _, ?_, fun j hj hne => ?_⟩
  · rw [HS.out] at hs2
    simp [World.setCell]
    omega
  · refine (Below.heap_setCell _ ⟨W.heap.size, 0, none⟩ _ j (by simp only; omega)).trans ((hf2 j (by rw [HS.out]; omega) (by omega) hne).trans (hba.block j hj))
theorem gf_Pair (A : Option Addr) (c k : Nat) (l0 : List Int) (C : Nat) (W : World) (hk : l0.length = k) (h0 : 2 ≤ l0.length) (hb : ∀ x ∈ l0, 0 ≤ x ∧ x < 256) (hC : Kd.C (Kd.int .u8) W A l0.length l0) (v0 : Value) (hblk : W.heap[C]? = some (.cells #[v0] 3 (0, 0))) :
    Calls Try.prog 29 #[.slice A k c, .pointer (some ⟨C, 0, none⟩)] W fun e W' => e = .returned (.tuple #[]) ∧ ∃ W1, Drawn0 W W1 ∧ W' = W1.setCell ⟨C, 0, none⟩ (.int .i64 (rd l0 0 * 256 + rd l0 1)) := by
  subst hk
  have cc := cell_of_one hblk
  have cf := free_of_one hblk
  obtain ⟨b, o, rfl, hcs⟩ := bytesIn_of_C hC (by omega)
  have h1 : W.cell? ⟨b, o, none⟩ = some (.int .u8 (rd l0 0)) := hcs 0 (by omega)
  have h2 : W.cell? ⟨b, o + 1, none⟩ = some (.int .u8 (rd l0 1)) := hcs 1 (by omega)
  clear hcs
  have q2 : 0 < l0.length := by omega
  have q3 : 1 < l0.length := by omega
  have r0 : 0 ≤ rd l0 0 ∧ rd l0 0 < 256 := hb _ (rd_mem l0 0 (by omega))
  have r1 : 0 ≤ rd l0 1 ∧ rd l0 1 < 256 := hb _ (rd_mem l0 1 (by omega))
  have hsh := Aside0.mk (pair_bits r0 r1)
  generalize rd l0 0 = x0 at *
  generalize rd l0 1 = x1 at *
  clear hb
  go_enter Try.func29, Try.ntmps29
  go_wp2_with fail
  go_region
  go_end0
  exact ⟨rfl, W.drew, ⟨1, rfl⟩, by rw [hsh.out]; rfl⟩
set_option maxHeartbeats 8000000 in
theorem rd_nextPair (w0 : World) (R : Nat) (v : Value) (l : List Int) (n : Nat) (W : World) (h : RdIn w0 R v l n W) (hn : (n : Int) + 2 ≤ l.length) (hl : l.length ≤ 1000000) (hb : ∀ x ∈ l, 0 ≤ x ∧ x < 256) (C : Nat) (hCl : w0.heap.size ≤ C) (hCR : C ≠ R) (hCv : some C ≠ v.ownBlock) (x : Value) (hblk : W.heap[C]? = some (.cells #[x] 3 (0, 0))) :
    Calls Try.prog 27 #[.pointer (some ⟨R, 0, none⟩), .int .i64 2, .func (.func 29) #[] #[.pointer (some ⟨C, 0, none⟩)]] W fun e W' => e = .returned (.int .i64 0) ∧ RdIn w0 R v l (n + 2) W' ∧ W'.heap[C]? = some (.cells #[.int .i64 (rd l (n : Int) * 256 + rd l ((n + 1 : Nat) : Int))] 3 (0, 0)) ∧ W.heap.size ≤ W'.heap.size ∧ ∀ j, j < W.heap.size → j ≠ C → j ≠ R → W'.heap[j]? = W.heap[j]? := by
  obtain ⟨A, c, ev, hc, hC⟩ := Kd.R_reads h.hR
  have HRd := Aside0.mk h
  have HV := Aside0.mk hCv
  subst ev
  have c0 := rd_cell h.blk 0
  have c1 := rd_cell h.blk 1
  simp at c0 c1
  obtain ⟨i0, hi0, _, hsz, _⟩ := info_parts info5
  have q2 : decide ((l.length : Int) - (n : Int) < 2) = false := decide_eq_false (by omega)
  obtain ⟨A', hcut, hA, hC2⟩ := print_mid_of (P := Try.prog) (Value.int .u8) 0 31 5 .i64 .i64 Try.underlying31 hi0 hsz A c l n ((n : Int) + 2) (by omega) (by omega) hn hc
  have e1 : ((n : Int) + 2).toNat = n + 2 := by omega
  have e2 : IntKind.i64.wrap ((n : Int) + 2) = (n : Int) + 2 := by
    simp only [IntKind.wrap, IntKind.bits, IntKind.signed]
    simp
    omega
  have HCs := Aside0.mk (show ((n + 2 : Nat) : Int) = (n : Int) + 2 by omega)
  have hCs : C < W.heap.size := (Array.getElem?_eq_some_iff.1 hblk).1
  rw [Int.toNat_natCast, e1] at hcut hA hC2
  have hlow := Kd.C_of_reads (d := (0 : Int)) (h1 := fun _ => rfl) (hA W (Kd.reads_of_C hC))
  have hll : 2 ≤ ((l.take (n + 2)).drop n).length := by rw [List.length_drop, List.length_take]; omega
  have hbb : ∀ x ∈ (l.take (n + 2)).drop n, 0 ≤ x ∧ x < 256 := fun x hx => hb x (List.mem_of_mem_take (List.mem_of_mem_drop hx))
  have HG := fun (W1 : World) h1 h2 => gf_Pair A' (c - n) _ ((l.take (n + 2)).drop n) C W1 rfl hll hbb h1 x h2
  have hr0 := Aside0.mk (show rd ((l.take (n + 2)).drop n) 0 = rd l (n : Int) from rd_mid l n 2 0 (by omega) (by omega))
  have hr1 := Aside0.mk (show rd ((l.take (n + 2)).drop n) 1 = rd l ((n + 1 : Nat) : Int) from rd_mid l n 2 1 (by omega) (by omega))
  generalize hLL : (l.take (n + 2)).drop n = L at *
  have HL := Aside0.mk hlow
  have HB := Aside0.mk hblk
  clear hA hC hlow hC2 hll hblk hb hbb
  go_enter Try.func27, Try.ntmps27
  go_wp2_with fail
  go_region
  go_wp2_with fail
  have c0' : W.drew.cell? ⟨R, 0, none⟩ = _ := c0
  have c1' : W.drew.cell? ⟨R, 1, none⟩ = _ := c1
  have HB1 : W.drew.heap[C]? = _ := HB.out
  have HL1 := Kd.C_below HL.out (Below.refl _ _).drew
  have HR1 := HRd.out.below (Below.refl _ _).drew
  have hCs3 : C < W.drew.heap.size := hCs
  have hsz3 : W.drew.drew.heap.size = W.heap.size := rfl
  have hk3 : ∀ j : Nat, W.drew.drew.heap[j]? = W.heap[j]? := fun _ => rfl
  generalize W.drew = w3 at *
  go_still_tail 16, (by kernel_rfl)
  change wpList _ _ _ _ _ w3.drew
  go_wp2_with (go_at_call 29; refine (HG _ (Kd.C_below HL1 (Below.refl _ _).drew) HB1).mono ?_; rintro e w2 ⟨rfl, w1, hd1, rfl⟩; have hb2 := hd1.below; have h4 := (HR1.below (Below.refl _ _).drew).below hb2; have hblk4 := (hb2.block C hCs3).trans HB1; have h5 := h4.far hCR HV.out hCl 0 (.int .i64 (rd L 0 * 256 + rd L 1)); have d0 := rd_cell h5.blk 0; have d1 := rd_cell h5.blk 1; have d2 := rd_free h5.blk 1; simp at d0 d1; have h6 := h5.set (n + 2); rw [HCs.out] at h6)
  go_ret
  refine ⟨rfl, HCs.out ▸ h6, ?_, ?_, fun j hj h1 h2 => ?_⟩
  · rw [← hr0.out, ← hr1.out]
    exact blk_far (one_setCell hblk4) (p := ⟨R, 1, none⟩) hCR _
  · have := hb2.size
    rw [hsz3] at this
    simpa [World.setCell] using this
  · exact (Below.heap_setCell _ ⟨R, 1, none⟩ _ j h2).trans ((Below.heap_setCell _ ⟨C, 0, none⟩ _ j h1).trans ((hb2.block j (by rw [hsz3]; exact hj)).trans (hk3 j)))
set_option maxHeartbeats 8000000 in
theorem rd_Pair0 (w0 : World) (R : Nat) (v : Value) (l : List Int) (n : Nat) (W : World) (h : RdIn w0 R v l n W) (hn : n ≤ l.length) (hl : l.length ≤ 1000000) (hk : (l.length : Int) - (n : Int) < 2) :
    Calls Try.prog 14 #[.pointer (some ⟨R, 0, none⟩)] W fun e W' => e = .returned (.tuple #[.int .i64 0, .int .i64 5]) ∧ RdIn w0 R v l n W' ∧ Fr R W W' := by
  have hkk := heap_alloc_new W (.cells #[.int .i64 0] 3)
  have hba : Below W.heap.size W (W.alloc (.cells #[.int .i64 0] 3)) := below_alloc (Below.refl _ _) _
  have hle := Nat.le_trans h.hB.size (Nat.le_refl W.heap.size)
  have h1 := h.below hba
  have hCR : W.heap.size ≠ R := by have := (Array.getElem?_eq_some_iff.1 h.blk).1; omega
  have hCv : some W.heap.size ≠ v.ownBlock := fun e => by have := Kd.R_lt h.hR _ e.symm; omega
  have hN := fun g => rd_nextN w0 R v l n _ h1 2 hn hl (.inr hk) g
  rw [if_neg (by decide)] at hN
  have HK := Aside0.mk hkk
  clear hkk hk
  go_enter Try.func14, Try.ntmps14
  go_wp2_with (go_at_call 27; refine (hN _).mono ?_; rintro e w2 ⟨rfl, hd2⟩; have hk2 : w2.heap[W.heap.size]? = some (.cells #[.int .i64 0] 3 (0, 0)) := by { obtain ⟨d, rfl⟩ := hd2; exact HK.out }; have h2 : RdIn w0 R v l n w2 := by { obtain ⟨d, rfl⟩ := hd2; exact h1.below (pw_below_drewN (Below.refl _ _) _) }; have hb2 : Below W.heap.size W w2 := by { obtain ⟨d, rfl⟩ := hd2; exact pw_below_drewN hba _ }; clear hd2; have cc := cell_of_one hk2; have cf := free_of_one hk2)
  have hk3 := one_setCell (u := .int .i64 0) hk2
  have c3 := cell_of_one hk3
  refine bodyPost_ret (by simp [results, Try.results14, go_sem, c3]; try rfl) rfl ?_
  exact ⟨rfl, h2.far hCR hCv hle 0 _, Fr.of_below (hb2.setCell (p := ⟨W.heap.size, 0, none⟩) (Nat.le_refl _) _)⟩
set_option maxHeartbeats 8000000 in
theorem rd_Pair1 (w0 : World) (R : Nat) (v : Value) (l : List Int) (n : Nat) (W : World) (h : RdIn w0 R v l n W) (hn : (n : Int) + 2 ≤ l.length) (hl : l.length ≤ 1000000) (hb : ∀ x ∈ l, 0 ≤ x ∧ x < 256) :
    Calls Try.prog 14 #[.pointer (some ⟨R, 0, none⟩)] W fun e W' => e = .returned (.tuple #[.int .i64 (rd l (n : Int) * 256 + rd l ((n + 1 : Nat) : Int)), .int .i64 0]) ∧ RdIn w0 R v l (n + 2) W' ∧ Fr R W W' := by
  have hkk := heap_alloc_new W (.cells #[.int .i64 0] 3)
  have hba : Below W.heap.size W (W.alloc (.cells #[.int .i64 0] 3)) := below_alloc (Below.refl _ _) _
  have hle := h.hB.size
  have h1 := h.below hba
  have hCR : W.heap.size ≠ R := by have := (Array.getElem?_eq_some_iff.1 h.blk).1; omega
  have hCv : some W.heap.size ≠ v.ownBlock := fun e => by have := Kd.R_lt h.hR _ e.symm; omega
  have hN := rd_nextPair w0 R v l n _ h1 hn hl hb W.heap.size hle hCR hCv _ hkk
  have hsz : (W.alloc (.cells #[.int .i64 0] 3)).heap.size = W.heap.size + 1 := Array.size_push _
  have HS := Aside0.mk hsz
  obtain ⟨V, hV⟩ : ∃ V : Int, V = (rd l (n : Int) * 256 + rd l ((n + 1 : Nat) : Int)) := ⟨_, rfl⟩
  rw [← hV] at hN ⊢
  clear hkk hn hl hsz hb hV
  go_enter Try.func14, Try.ntmps14
  go_wp2_with (go_at_call 27; refine hN.mono ?_; rintro e w2 ⟨rfl, h2, hk2, hs2, hf2⟩; have cc := cell_of_one hk2; have cf := free_of_one hk2)
  have hk3 := one_setCell (u := .int .i64 V) hk2
  have c3 := cell_of_one hk3
  refine bodyPost_ret (by simp [results, Try.results14, go_sem, c3]; try rfl) rfl ?_
  refine ⟨rfl, h2.far hCR hCv hle 0 _, ?_, fun j hj hne => ?_⟩
  · rw [HS.out] at hs2
    simp [World.setCell]
    omega
  · refine (Below.heap_setCell _ ⟨W.heap.size, 0, none⟩ _ j (by simp only; omega)).trans ((hf2 j (by rw [HS.out]; omega) (by omega) hne).trans (hba.block j hj))

/-! #### the reference's reader -/
/-- A reader of the reference's: its bytes and how many were read. -/
structure MdIn (w0 : World) (R : Nat) (v : Value) (l : List Int) (n : Nat) (W : World) : Prop where
  le : w0.heap.size ≤ R
  blk : W.heap[R]? = some (.cells #[v, .int .i64 (n : Int)] 43 (0, 0))
  hR : Kd.R (Kd.int .u8) 5 W w0.heap.size (fun _ => True) v l
  hB : Below w0.heap.size w0 W
theorem MdIn.below {w0 : World} {R : Nat} {v : Value} {l : List Int} {n : Nat} {W W' : World} (h : MdIn w0 R v l n W) (hb : Below W.heap.size W W') : MdIn w0 R v l n W' :=
  ⟨h.le, (hb.block R (Array.getElem?_eq_some_iff.1 h.blk).1).trans h.blk, Kd.R_below h.hR hb, h.hB.trans ⟨hb.os, hb.tape, hb.output, hb.size, fun j hj => hb.block j (Nat.lt_of_lt_of_le hj h.hB.size)⟩⟩
theorem MdIn.set {w0 : World} {R : Nat} {v : Value} {l : List Int} {n : Nat} {W : World} (h : MdIn w0 R v l n W) (n2 : Nat) : MdIn w0 R v l n2 (W.setCell ⟨R, 1, none⟩ (.int .i64 (n2 : Int))) := by
  refine ⟨h.le, ?_, Kd.R_set h.hR h.blk (by intro q hq; simp [Kd.int, Kd.scalar] at hq; subst hq; decide) 1 _, h.hB.setCell (p := ⟨R, 1, none⟩) h.le _⟩
  simp [World.setCell, Array.getElem?_modify, h.blk]
theorem MdIn.far {w0 : World} {R : Nat} {v : Value} {l : List Int} {n : Nat} {W : World} (h : MdIn w0 R v l n W) {C : Nat} (hRC : C ≠ R) (hne : some C ≠ v.ownBlock) (hl : w0.heap.size ≤ C) (j : Nat) (y : Value) : MdIn w0 R v l n (W.setCell ⟨C, j, none⟩ y) :=
  ⟨h.le, blk_far h.blk (p := ⟨C, j, none⟩) (Ne.symm hRC) y, Kd.R_mono (Kd.R_far (p := ⟨C, j, none⟩) (Kd.R_far1 h.hR rfl hne) (fun k hk => hk.2) y) (fun _ hk => hk.1), h.hB.setCell (p := ⟨C, j, none⟩) hl _⟩
set_option maxHeartbeats 8000000 in
theorem md_Bytes0 (w0 : World) (R : Nat) (v : Value) (l : List Int) (n : Nat) (W : World) (h : MdIn w0 R v l n W) (k : Int) (hn : n ≤ l.length) (hl : l.length ≤ 1000000) (hk : k < 0 ∨ (l.length : Int) - (n : Int) < k) (E : Int) (hE : E = if k < 0 then 2 else 5) :
    Calls Try.prog 34 #[.pointer (some ⟨R, 0, none⟩), .int .i64 k] W fun e W' => e = .returned (.tuple #[.slice none 0 0, .int .i64 E]) ∧ Drawn0 W W' := by
  obtain ⟨A, c, ev, hc, hC⟩ := Kd.R_reads h.hR
  subst ev
  have c0 := rd_cell h.blk 0
  have c1 := rd_cell h.blk 1
  simp at c0 c1
  by_cases q : k < 0
  · have q1 : decide (k < 0) = true := decide_eq_true q
    rw [if_pos q] at hE
    subst hE
    go_enter Try.func34, Try.ntmps34
    go_wp2_with fail
    go_ret2
    exact ⟨rfl, Drawn0.refl _⟩
  · have q1 : decide (k < 0) = false := decide_eq_false q
    have q2 : decide ((l.length : Int) - (n : Int) < k) = true := decide_eq_true (by omega)
    rw [if_neg q] at hE
    subst hE
    go_enter Try.func34, Try.ntmps34
    go_wp2_with fail
    go_region
    go_wp2_with fail
    go_ret2
    exact ⟨rfl, 1, rfl⟩
set_option maxHeartbeats 8000000 in
theorem md_Bytes1 (w0 : World) (R : Nat) (v : Value) (l : List Int) (n : Nat) (W : World) (h : MdIn w0 R v l n W) (k : Int) (hk : 0 ≤ k) (hn : (n : Int) + k ≤ l.length) (hl : l.length ≤ 1000000) :
    Calls Try.prog 34 #[.pointer (some ⟨R, 0, none⟩), .int .i64 k] W fun e W' => ∃ v2, e = .returned (.tuple #[v2, .int .i64 0]) ∧ MdIn w0 R v l (n + k.toNat) W' ∧ Kd.R (Kd.int .u8) 5 W' W.heap.size (fun _ => True) v2 ((l.take (n + k.toNat)).drop n) ∧ Fr R W W' := by
  obtain ⟨A, c, ev, hc, hC⟩ := Kd.R_reads h.hR
  subst ev
  have HRd := Aside0.mk h
  have c0 := rd_cell h.blk 0
  have c1 := rd_cell h.blk 1
  simp at c0 c1
  obtain ⟨i0, hi0, _, hsz, _⟩ := info_parts info5
  have q1 : decide (k < 0) = false := decide_eq_false (by omega)
  have q2 : decide ((l.length : Int) - (n : Int) < k) = false := decide_eq_false (by omega)
  obtain ⟨A', hcut, hA, hC2⟩ := print_mid_of (P := Try.prog) (Value.int .u8) 0 31 5 .i64 .i64 Try.underlying31 hi0 hsz A c l n ((n : Int) + k) (by omega) (by omega) hn hc
  have e1 : ((n : Int) + k).toNat = n + k.toNat := by omega
  have e2 : IntKind.i64.wrap ((n : Int) + k) = (n : Int) + k := by
    simp only [IntKind.wrap, IntKind.bits, IntKind.signed]
    simp
    omega
  have HCs := Aside0.mk (show ((n + k.toNat : Nat) : Int) = (n : Int) + k by omega)
  rw [Int.toNat_natCast, e1] at hcut hA hC2
  have hlow := Kd.C_of_reads (d := (0 : Int)) (h1 := fun _ => rfl) (hA W (Kd.reads_of_C hC))
  have hll : ((l.take (n + k.toNat)).drop n).length ≤ 1000000 := by rw [List.length_drop, List.length_take]; omega
  have HG := fun (W1 : World) h1 => postilionref01_Copy.calls A' (c - n) ((l.take (n + k.toNat)).drop n) ((l.take (n + k.toNat)).drop n) W1 h1 hC2 (by unfold postilionref01_Copy.f; rw [if_pos (by simp only [List.length_nil]; omega)]; rfl)
  generalize hLL : (l.take (n + k.toNat)).drop n = L at *
  have HL := Aside0.mk hlow
  clear hA hC hlow hC2 hll
  go_enter Try.func34, Try.ntmps34
  go_wp2_with fail
  go_region
  go_wp2_with fail
  have c0' : W.drew.cell? ⟨R, 0, none⟩ = _ := c0
  have c1' : W.drew.cell? ⟨R, 1, none⟩ = _ := c1
  have HL1 := Kd.C_below HL.out (Below.refl _ _).drew
  have HR1 := HRd.out.below (Below.refl _ _).drew
  have hsz3 : W.drew.drew.heap.size = W.heap.size := rfl
  have hk3 : ∀ j : Nat, W.drew.drew.heap[j]? = W.heap[j]? := fun _ => rfl
  generalize W.drew = w3 at *
  go_still_tail 15, (by kernel_rfl)
  change wpList _ _ _ _ _ w3.drew
  go_wp2_with (go_at_call 19; refine (HG _ (Kd.C_below HL1 (Below.refl _ _).drew)).mono ?_; rintro e w2 ⟨v2, rfl, hv2, hb2⟩; obtain ⟨A2, c2, ev⟩ := Kd.R_slice hv2; subst ev; have h5 := (HR1.below (Below.refl _ _).drew).below hb2; have d0 := rd_cell h5.blk 0; have d1 := rd_cell h5.blk 1; have d2 := rd_free h5.blk 1; simp at d0 d1; have h6 := h5.set (n + k.toNat); rw [HCs.out] at h6)
  go_ret2
  rw [hsz3] at hv2
  refine ⟨_, rfl, HCs.out ▸ h6, Kd.R_set hv2 h5.blk (by intro q hq; simp [Kd.int, Kd.scalar] at hq; subst hq; decide) 1 _, ?_, fun j hj h2 => ?_⟩
  · have := hb2.size
    rw [hsz3] at this
    simpa [World.setCell] using this
  · exact (Below.heap_setCell _ ⟨R, 1, none⟩ _ j h2).trans ((hb2.block j (by rw [hsz3]; exact hj)).trans (hk3 j))

open Go.Proofs.Ytlpibchjcmndjaa.Pure in
set_option maxRecDepth 100000 in
set_option maxHeartbeats 16000000 in
theorem md_Line (w0 : World) (R : Nat) (v : Value) (l : List Int) (n : Nat) (W : World) (h : MdIn w0 R v l n W) (most : Int) (hn : n ≤ l.length) (hl : l.length ≤ 1000000) (hb : ∀ x ∈ l, 0 ≤ x ∧ x < 256) (s : ByteArray) (er : Int) (n2 : Nat) (hS : lineS l n most = (s, er, n2)) :
    Calls Try.prog 35 #[.pointer (some ⟨R, 0, none⟩), .int .i64 most] W fun e W' => e = .returned (.tuple #[.string s, .int .i64 er]) ∧ MdIn w0 R v l n2 W' ∧ Fr R W W' := by
  obtain ⟨A, c, ev, hc, hC⟩ := Kd.R_reads h.hR
  subst ev
  have HRd := Aside0.mk h
  have HS := Aside0.mk hS
  have HB := Aside0.mk hb
  have c0 := rd_cell h.blk 0
  have c1 := rd_cell h.blk 1
  simp at c0 c1
  clear hS hb
  by_cases hm0 : most < 0
  · have q1 : decide (most < 0) = true := decide_eq_true hm0
    have e := HS.out
    rw [line_bad hm0] at e
    obtain ⟨rfl, rfl, rfl⟩ : (⟨#[]⟩ : ByteArray) = s ∧ (2 : Int) = er ∧ n = n2 := by simpa using e
    go_enter Try.func35, Try.ntmps35
    go_wp2_with fail
    go_ret2
    exact ⟨rfl, HRd.out, Fr.of_below (Below.refl _ _)⟩
  have q1 : decide (most < 0) = false := decide_eq_false hm0
  go_enter Try.func35, Try.ntmps35
  go_wp2_with fail
  go_loop [6] (fun v6 => ∃ i : Nat, n ≤ i ∧ i ≤ l.length ∧ v6 = .int .i64 (i : Int) ∧ Aside0 (LnOk l n most i)) (fun v6 => l.length - (intOf v6).toNat)
  case atStart => exact ⟨n, Nat.le_refl _, hn, rfl, ⟨LnOk.start _ _ _⟩⟩
  case round =>
    obtain ⟨i, hni, hi, rfl, hK⟩ := hrel
    by_cases hlt : i < l.length
    · have d0 : decide ((i : Int) < (l.length : Int)) = true := decide_eq_true (by omega)
      have p0 : (i < l.length) = True := eq_true hlt
      obtain ⟨b, o, rfl, hcs⟩ := bytesIn_of_C hC (by omega)
      have hx : W.cell? ⟨b, o + i, none⟩ = some (.int .u8 (l.getD i 0)) := hcs i hlt
      have gx : l[i]? = some (l.getD i 0) := by rw [List.getD_eq_getElem?_getD, List.getElem?_eq_getElem hlt]; rfl
      generalize l.getD i 0 = x at hx gx
      have HX := Aside0.mk gx
      have HCS := Aside0.mk hcs
      clear gx hcs
      by_cases e13 : x = 13
      · subst e13
        by_cases e1 : i + 1 = l.length
        · have d1 : decide ((i : Int) + 1 < (l.length : Int)) = false := decide_eq_false (by omega)
          have d2 : (((i : Int) + 1) == (l.length : Int)) = true := beq_iff_eq.mpr (by omega)
          have d3 : decide (i + 1 < l.length) = false := decide_eq_false (by omega)
          have np : ¬ pairAt l i := fun hq => by have := (List.getElem?_eq_some_iff.1 hq.2).1; omega
          have HE := Aside0.mk e1
          clear e1
          by_cases hf : most < (i : Int) - n
          · have d4 : decide (most < (i : Int) - (n : Int)) = true := decide_eq_true hf
            have e := HS.out
            rw [ln_far HB.out hK.out (by omega) hlt hf] at e
            obtain ⟨rfl, rfl, rfl⟩ : (⟨#[]⟩ : ByteArray) = s ∧ (6 : Int) = er ∧ n = n2 := by simpa using e
            clear e np
            go_wp2_with fail
            go_ret2
            exact ⟨rfl, HRd.out, Fr.of_below (Below.refl _ _)⟩
          · have d4 : decide (most < (i : Int) - (n : Int)) = false := decide_eq_false hf
            have nx := Aside0.mk (hK.out.step np (by have := HE.out; by_cases c : (i : Int) - n < most; exact .inl c; exact .inr ⟨by omega, HE.out, HX.out⟩))
            clear np hf
            go_wp2_with fail
            all_goals
              go_round
              case rel => exact ⟨i + 1, by omega, by omega, by go_num, nx⟩
              case measure => simp only [intOf]; omega
        · have d1 : decide ((i : Int) + 1 < (l.length : Int)) = true := decide_eq_true (by omega)
          have p1 : (i + 1 < l.length) = True := eq_true (by omega)
          have d2 : (((i : Int) + 1) == (l.length : Int)) = false := beq_eq_false_iff_ne.mpr (by omega)
          have hy : W.cell? ⟨b, o + (i + 1), none⟩ = some (.int .u8 (l.getD (i + 1) 0)) := HCS.out (i + 1) (by omega)
          have gy : l[i + 1]? = some (l.getD (i + 1) 0) := by rw [List.getD_eq_getElem?_getD, List.getElem?_eq_getElem (by omega)]; rfl
          generalize l.getD (i + 1) 0 = y at hy gy
          have nm : ¬ (l[i]? = some 13 ∧ i + 1 = l.length) := fun hq => e1 hq.2
          by_cases e10 : y = 10
          · subst e10
            have hp : pairAt l i := ⟨HX.out, gy⟩
            clear gy
            by_cases hf : (i : Int) - n ≤ most
            · have d4 : decide ((i : Int) - (n : Int) ≤ most) = true := decide_eq_true hf
              have e := HS.out
              rw [ln_ok HB.out hK.out hni hp hf] at e
              obtain ⟨rfl, rfl, rfl⟩ : strOfNums ((l.take i).drop n) = s ∧ (0 : Int) = er ∧ i + 2 = n2 := by simpa using e
              obtain ⟨i0, hi0, _, hsz, _⟩ := info_parts info5
              obtain ⟨A', hcut, hA, hC2⟩ := print_mid_of (P := Try.prog) (Value.int .u8) 0 31 5 .i64 .i64 Try.underlying31 hi0 hsz (some ⟨b, o, none⟩) c l n i (by omega) (by omega) (by omega) hc
              rw [Int.toNat_natCast, Int.toNat_natCast] at hcut hA hC2
              have hst := fun W2 (hb2 : Below W.heap.size W W2) => Kd.C_string Try.underlying31 Try.underlying5 Try.underlying9 (c := c - n) (Kd.C_of_reads (d := (0 : Int)) (h1 := fun _ => rfl) (hA W2 (Kd.reads_of_C (Kd.C_below hC hb2))))
              have hst1 := hst W.drew (Below.refl _ _).drew
              have HCs := Aside0.mk (show ((i + 2 : Nat) : Int) = (i : Int) + 2 by omega)
              have h6 := (HRd.out.below (Below.refl _ _).drew).set (i + 2)
              rw [HCs.out] at h6
              have d9 := rd_cell (HRd.out.below (Below.refl _ _).drew).blk 1
              have d8 := rd_free (HRd.out.below (Below.refl _ _).drew).blk 1
              simp at d9
              have hst0 := hst W (Below.refl _ _)
              have hml : ((l.take i).drop n).length = i - n := by rw [List.length_drop, List.length_take]; omega
              rw [hml] at hst0 hst1 hcut
              clear e hst hA hp nm hml
              go_wp2_with fail
              go_region
              go_wp2_with fail
              go_ret2
              exact ⟨rfl, h6, (Fr.of_below (Below.refl _ _).drew).set 1 _⟩
            · have d4 : decide ((i : Int) - (n : Int) ≤ most) = false := decide_eq_false hf
              have d5 : decide (most ≤ (i : Int) - (n : Int)) = true := decide_eq_true (by omega)
              have e := HS.out
              rw [ln_far HB.out hK.out (by omega) hlt (by omega)] at e
              obtain ⟨rfl, rfl, rfl⟩ : (⟨#[]⟩ : ByteArray) = s ∧ (6 : Int) = er ∧ n = n2 := by simpa using e
              clear e hp nm
              go_wp2_with fail
              go_ret2
              exact ⟨rfl, HRd.out, Fr.of_below (Below.refl _ _)⟩
          · have k10 : (y == 10) = false := beq_eq_false_iff_ne.mpr e10
            have np : ¬ pairAt l i := fun hq => by have := gy.symm.trans hq.2; injection this with this; exact e10 this
            clear gy
            by_cases hf : most ≤ (i : Int) - n
            · have d4 : decide (most ≤ (i : Int) - (n : Int)) = true := decide_eq_true hf
              have e := HS.out
              rw [ln_form HB.out hK.out hni (by omega) hlt hf np nm] at e
              obtain ⟨rfl, rfl, rfl⟩ : (⟨#[]⟩ : ByteArray) = s ∧ (6 : Int) = er ∧ n = n2 := by simpa using e
              clear e np nm
              go_wp2_with fail
              go_ret2
              exact ⟨rfl, HRd.out, Fr.of_below (Below.refl _ _)⟩
            · have d4 : decide (most ≤ (i : Int) - (n : Int)) = false := decide_eq_false hf
              have d5 : decide (most < (i : Int) - (n : Int)) = false := decide_eq_false (by omega)
              have nx := Aside0.mk (hK.out.step np (.inl (by omega)))
              clear np hf
              go_wp2_with fail
              all_goals
                go_round
                case rel => exact ⟨i + 1, by omega, by omega, by go_num, nx⟩
                case measure => simp only [intOf]; omega
      · have k13 : (x == 13) = false := beq_eq_false_iff_ne.mpr e13
        have n13 : ¬ (l[i]? = some 13) := fun hq => by have := HX.out.symm.trans hq; injection this with this; exact e13 this
        have np : ¬ pairAt l i := fun hq => n13 hq.1
        have nm : ¬ (l[i]? = some 13 ∧ i + 1 = l.length) := fun hq => n13 hq.1
        clear n13
        by_cases hf : most ≤ (i : Int) - n
        · have d4 : decide (most ≤ (i : Int) - (n : Int)) = true := decide_eq_true hf
          have e := HS.out
          rw [ln_form HB.out hK.out hni (by omega) hlt hf np nm] at e
          obtain ⟨rfl, rfl, rfl⟩ : (⟨#[]⟩ : ByteArray) = s ∧ (6 : Int) = er ∧ n = n2 := by simpa using e
          clear e np nm
          go_wp2_with fail
          go_ret2
          exact ⟨rfl, HRd.out, Fr.of_below (Below.refl _ _)⟩
        · have d4 : decide (most ≤ (i : Int) - (n : Int)) = false := decide_eq_false hf
          have d5 : decide (most < (i : Int) - (n : Int)) = false := decide_eq_false (by omega)
          have nx := Aside0.mk (hK.out.step np (.inl (by omega)))
          clear np hf
          go_wp2_with fail
          all_goals
            go_round
            case rel => exact ⟨i + 1, by omega, by omega, by go_num, nx⟩
            case measure => simp only [intOf]; omega
    · have d0 : decide ((i : Int) < (l.length : Int)) = false := decide_eq_false (by omega)
      have hil : i = l.length := by omega
      have e := HS.out
      rw [ln_more HB.out (by have := hK.out; rwa [hil] at this) hn (by omega)] at e
      obtain ⟨rfl, rfl, rfl⟩ : (⟨#[]⟩ : ByteArray) = s ∧ (5 : Int) = er ∧ n = n2 := by simpa using e
      clear e hil
      go_wp2_with fail
      go_ret2
      exact ⟨rfl, HRd.out, Fr.of_below (Below.refl _ _)⟩


end Go.Proofs.Ytlpibchjcmndjaa.P
