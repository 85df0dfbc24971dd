-- Laid by sp.py, a program of this session's, out of the translation and the session's own stand-ins.
import Derived.Test.YtnlggkihjfobkaaPx0
import Derived.Test.YtnlggkihjfobkaaSLbuilder
import Derived.StillTailTactics
namespace Go.Proofs.Ytnlggkihjfobkaa.P
open Go.RowKit Go.Proofs.YtnlggkihjfobkaaW.PrintWords Go.Proofs.YtnlggkihjfobkaaW.PrintLast Go.Proofs.YtnlggkihjfobkaaW.PrintMore
attribute [local go_sem] max2_int min2_int max_two min_two max_three min_three max_four min_four   -- for this text's walks alone
set_option linter.unusedVariables false
set_option linter.unusedSimpArgs false
set_option linter.unnecessarySimpa false

/-! ### sextet.Encode: a stand-in: a closure over four variables that hands pieces to another closure -/
open Go.Proofs.Ytnlggkihjfobkaa.SL
/-! #### the cutter -/
/-- What is handed on, what is held, how many bits. -/
def cutLoop (wide : Nat) : Nat → Nat → Nat → List Int × Nat × Nat
  | 0, H, M => ([], H, M)
  | k + 1, H, M => if wide ≤ M then (((H / 2 ^ (M - wide) : Nat) : Int) :: (cutLoop wide k (H % 2 ^ (M - wide)) (M - wide)).1, (cutLoop wide k (H % 2 ^ (M - wide)) (M - wide)).2) else ([], H, M)
def cutTake (wide bits x H M : Nat) : List Int × Nat × Nat := cutLoop wide 3 (H * 2 ^ bits + x) (M + bits)
theorem cut_wrap {x : Int} (h0 : -9223372036854775808 ≤ x) (h1 : x ≤ 9223372036854775807) : wrap64 x = x := by unfold wrap64; omega
theorem cut_bits_or (H b x : Nat) (hH : H < 256) (hb : b ≤ 8) (hx : x < 2 ^ b) : Go.bits .or .i64 ((H * 2 ^ b : Nat) : Int) (x : Int) = ((H * 2 ^ b + x : Nat) : Int) := by
  have hp : 2 ^ b ≤ 2 ^ 8 := Nat.pow_le_pow_right (by omega) hb
  have hl : H * 2 ^ b ≤ 255 * 2 ^ 8 := Nat.mul_le_mul (by omega) hp
  have e : H * 2 ^ b ||| x = H * 2 ^ b + x := by
    rw [Nat.mul_comm]
    exact (Nat.two_pow_add_eq_or_of_lt hx H).symm
  have h1 : (BitVec.ofInt 64 ((H * 2 ^ b : Nat) : Int)).toNat = H * 2 ^ b := by
    rw [BitVec.ofInt_natCast, BitVec.toNat_ofNat]; exact Nat.mod_eq_of_lt (by omega)
  have h2 : (BitVec.ofInt 64 (x : Int)).toNat = x := by
    rw [BitVec.ofInt_natCast, BitVec.toNat_ofNat]; exact Nat.mod_eq_of_lt (by omega)
  show IntKind.i64.wrap ((BitVec.ofInt 64 ((H * 2 ^ b : Nat) : Int) ||| BitVec.ofInt 64 (x : Int)).toNat : Int) = _
  rw [BitVec.toNat_or, h1, h2, e, i64_w, cut_wrap (by omega) (by omega)]
theorem cut_bits_and (H m : Nat) (hH : H < 65536) (hm : m ≤ 16) : Go.bits .and .i64 (H : Int) ((2 ^ m : Nat) - 1 : Int) = ((H % 2 ^ m : Nat) : Int) := by
  have hp : 2 ^ m ≤ 2 ^ 16 := Nat.pow_le_pow_right (by omega) hm
  have h0 : 0 < 2 ^ m := Nat.two_pow_pos m
  have e : H &&& (2 ^ m - 1) = H % 2 ^ m := Nat.and_two_pow_sub_one_eq_mod H m
  have h1 : (BitVec.ofInt 64 (H : Int)).toNat = H := by
    rw [BitVec.ofInt_natCast, BitVec.toNat_ofNat]; exact Nat.mod_eq_of_lt (by omega)
  have h2 : (BitVec.ofInt 64 ((2 ^ m - 1 : Nat) : Int)).toNat = 2 ^ m - 1 := by
    rw [BitVec.ofInt_natCast, BitVec.toNat_ofNat]; exact Nat.mod_eq_of_lt (by omega)
  rw [show (((2 ^ m : Nat) : Int) - 1) = ((2 ^ m - 1 : Nat) : Int) from by omega]
  show IntKind.i64.wrap ((BitVec.ofInt 64 (H : Int) &&& BitVec.ofInt 64 ((2 ^ m - 1 : Nat) : Int)).toNat : Int) = _
  rw [BitVec.toNat_and, h1, h2, e, i64_w]
  have : H % 2 ^ m ≤ H := Nat.mod_le _ _
  rw [cut_wrap (by omega) (by omega)]
theorem cut_first (H M bits x : Nat) (hb : bits ≤ 8) (hx : x < 2 ^ bits) (hH : H < 2 ^ M) (hM : M < 8) : Go.bits .or .i64 (wrap64 ((H : Int) * 2 ^ bits)) (x : Int) = ((H * 2 ^ bits + x : Nat) : Int) ∧ H * 2 ^ bits + x < 2 ^ (M + bits) := by
  have hp : 2 ^ bits ≤ 256 := Nat.le_trans (Nat.pow_le_pow_right (by decide) hb) (by decide)
  have hpM : 2 ^ M ≤ 128 := Nat.le_trans (Nat.pow_le_pow_right (by decide) (show M ≤ 7 by omega)) (by decide)
  have hl : H * 2 ^ bits ≤ 255 * 256 := Nat.mul_le_mul (by omega) hp
  have hor := cut_bits_or H bits x (by omega) hb hx
  have hc : (H : Int) * 2 ^ bits = ((H * 2 ^ bits : Nat) : Int) := by push_cast; rfl
  refine ⟨?_, ?_⟩
  · rw [hc, ← hor]
    generalize H * 2 ^ bits = y at *
    rw [cut_wrap (by omega) (by omega)]
  · rw [Nat.pow_add]
    refine Nat.lt_of_lt_of_le (Nat.add_lt_add_left hx _) ?_
    have e : H * 2 ^ bits + 2 ^ bits = (H + 1) * 2 ^ bits := by rw [Nat.add_mul, Nat.one_mul]
    rw [e]
    exact Nat.mul_le_mul_right _ hH
theorem cut_second (H m : Nat) (hH : H < 65536) (hm : m ≤ 15) : Go.bits .and .i64 (H : Int) (wrap64 (wrap64 (2 ^ m) - 1)) = ((H % 2 ^ m : Nat) : Int) := by
  have hp : 2 ^ m ≤ 65536 := Nat.le_trans (Nat.pow_le_pow_right (by decide) (show m ≤ 16 by omega)) (by decide)
  have h0 : 0 < 2 ^ m := Nat.two_pow_pos m
  have hc : (2 : Int) ^ m = ((2 ^ m : Nat) : Int) := by push_cast; rfl
  rw [hc, ← cut_bits_and H m hH (by omega)]
  generalize 2 ^ m = y at *
  rw [cut_wrap (x := (y : Int)) (by omega) (by omega), cut_wrap (by omega) (by omega)]
theorem cut_enter {P : Program} {f : FuncId} {fn : Func} {c : Code} (hf : P.funcs[f]? = some fn) (hname : (fn.name == "runtime.NumGoroutine") = false) (hb : fn.body = some c) (args : Array Value) (w : World) : (callFunc f args).run P w = .ok (.enter f args) w := by
  have h1 : fn.name ≠ "runtime.NumGoroutine" := by simpa using hname
  simp [callFunc, hf, h1, hb]
/-- What takes the pieces. -/
structure Sink (w0 : World) (F wide N : Nat) (cap : Array Value) (b : Nat) (I : List Int → World → Prop) : Prop where
  ent : ∀ args w, (callFunc F args).run Try.prog w = .ok (.enter F args) w
  hand : ∀ W out x, 0 ≤ x → x < 2 ^ wide → I out W → out.length < N → w0.heap.size ≤ W.heap.size → Calls Try.prog F (#[.int .i64 x] ++ cap) W fun e W' => e = .returned (.tuple #[]) ∧ I (out ++ [x]) W' ∧ Below w0.heap.size W W' ∧ Lib.OthersKept 5 (some b) W W'
  put : ∀ W out B o v, I out W → W.heap[B]? = some (.cells #[o] 3 (0, 0)) → I out (W.setCell ⟨B, 0, none⟩ v)
  drew : ∀ W out, I out W → I out W.drew
/-- The cutter's four variables. -/
structure CutIn (w0 : World) (F wide : Nat) (cap : Array Value) (b : Nat) (I : List Int → World → Prop) (Bh Bm Bw Bf : Nat) (H M : Nat) (out : List Int) (W : World) : Prop where
  lh : w0.heap.size ≤ Bh
  lm : w0.heap.size ≤ Bm
  nb : b ≠ Bh ∧ b ≠ Bm ∧ b ≠ Bw ∧ b ≠ Bf
  hh : W.heap[Bh]? = some (.cells #[.int .i64 (H : Int)] 3 (0, 0))
  hm : W.heap[Bm]? = some (.cells #[.int .i64 (M : Int)] 3 (0, 0))
  hw : W.heap[Bw]? = some (.cells #[.int .i64 (wide : Int)] 3 (0, 0))
  hf : W.heap[Bf]? = some (.cells #[.func (.func F) #[] cap] 45 (0, 0))
  hI : I out W
  hB : Below w0.heap.size w0 W
theorem blk_other {W : World} {B B2 : Nat} {o : Value} {t : Nat} {u : Value} (h : W.heap[B2]? = some (.cells #[o] t (0, 0))) (hne : B2 ≠ B) : (W.setCell ⟨B, 0, none⟩ u).heap[B2]? = some (.cells #[o] t (0, 0)) := (Below.heap_setCell W ⟨B, 0, none⟩ u B2 hne).trans h
section
variable {w0 : World} {F wide N : Nat} {cap : Array Value} {b : Nat} {I : List Int → World → Prop} {Bh Bm Bw Bf H M : Nat} {out : List Int} {W : World}
theorem CutIn.drew (hS : Sink w0 F wide N cap b I) (h : CutIn w0 F wide cap b I Bh Bm Bw Bf H M out W) : CutIn w0 F wide cap b I Bh Bm Bw Bf H M out W.drew :=
  ⟨h.lh, h.lm, h.nb, h.hh, h.hm, h.hw, h.hf, hS.drew _ _ h.hI, h.hB.drew⟩
theorem CutIn.setH (hS : Sink w0 F wide N cap b I) (hne : Bh ≠ Bm ∧ Bh ≠ Bw ∧ Bh ≠ Bf ∧ Bm ≠ Bw ∧ Bm ≠ Bf) (h : CutIn w0 F wide cap b I Bh Bm Bw Bf H M out W) (H2 : Nat) : CutIn w0 F wide cap b I Bh Bm Bw Bf H2 M out (W.setCell ⟨Bh, 0, none⟩ (.int .i64 (H2 : Int))) :=
  ⟨h.lh, h.lm, h.nb, one_setCell h.hh, blk_other h.hm hne.1.symm, blk_other h.hw hne.2.1.symm, blk_other h.hf hne.2.2.1.symm, hS.put _ _ _ _ _ h.hI h.hh, h.hB.setCell h.lh _⟩
theorem CutIn.setM (hS : Sink w0 F wide N cap b I) (hne : Bh ≠ Bm ∧ Bh ≠ Bw ∧ Bh ≠ Bf ∧ Bm ≠ Bw ∧ Bm ≠ Bf) (h : CutIn w0 F wide cap b I Bh Bm Bw Bf H M out W) (M2 : Nat) : CutIn w0 F wide cap b I Bh Bm Bw Bf H M2 out (W.setCell ⟨Bm, 0, none⟩ (.int .i64 (M2 : Int))) :=
  ⟨h.lh, h.lm, h.nb, blk_other h.hh hne.1, one_setCell h.hm, blk_other h.hw hne.2.2.2.1.symm, blk_other h.hf hne.2.2.2.2.symm, hS.put _ _ _ _ _ h.hI h.hm, h.hB.setCell h.lm _⟩
theorem CutIn.handed (h : CutIn w0 F wide cap b I Bh Bm Bw Bf H M out W) {W' : World} {x : Int} (hI : I (out ++ [x]) W') (hB : Below w0.heap.size W W') (hk : Lib.OthersKept 5 (some b) W W') : CutIn w0 F wide cap b I Bh Bm Bw Bf H M (out ++ [x]) W' := by
  obtain ⟨n1, n2, n3, n4⟩ := h.nb
  have k : ∀ B o t, (t ≠ 5) → b ≠ B → W.heap[B]? = some (.cells #[o] t (0, 0)) → W'.heap[B]? = some (.cells #[o] t (0, 0)) := fun B o t ht hb hw => hk B _ hw (fun e => hb (Option.some.inj e).symm) (fun c fz e => by
    injection e with _ e2 _
    exact ht e2)
  exact ⟨h.lh, h.lm, h.nb, k _ _ _ (by decide) n1 h.hh, k _ _ _ (by decide) n2 h.hm, k _ _ _ (by decide) n3 h.hw, k _ _ _ (by decide) n4 h.hf, hI, h.hB.trans hB⟩

/-- How many bits are held, as the world tells it. -/
def cutMany (Bm : Nat) (W : World) : Nat := (intOf ((W.cell? ⟨Bm, 0, none⟩).getD (.int .i64 0))).toNat
theorem CutIn.many (h : CutIn w0 F wide cap b I Bh Bm Bw Bf H M out W) : cutMany Bm W = M := by
  unfold cutMany
  rw [cell_of_one h.hm]
  simp [intOf]
theorem cut_more (wide k H M : Nat) : cutLoop wide (k + 1) H (M + wide) = (((H / 2 ^ M : Nat) : Int) :: (cutLoop wide k (H % 2 ^ M) M).1, (cutLoop wide k (H % 2 ^ M) M).2) := by
  simp only [cutLoop]
  rw [if_pos (by omega), Nat.add_sub_cancel]
theorem cut_end (wide k H M : Nat) (h : ¬ wide ≤ M) : cutLoop wide k H M = ([], H, M) := by
  cases k with
  | zero => rfl
  | succ k => simp only [cutLoop]; rw [if_neg h]
set_option maxHeartbeats 4000000 in
theorem cut_take (hS : Sink w0 F wide N cap b I) (hne : Bh ≠ Bm ∧ Bh ≠ Bw ∧ Bh ≠ Bf ∧ Bm ≠ Bw ∧ Bm ≠ Bf) (hwide : 6 ≤ wide ∧ wide ≤ 8) (bits x : Nat) (hb : bits ≤ 8) (hx : x < 2 ^ bits) (hH : H < 2 ^ M) (hM : M < wide) (hN : out.length + 3 ≤ N) (h : CutIn w0 F wide cap b I Bh Bm Bw Bf H M out W) :
    Calls Try.prog 25 #[.int .i64 (bits : Int), .int .i64 (x : Int), .pointer (some ⟨Bh, 0, none⟩), .pointer (some ⟨Bm, 0, none⟩), .pointer (some ⟨Bw, 0, none⟩), .pointer (some ⟨Bf, 0, none⟩)] W fun e W' => e = .returned (.tuple #[]) ∧
      CutIn w0 F wide cap b I Bh Bm Bw Bf (cutTake wide bits x H M).2.1 (cutTake wide bits x H M).2.2 (out ++ (cutTake wide bits x H M).1) W' := by
  have ch := cell_of_one h.hh
  have fh := free_of_one h.hh
  have cm := cell_of_one h.hm
  have fm := free_of_one h.hm
  obtain ⟨tot, htot⟩ : ∃ tot, tot = cutTake wide bits x H M := ⟨_, rfl⟩
  rw [← htot]
  unfold cutTake at htot
  go_enter Try.func25, Try.ntmps25
  go_wp2_with fail
  go_region
  go_wp2
  obtain ⟨e1, hH1⟩ := cut_first H M bits x hb hx hH (by omega)
  have e2 : (M : Int) + (bits : Int) = ((M + bits : Nat) : Int) := by omega
  have hM1 : M + bits ≤ 15 := by omega
  have h1 := ((h.setH hS hne (H * 2 ^ bits + x)).setM hS hne (M + bits)).drew hS
  rw [e1, e2]
  clear e1 e2
  generalize H * 2 ^ bits + x = H1 at h1 hH1 htot ⊢
  generalize M + bits = M1 at h1 hH1 hM1 htot ⊢
  generalize (((W.setCell { block := Bh, off := 0 } (Value.int IntKind.i64 (H1 : Int))).setCell { block := Bm, off := 0 } (Value.int IntKind.i64 (M1 : Int))).drew) = W1 at h1 ⊢
  clear h ch fh cm fm hx hH hM hb
  go_loopw [] (fun wr => ∃ (k H2 M2 : Nat) (o : List Int), CutIn w0 F wide cap b I Bh Bm Bw Bf H2 M2 (out ++ o) wr ∧ H2 < 2 ^ M2 ∧ M2 ≤ 15 ∧ M2 < wide * (k + 1) ∧ o.length + k ≤ 3 ∧ o ++ (cutLoop wide k H2 M2).1 = tot.1 ∧ (cutLoop wide k H2 M2).2 = tot.2) (fun wr => cutMany Bm wr)
  case atStart => exact ⟨3, H1, M1, [], by rw [List.append_nil]; exact h1, hH1, hM1, by omega, by simp, by rw [htot]; rfl, by rw [htot]⟩
  case round =>
    obtain ⟨k, H2, M2, o, hC, hH2, hM2, hk, ho, ht1, ht2⟩ := hrel
    have cm := cell_of_one hC.hm
    have fm := free_of_one hC.hm
    have cw := cell_of_one hC.hw
    by_cases hlt : wide ≤ M2
    · have q1 : decide ((wide : Int) ≤ (M2 : Int)) = true := decide_eq_true (by omega)
      cases k with
      | zero => exact absurd hk (by omega)
      | succ k =>
        obtain ⟨M3, hM3⟩ : ∃ M3, M2 = M3 + wide := ⟨M2 - wide, by omega⟩
        have e3 : (M2 : Int) - (wide : Int) = (M3 : Int) := by omega
        have hC3 := hC.setM hS hne M3
        have ch3 := cell_of_one hC3.hh
        have cm3 := cell_of_one hC3.hm
        have cf3 := cell_of_one hC3.hf
        go_wp2_with fail
        generalize wr.setCell ⟨Bm, 0, none⟩ (.int .i64 (M3 : Int)) = w3 at hC3 ch3 cm3 cf3 ⊢
        go_still_tail 4, (by kernel_rfl)
        change wpList _ _ _ _ _ w3.drew
        have hC4 := hC3.drew hS
        generalize w3.drew = w4 at hC4 ⊢
        go_wp2
        have hx2 : ((H2 : Int) / 2 ^ M3) = ((H2 / 2 ^ M3 : Nat) : Int) := by push_cast; rfl
        have hx3 : H2 / 2 ^ M3 < 2 ^ wide := Nat.div_lt_of_lt_mul (by rw [← Nat.pow_add, ← hM3]; exact hH2)
        rw [hx2, hS.ent, Oper.upon_enter]
        have hx4 : ((H2 / 2 ^ M3 : Nat) : Int) < 2 ^ wide := by exact_mod_cast hx3
        refine (hS.hand _ _ _ (Int.natCast_nonneg _) hx4 hC4.hI (by rw [List.length_append]; omega) hC4.hB.size).mono ?_
        rintro e w5 ⟨rfl, hI5, hB5, hK5⟩
        have hC5 := hC4.handed hI5 hB5 hK5
        clear hC4 hI5 hB5 hK5 hx2 hx3 hx4
        have ch5 := cell_of_one hC5.hh
        have fh5 := free_of_one hC5.hh
        have cm5 := cell_of_one hC5.hm
        go_wp2
        go_region
        go_wp2
        have hHb : H2 < 65536 := Nat.lt_of_lt_of_le hH2 (Nat.le_trans (Nat.pow_le_pow_right (by decide) (show M2 ≤ 16 by omega)) (by decide))
        rw [cut_second H2 M3 hHb (by omega)]
        have hC6 := (hC5.setH hS hne (H2 % 2 ^ M3)).drew hS
        go_roundw
        case rel =>
          refine ⟨k, H2 % 2 ^ M3, M3, o ++ [((H2 / 2 ^ M3 : Nat) : Int)], ?_, Nat.mod_lt _ (Nat.two_pow_pos _), by omega, ?_, by rw [List.length_append]; simp only [List.length_singleton]; omega, ?_, ?_⟩
          · rw [← List.append_assoc]; exact hC6
          · have e : wide * (k + 1 + 1) = wide * (k + 1) + wide := Nat.mul_succ _ _
            omega
          · rw [← ht1, hM3, cut_more, List.append_assoc]; rfl
          · rw [← ht2, hM3, cut_more]
        case measure => rw [hC6.many, hC.many]; omega
    · have q1 : decide ((wide : Int) ≤ (M2 : Int)) = false := decide_eq_false (by omega)
      rw [cut_end _ _ _ _ hlt] at ht1 ht2
      simp only [List.append_nil] at ht1
      go_wp2
      go_end0
      refine ⟨rfl, ?_⟩
      rw [← htot, ← ht1, ← ht2]
      exact hC
end
/-! #### the builder as a sink -/
def sxWords : ByteArray := ⟨#[65, 66, 67, 68, 69, 70, 71, 72, 73, 74, 75, 76, 77, 78, 79, 80, 81, 82, 83, 84, 85, 86, 87, 88, 89, 90, 97, 98, 99, 100, 101, 102, 103, 104, 105, 106, 107, 108, 109, 110, 111, 112, 113, 114, 115, 116, 117, 118, 119, 120, 121, 122, 48, 49, 50, 51, 52, 53, 54, 55, 56, 57, 43, 47]⟩
/-- The letter of a number. -/
def sxLetter (x : Int) : UInt8 := sxWords.data.toList.getD x.toNat 0
set_option maxHeartbeats 2000000 in
theorem sx_hand (B b : Nat) (out : List Int) (x : Int) (hx0 : 0 ≤ x) (hx1 : x < 64) (w : World) (h : Lib.IsBuilderF 39 5 B b (Lib.byteCells (out.map sxLetter)) w) (hlen : out.length < 1000000) (hBw : B ≤ w.heap.size) :
    Calls Try.prog 16 #[.int .i64 x, .pointer (some ⟨b, 0, none⟩)] w fun e w' => e = .returned (.tuple #[]) ∧ Lib.IsBuilderF 39 5 B b (Lib.byteCells ((out ++ [x]).map sxLetter)) w' ∧ Below B w w' ∧ Lib.OthersKept 5 (some b) w w' := by
  go_enter Try.func16, Try.ntmps16
  go_wp2_with (go_at_call 17; refine (bd_WriteByte B b _ _ _ h ?hlen hBw).mono ?_)
  case hlen => simp [Lib.byteCells]; omega
  rintro e w1 ⟨rfl, h1, hb1, hk1⟩
  go_wp2
  go_end0
  refine ⟨rfl, .inr ?_, hb1, hk1⟩
  have e : Lib.byteCells ((out ++ [x]).map sxLetter) = Lib.byteCells (out.map sxLetter) ++ Lib.byteCells [sxLetter x] := by simp [Lib.byteCells]
  rw [e]
  have e2 : sxLetter x = sxWords.data.toList[x.toNat]'(by show x.toNat < 64; omega) := by
    unfold sxLetter
    rw [List.getD_eq_getElem?_getD, List.getElem?_eq_getElem (by show x.toNat < 64; omega)]
    rfl
  rw [e2]
  exact h1
theorem sx_at_put {B b : Nat} {p : Value} {bs : List Value} {W : World} {k : Nat} {o v : Value} (h : Lib.BuilderAtF 39 5 B b p bs W) (hk : W.heap[k]? = some (.cells #[o] 3 (0, 0))) : Lib.BuilderAtF 39 5 B b p bs (W.setCell ⟨k, 0, none⟩ v) := by
  obtain ⟨hB, u, hv, hown, hne⟩ := h
  have hkb : b ≠ k := by
    rintro rfl
    rw [hv] at hk
    simp at hk
  exact ⟨hB, u, (Below.heap_setCell _ _ _ _ hkb).trans hv, hown.kept (row := some k) ⟨rfl, rfl, rfl, by simp [World.setCell], fun j _ hj => Below.heap_setCell _ _ _ _ (fun e => hj (by simp [e]))⟩ (Or.inr (Lib.ownBlock_neF hown hk (by decide))), hne⟩
/-- What was handed on stands in the builder. -/
def sxI (w0 : World) (b : Nat) (out : List Int) (W : World) : Prop := Lib.IsBuilderF 39 5 w0.heap.size b (Lib.byteCells (out.map sxLetter)) W
theorem sx_sink (w0 : World) (b : Nat) : Sink w0 16 6 1000000 #[.pointer (some ⟨b, 0, none⟩)] b (sxI w0 b) where
  ent := fun args w => cut_enter (f := 16) Try.func16 (by kernel_rfl) rfl args w
  hand := fun W out x h0 h1 hI hN hB => sx_hand w0.heap.size b out x h0 h1 W hI hN hB
  put := fun W out B o v hI hk => hI.elim (fun h => .inl (sx_at_put h hk)) (fun h => .inr (sx_at_put h hk))
  drew := fun W out hI => hI
/-- The cutter just made. -/
theorem sx_in (w0 W : World) (F wide : Nat) (cap : Array Value) (b : Nat) (I : List Int → World → Prop) (hb : b < W.heap.size) (hB : Below w0.heap.size w0 W)
    (hI : ∀ W', Below W.heap.size W W' → I [] W') :
    CutIn w0 F wide cap b I (W.heap.size + 1 + 1) (W.heap.size + 1 + 1 + 1) W.heap.size (W.heap.size + 1) 0 0 [] ((((W.alloc (.cells #[.int .i64 (wide : Int)] 3)).alloc (.cells #[.func (.func F) #[] cap] 45)).alloc (.cells #[.int .i64 0] 3)).alloc (.cells #[.int .i64 0] 3)) := by
  have hs0 := hB.size
  have k0 := heap_alloc_new W (.cells #[.int .i64 (wide : Int)] 3)
  have s1 : (W.alloc (.cells #[.int .i64 (wide : Int)] 3)).heap.size = W.heap.size + 1 := Array.size_push _
  have b1 : Below W.heap.size W (W.alloc (.cells #[.int .i64 (wide : Int)] 3)) := below_alloc (Below.refl _ _) _
  generalize W.alloc (.cells #[.int .i64 (wide : Int)] 3) = w1 at k0 s1 b1 ⊢
  have k1 := heap_alloc_new w1 (.cells #[.func (.func F) #[] cap] 45)
  have k0 := blk_alloc k0 (.cells #[.func (.func F) #[] cap] 45)
  have s2 : (w1.alloc (.cells #[.func (.func F) #[] cap] 45)).heap.size = W.heap.size + 1 + 1 := (Array.size_push _).trans (by rw [s1])
  have b2 := below_alloc b1 (.cells #[.func (.func F) #[] cap] 45)
  rw [s1] at k1
  generalize w1.alloc (.cells #[.func (.func F) #[] cap] 45) = w2 at k0 k1 s2 b2 ⊢
  have k2 := heap_alloc_new w2 (.cells #[.int .i64 0] 3)
  have k0 := blk_alloc k0 (.cells #[.int .i64 0] 3)
  have k1 := blk_alloc k1 (.cells #[.int .i64 0] 3)
  have s3 : (w2.alloc (.cells #[.int .i64 0] 3)).heap.size = W.heap.size + 1 + 1 + 1 := (Array.size_push _).trans (by rw [s2])
  have b3 := below_alloc b2 (.cells #[.int .i64 0] 3)
  rw [s2] at k2
  generalize w2.alloc (.cells #[.int .i64 0] 3) = w3 at k0 k1 k2 s3 b3 ⊢
  have k3 := heap_alloc_new w3 (.cells #[.int .i64 0] 3)
  have k0 := blk_alloc k0 (.cells #[.int .i64 0] 3)
  have k1 := blk_alloc k1 (.cells #[.int .i64 0] 3)
  have k2 := blk_alloc k2 (.cells #[.int .i64 0] 3)
  have b4 := below_alloc b3 (.cells #[.int .i64 0] 3)
  rw [s3] at k3
  generalize w3.alloc (.cells #[.int .i64 0] 3) = w4 at k0 k1 k2 k3 b4 ⊢
  refine ⟨by omega, by omega, ⟨by omega, by omega, by omega, by omega⟩, k2, k3, k0, k1, hI _ b4, hB.trans ⟨b4.os, b4.tape, b4.output, b4.size, fun j hj => b4.block j (by omega)⟩⟩
set_option maxHeartbeats 2000000 in
theorem sx_cutter (w0 W : World) (F wide : Nat) (cap : Array Value) (b : Nat) (I : List Int → World → Prop) (hb : b < W.heap.size) (hB : Below w0.heap.size w0 W)
    (hI : ∀ W', Below W.heap.size W W' → I [] W') :
    Calls Try.prog 15 #[.int .i64 (wide : Int), .func (.func F) #[] cap] W fun e W' => e = .returned (.func (.func 25) #[] #[.pointer (some ⟨W.heap.size + 1 + 1, 0, none⟩), .pointer (some ⟨W.heap.size + 1 + 1 + 1, 0, none⟩), .pointer (some ⟨W.heap.size, 0, none⟩), .pointer (some ⟨W.heap.size + 1, 0, none⟩)]) ∧
      CutIn w0 F wide cap b I (W.heap.size + 1 + 1) (W.heap.size + 1 + 1 + 1) W.heap.size (W.heap.size + 1) 0 0 [] W' := by
  have hin := sx_in w0 W F wide cap b I hb hB hI
  go_enter Try.func15, Try.ntmps15
  go_wp2_with fail
  go_ret
  exact ⟨rfl, hin⟩
/-! #### Encode -/
def cutAll (wide bits : Nat) : List Int → Nat → Nat → List Int × Nat × Nat
  | [], H, M => ([], H, M)
  | x :: r, H, M => ((cutTake wide bits x.toNat H M).1 ++ (cutAll wide bits r (cutTake wide bits x.toNat H M).2.1 (cutTake wide bits x.toNat H M).2.2).1, (cutAll wide bits r (cutTake wide bits x.toNat H M).2.1 (cutTake wide bits x.toNat H M).2.2).2)
theorem cutLoop_in (wide k : Nat) : ∀ H M, H < 2 ^ M → M < wide * (k + 1) → (cutLoop wide k H M).2.1 < 2 ^ (cutLoop wide k H M).2.2 ∧ (cutLoop wide k H M).2.2 < wide ∧ (cutLoop wide k H M).1.length ≤ k := by
  induction k with
  | zero => intro H M h1 h2; exact ⟨h1, by rw [Nat.zero_add, Nat.mul_one] at h2; exact h2, Nat.le_refl _⟩
  | succ k ih =>
    intro H M h1 h2
    by_cases h : wide ≤ M
    · obtain ⟨M3, rfl⟩ : ∃ M3, M = M3 + wide := ⟨M - wide, by omega⟩
      rw [cut_more]
      have e : wide * (k + 1 + 1) = wide * (k + 1) + wide := Nat.mul_succ _ _
      obtain ⟨a, b, c⟩ := ih (H % 2 ^ M3) M3 (Nat.mod_lt _ (Nat.two_pow_pos _)) (by omega)
      exact ⟨a, b, by simp only [List.length_cons]; omega⟩
    · rw [cut_end _ _ _ _ h]
      exact ⟨h1, by simp only; omega, Nat.zero_le _⟩
theorem cutTake_in (wide bits x H M : Nat) (hwide : 6 ≤ wide ∧ wide ≤ 8) (hb : bits ≤ 8) (hx : x < 2 ^ bits) (hH : H < 2 ^ M) (hM : M < wide) : (cutTake wide bits x H M).2.1 < 2 ^ (cutTake wide bits x H M).2.2 ∧ (cutTake wide bits x H M).2.2 < wide ∧ (cutTake wide bits x H M).1.length ≤ 3 :=
  cutLoop_in wide 3 _ _ (cut_first H M bits x hb hx hH (by omega)).2 (by omega)
/-- The text. -/
def sxEnc (l : List Int) : List UInt8 :=
  ((cutAll 6 8 l 0 0).1 ++ (if 0 < l.length % 3 then (cutTake 6 (2 * (3 - l.length % 3)) 0 (cutAll 6 8 l 0 0).2.1 (cutAll 6 8 l 0 0).2.2).1 else [])).map sxLetter ++ List.replicate ((3 - l.length % 3) % 3) 61
def sextet_Encode.f (l0 : List Int) : Option ByteArray := if l0.all (fun x => decide (0 ≤ x) && decide (x ≤ 255)) = true ∧ l0.length ≤ 100000 then some ⟨(sxEnc l0).toArray⟩ else none
theorem sx_rep (n : Nat) : Lib.repeatL (⟨#[61]⟩ : ByteArray).data.toList n = List.replicate n 61 := by
  induction n with
  | zero => rfl
  | succ n ih =>
    rw [Lib.repeatL, ih, List.replicate_succ]
    rfl
set_option maxHeartbeats 4000000 in
theorem sextet_Encode.calls (A0 : Option Addr) (c0 : Nat) (l0 : List Int) (r : ByteArray) (w : World) (hr0 : Kd.C (Kd.int .u8) w A0 l0.length l0) (hc0 : l0.length ≤ c0) (h : sextet_Encode.f l0 = some r) :
    Calls Try.prog 8 #[.slice A0 l0.length c0] w fun e w' => e = .returned (.string r) ∧ Below w.heap.size w w' := by
  unfold sextet_Encode.f at h
  by_cases hg : l0.all (fun x => decide (0 ≤ x) && decide (x ≤ 255)) = true ∧ l0.length ≤ 100000
  case neg => rw [if_neg hg] at h; exact absurd h (by simp)
  rw [if_pos hg] at h
  obtain rfl := Option.some.inj h
  obtain ⟨hl, hn⟩ := hg
  have HR := Aside0.mk hr0
  clear h hr0
  have hnew := bd_new w w (Nat.le_refl _)
  have hb1 : Below w.heap.size w (w.alloc (.cells #[.pointer none, .slice none 0 0] 39)) := below_alloc (Below.refl _ _) _
  have hs1 : (w.alloc (.cells #[.pointer none, .slice none 0 0] 39)).heap.size = w.heap.size + 1 := Array.size_push _
  have hS := sx_sink w w.heap.size
  have hin := sx_cutter w (w.alloc (.cells #[.pointer none, .slice none 0 0] 39)) 16 6 #[.pointer (some ⟨w.heap.size, 0, none⟩)] w.heap.size (sxI w w.heap.size) (by omega) hb1 (fun W' hb => bd_below hnew hb)
  rw [hs1] at hin
  go_enter Try.func8, Try.ntmps8
  go_wp2_with (go_at_call 15; refine hin.mono ?_; rintro e w1 ⟨rfl, h1⟩)
  clear hin hnew hb1 hs1
  obtain ⟨tot, htot⟩ : ∃ tot, tot = cutAll 6 8 l0 0 0 := ⟨_, rfl⟩
  have hne : (w.heap.size + 1 + 1 + 1 ≠ w.heap.size + 1 + 1 + 1 + 1) ∧ (w.heap.size + 1 + 1 + 1 ≠ w.heap.size + 1) ∧ (w.heap.size + 1 + 1 + 1 ≠ w.heap.size + 1 + 1) ∧ (w.heap.size + 1 + 1 + 1 + 1 ≠ w.heap.size + 1) ∧ (w.heap.size + 1 + 1 + 1 + 1 ≠ w.heap.size + 1 + 1) := ⟨by omega, by omega, by omega, by omega, by omega⟩
  have hz : w.heap.size + 1 + 1 + 1 = w.heap.size + 1 + 1 + 1 := rfl
  go_loopw [12] (fun v wr => ∃ (k H M : Nat) (o : List Int), k ≤ l0.length ∧ v = .int .i64 (k : Int) ∧ CutIn w 16 6 #[.pointer (some ⟨w.heap.size, 0, none⟩)] w.heap.size (sxI w w.heap.size) (w.heap.size + 1 + 1 + 1) (w.heap.size + 1 + 1 + 1 + 1) (w.heap.size + 1) (w.heap.size + 1 + 1) H M o wr ∧ H < 2 ^ M ∧ M < 6 ∧ o.length ≤ 3 * k ∧ o ++ (cutAll 6 8 (l0.drop k) H M).1 = tot.1 ∧ (cutAll 6 8 (l0.drop k) H M).2 = tot.2) (fun v _ => l0.length - (intOf v).toNat)
  case atStart => exact ⟨0, 0, 0, [], Nat.zero_le _, rfl, h1, by decide, by decide, Nat.zero_le _, by rw [htot]; rfl, by rw [htot]; rfl⟩
  case round =>
    obtain ⟨k, H, M, o, hk, rfl, hC, hH, hM, ho, ht1, ht2⟩ := hrel
    by_cases hlt : k < l0.length
    · have q1 : decide ((k : Int) < (l0.length : Int)) = true := decide_eq_true (by omega)
      have p1 : (k < l0.length) = True := eq_true hlt
      obtain ⟨ad, e, hx⟩ := Kd.at_int (Kd.C_below HR.out hC.hB) k (by omega) (by omega)
      subst e
      have hrd : rd l0 (k : Int) = l0[k] := by
        unfold rd
        rw [Int.toNat_natCast, List.getD_eq_getElem?_getD, List.getElem?_eq_getElem hlt]
        rfl
      have hx01 := List.all_eq_true.1 hl l0[k] (List.getElem_mem hlt)
      simp only [Bool.and_eq_true, decide_eq_true_eq] at hx01
      rw [List.drop_eq_getElem_cons hlt] at ht1 ht2
      rw [hrd] at hx
      obtain ⟨xn, hxn⟩ : ∃ xn : Nat, l0[k] = (xn : Int) := ⟨l0[k].toNat, by omega⟩
      rw [hxn] at hx hx01 ht1 ht2
      have hT := cut_take hS hne ⟨by decide, by decide⟩ 8 xn (Nat.le_refl 8) (by omega) hH hM (by omega) hC
      have hTi := cutTake_in 6 8 xn H M ⟨by decide, by decide⟩ (Nat.le_refl 8) (by omega) hH hM
      simp only [cutAll, Int.toNat_natCast] at ht1 ht2
      have b1 : (xn : Int) ≤ 255 := hx01.2
      rw [show ((8 : Nat) : Int) = 8 from rfl] at hT
      generalize cutTake 6 8 xn H M = t2 at hT hTi ht1 ht2
      have HH1 := Aside0.mk ht1
      have HH2 := Aside0.mk ht2
      rw [Int.toNat_natCast] at hx
      clear hx01 hrd hxn ht1 ht2
      go_wp2_with (go_at_call 25; refine hT.mono ?_; rintro e w2 ⟨rfl, hC2⟩)
      go_roundw
      case rel =>
        refine ⟨k + 1, t2.2.1, t2.2.2, o ++ t2.1, by omega, by go_num, hC2, hTi.1, hTi.2.1, ?_, ?_, HH2.out⟩
        · have := hTi.2.2
          rw [List.length_append]
          omega
        · rw [List.append_assoc]
          exact HH1.out
      case measure => simp only [intOf]; omega
    · have q1 : decide ((k : Int) < (l0.length : Int)) = false := decide_eq_false (by omega)
      rw [List.drop_of_length_le (by omega)] at ht1 ht2
      simp only [cutAll, List.append_nil] at ht1 ht2
      have hRp := fun W => Try.strings_Repeat ⟨#[61]⟩ ((3 - l0.length % 3) % 3) W (by omega) (by show 1 * _ ≤ _; omega)
      have ec2 : (((3 - l0.length % 3) % 3 : Nat) : Int) = (-((l0.length : Int) % 3)) % 3 := by omega
      rw [ec2] at hRp
      have hrep : Lib.repeatL (⟨#[61]⟩ : ByteArray).data.toList ((3 - l0.length % 3) % 3) = List.replicate ((3 - l0.length % 3) % 3) 61 := sx_rep _
      rw [hrep] at hRp
      have hp3 : ((3 - l0.length % 3) % 3) ≤ 2 := by omega
      have hol : o.length ≤ 300000 := by omega
      clear ec2 hrep
      by_cases hr : 0 < l0.length % 3
      · have q2 : decide (0 < (l0.length : Int) % 3) = true := decide_eq_true (by omega)
        have hT := cut_take hS hne ⟨by decide, by decide⟩ (2 * (3 - l0.length % 3)) 0 (by omega) (Nat.two_pow_pos _) hH hM (by omega) hC
        have hTi := (cutTake_in 6 (2 * (3 - l0.length % 3)) 0 H M ⟨by decide, by decide⟩ (by omega) (Nat.two_pow_pos _) hH hM).2.2
        have ec : ((2 * (3 - l0.length % 3) : Nat) : Int) = 2 * (3 - (l0.length : Int) % 3) := by omega
        rw [ec, show ((0 : Nat) : Int) = 0 from rfl] at hT
        have he : sxEnc l0 = (o ++ (cutTake 6 (2 * (3 - l0.length % 3)) 0 H M).1).map sxLetter ++ List.replicate ((3 - l0.length % 3) % 3) 61 := by
          unfold sxEnc
          rw [← htot, if_pos hr, ← ht1, ← ht2]
        have HH1 := Aside0.mk he
        generalize (cutTake 6 (2 * (3 - l0.length % 3)) 0 H M) = t2 at hT hTi HH1
        clear ht1 ht2 ec hl htot hn hk he
        go_wp2_with (first | (go_at_call 25; refine hT.mono ?_; rintro e w2 ⟨rfl, hC2⟩; have hSt := Try.Builder_String_any_k w.heap.size w.heap.size ((o ++ t2.1).map sxLetter) w2 hC2.hI hC2.hB.size) | (go_at_call 18; refine hSt.mono ?_; rintro e w3 ⟨rfl, _, hb3, _⟩) | (go_at_call 19; refine (hRp _).mono ?_; rintro e w4 ⟨rfl, hb4⟩))
        go_ret
        refine ⟨?_, ((hC2.hB.trans hb3).trans ⟨hb4.os, hb4.tape, hb4.output, hb4.size, fun j hj => hb4.block j (Nat.lt_of_lt_of_le hj (hC2.hB.trans hb3).size)⟩)⟩
        rw [HH1.out]
        refine congrArg Ending.returned (congrArg Value.string (ByteArray.ext ?_))
        simp
      · have q2 : decide (0 < (l0.length : Int) % 3) = false := decide_eq_false (by omega)
        have he : sxEnc l0 = o.map sxLetter ++ List.replicate ((3 - l0.length % 3) % 3) 61 := by
          unfold sxEnc
          rw [← htot, if_neg hr, ← ht1, List.append_nil]
        have HH1 := Aside0.mk he
        have hSt := Try.Builder_String_any_k w.heap.size w.heap.size (o.map sxLetter) wr hC.hI hC.hB.size
        clear ht1 ht2 hl htot hn hk he
        go_wp2_with (first | (go_at_call 18; refine hSt.mono ?_; rintro e w3 ⟨rfl, _, hb3, _⟩) | (go_at_call 19; refine (hRp _).mono ?_; rintro e w4 ⟨rfl, hb4⟩))
        go_ret
        refine ⟨?_, ((hC.hB.trans hb3).trans ⟨hb4.os, hb4.tape, hb4.output, hb4.size, fun j hj => hb4.block j (Nat.lt_of_lt_of_le hj (hC.hB.trans hb3).size)⟩)⟩
        rw [HH1.out]
        refine congrArg Ending.returned (congrArg Value.string (ByteArray.ext ?_))
        simp

end Go.Proofs.Ytnlggkihjfobkaa.P
