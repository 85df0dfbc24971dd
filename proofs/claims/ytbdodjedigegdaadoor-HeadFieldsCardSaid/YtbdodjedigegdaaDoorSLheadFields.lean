import Derived.Test.YtbdodjedigegdaaDoorSLheadValues
namespace Go.Proofs.YtbdodjedigegdaaDoor.P
open Go.RowKit Go.Proofs.YtbdodjedigegdaaDoorW.PrintWords Go.Proofs.YtbdodjedigegdaaDoorW.PrintLast Go.Proofs.YtbdodjedigegdaaDoorW.PrintMore
set_option linter.unusedVariables false
set_option linter.unusedSimpArgs false
set_option linter.unnecessarySimpa false
attribute [local go_sem] max2_int min2_int max_two min_two max_three min_three max_four min_four
set_option linter.unusedVariables false
set_option linter.unusedSimpArgs false
set_option linter.unnecessarySimpa false
/-! ### HeadFields -/
theorem run_one (w : World) (v : UInt8) : (convert 26 9 (.slice (some ⟨w.heap.size, 0, none⟩) 1 1)).run Tryd.prog (w.alloc (.cells #[.int .u8 (v.toNat : Int)] 5)) = .ok (.string ⟨#[v]⟩) (w.alloc (.cells #[.int .u8 (v.toNat : Int)] 5)) := by
  have h := string_of_reads (P := Tryd.prog) (c := 1) Tryd.underlying26 Tryd.underlying5 Tryd.underlying9 (lit_u8 w [v] 5 (0, 0) (by show 1 ≤ 1000000; omega))
  rw [strOf_u8] at h
  exact h
def nmB (i : Nat) : UInt8 := (97 + i).toUInt8
def vlB (i : Nat) : UInt8 := (65 + i).toUInt8
def sF (gap : Bool) : Nat → ByteArray
  | 0 => ⟨#[65, 13, 10]⟩
  | i + 1 => if gap = true then ((sF gap i ++ ⟨#[110]⟩ ++ ⟨#[nmB i]⟩ ++ ⟨#[58]⟩) ++ ⟨#[32, 9]⟩) ++ ⟨#[vlB i]⟩ ++ ⟨#[13, 10]⟩ else (sF gap i ++ ⟨#[110]⟩ ++ ⟨#[nmB i]⟩ ++ ⟨#[58]⟩) ++ ⟨#[vlB i]⟩ ++ ⟨#[13, 10]⟩
theorem sF_size (gap : Bool) : ∀ i, (sF gap i).size ≤ 3 + 9 * i
  | 0 => Nat.le_refl _
  | i + 1 => by
    have ih := sF_size gap i
    have e : ∀ (a b : ByteArray), (a ++ b).size = a.size + b.size := fun a b => ByteArray.size_append
    have z : ∀ l : Array UInt8, (⟨l⟩ : ByteArray).size = l.size := fun _ => rfl
    unfold sF
    cases gap
    · rw [if_neg (by decide)]
      simp only [e, z]
      simp
      omega
    · rw [if_pos rfl]
      simp only [e, z]
      simp
      omega
theorem run_nm (i : Nat) (hi : i ≤ 20) (w : World) : (convert 26 9 (.slice (some ⟨w.heap.size, 0, none⟩) 1 1)).run Tryd.prog (w.alloc (.cells #[.int .u8 (97 + (i : Int))] 5)) = .ok (.string ⟨#[nmB i]⟩) (w.alloc (.cells #[.int .u8 (97 + (i : Int))] 5)) := by
  have h := run_one w (nmB i)
  rw [show ((nmB i).toNat : Int) = 97 + (i : Int) by unfold nmB; simp; omega] at h
  exact h
theorem run_vl (i : Nat) (hi : i ≤ 20) (w : World) : (convert 26 9 (.slice (some ⟨w.heap.size, 0, none⟩) 1 1)).run Tryd.prog (w.alloc (.cells #[.int .u8 (65 + (i : Int))] 5)) = .ok (.string ⟨#[vlB i]⟩) (w.alloc (.cells #[.int .u8 (65 + (i : Int))] 5)) := by
  have h := run_one w (vlB i)
  rw [show ((vlB i).toNat : Int) = 65 + (i : Int) by unfold vlB; simp; omega] at h
  exact h
def fieldsF (n : Nat) : List (ByteArray × ByteArray) := (List.range n).map fun i => (⟨#[110, nmB i]⟩, ⟨#[vlB i]⟩)
def chkF (gap : Bool) (n : Nat) : Bool := (let r := takeT (sF gap n ++ ⟨#[13, 10]⟩).data.toList; decide (r.e = 0) && decide (r.n = (sF gap n).size + 2) && decide (r.line = ⟨#[65]⟩) && decide (r.fields = fieldsF n))
theorem chk_all (gap : Bool) : (List.range 17).all (chkF gap) = true := by cases gap <;> kernel_rfl
theorem takeF (gap : Bool) {n : Nat} (hn : n ≤ 16) : takeT (sF gap n ++ ⟨#[13, 10]⟩).data.toList = ⟨0, (sF gap n).size + 2, ⟨#[65]⟩, fieldsF n⟩ := by
  have h := List.all_eq_true.1 (chk_all gap) n (List.mem_range.2 (by omega))
  unfold chkF at h
  simp only [Bool.and_eq_true, decide_eq_true_eq] at h
  obtain ⟨⟨⟨h1, h2⟩, h3⟩, h4⟩ := h
  generalize takeT (sF gap n ++ ⟨#[13, 10]⟩).data.toList = r at *
  obtain ⟨a, b, c, d⟩ := r
  simp only at h1 h2 h3 h4
  rw [h1, h2, h3, h4]
theorem evF5 (gap : Bool) : (takeT (sF gap 16).data.toList).e = 5 := by cases gap <;> kernel_rfl
theorem evF3 (gap : Bool) : (takeT (sF gap 16 ++ ⟨#[120]⟩).data.toList).e = 3 := by cases gap <;> kernel_rfl
theorem evF6 (gap : Bool) : (takeT (sF gap 16 ++ ⟨#[32]⟩).data.toList).e = 6 := by cases gap <;> kernel_rfl
theorem vals_all : (List.range 17).all (fun n => (List.range n).all fun i => decide (valsOf (fieldsF n) ⟨#[110, nmB i]⟩ = [⟨#[vlB i]⟩])) = true := by kernel_rfl
theorem valsF {n i : Nat} (hn : n ≤ 16) (hi : i < n) : valsOf (fieldsF n) ⟨#[110, nmB i]⟩ = [⟨#[vlB i]⟩] := by
  have h := List.all_eq_true.1 vals_all n (List.mem_range.2 (by omega))
  have h2 := List.all_eq_true.1 h i (List.mem_range.2 hi)
  exact of_decide_eq_true h2
theorem fieldsF_len (n : Nat) : (fieldsF n).length = n := by unfold fieldsF; simp
theorem fieldsF_get {n i : Nat} (hi : i < n) : (fieldsF n).getD i (⟨#[]⟩, ⟨#[]⟩) = (⟨#[110, nmB i]⟩, ⟨#[vlB i]⟩) := by
  unfold fieldsF
  rw [List.getD_eq_getElem?_getD, List.getElem?_map, List.getElem?_range hi]
  rfl
theorem nm_app (x : UInt8) : (⟨#[110, x]⟩ : ByteArray) = ⟨#[110]⟩ ++ ⟨#[x]⟩ := by
  refine ByteArray.ext ?_
  rw [ByteArray.data_append]
  rfl
theorem conv_one {X : World} {b : Nat} {v : UInt8} {n : Int} (hv : (v.toNat : Int) = n) (h : X.heap[b]? = some (.cells #[.int .u8 n] 5 (0, 0))) : (convert 26 9 (.slice (some ⟨b, 0, none⟩) 1 1)).run Tryd.prog X = .ok (.string ⟨#[v]⟩) X := by
  subst hv
  have hr : ReadsInt X .u8 (some ⟨b, 0, none⟩) 1 ([v].map fun b => (b.toNat : Int)) := ⟨rfl, by omega, fun _ => ⟨_, rfl, fun j hj => by
    obtain rfl : j = 0 := by omega
    rw [Addr.add_lit, Nat.zero_add, Lib.cell_of_heap h]
    rfl⟩⟩
  have h := string_of_reads (P := Tryd.prog) (c := 1) Tryd.underlying26 Tryd.underlying5 Tryd.underlying9 hr
  rw [strOf_u8] at h
  exact h
theorem run_nmB {X : World} {b : Nat} (j : Nat) (hj : j ≤ 20) (h : X.heap[b]? = some (.cells #[.int .u8 (97 + (j : Int))] 5 (0, 0))) : (convert 26 9 (.slice (some ⟨b, 0, none⟩) 1 1)).run Tryd.prog X = .ok (.string ⟨#[nmB j]⟩) X := conv_one (by unfold nmB; simp; omega) h
theorem run_vlB {X : World} {b : Nat} (j : Nat) (hj : j ≤ 20) (h : X.heap[b]? = some (.cells #[.int .u8 (65 + (j : Int))] 5 (0, 0))) : (convert 26 9 (.slice (some ⟨b, 0, none⟩) 1 1)).run Tryd.prog X = .ok (.string ⟨#[vlB j]⟩) X := conv_one (by unfold vlB; simp; omega) h
theorem convr_ {Q : Exit → Act → World → Prop} {ops : Array Oper} {oi : Oper} {N : Option Tmp} {a : Act} {w : World} {K : Act → World → Prop} (hw : Region.wanted oi (yielded ops a.tmps) = true) (hN : oi.dst = N) (x : Operand) (ho : oi.op = .convert 26 9 x) (b : Nat) (v : UInt8) (hs : a.eval x = .slice (some ⟨b, 0, none⟩) 1 1)
    (hr : (convert 26 9 (.slice (some ⟨b, 0, none⟩) 1 1)).run Tryd.prog w = .ok (.string ⟨#[v]⟩) w) (h : K (a.put N (.string ⟨#[v]⟩)) w) :
    if Region.wanted oi (yielded ops a.tmps) = true then Oper.wp Tryd.prog oi a w K Q else K (a.put N undef) w := by
  refine value_ (w1 := w) (v := .string ⟨#[v]⟩) hw hN ?_ h
  unfold execOp
  simp [ho, hs, hr, Result.andThen]
theorem one_str {U : World} {base : Nat} {e : TypeId} {v : Value} {y : ByteArray} (h : U.ownsRow base e 1 v 1 [.string y]) : ∃ g c, v = .slice (some ⟨g, 0, none⟩) 1 c ∧ U.cell? ⟨g, 0, none⟩ = some (.string y) := by
  rcases h.2 with ⟨_, h0⟩ | ⟨g, cap, cur, rfl, hg, hh, hnc, hcm, hsz, htk⟩
  · exact absurd h0 (by decide)
  · refine ⟨g, cap, rfl, ?_⟩
    rw [Lib.cell_of_heap hh]
    have h1 : (cur.toList.take (1 * 1))[0]? = some (.string y) := by rw [htk]; rfl
    rw [List.getElem?_take_of_lt (by decide), Array.getElem?_toList] at h1
    exact h1
set_option maxRecDepth 100000 in
set_option maxHeartbeats 8000000 in
theorem hm_fields (f : Int) (gap : Bool) (W : World) (hf : 0 ≤ f ∧ f < 256) :
    Calls Tryd.prog 6 #[.int .u8 f, .bool gap] W fun e W' => e = .returned (.bool true) ∧ Below W.heap.size W W' := by
  have AW := hd_awake W
  obtain ⟨n, hn⟩ := Int.eq_ofNat_of_zero_le hf.1
  have hmod : Int.tmod f 21 = ((n % 21 : Nat) : Int) := by rw [hn]; rfl
  generalize hN : n % 21 = N at hmod
  have hN21 : N < 21 := by omega
  clear hN hn hf
  cases gap with
  | true =>
    go_enter Tryd.func6, Tryd.ntmps6
    go_wp2_with (go_at_call 22; (with_reducible refine AW.mono ?_); rintro e w1 ⟨rfl, b1⟩)
    go_loopw [6, 7] (fun v u wr => ∃ i : Nat, u = .int .i64 (i : Int) ∧ i ≤ N ∧ i ≤ 16 ∧ v = .string (sF true i) ∧ Aside0 (Below W.heap.size W wr)) (fun _ u _ => 16 - (intOf u).toNat)
    case atStart => exact ⟨0, rfl, Nat.zero_le _, Nat.zero_le _, rfl, ⟨b1⟩⟩
    case round =>
      obtain ⟨i, rfl, hiN, hi16, rfl, HB⟩ := hrel
      have HS := Aside0.mk (show sF true (i + 1) = ((sF true i ++ ⟨#[110]⟩ ++ ⟨#[nmB i]⟩ ++ ⟨#[58]⟩) ++ ⟨#[32, 9]⟩) ++ ⟨#[vlB i]⟩ ++ ⟨#[13, 10]⟩ from rfl)
      by_cases hlt : i < N ∧ i < 16
      · have n1 : decide (i < N) = true := decide_eq_true hlt.1
        have p1 : decide ((i : Int) < (N : Int)) = true := decide_eq_true (by omega)
        have p2 : decide ((i : Int) < 16) = true := decide_eq_true (by omega)
        have n2 : decide (i < 16) = true := decide_eq_true hlt.2
        have hs := sF_size true i
        have KA := fun w => run_nm i (by omega) w
        have KB : ∀ o : Obj, (convert 26 9 (.slice (some ⟨wr.heap.size + 1, 0, none⟩) 1 1)).run Tryd.prog ((wr.alloc o).alloc (.cells #[.int .u8 (65 + (i : Int))] 5)) = .ok (.string ⟨#[vlB i]⟩) ((wr.alloc o).alloc (.cells #[.int .u8 (65 + (i : Int))] 5)) := fun o => by
          have h := run_vl i (by omega) (wr.alloc o)
          rw [alloc_sz] at h
          exact h
        have HB1 := (HB.out.alloc HB.out.size (.cells #[.int .u8 (97 + (i : Int))] 5))
        have HB2 := Aside0.mk (HB1.alloc HB1.size (.cells #[.int .u8 (65 + (i : Int))] 5))
        have HI := Aside0.mk hlt
        clear HB1
        have szA : ∀ (a : ByteArray) (l : Array UInt8), (a ++ ⟨l⟩ : ByteArray).size = a.size + l.size := fun a l => ByteArray.size_append
        have hs2 : (sF true i).size ≤ 200 := by omega
        clear hs
        generalize sF true i = s at *
        go_wp2
        go_roundw
        case rel => exact ⟨i + 1, by go_num, HI.out.1, HI.out.2, by rw [HS.out], HB2⟩
        case measure => have := HI.out.2; simp only [intOf]; omega
      · have hsz := sF_size true i
        by_cases h16 : 16 < N
        · obtain rfl : i = 16 := by omega
          have p1 : decide ((16 : Int) < (N : Int)) = true := decide_eq_true (by omega)
          have n1 : decide (16 < N) = true := decide_eq_true h16
          have szA : ∀ (a : ByteArray) (l : Array UInt8), (a ++ ⟨l⟩ : ByteArray).size = a.size + l.size := fun a l => ByteArray.size_append
          obtain ⟨S, hS⟩ : ∃ S, S = sF true 16 := ⟨_, rfl⟩
          have hs2 : S.size ≤ 200 := by rw [hS]; omega
          have T5 := fun W1 => tl_of S 5 (by decide) (by omega) (by rw [hS]; exact evF5 true) W1
          have T3 := fun W1 => tl_of (S ++ ⟨#[120]⟩) 3 (by decide) (by rw [szA]; show S.size + 1 ≤ _; omega) (by rw [hS]; exact evF3 true) W1
          have T6 := fun W1 => tl_of (S ++ ⟨#[32]⟩) 6 (by decide) (by rw [szA]; show S.size + 1 ≤ _; omega) (by rw [hS]; exact evF6 true) W1
          rw [← hS]
          have hB := HB.out
          clear hS HS hsz HB
          go_wp2_with (first | (go_at_call 23; (with_reducible refine (T5 _).mono ?_); rintro e v5 ⟨rfl, c5⟩; have C5 := below_then hB hB.size c5) | (go_at_call 23; (with_reducible refine (T3 _).mono ?_); rintro e v3 ⟨rfl, c3⟩; have C3 := below_then C5 C5.size c3) | (go_at_call 23; (with_reducible refine (T6 _).mono ?_); rintro e v6 ⟨rfl, c6⟩; have C6 := below_then C3 C3.size c6))
          go_ret
          exact ⟨rfl, C6⟩
        · obtain rfl : i = N := by omega
          have p1 : decide ((i : Int) < (i : Int)) = false := decide_eq_false (by omega)
          have n1 : decide (i < i) = false := decide_eq_false (by omega)
          have p2 : decide ((16 : Int) < (i : Int)) = false := decide_eq_false (by omega)
          have n2 : decide (16 < i) = false := decide_eq_false h16
          have szA : ∀ (a : ByteArray) (l : Array UInt8), (a ++ ⟨l⟩ : ByteArray).size = a.size + l.size := fun a l => ByteArray.size_append
          have hTF := takeF true (n := i) (by omega)
          have hFL := fieldsF_len i
          have HFG := Aside0.mk (fun j (hj : j < i) => fieldsF_get hj)
          have HVF := Aside0.mk (fun j (hj : j < i) => valsF (by omega : i ≤ 16) hj)
          obtain ⟨S, hS⟩ : ∃ S, S = sF true i := ⟨_, rfl⟩
          have hs2 : S.size ≤ 200 := by rw [hS]; omega
          rw [← hS] at hTF ⊢
          clear hS HS hsz
          obtain ⟨S2, hS2⟩ : ∃ S2, S2 = S ++ ⟨#[13, 10]⟩ := ⟨_, rfl⟩
          have hS2s : S2.size = S.size + 2 := by rw [hS2, szA]; rfl
          have hcv := Lib.run_convert_string_bytes (P := Tryd.prog) wr 9 26 5 (S ++ ⟨#[13, 10]⟩) Tryd.underlying9 Tryd.underlying26 Tryd.underlying5
          have TK := hd_Take S2.data.toList _ (grownCap wr S2.size 0 5) _ (by rw [data_length]; omega) (bytes_u8 wr 5 S2 (by omega))
          have es : (S ++ ⟨#[13, 10]⟩ : ByteArray).size = S.size + 2 := by rw [szA]; rfl
          rw [hS2, hTF, data_length] at TK
          have hb0 := below_then HB.out HB.out.size (below_bytes wr 5 (S ++ ⟨#[13, 10]⟩))
          generalize Lib.bytesWorld wr 5 (S ++ ⟨#[13, 10]⟩) = w3 at *
          generalize grownCap wr (S ++ ⟨#[13, 10]⟩).size 0 5 = cap at *
          rw [es] at TK
          clear es
          have HS2 := Aside0.mk (And.intro hS2 hS2s)
          clear hS2 hS2s hTF
          generalize fieldsF i = FF at *
          go_wp2_with (go_at_call 20; (with_reducible refine TK.mono ?_); rintro e w4 ⟨vf, rfl, ho, b4⟩; have b5 := below_then hb0 hb0.size b4; obtain ⟨A2, q2, ev, -⟩ := spr_slice ho; subst ev; have hR := (rdp_own ho).2; clear ho)
          have bL := b5.alloc b5.size (.cells #[.string ⟨#[65]⟩, .slice A2 i q2] 24)
          have hH := blk_new w4 (.cells #[.string ⟨#[65]⟩, .slice A2 i q2] 24)
          have hR2 := hR.below ((Below.refl _ w4).alloc (Nat.le_refl _) (.cells #[.string ⟨#[65]⟩, .slice A2 i q2] 24))
          have EQ := fun (a b c e : ByteArray) (w : World) => run_eq2 9998 a b c e w
          clear hR TK hcv
          generalize w4.alloc (.cells #[.string ⟨#[65]⟩, .slice A2 i q2] 24) = wl at *
          generalize w4.heap.size = H at *
          have hHlt := blk_lt hH
          go_loopw [11] (fun v wq => ∃ j : Nat, v = .int .i64 (j : Int) ∧ j ≤ i ∧ Aside0 (Below wl.heap.size wl wq)) (fun v _ => i - (intOf v).toNat)
          case atStart => exact ⟨0, rfl, Nat.zero_le _, ⟨Below.refl _ _⟩⟩
          case round =>
            obtain ⟨j, rfl, hji, HBq⟩ := hrel
            by_cases hjl : j < i
            · have p3 : decide ((j : Int) < (i : Int)) = true := decide_eq_true (by omega)
              have n3 : decide (j < i) = true := decide_eq_true hjl
              have hj16 : j ≤ 20 := by omega
              have hji2 : (j : Int) < (i : Int) := by omega
              rcases hR2 with h0 | ⟨b, off, rfl, hcs⟩
              · rw [h0] at hFL
                exact absurd hjl (by rw [← hFL]; exact Nat.not_lt_zero _)
              obtain ⟨k1, k2⟩ := hcs j (by omega)
              rw [HFG.out j hjl] at k1 k2
              have hx : (⟨#[110, nmB j]⟩ : ByteArray) = ⟨#[110]⟩ ++ ⟨#[nmB j]⟩ := nm_app _
              simp only at k1 k2
              rw [hx] at k1
              have h00 := (blk_cell hH 0).trans rfl
              have h01 := (blk_cell hH 1).trans rfl
              have rd : ∀ U : World, Below wl.heap.size wl U → U.cell? ⟨H, 0, none⟩ = some (.string ⟨#[65]⟩) ∧ U.cell? ⟨H, 1, none⟩ = some (.slice (some ⟨b, off, none⟩) i q2) ∧ U.cell? ⟨b, off + j * 2, none⟩ = some (.string (⟨#[110]⟩ ++ ⟨#[nmB j]⟩)) ∧ U.cell? ⟨b, off + j * 2 + 1, none⟩ = some (.string ⟨#[vlB j]⟩) := fun U hU => ⟨(hU.cell (cell_lt h00)).trans h00, (hU.cell (cell_lt h01)).trans h01, (hU.cell (cell_lt k1)).trans k1, (hU.cell (cell_lt k2)).trans k2⟩
              have VL : ∀ U : World, Below wl.heap.size wl U → Calls Tryd.prog 13 #[.agg #[.string ⟨#[65]⟩, .slice (some ⟨b, off, none⟩) i q2], .string (⟨#[110]⟩ ++ ⟨#[nmB j]⟩)] U fun e W' => ∃ v, e = .returned v ∧ W'.ownsRow U.heap.size 9 1 v 1 [.string ⟨#[vlB j]⟩] ∧ Below U.heap.size U W' := fun U hU => by
                have h := hd_Values ⟨#[65]⟩ (⟨#[110]⟩ ++ ⟨#[nmB j]⟩) FF (some ⟨b, off, none⟩) q2 U (by omega) (RdP.below (.inr ⟨b, off, rfl, hcs⟩) hU)
                rw [← hx, HVF.out j hjl, hFL] at h
                rw [← hx]
                exact h
              have drew_sz : ∀ U : World, U.drew.heap.size = U.heap.size := fun _ => rfl
              have hw1 : wrap64 (97 + (j : Int)) = 97 + (j : Int) := by unfold wrap64; omega
              have hw2 : wrap64 (65 + (j : Int)) = 65 + (j : Int) := by unfold wrap64; omega
              have hw3 : IntKind.u8.wrap (97 + (j : Int)) = 97 + (j : Int) := by simp only [IntKind.wrap, IntKind.bits, IntKind.signed]; simp; omega
              have hw4 : IntKind.u8.wrap (65 + (j : Int)) = 65 + (j : Int) := by simp only [IntKind.wrap, IntKind.bits, IntKind.signed]; simp; omega
              have HI := Aside0.mk hjl
              have hbd : Below wl.heap.size wl wr.drew := HBq.out.drew
              clear h00 h01 k1 k2 hcs hx hFL
              go_upto_region 20 with fail
              go_cut [107] from 85 to 130 (fun q wx => q = .bool false ∧ Below wl.heap.size wl wx)
              case first =>
                refine start_ (n := 18) (S := fun w' => (w'.cell? ⟨H, 0, none⟩ = some (.string ⟨#[65]⟩)) ∧ (w'.cell? ⟨H, 1, none⟩ = some (.slice (some ⟨b, off, none⟩) i q2)) ∧ (w'.cell? ⟨b, off + j * 2, none⟩ = some (.string (⟨#[110]⟩ ++ ⟨#[nmB j]⟩))) ∧ (w'.cell? ⟨b, off + j * 2 + 1, none⟩ = some (.string ⟨#[vlB j]⟩)) ∧ (Below wl.heap.size wl w')) (ds := []) #[false, false, false, false, false, false, false, false, false, false, false, false, false, false, false, false, false, false] (by kernel_rfl) rfl rfl ⟨(rd _ hbd).1, (rd _ hbd).2.1, (rd _ hbd).2.2.1, (rd _ hbd).2.2.2, hbd⟩ (fun hHeld => ?_)
                refine pure_ (i := 0) (N := some 90) (v := ?_) (a' := ?_) #[true, false, false, false, false, false, false, false, false, false, false, false, false, false, false, false, false, false] rfl rfl (by kernel_rfl) (fun _ _ _ h => h) (Or.inl ⟨by rfl, ?_⟩) ?_ ?_
                rotate_left
                · intro w'
                  go_simp
                  with_reducible rfl
                rotate_left
                · simp only [Act.put, List.setIfInBounds_toArray, List.set_cons_zero, List.set_cons_succ, i64_w, i32_w]
                  rfl
                refine pure_ (i := 2) (N := some 92) (v := ?_) (a' := ?_) #[true, false, true, false, false, false, false, false, false, false, false, false, false, false, false, false, false, false] rfl rfl (by kernel_rfl) (fun _ _ _ h => h) (Or.inl ⟨by rfl, ?_⟩) ?_ ?_
                rotate_left
                · intro w'
                  go_simp
                  with_reducible rfl
                rotate_left
                · simp only [Act.put, List.setIfInBounds_toArray, List.set_cons_zero, List.set_cons_succ, i64_w, i32_w]
                  rfl
                refine pure_ (i := 5) (N := some 95) (v := ?_) (a' := ?_) #[true, false, true, false, false, true, false, false, false, false, false, false, false, false, false, false, false, false] rfl rfl (by kernel_rfl) (fun _ _ _ h => h) (Or.inl ⟨by rfl, ?_⟩) ?_ ?_
                rotate_left
                · intro w'
                  go_simp
                  with_reducible rfl
                rotate_left
                · simp only [Act.put, List.setIfInBounds_toArray, List.set_cons_zero, List.set_cons_succ, i64_w, i32_w]
                  rfl
                refine pure_ (i := 6) (N := some 96) (v := ?_) (a' := ?_) #[true, false, true, false, false, true, true, false, false, false, false, false, false, false, false, false, false, false] rfl rfl (by kernel_rfl) (fun _ _ _ h => h) (Or.inl ⟨by rfl, ?_⟩) ?_ ?_
                rotate_left
                · intro w'
                  go_simp
                  with_reducible rfl
                rotate_left
                · simp only [Act.put, List.setIfInBounds_toArray, List.set_cons_zero, List.set_cons_succ, i64_w, i32_w]
                  rfl
                refine pure_ (i := 7) (N := some 97) (v := ?_) (a' := ?_) #[true, false, true, false, false, true, true, true, false, false, false, false, false, false, false, false, false, false] rfl rfl (by kernel_rfl) (fun _ _ _ h => h) (Or.inl ⟨by rfl, ?_⟩) ?_ ?_
                rotate_left
                · intro w'
                  go_simp
                  with_reducible rfl
                rotate_left
                · simp only [Act.put, List.setIfInBounds_toArray, List.set_cons_zero, List.set_cons_succ, i64_w, i32_w]
                  rfl
                refine pure_ (i := 11) (N := some 101) (v := ?_) (a' := ?_) #[true, false, true, false, false, true, true, true, false, false, false, true, false, false, false, false, false, false] rfl rfl (by kernel_rfl) (fun _ _ _ h => h) (Or.inl ⟨by rfl, ?_⟩) ?_ ?_
                rotate_left
                · intro w'
                  go_simp
                  with_reducible rfl
                rotate_left
                · simp only [Act.put, List.setIfInBounds_toArray, List.set_cons_zero, List.set_cons_succ, i64_w, i32_w]
                  rfl
                refine pure_ (i := 12) (N := some 102) (v := ?_) (a' := ?_) #[true, false, true, false, false, true, true, true, false, false, false, true, true, false, false, false, false, false] rfl rfl (by kernel_rfl) (fun _ _ _ h => h) (Or.inl ⟨by rfl, ?_⟩) ?_ ?_
                rotate_left
                · intro w'
                  go_simp
                  with_reducible rfl
                rotate_left
                · simp only [Act.put, List.setIfInBounds_toArray, List.set_cons_zero, List.set_cons_succ, i64_w, i32_w]
                  rfl
                refine pure_ (i := 13) (N := some 103) (v := ?_) (a' := ?_) #[true, false, true, false, false, true, true, true, false, false, false, true, true, true, false, false, false, false] rfl rfl (by kernel_rfl) (fun _ _ _ h => h) (Or.inl ⟨by rfl, ?_⟩) ?_ ?_
                rotate_left
                · intro w'
                  go_simp
                  with_reducible rfl
                rotate_left
                · simp only [Act.put, List.setIfInBounds_toArray, List.set_cons_zero, List.set_cons_succ, i64_w, i32_w]
                  rfl
                refine take_ (i := 1) (N := some 91) (v := ?_) (a' := ?_) #[true, true, true, false, false, true, true, true, false, false, false, true, true, true, false, false, false, false] rfl rfl (by kernel_rfl) (fun _ _ _ h => h) (Or.inl ⟨by rfl, ?_⟩) hHeld ?_ ?_
                rotate_left
                · rintro w' ⟨s0, s1, s2, s3, s4⟩
                  go_simp
                  with_reducible rfl
                rotate_left
                · simp only [Act.put, List.setIfInBounds_toArray, List.set_cons_zero, List.set_cons_succ, i64_w, i32_w]
                  rfl
                refine pure_ (i := 3) (N := some 93) (v := ?_) (a' := ?_) #[true, true, true, true, false, true, true, true, false, false, false, true, true, true, false, false, false, false] rfl rfl (by kernel_rfl) (fun _ _ _ h => h) (Or.inl ⟨by rfl, ?_⟩) ?_ ?_
                rotate_left
                · intro w'
                  go_simp
                  with_reducible rfl
                rotate_left
                · simp only [Act.put, List.setIfInBounds_toArray, List.set_cons_zero, List.set_cons_succ, i64_w, i32_w]
                  rfl
                refine take_ (i := 4) (N := some 94) (v := ?_) (a' := ?_) #[true, true, true, true, true, true, true, true, false, false, false, true, true, true, false, false, false, false] rfl rfl (by kernel_rfl) (fun _ _ _ h => h) (Or.inl ⟨by rfl, ?_⟩) hHeld ?_ ?_
                rotate_left
                · rintro w' ⟨s0, s1, s2, s3, s4⟩
                  go_simp
                  with_reducible rfl
                rotate_left
                · simp only [Act.put, List.setIfInBounds_toArray, List.set_cons_zero, List.set_cons_succ, i64_w, i32_w]
                  rfl
                refine two_ (i := 8) (j := 14) (Ni := some 98) (Nj := some 104) #[true, true, true, true, true, true, true, true, true, false, false, true, true, true, false, false, false, false] #[true, true, true, true, true, true, true, true, false, false, false, true, true, true, true, false, false, false] rfl rfl rfl rfl (by kernel_rfl) (by decide) (by decide) (fun K hK => ?_) (fun K hK => ?_)
                · skip
                  refine value_ (w1 := ?_) (v := ?_) (by rfl) rfl ?_ ?_
                  rotate_left 2
                  · go_simp
                    constructor
                    · rfl
                    · rfl
                  have hNa := blkNewOf hHeld.2.2.2.2 (.cells #[.int .u8 (97 + (j : Int))] 5)
                  have bN := hHeld.2.2.2.2.alloc hHeld.2.2.2.2.size (.cells #[.int .u8 (97 + (j : Int))] 5)
                  try have hVa := blk_alloc hVa (.cells #[.int .u8 (97 + (j : Int))] 5)
                  try simp only [alloc_sz, drew_sz] at hNa
                  refine hK.out _ _ ⟨(rd _ bN).1, (rd _ bN).2.1, (rd _ bN).2.2.1, (rd _ bN).2.2.2, bN⟩ (fun hHeld => ?_)
                  clear hK K
                  refine norm_ (a' := ?_) ?_ ?_
                  rotate_left
                  · show Act.put _ (some 98) _ = _
                    simp only [Act.put, List.setIfInBounds_toArray, List.set_cons_zero, List.set_cons_succ, i64_w, i32_w]
                    rfl
                  refine two_ (i := 9) (j := 14) (Ni := some 99) (Nj := some 104) #[true, true, true, true, true, true, true, true, true, true, false, true, true, true, false, false, false, false] #[true, true, true, true, true, true, true, true, true, false, false, true, true, true, true, false, false, false] rfl rfl rfl rfl (by kernel_rfl) (by decide) (by decide) (fun K hK => ?_) (fun K hK => ?_)
                  · skip
                    refine convr_ (by rfl) rfl _ (by rfl) _ _ (by rfl) (run_nmB j (by omega) hNa) ?_
                    refine hK.out _ _ ⟨(rd _ hHeld.2.2.2.2).1, (rd _ hHeld.2.2.2.2).2.1, (rd _ hHeld.2.2.2.2).2.2.1, (rd _ hHeld.2.2.2.2).2.2.2, hHeld.2.2.2.2⟩ (fun hHeld => ?_)
                    clear hK K
                    refine norm_ (a' := ?_) ?_ ?_
                    rotate_left
                    · show Act.put _ (some 99) _ = _
                      simp only [Act.put, List.setIfInBounds_toArray, List.set_cons_zero, List.set_cons_succ, i64_w, i32_w]
                      rfl
                    refine pure_ (i := 10) (N := some 100) (v := ?_) (a' := ?_) #[true, true, true, true, true, true, true, true, true, true, true, true, true, true, false, false, false, false] rfl rfl (by kernel_rfl) (fun _ _ _ h => h) (Or.inl ⟨by rfl, ?_⟩) ?_ ?_
                    rotate_left
                    · intro w'
                      go_simp
                      with_reducible rfl
                    rotate_left
                    · simp only [Act.put, List.setIfInBounds_toArray, List.set_cons_zero, List.set_cons_succ, i64_w, i32_w]
                      rfl
                    refine one_ (i := 14) (N := some 104) #[true, true, true, true, true, true, true, true, true, true, true, true, true, true, true, false, false, false] rfl rfl (by kernel_rfl) (by decide) (fun K hK => ?_)
                    refine value_ (w1 := ?_) (v := ?_) (by rfl) rfl ?_ ?_
                    rotate_left 2
                    · go_simp
                      constructor
                      · rfl
                      · rfl
                    have hVa := blkNewOf hHeld.2.2.2.2 (.cells #[.int .u8 (65 + (j : Int))] 5)
                    have bN := hHeld.2.2.2.2.alloc hHeld.2.2.2.2.size (.cells #[.int .u8 (65 + (j : Int))] 5)
                    try have hNa := blk_alloc hNa (.cells #[.int .u8 (65 + (j : Int))] 5)
                    try simp only [alloc_sz, drew_sz] at hVa
                    refine hK.out _ _ ⟨(rd _ bN).1, (rd _ bN).2.1, (rd _ bN).2.2.1, (rd _ bN).2.2.2, bN⟩ (fun hHeld => ?_)
                    clear hK K
                    refine norm_ (a' := ?_) ?_ ?_
                    rotate_left
                    · show Act.put _ (some 104) _ = _
                      simp only [Act.put, List.setIfInBounds_toArray, List.set_cons_zero, List.set_cons_succ, i64_w, i32_w]
                      rfl
                    refine one_ (i := 15) (N := some 105) #[true, true, true, true, true, true, true, true, true, true, true, true, true, true, true, true, false, false] rfl rfl (by kernel_rfl) (by decide) (fun K hK => ?_)
                    refine convr_ (by rfl) rfl _ (by rfl) _ _ (by rfl) (run_vlB j (by omega) hVa) ?_
                    refine hK.out _ _ ⟨(rd _ hHeld.2.2.2.2).1, (rd _ hHeld.2.2.2.2).2.1, (rd _ hHeld.2.2.2.2).2.2.1, (rd _ hHeld.2.2.2.2).2.2.2, hHeld.2.2.2.2⟩ (fun hHeld => ?_)
                    clear hK K
                    refine norm_ (a' := ?_) ?_ ?_
                    rotate_left
                    · show Act.put _ (some 105) _ = _
                      simp only [Act.put, List.setIfInBounds_toArray, List.set_cons_zero, List.set_cons_succ, i64_w, i32_w]
                      rfl
                    refine pure_ (i := 16) (N := some 106) (v := ?_) (a' := ?_) #[true, true, true, true, true, true, true, true, true, true, true, true, true, true, true, true, true, false] rfl rfl (by kernel_rfl) (fun _ _ _ h => h) (Or.inl ⟨by rfl, ?_⟩) ?_ ?_
                    rotate_left
                    · intro w'
                      go_simp
                      with_reducible rfl
                    rotate_left
                    · simp only [Act.put, List.setIfInBounds_toArray, List.set_cons_zero, List.set_cons_succ, i64_w, i32_w]
                      rfl
                    refine pure_ (i := 17) (N := some 107) (v := ?_) (a' := ?_) #[true, true, true, true, true, true, true, true, true, true, true, true, true, true, true, true, true, true] rfl rfl (by kernel_rfl) (fun _ _ _ h => h) (Or.inl ⟨by rfl, ?_⟩) ?_ ?_
                    rotate_left
                    · intro w'
                      go_simp
                      with_reducible rfl
                    rotate_left
                    · simp only [Act.put, List.setIfInBounds_toArray, List.set_cons_zero, List.set_cons_succ, i64_w, i32_w]
                      rfl
                    refine done_ (by kernel_rfl) ?_
                    go_wp2_with fail
                    go_meet
                    exact ⟨rfl, hHeld.2.2.2.2⟩
                  · skip
                    refine value_ (w1 := ?_) (v := ?_) (by rfl) rfl ?_ ?_
                    rotate_left 2
                    · go_simp
                      constructor
                      · rfl
                      · rfl
                    have hVa := blkNewOf hHeld.2.2.2.2 (.cells #[.int .u8 (65 + (j : Int))] 5)
                    have bN := hHeld.2.2.2.2.alloc hHeld.2.2.2.2.size (.cells #[.int .u8 (65 + (j : Int))] 5)
                    try have hNa := blk_alloc hNa (.cells #[.int .u8 (65 + (j : Int))] 5)
                    try simp only [alloc_sz, drew_sz] at hVa
                    refine hK.out _ _ ⟨(rd _ bN).1, (rd _ bN).2.1, (rd _ bN).2.2.1, (rd _ bN).2.2.2, bN⟩ (fun hHeld => ?_)
                    clear hK K
                    refine norm_ (a' := ?_) ?_ ?_
                    rotate_left
                    · show Act.put _ (some 104) _ = _
                      simp only [Act.put, List.setIfInBounds_toArray, List.set_cons_zero, List.set_cons_succ, i64_w, i32_w]
                      rfl
                    refine two_ (i := 9) (j := 15) (Ni := some 99) (Nj := some 105) #[true, true, true, true, true, true, true, true, true, true, false, true, true, true, true, false, false, false] #[true, true, true, true, true, true, true, true, true, false, false, true, true, true, true, true, false, false] rfl rfl rfl rfl (by kernel_rfl) (by decide) (by decide) (fun K hK => ?_) (fun K hK => ?_)
                    · skip
                      refine convr_ (by rfl) rfl _ (by rfl) _ _ (by rfl) (run_nmB j (by omega) hNa) ?_
                      refine hK.out _ _ ⟨(rd _ hHeld.2.2.2.2).1, (rd _ hHeld.2.2.2.2).2.1, (rd _ hHeld.2.2.2.2).2.2.1, (rd _ hHeld.2.2.2.2).2.2.2, hHeld.2.2.2.2⟩ (fun hHeld => ?_)
                      clear hK K
                      refine norm_ (a' := ?_) ?_ ?_
                      rotate_left
                      · show Act.put _ (some 99) _ = _
                        simp only [Act.put, List.setIfInBounds_toArray, List.set_cons_zero, List.set_cons_succ, i64_w, i32_w]
                        rfl
                      refine pure_ (i := 10) (N := some 100) (v := ?_) (a' := ?_) #[true, true, true, true, true, true, true, true, true, true, true, true, true, true, true, false, false, false] rfl rfl (by kernel_rfl) (fun _ _ _ h => h) (Or.inl ⟨by rfl, ?_⟩) ?_ ?_
                      rotate_left
                      · intro w'
                        go_simp
                        with_reducible rfl
                      rotate_left
                      · simp only [Act.put, List.setIfInBounds_toArray, List.set_cons_zero, List.set_cons_succ, i64_w, i32_w]
                        rfl
                      refine one_ (i := 15) (N := some 105) #[true, true, true, true, true, true, true, true, true, true, true, true, true, true, true, true, false, false] rfl rfl (by kernel_rfl) (by decide) (fun K hK => ?_)
                      refine convr_ (by rfl) rfl _ (by rfl) _ _ (by rfl) (run_vlB j (by omega) hVa) ?_
                      refine hK.out _ _ ⟨(rd _ hHeld.2.2.2.2).1, (rd _ hHeld.2.2.2.2).2.1, (rd _ hHeld.2.2.2.2).2.2.1, (rd _ hHeld.2.2.2.2).2.2.2, hHeld.2.2.2.2⟩ (fun hHeld => ?_)
                      clear hK K
                      refine norm_ (a' := ?_) ?_ ?_
                      rotate_left
                      · show Act.put _ (some 105) _ = _
                        simp only [Act.put, List.setIfInBounds_toArray, List.set_cons_zero, List.set_cons_succ, i64_w, i32_w]
                        rfl
                      refine pure_ (i := 16) (N := some 106) (v := ?_) (a' := ?_) #[true, true, true, true, true, true, true, true, true, true, true, true, true, true, true, true, true, false] rfl rfl (by kernel_rfl) (fun _ _ _ h => h) (Or.inl ⟨by rfl, ?_⟩) ?_ ?_
                      rotate_left
                      · intro w'
                        go_simp
                        with_reducible rfl
                      rotate_left
                      · simp only [Act.put, List.setIfInBounds_toArray, List.set_cons_zero, List.set_cons_succ, i64_w, i32_w]
                        rfl
                      refine pure_ (i := 17) (N := some 107) (v := ?_) (a' := ?_) #[true, true, true, true, true, true, true, true, true, true, true, true, true, true, true, true, true, true] rfl rfl (by kernel_rfl) (fun _ _ _ h => h) (Or.inl ⟨by rfl, ?_⟩) ?_ ?_
                      rotate_left
                      · intro w'
                        go_simp
                        with_reducible rfl
                      rotate_left
                      · simp only [Act.put, List.setIfInBounds_toArray, List.set_cons_zero, List.set_cons_succ, i64_w, i32_w]
                        rfl
                      refine done_ (by kernel_rfl) ?_
                      go_wp2_with fail
                      go_meet
                      exact ⟨rfl, hHeld.2.2.2.2⟩
                    · skip
                      refine convr_ (by rfl) rfl _ (by rfl) _ _ (by rfl) (run_vlB j (by omega) hVa) ?_
                      refine hK.out _ _ ⟨(rd _ hHeld.2.2.2.2).1, (rd _ hHeld.2.2.2.2).2.1, (rd _ hHeld.2.2.2.2).2.2.1, (rd _ hHeld.2.2.2.2).2.2.2, hHeld.2.2.2.2⟩ (fun hHeld => ?_)
                      clear hK K
                      refine norm_ (a' := ?_) ?_ ?_
                      rotate_left
                      · show Act.put _ (some 105) _ = _
                        simp only [Act.put, List.setIfInBounds_toArray, List.set_cons_zero, List.set_cons_succ, i64_w, i32_w]
                        rfl
                      refine one_ (i := 9) (N := some 99) #[true, true, true, true, true, true, true, true, true, true, false, true, true, true, true, true, false, false] rfl rfl (by kernel_rfl) (by decide) (fun K hK => ?_)
                      refine convr_ (by rfl) rfl _ (by rfl) _ _ (by rfl) (run_nmB j (by omega) hNa) ?_
                      refine hK.out _ _ ⟨(rd _ hHeld.2.2.2.2).1, (rd _ hHeld.2.2.2.2).2.1, (rd _ hHeld.2.2.2.2).2.2.1, (rd _ hHeld.2.2.2.2).2.2.2, hHeld.2.2.2.2⟩ (fun hHeld => ?_)
                      clear hK K
                      refine norm_ (a' := ?_) ?_ ?_
                      rotate_left
                      · show Act.put _ (some 99) _ = _
                        simp only [Act.put, List.setIfInBounds_toArray, List.set_cons_zero, List.set_cons_succ, i64_w, i32_w]
                        rfl
                      refine pure_ (i := 10) (N := some 100) (v := ?_) (a' := ?_) #[true, true, true, true, true, true, true, true, true, true, true, true, true, true, true, true, false, false] rfl rfl (by kernel_rfl) (fun _ _ _ h => h) (Or.inl ⟨by rfl, ?_⟩) ?_ ?_
                      rotate_left
                      · intro w'
                        go_simp
                        with_reducible rfl
                      rotate_left
                      · simp only [Act.put, List.setIfInBounds_toArray, List.set_cons_zero, List.set_cons_succ, i64_w, i32_w]
                        rfl
                      refine pure_ (i := 16) (N := some 106) (v := ?_) (a' := ?_) #[true, true, true, true, true, true, true, true, true, true, true, true, true, true, true, true, true, false] rfl rfl (by kernel_rfl) (fun _ _ _ h => h) (Or.inl ⟨by rfl, ?_⟩) ?_ ?_
                      rotate_left
                      · intro w'
                        go_simp
                        with_reducible rfl
                      rotate_left
                      · simp only [Act.put, List.setIfInBounds_toArray, List.set_cons_zero, List.set_cons_succ, i64_w, i32_w]
                        rfl
                      refine pure_ (i := 17) (N := some 107) (v := ?_) (a' := ?_) #[true, true, true, true, true, true, true, true, true, true, true, true, true, true, true, true, true, true] rfl rfl (by kernel_rfl) (fun _ _ _ h => h) (Or.inl ⟨by rfl, ?_⟩) ?_ ?_
                      rotate_left
                      · intro w'
                        go_simp
                        with_reducible rfl
                      rotate_left
                      · simp only [Act.put, List.setIfInBounds_toArray, List.set_cons_zero, List.set_cons_succ, i64_w, i32_w]
                        rfl
                      refine done_ (by kernel_rfl) ?_
                      go_wp2_with fail
                      go_meet
                      exact ⟨rfl, hHeld.2.2.2.2⟩
                · skip
                  refine value_ (w1 := ?_) (v := ?_) (by rfl) rfl ?_ ?_
                  rotate_left 2
                  · go_simp
                    constructor
                    · rfl
                    · rfl
                  have hVa := blkNewOf hHeld.2.2.2.2 (.cells #[.int .u8 (65 + (j : Int))] 5)
                  have bN := hHeld.2.2.2.2.alloc hHeld.2.2.2.2.size (.cells #[.int .u8 (65 + (j : Int))] 5)
                  try have hNa := blk_alloc hNa (.cells #[.int .u8 (65 + (j : Int))] 5)
                  try simp only [alloc_sz, drew_sz] at hVa
                  refine hK.out _ _ ⟨(rd _ bN).1, (rd _ bN).2.1, (rd _ bN).2.2.1, (rd _ bN).2.2.2, bN⟩ (fun hHeld => ?_)
                  clear hK K
                  refine norm_ (a' := ?_) ?_ ?_
                  rotate_left
                  · show Act.put _ (some 104) _ = _
                    simp only [Act.put, List.setIfInBounds_toArray, List.set_cons_zero, List.set_cons_succ, i64_w, i32_w]
                    rfl
                  refine two_ (i := 8) (j := 15) (Ni := some 98) (Nj := some 105) #[true, true, true, true, true, true, true, true, true, false, false, true, true, true, true, false, false, false] #[true, true, true, true, true, true, true, true, false, false, false, true, true, true, true, true, false, false] rfl rfl rfl rfl (by kernel_rfl) (by decide) (by decide) (fun K hK => ?_) (fun K hK => ?_)
                  · skip
                    refine value_ (w1 := ?_) (v := ?_) (by rfl) rfl ?_ ?_
                    rotate_left 2
                    · go_simp
                      constructor
                      · rfl
                      · rfl
                    have hNa := blkNewOf hHeld.2.2.2.2 (.cells #[.int .u8 (97 + (j : Int))] 5)
                    have bN := hHeld.2.2.2.2.alloc hHeld.2.2.2.2.size (.cells #[.int .u8 (97 + (j : Int))] 5)
                    try have hVa := blk_alloc hVa (.cells #[.int .u8 (97 + (j : Int))] 5)
                    try simp only [alloc_sz, drew_sz] at hNa
                    refine hK.out _ _ ⟨(rd _ bN).1, (rd _ bN).2.1, (rd _ bN).2.2.1, (rd _ bN).2.2.2, bN⟩ (fun hHeld => ?_)
                    clear hK K
                    refine norm_ (a' := ?_) ?_ ?_
                    rotate_left
                    · show Act.put _ (some 98) _ = _
                      simp only [Act.put, List.setIfInBounds_toArray, List.set_cons_zero, List.set_cons_succ, i64_w, i32_w]
                      rfl
                    refine two_ (i := 9) (j := 15) (Ni := some 99) (Nj := some 105) #[true, true, true, true, true, true, true, true, true, true, false, true, true, true, true, false, false, false] #[true, true, true, true, true, true, true, true, true, false, false, true, true, true, true, true, false, false] rfl rfl rfl rfl (by kernel_rfl) (by decide) (by decide) (fun K hK => ?_) (fun K hK => ?_)
                    · skip
                      refine convr_ (by rfl) rfl _ (by rfl) _ _ (by rfl) (run_nmB j (by omega) hNa) ?_
                      refine hK.out _ _ ⟨(rd _ hHeld.2.2.2.2).1, (rd _ hHeld.2.2.2.2).2.1, (rd _ hHeld.2.2.2.2).2.2.1, (rd _ hHeld.2.2.2.2).2.2.2, hHeld.2.2.2.2⟩ (fun hHeld => ?_)
                      clear hK K
                      refine norm_ (a' := ?_) ?_ ?_
                      rotate_left
                      · show Act.put _ (some 99) _ = _
                        simp only [Act.put, List.setIfInBounds_toArray, List.set_cons_zero, List.set_cons_succ, i64_w, i32_w]
                        rfl
                      refine pure_ (i := 10) (N := some 100) (v := ?_) (a' := ?_) #[true, true, true, true, true, true, true, true, true, true, true, true, true, true, true, false, false, false] rfl rfl (by kernel_rfl) (fun _ _ _ h => h) (Or.inl ⟨by rfl, ?_⟩) ?_ ?_
                      rotate_left
                      · intro w'
                        go_simp
                        with_reducible rfl
                      rotate_left
                      · simp only [Act.put, List.setIfInBounds_toArray, List.set_cons_zero, List.set_cons_succ, i64_w, i32_w]
                        rfl
                      refine one_ (i := 15) (N := some 105) #[true, true, true, true, true, true, true, true, true, true, true, true, true, true, true, true, false, false] rfl rfl (by kernel_rfl) (by decide) (fun K hK => ?_)
                      refine convr_ (by rfl) rfl _ (by rfl) _ _ (by rfl) (run_vlB j (by omega) hVa) ?_
                      refine hK.out _ _ ⟨(rd _ hHeld.2.2.2.2).1, (rd _ hHeld.2.2.2.2).2.1, (rd _ hHeld.2.2.2.2).2.2.1, (rd _ hHeld.2.2.2.2).2.2.2, hHeld.2.2.2.2⟩ (fun hHeld => ?_)
                      clear hK K
                      refine norm_ (a' := ?_) ?_ ?_
                      rotate_left
                      · show Act.put _ (some 105) _ = _
                        simp only [Act.put, List.setIfInBounds_toArray, List.set_cons_zero, List.set_cons_succ, i64_w, i32_w]
                        rfl
                      refine pure_ (i := 16) (N := some 106) (v := ?_) (a' := ?_) #[true, true, true, true, true, true, true, true, true, true, true, true, true, true, true, true, true, false] rfl rfl (by kernel_rfl) (fun _ _ _ h => h) (Or.inl ⟨by rfl, ?_⟩) ?_ ?_
                      rotate_left
                      · intro w'
                        go_simp
                        with_reducible rfl
                      rotate_left
                      · simp only [Act.put, List.setIfInBounds_toArray, List.set_cons_zero, List.set_cons_succ, i64_w, i32_w]
                        rfl
                      refine pure_ (i := 17) (N := some 107) (v := ?_) (a' := ?_) #[true, true, true, true, true, true, true, true, true, true, true, true, true, true, true, true, true, true] rfl rfl (by kernel_rfl) (fun _ _ _ h => h) (Or.inl ⟨by rfl, ?_⟩) ?_ ?_
                      rotate_left
                      · intro w'
                        go_simp
                        with_reducible rfl
                      rotate_left
                      · simp only [Act.put, List.setIfInBounds_toArray, List.set_cons_zero, List.set_cons_succ, i64_w, i32_w]
                        rfl
                      refine done_ (by kernel_rfl) ?_
                      go_wp2_with fail
                      go_meet
                      exact ⟨rfl, hHeld.2.2.2.2⟩
                    · skip
                      refine convr_ (by rfl) rfl _ (by rfl) _ _ (by rfl) (run_vlB j (by omega) hVa) ?_
                      refine hK.out _ _ ⟨(rd _ hHeld.2.2.2.2).1, (rd _ hHeld.2.2.2.2).2.1, (rd _ hHeld.2.2.2.2).2.2.1, (rd _ hHeld.2.2.2.2).2.2.2, hHeld.2.2.2.2⟩ (fun hHeld => ?_)
                      clear hK K
                      refine norm_ (a' := ?_) ?_ ?_
                      rotate_left
                      · show Act.put _ (some 105) _ = _
                        simp only [Act.put, List.setIfInBounds_toArray, List.set_cons_zero, List.set_cons_succ, i64_w, i32_w]
                        rfl
                      refine one_ (i := 9) (N := some 99) #[true, true, true, true, true, true, true, true, true, true, false, true, true, true, true, true, false, false] rfl rfl (by kernel_rfl) (by decide) (fun K hK => ?_)
                      refine convr_ (by rfl) rfl _ (by rfl) _ _ (by rfl) (run_nmB j (by omega) hNa) ?_
                      refine hK.out _ _ ⟨(rd _ hHeld.2.2.2.2).1, (rd _ hHeld.2.2.2.2).2.1, (rd _ hHeld.2.2.2.2).2.2.1, (rd _ hHeld.2.2.2.2).2.2.2, hHeld.2.2.2.2⟩ (fun hHeld => ?_)
                      clear hK K
                      refine norm_ (a' := ?_) ?_ ?_
                      rotate_left
                      · show Act.put _ (some 99) _ = _
                        simp only [Act.put, List.setIfInBounds_toArray, List.set_cons_zero, List.set_cons_succ, i64_w, i32_w]
                        rfl
                      refine pure_ (i := 10) (N := some 100) (v := ?_) (a' := ?_) #[true, true, true, true, true, true, true, true, true, true, true, true, true, true, true, true, false, false] rfl rfl (by kernel_rfl) (fun _ _ _ h => h) (Or.inl ⟨by rfl, ?_⟩) ?_ ?_
                      rotate_left
                      · intro w'
                        go_simp
                        with_reducible rfl
                      rotate_left
                      · simp only [Act.put, List.setIfInBounds_toArray, List.set_cons_zero, List.set_cons_succ, i64_w, i32_w]
                        rfl
                      refine pure_ (i := 16) (N := some 106) (v := ?_) (a' := ?_) #[true, true, true, true, true, true, true, true, true, true, true, true, true, true, true, true, true, false] rfl rfl (by kernel_rfl) (fun _ _ _ h => h) (Or.inl ⟨by rfl, ?_⟩) ?_ ?_
                      rotate_left
                      · intro w'
                        go_simp
                        with_reducible rfl
                      rotate_left
                      · simp only [Act.put, List.setIfInBounds_toArray, List.set_cons_zero, List.set_cons_succ, i64_w, i32_w]
                        rfl
                      refine pure_ (i := 17) (N := some 107) (v := ?_) (a' := ?_) #[true, true, true, true, true, true, true, true, true, true, true, true, true, true, true, true, true, true] rfl rfl (by kernel_rfl) (fun _ _ _ h => h) (Or.inl ⟨by rfl, ?_⟩) ?_ ?_
                      rotate_left
                      · intro w'
                        go_simp
                        with_reducible rfl
                      rotate_left
                      · simp only [Act.put, List.setIfInBounds_toArray, List.set_cons_zero, List.set_cons_succ, i64_w, i32_w]
                        rfl
                      refine done_ (by kernel_rfl) ?_
                      go_wp2_with fail
                      go_meet
                      exact ⟨rfl, hHeld.2.2.2.2⟩
                  · skip
                    refine convr_ (by rfl) rfl _ (by rfl) _ _ (by rfl) (run_vlB j (by omega) hVa) ?_
                    refine hK.out _ _ ⟨(rd _ hHeld.2.2.2.2).1, (rd _ hHeld.2.2.2.2).2.1, (rd _ hHeld.2.2.2.2).2.2.1, (rd _ hHeld.2.2.2.2).2.2.2, hHeld.2.2.2.2⟩ (fun hHeld => ?_)
                    clear hK K
                    refine norm_ (a' := ?_) ?_ ?_
                    rotate_left
                    · show Act.put _ (some 105) _ = _
                      simp only [Act.put, List.setIfInBounds_toArray, List.set_cons_zero, List.set_cons_succ, i64_w, i32_w]
                      rfl
                    refine one_ (i := 8) (N := some 98) #[true, true, true, true, true, true, true, true, true, false, false, true, true, true, true, true, false, false] rfl rfl (by kernel_rfl) (by decide) (fun K hK => ?_)
                    refine value_ (w1 := ?_) (v := ?_) (by rfl) rfl ?_ ?_
                    rotate_left 2
                    · go_simp
                      constructor
                      · rfl
                      · rfl
                    have hNa := blkNewOf hHeld.2.2.2.2 (.cells #[.int .u8 (97 + (j : Int))] 5)
                    have bN := hHeld.2.2.2.2.alloc hHeld.2.2.2.2.size (.cells #[.int .u8 (97 + (j : Int))] 5)
                    try have hVa := blk_alloc hVa (.cells #[.int .u8 (97 + (j : Int))] 5)
                    try simp only [alloc_sz, drew_sz] at hNa
                    refine hK.out _ _ ⟨(rd _ bN).1, (rd _ bN).2.1, (rd _ bN).2.2.1, (rd _ bN).2.2.2, bN⟩ (fun hHeld => ?_)
                    clear hK K
                    refine norm_ (a' := ?_) ?_ ?_
                    rotate_left
                    · show Act.put _ (some 98) _ = _
                      simp only [Act.put, List.setIfInBounds_toArray, List.set_cons_zero, List.set_cons_succ, i64_w, i32_w]
                      rfl
                    refine one_ (i := 9) (N := some 99) #[true, true, true, true, true, true, true, true, true, true, false, true, true, true, true, true, false, false] rfl rfl (by kernel_rfl) (by decide) (fun K hK => ?_)
                    refine convr_ (by rfl) rfl _ (by rfl) _ _ (by rfl) (run_nmB j (by omega) hNa) ?_
                    refine hK.out _ _ ⟨(rd _ hHeld.2.2.2.2).1, (rd _ hHeld.2.2.2.2).2.1, (rd _ hHeld.2.2.2.2).2.2.1, (rd _ hHeld.2.2.2.2).2.2.2, hHeld.2.2.2.2⟩ (fun hHeld => ?_)
                    clear hK K
                    refine norm_ (a' := ?_) ?_ ?_
                    rotate_left
                    · show Act.put _ (some 99) _ = _
                      simp only [Act.put, List.setIfInBounds_toArray, List.set_cons_zero, List.set_cons_succ, i64_w, i32_w]
                      rfl
                    refine pure_ (i := 10) (N := some 100) (v := ?_) (a' := ?_) #[true, true, true, true, true, true, true, true, true, true, true, true, true, true, true, true, false, false] rfl rfl (by kernel_rfl) (fun _ _ _ h => h) (Or.inl ⟨by rfl, ?_⟩) ?_ ?_
                    rotate_left
                    · intro w'
                      go_simp
                      with_reducible rfl
                    rotate_left
                    · simp only [Act.put, List.setIfInBounds_toArray, List.set_cons_zero, List.set_cons_succ, i64_w, i32_w]
                      rfl
                    refine pure_ (i := 16) (N := some 106) (v := ?_) (a' := ?_) #[true, true, true, true, true, true, true, true, true, true, true, true, true, true, true, true, true, false] rfl rfl (by kernel_rfl) (fun _ _ _ h => h) (Or.inl ⟨by rfl, ?_⟩) ?_ ?_
                    rotate_left
                    · intro w'
                      go_simp
                      with_reducible rfl
                    rotate_left
                    · simp only [Act.put, List.setIfInBounds_toArray, List.set_cons_zero, List.set_cons_succ, i64_w, i32_w]
                      rfl
                    refine pure_ (i := 17) (N := some 107) (v := ?_) (a' := ?_) #[true, true, true, true, true, true, true, true, true, true, true, true, true, true, true, true, true, true] rfl rfl (by kernel_rfl) (fun _ _ _ h => h) (Or.inl ⟨by rfl, ?_⟩) ?_ ?_
                    rotate_left
                    · intro w'
                      go_simp
                      with_reducible rfl
                    rotate_left
                    · simp only [Act.put, List.setIfInBounds_toArray, List.set_cons_zero, List.set_cons_succ, i64_w, i32_w]
                      rfl
                    refine done_ (by kernel_rfl) ?_
                    go_wp2_with fail
                    go_meet
                    exact ⟨rfl, hHeld.2.2.2.2⟩
              case rest =>
                obtain ⟨rfl, hb2⟩ := hcut
                have hbd2 : Below wl.heap.size wl wc.drew := hb2.drew
                go_upto_region 22 with fail
                go_cut [12] from 85 to 130 (fun v wx => ∃ g2 c2, v = .slice (some ⟨g2, 0, none⟩) 1 c2 ∧ wx.cell? ⟨g2, 0, none⟩ = some (.string ⟨#[vlB j]⟩) ∧ Below wl.heap.size wl wx)
                case first =>
                  refine start_ (n := 9) (S := fun w' => (w'.cell? ⟨H, 0, none⟩ = some (.string ⟨#[65]⟩)) ∧ (w'.cell? ⟨H, 1, none⟩ = some (.slice (some ⟨b, off, none⟩) i q2)) ∧ (w'.cell? ⟨b, off + j * 2, none⟩ = some (.string (⟨#[110]⟩ ++ ⟨#[nmB j]⟩))) ∧ (w'.cell? ⟨b, off + j * 2 + 1, none⟩ = some (.string ⟨#[vlB j]⟩)) ∧ (Below wl.heap.size wl w')) (ds := []) #[false, false, false, false, false, false, false, false, false] (by kernel_rfl) rfl rfl ⟨(rd _ hbd2).1, (rd _ hbd2).2.1, (rd _ hbd2).2.2.1, (rd _ hbd2).2.2.2, hbd2⟩ (fun hHeld => ?_)
                  refine pure_ (i := 1) (N := some 109) (v := ?_) (a' := ?_) #[false, true, false, false, false, false, false, false, false] rfl rfl (by kernel_rfl) (fun _ _ _ h => h) (Or.inl ⟨by rfl, ?_⟩) ?_ ?_
                  rotate_left
                  · intro w'
                    go_simp
                    with_reducible rfl
                  rotate_left
                  · simp only [Act.put, List.setIfInBounds_toArray, List.set_cons_zero, List.set_cons_succ, i64_w, i32_w]
                    rfl
                  refine pure_ (i := 3) (N := some 111) (v := ?_) (a' := ?_) #[false, true, false, true, false, false, false, false, false] rfl rfl (by kernel_rfl) (fun _ _ _ h => h) (Or.inl ⟨by rfl, ?_⟩) ?_ ?_
                  rotate_left
                  · intro w'
                    go_simp
                    with_reducible rfl
                  rotate_left
                  · simp only [Act.put, List.setIfInBounds_toArray, List.set_cons_zero, List.set_cons_succ, i64_w, i32_w]
                    rfl
                  refine take_ (i := 0) (N := some 108) (v := ?_) (a' := ?_) #[true, true, false, true, false, false, false, false, false] rfl rfl (by kernel_rfl) (fun _ _ _ h => h) (Or.inl ⟨by rfl, ?_⟩) hHeld ?_ ?_
                  rotate_left
                  · rintro w' ⟨s0, s1, s2, s3, s4⟩
                    go_simp
                    with_reducible rfl
                  rotate_left
                  · simp only [Act.put, List.setIfInBounds_toArray, List.set_cons_zero, List.set_cons_succ, i64_w, i32_w]
                    rfl
                  refine take_ (i := 2) (N := some 110) (v := ?_) (a' := ?_) #[true, true, true, true, false, false, false, false, false] rfl rfl (by kernel_rfl) (fun _ _ _ h => h) (Or.inl ⟨by rfl, ?_⟩) hHeld ?_ ?_
                  rotate_left
                  · rintro w' ⟨s0, s1, s2, s3, s4⟩
                    go_simp
                    with_reducible rfl
                  rotate_left
                  · simp only [Act.put, List.setIfInBounds_toArray, List.set_cons_zero, List.set_cons_succ, i64_w, i32_w]
                    rfl
                  refine pure_ (i := 4) (N := some 112) (v := ?_) (a' := ?_) #[true, true, true, true, true, false, false, false, false] rfl rfl (by kernel_rfl) (fun _ _ _ h => h) (Or.inl ⟨by rfl, ?_⟩) ?_ ?_
                  rotate_left
                  · intro w'
                    go_simp
                    with_reducible rfl
                  rotate_left
                  · simp only [Act.put, List.setIfInBounds_toArray, List.set_cons_zero, List.set_cons_succ, i64_w, i32_w]
                    rfl
                  refine pure_ (i := 5) (N := some 113) (v := ?_) (a' := ?_) #[true, true, true, true, true, true, false, false, false] rfl rfl (by kernel_rfl) (fun _ _ _ h => h) (Or.inl ⟨by rfl, ?_⟩) ?_ ?_
                  rotate_left
                  · intro w'
                    go_simp
                    with_reducible rfl
                  rotate_left
                  · simp only [Act.put, List.setIfInBounds_toArray, List.set_cons_zero, List.set_cons_succ, i64_w, i32_w]
                    rfl
                  refine take_ (i := 6) (N := some 114) (v := ?_) (a' := ?_) #[true, true, true, true, true, true, true, false, false] rfl rfl (by kernel_rfl) (fun _ _ _ h => h) (Or.inl ⟨by rfl, ?_⟩) hHeld ?_ ?_
                  rotate_left
                  · rintro w' ⟨s0, s1, s2, s3, s4⟩
                    go_simp
                    with_reducible rfl
                  rotate_left
                  · simp only [Act.put, List.setIfInBounds_toArray, List.set_cons_zero, List.set_cons_succ, i64_w, i32_w]
                    rfl
                  refine one_ (i := 7) (N := some 115) #[true, true, true, true, true, true, true, true, false] rfl rfl (by kernel_rfl) (by decide) (fun K hK => ?_)
                  refine goes_ Tryd.func13 (by kernel_rfl) rfl #[.agg #[.string ⟨#[65]⟩, .slice (some ⟨b, off, none⟩) i q2], .string (⟨#[110]⟩ ++ ⟨#[nmB j]⟩)] (by rfl) rfl rfl (by simp only [List.map_toArray, List.map_cons, List.map_nil]; rfl) ?_
                  with_reducible refine (VL _ hHeld.2.2.2.2).mono ?_
                  rintro e w5 ⟨v5, rfl, ho5, b5⟩
                  have bN := below_then hHeld.2.2.2.2 hHeld.2.2.2.2.size b5
                  refine ⟨_, rfl, ?_⟩
                  refine hK.out _ _ ⟨(rd _ bN).1, (rd _ bN).2.1, (rd _ bN).2.2.1, (rd _ bN).2.2.2, bN⟩ (fun hHeld => ?_)
                  clear hK K
                  refine norm_ (a' := ?_) ?_ ?_
                  rotate_left
                  · show Act.put _ (some 115) _ = _
                    simp only [Act.put, List.setIfInBounds_toArray, List.set_cons_zero, List.set_cons_succ, i64_w, i32_w]
                    rfl
                  refine pure_ (i := 8) (N := some 12) (v := ?_) (a' := ?_) #[true, true, true, true, true, true, true, true, true] rfl rfl (by kernel_rfl) (fun _ _ _ h => h) (Or.inl ⟨by rfl, ?_⟩) ?_ ?_
                  rotate_left
                  · intro w'
                    go_simp
                    with_reducible rfl
                  rotate_left
                  · simp only [Act.put, List.setIfInBounds_toArray, List.set_cons_zero, List.set_cons_succ, i64_w, i32_w]
                    rfl
                  refine done_ (by kernel_rfl) ?_
                  go_wp2_with fail
                  go_meet
                  obtain ⟨g2, c2, e5, hg2⟩ := one_str ho5
                  exact ⟨g2, c2, e5, hg2, hHeld.2.2.2.2⟩
                case rest =>
                  obtain ⟨g2, c2, rfl, hg2, hb3⟩ := hcut
                  have hb3d := hb3.drew
                  obtain ⟨z0, z1, z2, z3⟩ := rd wc.drew hb3d
                  have hg2d : wc.drew.cell? ⟨g2, 0, none⟩ = some (.string ⟨#[vlB j]⟩) := hg2
                  clear rd VL EQ hg2 hb2 hbd2 hbd
                  go_wp2
                  go_region
                  go_wp2
                  go_roundw
                  case rel => exact ⟨j + 1, by go_num, HI.out, ⟨hb3d⟩⟩
                  case measure => have := HI.out; simp only [intOf]; omega
            · have p3 : decide ((j : Int) < (i : Int)) = false := decide_eq_false (by omega)
              have n3 : decide (j < i) = false := decide_eq_false hjl
              go_wp2
              go_ret
              exact ⟨rfl, below_then bL bL.size HBq.out⟩
  | false =>
    go_enter Tryd.func6, Tryd.ntmps6
    go_wp2_with (go_at_call 22; (with_reducible refine AW.mono ?_); rintro e w1 ⟨rfl, b1⟩)
    go_loopw [6, 7] (fun v u wr => ∃ i : Nat, u = .int .i64 (i : Int) ∧ i ≤ N ∧ i ≤ 16 ∧ v = .string (sF false i) ∧ Aside0 (Below W.heap.size W wr)) (fun _ u _ => 16 - (intOf u).toNat)
    case atStart => exact ⟨0, rfl, Nat.zero_le _, Nat.zero_le _, rfl, ⟨b1⟩⟩
    case round =>
      obtain ⟨i, rfl, hiN, hi16, rfl, HB⟩ := hrel
      have HS := Aside0.mk (show sF false (i + 1) = (sF false i ++ ⟨#[110]⟩ ++ ⟨#[nmB i]⟩ ++ ⟨#[58]⟩) ++ ⟨#[vlB i]⟩ ++ ⟨#[13, 10]⟩ from rfl)
      by_cases hlt : i < N ∧ i < 16
      · have n1 : decide (i < N) = true := decide_eq_true hlt.1
        have p1 : decide ((i : Int) < (N : Int)) = true := decide_eq_true (by omega)
        have p2 : decide ((i : Int) < 16) = true := decide_eq_true (by omega)
        have n2 : decide (i < 16) = true := decide_eq_true hlt.2
        have hs := sF_size false i
        have KA := fun w => run_nm i (by omega) w
        have KB : ∀ o : Obj, (convert 26 9 (.slice (some ⟨wr.heap.size + 1, 0, none⟩) 1 1)).run Tryd.prog ((wr.alloc o).alloc (.cells #[.int .u8 (65 + (i : Int))] 5)) = .ok (.string ⟨#[vlB i]⟩) ((wr.alloc o).alloc (.cells #[.int .u8 (65 + (i : Int))] 5)) := fun o => by
          have h := run_vl i (by omega) (wr.alloc o)
          rw [alloc_sz] at h
          exact h
        have HB1 := (HB.out.alloc HB.out.size (.cells #[.int .u8 (97 + (i : Int))] 5))
        have HB2 := Aside0.mk (HB1.alloc HB1.size (.cells #[.int .u8 (65 + (i : Int))] 5))
        have HI := Aside0.mk hlt
        clear HB1
        have szA : ∀ (a : ByteArray) (l : Array UInt8), (a ++ ⟨l⟩ : ByteArray).size = a.size + l.size := fun a l => ByteArray.size_append
        have hs2 : (sF false i).size ≤ 200 := by omega
        clear hs
        generalize sF false i = s at *
        go_wp2
        go_roundw
        case rel => exact ⟨i + 1, by go_num, HI.out.1, HI.out.2, by rw [HS.out], HB2⟩
        case measure => have := HI.out.2; simp only [intOf]; omega
      · have hsz := sF_size false i
        by_cases h16 : 16 < N
        · obtain rfl : i = 16 := by omega
          have p1 : decide ((16 : Int) < (N : Int)) = true := decide_eq_true (by omega)
          have n1 : decide (16 < N) = true := decide_eq_true h16
          have szA : ∀ (a : ByteArray) (l : Array UInt8), (a ++ ⟨l⟩ : ByteArray).size = a.size + l.size := fun a l => ByteArray.size_append
          obtain ⟨S, hS⟩ : ∃ S, S = sF false 16 := ⟨_, rfl⟩
          have hs2 : S.size ≤ 200 := by rw [hS]; omega
          have T5 := fun W1 => tl_of S 5 (by decide) (by omega) (by rw [hS]; exact evF5 false) W1
          have T3 := fun W1 => tl_of (S ++ ⟨#[120]⟩) 3 (by decide) (by rw [szA]; show S.size + 1 ≤ _; omega) (by rw [hS]; exact evF3 false) W1
          have T6 := fun W1 => tl_of (S ++ ⟨#[32]⟩) 6 (by decide) (by rw [szA]; show S.size + 1 ≤ _; omega) (by rw [hS]; exact evF6 false) W1
          rw [← hS]
          have hB := HB.out
          clear hS HS hsz HB
          go_wp2_with (first | (go_at_call 23; (with_reducible refine (T5 _).mono ?_); rintro e v5 ⟨rfl, c5⟩; have C5 := below_then hB hB.size c5) | (go_at_call 23; (with_reducible refine (T3 _).mono ?_); rintro e v3 ⟨rfl, c3⟩; have C3 := below_then C5 C5.size c3) | (go_at_call 23; (with_reducible refine (T6 _).mono ?_); rintro e v6 ⟨rfl, c6⟩; have C6 := below_then C3 C3.size c6))
          go_ret
          exact ⟨rfl, C6⟩
        · obtain rfl : i = N := by omega
          have p1 : decide ((i : Int) < (i : Int)) = false := decide_eq_false (by omega)
          have n1 : decide (i < i) = false := decide_eq_false (by omega)
          have p2 : decide ((16 : Int) < (i : Int)) = false := decide_eq_false (by omega)
          have n2 : decide (16 < i) = false := decide_eq_false h16
          have szA : ∀ (a : ByteArray) (l : Array UInt8), (a ++ ⟨l⟩ : ByteArray).size = a.size + l.size := fun a l => ByteArray.size_append
          have hTF := takeF false (n := i) (by omega)
          have hFL := fieldsF_len i
          have HFG := Aside0.mk (fun j (hj : j < i) => fieldsF_get hj)
          have HVF := Aside0.mk (fun j (hj : j < i) => valsF (by omega : i ≤ 16) hj)
          obtain ⟨S, hS⟩ : ∃ S, S = sF false i := ⟨_, rfl⟩
          have hs2 : S.size ≤ 200 := by rw [hS]; omega
          rw [← hS] at hTF ⊢
          clear hS HS hsz
          obtain ⟨S2, hS2⟩ : ∃ S2, S2 = S ++ ⟨#[13, 10]⟩ := ⟨_, rfl⟩
          have hS2s : S2.size = S.size + 2 := by rw [hS2, szA]; rfl
          have hcv := Lib.run_convert_string_bytes (P := Tryd.prog) wr 9 26 5 (S ++ ⟨#[13, 10]⟩) Tryd.underlying9 Tryd.underlying26 Tryd.underlying5
          have TK := hd_Take S2.data.toList _ (grownCap wr S2.size 0 5) _ (by rw [data_length]; omega) (bytes_u8 wr 5 S2 (by omega))
          have es : (S ++ ⟨#[13, 10]⟩ : ByteArray).size = S.size + 2 := by rw [szA]; rfl
          rw [hS2, hTF, data_length] at TK
          have hb0 := below_then HB.out HB.out.size (below_bytes wr 5 (S ++ ⟨#[13, 10]⟩))
          generalize Lib.bytesWorld wr 5 (S ++ ⟨#[13, 10]⟩) = w3 at *
          generalize grownCap wr (S ++ ⟨#[13, 10]⟩).size 0 5 = cap at *
          rw [es] at TK
          clear es
          have HS2 := Aside0.mk (And.intro hS2 hS2s)
          clear hS2 hS2s hTF
          generalize fieldsF i = FF at *
          go_wp2_with (go_at_call 20; (with_reducible refine TK.mono ?_); rintro e w4 ⟨vf, rfl, ho, b4⟩; have b5 := below_then hb0 hb0.size b4; obtain ⟨A2, q2, ev, -⟩ := spr_slice ho; subst ev; have hR := (rdp_own ho).2; clear ho)
          have bL := b5.alloc b5.size (.cells #[.string ⟨#[65]⟩, .slice A2 i q2] 24)
          have hH := blk_new w4 (.cells #[.string ⟨#[65]⟩, .slice A2 i q2] 24)
          have hR2 := hR.below ((Below.refl _ w4).alloc (Nat.le_refl _) (.cells #[.string ⟨#[65]⟩, .slice A2 i q2] 24))
          have EQ := fun (a b c e : ByteArray) (w : World) => run_eq2 9998 a b c e w
          clear hR TK hcv
          generalize w4.alloc (.cells #[.string ⟨#[65]⟩, .slice A2 i q2] 24) = wl at *
          generalize w4.heap.size = H at *
          have hHlt := blk_lt hH
          go_loopw [11] (fun v wq => ∃ j : Nat, v = .int .i64 (j : Int) ∧ j ≤ i ∧ Aside0 (Below wl.heap.size wl wq)) (fun v _ => i - (intOf v).toNat)
          case atStart => exact ⟨0, rfl, Nat.zero_le _, ⟨Below.refl _ _⟩⟩
          case round =>
            obtain ⟨j, rfl, hji, HBq⟩ := hrel
            by_cases hjl : j < i
            · have p3 : decide ((j : Int) < (i : Int)) = true := decide_eq_true (by omega)
              have n3 : decide (j < i) = true := decide_eq_true hjl
              have hj16 : j ≤ 20 := by omega
              have hji2 : (j : Int) < (i : Int) := by omega
              rcases hR2 with h0 | ⟨b, off, rfl, hcs⟩
              · rw [h0] at hFL
                exact absurd hjl (by rw [← hFL]; exact Nat.not_lt_zero _)
              obtain ⟨k1, k2⟩ := hcs j (by omega)
              rw [HFG.out j hjl] at k1 k2
              have hx : (⟨#[110, nmB j]⟩ : ByteArray) = ⟨#[110]⟩ ++ ⟨#[nmB j]⟩ := nm_app _
              simp only at k1 k2
              rw [hx] at k1
              have h00 := (blk_cell hH 0).trans rfl
              have h01 := (blk_cell hH 1).trans rfl
              have rd : ∀ U : World, Below wl.heap.size wl U → U.cell? ⟨H, 0, none⟩ = some (.string ⟨#[65]⟩) ∧ U.cell? ⟨H, 1, none⟩ = some (.slice (some ⟨b, off, none⟩) i q2) ∧ U.cell? ⟨b, off + j * 2, none⟩ = some (.string (⟨#[110]⟩ ++ ⟨#[nmB j]⟩)) ∧ U.cell? ⟨b, off + j * 2 + 1, none⟩ = some (.string ⟨#[vlB j]⟩) := fun U hU => ⟨(hU.cell (cell_lt h00)).trans h00, (hU.cell (cell_lt h01)).trans h01, (hU.cell (cell_lt k1)).trans k1, (hU.cell (cell_lt k2)).trans k2⟩
              have VL : ∀ U : World, Below wl.heap.size wl U → Calls Tryd.prog 13 #[.agg #[.string ⟨#[65]⟩, .slice (some ⟨b, off, none⟩) i q2], .string (⟨#[110]⟩ ++ ⟨#[nmB j]⟩)] U fun e W' => ∃ v, e = .returned v ∧ W'.ownsRow U.heap.size 9 1 v 1 [.string ⟨#[vlB j]⟩] ∧ Below U.heap.size U W' := fun U hU => by
                have h := hd_Values ⟨#[65]⟩ (⟨#[110]⟩ ++ ⟨#[nmB j]⟩) FF (some ⟨b, off, none⟩) q2 U (by omega) (RdP.below (.inr ⟨b, off, rfl, hcs⟩) hU)
                rw [← hx, HVF.out j hjl, hFL] at h
                rw [← hx]
                exact h
              have drew_sz : ∀ U : World, U.drew.heap.size = U.heap.size := fun _ => rfl
              have hw1 : wrap64 (97 + (j : Int)) = 97 + (j : Int) := by unfold wrap64; omega
              have hw2 : wrap64 (65 + (j : Int)) = 65 + (j : Int) := by unfold wrap64; omega
              have hw3 : IntKind.u8.wrap (97 + (j : Int)) = 97 + (j : Int) := by simp only [IntKind.wrap, IntKind.bits, IntKind.signed]; simp; omega
              have hw4 : IntKind.u8.wrap (65 + (j : Int)) = 65 + (j : Int) := by simp only [IntKind.wrap, IntKind.bits, IntKind.signed]; simp; omega
              have HI := Aside0.mk hjl
              have hbd : Below wl.heap.size wl wr.drew := HBq.out.drew
              clear h00 h01 k1 k2 hcs hx hFL
              go_upto_region 20 with fail
              go_cut [107] from 85 to 130 (fun q wx => q = .bool false ∧ Below wl.heap.size wl wx)
              case first =>
                refine start_ (n := 18) (S := fun w' => (w'.cell? ⟨H, 0, none⟩ = some (.string ⟨#[65]⟩)) ∧ (w'.cell? ⟨H, 1, none⟩ = some (.slice (some ⟨b, off, none⟩) i q2)) ∧ (w'.cell? ⟨b, off + j * 2, none⟩ = some (.string (⟨#[110]⟩ ++ ⟨#[nmB j]⟩))) ∧ (w'.cell? ⟨b, off + j * 2 + 1, none⟩ = some (.string ⟨#[vlB j]⟩)) ∧ (Below wl.heap.size wl w')) (ds := []) #[false, false, false, false, false, false, false, false, false, false, false, false, false, false, false, false, false, false] (by kernel_rfl) rfl rfl ⟨(rd _ hbd).1, (rd _ hbd).2.1, (rd _ hbd).2.2.1, (rd _ hbd).2.2.2, hbd⟩ (fun hHeld => ?_)
                refine pure_ (i := 0) (N := some 90) (v := ?_) (a' := ?_) #[true, false, false, false, false, false, false, false, false, false, false, false, false, false, false, false, false, false] rfl rfl (by kernel_rfl) (fun _ _ _ h => h) (Or.inl ⟨by rfl, ?_⟩) ?_ ?_
                rotate_left
                · intro w'
                  go_simp
                  with_reducible rfl
                rotate_left
                · simp only [Act.put, List.setIfInBounds_toArray, List.set_cons_zero, List.set_cons_succ, i64_w, i32_w]
                  rfl
                refine pure_ (i := 2) (N := some 92) (v := ?_) (a' := ?_) #[true, false, true, false, false, false, false, false, false, false, false, false, false, false, false, false, false, false] rfl rfl (by kernel_rfl) (fun _ _ _ h => h) (Or.inl ⟨by rfl, ?_⟩) ?_ ?_
                rotate_left
                · intro w'
                  go_simp
                  with_reducible rfl
                rotate_left
                · simp only [Act.put, List.setIfInBounds_toArray, List.set_cons_zero, List.set_cons_succ, i64_w, i32_w]
                  rfl
                refine pure_ (i := 5) (N := some 95) (v := ?_) (a' := ?_) #[true, false, true, false, false, true, false, false, false, false, false, false, false, false, false, false, false, false] rfl rfl (by kernel_rfl) (fun _ _ _ h => h) (Or.inl ⟨by rfl, ?_⟩) ?_ ?_
                rotate_left
                · intro w'
                  go_simp
                  with_reducible rfl
                rotate_left
                · simp only [Act.put, List.setIfInBounds_toArray, List.set_cons_zero, List.set_cons_succ, i64_w, i32_w]
                  rfl
                refine pure_ (i := 6) (N := some 96) (v := ?_) (a' := ?_) #[true, false, true, false, false, true, true, false, false, false, false, false, false, false, false, false, false, false] rfl rfl (by kernel_rfl) (fun _ _ _ h => h) (Or.inl ⟨by rfl, ?_⟩) ?_ ?_
                rotate_left
                · intro w'
                  go_simp
                  with_reducible rfl
                rotate_left
                · simp only [Act.put, List.setIfInBounds_toArray, List.set_cons_zero, List.set_cons_succ, i64_w, i32_w]
                  rfl
                refine pure_ (i := 7) (N := some 97) (v := ?_) (a' := ?_) #[true, false, true, false, false, true, true, true, false, false, false, false, false, false, false, false, false, false] rfl rfl (by kernel_rfl) (fun _ _ _ h => h) (Or.inl ⟨by rfl, ?_⟩) ?_ ?_
                rotate_left
                · intro w'
                  go_simp
                  with_reducible rfl
                rotate_left
                · simp only [Act.put, List.setIfInBounds_toArray, List.set_cons_zero, List.set_cons_succ, i64_w, i32_w]
                  rfl
                refine pure_ (i := 11) (N := some 101) (v := ?_) (a' := ?_) #[true, false, true, false, false, true, true, true, false, false, false, true, false, false, false, false, false, false] rfl rfl (by kernel_rfl) (fun _ _ _ h => h) (Or.inl ⟨by rfl, ?_⟩) ?_ ?_
                rotate_left
                · intro w'
                  go_simp
                  with_reducible rfl
                rotate_left
                · simp only [Act.put, List.setIfInBounds_toArray, List.set_cons_zero, List.set_cons_succ, i64_w, i32_w]
                  rfl
                refine pure_ (i := 12) (N := some 102) (v := ?_) (a' := ?_) #[true, false, true, false, false, true, true, true, false, false, false, true, true, false, false, false, false, false] rfl rfl (by kernel_rfl) (fun _ _ _ h => h) (Or.inl ⟨by rfl, ?_⟩) ?_ ?_
                rotate_left
                · intro w'
                  go_simp
                  with_reducible rfl
                rotate_left
                · simp only [Act.put, List.setIfInBounds_toArray, List.set_cons_zero, List.set_cons_succ, i64_w, i32_w]
                  rfl
                refine pure_ (i := 13) (N := some 103) (v := ?_) (a' := ?_) #[true, false, true, false, false, true, true, true, false, false, false, true, true, true, false, false, false, false] rfl rfl (by kernel_rfl) (fun _ _ _ h => h) (Or.inl ⟨by rfl, ?_⟩) ?_ ?_
                rotate_left
                · intro w'
                  go_simp
                  with_reducible rfl
                rotate_left
                · simp only [Act.put, List.setIfInBounds_toArray, List.set_cons_zero, List.set_cons_succ, i64_w, i32_w]
                  rfl
                refine take_ (i := 1) (N := some 91) (v := ?_) (a' := ?_) #[true, true, true, false, false, true, true, true, false, false, false, true, true, true, false, false, false, false] rfl rfl (by kernel_rfl) (fun _ _ _ h => h) (Or.inl ⟨by rfl, ?_⟩) hHeld ?_ ?_
                rotate_left
                · rintro w' ⟨s0, s1, s2, s3, s4⟩
                  go_simp
                  with_reducible rfl
                rotate_left
                · simp only [Act.put, List.setIfInBounds_toArray, List.set_cons_zero, List.set_cons_succ, i64_w, i32_w]
                  rfl
                refine pure_ (i := 3) (N := some 93) (v := ?_) (a' := ?_) #[true, true, true, true, false, true, true, true, false, false, false, true, true, true, false, false, false, false] rfl rfl (by kernel_rfl) (fun _ _ _ h => h) (Or.inl ⟨by rfl, ?_⟩) ?_ ?_
                rotate_left
                · intro w'
                  go_simp
                  with_reducible rfl
                rotate_left
                · simp only [Act.put, List.setIfInBounds_toArray, List.set_cons_zero, List.set_cons_succ, i64_w, i32_w]
                  rfl
                refine take_ (i := 4) (N := some 94) (v := ?_) (a' := ?_) #[true, true, true, true, true, true, true, true, false, false, false, true, true, true, false, false, false, false] rfl rfl (by kernel_rfl) (fun _ _ _ h => h) (Or.inl ⟨by rfl, ?_⟩) hHeld ?_ ?_
                rotate_left
                · rintro w' ⟨s0, s1, s2, s3, s4⟩
                  go_simp
                  with_reducible rfl
                rotate_left
                · simp only [Act.put, List.setIfInBounds_toArray, List.set_cons_zero, List.set_cons_succ, i64_w, i32_w]
                  rfl
                refine two_ (i := 8) (j := 14) (Ni := some 98) (Nj := some 104) #[true, true, true, true, true, true, true, true, true, false, false, true, true, true, false, false, false, false] #[true, true, true, true, true, true, true, true, false, false, false, true, true, true, true, false, false, false] rfl rfl rfl rfl (by kernel_rfl) (by decide) (by decide) (fun K hK => ?_) (fun K hK => ?_)
                · skip
                  refine value_ (w1 := ?_) (v := ?_) (by rfl) rfl ?_ ?_
                  rotate_left 2
                  · go_simp
                    constructor
                    · rfl
                    · rfl
                  have hNa := blkNewOf hHeld.2.2.2.2 (.cells #[.int .u8 (97 + (j : Int))] 5)
                  have bN := hHeld.2.2.2.2.alloc hHeld.2.2.2.2.size (.cells #[.int .u8 (97 + (j : Int))] 5)
                  try have hVa := blk_alloc hVa (.cells #[.int .u8 (97 + (j : Int))] 5)
                  try simp only [alloc_sz, drew_sz] at hNa
                  refine hK.out _ _ ⟨(rd _ bN).1, (rd _ bN).2.1, (rd _ bN).2.2.1, (rd _ bN).2.2.2, bN⟩ (fun hHeld => ?_)
                  clear hK K
                  refine norm_ (a' := ?_) ?_ ?_
                  rotate_left
                  · show Act.put _ (some 98) _ = _
                    simp only [Act.put, List.setIfInBounds_toArray, List.set_cons_zero, List.set_cons_succ, i64_w, i32_w]
                    rfl
                  refine two_ (i := 9) (j := 14) (Ni := some 99) (Nj := some 104) #[true, true, true, true, true, true, true, true, true, true, false, true, true, true, false, false, false, false] #[true, true, true, true, true, true, true, true, true, false, false, true, true, true, true, false, false, false] rfl rfl rfl rfl (by kernel_rfl) (by decide) (by decide) (fun K hK => ?_) (fun K hK => ?_)
                  · skip
                    refine convr_ (by rfl) rfl _ (by rfl) _ _ (by rfl) (run_nmB j (by omega) hNa) ?_
                    refine hK.out _ _ ⟨(rd _ hHeld.2.2.2.2).1, (rd _ hHeld.2.2.2.2).2.1, (rd _ hHeld.2.2.2.2).2.2.1, (rd _ hHeld.2.2.2.2).2.2.2, hHeld.2.2.2.2⟩ (fun hHeld => ?_)
                    clear hK K
                    refine norm_ (a' := ?_) ?_ ?_
                    rotate_left
                    · show Act.put _ (some 99) _ = _
                      simp only [Act.put, List.setIfInBounds_toArray, List.set_cons_zero, List.set_cons_succ, i64_w, i32_w]
                      rfl
                    refine pure_ (i := 10) (N := some 100) (v := ?_) (a' := ?_) #[true, true, true, true, true, true, true, true, true, true, true, true, true, true, false, false, false, false] rfl rfl (by kernel_rfl) (fun _ _ _ h => h) (Or.inl ⟨by rfl, ?_⟩) ?_ ?_
                    rotate_left
                    · intro w'
                      go_simp
                      with_reducible rfl
                    rotate_left
                    · simp only [Act.put, List.setIfInBounds_toArray, List.set_cons_zero, List.set_cons_succ, i64_w, i32_w]
                      rfl
                    refine one_ (i := 14) (N := some 104) #[true, true, true, true, true, true, true, true, true, true, true, true, true, true, true, false, false, false] rfl rfl (by kernel_rfl) (by decide) (fun K hK => ?_)
                    refine value_ (w1 := ?_) (v := ?_) (by rfl) rfl ?_ ?_
                    rotate_left 2
                    · go_simp
                      constructor
                      · rfl
                      · rfl
                    have hVa := blkNewOf hHeld.2.2.2.2 (.cells #[.int .u8 (65 + (j : Int))] 5)
                    have bN := hHeld.2.2.2.2.alloc hHeld.2.2.2.2.size (.cells #[.int .u8 (65 + (j : Int))] 5)
                    try have hNa := blk_alloc hNa (.cells #[.int .u8 (65 + (j : Int))] 5)
                    try simp only [alloc_sz, drew_sz] at hVa
                    refine hK.out _ _ ⟨(rd _ bN).1, (rd _ bN).2.1, (rd _ bN).2.2.1, (rd _ bN).2.2.2, bN⟩ (fun hHeld => ?_)
                    clear hK K
                    refine norm_ (a' := ?_) ?_ ?_
                    rotate_left
                    · show Act.put _ (some 104) _ = _
                      simp only [Act.put, List.setIfInBounds_toArray, List.set_cons_zero, List.set_cons_succ, i64_w, i32_w]
                      rfl
                    refine one_ (i := 15) (N := some 105) #[true, true, true, true, true, true, true, true, true, true, true, true, true, true, true, true, false, false] rfl rfl (by kernel_rfl) (by decide) (fun K hK => ?_)
                    refine convr_ (by rfl) rfl _ (by rfl) _ _ (by rfl) (run_vlB j (by omega) hVa) ?_
                    refine hK.out _ _ ⟨(rd _ hHeld.2.2.2.2).1, (rd _ hHeld.2.2.2.2).2.1, (rd _ hHeld.2.2.2.2).2.2.1, (rd _ hHeld.2.2.2.2).2.2.2, hHeld.2.2.2.2⟩ (fun hHeld => ?_)
                    clear hK K
                    refine norm_ (a' := ?_) ?_ ?_
                    rotate_left
                    · show Act.put _ (some 105) _ = _
                      simp only [Act.put, List.setIfInBounds_toArray, List.set_cons_zero, List.set_cons_succ, i64_w, i32_w]
                      rfl
                    refine pure_ (i := 16) (N := some 106) (v := ?_) (a' := ?_) #[true, true, true, true, true, true, true, true, true, true, true, true, true, true, true, true, true, false] rfl rfl (by kernel_rfl) (fun _ _ _ h => h) (Or.inl ⟨by rfl, ?_⟩) ?_ ?_
                    rotate_left
                    · intro w'
                      go_simp
                      with_reducible rfl
                    rotate_left
                    · simp only [Act.put, List.setIfInBounds_toArray, List.set_cons_zero, List.set_cons_succ, i64_w, i32_w]
                      rfl
                    refine pure_ (i := 17) (N := some 107) (v := ?_) (a' := ?_) #[true, true, true, true, true, true, true, true, true, true, true, true, true, true, true, true, true, true] rfl rfl (by kernel_rfl) (fun _ _ _ h => h) (Or.inl ⟨by rfl, ?_⟩) ?_ ?_
                    rotate_left
                    · intro w'
                      go_simp
                      with_reducible rfl
                    rotate_left
                    · simp only [Act.put, List.setIfInBounds_toArray, List.set_cons_zero, List.set_cons_succ, i64_w, i32_w]
                      rfl
                    refine done_ (by kernel_rfl) ?_
                    go_wp2_with fail
                    go_meet
                    exact ⟨rfl, hHeld.2.2.2.2⟩
                  · skip
                    refine value_ (w1 := ?_) (v := ?_) (by rfl) rfl ?_ ?_
                    rotate_left 2
                    · go_simp
                      constructor
                      · rfl
                      · rfl
                    have hVa := blkNewOf hHeld.2.2.2.2 (.cells #[.int .u8 (65 + (j : Int))] 5)
                    have bN := hHeld.2.2.2.2.alloc hHeld.2.2.2.2.size (.cells #[.int .u8 (65 + (j : Int))] 5)
                    try have hNa := blk_alloc hNa (.cells #[.int .u8 (65 + (j : Int))] 5)
                    try simp only [alloc_sz, drew_sz] at hVa
                    refine hK.out _ _ ⟨(rd _ bN).1, (rd _ bN).2.1, (rd _ bN).2.2.1, (rd _ bN).2.2.2, bN⟩ (fun hHeld => ?_)
                    clear hK K
                    refine norm_ (a' := ?_) ?_ ?_
                    rotate_left
                    · show Act.put _ (some 104) _ = _
                      simp only [Act.put, List.setIfInBounds_toArray, List.set_cons_zero, List.set_cons_succ, i64_w, i32_w]
                      rfl
                    refine two_ (i := 9) (j := 15) (Ni := some 99) (Nj := some 105) #[true, true, true, true, true, true, true, true, true, true, false, true, true, true, true, false, false, false] #[true, true, true, true, true, true, true, true, true, false, false, true, true, true, true, true, false, false] rfl rfl rfl rfl (by kernel_rfl) (by decide) (by decide) (fun K hK => ?_) (fun K hK => ?_)
                    · skip
                      refine convr_ (by rfl) rfl _ (by rfl) _ _ (by rfl) (run_nmB j (by omega) hNa) ?_
                      refine hK.out _ _ ⟨(rd _ hHeld.2.2.2.2).1, (rd _ hHeld.2.2.2.2).2.1, (rd _ hHeld.2.2.2.2).2.2.1, (rd _ hHeld.2.2.2.2).2.2.2, hHeld.2.2.2.2⟩ (fun hHeld => ?_)
                      clear hK K
                      refine norm_ (a' := ?_) ?_ ?_
                      rotate_left
                      · show Act.put _ (some 99) _ = _
                        simp only [Act.put, List.setIfInBounds_toArray, List.set_cons_zero, List.set_cons_succ, i64_w, i32_w]
                        rfl
                      refine pure_ (i := 10) (N := some 100) (v := ?_) (a' := ?_) #[true, true, true, true, true, true, true, true, true, true, true, true, true, true, true, false, false, false] rfl rfl (by kernel_rfl) (fun _ _ _ h => h) (Or.inl ⟨by rfl, ?_⟩) ?_ ?_
                      rotate_left
                      · intro w'
                        go_simp
                        with_reducible rfl
                      rotate_left
                      · simp only [Act.put, List.setIfInBounds_toArray, List.set_cons_zero, List.set_cons_succ, i64_w, i32_w]
                        rfl
                      refine one_ (i := 15) (N := some 105) #[true, true, true, true, true, true, true, true, true, true, true, true, true, true, true, true, false, false] rfl rfl (by kernel_rfl) (by decide) (fun K hK => ?_)
                      refine convr_ (by rfl) rfl _ (by rfl) _ _ (by rfl) (run_vlB j (by omega) hVa) ?_
                      refine hK.out _ _ ⟨(rd _ hHeld.2.2.2.2).1, (rd _ hHeld.2.2.2.2).2.1, (rd _ hHeld.2.2.2.2).2.2.1, (rd _ hHeld.2.2.2.2).2.2.2, hHeld.2.2.2.2⟩ (fun hHeld => ?_)
                      clear hK K
                      refine norm_ (a' := ?_) ?_ ?_
                      rotate_left
                      · show Act.put _ (some 105) _ = _
                        simp only [Act.put, List.setIfInBounds_toArray, List.set_cons_zero, List.set_cons_succ, i64_w, i32_w]
                        rfl
                      refine pure_ (i := 16) (N := some 106) (v := ?_) (a' := ?_) #[true, true, true, true, true, true, true, true, true, true, true, true, true, true, true, true, true, false] rfl rfl (by kernel_rfl) (fun _ _ _ h => h) (Or.inl ⟨by rfl, ?_⟩) ?_ ?_
                      rotate_left
                      · intro w'
                        go_simp
                        with_reducible rfl
                      rotate_left
                      · simp only [Act.put, List.setIfInBounds_toArray, List.set_cons_zero, List.set_cons_succ, i64_w, i32_w]
                        rfl
                      refine pure_ (i := 17) (N := some 107) (v := ?_) (a' := ?_) #[true, true, true, true, true, true, true, true, true, true, true, true, true, true, true, true, true, true] rfl rfl (by kernel_rfl) (fun _ _ _ h => h) (Or.inl ⟨by rfl, ?_⟩) ?_ ?_
                      rotate_left
                      · intro w'
                        go_simp
                        with_reducible rfl
                      rotate_left
                      · simp only [Act.put, List.setIfInBounds_toArray, List.set_cons_zero, List.set_cons_succ, i64_w, i32_w]
                        rfl
                      refine done_ (by kernel_rfl) ?_
                      go_wp2_with fail
                      go_meet
                      exact ⟨rfl, hHeld.2.2.2.2⟩
                    · skip
                      refine convr_ (by rfl) rfl _ (by rfl) _ _ (by rfl) (run_vlB j (by omega) hVa) ?_
                      refine hK.out _ _ ⟨(rd _ hHeld.2.2.2.2).1, (rd _ hHeld.2.2.2.2).2.1, (rd _ hHeld.2.2.2.2).2.2.1, (rd _ hHeld.2.2.2.2).2.2.2, hHeld.2.2.2.2⟩ (fun hHeld => ?_)
                      clear hK K
                      refine norm_ (a' := ?_) ?_ ?_
                      rotate_left
                      · show Act.put _ (some 105) _ = _
                        simp only [Act.put, List.setIfInBounds_toArray, List.set_cons_zero, List.set_cons_succ, i64_w, i32_w]
                        rfl
                      refine one_ (i := 9) (N := some 99) #[true, true, true, true, true, true, true, true, true, true, false, true, true, true, true, true, false, false] rfl rfl (by kernel_rfl) (by decide) (fun K hK => ?_)
                      refine convr_ (by rfl) rfl _ (by rfl) _ _ (by rfl) (run_nmB j (by omega) hNa) ?_
                      refine hK.out _ _ ⟨(rd _ hHeld.2.2.2.2).1, (rd _ hHeld.2.2.2.2).2.1, (rd _ hHeld.2.2.2.2).2.2.1, (rd _ hHeld.2.2.2.2).2.2.2, hHeld.2.2.2.2⟩ (fun hHeld => ?_)
                      clear hK K
                      refine norm_ (a' := ?_) ?_ ?_
                      rotate_left
                      · show Act.put _ (some 99) _ = _
                        simp only [Act.put, List.setIfInBounds_toArray, List.set_cons_zero, List.set_cons_succ, i64_w, i32_w]
                        rfl
                      refine pure_ (i := 10) (N := some 100) (v := ?_) (a' := ?_) #[true, true, true, true, true, true, true, true, true, true, true, true, true, true, true, true, false, false] rfl rfl (by kernel_rfl) (fun _ _ _ h => h) (Or.inl ⟨by rfl, ?_⟩) ?_ ?_
                      rotate_left
                      · intro w'
                        go_simp
                        with_reducible rfl
                      rotate_left
                      · simp only [Act.put, List.setIfInBounds_toArray, List.set_cons_zero, List.set_cons_succ, i64_w, i32_w]
                        rfl
                      refine pure_ (i := 16) (N := some 106) (v := ?_) (a' := ?_) #[true, true, true, true, true, true, true, true, true, true, true, true, true, true, true, true, true, false] rfl rfl (by kernel_rfl) (fun _ _ _ h => h) (Or.inl ⟨by rfl, ?_⟩) ?_ ?_
                      rotate_left
                      · intro w'
                        go_simp
                        with_reducible rfl
                      rotate_left
                      · simp only [Act.put, List.setIfInBounds_toArray, List.set_cons_zero, List.set_cons_succ, i64_w, i32_w]
                        rfl
                      refine pure_ (i := 17) (N := some 107) (v := ?_) (a' := ?_) #[true, true, true, true, true, true, true, true, true, true, true, true, true, true, true, true, true, true] rfl rfl (by kernel_rfl) (fun _ _ _ h => h) (Or.inl ⟨by rfl, ?_⟩) ?_ ?_
                      rotate_left
                      · intro w'
                        go_simp
                        with_reducible rfl
                      rotate_left
                      · simp only [Act.put, List.setIfInBounds_toArray, List.set_cons_zero, List.set_cons_succ, i64_w, i32_w]
                        rfl
                      refine done_ (by kernel_rfl) ?_
                      go_wp2_with fail
                      go_meet
                      exact ⟨rfl, hHeld.2.2.2.2⟩
                · skip
                  refine value_ (w1 := ?_) (v := ?_) (by rfl) rfl ?_ ?_
                  rotate_left 2
                  · go_simp
                    constructor
                    · rfl
                    · rfl
                  have hVa := blkNewOf hHeld.2.2.2.2 (.cells #[.int .u8 (65 + (j : Int))] 5)
                  have bN := hHeld.2.2.2.2.alloc hHeld.2.2.2.2.size (.cells #[.int .u8 (65 + (j : Int))] 5)
                  try have hNa := blk_alloc hNa (.cells #[.int .u8 (65 + (j : Int))] 5)
                  try simp only [alloc_sz, drew_sz] at hVa
                  refine hK.out _ _ ⟨(rd _ bN).1, (rd _ bN).2.1, (rd _ bN).2.2.1, (rd _ bN).2.2.2, bN⟩ (fun hHeld => ?_)
                  clear hK K
                  refine norm_ (a' := ?_) ?_ ?_
                  rotate_left
                  · show Act.put _ (some 104) _ = _
                    simp only [Act.put, List.setIfInBounds_toArray, List.set_cons_zero, List.set_cons_succ, i64_w, i32_w]
                    rfl
                  refine two_ (i := 8) (j := 15) (Ni := some 98) (Nj := some 105) #[true, true, true, true, true, true, true, true, true, false, false, true, true, true, true, false, false, false] #[true, true, true, true, true, true, true, true, false, false, false, true, true, true, true, true, false, false] rfl rfl rfl rfl (by kernel_rfl) (by decide) (by decide) (fun K hK => ?_) (fun K hK => ?_)
                  · skip
                    refine value_ (w1 := ?_) (v := ?_) (by rfl) rfl ?_ ?_
                    rotate_left 2
                    · go_simp
                      constructor
                      · rfl
                      · rfl
                    have hNa := blkNewOf hHeld.2.2.2.2 (.cells #[.int .u8 (97 + (j : Int))] 5)
                    have bN := hHeld.2.2.2.2.alloc hHeld.2.2.2.2.size (.cells #[.int .u8 (97 + (j : Int))] 5)
                    try have hVa := blk_alloc hVa (.cells #[.int .u8 (97 + (j : Int))] 5)
                    try simp only [alloc_sz, drew_sz] at hNa
                    refine hK.out _ _ ⟨(rd _ bN).1, (rd _ bN).2.1, (rd _ bN).2.2.1, (rd _ bN).2.2.2, bN⟩ (fun hHeld => ?_)
                    clear hK K
                    refine norm_ (a' := ?_) ?_ ?_
                    rotate_left
                    · show Act.put _ (some 98) _ = _
                      simp only [Act.put, List.setIfInBounds_toArray, List.set_cons_zero, List.set_cons_succ, i64_w, i32_w]
                      rfl
                    refine two_ (i := 9) (j := 15) (Ni := some 99) (Nj := some 105) #[true, true, true, true, true, true, true, true, true, true, false, true, true, true, true, false, false, false] #[true, true, true, true, true, true, true, true, true, false, false, true, true, true, true, true, false, false] rfl rfl rfl rfl (by kernel_rfl) (by decide) (by decide) (fun K hK => ?_) (fun K hK => ?_)
                    · skip
                      refine convr_ (by rfl) rfl _ (by rfl) _ _ (by rfl) (run_nmB j (by omega) hNa) ?_
                      refine hK.out _ _ ⟨(rd _ hHeld.2.2.2.2).1, (rd _ hHeld.2.2.2.2).2.1, (rd _ hHeld.2.2.2.2).2.2.1, (rd _ hHeld.2.2.2.2).2.2.2, hHeld.2.2.2.2⟩ (fun hHeld => ?_)
                      clear hK K
                      refine norm_ (a' := ?_) ?_ ?_
                      rotate_left
                      · show Act.put _ (some 99) _ = _
                        simp only [Act.put, List.setIfInBounds_toArray, List.set_cons_zero, List.set_cons_succ, i64_w, i32_w]
                        rfl
                      refine pure_ (i := 10) (N := some 100) (v := ?_) (a' := ?_) #[true, true, true, true, true, true, true, true, true, true, true, true, true, true, true, false, false, false] rfl rfl (by kernel_rfl) (fun _ _ _ h => h) (Or.inl ⟨by rfl, ?_⟩) ?_ ?_
                      rotate_left
                      · intro w'
                        go_simp
                        with_reducible rfl
                      rotate_left
                      · simp only [Act.put, List.setIfInBounds_toArray, List.set_cons_zero, List.set_cons_succ, i64_w, i32_w]
                        rfl
                      refine one_ (i := 15) (N := some 105) #[true, true, true, true, true, true, true, true, true, true, true, true, true, true, true, true, false, false] rfl rfl (by kernel_rfl) (by decide) (fun K hK => ?_)
                      refine convr_ (by rfl) rfl _ (by rfl) _ _ (by rfl) (run_vlB j (by omega) hVa) ?_
                      refine hK.out _ _ ⟨(rd _ hHeld.2.2.2.2).1, (rd _ hHeld.2.2.2.2).2.1, (rd _ hHeld.2.2.2.2).2.2.1, (rd _ hHeld.2.2.2.2).2.2.2, hHeld.2.2.2.2⟩ (fun hHeld => ?_)
                      clear hK K
                      refine norm_ (a' := ?_) ?_ ?_
                      rotate_left
                      · show Act.put _ (some 105) _ = _
                        simp only [Act.put, List.setIfInBounds_toArray, List.set_cons_zero, List.set_cons_succ, i64_w, i32_w]
                        rfl
                      refine pure_ (i := 16) (N := some 106) (v := ?_) (a' := ?_) #[true, true, true, true, true, true, true, true, true, true, true, true, true, true, true, true, true, false] rfl rfl (by kernel_rfl) (fun _ _ _ h => h) (Or.inl ⟨by rfl, ?_⟩) ?_ ?_
                      rotate_left
                      · intro w'
                        go_simp
                        with_reducible rfl
                      rotate_left
                      · simp only [Act.put, List.setIfInBounds_toArray, List.set_cons_zero, List.set_cons_succ, i64_w, i32_w]
                        rfl
                      refine pure_ (i := 17) (N := some 107) (v := ?_) (a' := ?_) #[true, true, true, true, true, true, true, true, true, true, true, true, true, true, true, true, true, true] rfl rfl (by kernel_rfl) (fun _ _ _ h => h) (Or.inl ⟨by rfl, ?_⟩) ?_ ?_
                      rotate_left
                      · intro w'
                        go_simp
                        with_reducible rfl
                      rotate_left
                      · simp only [Act.put, List.setIfInBounds_toArray, List.set_cons_zero, List.set_cons_succ, i64_w, i32_w]
                        rfl
                      refine done_ (by kernel_rfl) ?_
                      go_wp2_with fail
                      go_meet
                      exact ⟨rfl, hHeld.2.2.2.2⟩
                    · skip
                      refine convr_ (by rfl) rfl _ (by rfl) _ _ (by rfl) (run_vlB j (by omega) hVa) ?_
                      refine hK.out _ _ ⟨(rd _ hHeld.2.2.2.2).1, (rd _ hHeld.2.2.2.2).2.1, (rd _ hHeld.2.2.2.2).2.2.1, (rd _ hHeld.2.2.2.2).2.2.2, hHeld.2.2.2.2⟩ (fun hHeld => ?_)
                      clear hK K
                      refine norm_ (a' := ?_) ?_ ?_
                      rotate_left
                      · show Act.put _ (some 105) _ = _
                        simp only [Act.put, List.setIfInBounds_toArray, List.set_cons_zero, List.set_cons_succ, i64_w, i32_w]
                        rfl
                      refine one_ (i := 9) (N := some 99) #[true, true, true, true, true, true, true, true, true, true, false, true, true, true, true, true, false, false] rfl rfl (by kernel_rfl) (by decide) (fun K hK => ?_)
                      refine convr_ (by rfl) rfl _ (by rfl) _ _ (by rfl) (run_nmB j (by omega) hNa) ?_
                      refine hK.out _ _ ⟨(rd _ hHeld.2.2.2.2).1, (rd _ hHeld.2.2.2.2).2.1, (rd _ hHeld.2.2.2.2).2.2.1, (rd _ hHeld.2.2.2.2).2.2.2, hHeld.2.2.2.2⟩ (fun hHeld => ?_)
                      clear hK K
                      refine norm_ (a' := ?_) ?_ ?_
                      rotate_left
                      · show Act.put _ (some 99) _ = _
                        simp only [Act.put, List.setIfInBounds_toArray, List.set_cons_zero, List.set_cons_succ, i64_w, i32_w]
                        rfl
                      refine pure_ (i := 10) (N := some 100) (v := ?_) (a' := ?_) #[true, true, true, true, true, true, true, true, true, true, true, true, true, true, true, true, false, false] rfl rfl (by kernel_rfl) (fun _ _ _ h => h) (Or.inl ⟨by rfl, ?_⟩) ?_ ?_
                      rotate_left
                      · intro w'
                        go_simp
                        with_reducible rfl
                      rotate_left
                      · simp only [Act.put, List.setIfInBounds_toArray, List.set_cons_zero, List.set_cons_succ, i64_w, i32_w]
                        rfl
                      refine pure_ (i := 16) (N := some 106) (v := ?_) (a' := ?_) #[true, true, true, true, true, true, true, true, true, true, true, true, true, true, true, true, true, false] rfl rfl (by kernel_rfl) (fun _ _ _ h => h) (Or.inl ⟨by rfl, ?_⟩) ?_ ?_
                      rotate_left
                      · intro w'
                        go_simp
                        with_reducible rfl
                      rotate_left
                      · simp only [Act.put, List.setIfInBounds_toArray, List.set_cons_zero, List.set_cons_succ, i64_w, i32_w]
                        rfl
                      refine pure_ (i := 17) (N := some 107) (v := ?_) (a' := ?_) #[true, true, true, true, true, true, true, true, true, true, true, true, true, true, true, true, true, true] rfl rfl (by kernel_rfl) (fun _ _ _ h => h) (Or.inl ⟨by rfl, ?_⟩) ?_ ?_
                      rotate_left
                      · intro w'
                        go_simp
                        with_reducible rfl
                      rotate_left
                      · simp only [Act.put, List.setIfInBounds_toArray, List.set_cons_zero, List.set_cons_succ, i64_w, i32_w]
                        rfl
                      refine done_ (by kernel_rfl) ?_
                      go_wp2_with fail
                      go_meet
                      exact ⟨rfl, hHeld.2.2.2.2⟩
                  · skip
                    refine convr_ (by rfl) rfl _ (by rfl) _ _ (by rfl) (run_vlB j (by omega) hVa) ?_
                    refine hK.out _ _ ⟨(rd _ hHeld.2.2.2.2).1, (rd _ hHeld.2.2.2.2).2.1, (rd _ hHeld.2.2.2.2).2.2.1, (rd _ hHeld.2.2.2.2).2.2.2, hHeld.2.2.2.2⟩ (fun hHeld => ?_)
                    clear hK K
                    refine norm_ (a' := ?_) ?_ ?_
                    rotate_left
                    · show Act.put _ (some 105) _ = _
                      simp only [Act.put, List.setIfInBounds_toArray, List.set_cons_zero, List.set_cons_succ, i64_w, i32_w]
                      rfl
                    refine one_ (i := 8) (N := some 98) #[true, true, true, true, true, true, true, true, true, false, false, true, true, true, true, true, false, false] rfl rfl (by kernel_rfl) (by decide) (fun K hK => ?_)
                    refine value_ (w1 := ?_) (v := ?_) (by rfl) rfl ?_ ?_
                    rotate_left 2
                    · go_simp
                      constructor
                      · rfl
                      · rfl
                    have hNa := blkNewOf hHeld.2.2.2.2 (.cells #[.int .u8 (97 + (j : Int))] 5)
                    have bN := hHeld.2.2.2.2.alloc hHeld.2.2.2.2.size (.cells #[.int .u8 (97 + (j : Int))] 5)
                    try have hVa := blk_alloc hVa (.cells #[.int .u8 (97 + (j : Int))] 5)
                    try simp only [alloc_sz, drew_sz] at hNa
                    refine hK.out _ _ ⟨(rd _ bN).1, (rd _ bN).2.1, (rd _ bN).2.2.1, (rd _ bN).2.2.2, bN⟩ (fun hHeld => ?_)
                    clear hK K
                    refine norm_ (a' := ?_) ?_ ?_
                    rotate_left
                    · show Act.put _ (some 98) _ = _
                      simp only [Act.put, List.setIfInBounds_toArray, List.set_cons_zero, List.set_cons_succ, i64_w, i32_w]
                      rfl
                    refine one_ (i := 9) (N := some 99) #[true, true, true, true, true, true, true, true, true, true, false, true, true, true, true, true, false, false] rfl rfl (by kernel_rfl) (by decide) (fun K hK => ?_)
                    refine convr_ (by rfl) rfl _ (by rfl) _ _ (by rfl) (run_nmB j (by omega) hNa) ?_
                    refine hK.out _ _ ⟨(rd _ hHeld.2.2.2.2).1, (rd _ hHeld.2.2.2.2).2.1, (rd _ hHeld.2.2.2.2).2.2.1, (rd _ hHeld.2.2.2.2).2.2.2, hHeld.2.2.2.2⟩ (fun hHeld => ?_)
                    clear hK K
                    refine norm_ (a' := ?_) ?_ ?_
                    rotate_left
                    · show Act.put _ (some 99) _ = _
                      simp only [Act.put, List.setIfInBounds_toArray, List.set_cons_zero, List.set_cons_succ, i64_w, i32_w]
                      rfl
                    refine pure_ (i := 10) (N := some 100) (v := ?_) (a' := ?_) #[true, true, true, true, true, true, true, true, true, true, true, true, true, true, true, true, false, false] rfl rfl (by kernel_rfl) (fun _ _ _ h => h) (Or.inl ⟨by rfl, ?_⟩) ?_ ?_
                    rotate_left
                    · intro w'
                      go_simp
                      with_reducible rfl
                    rotate_left
                    · simp only [Act.put, List.setIfInBounds_toArray, List.set_cons_zero, List.set_cons_succ, i64_w, i32_w]
                      rfl
                    refine pure_ (i := 16) (N := some 106) (v := ?_) (a' := ?_) #[true, true, true, true, true, true, true, true, true, true, true, true, true, true, true, true, true, false] rfl rfl (by kernel_rfl) (fun _ _ _ h => h) (Or.inl ⟨by rfl, ?_⟩) ?_ ?_
                    rotate_left
                    · intro w'
                      go_simp
                      with_reducible rfl
                    rotate_left
                    · simp only [Act.put, List.setIfInBounds_toArray, List.set_cons_zero, List.set_cons_succ, i64_w, i32_w]
                      rfl
                    refine pure_ (i := 17) (N := some 107) (v := ?_) (a' := ?_) #[true, true, true, true, true, true, true, true, true, true, true, true, true, true, true, true, true, true] rfl rfl (by kernel_rfl) (fun _ _ _ h => h) (Or.inl ⟨by rfl, ?_⟩) ?_ ?_
                    rotate_left
                    · intro w'
                      go_simp
                      with_reducible rfl
                    rotate_left
                    · simp only [Act.put, List.setIfInBounds_toArray, List.set_cons_zero, List.set_cons_succ, i64_w, i32_w]
                      rfl
                    refine done_ (by kernel_rfl) ?_
                    go_wp2_with fail
                    go_meet
                    exact ⟨rfl, hHeld.2.2.2.2⟩
              case rest =>
                obtain ⟨rfl, hb2⟩ := hcut
                have hbd2 : Below wl.heap.size wl wc.drew := hb2.drew
                go_upto_region 22 with fail
                go_cut [12] from 85 to 130 (fun v wx => ∃ g2 c2, v = .slice (some ⟨g2, 0, none⟩) 1 c2 ∧ wx.cell? ⟨g2, 0, none⟩ = some (.string ⟨#[vlB j]⟩) ∧ Below wl.heap.size wl wx)
                case first =>
                  refine start_ (n := 9) (S := fun w' => (w'.cell? ⟨H, 0, none⟩ = some (.string ⟨#[65]⟩)) ∧ (w'.cell? ⟨H, 1, none⟩ = some (.slice (some ⟨b, off, none⟩) i q2)) ∧ (w'.cell? ⟨b, off + j * 2, none⟩ = some (.string (⟨#[110]⟩ ++ ⟨#[nmB j]⟩))) ∧ (w'.cell? ⟨b, off + j * 2 + 1, none⟩ = some (.string ⟨#[vlB j]⟩)) ∧ (Below wl.heap.size wl w')) (ds := []) #[false, false, false, false, false, false, false, false, false] (by kernel_rfl) rfl rfl ⟨(rd _ hbd2).1, (rd _ hbd2).2.1, (rd _ hbd2).2.2.1, (rd _ hbd2).2.2.2, hbd2⟩ (fun hHeld => ?_)
                  refine pure_ (i := 1) (N := some 109) (v := ?_) (a' := ?_) #[false, true, false, false, false, false, false, false, false] rfl rfl (by kernel_rfl) (fun _ _ _ h => h) (Or.inl ⟨by rfl, ?_⟩) ?_ ?_
                  rotate_left
                  · intro w'
                    go_simp
                    with_reducible rfl
                  rotate_left
                  · simp only [Act.put, List.setIfInBounds_toArray, List.set_cons_zero, List.set_cons_succ, i64_w, i32_w]
                    rfl
                  refine pure_ (i := 3) (N := some 111) (v := ?_) (a' := ?_) #[false, true, false, true, false, false, false, false, false] rfl rfl (by kernel_rfl) (fun _ _ _ h => h) (Or.inl ⟨by rfl, ?_⟩) ?_ ?_
                  rotate_left
                  · intro w'
                    go_simp
                    with_reducible rfl
                  rotate_left
                  · simp only [Act.put, List.setIfInBounds_toArray, List.set_cons_zero, List.set_cons_succ, i64_w, i32_w]
                    rfl
                  refine take_ (i := 0) (N := some 108) (v := ?_) (a' := ?_) #[true, true, false, true, false, false, false, false, false] rfl rfl (by kernel_rfl) (fun _ _ _ h => h) (Or.inl ⟨by rfl, ?_⟩) hHeld ?_ ?_
                  rotate_left
                  · rintro w' ⟨s0, s1, s2, s3, s4⟩
                    go_simp
                    with_reducible rfl
                  rotate_left
                  · simp only [Act.put, List.setIfInBounds_toArray, List.set_cons_zero, List.set_cons_succ, i64_w, i32_w]
                    rfl
                  refine take_ (i := 2) (N := some 110) (v := ?_) (a' := ?_) #[true, true, true, true, false, false, false, false, false] rfl rfl (by kernel_rfl) (fun _ _ _ h => h) (Or.inl ⟨by rfl, ?_⟩) hHeld ?_ ?_
                  rotate_left
                  · rintro w' ⟨s0, s1, s2, s3, s4⟩
                    go_simp
                    with_reducible rfl
                  rotate_left
                  · simp only [Act.put, List.setIfInBounds_toArray, List.set_cons_zero, List.set_cons_succ, i64_w, i32_w]
                    rfl
                  refine pure_ (i := 4) (N := some 112) (v := ?_) (a' := ?_) #[true, true, true, true, true, false, false, false, false] rfl rfl (by kernel_rfl) (fun _ _ _ h => h) (Or.inl ⟨by rfl, ?_⟩) ?_ ?_
                  rotate_left
                  · intro w'
                    go_simp
                    with_reducible rfl
                  rotate_left
                  · simp only [Act.put, List.setIfInBounds_toArray, List.set_cons_zero, List.set_cons_succ, i64_w, i32_w]
                    rfl
                  refine pure_ (i := 5) (N := some 113) (v := ?_) (a' := ?_) #[true, true, true, true, true, true, false, false, false] rfl rfl (by kernel_rfl) (fun _ _ _ h => h) (Or.inl ⟨by rfl, ?_⟩) ?_ ?_
                  rotate_left
                  · intro w'
                    go_simp
                    with_reducible rfl
                  rotate_left
                  · simp only [Act.put, List.setIfInBounds_toArray, List.set_cons_zero, List.set_cons_succ, i64_w, i32_w]
                    rfl
                  refine take_ (i := 6) (N := some 114) (v := ?_) (a' := ?_) #[true, true, true, true, true, true, true, false, false] rfl rfl (by kernel_rfl) (fun _ _ _ h => h) (Or.inl ⟨by rfl, ?_⟩) hHeld ?_ ?_
                  rotate_left
                  · rintro w' ⟨s0, s1, s2, s3, s4⟩
                    go_simp
                    with_reducible rfl
                  rotate_left
                  · simp only [Act.put, List.setIfInBounds_toArray, List.set_cons_zero, List.set_cons_succ, i64_w, i32_w]
                    rfl
                  refine one_ (i := 7) (N := some 115) #[true, true, true, true, true, true, true, true, false] rfl rfl (by kernel_rfl) (by decide) (fun K hK => ?_)
                  refine goes_ Tryd.func13 (by kernel_rfl) rfl #[.agg #[.string ⟨#[65]⟩, .slice (some ⟨b, off, none⟩) i q2], .string (⟨#[110]⟩ ++ ⟨#[nmB j]⟩)] (by rfl) rfl rfl (by simp only [List.map_toArray, List.map_cons, List.map_nil]; rfl) ?_
                  with_reducible refine (VL _ hHeld.2.2.2.2).mono ?_
                  rintro e w5 ⟨v5, rfl, ho5, b5⟩
                  have bN := below_then hHeld.2.2.2.2 hHeld.2.2.2.2.size b5
                  refine ⟨_, rfl, ?_⟩
                  refine hK.out _ _ ⟨(rd _ bN).1, (rd _ bN).2.1, (rd _ bN).2.2.1, (rd _ bN).2.2.2, bN⟩ (fun hHeld => ?_)
                  clear hK K
                  refine norm_ (a' := ?_) ?_ ?_
                  rotate_left
                  · show Act.put _ (some 115) _ = _
                    simp only [Act.put, List.setIfInBounds_toArray, List.set_cons_zero, List.set_cons_succ, i64_w, i32_w]
                    rfl
                  refine pure_ (i := 8) (N := some 12) (v := ?_) (a' := ?_) #[true, true, true, true, true, true, true, true, true] rfl rfl (by kernel_rfl) (fun _ _ _ h => h) (Or.inl ⟨by rfl, ?_⟩) ?_ ?_
                  rotate_left
                  · intro w'
                    go_simp
                    with_reducible rfl
                  rotate_left
                  · simp only [Act.put, List.setIfInBounds_toArray, List.set_cons_zero, List.set_cons_succ, i64_w, i32_w]
                    rfl
                  refine done_ (by kernel_rfl) ?_
                  go_wp2_with fail
                  go_meet
                  obtain ⟨g2, c2, e5, hg2⟩ := one_str ho5
                  exact ⟨g2, c2, e5, hg2, hHeld.2.2.2.2⟩
                case rest =>
                  obtain ⟨g2, c2, rfl, hg2, hb3⟩ := hcut
                  have hb3d := hb3.drew
                  obtain ⟨z0, z1, z2, z3⟩ := rd wc.drew hb3d
                  have hg2d : wc.drew.cell? ⟨g2, 0, none⟩ = some (.string ⟨#[vlB j]⟩) := hg2
                  clear rd VL EQ hg2 hb2 hbd2 hbd
                  go_wp2
                  go_region
                  go_wp2
                  go_roundw
                  case rel => exact ⟨j + 1, by go_num, HI.out, ⟨hb3d⟩⟩
                  case measure => have := HI.out; simp only [intOf]; omega
            · have p3 : decide ((j : Int) < (i : Int)) = false := decide_eq_false (by omega)
              have n3 : decide (j < i) = false := decide_eq_false hjl
              go_wp2
              go_ret
              exact ⟨rfl, below_then bL bL.size HBq.out⟩
end Go.Proofs.YtbdodjedigegdaaDoor.P
