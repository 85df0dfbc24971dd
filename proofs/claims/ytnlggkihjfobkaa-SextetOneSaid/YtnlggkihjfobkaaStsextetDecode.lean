-- Laid by sp.py, a program of this session's, out of the translation and the session's own stand-ins.
import Derived.Test.YtnlggkihjfobkaaPx0
import Derived.Test.YtnlggkihjfobkaaStsextetEncode
import Derived.Test.YtnlggkihjfobkaaSLbuilder
namespace Go.Proofs.Ytnlggkihjfobkaa.P
open Go.RowKit Go.Proofs.YtnlggkihjfobkaaW.PrintWords Go.Proofs.YtnlggkihjfobkaaW.PrintLast Go.Proofs.YtnlggkihjfobkaaW.PrintMore
attribute [local go_sem] max2_int min2_int max_two min_two max_three min_three max_four min_four   -- for this text's walks alone
set_option linter.unusedVariables false
set_option linter.unusedSimpArgs false
set_option linter.unnecessarySimpa false

/-! ### sextet.Decode: a stand-in: the cutter, handing on to a slice in memory -/
open Go.Proofs.Ytnlggkihjfobkaa.SL
/-- What was handed on stands in the slice. -/
def dxI (w0 : World) (Bs : Nat) (out : List Int) (W : World) : Prop := w0.heap.size ≤ Bs ∧ ∃ v, W.heap[Bs]? = some (.cells #[v] 22 (0, 0)) ∧ W.ownsRow w0.heap.size 5 1 v out.length (nums .u8 out)
theorem own_ne1 {w : World} {B b : Nat} {v : Value} {n : Nat} {xs : List Value} {cs : Array Value} {T : Nat} {fr : Nat × Nat} (hown : w.ownsRow B 5 1 v n xs) (hb : w.heap[b]? = some (.cells cs T fr)) (hT : T ≠ 5) : v.ownBlock ≠ some b := Lib.ownBlock_neF (World.ownsRowF_of hown) hb hT
set_option maxHeartbeats 2000000 in
theorem dx_hand (w0 : World) (Bs : Nat) (out : List Int) (x : Int) (hx0 : 0 ≤ x) (hx1 : x < 256) (w : World) (h : dxI w0 Bs out w) (hlen : out.length < 1000000) (hBw : w0.heap.size ≤ w.heap.size) :
    Calls Try.prog 21 #[.int .i64 x, .pointer (some ⟨Bs, 0, none⟩)] w fun e w' => e = .returned (.tuple #[]) ∧ dxI w0 Bs (out ++ [x]) w' ∧ Below w0.heap.size w w' ∧ Lib.OthersKept 5 (some Bs) w w' := by
  obtain ⟨hB, v, hv, hown⟩ := h
  obtain ⟨i0, hi, hz0, hz1, hz2⟩ := info_parts bd_infoByte
  have c0 := cell_of_one hv
  have e1 : x % 256 = x := by omega
  have hown2 : (w.alloc (.cells #[.int .u8 x] 5)).ownsRow w0.heap.size 5 1 v out.length (nums .u8 out) := own_move hown (fun k hk => Lib.alloc_old w _ k (own_lt hown k hk))
  go_enter Try.func21, Try.ntmps21
  go_wp2_with (at_builtin; refine wpList_append_own _ rfl _ _ 22 rfl w0.heap.size 5 i0 (.int .u8 0) 1 1 Try.underlying22 hi hz0 hz1 hz2 rfl (by decide) _ _ _ rfl hown2 ⟨w.heap.size, 0, none⟩ 1 1 [.int .u8 x] rfl rfl ?c1 ?c2 ?c3 ?c4 ?c5 ?_)
  case c1 =>
    intro j u hj
    match j, hj with
    | 0, hj => simp at hj; subst hj; simp [Addr.add]
  case c2 => intro u hu; simp at hu; subst hu; rfl
  case c3 => unfold maxLen; omega
  case c4 => omega
  case c5 => simp; omega
  intro v' w2 hown' hgrow _
  have hlt : Bs < w.heap.size := by
    rcases Nat.lt_or_ge Bs w.heap.size with h' | h'
    · exact h'
    · simp [Array.getElem?_eq_none h'] at hv
  have hne := own_ne1 hown hv (by decide)
  have hb2 : w2.heap[Bs]? = some (.cells #[v] 22 (0, 0)) := by
    rw [hgrow.block Bs (by simp; omega) (fun e => hne e.symm), Lib.alloc_old w _ Bs hlt]
    exact hv
  have d0 := cell_of_one hb2
  have f0 := free_of_one hb2
  have hne2 := own_ne1 hown' hb2 (by decide)
  obtain ⟨g, cap, rfl⟩ : ∃ g cap, v' = .slice (some ⟨g, 0, none⟩) (out.length + 1) cap := by
    rcases hown'.2 with ⟨_, h0⟩ | ⟨g, cap, cur, hv, _⟩
    · omega
    · exact ⟨g, cap, hv⟩
  go_wp2
  go_end0
  refine ⟨rfl, ⟨hB, _, one_setCell hb2, ?_⟩, ?_, (((Lib.OthersKept.refl _ _ w).alloc _).grown hgrow (Lib.ownsRowF_kind (World.ownsRowF_of hown2))).setCell ⟨Bs, 0, none⟩ rfl _⟩
  · have e : nums .u8 (out ++ [x]) = nums .u8 out ++ [.int .u8 x] := by simp [nums]
    rw [e, List.length_append]
    exact own_move hown' (fun k hk => Below.heap_setCell _ _ _ _ (fun e => hne2 (by rw [hk, e])))
  · exact (((Below.refl _ w).alloc hBw _).grown hgrow (by simp; omega) (fun k hk => own_base hown2 k hk)).setCell (p := ⟨Bs, 0, none⟩) hB _
theorem dx_sink (w0 : World) (Bs : Nat) : Sink w0 21 8 1000000 #[.pointer (some ⟨Bs, 0, none⟩)] Bs (dxI w0 Bs) where
  ent := fun args w => cut_enter (f := 21) Try.func21 (by kernel_rfl) rfl args w
  hand := fun W out x h0 h1 hI hN hB => dx_hand w0 Bs out x h0 h1 W hI hN hB
  put := fun W out B o u hI hk => by
    obtain ⟨hB, v, hv, hown⟩ := hI
    have hne : Bs ≠ B := by
      rintro rfl
      rw [hv] at hk
      simp at hk
    have hne2 := own_ne1 hown hk (by decide)
    exact ⟨hB, v, (Below.heap_setCell _ _ _ _ hne).trans hv, own_move hown (fun k hk => Below.heap_setCell _ _ _ _ (fun e => hne2 (by rw [hk, e])))⟩
  drew := fun W out hI => hI
theorem dx_below {w0 : World} {Bs : Nat} {out : List Int} {W W' : World} (h : dxI w0 Bs out W) (hb : Below W.heap.size W W') : dxI w0 Bs out W' := by
  obtain ⟨hB, v, hv, hown⟩ := h
  exact ⟨hB, v, (hb.block Bs (Array.getElem?_eq_some_iff.1 hv).1).trans hv, own_move hown (fun k hk => hb.block k (own_lt hown k hk))⟩
/-! #### Decode -/
/-- The number of a letter: -1: none. -/
def dxNum (c : UInt8) : Int := Lib.indexByte sxWords.data.toList c
/-- The numbers up to what is no letter. -/
def dxNums (s : List UInt8) : List Int := (s.map dxNum).takeWhile (fun x => decide (0 ≤ x))
def dxOut (s : List UInt8) : List Int := (cutAll 8 6 (dxNums s) 0 0).1
theorem dx_lt (l : List UInt8) (c : UInt8) : Lib.indexByte l c < l.length := by
  induction l with
  | nil => exact (by decide : (-1 : Int) < 0)
  | cons b l ih =>
    unfold Lib.indexByte
    rw [List.length_cons]
    split
    · omega
    · split
      · omega
      · omega
theorem dxNum_in (c : UInt8) : -1 ≤ dxNum c ∧ dxNum c < 64 := ⟨Lib.indexByte_ge _ _, dx_lt _ _⟩
theorem dxNums_cons (c : UInt8) (s : List UInt8) (h : 0 ≤ dxNum c) : dxNums (c :: s) = dxNum c :: dxNums s := by
  unfold dxNums
  rw [List.map_cons, List.takeWhile_cons, if_pos (by exact decide_eq_true h)]
theorem dxNums_stop (c : UInt8) (s : List UInt8) (h : dxNum c < 0) : dxNums (c :: s) = [] := by
  unfold dxNums
  rw [List.map_cons, List.takeWhile_cons, if_neg (by rw [decide_eq_true_eq]; omega)]
def sextet_Decode.f (a0 : ByteArray) : Option (List Int × Int) := if a0.size ≤ 100000 then (sextet_Encode.f (dxOut a0.data.toList)).bind fun t => some (if t.toList = a0.toList then (dxOut a0.data.toList, 0) else ([], 6)) else none
set_option maxHeartbeats 4000000 in
theorem sextet_Decode.calls (a0 : ByteArray) (r1 : List Int) (r2 : Int) (w : World) (h : sextet_Decode.f a0 = some (r1, r2)) :
    Calls Try.prog 12 #[.string a0] w fun e w' => ∃ v0_ : Value, e = .returned (.tuple #[v0_, .int .i64 r2]) ∧ Kd.R (Kd.int .u8) 5 w' w.heap.size (fun _ => True) v0_ r1 ∧ Below w.heap.size w w' := by
  unfold sextet_Decode.f at h
  by_cases hn : a0.size ≤ 100000
  case neg => rw [if_neg hn] at h; exact absurd h (by simp)
  rw [if_pos hn] at h
  obtain ⟨t, ht, h⟩ := Option.bind_eq_some_iff.mp h
  have HT := Aside0.mk ht
  have HH := Aside0.mk h
  clear ht h
  have hb1 : Below w.heap.size w (w.alloc (.cells #[.slice none 0 0] 22)) := below_alloc (Below.refl _ _) _
  have hs1 : (w.alloc (.cells #[.slice none 0 0] 22)).heap.size = w.heap.size + 1 := Array.size_push _
  have hnew : dxI w w.heap.size [] (w.alloc (.cells #[.slice none 0 0] 22)) := ⟨Nat.le_refl _, .slice none 0 0, heap_alloc_new w _, ⟨rfl, .inl ⟨rfl, rfl⟩⟩⟩
  have hS := dx_sink w w.heap.size
  have hin := sx_cutter w (w.alloc (.cells #[.slice none 0 0] 22)) 21 8 #[.pointer (some ⟨w.heap.size, 0, none⟩)] w.heap.size (dxI w w.heap.size) (by omega) hb1 (fun W' hb => dx_below hnew hb)
  rw [hs1] at hin
  go_enter Try.func12, Try.ntmps12
  go_wp2_with fail
  go_step3
  go_wp2_with (go_at_call 15; refine hin.mono ?_; rintro e w1 ⟨rfl, h1⟩)
  go_step3
  clear hin hnew hb1 hs1
  obtain ⟨tot, htot⟩ : ∃ tot, tot = cutAll 8 6 (dxNums a0.data.toList) 0 0 := ⟨_, rfl⟩
  have hne : (w.heap.size + 1 + 1 + 1 ≠ w.heap.size + 1 + 1 + 1 + 1) ∧ (w.heap.size + 1 + 1 + 1 ≠ w.heap.size + 1) ∧ (w.heap.size + 1 + 1 + 1 ≠ w.heap.size + 1 + 1) ∧ (w.heap.size + 1 + 1 + 1 + 1 ≠ w.heap.size + 1) ∧ (w.heap.size + 1 + 1 + 1 + 1 ≠ w.heap.size + 1 + 1) := ⟨by omega, by omega, by omega, by omega, by omega⟩
  go_wp2_with fail
  go_loopw [12] (fun v wr => ∃ (k H M : Nat) (o : List Int), k ≤ a0.size ∧ v = .int .i64 (k : Int) ∧ CutIn w 21 8 #[.pointer (some ⟨w.heap.size, 0, none⟩)] w.heap.size (dxI w w.heap.size) (w.heap.size + 1 + 1 + 1) (w.heap.size + 1 + 1 + 1 + 1) (w.heap.size + 1) (w.heap.size + 1 + 1) H M o wr ∧ H < 2 ^ M ∧ M < 8 ∧ o.length ≤ 3 * k ∧ o ++ (cutAll 8 6 (dxNums (a0.data.toList.drop k)) H M).1 = tot.1) (fun v _ => a0.size - (intOf v).toNat)
  case atStart => exact ⟨0, 0, 0, [], Nat.zero_le _, rfl, h1, by decide, by decide, Nat.zero_le _, by rw [htot]; rfl⟩
  case round =>
    obtain ⟨k, H, M, o, hk, rfl, hC, hH, hM, ho, ht1⟩ := hrel
    by_cases hlt : k < a0.size
    · have q1 : decide ((k : Int) < (a0.size : Int)) = true := decide_eq_true (by omega)
      have p1 : (k < a0.size) = True := eq_true hlt
      have hlt2 : k < a0.data.toList.length := by rw [data_length]; exact hlt
      rw [List.drop_eq_getElem_cons hlt2] at ht1
      obtain ⟨g0, g1⟩ := dxNum_in a0.data.toList[k]
      have hIx := fun W => Try.strings_IndexByte sxWords ((a0.data.toList[k].toNat : Nat) : Int) W
      have ex : ((a0.data.toList[k].toNat : Nat) : Int).toNat.toUInt8 = a0.data.toList[k] := by simp
      rw [ex] at hIx
      change ∀ W, Calls Try.prog 22 #[.string sxWords, .int .u8 ((a0.data.toList[k].toNat : Nat) : Int)] W fun e w' => e = .returned (.int .i64 (dxNum a0.data.toList[k])) ∧ w' = W at hIx
      by_cases hneg : dxNum a0.data.toList[k] < 0
      · have q2 : decide (dxNum a0.data.toList[k] < 0) = true := decide_eq_true hneg
        rw [dxNums_stop _ _ hneg] at ht1
        simp only [cutAll, List.append_nil] at ht1
        generalize hc : dxNum a0.data.toList[k] = x at hIx q2
        clear hc g0 g1 ex
        have ho2 : o = dxOut a0.data.toList := by unfold dxOut; rw [← htot]; exact ht1
        obtain ⟨_, vb, hv, hown⟩ := hC.hI
        have hvlt := (Array.getElem?_eq_some_iff.1 hv).1
        have cb := cell_of_one hv
        obtain ⟨A, c, e, hlc, hCC⟩ := Kd.R_reads (Kd.R_of_own (enc := Value.int .u8) (h1 := fun _ => rfl) (ok := fun _ => True) hown (fun _ _ => trivial))
        subst e
        have hEn := sextet_Encode.calls A c o t wr hCC hlc (by rw [ho2]; exact HT.out)
        have hvR := Kd.R_of_own (enc := Value.int .u8) (h1 := fun _ => rfl) (ok := fun _ => True) hown (fun _ _ => trivial)
        have hBw := hC.hB
        have HO2 := Aside0.mk ho2
        have HEn := Aside0.mk hEn
        clear hown hCC hC ht1 ho2 hEn
        by_cases hs : t.toList = a0.toList
        · have q5 : (t.toList == a0.toList) = true := beq_iff_eq.mpr hs
          have hh := HH.out
          rw [if_pos hs] at hh
          simp only [Option.some.injEq, Prod.mk.injEq] at hh
          obtain ⟨rfl, rfl⟩ := hh
          go_wp2_with (first | (go_at_call 22; refine (hIx _).mono ?_; rintro e w2 ⟨rfl, hw⟩; obtain rfl := hw.symm) | (go_at_call 8; refine HEn.out.mono ?_; rintro e w3 ⟨rfl, hb3⟩; have hv3 := (hb3.block _ hvlt).trans hv; have cb3 := cell_of_one hv3))
          rw [Exit.noGoto_ret]
          go_ret2
          refine ⟨_, rfl, ?_, hBw.trans ⟨hb3.os, hb3.tape, hb3.output, hb3.size, fun j hj => hb3.block j (Nat.lt_of_lt_of_le hj hBw.size)⟩⟩
          rw [← HO2.out]
          exact Kd.R_below hvR hb3
        · have q5 : (t.toList == a0.toList) = false := beq_eq_false_iff_ne.mpr hs
          have hh := HH.out
          rw [if_neg hs] at hh
          simp only [Option.some.injEq, Prod.mk.injEq] at hh
          obtain ⟨rfl, rfl⟩ := hh
          go_wp2_with (first | (go_at_call 22; refine (hIx _).mono ?_; rintro e w2 ⟨rfl, hw⟩; obtain rfl := hw.symm) | (go_at_call 8; refine HEn.out.mono ?_; rintro e w3 ⟨rfl, hb3⟩; have hv3 := (hb3.block _ hvlt).trans hv; have cb3 := cell_of_one hv3))
          rw [Exit.noGoto_ret]
          go_ret2
          exact ⟨_, rfl, Kd.R_nil _ _ _ _ _, hBw.trans ⟨hb3.os, hb3.tape, hb3.output, hb3.size, fun j hj => hb3.block j (Nat.lt_of_lt_of_le hj hBw.size)⟩⟩
      · have q2 : decide (dxNum a0.data.toList[k] < 0) = false := decide_eq_false hneg
        rw [dxNums_cons _ _ (by omega)] at ht1
        obtain ⟨xn, hxn⟩ : ∃ xn : Nat, dxNum a0.data.toList[k] = (xn : Int) := ⟨(dxNum a0.data.toList[k]).toNat, by omega⟩
        rw [hxn] at hIx ht1 g1
        have hT := cut_take hS hne ⟨by decide, by decide⟩ 6 xn (by decide) (by omega) hH hM (by omega) hC
        have hTi := cutTake_in 8 6 xn H M ⟨by decide, by decide⟩ (by decide) (by omega) hH hM
        simp only [cutAll, Int.toNat_natCast] at ht1
        rw [show ((6 : Nat) : Int) = 6 from rfl] at hT
        have q2 : decide ((xn : Int) < 0) = false := decide_eq_false (by omega)
        generalize cutTake 8 6 xn H M = t2 at hT hTi ht1
        have HH1 := Aside0.mk ht1
        clear ht1 hxn hneg g0 ex
        go_wp2_with (first | (go_at_call 22; refine (hIx _).mono ?_; rintro e w2 ⟨rfl, hw⟩; obtain rfl := hw.symm) | (go_at_call 25; refine hT.mono ?_; rintro e w2 ⟨rfl, hC2⟩))
        go_roundw
        case rel =>
          refine ⟨k + 1, t2.2.1, t2.2.2, o ++ t2.1, by omega, by go_num, hC2, hTi.1, hTi.2.1, ?_, ?_⟩
          · have := hTi.2.2
            rw [List.length_append]
            omega
          · rw [List.append_assoc]
            exact HH1.out
        case measure => simp only [intOf]; omega
    · have q1 : decide ((k : Int) < (a0.size : Int)) = false := decide_eq_false (by omega)
      · rw [List.drop_of_length_le (by rw [data_length]; omega)] at ht1
        have e0 : dxNums [] = [] := rfl
        rw [e0] at ht1
        simp only [cutAll, List.append_nil] at ht1
        have ho2 : o = dxOut a0.data.toList := by unfold dxOut; rw [← htot]; exact ht1
        obtain ⟨_, vb, hv, hown⟩ := hC.hI
        have hvlt := (Array.getElem?_eq_some_iff.1 hv).1
        have cb := cell_of_one hv
        obtain ⟨A, c, e, hlc, hCC⟩ := Kd.R_reads (Kd.R_of_own (enc := Value.int .u8) (h1 := fun _ => rfl) (ok := fun _ => True) hown (fun _ _ => trivial))
        subst e
        have hEn := sextet_Encode.calls A c o t wr hCC hlc (by rw [ho2]; exact HT.out)
        have hvR := Kd.R_of_own (enc := Value.int .u8) (h1 := fun _ => rfl) (ok := fun _ => True) hown (fun _ _ => trivial)
        have hBw := hC.hB
        have HO2 := Aside0.mk ho2
        have HEn := Aside0.mk hEn
        clear hown hCC hC ht1 ho2 hEn
        by_cases hs : t.toList = a0.toList
        · have q5 : (t.toList == a0.toList) = true := beq_iff_eq.mpr hs
          have hh := HH.out
          rw [if_pos hs] at hh
          simp only [Option.some.injEq, Prod.mk.injEq] at hh
          obtain ⟨rfl, rfl⟩ := hh
          go_wp2_with (first | (go_at_call 8; refine HEn.out.mono ?_; rintro e w3 ⟨rfl, hb3⟩; have hv3 := (hb3.block _ hvlt).trans hv; have cb3 := cell_of_one hv3))
          rw [Exit.noGoto_ret]
          go_ret2
          refine ⟨_, rfl, ?_, hBw.trans ⟨hb3.os, hb3.tape, hb3.output, hb3.size, fun j hj => hb3.block j (Nat.lt_of_lt_of_le hj hBw.size)⟩⟩
          rw [← HO2.out]
          exact Kd.R_below hvR hb3
        · have q5 : (t.toList == a0.toList) = false := beq_eq_false_iff_ne.mpr hs
          have hh := HH.out
          rw [if_neg hs] at hh
          simp only [Option.some.injEq, Prod.mk.injEq] at hh
          obtain ⟨rfl, rfl⟩ := hh
          go_wp2_with (first | (go_at_call 8; refine HEn.out.mono ?_; rintro e w3 ⟨rfl, hb3⟩; have hv3 := (hb3.block _ hvlt).trans hv; have cb3 := cell_of_one hv3))
          rw [Exit.noGoto_ret]
          go_ret2
          exact ⟨_, rfl, Kd.R_nil _ _ _ _ _, hBw.trans ⟨hb3.os, hb3.tape, hb3.output, hb3.size, fun j hj => hb3.block j (Nat.lt_of_lt_of_le hj hBw.size)⟩⟩

end Go.Proofs.Ytnlggkihjfobkaa.P
