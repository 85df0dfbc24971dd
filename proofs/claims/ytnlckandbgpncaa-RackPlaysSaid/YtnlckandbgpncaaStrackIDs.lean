-- Laid by sp.py, a program of this session's, out of the translation and the session's own stand-ins.
import Derived.Test.YtnlckandbgpncaaPx0
import Derived.Test.YtnlckandbgpncaaStrackTable
import Derived.Test.YtnlckandbgpncaaStrackOps
import Derived.RangeFuncBox
import Derived.RangeFuncLeaves
import Derived.RangeFuncNested
import Derived.Shelf.Abstract
import Derived.OwnWalkIn
import Derived.TacticsInMore
import Derived.LoopNIn
import Derived.LoopIn
import Derived.Outline
import Derived.Test.YtnlckandbgpncaaShelf
import Derived.Test.YtnlckandbgpncaaStrackGive
namespace Go.Proofs.Ytnlckandbgpncaa.P
open Go.RowKit Go.Proofs.YtnlckandbgpncaaW.PrintWords Go.Proofs.YtnlckandbgpncaaW.PrintLast Go.Proofs.YtnlckandbgpncaaW.PrintMore
attribute [local go_sem] max2_int min2_int max_two min_two max_three min_three max_four min_four   -- for this text's walks alone
set_option linter.unusedVariables false
set_option linter.unusedSimpArgs false
set_option linter.unnecessarySimpa false

/-! ### rack.Rack: IDs: a range over the table's own iterator -/
attribute [local go_sem] Oper.semAt_some
/-- What a round must keep: the iterator's box, and what stood before. -/
def rkSees (w : World) (Bn R : Nat) (W : World) : Prop := Boxed W Bn 69 (.pointer (some ⟨R, 0, none⟩)) ∧ ∀ (j : Nat) (o : Obj), w.heap[j]? = some o → o.isCells = true → W.heap[j]? = some o
def rkKeeps (w : World) (Bn R : Nat) (W W' : World) : Prop := rkSees w Bn R W → rkSees w Bn R W'
section
variable {w0 : World} {R : Nat} {kv vv : Value} {ks vs : List Int} {size next step : Int} {w : World}
theorem rkSees.blk {Bn : Nat} {W : World} (s : rkSees w Bn R W) (h : RkRaw w0 R kv vv ks vs size next step w) : W.heap[R]? = some (.cells #[kv, vv, .int .i64 size, .int .i64 next, .int .i64 step] 42 (0, 0)) := s.2 R _ h.blk rfl
theorem row_sees {base : Nat} {v : Value} {xs : List Int} {W : World} (h : w.ownsRow base 3 1 v xs.length (nums .i64 xs)) (s : ∀ (j : Nat) (o : Obj), w.heap[j]? = some o → o.isCells = true → W.heap[j]? = some o) (j : Nat) (hj : j < xs.length) : ∃ g c, v = .slice (some ⟨g, 0, none⟩) xs.length c ∧ W.cell? ⟨g, 0 + j, none⟩ = some (.int .i64 (xs.getD j 0)) := by
  rcases own_form h with ⟨_, rfl⟩ | ⟨g, cap, cur, rfl, hg, hh, hnc, hcm, hsz, htk, hc⟩
  · exact absurd hj (Nat.not_lt_zero _)
  · refine ⟨g, cap, rfl, ?_⟩
    rw [← hc j hj]
    have e := s g _ hh rfl
    simp only [World.cell?, e, hh]
theorem zip_take_succ {ks vs : List Int} (hl : ks.length = vs.length) (k : Nat) (h : k < ks.length) : (ks.zip vs).take (k + 1) = (ks.zip vs).take k ++ [(ks.getD k 0, vs.getD k 0)] := by
  rw [List.take_succ_eq_append_getElem (by rw [List.length_zip]; omega)]
  rw [List.getElem_zip, List.getD_eq_getElem?_getD, List.getD_eq_getElem?_getD, List.getElem?_eq_getElem h, List.getElem?_eq_getElem (by omega)]
  rfl
set_option maxRecDepth 100000 in
set_option maxHeartbeats 2000000 in
theorem tb_all1 (h : RkRaw w0 R kv vv ks vs size next step w) (ok : TbOk ks vs) (n : Nat) (hn : 3 ≤ n) (l Bn : Nat) (J Jx : List (Int × Int) → World → Prop)
    (hdr : ∀ s W nd, J s W → J s (W.drewN nd))
    (hY : ∀ pre (b : Int × Int) W, J pre W → pre.length < ks.length → YieldAt Fence.wide (n - 1) Try.prog l #[.int .i64 b.1, .int .i64 b.2] W fun e W' =>
      (e = .returned (.bool true) ∧ J (pre ++ [b]) W' ∧ rkKeeps w Bn R W W') ∨ (e = .returned (.bool false) ∧ Jx (pre ++ [b]) W'))
    (W : World) (hBn : rkSees w Bn R W) (h0 : J [] W) :
    CallsIn Fence.wide n Try.prog 32 #[.func (.yield l) #[] #[], .pointer (some ⟨Bn, 0, none⟩)] W fun e W' => (∃ v, e = .returned v) ∧
      ((∃ ys, ys = ks.zip vs ∧ J ys W') ∨ (∃ pre, pre <+: ks.zip vs ∧ Jx pre W')) := by
  obtain ⟨Ak, ck, ek⟩ := own_slice h.hk
  obtain ⟨Av, cv, ev⟩ := own_slice h.hv
  subst ek ev
  have hml := ok.most
  have hln := ok.len
  have HB := Aside0.mk hBn
  have c0 := blk_cell (hBn.blk h) 0
  simp at c0
  have hc := hBn.1.cell
  refine callsIn_of_wp Try.func32 rfl trivial ?_ rfl
  simp only [Try.ntmps32, List.size_toArray, List.length_cons, List.length_nil, Nat.reduceAdd, Nat.reduceSub, Array.replicate_succ, Array.replicate_zero, List.push_toArray, List.append_toArray, List.nil_append, List.cons_append]
  have H0 := Aside0.mk h0
  have HH := Aside0.mk h
  have HD := Aside0.mk hdr
  have HLN := Aside0.mk hln
  clear h0 h hdr hBn hln
  gi_wp2
  gi_loopw [3, 4, 10] (fun _ _ i wr => ∃ k : Nat, k ≤ ks.length ∧ i = .int .i64 (k : Int) ∧ J ((ks.zip vs).take k) wr ∧ rkSees w Bn R wr) (fun _ _ i _ => ks.length - (intOf i).toNat)
  case atStart => exact ⟨0, Nat.zero_le _, rfl, by simpa using H0.out, HB.out⟩
  case round =>
    obtain ⟨k, hk, rfl, hJ, hS⟩ := hrel
    have hc1 := hS.1.cell
    have c1 := blk_cell (hS.blk HH.out) 1
    simp at c1
    by_cases hlt : k < ks.length
    · have hvl : k < vs.length := by rw [← HLN.out]; exact hlt
      obtain ⟨g1, q1, e1, d1⟩ := row_sees HH.out.hk hS.2 k hlt
      obtain ⟨g2, q2, e2, d2⟩ := row_sees HH.out.hv hS.2 k hvl
      obtain rfl : Ak = some ⟨g1, 0, none⟩ := (Value.slice.inj e1).1
      obtain rfl : Av = some ⟨g2, 0, none⟩ := (Value.slice.inj e2).1
      rw [Nat.zero_add] at d1 d2
      clear e1 e2
      have hz := zip_take_succ HLN.out k hlt
      generalize ks.getD k 0 = a at d1 hz
      generalize vs.getD k 0 = b at d2 hz
      have HZ := Aside0.mk hz
      clear hz
      obtain ⟨fn, tmps, assign, body, hy, hR⟩ := hY _ (a, b) wr hJ (by rw [List.length_take, List.length_zip]; omega)
      have HSS := Aside0.mk hS
      clear hS
      have HYY := Aside0.mk hY
      clear hY
      gi_wp2
      refine ⟨fun h => (by cases h), hR.mono ?_⟩
      rintro e W3 (⟨rfl, hJ3, hk3⟩ | ⟨rfl, hJx3⟩)
      · have hB3 := hk3 HSS.out
        gi_wp2
        go_roundw
        case rel => exact ⟨k + 1, by omega, by go_num, by rw [HZ.out]; exact hJ3, hB3⟩
        case measure => simp [intOf]; omega
      · gi_wp2
        refine bodyPost_ret (results_none rfl _ _ _) rfl ?_
        exact ⟨⟨_, rfl⟩, .inr ⟨_, ⟨(ks.zip vs).drop (k + 1), by rw [← HZ.out, List.take_append_drop]⟩, hJx3⟩⟩
    · have HSS := Aside0.mk hS
      clear hS
      have h0 : decide ((k : Int) < (ks.length : Int)) = false := decide_eq_false (by omega)
      gi_wp2
      go_end0
      have hkm : k = ks.length := by omega
      subst hkm
      exact ⟨⟨_, rfl⟩, .inl ⟨_, rfl, by rwa [List.take_of_length_le (by rw [List.length_zip]; omega)] at hJ⟩⟩
theorem rkKeeps_t {Bn : Nat} {X Y Z : World} (h : rkKeeps w Bn R X Y) (k : rkKeeps w Bn R Y Z) : rkKeeps w Bn R X Z := fun hb => k (h hb)
theorem rkKeeps_b {Bn : Nat} (W : World) (l : Nat) (o o' : Obj) (h : W.heap[l]? = some o) (hc : o.isCells = false) : rkKeeps w Bn R W (W.putObj l o') := fun hb => by
  refine ⟨hb.1.kept (grownBy_putObj' W l o') (fun e => ?_), fun j o2 hj hc2 => ?_⟩
  · cases e
    rw [show W.heap[Bn]? = _ from hb.1] at h
    cases h
    cases hc
  · have h1 := hb.2 j o2 hj hc2
    refine ((grownBy_putObj' W l o').block j (Array.getElem?_eq_some_iff.1 h1).1 (fun e => ?_)).trans h1
    cases e
    rw [h1] at h
    cases h
    rw [hc] at hc2
    cases hc2
theorem tb_stops (h : RkRaw w0 R kv vv ks vs size next step w) (ok : TbOk ks vs) (n : Nat) (hn : 3 ≤ n) (Bn : Nat) (w1 : World) (hs : rkSees w Bn R w1) :
    SeqStopsK Fence.wide n Try.prog 32 #[.pointer (some ⟨Bn, 0, none⟩)] (fun b : Int × Int => #[Value.int .i64 b.1, Value.int .i64 b.2]) (rkKeeps w Bn R) (fun ys => ys = ks.zip vs) (fun pre => pre <+: ks.zip vs) ks.length w1 := fun l J Jx W hW hJ _ hY h0 =>
  tb_all1 h ok n hn l Bn J Jx (fun s W nd h => hJ s W (W.drewN nd) none h (grown_of_below (pw_below_drewN (Below.refl _ _) nd) none) (fun r e => by cases e)) hY W ⟨(hW.block Bn (Array.getElem?_eq_some_iff.1 hs.1).1).trans hs.1, fun j o hj hc => (hW.block j (Array.getElem?_eq_some_iff.1 (hs.2 j o hj hc)).1).trans (hs.2 j o hj hc)⟩ h0
set_option maxHeartbeats 1000000 in
theorem tb_all (n : Nat) (w : World) :
    CallsIn Fence.wide n Try.prog 26 #[.pointer (some ⟨R, 0, none⟩)] w fun e w' => e = .returned (.func (.func 32) #[] #[.pointer (some ⟨w.heap.size, 0, none⟩)]) ∧ w' = w.alloc (.cells #[.pointer (some ⟨R, 0, none⟩)] 69) := by
  refine callsIn_of_wp Try.func26 rfl trivial ?_ rfl
  simp only [Try.ntmps26, List.size_toArray, List.length_cons, List.length_nil, Nat.reduceAdd, Nat.reduceSub, Array.replicate_succ, Array.replicate_zero, List.push_toArray, List.append_toArray, List.nil_append, List.cons_append]
  gi_wp2
  go_ret
  exact ⟨rfl, rfl⟩
set_option maxRecDepth 100000 in
set_option maxHeartbeats 2000000 in
theorem rk_IDs_in (h : RkRaw w0 R kv vv ks vs size next step w) (ok : TbOk ks vs) (hs : size ≠ 0) (n : Nat) (hn : 6 ≤ n) :
    CallsIn Fence.wide n Try.prog 10 #[.pointer (some ⟨R, 0, none⟩)] w fun e W' => ∃ v, e = .returned v ∧ W'.ownsRow w.heap.size 3 1 v ks.length (nums .i64 ks) ∧ Below w.heap.size w W' := by
  have h1 : 1 ≤ n := by omega
  have N := rk_none h hs
  have c0 := blk_cell h.blk 0
  have HH := Aside0.mk h
  have HML := Aside0.mk (And.intro ok.most ok.len)
  obtain ⟨i0, hi, hz0, hz1, hz2⟩ := info_parts info3
  refine callsIn_of_wp_marks Try.func10 rfl trivial ?_ rfl
  simp only [Try.ntmps10, List.size_toArray, List.length_cons, List.length_nil, Nat.reduceAdd, Nat.reduceSub, Array.replicate_succ, Array.replicate_zero, List.push_toArray, List.append_toArray, List.nil_append, List.cons_append]
  clear h
  gi_wp2
  refine ⟨trivial, (callsIn_wide.2 N).mono ?_⟩
  rintro e w' ⟨rfl, hw⟩
  obtain rfl := hw.symm
  gi_wp2
  refine ⟨trivial, (tb_all (n - 1) _).mono ?_⟩
  rintro e w' ⟨rfl, rfl⟩
  gi_wp2
  have bO := Boxed.new w 32 (.slice none 0 0)
  have bN := Boxed.new (w.alloc (.cells #[.slice none 0 0] 32)) 69 (.pointer (some ⟨R, 0, none⟩))
  rw [World.size_alloc] at bN
  have hB0 : Below w.heap.size w ((w.alloc (.cells #[.slice none 0 0] 32)).alloc (.cells #[.pointer (some ⟨R, 0, none⟩)] 69)) := ((Below.refl _ w).alloc (Nat.le_refl _) _).alloc (by simp) _
  have sN : rkSees w (w.heap.size + 1) R ((w.alloc (.cells #[.slice none 0 0] 32)).alloc (.cells #[.pointer (some ⟨R, 0, none⟩)] 69)) := ⟨bN, fun j o hj _ => (hB0.block j (Array.getElem?_eq_some_iff.1 hj).1).trans hj⟩
  refine wpIn_rangeFunc_ownG rfl h1 (gf := 32) (lb := #[.pointer (some ⟨w.heap.size + 1, 0, none⟩)]) rfl trivial (enters_of Try.func32 (by kernel_rfl) rfl)
    (tb_stops HH.out ok (n - 1) (by omega) (w.heap.size + 1) _ sN) rkKeeps_t (fun W l o o' _ h hc _ => rkKeeps_b W l o o' h hc) (Below.refl _ _) (fun _ => rfl)
    (fun pre W => ((∃ v, Boxed W w.heap.size 32 v ∧ W.ownsRow w.heap.size 3 1 v pre.length (pre.map fun b => Value.int .i64 b.1) ∧ True)) ∧ Below w.heap.size w W)
    (fun _ _ _ => False)
    (OwnFrom.and (Own.from (holdsRow_own w.heap.size w.heap.size 32 3 1 (fun pre : List (Int × Int) => pre.length) (fun pre => pre.map fun b => Value.int .i64 b.1) (fun _ _ => True)) _) (ownFrom_below (Nat.le_refl _) (by simp; omega)))
    (fun _ _ _ _ _ hs _ _ => hs)
    ⟨⟨_, bO.alloc _, World.ownsRow_nil _ _ _ _, trivial⟩, hB0⟩
    (fun b => { tmps := #[.pointer (some ⟨R, 0, none⟩), undef, .slice none 0 0, .pointer (some ⟨w.heap.size, 0, none⟩), .int .i64 b.1, .pointer (some ⟨R, 0, none⟩), .bool false, .pointer (some ⟨R, 0, none⟩), .pointer (some ⟨R, 0, none⟩), .pointer (some ⟨R, 0, none⟩), .func (.func 32) #[] #[.pointer (some ⟨w.heap.size + 1, 0, none⟩)], .int .i64 b.1, .int .i64 b.2, undef, undef, undef, undef, undef], defers := [] }) ?assign ?body ?done ?stop
  case assign =>
    intro l b W K hK
    gi_wp2
    exact hK
  case body =>
    rintro l pre b W ⟨⟨v, hv, hrow, _⟩, hB⟩ hlt
    have hc := hv.cell
    have hml := HML.out.1
    gi_wp2_with (gi_at_builtin; refine wpListIn_append_own _ rfl _ _ 32 rfl w.heap.size 3 i0 (.int .i64 0) 1 8 Try.underlying32 hi hz0 hz1 hz2 rfl (by decide) _ _ _ rfl (hrow.alloc _) ⟨W.heap.size, 0, none⟩ 1 1 [.int .i64 b.1] rfl rfl (cell_one_new _ _ _) (by simp [Value.oneCell']) (by have := HML.out; unfold maxLen; omega) (by omega) (by have := hB.size; simp; omega) ?_; intro v' w1 hown' hgrow _; obtain ⟨g', cap', rfl⟩ := ownsRow_succ hown'; obtain ⟨hv1, hv2, hr2, hk2, hb2⟩ := hv.appended (by decide) hrow hB.size (Nat.le_refl _) hown' hgrow; have hc1 := hv1.cell; have hf1 := hv1.frozen)
    refine ⟨hk2.from _, ?_, ⟨_, hv2, by simpa using hr2, trivial⟩, hB.trans hb2⟩
    intro hN
    refine ⟨Boxed.other (Boxed.kept ?_ hgrow (Boxed.not_row hN.1 (by decide) hrow)) (by omega) _, fun j o hj ho => ?_⟩
    · exact Boxed.alloc hN.1 _
    · have hjl := (Array.getElem?_eq_some_iff.1 hj).1
      have hj2 := hN.2 j o hj ho
      have hj2l := (Array.getElem?_eq_some_iff.1 hj2).1
      refine (Below.heap_setCell _ _ _ j (by simp; omega)).trans ((hgrow.block j (by simp; omega) (fun e => ?_)).trans ((((Below.refl _ W).alloc (Nat.le_refl _) _).block j hj2l).trans hj2))
      rcases hrow.2 with ⟨rfl, _⟩ | ⟨g, cap, cur, rfl, hg, _⟩
      · cases e
      · have e1 : some j = some g := e
        have e2 : j = g := Option.some.inj e1
        omega
  case done =>
    rintro D ys W hD rfl ⟨⟨v, hv, hrow, _⟩, hB⟩ hK
    have hc := hv.cell
    gi_wp2
    refine ⟨by simp, .inl ⟨_, _, rfl, run_takeDeferred hK, ?_⟩⟩
    refine ⟨_, results_tmp rfl _ _ _, v, rfl, ?_, hB.trans (belowK_b (w := w) (Nat.le_refl _) W D _ _ (by simp at hD; omega) hK rfl rfl)⟩
    have e1 : (ks.zip vs).length = ks.length := by rw [List.length_zip]; have := HML.out; omega
    have e2 : (ks.zip vs).map (fun b => Value.int .i64 b.1) = nums .i64 ks := by
      have := List.map_fst_zip (l₁ := ks) (l₂ := vs) (by have := HML.out; omega)
      unfold nums
      conv => rhs; rw [← this]
      rw [List.map_map]
      rfl
    rw [e1, e2] at hrow
    exact ownsRow_putObj hrow _ hK rfl
  case stop =>
    rintro D c pre W _ _ h _
    exact h.elim
theorem rk_IDs (h : RkRaw w0 R kv vv ks vs size next step w) (ok : TbOk ks vs) (hs : size ≠ 0) :
    Calls Try.prog 10 #[.pointer (some ⟨R, 0, none⟩)] w fun e W' => ∃ v, e = .returned v ∧ W'.ownsRow w.heap.size 3 1 v ks.length (nums .i64 ks) ∧ Below w.heap.size w W' :=
  (callsIn_wide (n := 6)).1 (rk_IDs_in h ok hs 6 (Nat.le_refl _))
end

end Go.Proofs.Ytnlckandbgpncaa.P
