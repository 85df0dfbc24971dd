-- Laid by sp.py, a program of this session's, out of the translation and the session's own stand-ins.
import Derived.Test.YtmcbpoejdgobnaaPx0
import Derived.Test.YtmcbpoejdgobnaaPx3
import Derived.RangeFuncBox
import Derived.RangeFuncLeaves
import Derived.RangeFuncNested
import Derived.Shelf.Abstract
import Derived.OwnWalkIn
import Derived.TacticsInMore
import Derived.LoopNIn
import Derived.LoopIn
import Derived.Outline
namespace Go.Proofs.Ytmcbpoejdgobnaa.P
open Go.RowKit Go.Proofs.YtmcbpoejdgobnaaW.PrintWords Go.Proofs.YtmcbpoejdgobnaaW.PrintLast Go.Proofs.YtmcbpoejdgobnaaW.PrintMore
attribute [local go_sem] max2_int min2_int max_two min_two max_three min_three max_four min_four   -- for this text's walks alone
set_option linter.unusedVariables false
set_option linter.unusedSimpArgs false
set_option linter.unnecessarySimpa false

/-! ### (window.Window).List: a stand-in: a range over the window's own iterator -/
attribute [local go_sem] Oper.semAt_some
/-- The outcome that stands at place i of the bits. -/
def winBit (x : Int) (i : Nat) : Bool := Go.bits .and .u16 (x / 2 ^ i) 1 == 0
/-- The outcomes, the oldest first. -/
def winList (x : Int) (n : Nat) : List Bool := (List.range n).map fun j => winBit x (n - 1 - j)
def window_Window_List.f (a0 : Int) : Option (List Bool) := (window_Window_Len.f a0).bind fun n => if 0 ≤ n ∧ n ≤ 8 ∧ 0 ≤ a0 ∧ a0 ≤ 65535 then some (winList a0 n.toNat) else none
theorem winList_length (x : Int) (n : Nat) : (winList x n).length = n := by simp [winList]
theorem winList_take (x : Int) (n k : Nat) (h : k < n) : (winList x n).take (k + 1) = (winList x n).take k ++ [winBit x (n - 1 - k)] := by
  rw [List.take_succ_eq_append_getElem (by rw [winList_length]; exact h)]
  simp [winList]
/-- What a round must keep: the box of the window. -/
def winKeeps (Bn : Nat) (v : Value) (W W' : World) : Prop := Boxed W Bn 23 v → Boxed W' Bn 23 v
set_option maxRecDepth 100000 in
set_option maxHeartbeats 2000000 in
theorem win_all1 (n : Nat) (hn : 3 ≤ n) (l Bn m : Nat) (x : Int) (hx0 : 0 ≤ x) (hx1 : x ≤ 65535) (hm : m ≤ 8) (hlen : window_Window_Len.f x = some (m : Int)) (J Jx : List Bool → World → Prop)
    (hdr : ∀ s W nd, J s W → J s (W.drewN nd))
    (hY : ∀ pre b W, J pre W → pre.length < m → YieldAt Fence.wide (n - 1) Try.prog l #[.bool b] W fun e W' =>
      (e = .returned (.bool true) ∧ J (pre ++ [b]) W' ∧ winKeeps Bn (.int .u16 x) W W') ∨ (e = .returned (.bool false) ∧ Jx (pre ++ [b]) W'))
    (W : World) (hBn : Boxed W Bn 23 (.int .u16 x)) (h0 : J [] W) :
    CallsIn Fence.wide n Try.prog 23 #[.func (.yield l) #[] #[], .pointer (some ⟨Bn, 0, none⟩)] W fun e W' => (∃ v, e = .returned v) ∧
      ((∃ ys, ys = winList x m ∧ J ys W') ∨ (∃ pre, pre <+: winList x m ∧ Jx pre W')) := by
  refine callsIn_of_wp Try.func23 rfl trivial ?_ rfl
  simp only [Try.ntmps23, List.size_toArray, List.length_cons, List.length_nil, Nat.reduceAdd, Nat.reduceSub, Array.replicate_succ, Array.replicate_zero, List.push_toArray, List.append_toArray, List.nil_append, List.cons_append]
  have hc := hBn.cell
  have H0 := Aside0.mk h0
  clear h0
  have HL := Aside0.mk hlen
  clear hlen
  gi_wp2
  refine ⟨trivial, fun h => (by cases h), ?_⟩
  refine (callsIn_wide.2 (window_Window_Len.calls x m _ HL.out)).mono ?_
  rintro e w' ⟨rfl, ⟨nd, rfl⟩⟩
  gi_wp2
  gi_loopw [3] (fun v wr => ∃ k : Nat, k ≤ m ∧ v = .int .i64 ((m : Int) - 1 - k) ∧ J ((winList x m).take k) wr ∧ Boxed wr Bn 23 (.int .u16 x)) (fun v _ => (intOf v + 1).toNat)
  case atStart => exact ⟨0, Nat.zero_le _, by go_num, by simpa using hdr _ _ _ H0.out, hBn⟩
  case round =>
    obtain ⟨k, hk, rfl, hJ, hB⟩ := hrel
    have hc1 := hB.cell
    by_cases hlt : k < m
    · obtain ⟨fn, tmps, assign, body, hy, hR⟩ := hY _ (winBit x (m - 1 - k)) wr hJ (by rw [List.length_take, winList_length]; omega)
      have h0 : decide (0 ≤ (m : Int) - 1 - k) = true := decide_eq_true (by omega)
      simp only [winBit] at hy
      gi_wp2
      refine ⟨fun h => (by cases h), hR.mono ?_⟩
      rintro e W3 (⟨rfl, hJ3, hk3⟩ | ⟨rfl, hJx3⟩)
      · have hB3 := hk3 hB
        gi_wp2
        go_roundw
        case rel => exact ⟨k + 1, by omega, by go_num, by rw [winList_take x m k hlt]; exact hJ3, hB3⟩
        case measure => simp [intOf]; omega
      · gi_wp2
        refine bodyPost_ret (results_none rfl _ _ _) rfl ?_
        exact ⟨⟨_, rfl⟩, .inr ⟨_, ⟨(winList x m).drop (k + 1), by rw [← winList_take x m k hlt, List.take_append_drop]⟩, hJx3⟩⟩
    · have h0 : decide (0 ≤ (m : Int) - 1 - k) = false := decide_eq_false (by omega)
      gi_wp2
      go_end0
      have hkm : k = m := by omega
      subst hkm
      exact ⟨⟨_, rfl⟩, .inl ⟨_, List.take_of_length_le (by rw [winList_length]; exact Nat.le_refl _), hJ⟩⟩
theorem winKeeps_t {Bn : Nat} {v : Value} {X Y Z : World} (h : winKeeps Bn v X Y) (k : winKeeps Bn v Y Z) : winKeeps Bn v X Z := fun hb => k (h hb)
theorem winKeeps_b {Bn : Nat} {v : Value} (W : World) (l : Nat) (o o' : Obj) (h : W.heap[l]? = some o) (hc : o.isCells = false) : winKeeps Bn v W (W.putObj l o') := fun hb =>
  hb.kept (grownBy_putObj' W l o') (fun e => by
    cases e
    rw [show W.heap[Bn]? = _ from hb] at h
    cases h
    cases hc)
theorem win_stops (n : Nat) (hn : 3 ≤ n) (Bn m : Nat) (x : Int) (hx0 : 0 ≤ x) (hx1 : x ≤ 65535) (hm : m ≤ 8) (hlen : window_Window_Len.f x = some (m : Int)) (w : World) (hBn : Boxed w Bn 23 (.int .u16 x)) (hlt : Bn < w.heap.size) :
    SeqStopsK Fence.wide n Try.prog 23 #[.pointer (some ⟨Bn, 0, none⟩)] (fun b : Bool => #[Value.bool b]) (winKeeps Bn (.int .u16 x)) (fun ys => ys = winList x m) (fun pre => pre <+: winList x m) m w := fun l J Jx W hW hJ _ hY h0 =>
  win_all1 n hn l Bn m x hx0 hx1 hm hlen J Jx (fun s W nd h => hJ s W (W.drewN nd) none h (grown_of_below (pw_below_drewN (Below.refl _ _) nd) none) (fun r e => by cases e)) hY W ((hW.block Bn hlt).trans hBn) h0
set_option maxHeartbeats 1000000 in
theorem win_all (n : Nat) (x : Int) (w : World) :
    CallsIn Fence.wide n Try.prog 21 #[.int .u16 x] w fun e w' => e = .returned (.func (.func 23) #[] #[.pointer (some ⟨w.heap.size, 0, none⟩)]) ∧ w' = w.alloc (.cells #[.int .u16 x] 23) := by
  refine callsIn_of_wp Try.func21 rfl trivial ?_ rfl
  simp only [Try.ntmps21, List.size_toArray, List.length_cons, List.length_nil, Nat.reduceAdd, Nat.reduceSub, Array.replicate_succ, Array.replicate_zero, List.push_toArray, List.append_toArray, List.nil_append, List.cons_append]
  gi_wp2
  go_ret
  exact ⟨rfl, rfl⟩
set_option maxRecDepth 100000 in
set_option maxHeartbeats 2000000 in
theorem win_list_in (n : Nat) (hn : 6 ≤ n) (m : Nat) (x : Int) (hx0 : 0 ≤ x) (hx1 : x ≤ 65535) (hm : m ≤ 8) (hlen : window_Window_Len.f x = some (m : Int)) (w : World) :
    CallsIn Fence.wide n Try.prog 12 #[.int .u16 x] w fun e W' => ∃ v, e = .returned v ∧ W'.ownsRow w.heap.size 4 1 v (winList x m).length ((winList x m).map Value.bool) ∧ Below w.heap.size w W' := by
  have h1 : 1 ≤ n := by omega
  obtain ⟨i0, hi, hz0, hz1, hz2⟩ := info_parts info4
  refine callsIn_of_wp_marks Try.func12 rfl trivial ?_ rfl
  simp only [Try.ntmps12, List.size_toArray, List.length_cons, List.length_nil, Nat.reduceAdd, Nat.reduceSub, Array.replicate_succ, Array.replicate_zero, List.push_toArray, List.append_toArray, List.nil_append, List.cons_append]
  gi_wp2
  refine ⟨trivial, (win_all (n - 1) _ _).mono ?_⟩
  rintro e w' ⟨rfl, rfl⟩
  gi_wp2
  have bO := Boxed.new w 24 (.slice none 0 0)
  have bN := Boxed.new (w.alloc (.cells #[.slice none 0 0] 24)) 23 (.int .u16 x)
  rw [World.size_alloc] at bN
  have hB0 : Below w.heap.size w ((w.alloc (.cells #[.slice none 0 0] 24)).alloc (.cells #[.int .u16 x] 23)) := ((Below.refl _ w).alloc (Nat.le_refl _) _).alloc (by simp) _
  refine wpIn_rangeFunc_ownG rfl h1 (gf := 23) (lb := #[.pointer (some ⟨w.heap.size + 1, 0, none⟩)]) rfl trivial (enters_of Try.func23 (by kernel_rfl) rfl)
    (win_stops (n - 1) (by omega) (w.heap.size + 1) m x hx0 hx1 hm hlen _ bN (by simp)) winKeeps_t (fun W l o o' _ h hc _ => winKeeps_b W l o o' h hc) (Below.refl _ _) (fun _ => rfl)
    (fun pre W => ((∃ v, Boxed W w.heap.size 24 v ∧ W.ownsRow w.heap.size 4 1 v pre.length (pre.map Value.bool) ∧ True)) ∧ Below w.heap.size w W)
    (fun _ _ _ => False)
    (OwnFrom.and (Own.from (holdsRow_own w.heap.size w.heap.size 24 4 1 (fun pre : List Bool => pre.length) (fun pre => pre.map Value.bool) (fun _ _ => True)) _) (ownFrom_below (Nat.le_refl _) (by simp; omega)))
    (fun _ _ _ _ _ hs _ _ => hs)
    ⟨⟨_, bO.alloc _, World.ownsRow_nil _ _ _ _, trivial⟩, hB0⟩
    (fun b => { tmps := #[.int .u16 x, undef, .slice none 0 0, .pointer (some ⟨w.heap.size, 0, none⟩), .bool b, .int .u16 x, .func (.func 23) #[] #[.pointer (some ⟨w.heap.size + 1, 0, none⟩)], .bool b, undef, undef, undef, undef, undef], defers := [] }) ?assign ?body ?done ?stop
  case assign =>
    intro l b W K hK
    gi_wp2
    exact hK
  case body =>
    rintro l pre b W ⟨⟨v, hv, hrow, _⟩, hB⟩ hlt
    have hc := hv.cell
    gi_wp2_with (gi_at_builtin; refine wpListIn_append_own _ rfl _ _ 24 rfl w.heap.size 4 i0 (.bool false) 1 1 Try.underlying24 hi hz0 hz1 hz2 rfl (by decide) _ _ _ rfl (hrow.alloc _) ⟨W.heap.size, 0, none⟩ 1 1 [.bool b] rfl rfl (cell_one_new _ _ _) (by simp [Value.oneCell']) (by unfold maxLen; omega) (by omega) (by have := hB.size; simp; omega) ?_; intro v' w1 hown' hgrow _; obtain ⟨g', cap', rfl⟩ := ownsRow_succ hown'; obtain ⟨hv1, hv2, hr2, hk2, hb2⟩ := hv.appended (by decide) hrow hB.size (Nat.le_refl _) hown' hgrow; have hc1 := hv1.cell; have hf1 := hv1.frozen)
    refine ⟨hk2.from _, ?_, ⟨_, hv2, by simpa using hr2, trivial⟩, hB.trans hb2⟩
    intro hN
    refine Boxed.other (Boxed.kept ?_ hgrow (Boxed.not_row hN (by decide) hrow)) (by omega) _
    exact Boxed.alloc hN _
  case done =>
    rintro D ys W hD rfl ⟨⟨v, hv, hrow, _⟩, hB⟩ hK
    have hc := hv.cell
    gi_wp2
    refine ⟨by simp, .inl ⟨_, _, rfl, run_takeDeferred hK, ?_⟩⟩
    exact ⟨_, results_tmp rfl _ _ _, v, rfl, ownsRow_putObj hrow _ hK rfl, hB.trans (belowK_b (w := w) (Nat.le_refl _) W D _ _ (by simp at hD; omega) hK rfl rfl)⟩
  case stop =>
    rintro D c pre W _ _ h _
    exact h.elim
theorem window_Window_List.calls (a0 : Int) (r : List Bool) (w : World) (h : window_Window_List.f a0 = some r) :
    Calls Try.prog 12 #[.int .u16 a0] w fun e w' => ∃ v0_ : Value, e = .returned (v0_) ∧ Kd.R Kd.bool 4 w' w.heap.size (fun _ => True) v0_ r ∧ Below w.heap.size w w' := by
  unfold window_Window_List.f at h
  obtain ⟨n, hn, h⟩ := Option.bind_eq_some_iff.mp h
  split at h
  · rename_i hb
    obtain rfl := Option.some.inj h
    refine (callsIn_wide (n := 6)).1 ((win_list_in 6 (by omega) n.toNat a0 hb.2.2.1 hb.2.2.2 (by omega) (by rw [hn, Int.toNat_of_nonneg hb.1]) w).mono ?_)
    rintro e w' ⟨v, rfl, ho, hB⟩
    exact ⟨v, rfl, Kd.R_of_own ho (fun _ _ => trivial), hB⟩
  · exact absurd h (by simp)

end Go.Proofs.Ytmcbpoejdgobnaa.P
