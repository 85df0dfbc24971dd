import Derived.Test.YtnajlpmpofljhaaSLdelPairs
import Derived.RangeFuncBox
import Derived.RangeFuncLeaves
import Derived.RangeFuncNested
import Derived.Shelf.Abstract
import Derived.OwnWalkIn
import Derived.TacticsInMore
import Derived.LoopNIn
import Derived.LoopIn
import Derived.Test.YtnajlpmpofljhaaSLprobeAwake
namespace Go.Proofs.Ytnajlpmpofljhaa.P
open Go.RowKit Go.Proofs.YtnajlpmpofljhaaW.PrintWords Go.Proofs.YtnajlpmpofljhaaW.PrintLast Go.Proofs.YtnajlpmpofljhaaW.PrintMore
set_option linter.unusedVariables false
set_option linter.unusedSimpArgs false
set_option linter.unnecessarySimpa false
attribute [local go_sem] max2_int min2_int max_two min_two max_three min_three max_four min_four
/-! ### probe.Plan: Drop, Every -/
section
variable {w0 : World} {P : Nat} {rv : Value} {l : List (Int × Int)} {every : Int} {W : World}
def delP (l : List (Int × Int)) (k : Int) : List (Int × Int) := if (l.map Prod.fst).contains k = true then l.eraseIdx (posK (l.map Prod.fst) k) else l
def erD (l : List (Int × Int)) (k : Int) : Int := if (l.map Prod.fst).contains k = true then 0 else 30
set_option maxHeartbeats 4000000 in
theorem pz_Drop (h : PnRaw w0 P rv l every W) (ok : PnOk l) (he : every ≠ 0) (k : Int) : Calls Try.prog 12 #[.pointer (some ⟨P, 0, none⟩), .int .i64 k] W fun e W' => e = .returned (.int .i64 (erD l k)) ∧ ∃ rv', PnRaw w0 P rv' (delP l k) every W' ∧ PnMv P rv W W' := by
  have N := pz_none h he
  have H := Aside0.mk h
  cases hc : (l.map Prod.fst).contains k with
  | false =>
    have e1 : delP l k = l := by unfold delP; rw [if_neg (by rw [hc]; decide)]
    have e2 : erD l k = 30 := by unfold erD; rw [if_neg (by rw [hc]; decide)]
    rw [e1, e2]
    by_cases g1 : k < 1
    · have p1 : decide (k < 1) = true := decide_eq_true g1
      clear h he hc e1 e2 ok
      go_enter Try.func12, Try.ntmps12
      go_wp2_with (go_at_call 24; (with_reducible refine N.mono ?_); rintro e w1 ⟨rfl, hw⟩; obtain rfl := hw.symm)
      go_ret
      exact ⟨rfl, rv, H.out, PnMv.refl _ _ _⟩
    by_cases g2 : 1099511627775 < k
    · have p1 : decide (k < 1) = false := decide_eq_false g1
      have p2 : decide (1099511627775 < k) = true := decide_eq_true g2
      clear h he hc e1 e2 ok
      go_enter Try.func12, Try.ntmps12
      go_wp2_with (go_at_call 24; (with_reducible refine N.mono ?_); rintro e w1 ⟨rfl, hw⟩; obtain rfl := hw.symm)
      go_ret
      exact ⟨rfl, rv, H.out, PnMv.refl _ _ _⟩
    · refine (pz_DropNo h ok he k ⟨by omega, by omega⟩ hc).mono ?_
      rintro e W' ⟨rfl, hb⟩
      exact ⟨rfl, rv, H.out.below hb, PnMv.of_below hb⟩
  | true =>
    have e1 : delP l k = l.eraseIdx (posK (l.map Prod.fst) k) := by unfold delP; rw [if_pos hc]
    have e2 : erD l k = 0 := by unfold erD; rw [if_pos hc]
    obtain ⟨g1, g2⟩ := ok.keys k (contains_iff.1 hc)
    have AT := pz_at h ok k ⟨g1, g2⟩
    have hpl : posK (l.map Prod.fst) k < l.length := by have := posK_lt hc; simpa using this
    have hml := ok.most
    rw [hc] at AT
    rw [e1, e2]
    have p1 : decide (k < 1) = false := decide_eq_false (by omega)
    have p2 : decide (1099511627775 < k) = false := decide_eq_false (by omega)
    generalize posK (l.map Prod.fst) k = p at AT hpl ⊢
    obtain ⟨l2, hl2⟩ : ∃ l2, l2 = l.eraseIdx p := ⟨_, rfl⟩
    obtain ⟨A, c, ev⟩ := own2_slice h.hr
    subst ev
    have IN := Aside0.mk (fun (w2 : World) (h2 : PnRaw w0 P (.slice A l.length c) l every w2) => del_pairs w2 w0.heap.size (.slice A l.length c) l p h2.hr hpl (by omega))
    rw [← hl2] at IN ⊢
    have pw : ((p : Int) + 1) = ((p : Int) + 1) := rfl
    clear h he hc e1 e2 ok hl2 pw
    go_enter Try.func12, Try.ntmps12
    go_wp2_with (first | (go_at_call 24; (with_reducible refine N.mono ?_); rintro e w1 ⟨rfl, hw⟩; obtain rfl := hw.symm) | (go_at_call 25; (with_reducible refine AT.mono ?_); rintro e w2 ⟨rfl, hb⟩; have h2 := Aside0.mk (H.out.below hb); have c1 : w2.cell? ⟨P, 1, none⟩ = some (.slice A l.length c) := (blk_cell h2.out.blk 1).trans rfl; have I2 := IN.out w2 h2.out) | (go_at_call 28; (with_reducible refine I2.mono ?_); rintro e w3 ⟨v3, rfl, own3, gr3, at3⟩; have b3 := blk_grown h2.out.blk gr3 h2.out.ne; have c3 := (blk_cell b3 1).trans rfl; have f3 := blk_frozen b3 1; have RR := Aside0.mk (pz_rows h2.out own3 gr3); obtain ⟨A3, q3, ev3⟩ := own2_slice own3; subst ev3; clear own3 gr3 at3 b3))
    go_ret
    exact ⟨rfl, .slice A3 l2.length q3, RR.out.1, PnMv.after hb RR.out.2⟩
def erE (every : Int) : Int := if fitsB every = true then 0 else 2
theorem pz_Every (h : PnRaw w0 P rv l every W) (he : every ≠ 0) (n : Int) : Calls Try.prog 13 #[.pointer (some ⟨P, 0, none⟩), .int .i64 n] W fun e W' => e = .returned (.int .i64 (erE n)) ∧ PnRaw w0 P rv l (if fitsB n = true then n else every) W' ∧ PnMv P rv W W' := by
  have N := pz_none h he
  have F := pz_fits n W
  have H := Aside0.mk h
  have f1 := blk_frozen h.blk 0
  have c1 : W.cell? ⟨P, 0, none⟩ = some (.int .i64 every) := (blk_cell h.blk 0).trans rfl
  unfold erE
  generalize fitsB n = fb at *
  cases fb with
  | false =>
    rw [if_neg (by decide), if_neg (by decide)]
    clear h he
    go_enter Try.func13, Try.ntmps13
    go_wp2_with (first | (go_at_call 24; (with_reducible refine N.mono ?_); rintro e w1 ⟨rfl, hw⟩; obtain rfl := hw.symm) | (go_at_call 23; (with_reducible refine F.mono ?_); rintro e w2 ⟨rfl, hw⟩; obtain rfl := hw.symm))
    go_ret
    exact ⟨rfl, H.out, PnMv.refl _ _ _⟩
  | true =>
    rw [if_pos rfl, if_pos rfl]
    clear h he
    go_enter Try.func13, Try.ntmps13
    go_wp2_with (first | (go_at_call 24; (with_reducible refine N.mono ?_); rintro e w1 ⟨rfl, hw⟩; obtain rfl := hw.symm) | (go_at_call 23; (with_reducible refine F.mono ?_); rintro e w2 ⟨rfl, hw⟩; obtain rfl := hw.symm))
    go_ret
    have h := H.out
    refine ⟨rfl, ⟨h.le, ?_, own_setCell h.hr h.ne _, h.hB.setCell h.le _⟩, ⟨by simp [World.setCell], fun j hj h1 _ => Below.heap_setCell _ _ _ j h1⟩⟩
    have := blk_set h.blk 0 (.int .i64 n)
    simpa using this
theorem PnOk.del (ok : PnOk l) (k : Int) : PnOk (delP l k) := by
  unfold delP
  split
  · have hs : (l.eraseIdx (posK (l.map Prod.fst) k)).map Prod.fst |>.Sublist (l.map Prod.fst) := (List.eraseIdx_sublist _ _).map _
    exact ⟨ok.sorted.sublist hs, fun x hx => ok.keys x (hs.subset hx), Nat.le_trans (List.eraseIdx_sublist _ _).length_le ok.most⟩
  · exact ok
end
/-! ### Keys: a range over the plan's own iterator -/
attribute [local go_sem] Oper.semAt_some
def plSees (w : World) (Bn P : Nat) (W : World) : Prop := Boxed W Bn 24 (.pointer (some ⟨P, 0, none⟩)) ∧ ∀ (j : Nat) (o : Obj), w.heap[j]? = some o → o.isCells = true → W.heap[j]? = some o
def plKeeps (w : World) (Bn P : Nat) (W W' : World) : Prop := plSees w Bn P W → plSees w Bn P W'
section
variable {w0 : World} {P : Nat} {rv : Value} {l : List (Int × Int)} {every : Int} {w : World}
theorem plSees.blk {Bn : Nat} {W : World} (s : plSees w Bn P W) (h : PnRaw w0 P rv l every w) : W.heap[P]? = some (.cells #[.int .i64 every, rv] 36 (0, 0)) := s.2 P _ h.blk rfl
theorem plSees.alloc {Bn : Nat} {W : World} (s : plSees w Bn P W) (o : Obj) : plSees w Bn P (W.alloc o) :=
  ⟨Boxed.alloc s.1 o, fun j o2 hj hc => blk_alloc (s.2 j o2 hj hc) o⟩
theorem row2_sees {base : Nat} {v : Value} {W : World} (h : w.ownsRow base 55 2 v l.length (prs l)) (s : ∀ (j : Nat) (o : Obj), w.heap[j]? = some o → o.isCells = true → W.heap[j]? = some o) (j : Nat) (hj : j < l.length) : ∃ g c, v = .slice (some ⟨g, 0, none⟩) l.length c ∧ W.cell? ⟨g, j * 2, none⟩ = some (.int .i64 (l.getD j (0, 0)).1) ∧ W.cell? ⟨g, j * 2 + 1, none⟩ = some (.int .i64 (l.getD j (0, 0)).2) := by
  rcases own2_form h with ⟨_, rfl⟩ | ⟨g, cap, cur, rfl, hg, hh, hnc, hcm, hsz, htk, hc⟩
  · exact absurd hj (Nat.not_lt_zero _)
  · have e := s g _ hh rfl
    obtain ⟨h1, h2⟩ := hc j hj
    refine ⟨g, cap, rfl, ?_, ?_⟩
    · rw [← h1]; simp only [World.cell?, e, hh]
    · rw [← h2]; simp only [World.cell?, e, hh]
theorem take_snoc2 (k : Nat) (h : k < l.length) : l.take (k + 1) = l.take k ++ [((l.getD k (0, 0)).1, (l.getD k (0, 0)).2)] := by
  rw [List.take_succ_eq_append_getElem h, List.getD_eq_getElem?_getD, List.getElem?_eq_getElem h]
  rfl
set_option maxRecDepth 100000 in
set_option maxHeartbeats 2000000 in
theorem pz_all1 (h : PnRaw w0 P rv l every w) (ok : PnOk l) (n : Nat) (hn : 3 ≤ n) (lb Bn : Nat) (J Jx : List (Int × Int) → World → Prop)
    (hdr : ∀ s W nd, J s W → J s (W.drewN nd)) (hal : ∀ s W o, J s W → J s (W.alloc o))
    (hY : ∀ pre (b : Int × Int) W, J pre W → pre.length < l.length → YieldAt Fence.wide (n - 1) Try.prog lb #[.int .i64 b.1] W fun e W' =>
      (e = .returned (.bool true) ∧ J (pre ++ [b]) W' ∧ plKeeps w Bn P W W') ∨ (e = .returned (.bool false) ∧ Jx (pre ++ [b]) W'))
    (W : World) (hBn : plSees w Bn P W) (h0 : J [] W) :
    CallsIn Fence.wide n Try.prog 36 #[.func (.yield lb) #[] #[], .pointer (some ⟨Bn, 0, none⟩)] W fun e W' => (∃ v, e = .returned v) ∧
      ((∃ ys, ys = l ∧ J ys W') ∨ (∃ pre, pre <+: l ∧ Jx pre W')) := by
  obtain ⟨Ak, ck, ek⟩ := own2_slice h.hr
  subst ek
  have hml := ok.most
  have HB := Aside0.mk hBn
  have c0 := blk_cell (hBn.blk h) 1
  simp at c0
  have hc := hBn.1.cell
  refine callsIn_of_wp Try.func36 rfl trivial ?_ rfl
  simp only [Try.ntmps36, List.size_toArray, List.length_cons, List.length_nil, Nat.reduceAdd, Nat.reduceSub, Array.replicate_succ, Array.replicate_zero, List.push_toArray, List.append_toArray, List.nil_append, List.cons_append]
  have H0 := Aside0.mk h0
  have HH := Aside0.mk h
  have HD := Aside0.mk hdr
  have HAL := Aside0.mk hal
  clear h0 h hdr hBn hal
  gi_wp2
  gi_loopw [10] (fun i wr => ∃ k : Nat, k ≤ l.length ∧ i = .int .i64 (k : Int) ∧ J (l.take k) wr ∧ plSees w Bn P wr) (fun i _ => l.length - (intOf i).toNat)
  case atStart => exact ⟨0, Nat.zero_le _, rfl, by simpa using H0.out, HB.out⟩
  case round =>
    obtain ⟨k, hk, rfl, hJ, hS⟩ := hrel
    by_cases hlt : k < l.length
    · obtain ⟨g1, q1, e1, d1, d2⟩ := row2_sees HH.out.hr hS.2 k hlt
      obtain rfl : Ak = some ⟨g1, 0, none⟩ := (Value.slice.inj e1).1
      clear e1
      have hz := take_snoc2 k hlt
      generalize (l.getD k (0, 0)).1 = a at d1 hz
      generalize (l.getD k (0, 0)).2 = b at d2 hz
      have HZ := Aside0.mk hz
      have p1 : decide ((k : Int) < (l.length : Int)) = true := decide_eq_true (by omega)
      clear hz
      have hJ2 := HAL.out _ _ (.cells #[.int .i64 a, .int .i64 b] 55) hJ
      have hS2 := hS.alloc (.cells #[.int .i64 a, .int .i64 b] 55)
      obtain ⟨fn, tmps, assign, body, hy, hR⟩ := hY _ (a, b) _ hJ2 (by rw [List.length_take]; omega)
      have HSS := Aside0.mk hS2
      clear hS hS2 hJ hJ2
      have HYY := Aside0.mk hY
      clear hY
      gi_wp2
      refine ⟨fun h => (by cases h), hR.mono ?_⟩
      rintro e W3 (⟨rfl, hJ3, hk3⟩ | ⟨rfl, hJx3⟩)
      · have hB3 := hk3 HSS.out
        gi_wp2
        go_roundw
        case rel => exact ⟨k + 1, by omega, by go_num, by rw [HZ.out]; exact hJ3, hB3⟩
        case measure => simp [intOf]; omega
      · gi_wp2
        refine bodyPost_ret (results_none rfl _ _ _) rfl ?_
        exact ⟨⟨_, rfl⟩, .inr ⟨_, ⟨l.drop (k + 1), by rw [← HZ.out, List.take_append_drop]⟩, hJx3⟩⟩
    · have HSS := Aside0.mk hS
      clear hS
      have h0 : decide ((k : Int) < (l.length : Int)) = false := decide_eq_false (by omega)
      gi_wp2
      go_end0
      have hkm : k = l.length := by omega
      subst hkm
      exact ⟨⟨_, rfl⟩, .inl ⟨_, rfl, by rwa [List.take_of_length_le (Nat.le_refl _)] at hJ⟩⟩
theorem plKeeps_t {Bn : Nat} {X Y Z : World} (h : plKeeps w Bn P X Y) (k : plKeeps w Bn P Y Z) : plKeeps w Bn P X Z := fun hb => k (h hb)
theorem plKeeps_b {Bn : Nat} (W : World) (l : Nat) (o o' : Obj) (h : W.heap[l]? = some o) (hc : o.isCells = false) : plKeeps w Bn P W (W.putObj l o') := fun hb => by
  refine ⟨hb.1.kept (grownBy_putObj' W l o') (fun e => ?_), fun j o2 hj hc2 => ?_⟩
  · cases e
    rw [show W.heap[Bn]? = _ from hb.1] at h
    cases h
    cases hc
  · have h1 := hb.2 j o2 hj hc2
    refine ((grownBy_putObj' W l o').block j (Array.getElem?_eq_some_iff.1 h1).1 (fun e => ?_)).trans h1
    cases e
    rw [h1] at h
    cases h
    rw [hc] at hc2
    cases hc2
theorem pz_stops (h : PnRaw w0 P rv l every w) (ok : PnOk l) (n : Nat) (hn : 3 ≤ n) (Bn : Nat) (w1 : World) (hs : plSees w Bn P w1) :
    SeqStopsK Fence.wide n Try.prog 36 #[.pointer (some ⟨Bn, 0, none⟩)] (fun b : Int × Int => #[Value.int .i64 b.1]) (plKeeps w Bn P) (fun ys => ys = l) (fun pre => pre <+: l) l.length w1 := fun lb J Jx W hW hJ _ hY h0 =>
  pz_all1 h ok n hn lb Bn J Jx (fun s W nd h => hJ s W (W.drewN nd) none h (grown_of_below (pw_below_drewN (Below.refl _ _) nd) none) (fun r e => by cases e)) (fun s W o h => hJ s W (W.alloc o) none h (grown_of_below ((Below.refl _ W).alloc (Nat.le_refl _) o) none) (fun r e => by cases e)) hY W ⟨(hW.block Bn (Array.getElem?_eq_some_iff.1 hs.1).1).trans hs.1, fun j o hj hc => (hW.block j (Array.getElem?_eq_some_iff.1 (hs.2 j o hj hc)).1).trans (hs.2 j o hj hc)⟩ h0
set_option maxHeartbeats 1000000 in
theorem pz_all (n : Nat) (w : World) :
    CallsIn Fence.wide n Try.prog 29 #[.pointer (some ⟨P, 0, none⟩)] w fun e w' => e = .returned (.func (.func 36) #[] #[.pointer (some ⟨w.heap.size, 0, none⟩)]) ∧ w' = w.alloc (.cells #[.pointer (some ⟨P, 0, none⟩)] 24) := by
  refine callsIn_of_wp Try.func29 rfl trivial ?_ rfl
  simp only [Try.ntmps29, List.size_toArray, List.length_cons, List.length_nil, Nat.reduceAdd, Nat.reduceSub, Array.replicate_succ, Array.replicate_zero, List.push_toArray, List.append_toArray, List.nil_append, List.cons_append]
  gi_wp2
  go_ret
  exact ⟨rfl, rfl⟩
set_option maxRecDepth 100000 in
set_option maxHeartbeats 2000000 in
theorem pz_Keys_in (h : PnRaw w0 P rv l every w) (ok : PnOk l) (hs : every ≠ 0) (n : Nat) (hn : 6 ≤ n) :
    CallsIn Fence.wide n Try.prog 14 #[.pointer (some ⟨P, 0, none⟩)] w fun e W' => ∃ v, e = .returned v ∧ W'.ownsRow w.heap.size 3 1 v (l.map Prod.fst).length (nums .i64 (l.map Prod.fst)) ∧ Below w.heap.size w W' := by
  have h1 : 1 ≤ n := by omega
  have N := pz_none h hs
  have HH := Aside0.mk h
  have HML := Aside0.mk ok.most
  obtain ⟨i0, hi, hz0, hz1, hz2⟩ := info_parts infoIntP
  refine callsIn_of_wp_marks Try.func14 rfl trivial ?_ rfl
  simp only [Try.ntmps14, List.size_toArray, List.length_cons, List.length_nil, Nat.reduceAdd, Nat.reduceSub, Array.replicate_succ, Array.replicate_zero, List.push_toArray, List.append_toArray, List.nil_append, List.cons_append]
  clear h
  gi_wp2
  refine ⟨trivial, (callsIn_wide.2 N).mono ?_⟩
  rintro e w' ⟨rfl, hw⟩
  obtain rfl := hw.symm
  gi_wp2
  refine ⟨trivial, (pz_all (n - 1) _).mono ?_⟩
  rintro e w' ⟨rfl, rfl⟩
  gi_wp2
  have bO := Boxed.new w 30 (.slice none 0 0)
  have bN := Boxed.new (w.alloc (.cells #[.slice none 0 0] 30)) 24 (.pointer (some ⟨P, 0, none⟩))
  rw [World.size_alloc] at bN
  have hB0 : Below w.heap.size w ((w.alloc (.cells #[.slice none 0 0] 30)).alloc (.cells #[.pointer (some ⟨P, 0, none⟩)] 24)) := ((Below.refl _ w).alloc (Nat.le_refl _) _).alloc (by simp) _
  have sN : plSees w (w.heap.size + 1) P ((w.alloc (.cells #[.slice none 0 0] 30)).alloc (.cells #[.pointer (some ⟨P, 0, none⟩)] 24)) := ⟨bN, fun j o hj _ => (hB0.block j (Array.getElem?_eq_some_iff.1 hj).1).trans hj⟩
  refine wpIn_rangeFunc_ownG rfl h1 (gf := 36) (lb := #[.pointer (some ⟨w.heap.size + 1, 0, none⟩)]) rfl trivial (enters_of Try.func36 (by kernel_rfl) rfl)
    (pz_stops HH.out ok (n - 1) (by omega) (w.heap.size + 1) _ sN) plKeeps_t (fun W l o o' _ h hc _ => plKeeps_b W l o o' h hc) (Below.refl _ _) (fun _ => rfl)
    (fun pre W => ((∃ v, Boxed W w.heap.size 30 v ∧ W.ownsRow w.heap.size 3 1 v pre.length (pre.map fun b => Value.int .i64 b.1) ∧ True)) ∧ Below w.heap.size w W)
    (fun _ _ _ => False)
    (OwnFrom.and (Own.from (holdsRow_own w.heap.size w.heap.size 30 3 1 (fun pre : List (Int × Int) => pre.length) (fun pre => pre.map fun b => Value.int .i64 b.1) (fun _ _ => True)) _) (ownFrom_below (Nat.le_refl _) (by simp; omega)))
    (fun _ _ _ _ _ hs _ _ => hs)
    ⟨⟨_, bO.alloc _, World.ownsRow_nil _ _ _ _, trivial⟩, hB0⟩
    (fun b => { tmps := #[.pointer (some ⟨P, 0, none⟩), undef, .slice none 0 0, .pointer (some ⟨w.heap.size, 0, none⟩), .int .i64 b.1, .pointer (some ⟨P, 0, none⟩), .bool false, .pointer (some ⟨P, 0, none⟩), .func (.func 36) #[] #[.pointer (some ⟨w.heap.size + 1, 0, none⟩)], .int .i64 b.1, undef, undef, undef, undef, undef], defers := [] }) ?assign ?body ?done ?stop
  case assign =>
    intro l b W K hK
    gi_wp2
    exact hK
  case body =>
    rintro lb pre b W ⟨⟨v, hv, hrow, _⟩, hB⟩ hlt
    have hc := hv.cell
    have hml := HML.out
    gi_wp2_with (gi_at_builtin; refine wpListIn_append_own _ rfl _ _ 30 rfl w.heap.size 3 i0 (.int .i64 0) 1 8 Try.underlying30 hi hz0 hz1 hz2 rfl (by decide) _ _ _ rfl (hrow.alloc _) ⟨W.heap.size, 0, none⟩ 1 1 [.int .i64 b.1] rfl rfl (cell_one_new _ _ _) (by simp [Value.oneCell']) (by have := HML.out; unfold maxLen; omega) (by omega) (by have := hB.size; simp; omega) ?_; intro v' w1 hown' hgrow _; obtain ⟨g', cap', rfl⟩ := ownsRow_succ hown'; obtain ⟨hv1, hv2, hr2, hk2, hb2⟩ := hv.appended (by decide) hrow hB.size (Nat.le_refl _) hown' hgrow; have hc1 := hv1.cell; have hf1 := hv1.frozen)
    refine ⟨hk2.from _, ?_, ⟨_, hv2, by simpa using hr2, trivial⟩, hB.trans hb2⟩
    intro hN
    refine ⟨Boxed.other (Boxed.kept ?_ hgrow (Boxed.not_row hN.1 (by decide) hrow)) (by omega) _, fun j o hj ho => ?_⟩
    · exact Boxed.alloc hN.1 _
    · have hjl := (Array.getElem?_eq_some_iff.1 hj).1
      have hj2 := hN.2 j o hj ho
      have hj2l := (Array.getElem?_eq_some_iff.1 hj2).1
      refine (Below.heap_setCell _ _ _ j (by simp; omega)).trans ((hgrow.block j (by simp; omega) (fun e => ?_)).trans ((((Below.refl _ W).alloc (Nat.le_refl _) _).block j hj2l).trans hj2))
      rcases hrow.2 with ⟨rfl, _⟩ | ⟨g, cap, cur, rfl, hg, _⟩
      · cases e
      · have e1 : some j = some g := e
        have e2 : j = g := Option.some.inj e1
        omega
  case done =>
    rintro D ys W hD rfl ⟨⟨v, hv, hrow, _⟩, hB⟩ hK
    have hc := hv.cell
    gi_wp2
    refine ⟨by simp, .inl ⟨_, _, rfl, run_takeDeferred hK, ?_⟩⟩
    refine ⟨_, results_tmp rfl _ _ _, v, rfl, ?_, hB.trans (belowK_b (w := w) (Nat.le_refl _) W D _ _ (by simp at hD; omega) hK rfl rfl)⟩
    have e1 : (ys.map Prod.fst).length = ys.length := by simp
    have e2 : ys.map (fun b => Value.int .i64 b.1) = nums .i64 (ys.map Prod.fst) := by
      unfold nums
      rw [List.map_map]
      rfl
    rw [e1, ← e2]
    exact ownsRow_putObj hrow _ hK rfl
  case stop =>
    rintro D c pre W _ _ h _
    exact h.elim
theorem pz_Keys (h : PnRaw w0 P rv l every w) (ok : PnOk l) (hs : every ≠ 0) :
    Calls Try.prog 14 #[.pointer (some ⟨P, 0, none⟩)] w fun e W' => ∃ v, e = .returned v ∧ W'.ownsRow w.heap.size 3 1 v (l.map Prod.fst).length (nums .i64 (l.map Prod.fst)) ∧ Below w.heap.size w W' :=
  (callsIn_wide (n := 6)).1 (pz_Keys_in h ok hs 6 (Nat.le_refl _))
end
end Go.Proofs.Ytnajlpmpofljhaa.P
