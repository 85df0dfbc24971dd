import Derived.Test.YtnlckandbgpncaaSLrackFacts2
import Derived.Test.YtnlckandbgpncaaStrackTwice
import Derived.Test.YtnlckandbgpncaaShelf
namespace Go.Proofs.Ytnlckandbgpncaa.P
open Go.RowKit Go.Proofs.YtnlckandbgpncaaW.PrintWords Go.Proofs.YtnlckandbgpncaaW.PrintLast Go.Proofs.YtnlckandbgpncaaW.PrintMore
set_option linter.unusedVariables false
set_option linter.unusedSimpArgs false
set_option linter.unnecessarySimpa false
attribute [local go_sem] max2_int min2_int max_two min_two max_three min_three max_four min_four
/-! ### RackOwn: a law by hand -/
def postilionlaw03_RackOwn.f (_size : Int) (_two : Bool) (l : List S31) : Option Bool := if l.all (fun a => decide (0 ≤ a.f0 ∧ a.f0 < 256)) = true then some true else none
/-- The array that tells which ids are there. -/
def OwT (ks : List Int) (T : Nat) (W : World) : Prop := ∃ ct : Array Value, W.heap[T]? = some (.cells ct 57 (0, 0)) ∧ ct.size = 1000 ∧ ∀ i : Nat, i < 1000 → ct[i]? = some (.bool (ks.contains (i : Int)))
/-- The array that tells what stands there. -/
def OwV (ks vs : List Int) (V : Nat) (W : World) : Prop := ∃ cv : Array Value, W.heap[V]? = some (.cells cv 58 (0, 0)) ∧ cv.size = 1000 ∧ ∀ i : Nat, i < 1000 → ∃ x : Int, cv[i]? = some (.int .i64 x) ∧ (ks.contains (i : Int) = true → x = getV ks vs (i : Int))
theorem OwT.blk {ks : List Int} {T : Nat} {W W' : World} (h : OwT ks T W) (e : T < W.heap.size → W'.heap[T]? = W.heap[T]?) : OwT ks T W' := by
  obtain ⟨ct, h1, h2, h3⟩ := h
  exact ⟨ct, (e (blk_lt h1)).trans h1, h2, h3⟩
theorem OwV.blk {ks vs : List Int} {V : Nat} {W W' : World} (h : OwV ks vs V W) (e : V < W.heap.size → W'.heap[V]? = W.heap[V]?) : OwV ks vs V W' := by
  obtain ⟨ct, h1, h2, h3⟩ := h
  exact ⟨ct, (e (blk_lt h1)).trans h1, h2, h3⟩
theorem OwT.cell {ks : List Int} {T : Nat} {W : World} (h : OwT ks T W) (k : Int) (h0 : 0 ≤ k) (h1 : k < 1000) : W.cell? ⟨T, k.toNat, none⟩ = some (.bool (ks.contains k)) ∧ W.frozen? ⟨T, k.toNat, none⟩ = false := by
  obtain ⟨ct, e1, e2, e3⟩ := h
  have := e3 k.toNat (by omega)
  rw [Int.toNat_of_nonneg h0] at this
  exact ⟨(blk_cell e1 _).trans this, blk_frozen e1 _⟩
theorem OwV.cell {ks vs : List Int} {V : Nat} {W : World} (h : OwV ks vs V W) (k : Int) (h0 : 0 ≤ k) (h1 : k < 1000) : ∃ x : Int, W.cell? ⟨V, k.toNat, none⟩ = some (.int .i64 x) ∧ W.frozen? ⟨V, k.toNat, none⟩ = false ∧ (ks.contains k = true → x = getV ks vs k) := by
  obtain ⟨ct, e1, e2, e3⟩ := h
  obtain ⟨x, e4, e5⟩ := e3 k.toNat (by omega)
  rw [Int.toNat_of_nonneg h0] at e5
  exact ⟨x, (blk_cell e1 _).trans e4, blk_frozen e1 _, e5⟩
theorem OwT.set {ks ks' : List Int} {T : Nat} {W : World} (h : OwT ks T W) (k : Int) (h0 : 0 ≤ k) (h1 : k < 1000) (b : Bool) (hb : ∀ x : Int, ks'.contains x = if x = k then b else ks.contains x) : OwT ks' T (W.setCell ⟨T, k.toNat, none⟩ (.bool b)) := by
  obtain ⟨ct, e1, e2, e3⟩ := h
  refine ⟨_, blk_set e1 _ _, by simpa using e2, fun i hi => ?_⟩
  rw [Array.getElem?_setIfInBounds]
  by_cases hik : k.toNat = i
  · rw [if_pos hik, if_pos (by omega), hb, if_pos (by omega)]
  · rw [if_neg hik, e3 i hi, hb, if_neg (by omega)]
theorem OwV.set {ks vs ks' vs' : List Int} {V : Nat} {W : World} (h : OwV ks vs V W) (k : Int) (h0 : 0 ≤ k) (h1 : k < 1000) (v : Int) (hv : getV ks' vs' k = v) (hb : ∀ x : Int, x ≠ k → ks'.contains x = true → ks.contains x = true ∧ getV ks' vs' x = getV ks vs x) : OwV ks' vs' V (W.setCell ⟨V, k.toNat, none⟩ (.int .i64 v)) := by
  obtain ⟨ct, e1, e2, e3⟩ := h
  refine ⟨_, blk_set e1 _ _, by simpa using e2, fun i hi => ?_⟩
  rw [Array.getElem?_setIfInBounds]
  by_cases hik : k.toNat = i
  · rw [if_pos hik, if_pos (by omega)]
    exact ⟨v, rfl, fun _ => by rw [← hv, show k = (i : Int) by omega]⟩
  · rw [if_neg hik]
    obtain ⟨x, g1, g2⟩ := e3 i hi
    refine ⟨x, g1, fun hc => ?_⟩
    obtain ⟨q1, q2⟩ := hb (i : Int) (by omega) hc
    rw [q2]
    exact g2 q1
theorem OwV.turn {ks vs ks' vs' : List Int} {V : Nat} {W : World} (h : OwV ks vs V W) (hb : ∀ x : Int, ks'.contains x = true → ks.contains x = true ∧ getV ks' vs' x = getV ks vs x) : OwV ks' vs' V W := by
  obtain ⟨ct, e1, e2, e3⟩ := h
  refine ⟨ct, e1, e2, fun i hi => ?_⟩
  obtain ⟨x, g1, g2⟩ := e3 i hi
  refine ⟨x, g1, fun hc => ?_⟩
  obtain ⟨q1, q2⟩ := hb (i : Int) hc
  rw [q2]
  exact g2 q1
/-- A rack behind a store elsewhere. -/
theorem RkRaw.set_far {w0 : World} {R : Nat} {kv vv : Value} {ks vs : List Int} {size next step : Int} {W : World} {T : Nat} {cs : Array Value} {ty : TypeId} (h : RkRaw w0 R kv vv ks vs size next step W) (hT : W.heap[T]? = some (.cells cs ty (0, 0))) (h0 : w0.heap.size ≤ T) (h1 : ty ≠ 42) (h2 : ty ≠ 3) (j : Nat) (u : Value) : RkRaw w0 R kv vv ks vs size next step (W.setCell ⟨T, j, none⟩ u) :=
  ⟨h.le, blk_far h.blk (blk_ne h.blk hT (fun e => h1 e.symm)) u, own_setCell h.hk (own_ne h.hk hT (fun e => h2 e.symm)) _, own_setCell h.hv (own_ne h.hv hT (fun e => h2 e.symm)) _, h.ap, h.hB.setCell h0 _⟩
/-- What is true between two acts. -/
structure OwIn (w0 : World) (R T V : Nat) (size many : Int) (i : Nat) (W : World) : Prop where
  it : ∃ kv vv ks vs next step, 1 ≤ step ∧ step ≤ 2 ∧ RkRaw w0 R kv vv ks vs size next step W ∧ TbOk ks vs ∧ (ks.length : Int) ≤ size ∧ 1 ≤ next ∧ next ≤ 410 + 2 * i ∧ (∀ x ∈ ks, 1 ≤ x ∧ (x ≤ 400 ∨ x < next)) ∧ many = (ks.length : Int) ∧ OwT ks T W ∧ OwV ks vs V W
section
variable {w0 : World} {R T V : Nat} {size next step : Int} {j : Nat} {W W5 : World} {kv vv kv' vv' : Value} {ks vs : List Int}
theorem OwT.mv (h : OwT ks T W) (hr : RkRaw w0 R kv vv ks vs size next step W) (m : RkMv R kv vv W W5) : OwT ks T W5 := by
  obtain ⟨ct, h1, h2, h3⟩ := h
  exact ⟨ct, (m.keep T (blk_lt h1) (fun e => blk_ne h1 hr.blk (by decide) e) (own_ne hr.hk h1 (by decide)) (own_ne hr.hv h1 (by decide))).trans h1, h2, h3⟩
theorem OwV.mv (h : OwV ks vs V W) (hr : RkRaw w0 R kv vv ks vs size next step W) (m : RkMv R kv vv W W5) : OwV ks vs V W5 := by
  obtain ⟨ct, h1, h2, h3⟩ := h
  exact ⟨ct, (m.keep V (blk_lt h1) (fun e => blk_ne h1 hr.blk (by decide) e) (own_ne hr.hk h1 (by decide)) (own_ne hr.hv h1 (by decide))).trans h1, h2, h3⟩
theorem act_mv {g : Nat} {cs : Array Value} (h : W.heap[g]? = some (.cells cs 31 (0, 0))) (hr : RkRaw w0 R kv vv ks vs size next step W) (m : RkMv R kv vv W W5) : W5.heap[g]? = some (.cells cs 31 (0, 0)) :=
  (m.keep g (blk_lt h) (fun e => blk_ne h hr.blk (by decide) e) (own_ne hr.hk h (by decide)) (own_ne hr.hv h (by decide))).trans h
theorem rk_LenAt {n : Int} (h : RkRaw w0 R kv vv ks vs size next step W) (hs : size ≠ 0) (hn : (ks.length : Int) = n) : Calls Try.prog 16 #[.pointer (some ⟨R, 0, none⟩)] W fun e W' => e = .returned (.int .i64 n) ∧ W' = W := by
  rw [← hn]
  exact rk_Len h hs
theorem ow_gives (hst : 1 ≤ step) (hst2 : step ≤ 2) (h1 : 1 ≤ next) (h2 : next ≤ 410 + 2 * j) (hj : j ≤ 150) (hks : ∀ x ∈ ks, 1 ≤ x ∧ (x ≤ 400 ∨ x < next)) :
    (size ≤ (ks.length : Int) ∧ gvId ks size next step = none ∧ gvNx ks size next step = next) ∨ ((ks.length : Int) < size ∧ ∃ x : Int, gvId ks size next step = some x ∧ gvNx ks size next step = x + step ∧ ks.contains x = false ∧ next ≤ x ∧ x + step ≤ 410 + 2 * ((j + 1 : Nat) : Int)) := by
  by_cases hf : size ≤ (ks.length : Int)
  · exact .inl ⟨hf, (gv_full hf).1, (gv_full hf).2⟩
  · obtain ⟨i, e1, e2, e3, e4⟩ := give_near (ks := ks) hst (by omega) (401 - next).toNat next (by omega) (by omega) (fun x hx => (hks x hx).2)
    have e5 : 0 ≤ step * (i : Int) := Int.mul_nonneg (by omega) (by omega)
    refine .inr ⟨by omega, next + step * i, ?_, ?_, ?_, by omega, by omega⟩
    · unfold gvId; rw [if_neg hf]; exact e1
    · unfold gvNx; rw [if_neg hf]; exact e2
    · rw [← Bool.not_eq_true, contains_iff]
      exact e3
theorem ow_same (h5 : RkRaw w0 R kv' vv' ks vs size next step W5) (hst : 1 ≤ step) (hst2 : step ≤ 2) (ok : TbOk ks vs) (hsz : (ks.length : Int) ≤ size) (h1 : 1 ≤ next) (h2 : next ≤ 410 + 2 * j) (hks : ∀ x ∈ ks, 1 ≤ x ∧ (x ≤ 400 ∨ x < next)) (hT : OwT ks T W5) (hV : OwV ks vs V W5) : OwIn w0 R T V size (ks.length : Int) (j + 1) W5 :=
  ⟨⟨_, _, _, _, _, _, hst, hst2, h5, ok, hsz, h1, by omega, hks, rfl, hT, hV⟩⟩
/-- One more. -/
theorem ow_more {x val nx : Int} (h5 : RkRaw w0 R kv' vv' (putK ks x) (putV ks vs x val) size nx step W5) (hst : 1 ≤ step) (hst2 : step ≤ 2) (ok : TbOk ks vs) (hf : (ks.length : Int) < size) (hs2 : size ≤ 64) (h1 : 1 ≤ nx) (h2 : nx ≤ 410 + 2 * ((j + 1 : Nat) : Int)) (hx0 : 1 ≤ x) (hx1 : x < 1000) (hc : ks.contains x = false)
    (hks : ∀ y ∈ putK ks x, 1 ≤ y ∧ (y ≤ 400 ∨ y < nx)) (hT : OwT ks T W5) (hV : OwV ks vs V W5) (hT0 : w0.heap.size ≤ T) (hV0 : w0.heap.size ≤ V) :
    OwIn w0 R T V size ((ks.length : Int) + 1) (j + 1) ((W5.setCell ⟨T, x.toNat, none⟩ (.bool true)).setCell ⟨V, x.toNat, none⟩ (.int .i64 val)) ∧ ∃ nx', RkRaw w0 R kv' vv' (putK ks x) (putV ks vs x val) size nx' step ((W5.setCell ⟨T, x.toNat, none⟩ (.bool true)).setCell ⟨V, x.toNat, none⟩ (.int .i64 val)) ∧ ((putK ks x).length : Int) = (ks.length : Int) + 1 := by
  have hl : ks.length ≤ 99 := by omega
  have ok2 := ok.put x val hl
  have hTV : T ≠ V := by
    obtain ⟨_, e1, _⟩ := hT
    obtain ⟨_, e2, _⟩ := hV
    exact blk_ne e1 e2 (by decide)
  have hlen : ((putK ks x).length : Int) = (ks.length : Int) + 1 := by
    rw [putK_length, if_neg (by rw [hc]; decide)]
    omega
  have t1 := hT.set (ks' := putK ks x) x (by omega) hx1 true (fun y => by
    rw [contains_putK]
    by_cases e : y = x <;> simp [e])
  have v1 : OwV ks vs V (W5.setCell ⟨T, x.toNat, none⟩ (.bool true)) := hV.blk (fun _ => Below.heap_setCell _ _ _ _ (fun e => hTV e.symm))
  have v2 := v1.set (ks' := putK ks x) (vs' := putV ks vs x val) x (by omega) hx1 val (by rw [getV_put ok x val x hl (by rw [contains_putK]; simp), if_pos rfl]) (fun y hy hc2 => by
    refine ⟨?_, by rw [getV_put ok x val y hl hc2, if_neg hy]⟩
    rw [contains_putK] at hc2
    simpa [hy] using hc2)
  have t2 : OwT (putK ks x) T ((W5.setCell ⟨T, x.toNat, none⟩ (.bool true)).setCell ⟨V, x.toNat, none⟩ (.int .i64 val)) := t1.blk (fun _ => Below.heap_setCell _ _ _ _ hTV)
  obtain ⟨ct, e1, _, _⟩ := hT
  have h6 := h5.set_far e1 hT0 (by decide) (by decide) x.toNat (.bool true)
  obtain ⟨cv, e2, _, _⟩ := v1
  have h7 := h6.set_far e2 hV0 (by decide) (by decide) x.toNat (.int .i64 val)
  exact ⟨⟨⟨_, _, _, _, _, _, hst, hst2, h7, ok2, by omega, h1, h2, hks, hlen.symm, t2, v2⟩⟩, _, h7, hlen⟩
/-- Another value. -/
theorem ow_other {x val : Int} (h5 : RkRaw w0 R kv' vv' ks (putV ks vs x val) size next step W5) (hst : 1 ≤ step) (hst2 : step ≤ 2) (ok : TbOk ks vs) (hsz : (ks.length : Int) ≤ size) (hs2 : size ≤ 64) (h1 : 1 ≤ next) (h2 : next ≤ 410 + 2 * j) (hx0 : 0 ≤ x) (hx1 : x < 1000) (hc : ks.contains x = true)
    (hks : ∀ y ∈ ks, 1 ≤ y ∧ (y ≤ 400 ∨ y < next)) (hT : OwT ks T W5) (hV : OwV ks vs V W5) (hV0 : w0.heap.size ≤ V) :
    OwIn w0 R T V size (ks.length : Int) (j + 1) (W5.setCell ⟨V, x.toNat, none⟩ (.int .i64 val)) ∧ RkRaw w0 R kv' vv' ks (putV ks vs x val) size next step (W5.setCell ⟨V, x.toNat, none⟩ (.int .i64 val)) := by
  have hl : ks.length ≤ 99 := by omega
  have ek : putK ks x = ks := by unfold putK; rw [if_pos hc]
  have ok2 := ok.put x val hl
  have hg : ∀ y, ks.contains y = true → getV ks (putV ks vs x val) y = if y = x then val else getV ks vs y := fun y hy => by
    have := getV_put ok x val y hl (by rw [ek]; exact hy)
    rwa [ek] at this
  rw [ek] at ok2
  have hTV : T ≠ V := by
    obtain ⟨_, e1, _⟩ := hT
    obtain ⟨_, e2, _⟩ := hV
    exact blk_ne e1 e2 (by decide)
  have v2 := hV.set (ks' := ks) (vs' := putV ks vs x val) x hx0 hx1 val (by rw [hg x hc, if_pos rfl]) (fun y hy hc2 => ⟨hc2, by rw [hg y hc2, if_neg hy]⟩)
  have t2 : OwT ks T (W5.setCell ⟨V, x.toNat, none⟩ (.int .i64 val)) := hT.blk (fun _ => Below.heap_setCell _ _ _ _ hTV)
  obtain ⟨cv, e2, _, _⟩ := hV
  have h7 := h5.set_far e2 hV0 (by decide) (by decide) x.toNat (.int .i64 val)
  exact ⟨⟨⟨_, _, _, _, _, _, hst, hst2, h7, ok2, hsz, h1, by omega, hks, rfl, t2, v2⟩⟩, h7⟩
/-- One less. -/
theorem ow_less {x : Int} (h5 : RkRaw w0 R kv' vv' (dropK ks x) (dropV ks vs x) size next step W5) (hst : 1 ≤ step) (hst2 : step ≤ 2) (ok : TbOk ks vs) (hsz : (ks.length : Int) ≤ size) (h1 : 1 ≤ next) (h2 : next ≤ 410 + 2 * j) (hx0 : 0 ≤ x) (hx1 : x < 1000) (hc : ks.contains x = true)
    (hks : ∀ y ∈ ks, 1 ≤ y ∧ (y ≤ 400 ∨ y < next)) (hT : OwT ks T W5) (hV : OwV ks vs V W5) (hT0 : w0.heap.size ≤ T) :
    OwIn w0 R T V size ((ks.length : Int) - 1) (j + 1) (W5.setCell ⟨T, x.toNat, none⟩ (.bool false)) ∧ RkRaw w0 R kv' vv' (dropK ks x) (dropV ks vs x) size next step (W5.setCell ⟨T, x.toNat, none⟩ (.bool false)) ∧ ((dropK ks x).length : Int) = (ks.length : Int) - 1 := by
  have ok2 := ok.drop x
  have hpos := posK_lt hc
  have hlen : ((dropK ks x).length : Int) = (ks.length : Int) - 1 := by
    rw [dropK_length, if_pos hc]
    omega
  have hTV : T ≠ V := by
    obtain ⟨_, e1, _⟩ := hT
    obtain ⟨_, e2, _⟩ := hV
    exact blk_ne e1 e2 (by decide)
  have t1 := hT.set (ks' := dropK ks x) x hx0 hx1 false (fun y => by
    rw [contains_dropK ok.sorted]
    by_cases e : y = x <;> simp [e])
  have v1 : OwV ks vs V (W5.setCell ⟨T, x.toNat, none⟩ (.bool false)) := hV.blk (fun _ => Below.heap_setCell _ _ _ _ (fun e => hTV e.symm))
  have v2 := v1.turn (ks' := dropK ks x) (vs' := dropV ks vs x) (fun y hy => by
    refine ⟨?_, getV_drop ok x y hy⟩
    rw [contains_dropK ok.sorted] at hy
    exact (Bool.and_eq_true_iff.1 hy).2)
  obtain ⟨ct, e1, _, _⟩ := hT
  have h6 := h5.set_far e1 hT0 (by decide) (by decide) x.toNat (.bool false)
  exact ⟨⟨⟨_, _, _, _, _, _, hst, hst2, h6, ok2, by omega, h1, by omega, fun y hy => hks y ((mem_dropK ok.sorted y).1 hy).1, hlen.symm, t1, v2⟩⟩, h6, hlen⟩
end
theorem zero_there : ∃ zb : Array Value, (∀ W : World, (zeroValue 57).run Try.prog W = .ok (.agg zb) W) ∧ zb.size = 1000 ∧ ∀ i, i < 1000 → zb[i]? = some (.bool false) :=
  ⟨Array.replicate 1000 (.bool false), fun W => by kernel_rfl, by simp, fun i hi => by simp [hi]⟩
theorem zero_value : ∃ zb : Array Value, (∀ W : World, (zeroValue 58).run Try.prog W = .ok (.agg zb) W) ∧ zb.size = 1000 ∧ ∀ i, i < 1000 → zb[i]? = some (.int .i64 0) :=
  ⟨Array.replicate 1000 (.int .i64 0), fun W => by kernel_rfl, by simp, fun i hi => by simp [hi]⟩
set_option maxRecDepth 100000 in
set_option maxHeartbeats 32000000 in
theorem own_by1 (size : Int) (A2 : Option Addr) (c2 : Nat) (l : List S31) (r : Bool) (w : World) (hC : Kd.C k31 w A2 l.length l) (hc : l.length ≤ c2) (h : postilionlaw03_RackOwn.f size false l = some r) (hT : Aside0 (r = true)) :
    Calls Try.prog 6 #[.int .i64 size, .bool false, .slice A2 l.length c2] w fun e w' => e = .returned (.bool r) ∧ Below w.heap.size w w' := by
  obtain rfl := hT.out
  have ha : ∀ x ∈ l, 0 ≤ x.f0 ∧ x.f0 < 256 := by
    unfold postilionlaw03_RackOwn.f at h
    split at h
    · rename_i hg
      exact fun x hx => by simpa using (List.all_eq_true.1 hg) x hx
    · cases h
  clear h
  have HA := Aside0.mk ha
  clear ha
  have hAw := rk_awake w
  obtain ⟨k, r, hk, hn⟩ := near_law l
  have HN := Aside0.mk hn
  clear hn
  have HC := Aside0.mk hC
  have HCC := Aside0.mk hc
  clear hC hc
  obtain ⟨s, hs1, hs2, hs⟩ := size_in size
  obtain ⟨zb, hzb, hzb1, hzb2⟩ := zero_there
  obtain ⟨zi, hzi, hzi1, hzi2⟩ := zero_value
  have HZ := Aside0.mk (And.intro hzb1 (And.intro hzb2 (And.intro hzi1 hzi2)))
  clear hzb1 hzb2 hzi1 hzi2
  obtain ⟨st, hst⟩ : ∃ st : Int, st = 1 := ⟨_, rfl⟩
  have hok : NewOk s 1 st := by
    unfold NewOk
    omega
  have NW := fun (W : World) => rk_New s 1 st W hok
  have NE := fun (W : World) (hb : Below w.heap.size w W) => postilionlaw03_near.calls k A2 c2 l r W (Kd.C_below HC.out hb) HCC.out hk
  have HNE := Aside0.mk NE
  have RM := Aside0.mk (rk_made s 1 st)
  clear hk NE
  subst hst
  · skip
    cases r with
    | false =>
      go_enter Try.func6, Try.ntmps6
      go_wp2_with (first | (go_at_call 7; refine hAw.mono ?_; rintro e w1 ⟨rfl, hw1⟩; have nw := NW w1) | (go_at_call 8; (with_reducible refine nw.mono ?_); rintro e w2 ⟨rfl, hw2⟩; have r2 := RM.out w1; (rw [← hw2] at r2); clear hw2; have hb2 := nlb2 hw1 r2.hB; have ne := HNE.out w2 hb2) | (go_at_call 9; (with_reducible refine ne.mono ?_); rintro e w3 ⟨rfl, hd3⟩))
      go_ret
      exact ⟨rfl, nlb2 hb2 hd3.below⟩
    | true =>
      obtain ⟨hl, hnr⟩ := HN.out rfl
      have HNR := Aside0.mk hnr
      clear hnr
      go_enter Try.func6, Try.ntmps6
      go_wp2_with (first | (go_at_call 7; refine hAw.mono ?_; rintro e w1 ⟨rfl, hw1⟩; have nw := NW w1) | (go_at_call 8; (with_reducible refine nw.mono ?_); rintro e w2 ⟨rfl, hw2⟩; have r2 := RM.out w1; (rw [← hw2] at r2); clear hw2; have hb2 := nlb2 hw1 r2.hB; have ne := HNE.out w2 hb2) | (go_at_call 9; (with_reducible refine ne.mono ?_); rintro e w3 ⟨rfl, hd3⟩))
      have hb3 := nlb2 hw1 r2.hB
      have T0 : OwIn w1 w1.heap.size w3.heap.size (w3.heap.size + 1) s 0 0 ((w3.alloc (.cells zb 57)).alloc (.cells zi 58)) := by
        obtain ⟨z1, z2, z3, z4⟩ := HZ.out
        have b1 : Below w3.heap.size w3 (w3.alloc (.cells zb 57)) := (Below.refl _ _).alloc (Nat.le_refl _) _
        have b2 : Below (w3.alloc (.cells zb 57)).heap.size (w3.alloc (.cells zb 57)) ((w3.alloc (.cells zb 57)).alloc (.cells zi 58)) := (Below.refl _ _).alloc (Nat.le_refl _) _
        have e1 := blk_alloc (blk_new w3 (.cells zb 57)) (.cells zi 58)
        have e2 := blk_new (w3.alloc (.cells zb 57)) (.cells zi 58)
        rw [World.size_alloc] at e2
        exact ⟨_, _, _, _, _, _, by decide, by decide, ((r2.below hd3.below).below b1).below b2, tb_nil, by simp; omega, by omega, by omega, (fun x hx => by cases hx), rfl, ⟨zb, e1, z1, z2⟩, ⟨zi, e2, z3, fun i hi => ⟨0, z4 i hi, (fun h => by cases h)⟩⟩⟩
      have HT0 := Aside0.mk T0
      have HW3 := Aside0.mk (show w1.heap.size ≤ w3.heap.size from Nat.le_trans r2.hB.size hd3.below.size)
      clear T0 r2
      go_loopw [12, 13] (fun ma i wr => ∃ (many : Int) (j : Nat), j ≤ l.length ∧ ma = .int .i64 many ∧ i = .int .i64 (j : Int) ∧ Aside0 (OwIn w1 w1.heap.size w3.heap.size (w3.heap.size + 1) s many j wr)) (fun _ i _ => l.length - (intOf i).toNat)
      case atStart => exact ⟨0, 0, Nat.zero_le _, rfl, rfl, HT0⟩
      case round =>
        obtain ⟨many, j, hj, rfl, rfl, ht⟩ := hrel
        by_cases hlt : j < l.length
        · have p1 : decide ((j : Int) < (l.length : Int)) = true := decide_eq_true (by omega)
          obtain ⟨kv, vv, ks, vs, next, step, st1, st2, hr, hok2, hsz, hn1, hn2, hks, hma, hT, hV⟩ := ht.out.it
          obtain rfl := hma
          clear ht
          obtain ⟨ad, e, d0, d1, d2⟩ := at_T31 (Kd.C_below HC.out (nlb2 hw1 hr.hB)) (j : Int) (by omega) (by omega)
          subst e
          rw [Int.toNat_natCast] at d0 d1 d2
          have hac := HA.out (rd_T31 l (j : Int)) (by
            unfold rd_T31
            rw [Int.toNat_natCast, List.getD_eq_getElem?_getD, List.getElem?_eq_getElem hlt]
            exact List.getElem_mem hlt)
          have hid := HNR.out j hlt
          generalize rd_T31 l (j : Int) = act at d0 d1 d2 hac hid
          obtain ⟨kd, id, val⟩ := act
          simp only at d0 d1 d2 hac hid
          have bA : Below wr.heap.size wr (wr.alloc (.cells #[.int .u8 kd, .int .i64 id, .int .i64 val] 31)) := (Below.refl _ wr).alloc (Nat.le_refl _) _
          have hrA := hr.below bA
          have hTA := hT.blk (fun h => bA.block _ h)
          have hVA := hV.blk (fun h => bA.block _ h)
          have hA1 := blk_new wr (.cells #[.int .u8 kd, .int .i64 id, .int .i64 val] 31)
          have hwR := hr.lt
          clear hr hT hV
          have HR := Aside0.mk hrA
          have HTA := Aside0.mk hTA
          have HVA := Aside0.mk hVA
          have HA1 := Aside0.mk hA1
          have HKS := Aside0.mk hks
          clear hrA hTA hVA hA1 hks bA
          have hw3r : w3.heap.size + 1 < wr.heap.size := by
            obtain ⟨_, e1, _⟩ := HVA.out
            have := blk_lt e1
            rw [World.size_alloc] at this
            have : w3.heap.size + 1 ≠ wr.heap.size := blk_ne e1 HA1.out (by decide)
            omega
          go_wp2_with fail
          · skip
            have GV := rk_Give HR.out hok2 (by omega) st1 (by omega) hn1 (by omega) val
            rcases ow_gives (j := j) (size := s) st1 st2 hn1 hn2 (by omega) HKS.out with ⟨gf, g1, g2⟩ | ⟨gf, x, g1, g2, g3, g4, g5⟩
            · rw [g1, g2] at GV
              clear g1 g2
              have q1 : decide ((ks.length : Int) < s) = false := decide_eq_false (by omega)
              (with_reducible refine GV.mono ?_)
              rintro e w5 ⟨rfl, kv', vv', h5, m5⟩
              have LN := rk_LenAt (n := (ks.length : Int)) h5 (by omega) rfl
              have TT := Aside0.mk (ow_same h5 st1 st2 hok2 hsz hn1 hn2 HKS.out (HTA.out.mv HR.out m5) (HVA.out.mv HR.out m5))
              clear GV h5 m5
              go_wp2_with (go_at_call 16; (with_reducible refine LN.mono ?_); rintro e w7 ⟨rfl, hw7⟩; obtain rfl := hw7.symm)
              exact ⟨⟨_, j + 1, by omega, rfl, by simp, TT⟩, by simp [intOf]; omega⟩
            · rw [g1, g2] at GV
              clear g1 g2
              (with_reducible refine GV.mono ?_)
              rintro e w5 ⟨rfl, kv', vv', h5, m5⟩
              have hT5 := HTA.out.mv HR.out m5
              have hV5 := HVA.out.mv HR.out m5
              have hx1 : x < 1000 := by omega
              have hx0 : 1 ≤ x := by omega
              obtain ⟨c1, c2⟩ := hT5.cell x (by omega) hx1
              rw [g3] at c1
              obtain ⟨TT, nx', h7, hlen⟩ := ow_more h5 st1 st2 hok2 gf hs2 (by omega) g5 hx0 hx1 g3 (fun y hy => by
                rcases (mem_putK _ _ _).1 hy with rfl | hy
                · exact ⟨hx0, .inr (by omega)⟩
                · obtain ⟨y1, y2⟩ := HKS.out y hy
                  exact ⟨y1, by omega⟩) hT5 hV5 HW3.out (Nat.le_succ_of_le HW3.out)
              have LN := rk_LenAt (n := (ks.length : Int) + 1) h7 (by omega) hlen
              have TTT := Aside0.mk TT
              have hV6 : OwV ks vs (w3.heap.size + 1) (w5.setCell ⟨w3.heap.size, x.toNat, none⟩ (.bool true)) := hV5.blk (fun _ => Below.heap_setCell _ _ _ _ (by simp))
              obtain ⟨xv, c3, c4, _⟩ := hV6.cell x (by omega) hx1
              have hA5 := act_mv HA1.out HR.out m5
              have hlt5 := blk_lt hA5
              have c5 : (w5.setCell ⟨w3.heap.size, x.toNat, none⟩ (.bool true)).cell? ⟨wr.heap.size, 2, none⟩ = some (.int .i64 val) := (blk_cell (blk_far hA5 (show wr.heap.size ≠ w3.heap.size by omega) _) 2).trans rfl
              have q1 : decide ((ks.length : Int) < s) = true := decide_eq_true (by omega)
              have q2 : decide (x < 1) = false := decide_eq_false (by omega)
              have q3 : decide (800 < x) = false := decide_eq_false (by omega)
              have hx0' : 0 ≤ x := by omega
              clear GV h5 m5 hT5 hV5 TT h7 hV6 hA5
              have HL := Aside0.mk hlen
              have HG3 := Aside0.mk g3
              clear hlen g3
              go_wp2_with (go_at_call 16; (with_reducible refine LN.mono ?_); rintro e w7 ⟨rfl, hw7⟩; obtain rfl := hw7.symm)
              exact ⟨⟨_, j + 1, by omega, rfl, by simp, TTT⟩, by simp [intOf]; omega⟩
          · skip
            have GV := rk_Give HR.out hok2 (by omega) st1 (by omega) hn1 (by omega) val
            rcases ow_gives (j := j) (size := s) st1 st2 hn1 hn2 (by omega) HKS.out with ⟨gf, g1, g2⟩ | ⟨gf, x, g1, g2, g3, g4, g5⟩
            · rw [g1, g2] at GV
              clear g1 g2
              have q1 : decide ((ks.length : Int) < s) = false := decide_eq_false (by omega)
              (with_reducible refine GV.mono ?_)
              rintro e w5 ⟨rfl, kv', vv', h5, m5⟩
              have LN := rk_LenAt (n := (ks.length : Int)) h5 (by omega) rfl
              have TT := Aside0.mk (ow_same h5 st1 st2 hok2 hsz hn1 hn2 HKS.out (HTA.out.mv HR.out m5) (HVA.out.mv HR.out m5))
              clear GV h5 m5
              go_wp2_with (go_at_call 16; (with_reducible refine LN.mono ?_); rintro e w7 ⟨rfl, hw7⟩; obtain rfl := hw7.symm)
              exact ⟨⟨_, j + 1, by omega, rfl, by simp, TT⟩, by simp [intOf]; omega⟩
            · rw [g1, g2] at GV
              clear g1 g2
              (with_reducible refine GV.mono ?_)
              rintro e w5 ⟨rfl, kv', vv', h5, m5⟩
              have hT5 := HTA.out.mv HR.out m5
              have hV5 := HVA.out.mv HR.out m5
              have hx1 : x < 1000 := by omega
              have hx0 : 1 ≤ x := by omega
              obtain ⟨c1, c2⟩ := hT5.cell x (by omega) hx1
              rw [g3] at c1
              obtain ⟨TT, nx', h7, hlen⟩ := ow_more h5 st1 st2 hok2 gf hs2 (by omega) g5 hx0 hx1 g3 (fun y hy => by
                rcases (mem_putK _ _ _).1 hy with rfl | hy
                · exact ⟨hx0, .inr (by omega)⟩
                · obtain ⟨y1, y2⟩ := HKS.out y hy
                  exact ⟨y1, by omega⟩) hT5 hV5 HW3.out (Nat.le_succ_of_le HW3.out)
              have LN := rk_LenAt (n := (ks.length : Int) + 1) h7 (by omega) hlen
              have TTT := Aside0.mk TT
              have hV6 : OwV ks vs (w3.heap.size + 1) (w5.setCell ⟨w3.heap.size, x.toNat, none⟩ (.bool true)) := hV5.blk (fun _ => Below.heap_setCell _ _ _ _ (by simp))
              obtain ⟨xv, c3, c4, _⟩ := hV6.cell x (by omega) hx1
              have hA5 := act_mv HA1.out HR.out m5
              have hlt5 := blk_lt hA5
              have c5 : (w5.setCell ⟨w3.heap.size, x.toNat, none⟩ (.bool true)).cell? ⟨wr.heap.size, 2, none⟩ = some (.int .i64 val) := (blk_cell (blk_far hA5 (show wr.heap.size ≠ w3.heap.size by omega) _) 2).trans rfl
              have q1 : decide ((ks.length : Int) < s) = true := decide_eq_true (by omega)
              have q2 : decide (x < 1) = false := decide_eq_false (by omega)
              have q3 : decide (800 < x) = false := decide_eq_false (by omega)
              have hx0' : 0 ≤ x := by omega
              clear GV h5 m5 hT5 hV5 TT h7 hV6 hA5
              have HL := Aside0.mk hlen
              have HG3 := Aside0.mk g3
              clear hlen g3
              go_wp2_with (go_at_call 16; (with_reducible refine LN.mono ?_); rintro e w7 ⟨rfl, hw7⟩; obtain rfl := hw7.symm)
              exact ⟨⟨_, j + 1, by omega, rfl, by simp, TTT⟩, by simp [intOf]; omega⟩
          · have HO := rk_Hold HR.out hok2 (by omega) id val
            obtain ⟨c1, c2⟩ := HTA.out.cell id hid.1 (by omega)
            by_cases e0 : erH ks s id = 0
            · obtain ⟨gf, g3⟩ := erH_zero e0
              have g4 : 1 ≤ id := by
                unfold erH at e0
                split at e0
                · cases e0
                · omega
              simp only [e0, if_true] at HO
              (with_reducible refine HO.mono ?_)
              rintro e w5 ⟨rfl, kv', vv', h5, m5⟩
              have hT5 := HTA.out.mv HR.out m5
              have hV5 := HVA.out.mv HR.out m5
              have hx1 : id < 1000 := by omega
              obtain ⟨c1, c2⟩ := hT5.cell id hid.1 hx1
              rw [g3] at c1
              obtain ⟨TT, nx', h7, hlen⟩ := ow_more (j := j) h5 st1 st2 hok2 gf hs2 hn1 (by omega) g4 hx1 g3 (fun y hy => by
                rcases (mem_putK _ _ _).1 hy with rfl | hy
                · exact ⟨g4, .inl hid.2⟩
                · exact HKS.out y hy) hT5 hV5 HW3.out (Nat.le_succ_of_le HW3.out)
              have LN := rk_LenAt (n := (ks.length : Int) + 1) h7 (by omega) hlen
              have TTT := Aside0.mk TT
              have hV6 : OwV ks vs (w3.heap.size + 1) (w5.setCell ⟨w3.heap.size, id.toNat, none⟩ (.bool true)) := hV5.blk (fun _ => Below.heap_setCell _ _ _ _ (by simp))
              obtain ⟨xv, c3, c4, _⟩ := hV6.cell id hid.1 hx1
              have hA5 := act_mv HA1.out HR.out m5
              have hlt5 := blk_lt hA5
              have c5 : (w5.setCell ⟨w3.heap.size, id.toNat, none⟩ (.bool true)).cell? ⟨wr.heap.size, 2, none⟩ = some (.int .i64 val) := (blk_cell (blk_far hA5 (show wr.heap.size ≠ w3.heap.size by omega) _) 2).trans rfl
              have c6 : (w5.setCell ⟨w3.heap.size, id.toNat, none⟩ (.bool true)).cell? ⟨wr.heap.size, 1, none⟩ = some (.int .i64 id) := (blk_cell (blk_far hA5 (show wr.heap.size ≠ w3.heap.size by omega) _) 1).trans rfl
              have c7 : w5.cell? ⟨wr.heap.size, 1, none⟩ = some (.int .i64 id) := (blk_cell hA5 1).trans rfl
              have q1 : decide ((ks.length : Int) < s) = true := decide_eq_true (by omega)
              have q2 : decide (0 < id) = true := decide_eq_true (by omega)
              have hx0' : 0 ≤ id := by omega
              clear HO h5 m5 hT5 hV5 TT h7 hV6 hA5
              have HL := Aside0.mk hlen
              have HG3 := Aside0.mk g3
              have HE0 := Aside0.mk e0
              clear hlen g3 e0
              go_wp2_with (go_at_call 16; (with_reducible refine LN.mono ?_); rintro e w7 ⟨rfl, hw7⟩; obtain rfl := hw7.symm)
              exact ⟨⟨_, j + 1, by omega, rfl, by simp, TTT⟩, by simp [intOf]; omega⟩
            · have e1 : erH ks s id = 2 ∨ erH ks s id = 4 := by
                unfold erH at e0 ⊢
                split
                · exact .inl rfl
                · rename_i h1
                  rw [if_neg h1] at e0
                  split at e0
                  · rename_i h2
                    rw [if_pos h2]
                    exact .inr rfl
                  · exact absurd rfl e0
              have e2 : id ≤ 0 ∨ ks.contains id = true ∨ (0 < id ∧ ks.contains id = false ∧ s ≤ (ks.length : Int)) := by
                by_cases h1 : id ≤ 0
                · exact .inl h1
                · by_cases h2 : ks.contains id = true
                  · exact .inr (.inl h2)
                  · refine .inr (.inr ⟨by omega, by simpa using h2, ?_⟩)
                    unfold erH at e0
                    rw [if_neg (by rintro (h | h | h); exact h2 h; omega; omega)] at e0
                    split at e0
                    · assumption
                    · exact absurd rfl e0
              have q5 : (erH ks s id == 0) = false := beq_eq_false_iff_ne.mpr e0
              generalize erH ks s id = er at HO e0 e1 q5
              simp only [e0, if_false] at HO
              have HE1 := Aside0.mk e1
              clear e0 e1
              (with_reducible refine HO.mono ?_)
              rintro e w5 ⟨rfl, kv', vv', h5, m5⟩
              have hT5 := HTA.out.mv HR.out m5
              have hV5 := HVA.out.mv HR.out m5
              have hA5 := act_mv HA1.out HR.out m5
              obtain ⟨c1, c2⟩ := hT5.cell id hid.1 (by omega)
              have c7 : w5.cell? ⟨wr.heap.size, 1, none⟩ = some (.int .i64 id) := (blk_cell hA5 1).trans rfl
              have LN := rk_LenAt (n := (ks.length : Int)) h5 (by omega) rfl
              have TT := Aside0.mk (ow_same h5 st1 st2 hok2 hsz hn1 hn2 HKS.out hT5 hV5)
              have hx0' : 0 ≤ id := by omega
              have hx1 : id < 1000 := by omega
              clear HO h5 m5 hT5 hV5 hA5
              rcases e2 with g | g | ⟨g, g4, g5⟩
              · have q2 : decide (0 < id) = false := decide_eq_false (by omega)
                go_wp2_with (go_at_call 16; (with_reducible refine LN.mono ?_); rintro e w7 ⟨rfl, hw7⟩; obtain rfl := hw7.symm)
                exact ⟨⟨_, j + 1, by omega, rfl, by simp, TT⟩, by simp [intOf]; omega⟩
              · rw [g] at c1
                have q2 : decide (0 < id) = true := decide_eq_true (by
                  have := (HKS.out id (contains_iff.1 g)).1
                  omega)
                clear g
                go_wp2_with (go_at_call 16; (with_reducible refine LN.mono ?_); rintro e w7 ⟨rfl, hw7⟩; obtain rfl := hw7.symm)
                exact ⟨⟨_, j + 1, by omega, rfl, by simp, TT⟩, by simp [intOf]; omega⟩
              · rw [g4] at c1
                have q1 : decide ((ks.length : Int) < s) = false := decide_eq_false (by omega)
                have q2 : decide (0 < id) = true := decide_eq_true g
                clear g4
                go_wp2_with (go_at_call 16; (with_reducible refine LN.mono ?_); rintro e w7 ⟨rfl, hw7⟩; obtain rfl := hw7.symm)
                exact ⟨⟨_, j + 1, by omega, rfl, by simp, TT⟩, by simp [intOf]; omega⟩
          · have hRd := HR.out.below (Below.refl _ _).drew
            have SE := rk_Set hRd hok2 (by omega) id val
            obtain ⟨c1, c2⟩ := HTA.out.cell id hid.1 (by omega)
            have hTd : OwT ks w3.heap.size (wr.alloc (.cells #[.int .u8 kd, .int .i64 id, .int .i64 val] 31)).drew := HTA.out.blk (fun _ => rfl)
            have hVd : OwV ks vs (w3.heap.size + 1) (wr.alloc (.cells #[.int .u8 kd, .int .i64 id, .int .i64 val] 31)).drew := HVA.out.blk (fun _ => rfl)
            have MV := fun (kv' vv' : Value) (w5 : World) (m5 : RkMv w1.heap.size kv vv (wr.alloc (.cells #[.int .u8 kd, .int .i64 id, .int .i64 val] 31)).drew w5) => And.intro (hTd.mv hRd m5) (And.intro (hVd.mv hRd m5) (act_mv (g := wr.heap.size) (blk_drew HA1.out) hRd m5))
            have hMV := Aside0.mk MV
            have hx1 : id < 1000 := by omega
            have hx0' : 0 ≤ id := hid.1
            clear hRd hTd hVd MV
            by_cases hb : ks.contains id = true
            · have he : erK ks id = 0 := by unfold erK; rw [if_pos hb]
              rw [he, if_pos hb] at SE
              rw [hb] at c1
              have HBB := Aside0.mk hb
              clear he hb
              refine start_ (n := 12) (S := fun w' => (w'.cell? ⟨wr.heap.size, 1, none⟩ = some (.int .i64 id)) ∧ (w'.cell? ⟨wr.heap.size, 1 + 1, none⟩ = some (.int .i64 val)) ∧ (w'.cell? ⟨w3.heap.size, id.toNat, none⟩ = some (.bool true))) (ds := []) #[false, false, false, false, false, false, false, false, false, false, false, false] (by kernel_rfl) rfl rfl ⟨(blk_cell HA1.out 1).trans rfl, (blk_cell HA1.out 2).trans rfl, c1⟩ (fun hHeld => ?_)
              refine pure_ (i := 0) (N := some 159) (v := ?_) (a' := ?_) #[true, false, false, false, false, false, false, false, false, false, false, false] rfl rfl (by kernel_rfl) (fun _ _ _ h => h) (Or.inl ⟨by rfl, ?_⟩) ?_ ?_
              rotate_left
              · intro w'
                go_simp
                with_reducible rfl
              rotate_left
              · simp only [Act.put, List.setIfInBounds_toArray, List.set_cons_zero, List.set_cons_succ, i64_w, i32_w]
                rfl
              refine pure_ (i := 1) (N := some 160) (v := ?_) (a' := ?_) #[true, true, false, false, false, false, false, false, false, false, false, false] rfl rfl (by kernel_rfl) (fun _ _ _ h => h) (Or.inl ⟨by rfl, ?_⟩) ?_ ?_
              rotate_left
              · intro w'
                go_simp
                with_reducible rfl
              rotate_left
              · simp only [Act.put, List.setIfInBounds_toArray, List.set_cons_zero, List.set_cons_succ, i64_w, i32_w]
                rfl
              refine pure_ (i := 3) (N := some 162) (v := ?_) (a' := ?_) #[true, true, false, true, false, false, false, false, false, false, false, false] rfl rfl (by kernel_rfl) (fun _ _ _ h => h) (Or.inl ⟨by rfl, ?_⟩) ?_ ?_
              rotate_left
              · intro w'
                go_simp
                with_reducible rfl
              rotate_left
              · simp only [Act.put, List.setIfInBounds_toArray, List.set_cons_zero, List.set_cons_succ, i64_w, i32_w]
                rfl
              refine pure_ (i := 7) (N := some 166) (v := ?_) (a' := ?_) #[true, true, false, true, false, false, false, true, false, false, false, false] rfl rfl (by kernel_rfl) (fun _ _ _ h => h) (Or.inl ⟨by rfl, ?_⟩) ?_ ?_
              rotate_left
              · intro w'
                go_simp
                with_reducible rfl
              rotate_left
              · simp only [Act.put, List.setIfInBounds_toArray, List.set_cons_zero, List.set_cons_succ, i64_w, i32_w]
                rfl
              refine take_ (i := 2) (N := some 161) (v := ?_) (a' := ?_) #[true, true, true, true, false, false, false, true, false, false, false, false] rfl rfl (by kernel_rfl) (fun _ _ _ h => h) (Or.inl ⟨by rfl, ?_⟩) hHeld ?_ ?_
              rotate_left
              · rintro w' ⟨s0, s1, s2⟩
                go_simp
                with_reducible rfl
              rotate_left
              · simp only [Act.put, List.setIfInBounds_toArray, List.set_cons_zero, List.set_cons_succ, i64_w, i32_w]
                rfl
              refine take_ (i := 4) (N := some 163) (v := ?_) (a' := ?_) #[true, true, true, true, true, false, false, true, false, false, false, false] rfl rfl (by kernel_rfl) (fun _ _ _ h => h) (Or.inl ⟨by rfl, ?_⟩) hHeld ?_ ?_
              rotate_left
              · rintro w' ⟨s0, s1, s2⟩
                go_simp
                with_reducible rfl
              rotate_left
              · simp only [Act.put, List.setIfInBounds_toArray, List.set_cons_zero, List.set_cons_succ, i64_w, i32_w]
                rfl
              refine take_ (i := 8) (N := some 167) (v := ?_) (a' := ?_) #[true, true, true, true, true, false, false, true, true, false, false, false] rfl rfl (by kernel_rfl) (fun _ _ _ h => h) (Or.inl ⟨by rfl, ?_⟩) hHeld ?_ ?_
              rotate_left
              · rintro w' ⟨s0, s1, s2⟩
                go_simp
                with_reducible rfl
              rotate_left
              · simp only [Act.put, List.setIfInBounds_toArray, List.set_cons_zero, List.set_cons_succ, i64_w, i32_w]
                rfl
              refine pure_ (i := 9) (N := some 168) (v := ?_) (a' := ?_) #[true, true, true, true, true, false, false, true, true, true, false, false] rfl rfl (by kernel_rfl) (fun _ _ _ h => h) (Or.inl ⟨by rfl, ?_⟩) ?_ ?_
              rotate_left
              · intro w'
                go_simp
                with_reducible rfl
              rotate_left
              · simp only [Act.put, List.setIfInBounds_toArray, List.set_cons_zero, List.set_cons_succ, i64_w, i32_w]
                rfl
              refine take_ (i := 10) (N := some 169) (v := ?_) (a' := ?_) #[true, true, true, true, true, false, false, true, true, true, true, false] rfl rfl (by kernel_rfl) (fun _ _ _ h => h) (Or.inl ⟨by rfl, ?_⟩) hHeld ?_ ?_
              rotate_left
              · rintro w' ⟨s0, s1, s2⟩
                go_simp
                with_reducible rfl
              rotate_left
              · simp only [Act.put, List.setIfInBounds_toArray, List.set_cons_zero, List.set_cons_succ, i64_w, i32_w]
                rfl
              refine one_ (i := 5) (N := some 164) #[true, true, true, true, true, true, false, true, true, true, true, false] rfl rfl (by kernel_rfl) (by decide) (fun K hK => ?_)
              refine goes_ Try.func15 (by kernel_rfl) rfl #[.pointer (some ⟨w1.heap.size, 0, none⟩), .int .i64 id, .int .i64 val] (by rfl) rfl rfl (by simp only [List.map_toArray, List.map_cons, List.map_nil]; rfl) ?_
              with_reducible refine (SE).mono ?_
              rintro e w5 ⟨rfl, kv', vv', h5, m5⟩
              refine ⟨_, rfl, ?_⟩
              refine hK.out _ _ ⟨(blk_cell (hMV.out kv' vv' w5 m5).2.2 1).trans rfl, (blk_cell (hMV.out kv' vv' w5 m5).2.2 2).trans rfl, ((hMV.out kv' vv' w5 m5).1.cell id hx0' hx1).1.trans (by rw [HBB.out])⟩ (fun hHeld => ?_)
              clear hK K
              refine norm_ (a' := ?_) ?_ ?_
              rotate_left
              · show Act.put _ (some 164) _ = _
                simp only [Act.put, List.setIfInBounds_toArray, List.set_cons_zero, List.set_cons_succ, i64_w, i32_w]
                rfl
              refine pure_ (i := 6) (N := some 165) (v := ?_) (a' := ?_) #[true, true, true, true, true, true, true, true, true, true, true, false] rfl rfl (by kernel_rfl) (fun _ _ _ h => h) (Or.inl ⟨by rfl, ?_⟩) ?_ ?_
              rotate_left
              · intro w'
                go_simp
                with_reducible rfl
              rotate_left
              · simp only [Act.put, List.setIfInBounds_toArray, List.set_cons_zero, List.set_cons_succ, i64_w, i32_w]
                rfl
              refine pure_ (i := 11) (N := some 170) (v := ?_) (a' := ?_) #[true, true, true, true, true, true, true, true, true, true, true, true] rfl rfl (by kernel_rfl) (fun _ _ _ h => h) (Or.inl ⟨by rfl, ?_⟩) ?_ ?_
              rotate_left
              · intro w'
                go_simp
                with_reducible rfl
              rotate_left
              · simp only [Act.put, List.setIfInBounds_toArray, List.set_cons_zero, List.set_cons_succ, i64_w, i32_w]
                rfl
              refine done_ (by kernel_rfl) ?_
              obtain ⟨xv, c4, c5, _⟩ := (hMV.out kv' vv' w5 m5).2.1.cell id hx0' hx1
              obtain ⟨TT, h7⟩ := ow_other h5 st1 st2 hok2 hsz hs2 hn1 hn2 hx0' hx1 HBB.out HKS.out (hMV.out kv' vv' w5 m5).1 (hMV.out kv' vv' w5 m5).2.1 (Nat.le_succ_of_le HW3.out)
              have LN := rk_LenAt (n := (ks.length : Int)) h7 (by omega) rfl
              have TTT := Aside0.mk TT
              obtain ⟨r1, r2, r3⟩ := hHeld
              clear SE h5 m5 TT h7
              go_wp2_with (go_at_call 16; (with_reducible refine LN.mono ?_); rintro e w7 ⟨rfl, hw7⟩; obtain rfl := hw7.symm)
              exact ⟨⟨_, j + 1, by omega, rfl, by simp, TTT⟩, by simp [intOf]; omega⟩
            · have hb : ks.contains id = false := by simpa using hb
              have he : erK ks id = 30 := by unfold erK; rw [if_neg (by rw [hb]; decide)]
              rw [he, if_neg (by rw [hb]; decide)] at SE
              rw [hb] at c1
              have HBF := Aside0.mk hb
              clear he hb
              refine start_ (n := 12) (S := fun w' => (w'.cell? ⟨wr.heap.size, 1, none⟩ = some (.int .i64 id)) ∧ (w'.cell? ⟨wr.heap.size, 1 + 1, none⟩ = some (.int .i64 val)) ∧ (w'.cell? ⟨w3.heap.size, id.toNat, none⟩ = some (.bool false))) (ds := []) #[false, false, false, false, false, false, false, false, false, false, false, false] (by kernel_rfl) rfl rfl ⟨(blk_cell HA1.out 1).trans rfl, (blk_cell HA1.out 2).trans rfl, c1⟩ (fun hHeld => ?_)
              refine pure_ (i := 0) (N := some 159) (v := ?_) (a' := ?_) #[true, false, false, false, false, false, false, false, false, false, false, false] rfl rfl (by kernel_rfl) (fun _ _ _ h => h) (Or.inl ⟨by rfl, ?_⟩) ?_ ?_
              rotate_left
              · intro w'
                go_simp
                with_reducible rfl
              rotate_left
              · simp only [Act.put, List.setIfInBounds_toArray, List.set_cons_zero, List.set_cons_succ, i64_w, i32_w]
                rfl
              refine pure_ (i := 1) (N := some 160) (v := ?_) (a' := ?_) #[true, true, false, false, false, false, false, false, false, false, false, false] rfl rfl (by kernel_rfl) (fun _ _ _ h => h) (Or.inl ⟨by rfl, ?_⟩) ?_ ?_
              rotate_left
              · intro w'
                go_simp
                with_reducible rfl
              rotate_left
              · simp only [Act.put, List.setIfInBounds_toArray, List.set_cons_zero, List.set_cons_succ, i64_w, i32_w]
                rfl
              refine pure_ (i := 3) (N := some 162) (v := ?_) (a' := ?_) #[true, true, false, true, false, false, false, false, false, false, false, false] rfl rfl (by kernel_rfl) (fun _ _ _ h => h) (Or.inl ⟨by rfl, ?_⟩) ?_ ?_
              rotate_left
              · intro w'
                go_simp
                with_reducible rfl
              rotate_left
              · simp only [Act.put, List.setIfInBounds_toArray, List.set_cons_zero, List.set_cons_succ, i64_w, i32_w]
                rfl
              refine pure_ (i := 7) (N := some 166) (v := ?_) (a' := ?_) #[true, true, false, true, false, false, false, true, false, false, false, false] rfl rfl (by kernel_rfl) (fun _ _ _ h => h) (Or.inl ⟨by rfl, ?_⟩) ?_ ?_
              rotate_left
              · intro w'
                go_simp
                with_reducible rfl
              rotate_left
              · simp only [Act.put, List.setIfInBounds_toArray, List.set_cons_zero, List.set_cons_succ, i64_w, i32_w]
                rfl
              refine take_ (i := 2) (N := some 161) (v := ?_) (a' := ?_) #[true, true, true, true, false, false, false, true, false, false, false, false] rfl rfl (by kernel_rfl) (fun _ _ _ h => h) (Or.inl ⟨by rfl, ?_⟩) hHeld ?_ ?_
              rotate_left
              · rintro w' ⟨s0, s1, s2⟩
                go_simp
                with_reducible rfl
              rotate_left
              · simp only [Act.put, List.setIfInBounds_toArray, List.set_cons_zero, List.set_cons_succ, i64_w, i32_w]
                rfl
              refine take_ (i := 4) (N := some 163) (v := ?_) (a' := ?_) #[true, true, true, true, true, false, false, true, false, false, false, false] rfl rfl (by kernel_rfl) (fun _ _ _ h => h) (Or.inl ⟨by rfl, ?_⟩) hHeld ?_ ?_
              rotate_left
              · rintro w' ⟨s0, s1, s2⟩
                go_simp
                with_reducible rfl
              rotate_left
              · simp only [Act.put, List.setIfInBounds_toArray, List.set_cons_zero, List.set_cons_succ, i64_w, i32_w]
                rfl
              refine take_ (i := 8) (N := some 167) (v := ?_) (a' := ?_) #[true, true, true, true, true, false, false, true, true, false, false, false] rfl rfl (by kernel_rfl) (fun _ _ _ h => h) (Or.inl ⟨by rfl, ?_⟩) hHeld ?_ ?_
              rotate_left
              · rintro w' ⟨s0, s1, s2⟩
                go_simp
                with_reducible rfl
              rotate_left
              · simp only [Act.put, List.setIfInBounds_toArray, List.set_cons_zero, List.set_cons_succ, i64_w, i32_w]
                rfl
              refine pure_ (i := 9) (N := some 168) (v := ?_) (a' := ?_) #[true, true, true, true, true, false, false, true, true, true, false, false] rfl rfl (by kernel_rfl) (fun _ _ _ h => h) (Or.inl ⟨by rfl, ?_⟩) ?_ ?_
              rotate_left
              · intro w'
                go_simp
                with_reducible rfl
              rotate_left
              · simp only [Act.put, List.setIfInBounds_toArray, List.set_cons_zero, List.set_cons_succ, i64_w, i32_w]
                rfl
              refine take_ (i := 10) (N := some 169) (v := ?_) (a' := ?_) #[true, true, true, true, true, false, false, true, true, true, true, false] rfl rfl (by kernel_rfl) (fun _ _ _ h => h) (Or.inl ⟨by rfl, ?_⟩) hHeld ?_ ?_
              rotate_left
              · rintro w' ⟨s0, s1, s2⟩
                go_simp
                with_reducible rfl
              rotate_left
              · simp only [Act.put, List.setIfInBounds_toArray, List.set_cons_zero, List.set_cons_succ, i64_w, i32_w]
                rfl
              refine one_ (i := 5) (N := some 164) #[true, true, true, true, true, true, false, true, true, true, true, false] rfl rfl (by kernel_rfl) (by decide) (fun K hK => ?_)
              refine goes_ Try.func15 (by kernel_rfl) rfl #[.pointer (some ⟨w1.heap.size, 0, none⟩), .int .i64 id, .int .i64 val] (by rfl) rfl rfl (by simp only [List.map_toArray, List.map_cons, List.map_nil]; rfl) ?_
              with_reducible refine (SE).mono ?_
              rintro e w5 ⟨rfl, kv', vv', h5, m5⟩
              refine ⟨_, rfl, ?_⟩
              refine hK.out _ _ ⟨(blk_cell (hMV.out kv' vv' w5 m5).2.2 1).trans rfl, (blk_cell (hMV.out kv' vv' w5 m5).2.2 2).trans rfl, ((hMV.out kv' vv' w5 m5).1.cell id hx0' hx1).1.trans (by rw [HBF.out])⟩ (fun hHeld => ?_)
              clear hK K
              refine norm_ (a' := ?_) ?_ ?_
              rotate_left
              · show Act.put _ (some 164) _ = _
                simp only [Act.put, List.setIfInBounds_toArray, List.set_cons_zero, List.set_cons_succ, i64_w, i32_w]
                rfl
              refine pure_ (i := 6) (N := some 165) (v := ?_) (a' := ?_) #[true, true, true, true, true, true, true, true, true, true, true, false] rfl rfl (by kernel_rfl) (fun _ _ _ h => h) (Or.inl ⟨by rfl, ?_⟩) ?_ ?_
              rotate_left
              · intro w'
                go_simp
                with_reducible rfl
              rotate_left
              · simp only [Act.put, List.setIfInBounds_toArray, List.set_cons_zero, List.set_cons_succ, i64_w, i32_w]
                rfl
              refine pure_ (i := 11) (N := some 170) (v := ?_) (a' := ?_) #[true, true, true, true, true, true, true, true, true, true, true, true] rfl rfl (by kernel_rfl) (fun _ _ _ h => h) (Or.inl ⟨by rfl, ?_⟩) ?_ ?_
              rotate_left
              · intro w'
                go_simp
                with_reducible rfl
              rotate_left
              · simp only [Act.put, List.setIfInBounds_toArray, List.set_cons_zero, List.set_cons_succ, i64_w, i32_w]
                rfl
              refine done_ (by kernel_rfl) ?_
              have LN := rk_LenAt (n := (ks.length : Int)) h5 (by omega) rfl
              have TT := Aside0.mk (ow_same h5 st1 st2 hok2 hsz hn1 hn2 HKS.out (hMV.out kv' vv' w5 m5).1 (hMV.out kv' vv' w5 m5).2.1)
              obtain ⟨r1, r2, r3⟩ := hHeld
              clear SE h5 m5
              go_wp2_with (go_at_call 16; (with_reducible refine LN.mono ?_); rintro e w7 ⟨rfl, hw7⟩; obtain rfl := hw7.symm)
              exact ⟨⟨_, j + 1, by omega, rfl, by simp, TT⟩, by simp [intOf]; omega⟩
          · have hRd := HR.out.below (Below.refl _ _).drew
            have DR := rk_Drop hRd hok2 (by omega) id
            obtain ⟨c1, c2⟩ := HTA.out.cell id hid.1 (by omega)
            have hTd : OwT ks w3.heap.size (wr.alloc (.cells #[.int .u8 kd, .int .i64 id, .int .i64 val] 31)).drew := HTA.out.blk (fun _ => rfl)
            have hVd : OwV ks vs (w3.heap.size + 1) (wr.alloc (.cells #[.int .u8 kd, .int .i64 id, .int .i64 val] 31)).drew := HVA.out.blk (fun _ => rfl)
            have MV := fun (kv' vv' : Value) (w5 : World) (m5 : RkMv w1.heap.size kv vv (wr.alloc (.cells #[.int .u8 kd, .int .i64 id, .int .i64 val] 31)).drew w5) => And.intro (hTd.mv hRd m5) (And.intro (hVd.mv hRd m5) (act_mv (g := wr.heap.size) (blk_drew HA1.out) hRd m5))
            have hMV := Aside0.mk MV
            have hx1 : id < 1000 := by omega
            have hx0' : 0 ≤ id := hid.1
            clear hRd hTd hVd MV
            by_cases hb : ks.contains id = true
            · have he : erK ks id = 0 := by unfold erK; rw [if_pos hb]
              rw [he] at DR
              rw [hb] at c1
              have HBB := Aside0.mk hb
              clear he hb
              refine start_ (n := 10) (S := fun w' => (w'.cell? ⟨wr.heap.size, 1, none⟩ = some (.int .i64 id)) ∧ (w'.cell? ⟨w3.heap.size, id.toNat, none⟩ = some (.bool true))) (ds := []) #[false, false, false, false, false, false, false, false, false, false] (by kernel_rfl) rfl rfl ⟨(blk_cell HA1.out 1).trans rfl, c1⟩ (fun hHeld => ?_)
              refine pure_ (i := 0) (N := some 57) (v := ?_) (a' := ?_) #[true, false, false, false, false, false, false, false, false, false] rfl rfl (by kernel_rfl) (fun _ _ _ h => h) (Or.inl ⟨by rfl, ?_⟩) ?_ ?_
              rotate_left
              · intro w'
                go_simp
                with_reducible rfl
              rotate_left
              · simp only [Act.put, List.setIfInBounds_toArray, List.set_cons_zero, List.set_cons_succ, i64_w, i32_w]
                rfl
              refine pure_ (i := 1) (N := some 58) (v := ?_) (a' := ?_) #[true, true, false, false, false, false, false, false, false, false] rfl rfl (by kernel_rfl) (fun _ _ _ h => h) (Or.inl ⟨by rfl, ?_⟩) ?_ ?_
              rotate_left
              · intro w'
                go_simp
                with_reducible rfl
              rotate_left
              · simp only [Act.put, List.setIfInBounds_toArray, List.set_cons_zero, List.set_cons_succ, i64_w, i32_w]
                rfl
              refine pure_ (i := 5) (N := some 62) (v := ?_) (a' := ?_) #[true, true, false, false, false, true, false, false, false, false] rfl rfl (by kernel_rfl) (fun _ _ _ h => h) (Or.inl ⟨by rfl, ?_⟩) ?_ ?_
              rotate_left
              · intro w'
                go_simp
                with_reducible rfl
              rotate_left
              · simp only [Act.put, List.setIfInBounds_toArray, List.set_cons_zero, List.set_cons_succ, i64_w, i32_w]
                rfl
              refine take_ (i := 2) (N := some 59) (v := ?_) (a' := ?_) #[true, true, true, false, false, true, false, false, false, false] rfl rfl (by kernel_rfl) (fun _ _ _ h => h) (Or.inl ⟨by rfl, ?_⟩) hHeld ?_ ?_
              rotate_left
              · rintro w' ⟨s0, s1⟩
                go_simp
                with_reducible rfl
              rotate_left
              · simp only [Act.put, List.setIfInBounds_toArray, List.set_cons_zero, List.set_cons_succ, i64_w, i32_w]
                rfl
              refine take_ (i := 6) (N := some 63) (v := ?_) (a' := ?_) #[true, true, true, false, false, true, true, false, false, false] rfl rfl (by kernel_rfl) (fun _ _ _ h => h) (Or.inl ⟨by rfl, ?_⟩) hHeld ?_ ?_
              rotate_left
              · rintro w' ⟨s0, s1⟩
                go_simp
                with_reducible rfl
              rotate_left
              · simp only [Act.put, List.setIfInBounds_toArray, List.set_cons_zero, List.set_cons_succ, i64_w, i32_w]
                rfl
              refine pure_ (i := 7) (N := some 64) (v := ?_) (a' := ?_) #[true, true, true, false, false, true, true, true, false, false] rfl rfl (by kernel_rfl) (fun _ _ _ h => h) (Or.inl ⟨by rfl, ?_⟩) ?_ ?_
              rotate_left
              · intro w'
                go_simp
                with_reducible rfl
              rotate_left
              · simp only [Act.put, List.setIfInBounds_toArray, List.set_cons_zero, List.set_cons_succ, i64_w, i32_w]
                rfl
              refine take_ (i := 8) (N := some 65) (v := ?_) (a' := ?_) #[true, true, true, false, false, true, true, true, true, false] rfl rfl (by kernel_rfl) (fun _ _ _ h => h) (Or.inl ⟨by rfl, ?_⟩) hHeld ?_ ?_
              rotate_left
              · rintro w' ⟨s0, s1⟩
                go_simp
                with_reducible rfl
              rotate_left
              · simp only [Act.put, List.setIfInBounds_toArray, List.set_cons_zero, List.set_cons_succ, i64_w, i32_w]
                rfl
              refine one_ (i := 3) (N := some 60) #[true, true, true, true, false, true, true, true, true, false] rfl rfl (by kernel_rfl) (by decide) (fun K hK => ?_)
              refine goes_ Try.func13 (by kernel_rfl) rfl #[.pointer (some ⟨w1.heap.size, 0, none⟩), .int .i64 id] (by rfl) rfl rfl (by simp only [List.map_toArray, List.map_cons, List.map_nil]; rfl) ?_
              with_reducible refine (DR).mono ?_
              rintro e w5 ⟨rfl, kv', vv', h5, m5⟩
              refine ⟨_, rfl, ?_⟩
              refine hK.out _ _ ⟨(blk_cell (hMV.out kv' vv' w5 m5).2.2 1).trans rfl, ((hMV.out kv' vv' w5 m5).1.cell id hx0' hx1).1.trans (by rw [HBB.out])⟩ (fun hHeld => ?_)
              clear hK K
              refine norm_ (a' := ?_) ?_ ?_
              rotate_left
              · show Act.put _ (some 60) _ = _
                simp only [Act.put, List.setIfInBounds_toArray, List.set_cons_zero, List.set_cons_succ, i64_w, i32_w]
                rfl
              refine pure_ (i := 4) (N := some 61) (v := ?_) (a' := ?_) #[true, true, true, true, true, true, true, true, true, false] rfl rfl (by kernel_rfl) (fun _ _ _ h => h) (Or.inl ⟨by rfl, ?_⟩) ?_ ?_
              rotate_left
              · intro w'
                go_simp
                with_reducible rfl
              rotate_left
              · simp only [Act.put, List.setIfInBounds_toArray, List.set_cons_zero, List.set_cons_succ, i64_w, i32_w]
                rfl
              refine pure_ (i := 9) (N := some 66) (v := ?_) (a' := ?_) #[true, true, true, true, true, true, true, true, true, true] rfl rfl (by kernel_rfl) (fun _ _ _ h => h) (Or.inl ⟨by rfl, ?_⟩) ?_ ?_
              rotate_left
              · intro w'
                go_simp
                with_reducible rfl
              rotate_left
              · simp only [Act.put, List.setIfInBounds_toArray, List.set_cons_zero, List.set_cons_succ, i64_w, i32_w]
                rfl
              refine done_ (by kernel_rfl) ?_
              obtain ⟨c4, c5⟩ := (hMV.out kv' vv' w5 m5).1.cell id hx0' hx1
              rw [HBB.out] at c4
              obtain ⟨TT, h7, hlen⟩ := ow_less h5 st1 st2 hok2 hsz hn1 hn2 hx0' hx1 HBB.out HKS.out (hMV.out kv' vv' w5 m5).1 (hMV.out kv' vv' w5 m5).2.1 HW3.out
              have LN := rk_LenAt (n := (ks.length : Int) - 1) h7 (by omega) hlen
              have TTT := Aside0.mk TT
              have hpos : (1 : Int) ≤ (ks.length : Int) := by have := posK_lt HBB.out; omega
              have hpos2 : (0 : Int) ≤ (ks.length : Int) - 1 := by omega
              obtain ⟨r1, r2⟩ := hHeld
              clear DR h5 m5 TT h7 hlen
              go_wp2_with (go_at_call 16; (with_reducible refine LN.mono ?_); rintro e w7 ⟨rfl, hw7⟩; obtain rfl := hw7.symm)
              exact ⟨⟨_, j + 1, by omega, rfl, by simp, TTT⟩, by simp [intOf]; omega⟩
            · have hb : ks.contains id = false := by simpa using hb
              have he : erK ks id = 30 := by unfold erK; rw [if_neg (by rw [hb]; decide)]
              have hd1 : dropK ks id = ks := by unfold dropK; rw [if_neg (by rw [hb]; decide)]
              have hd2 : dropV ks vs id = vs := by unfold dropV; rw [if_neg (by rw [hb]; decide)]
              rw [he, hd1, hd2] at DR
              rw [hb] at c1
              have HBF := Aside0.mk hb
              clear he hb hd1 hd2
              refine start_ (n := 10) (S := fun w' => (w'.cell? ⟨wr.heap.size, 1, none⟩ = some (.int .i64 id)) ∧ (w'.cell? ⟨w3.heap.size, id.toNat, none⟩ = some (.bool false))) (ds := []) #[false, false, false, false, false, false, false, false, false, false] (by kernel_rfl) rfl rfl ⟨(blk_cell HA1.out 1).trans rfl, c1⟩ (fun hHeld => ?_)
              refine pure_ (i := 0) (N := some 57) (v := ?_) (a' := ?_) #[true, false, false, false, false, false, false, false, false, false] rfl rfl (by kernel_rfl) (fun _ _ _ h => h) (Or.inl ⟨by rfl, ?_⟩) ?_ ?_
              rotate_left
              · intro w'
                go_simp
                with_reducible rfl
              rotate_left
              · simp only [Act.put, List.setIfInBounds_toArray, List.set_cons_zero, List.set_cons_succ, i64_w, i32_w]
                rfl
              refine pure_ (i := 1) (N := some 58) (v := ?_) (a' := ?_) #[true, true, false, false, false, false, false, false, false, false] rfl rfl (by kernel_rfl) (fun _ _ _ h => h) (Or.inl ⟨by rfl, ?_⟩) ?_ ?_
              rotate_left
              · intro w'
                go_simp
                with_reducible rfl
              rotate_left
              · simp only [Act.put, List.setIfInBounds_toArray, List.set_cons_zero, List.set_cons_succ, i64_w, i32_w]
                rfl
              refine pure_ (i := 5) (N := some 62) (v := ?_) (a' := ?_) #[true, true, false, false, false, true, false, false, false, false] rfl rfl (by kernel_rfl) (fun _ _ _ h => h) (Or.inl ⟨by rfl, ?_⟩) ?_ ?_
              rotate_left
              · intro w'
                go_simp
                with_reducible rfl
              rotate_left
              · simp only [Act.put, List.setIfInBounds_toArray, List.set_cons_zero, List.set_cons_succ, i64_w, i32_w]
                rfl
              refine take_ (i := 2) (N := some 59) (v := ?_) (a' := ?_) #[true, true, true, false, false, true, false, false, false, false] rfl rfl (by kernel_rfl) (fun _ _ _ h => h) (Or.inl ⟨by rfl, ?_⟩) hHeld ?_ ?_
              rotate_left
              · rintro w' ⟨s0, s1⟩
                go_simp
                with_reducible rfl
              rotate_left
              · simp only [Act.put, List.setIfInBounds_toArray, List.set_cons_zero, List.set_cons_succ, i64_w, i32_w]
                rfl
              refine take_ (i := 6) (N := some 63) (v := ?_) (a' := ?_) #[true, true, true, false, false, true, true, false, false, false] rfl rfl (by kernel_rfl) (fun _ _ _ h => h) (Or.inl ⟨by rfl, ?_⟩) hHeld ?_ ?_
              rotate_left
              · rintro w' ⟨s0, s1⟩
                go_simp
                with_reducible rfl
              rotate_left
              · simp only [Act.put, List.setIfInBounds_toArray, List.set_cons_zero, List.set_cons_succ, i64_w, i32_w]
                rfl
              refine pure_ (i := 7) (N := some 64) (v := ?_) (a' := ?_) #[true, true, true, false, false, true, true, true, false, false] rfl rfl (by kernel_rfl) (fun _ _ _ h => h) (Or.inl ⟨by rfl, ?_⟩) ?_ ?_
              rotate_left
              · intro w'
                go_simp
                with_reducible rfl
              rotate_left
              · simp only [Act.put, List.setIfInBounds_toArray, List.set_cons_zero, List.set_cons_succ, i64_w, i32_w]
                rfl
              refine take_ (i := 8) (N := some 65) (v := ?_) (a' := ?_) #[true, true, true, false, false, true, true, true, true, false] rfl rfl (by kernel_rfl) (fun _ _ _ h => h) (Or.inl ⟨by rfl, ?_⟩) hHeld ?_ ?_
              rotate_left
              · rintro w' ⟨s0, s1⟩
                go_simp
                with_reducible rfl
              rotate_left
              · simp only [Act.put, List.setIfInBounds_toArray, List.set_cons_zero, List.set_cons_succ, i64_w, i32_w]
                rfl
              refine one_ (i := 3) (N := some 60) #[true, true, true, true, false, true, true, true, true, false] rfl rfl (by kernel_rfl) (by decide) (fun K hK => ?_)
              refine goes_ Try.func13 (by kernel_rfl) rfl #[.pointer (some ⟨w1.heap.size, 0, none⟩), .int .i64 id] (by rfl) rfl rfl (by simp only [List.map_toArray, List.map_cons, List.map_nil]; rfl) ?_
              with_reducible refine (DR).mono ?_
              rintro e w5 ⟨rfl, kv', vv', h5, m5⟩
              refine ⟨_, rfl, ?_⟩
              refine hK.out _ _ ⟨(blk_cell (hMV.out kv' vv' w5 m5).2.2 1).trans rfl, ((hMV.out kv' vv' w5 m5).1.cell id hx0' hx1).1.trans (by rw [HBF.out])⟩ (fun hHeld => ?_)
              clear hK K
              refine norm_ (a' := ?_) ?_ ?_
              rotate_left
              · show Act.put _ (some 60) _ = _
                simp only [Act.put, List.setIfInBounds_toArray, List.set_cons_zero, List.set_cons_succ, i64_w, i32_w]
                rfl
              refine pure_ (i := 4) (N := some 61) (v := ?_) (a' := ?_) #[true, true, true, true, true, true, true, true, true, false] rfl rfl (by kernel_rfl) (fun _ _ _ h => h) (Or.inl ⟨by rfl, ?_⟩) ?_ ?_
              rotate_left
              · intro w'
                go_simp
                with_reducible rfl
              rotate_left
              · simp only [Act.put, List.setIfInBounds_toArray, List.set_cons_zero, List.set_cons_succ, i64_w, i32_w]
                rfl
              refine pure_ (i := 9) (N := some 66) (v := ?_) (a' := ?_) #[true, true, true, true, true, true, true, true, true, true] rfl rfl (by kernel_rfl) (fun _ _ _ h => h) (Or.inl ⟨by rfl, ?_⟩) ?_ ?_
              rotate_left
              · intro w'
                go_simp
                with_reducible rfl
              rotate_left
              · simp only [Act.put, List.setIfInBounds_toArray, List.set_cons_zero, List.set_cons_succ, i64_w, i32_w]
                rfl
              refine done_ (by kernel_rfl) ?_
              have LN := rk_LenAt (n := (ks.length : Int)) h5 (by omega) rfl
              have TT := Aside0.mk (ow_same h5 st1 st2 hok2 hsz hn1 hn2 HKS.out (hMV.out kv' vv' w5 m5).1 (hMV.out kv' vv' w5 m5).2.1)
              obtain ⟨r1, r2⟩ := hHeld
              clear DR h5 m5
              go_wp2_with (go_at_call 16; (with_reducible refine LN.mono ?_); rintro e w7 ⟨rfl, hw7⟩; obtain rfl := hw7.symm)
              exact ⟨⟨_, j + 1, by omega, rfl, by simp, TT⟩, by simp [intOf]; omega⟩
        · have p1 : decide ((j : Int) < (l.length : Int)) = false := decide_eq_false (by omega)
          obtain ⟨kv, vv, ks, vs, next, step, st1, st2, hr, hok2, hsz, hn1, hn2, hks, hma, hT, hV⟩ := ht.out.it
          obtain rfl := hma
          have GT := fun (q : Nat) (nd : Nat) => rk_Get (hr.below (pw_below_drewN (Below.refl _ _) nd)) hok2 (by omega) (q : Int)
          have HB := Aside0.mk (nlb2 hw1 hr.hB)
          have HGT := Aside0.mk GT
          have HT := Aside0.mk hT
          have HV := Aside0.mk hV
          clear hr hks hok2 hT hV GT ht
          go_wp2_with fail
          go_loopw [18] (fun v wr2 => ∃ q : Nat, q ≤ 1000 ∧ v = .int .i64 (q : Int) ∧ ∃ nd, wr2 = wr.drewN nd) (fun v _ => 1000 - (intOf v).toNat)
          case atStart => exact ⟨0, by omega, rfl, 0, rfl⟩
          case round =>
            obtain ⟨q, hq, rfl, nd, rfl⟩ := hrel
            by_cases hql : q < 1000
            · have z1 : decide ((q : Int) < 1000) = true := decide_eq_true (by omega)
              have G := HGT.out q nd
              obtain ⟨c1, c2⟩ := HT.out.cell (q : Int) (by omega) (by omega)
              obtain ⟨x, c3, c4, c5⟩ := HV.out.cell (q : Int) (by omega) (by omega)
              rw [Int.toNat_natCast] at c1 c2 c3 c4
              by_cases hb : ks.contains (q : Int) = true
              · have he : erK ks (q : Int) = 0 := by unfold erK; rw [if_pos hb]
                have hx := c5 hb
                rw [he, ← hx] at G
                rw [hb] at c1
                clear he hx c5 hb
                go_wp2_with (go_at_call 14; (with_reducible refine G.mono ?_); rintro e w5 ⟨rfl, ⟨m, rfl⟩⟩)
                exact ⟨⟨q + 1, by omega, by simp, nd + m, by simp⟩, by simp [intOf]; omega⟩
              · have hb : ks.contains (q : Int) = false := by simpa using hb
                have he : erK ks (q : Int) = 30 := by unfold erK; rw [if_neg (by rw [hb]; decide)]
                rw [he] at G
                rw [hb] at c1
                clear he hb c5
                generalize getV ks vs (q : Int) = y at G
                go_wp2_with (go_at_call 14; (with_reducible refine G.mono ?_); rintro e w5 ⟨rfl, ⟨m, rfl⟩⟩)
                exact ⟨⟨q + 1, by omega, by simp, nd + m, by simp⟩, by simp [intOf]; omega⟩
            · have z1 : decide ((q : Int) < 1000) = false := decide_eq_false (by omega)
              go_wp2_with fail
              go_ret
              exact ⟨rfl, nlb2 HB.out (pw_below_drewN (Below.refl _ _) nd)⟩
end Go.Proofs.Ytnlckandbgpncaa.P
