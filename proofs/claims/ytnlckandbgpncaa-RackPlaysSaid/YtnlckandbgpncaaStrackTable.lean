-- Laid by sp.py, a program of this session's, out of the translation and the session's own stand-ins.
import Derived.Test.YtnlckandbgpncaaPx0
import Derived.Test.YtnlckandbgpncaaStins
import Derived.Test.YtnlckandbgpncaaShelf
import Derived.Test.YtnlckandbgpncaaStins
namespace Go.Proofs.Ytnlckandbgpncaa.P
open Go.RowKit Go.Proofs.YtnlckandbgpncaaW.PrintWords Go.Proofs.YtnlckandbgpncaaW.PrintLast Go.Proofs.YtnlckandbgpncaaW.PrintMore
attribute [local go_sem] max2_int min2_int max_two min_two max_three min_three max_four min_four   -- for this text's walks alone
set_option linter.unusedVariables false
set_option linter.unusedSimpArgs false
set_option linter.unnecessarySimpa false

/-! ### rack's table: get, put, drop: rows of the call's own -/
theorem own_form {W : World} {base : Nat} {v : Value} {xs : List Int} (h : W.ownsRow base 3 1 v xs.length (nums .i64 xs)) : (v = .slice none 0 0 ∧ xs = []) ∨ ∃ g cap cur, v = .slice (some ⟨g, 0, none⟩) xs.length cap ∧ base ≤ g ∧ W.heap[g]? = some (.cells cur 3 (0, 0)) ∧ xs.length ≤ cap ∧ cap ≤ maxLen ∧ cur.size = cap ∧ cur.toList.take xs.length = nums .i64 xs ∧ ∀ j, j < xs.length → W.cell? ⟨g, 0 + j, none⟩ = some (.int .i64 (xs.getD j 0)) := by
  obtain ⟨hlen, hrest⟩ := h
  rcases hrest with ⟨rfl, h0⟩ | ⟨g, cap, cur, rfl, hg, hh, hnc, hcm, hsz, htk⟩
  · exact .inl ⟨rfl, List.eq_nil_of_length_eq_zero h0⟩
  · rw [Nat.mul_one] at hsz htk
    refine .inr ⟨g, cap, cur, rfl, hg, hh, hnc, hcm, hsz, htk, fun j hj => cells_take hh htk j _ ?_⟩
    unfold nums
    rw [List.getElem?_map, List.getElem?_eq_getElem hj, List.getD_eq_getElem?_getD, List.getElem?_eq_getElem hj]
    rfl
theorem bs_own (W : World) (base : Nat) (v : Value) (xs : List Int) (x : Int) (hR : W.ownsRow base 3 1 v xs.length (nums .i64 xs)) (hl : xs.length ≤ 1000) (hs : xs.Pairwise (· ≤ ·)) :
    Calls Try.prog 33 #[v, .int .i64 x] W fun e W' => e = .returned (.tuple #[.int .i64 ((xs.countP (· < x) : Nat) : Int), .bool (xs.contains x)]) ∧ Drawn0 W W' := by
  rcases own_form hR with ⟨rfl, rfl⟩ | ⟨g, cap, cur, rfl, hg, hh, hnc, hcm, hsz, htk, hc⟩
  · refine (Try.slices_BinarySearch_int_empty none 0 x W).mono ?_
    rintro e W' ⟨rfl, rfl⟩
    exact ⟨rfl, Drawn0.refl _⟩
  · refine (Try.slices_BinarySearch_int g 0 xs.length cap xs x W (Nat.le_refl _) (by omega) hc (by rw [List.take_length]; exact hs)).mono ?_
    rintro e W' ⟨rfl, q, rfl⟩
    rw [List.take_length]
    exact ⟨rfl, q, rfl⟩
theorem own_nb {W : World} {base : Nat} {v : Value} {n : Nat} {xs : List Value} (h : W.ownsRow base 3 1 v n xs) : v.ownBlock ≠ some W.heap.size := fun e => by
  have := own_lt h _ e
  omega
/-- What a delete leaves. -/
def delAt (xs : List Int) (i : Nat) : List Int := xs.take i ++ xs.drop (i + 1)
theorem delAt_length {xs : List Int} {i : Nat} (h : i < xs.length) : (delAt xs i).length = xs.length - 1 := by
  unfold delAt
  simp only [List.length_append, List.length_take, List.length_drop]
  omega
theorem del_own (W : World) (base : Nat) (v : Value) (xs : List Int) (i : Nat) (hR : W.ownsRow base 3 1 v xs.length (nums .i64 xs)) (hi : i < xs.length) :
    Calls Try.prog 35 #[v, .int .i64 (i : Int), .int .i64 ((i : Int) + 1)] W fun e W' => ∃ v', e = .returned v' ∧ RowNow W base v (delAt xs i) W' v' := by
  rcases own_form hR with ⟨_, rfl⟩ | ⟨g, cap, cur, rfl, hg, hh, hnc, hcm, hsz, htk, hc⟩
  · exact absurd hi (Nat.not_lt_zero _)
  · have hD := Try.slices_Delete_int_cells g 0 xs.length cap i (i + 1) xs W (Nat.le_refl _) hnc hcm (Nat.le_succ _) hi hc (fun j _ => blk_frozen hh _)
    rw [show (((i + 1 : Nat) : Int)) = (i : Int) + 1 by omega] at hD
    refine hD.mono ?_
    rintro e W' ⟨rfl, q, rfl⟩
    rw [List.take_length, show i + 1 - i = 1 by omega]
    have hh2 : (W.drewN q).heap[g]? = some (.cells cur 3 (0, 0)) := hh
    have g1 := grown_setCells (g := g) ((xs.take i ++ xs.drop (i + 1) ++ List.replicate 1 0).map (Value.int .i64)) (W := W.drewN q) 0
    refine ⟨_, rfl, own_mk (blk_setCells _ _ hh2) hg (delAt_length hi) (by omega) hcm (by rw [layArr_size]; exact hsz) ?_, ⟨g1.os, g1.tape, g1.output, g1.size, g1.block⟩, .inl rfl⟩
    have hlen : ((xs.take i ++ xs.drop (i + 1) ++ List.replicate 1 0).map (Value.int .i64)).length = xs.length := by simp; omega
    rw [layArr_list _ _ _ (by rw [hlen]; omega), hlen]
    have e : (xs.take i ++ xs.drop (i + 1) ++ List.replicate 1 0).map (Value.int .i64) = nums .i64 (delAt xs i) ++ [.int .i64 0] := by simp [nums, delAt]
    rw [e, List.take_zero, List.nil_append, List.append_assoc, List.take_left' (by rw [nums_length]; exact delAt_length hi)]
/-! #### a rack: a block, and two rows -/
structure RkRaw (w0 : World) (R : Nat) (kv vv : Value) (ks vs : List Int) (size next step : Int) (W : World) : Prop where
  le : w0.heap.size ≤ R
  blk : W.heap[R]? = some (.cells #[kv, vv, .int .i64 size, .int .i64 next, .int .i64 step] 42 (0, 0))
  hk : W.ownsRow w0.heap.size 3 1 kv ks.length (nums .i64 ks)
  hv : W.ownsRow w0.heap.size 3 1 vv vs.length (nums .i64 vs)
  ap : ∀ k, kv.ownBlock = some k → vv.ownBlock ≠ some k
  hB : Below w0.heap.size w0 W
/-- What a change of a rack leaves. -/
structure RkMv (R : Nat) (kv vv : Value) (W W' : World) : Prop where
  size : W.heap.size ≤ W'.heap.size
  keep : ∀ j, j < W.heap.size → j ≠ R → some j ≠ kv.ownBlock → some j ≠ vv.ownBlock → W'.heap[j]? = W.heap[j]?
theorem RkMv.refl (R : Nat) (kv vv : Value) (W : World) : RkMv R kv vv W W := ⟨Nat.le_refl _, fun _ _ _ _ _ => rfl⟩
theorem RkMv.of_below {R : Nat} {kv vv : Value} {W W' : World} (h : Below W.heap.size W W') : RkMv R kv vv W W' := ⟨h.size, fun j hj _ _ _ => h.block j hj⟩
theorem RkMv.below {R : Nat} {kv vv : Value} {W W1 W2 : World} (h : RkMv R kv vv W W1) (hb : Below W1.heap.size W1 W2) : RkMv R kv vv W W2 :=
  ⟨Nat.le_trans h.size hb.size, fun j hj h1 h2 h3 => (hb.block j (Nat.lt_of_lt_of_le hj h.size)).trans (h.keep j hj h1 h2 h3)⟩
theorem RkMv.after {R : Nat} {kv vv : Value} {W W1 W2 : World} (hb : Below W.heap.size W W1) (h : RkMv R kv vv W1 W2) : RkMv R kv vv W W2 :=
  ⟨Nat.le_trans hb.size h.size, fun j hj h1 h2 h3 => (h.keep j (Nat.lt_of_lt_of_le hj hb.size) h1 h2 h3).trans (hb.block j hj)⟩
section
variable {w0 : World} {R : Nat} {kv vv : Value} {ks vs : List Int} {size next step : Int} {W : World}
theorem RkRaw.lt (h : RkRaw w0 R kv vv ks vs size next step W) : R < W.heap.size := blk_lt h.blk
theorem RkRaw.nek (h : RkRaw w0 R kv vv ks vs size next step W) : some R ≠ kv.ownBlock := own_ne h.hk h.blk (by decide)
theorem RkRaw.nev (h : RkRaw w0 R kv vv ks vs size next step W) : some R ≠ vv.ownBlock := own_ne h.hv h.blk (by decide)
theorem RkRaw.below {W' : World} (h : RkRaw w0 R kv vv ks vs size next step W) (hb : Below W.heap.size W W') : RkRaw w0 R kv vv ks vs size next step W' :=
  ⟨h.le, (hb.block R h.lt).trans h.blk, pw_own_below h.hk hb, pw_own_below h.hv hb, h.ap, h.hB.trans ⟨hb.os, hb.tape, hb.output, hb.size, fun j hj => hb.block j (Nat.lt_of_lt_of_le hj h.hB.size)⟩⟩
theorem RkRaw.keys {W2 : World} {kv' : Value} {ks' : List Int} (h : RkRaw w0 R kv vv ks vs size next step W) (n : RowNow W w0.heap.size kv ks' W2 kv') : RkRaw w0 R kv' vv ks' vs size next step (W2.setCell ⟨R, 0, none⟩ kv') ∧ RkMv R kv vv W (W2.setCell ⟨R, 0, none⟩ kv') := by
  have hb2 : W2.heap[R]? = _ := (n.grown.block R h.lt h.nek).trans h.blk
  have hv2 : W2.ownsRow w0.heap.size 3 1 vv vs.length (nums .i64 vs) := h.hv.kept n.grown (by
    cases hvo : vv.ownBlock with
    | none => exact .inl rfl
    | some k => exact .inr (fun e => h.ap k e.symm hvo))
  have hkb := own_base h.hk
  have hB2 : Below w0.heap.size w0 W2 := pw_below_grown h.hB _ h.hB.size n.grown (fun k e => hkb k e)
  have nek' : some R ≠ kv'.ownBlock := own_ne n.own hb2 (by decide)
  refine ⟨⟨h.le, ?_, own_setCell n.own nek' _, own_setCell hv2 h.nev _, ?_, hB2.setCell h.le _⟩, ⟨?_, ?_⟩⟩
  · have := blk_set hb2 0 kv'
    exact this
  · intro k hk hv
    rcases n.at_ with e | ⟨b, e, hb⟩
    · exact h.ap k (e ▸ hk) hv
    · have e2 : b = k := Option.some.inj (e.symm.trans hk)
      have := own_lt h.hv k hv
      omega
  · simpa [World.setCell] using n.grown.size
  · intro j hj h1 h2 _
    exact (Below.heap_setCell W2 ⟨R, 0, none⟩ kv' j h1).trans (n.grown.block j hj h2)
theorem RkRaw.vals {W2 : World} {vv' : Value} {vs' : List Int} (h : RkRaw w0 R kv vv ks vs size next step W) (n : RowNow W w0.heap.size vv vs' W2 vv') : RkRaw w0 R kv vv' ks vs' size next step (W2.setCell ⟨R, 1, none⟩ vv') ∧ RkMv R kv vv W (W2.setCell ⟨R, 1, none⟩ vv') := by
  have hb2 : W2.heap[R]? = _ := (n.grown.block R h.lt h.nev).trans h.blk
  have hk2 : W2.ownsRow w0.heap.size 3 1 kv ks.length (nums .i64 ks) := h.hk.kept n.grown (by
    cases hko : kv.ownBlock with
    | none => exact .inl rfl
    | some k => exact .inr (fun e => h.ap k hko e.symm))
  have hvb := own_base h.hv
  have hB2 : Below w0.heap.size w0 W2 := pw_below_grown h.hB _ h.hB.size n.grown (fun k e => hvb k e)
  have nev' : some R ≠ vv'.ownBlock := own_ne n.own hb2 (by decide)
  refine ⟨⟨h.le, ?_, own_setCell hk2 h.nek _, own_setCell n.own nev' _, ?_, hB2.setCell h.le _⟩, ⟨?_, ?_⟩⟩
  · have := blk_set hb2 1 vv'
    exact this
  · intro k hk hv
    rcases n.at_ with e | ⟨b, e, hb⟩
    · exact h.ap k hk (e ▸ hv)
    · have e2 : b = k := Option.some.inj (e.symm.trans hv)
      have := own_lt h.hk k hk
      omega
  · simpa [World.setCell] using n.grown.size
  · intro j hj h1 _ h3
    exact (Below.heap_setCell W2 ⟨R, 1, none⟩ vv' j h1).trans (n.grown.block j hj h3)
theorem RkRaw.nums_ (h : RkRaw w0 R kv vv ks vs size next step W) (j : Nat) (hj : j = 2 ∨ j = 3 ∨ j = 4) (x : Int) : RkRaw w0 R kv vv ks vs (if j = 2 then x else size) (if j = 3 then x else next) (if j = 4 then x else step) (W.setCell ⟨R, j, none⟩ (.int .i64 x)) := by
  refine ⟨h.le, ?_, own_setCell h.hk h.nek _, own_setCell h.hv h.nev _, h.ap, h.hB.setCell h.le _⟩
  have := blk_set h.blk j (.int .i64 x)
  rcases hj with rfl | rfl | rfl <;> simpa using this
end
/-- Where a key stands, or would. -/
def posK (ks : List Int) (k : Int) : Nat := ks.countP (· < k)
theorem posK_le (ks : List Int) (k : Int) : posK ks k ≤ ks.length := List.countP_le_length
theorem posK_lt {ks : List Int} {k : Int} (h : ks.contains k = true) : posK ks k < ks.length := by
  unfold posK
  rw [List.contains_iff_mem] at h
  rcases Nat.lt_or_ge (ks.countP (· < k)) ks.length with h1 | h1
  · exact h1
  · have h2 : ks.countP (· < k) = ks.length := Nat.le_antisymm List.countP_le_length h1
    have h3 := List.countP_eq_length.1 h2 k h
    simp at h3
def getV (ks vs : List Int) (k : Int) : Int := if ks.contains k = true then vs.getD (posK ks k) 0 else 0
structure TbOk (ks vs : List Int) : Prop where
  sorted : ks.Pairwise (· < ·)
  len : ks.length = vs.length
  most : ks.length ≤ 100
theorem TbOk.le {ks vs : List Int} (h : TbOk ks vs) : ks.Pairwise (· ≤ ·) := h.sorted.imp (fun h => Int.le_of_lt h)
set_option maxHeartbeats 4000000 in
theorem tb_get (w0 : World) (R : Nat) (kv vv : Value) (ks vs : List Int) (size next step : Int) (W : World) (h : RkRaw w0 R kv vv ks vs size next step W) (ok : TbOk ks vs) (k : Int) :
    Calls Try.prog 28 #[.pointer (some ⟨R, 0, none⟩), .int .i64 k] W fun e W' => e = .returned (.tuple #[.int .i64 (getV ks vs k), .bool (ks.contains k)]) ∧ Drawn0 W W' := by
  have c0 := blk_cell h.blk 0
  have c1 := blk_cell h.blk 1
  simp at c0 c1
  have B := bs_own W _ kv ks k h.hk (by have := ok.most; omega) ok.le
  have hlt := @posK_lt ks k
  have hgv : getV ks vs k = if ks.contains k = true then vs.getD (posK ks k) 0 else 0 := rfl
  rw [hgv]
  change Calls _ _ _ _ (fun e W' => e = .returned (.tuple #[.int .i64 ((posK ks k : Nat) : Int), .bool (ks.contains k)]) ∧ Drawn0 W W') at B
  have hv := own_form h.hv
  have hvl := ok.len
  generalize ks.contains k = b at *
  generalize posK ks k = p at *
  have HV := Aside0.mk hv
  have HL := Aside0.mk hvl
  clear hv hgv hvl
  cases b with
  | false =>
    clear hlt
    go_enter Try.func28, Try.ntmps28
    go_wp2_with (go_at_call 33; refine B.mono ?_; rintro e w1 ⟨rfl, hd⟩)
    go_ret2
    exact ⟨rfl, hd⟩
  | true =>
    have hlt := hlt rfl
    rcases HV.out with ⟨_, rfl⟩ | ⟨g, cap, cur, rfl, hg, hh, hnc, hcm, hsz, htk, hc⟩
    · have := HL.out
      simp only [List.length_nil] at this
      omega
    · have hp : p < vs.length := by rw [← HL.out]; exact hlt
      have hcp := hc p hp
      rw [Nat.zero_add] at hcp
      have HC := Aside0.mk hcp
      have HH := Aside0.mk h
      clear hc htk hsz hcp hh
      go_enter Try.func28, Try.ntmps28
      go_wp2_with (go_at_call 33; refine B.mono ?_; rintro e w1 ⟨rfl, hd⟩; have d1 := pw_cell_below hd.below c1; have dp := pw_cell_below hd.below HC.out)
      go_ret2
      exact ⟨rfl, hd⟩
/-- Put: what becomes of keys and values. -/
def putK (ks : List Int) (k : Int) : List Int := if ks.contains k = true then ks else insAt ks (posK ks k) k
def putV (ks vs : List Int) (k v : Int) : List Int := if ks.contains k = true then vs.set (posK ks k) v else insAt vs (posK ks k) v
theorem getD_set_own {W : World} {g cap : Nat} {cur : Array Value} {base : Nat} {vs : List Int} {p : Nat} (v : Int) (hg : base ≤ g) (hh : W.heap[g]? = some (.cells cur 3 (0, 0))) (hnc : vs.length ≤ cap) (hcm : cap ≤ maxLen) (hsz : cur.size = cap) (htk : cur.toList.take vs.length = nums .i64 vs) (hp : p < vs.length) : RowNow W base (.slice (some ⟨g, 0, none⟩) vs.length cap) (vs.set p v) (W.setCell ⟨g, p, none⟩ (.int .i64 v)) (.slice (some ⟨g, 0, none⟩) vs.length cap) := by
  refine ⟨own_mk (blk_set hh p _) hg (by rw [List.length_set]) hnc hcm (by simp [hsz]) ?_, grown_setCells [.int .i64 v] p, .inl rfl⟩
  rw [Array.toList_setIfInBounds, List.take_set, htk]
  unfold nums
  rw [List.map_set]
set_option maxHeartbeats 8000000 in
theorem tb_put (w0 : World) (R : Nat) (kv vv : Value) (ks vs : List Int) (size next step : Int) (W : World) (h : RkRaw w0 R kv vv ks vs size next step W) (ok : TbOk ks vs) (k v : Int) :
    Calls Try.prog 29 #[.pointer (some ⟨R, 0, none⟩), .int .i64 k, .int .i64 v] W fun e W' => e = .returned (.tuple #[]) ∧ ∃ kv' vv', RkRaw w0 R kv' vv' (putK ks k) (putV ks vs k v) size next step W' ∧ RkMv R kv vv W W' := by
  have c0 := blk_cell h.blk 0
  have c1 := blk_cell h.blk 1
  have f1 := blk_frozen h.blk 1
  simp at c0 c1
  have B := bs_own W _ kv ks k h.hk (by have := ok.most; omega) ok.le
  change Calls _ _ _ _ (fun e W' => e = .returned (.tuple #[.int .i64 ((posK ks k : Nat) : Int), .bool (ks.contains k)]) ∧ Drawn0 W W') at B
  have hle := posK_le ks k
  have hlt := @posK_lt ks k
  have HP := Aside0.mk (show putK ks k = if ks.contains k = true then ks else insAt ks (posK ks k) k from rfl)
  have HQ := Aside0.mk (show putV ks vs k v = if ks.contains k = true then vs.set (posK ks k) v else insAt vs (posK ks k) v from rfl)
  have hml := ok.most
  have hln := ok.len
  generalize ks.contains k = b at *
  generalize posK ks k = p at *
  cases b with
  | true =>
    have hlt := hlt rfl
    rcases own_form h.hv with ⟨_, rfl⟩ | ⟨g, cap, cur, rfl, hg, hh, hnc, hcm, hsz, htk, hc⟩
    · simp only [List.length_nil] at hln
      omega
    · have hp : p < vs.length := by omega
      have hcp := hc p hp
      rw [Nat.zero_add] at hcp
      have hfp := blk_frozen hh p
      have hgR : g ≠ R := fun e => h.nev (by rw [← e]; rfl)
      have HC := Aside0.mk (And.intro hcp hfp)
      have HH := Aside0.mk h
      have HE := Aside0.mk (fun (W1 : World) (h1 : W1.heap[g]? = some (.cells cur 3 (0, 0))) => getD_set_own (base := w0.heap.size) (p := p) v hg h1 hnc hcm hsz htk hp)
      have HHH := Aside0.mk hh
      have HHN := Aside0.mk hln
      clear hc htk hsz hcp hh hfp hln
      go_enter Try.func29, Try.ntmps29
      go_wp2_with (go_at_call 33; refine B.mono ?_; rintro e w1 ⟨rfl, hd⟩; have d1 := pw_cell_below hd.below c1; have dp := pw_cell_below hd.below HC.out.1; have h1 := HH.out.below hd.below; have hh1 := (hd.below.block g (blk_lt HHH.out)).trans HHH.out; have fp := blk_frozen hh1 p)
      refine bodyPost_ret (results_none rfl _ _ _) rfl ?_
      have n := HE.out w1 hh1
      refine ⟨rfl, kv, .slice (some ⟨g, 0, none⟩) vs.length cap, ?_, ?_⟩
      · rw [HP.out, HQ.out]
        simp only [if_true]
        have hb2 := (n.grown.block R h1.lt h1.nev).trans h1.blk
        have hk2 : (w1.setCell ⟨g, p, none⟩ (.int .i64 v)).ownsRow w0.heap.size 3 1 kv ks.length (nums .i64 ks) := own_setCell h1.hk (fun e => h1.ap g e.symm rfl) _
        exact ⟨h1.le, hb2, hk2, by have := n.own; rwa [List.length_set] at this ⊢, h1.ap, pw_below_grown h1.hB _ h1.hB.size n.grown (fun k e => by cases e; exact hg)⟩
      · exact RkMv.after hd.below ⟨n.grown.size, fun j hj _ _ h3 => n.grown.block j hj h3⟩
  | false =>
    clear hlt
    obtain ⟨Ak, ck, ev⟩ := own_slice h.hk
    subst ev
    obtain ⟨Av, cv, ev⟩ := own_slice h.hv
    subst ev
    have HH := Aside0.mk h
    have HN := Aside0.mk hln
    clear hln
    go_enter Try.func29, Try.ntmps29
    go_wp2_with (first | (go_at_call 33; refine B.mono ?_; rintro e w1 ⟨rfl, hd⟩; have h1 := HH.out.below hd.below; have hA := below_alloc (Below.refl _ w1) (.cells #[.int .i64 k] 3); have hb1 := heap_alloc_new w1 (.cells #[.int .i64 k] 3); have h1a := h1.below hA; have g0 := blk_cell h1.blk 0; have I1 := ins_own _ _ _ ks p k h1a.hk hle (by omega) w1.heap.size hb1 (own_nb h1.hk) h1a.hB.size; clear hb1) | (go_at_call 34; (with_reducible refine I1.mono ?_); rintro e w2 ⟨kv', rfl, n1⟩; obtain ⟨Ak', ck', ev⟩ := own_slice n1.own; subst ev; have hh2 := h1a.keys n1; have hbw2 := (n1.grown.block R h1a.lt h1a.nek).trans h1a.blk; have g0' := blk_cell hbw2 0; have g1' := blk_cell hbw2 1; have gf0 := blk_frozen hbw2 0; simp at g0' g1'; have hA2 := below_alloc (Below.refl _ (w2.setCell ⟨R, 0, none⟩ (.slice Ak' (insAt ks p k).length ck'))) (.cells #[.int .i64 v] 3); have hb2 := heap_alloc_new (w2.setCell ⟨R, 0, none⟩ (.slice Ak' (insAt ks p k).length ck')) (.cells #[.int .i64 v] 3); have h2a := hh2.1.below hA2; have hse : (w2.setCell ⟨R, 0, none⟩ (.slice Ak' (insAt ks p k).length ck')).heap.size = w2.heap.size := (by simp [World.setCell]); have nb2 := own_nb hh2.1.hv; rw [hse] at hb2 nb2; have I2 := ins_own _ _ _ vs p v h2a.hv (by have := HN.out; omega) (by have := HN.out; omega) _ hb2 nb2 h2a.hB.size; clear hb2 hse nb2) | (go_at_call 34; (with_reducible refine I2.mono ?_); rintro e w3 ⟨vv', rfl, n2⟩; obtain ⟨Av', cv', ev⟩ := own_slice n2.own; subst ev; have hh3 := h2a.vals n2; have hbw3 := (n2.grown.block R h2a.lt h2a.nev).trans h2a.blk; have g3' := blk_cell hbw3 1; have gf3 := blk_frozen hbw3 1; simp at g3'))
    go_end0
    refine ⟨rfl, .slice Ak' (insAt ks p k).length ck', .slice Av' (insAt vs p v).length cv', ?_, ?_⟩
    · rw [HP.out, HQ.out]
      first | rw [if_neg (by decide), if_neg (by decide)] | simp only [if_false]
      exact hh3.1
    · refine RkMv.after hd.below (RkMv.after hA ?_)
      refine ⟨Nat.le_trans hh2.2.size (Nat.le_trans hA2.size hh3.2.size), fun j hj h1 h2 h3 => ?_⟩
      have hj2 := Nat.lt_of_lt_of_le hj hh2.2.size
      refine (hh3.2.keep j (Nat.lt_of_lt_of_le hj2 hA2.size) h1 ?_ h3).trans ((hA2.block j hj2).trans (hh2.2.keep j hj h1 h2 h3))
      rcases n1.at_ with e | ⟨b, e, hb⟩
      · rw [e]
        exact h2
      · rw [e]
        intro e2
        cases e2
        omega
/-- Drop: what becomes of keys and values. -/
def dropK (ks : List Int) (k : Int) : List Int := if ks.contains k = true then delAt ks (posK ks k) else ks
def dropV (ks vs : List Int) (k : Int) : List Int := if ks.contains k = true then delAt vs (posK ks k) else vs
set_option maxHeartbeats 8000000 in
theorem tb_drop (w0 : World) (R : Nat) (kv vv : Value) (ks vs : List Int) (size next step : Int) (W : World) (h : RkRaw w0 R kv vv ks vs size next step W) (ok : TbOk ks vs) (k : Int) :
    Calls Try.prog 30 #[.pointer (some ⟨R, 0, none⟩), .int .i64 k] W fun e W' => e = .returned (.tuple #[]) ∧ ∃ kv' vv', RkRaw w0 R kv' vv' (dropK ks k) (dropV ks vs k) size next step W' ∧ RkMv R kv vv W W' := by
  have c0 := blk_cell h.blk 0
  have c1 := blk_cell h.blk 1
  simp at c0 c1
  have B := bs_own W _ kv ks k h.hk (by have := ok.most; omega) ok.le
  change Calls _ _ _ _ (fun e W' => e = .returned (.tuple #[.int .i64 ((posK ks k : Nat) : Int), .bool (ks.contains k)]) ∧ Drawn0 W W') at B
  have hlt := @posK_lt ks k
  have HP := Aside0.mk (show dropK ks k = if ks.contains k = true then delAt ks (posK ks k) else ks from rfl)
  have HQ := Aside0.mk (show dropV ks vs k = if ks.contains k = true then delAt vs (posK ks k) else vs from rfl)
  have hml := ok.most
  have hln := ok.len
  generalize ks.contains k = b at *
  generalize posK ks k = p at *
  have HN := Aside0.mk hln
  clear hln
  cases b with
  | false =>
    clear hlt
    go_enter Try.func30, Try.ntmps30
    go_wp2_with (go_at_call 33; refine B.mono ?_; rintro e w1 ⟨rfl, hd⟩)
    go_end0
    refine ⟨rfl, kv, vv, ?_, RkMv.of_below hd.below⟩
    rw [HP.out, HQ.out]
    first | rw [if_neg (by decide), if_neg (by decide)] | simp only [if_false]
    exact h.below hd.below
  | true =>
    have hlt := hlt rfl
    obtain ⟨Ak, ck, ev⟩ := own_slice h.hk
    subst ev
    obtain ⟨Av, cv, ev⟩ := own_slice h.hv
    subst ev
    have HH := Aside0.mk h
    go_enter Try.func30, Try.ntmps30
    go_wp2_with (first | (go_at_call 33; refine B.mono ?_; rintro e w1 ⟨rfl, hd⟩; have h1 := HH.out.below hd.below; have g0 := blk_cell h1.blk 0; have I1 := del_own _ _ _ ks p h1.hk hlt) | (go_at_call 35; (with_reducible refine I1.mono ?_); rintro e w2 ⟨kv', rfl, n1⟩; obtain ⟨Ak', ck', ev⟩ := own_slice n1.own; subst ev; have hh2 := h1.keys n1; have hbw2 := (n1.grown.block R h1.lt h1.nek).trans h1.blk; have g0' := blk_cell hbw2 0; have g1' := blk_cell hbw2 1; have gf0 := blk_frozen hbw2 0; simp at g0' g1'; have I2 := del_own _ _ _ vs p hh2.1.hv (by have := HN.out; omega)) | (go_at_call 35; (with_reducible refine I2.mono ?_); rintro e w3 ⟨vv', rfl, n2⟩; obtain ⟨Av', cv', ev⟩ := own_slice n2.own; subst ev; have hh3 := hh2.1.vals n2; have hbw3 := (n2.grown.block R hh2.1.lt hh2.1.nev).trans hh2.1.blk; have g3' := blk_cell hbw3 1; have gf3 := blk_frozen hbw3 1; simp at g3'))
    go_end0
    refine ⟨rfl, .slice Ak' (delAt ks p).length ck', .slice Av' (delAt vs p).length cv', ?_, ?_⟩
    · rw [HP.out, HQ.out]
      first | rw [if_pos rfl, if_pos rfl] | simp only [if_true]
      exact hh3.1
    · refine RkMv.after hd.below ?_
      refine ⟨Nat.le_trans hh2.2.size hh3.2.size, fun j hj h1 h2 h3 => ?_⟩
      have hj2 := Nat.lt_of_lt_of_le hj hh2.2.size
      refine (hh3.2.keep j hj2 h1 ?_ h3).trans (hh2.2.keep j hj h1 h2 h3)
      rcases n1.at_ with e | ⟨b, e, hb⟩
      · rw [e]
        exact h2
      · rw [e]
        intro e2
        cases e2
        omega
theorem tb_len (w0 : World) (R : Nat) (kv vv : Value) (ks vs : List Int) (size next step : Int) (W : World) (h : RkRaw w0 R kv vv ks vs size next step W) :
    Calls Try.prog 27 #[.pointer (some ⟨R, 0, none⟩)] W fun e W' => e = .returned (.int .i64 (ks.length : Int)) ∧ W' = W := by
  have c0 := blk_cell h.blk 0
  obtain ⟨Ak, ck, ev⟩ := own_slice h.hk
  subst ev
  simp at c0
  go_enter Try.func27, Try.ntmps27
  go_wp2_with fail
  go_ret
  exact ⟨rfl, rfl⟩

end Go.Proofs.Ytnlckandbgpncaa.P
