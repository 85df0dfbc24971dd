-- Laid by sp.py, a program of this session's, out of the translation and the session's own stand-ins.
import Derived.Test.YtnlckandbgpncaaPx0
import Derived.Test.YtnlckandbgpncaaShelf
namespace Go.Proofs.Ytnlckandbgpncaa.P
open Go.RowKit Go.Proofs.YtnlckandbgpncaaW.PrintWords Go.Proofs.YtnlckandbgpncaaW.PrintLast Go.Proofs.YtnlckandbgpncaaW.PrintMore
attribute [local go_sem] max2_int min2_int max_two min_two max_three min_three max_four min_four   -- for this text's walks alone
set_option linter.unusedVariables false
set_option linter.unusedSimpArgs false
set_option linter.unnecessarySimpa false

/-! ### slices.Insert at []int: one more into a row of the call's own -/
/-- A row with cells laid anew. -/
def layArr (cur : Array Value) : Nat → List Value → Array Value
  | _, [] => cur
  | o, v :: r => layArr (cur.setIfInBounds o v) (o + 1) r
theorem layArr_list (vs : List Value) : ∀ (cur : Array Value) (o : Nat), o + vs.length ≤ cur.size → (layArr cur o vs).toList = cur.toList.take o ++ vs ++ cur.toList.drop (o + vs.length) := by
  induction vs with
  | nil => intro cur o _; simp [layArr]
  | cons v r ih =>
    intro cur o h
    simp only [List.length_cons] at h
    rw [layArr, ih _ _ (by simp; omega)]
    have hl : o < cur.toList.length := by simp; omega
    simp only [Array.toList_setIfInBounds, List.length_cons]
    rw [List.set_eq_take_append_cons_drop, if_pos hl]
    have e1 : (cur.toList.take o ++ v :: cur.toList.drop (o + 1)).take (o + 1) = cur.toList.take o ++ [v] := by
      rw [List.take_append, List.length_take, Nat.min_eq_left (by omega), List.take_of_length_le (by rw [List.length_take]; omega), show o + 1 - o = 1 by omega]
      simp
    have e2 : (cur.toList.take o ++ v :: cur.toList.drop (o + 1)).drop (o + 1 + r.length) = cur.toList.drop (o + (r.length + 1)) := by
      rw [List.drop_append, List.length_take, Nat.min_eq_left (by omega), List.drop_eq_nil_of_le (by simp; omega), show o + 1 + r.length - o = r.length + 1 by omega]
      simp
      congr 1
      omega
    rw [e1, e2]
    simp
theorem layArr_size (vs : List Value) : ∀ (cur : Array Value) (o : Nat), (layArr cur o vs).size = cur.size := by
  induction vs with
  | nil => intro cur o; rfl
  | cons v r ih => intro cur o; rw [layArr, ih]; simp
theorem blk_setCells {g : Nat} {t : TypeId} (vs : List Value) : ∀ {W : World} {cur : Array Value} (o : Nat), W.heap[g]? = some (.cells cur t (0, 0)) → (W.setCells g o vs).heap[g]? = some (.cells (layArr cur o vs) t (0, 0)) := by
  induction vs with
  | nil => intro W cur o h; exact h
  | cons v r ih => intro W cur o h; exact ih (o + 1) (blk_set h o v)
theorem grown_setCells {g : Nat} (vs : List Value) : ∀ {W : World} (o : Nat), W.grownBy (W.setCells g o vs) (some g) := by
  induction vs with
  | nil => intro W o; exact ⟨rfl, rfl, rfl, Nat.le_refl _, fun _ _ _ => rfl⟩
  | cons v r ih =>
    intro W o
    have h1 := ih (W := W.setCell ⟨g, o, none⟩ v) (o + 1)
    exact ⟨h1.os, h1.tape, h1.output, Nat.le_trans (by simp [World.setCell]) h1.size, fun k hk hne => (h1.block k (by simpa [World.setCell] using hk) hne).trans (Below.heap_setCell W ⟨g, o, none⟩ v k (fun e => hne (by rw [e])))⟩
theorem grown_drew_trans {W W2 : World} {row : Option Nat} (h : W.drew.grownBy W2 row) : W.grownBy W2 row := ⟨h.os, h.tape, h.output, h.size, h.block⟩
theorem nums_get {k : IntKind} {xs : List Int} {j : Nat} {v : Value} (h : (nums k xs)[j]? = some v) : j < xs.length := by
  have := (List.getElem?_eq_some_iff.1 h).1
  rwa [nums_length] at this
theorem nums_one {k : IntKind} {xs : List Int} : ∀ v ∈ nums k xs, v.oneCell' = true := by
  intro v hv
  obtain ⟨x, _, rfl⟩ := List.mem_map.1 hv
  rfl
theorem cells_take {W : World} {g : Nat} {cur : Array Value} {t : TypeId} {n : Nat} {xs : List Value} (hg : W.heap[g]? = some (.cells cur t (0, 0))) (hx : cur.toList.take n = xs) (j : Nat) (v : Value) (h : xs[j]? = some v) : W.cell? ⟨g, 0 + j, none⟩ = some v := by
  rw [Nat.zero_add, blk_cell hg]
  subst hx
  have hj : j < n := by
    have := (List.getElem?_eq_some_iff.1 h).1
    rw [List.length_take] at this
    omega
  rw [List.getElem?_take_of_lt hj] at h
  simpa using h
/-- What an insert makes of a row. -/
def insAt (xs : List Int) (i : Nat) (x : Int) : List Int := xs.take i ++ [x] ++ xs.drop i
theorem insAt_length {xs : List Int} {i : Nat} {x : Int} (h : i ≤ xs.length) : (insAt xs i x).length = xs.length + 1 := by
  unfold insAt
  simp only [List.length_append, List.length_take, List.length_drop, List.length_cons, List.length_nil]
  omega
/-- What is known behind a change of a row. -/
structure RowNow (W : World) (base : Nat) (v : Value) (ys : List Int) (W' : World) (v' : Value) : Prop where
  own : W'.ownsRow base 3 1 v' ys.length (nums .i64 ys)
  grown : W.grownBy W' v.ownBlock
  at_ : v'.ownBlock = v.ownBlock ∨ ∃ b, v'.ownBlock = some b ∧ W.heap.size ≤ b
theorem own_mk {W' : World} {g base n cap : Nat} {cur : Array Value} {ys : List Int} (h : W'.heap[g]? = some (.cells cur 3 (0, 0))) (hb : base ≤ g) (hy : ys.length = n) (hn : n ≤ cap) (hm : cap ≤ maxLen) (hs : cur.size = cap) (ht : cur.toList.take n = nums .i64 ys) : W'.ownsRow base 3 1 (.slice (some ⟨g, 0, none⟩) n cap) ys.length (nums .i64 ys) := by
  subst hy
  exact ⟨by rw [nums_length, Nat.mul_one], .inr ⟨g, cap, cur, rfl, hb, h, hn, hm, by rw [Nat.mul_one]; exact hs, by rw [Nat.mul_one]; exact ht⟩⟩
theorem nums_ins (xs : List Int) (i : Nat) (x : Int) : nums .i64 (insAt xs i x) = (nums .i64 xs).take i ++ [.int .i64 x] ++ (nums .i64 xs).drop i := by
  unfold insAt nums
  simp [List.map_take, List.map_drop]
theorem below_grown {W W2 : World} {row : Option Nat} (h : Below W.heap.size W W2) : W.grownBy W2 row := ⟨h.os, h.tape, h.output, h.size, fun k hk _ => h.block k hk⟩
theorem grown_new {W W2 : World} {vs : List Value} {o : Nat} (h : Below W.heap.size W W2) : Below W.heap.size W (W2.setCells W.heap.size o vs) := by
  have h2 := grown_setCells (g := W.heap.size) vs (W := W2) o
  exact ⟨h2.os.trans h.os, h2.tape.trans h.tape, h2.output.trans h.output, Nat.le_trans h.size h2.size, fun k hk => (h2.block k (Nat.lt_of_lt_of_le hk h.size) (fun e => by cases e; omega)).trans (h.block k hk)⟩
theorem end_list {α : Type} (xs D : List α) (n : Nat) (x : α) (hn : xs.length = n) : (xs ++ [x] ++ D).take (n + 1) = xs.take n ++ [x] ++ xs.drop n := by
  rw [List.take_left' (by simp [hn]), List.take_of_length_le (by omega), List.drop_eq_nil_of_le (by omega), List.append_nil]
theorem shift_list {α : Type} (c xs : List α) (n i : Nat) (x : α) (h : c.take n = xs) (hn : xs.length = n) (hi : i < n) :
    ((c.take (i + 1) ++ xs.drop i ++ c.drop (i + 1 + (xs.drop i).length)).take i ++ [x] ++ (c.take (i + 1) ++ xs.drop i ++ c.drop (i + 1 + (xs.drop i).length)).drop (i + 1)).take (n + 1) = xs.take i ++ [x] ++ xs.drop i := by
  have hc : n ≤ c.length := by
    have := congrArg List.length h
    rw [List.length_take] at this
    omega
  have l1 : (c.take (i + 1)).length = i + 1 := by rw [List.length_take]; omega
  have e1 : (c.take (i + 1) ++ xs.drop i ++ c.drop (i + 1 + (xs.drop i).length)).take i = xs.take i := by
    rw [List.append_assoc, List.take_append_of_le_length (by omega), List.take_take, Nat.min_eq_left (by omega), ← h, List.take_take, Nat.min_eq_left (by omega)]
  have e2 : (c.take (i + 1) ++ xs.drop i ++ c.drop (i + 1 + (xs.drop i).length)).drop (i + 1) = xs.drop i ++ c.drop (i + 1 + (xs.drop i).length) := by
    rw [List.append_assoc, List.drop_left' l1]
  rw [e1, e2, ← List.append_assoc, List.take_left' (by simp [hn]; omega)]
theorem grow_list {α : Type} (xs Z : List α) (n i : Nat) (x : α) (hn : xs.length = n) (hi : i < n) :
    ((((xs.take i ++ Z).take i ++ [x] ++ (xs.take i ++ Z).drop (i + 1)).take (i + 1)) ++ xs.drop i ++ ((xs.take i ++ Z).take i ++ [x] ++ (xs.take i ++ Z).drop (i + 1)).drop (i + 1 + (xs.drop i).length)).take (n + 1) = xs.take i ++ [x] ++ xs.drop i := by
  have l1 : (xs.take i).length = i := by rw [List.length_take]; omega
  rw [List.take_left' l1, List.take_left' (l₁ := xs.take i ++ [x]) (by simp [l1]), List.take_left' (by simp [hn]; omega)]
set_option maxHeartbeats 1000000 in
theorem ins_own (W : World) (base : Nat) (v : Value) (xs : List Int) (i : Nat) (x : Int) (hR : W.ownsRow base 3 1 v xs.length (nums .i64 xs)) (hi : i ≤ xs.length) (hl : xs.length ≤ 1000) (vb : Nat) (hvb : W.heap[vb]? = some (.cells #[.int .i64 x] 3 (0, 0))) (hne : v.ownBlock ≠ some vb) (hbase : base ≤ W.heap.size) :
    Calls Try.prog 34 #[v, .int .i64 (i : Int), .slice (some ⟨vb, 0, none⟩) 1 1] W fun e W' => ∃ v', e = .returned v' ∧ RowNow W base v (insAt xs i x) W' v' := by
  have hvs : ∀ j u, [Value.int .i64 x][j]? = some u → W.cell? ⟨vb, 0 + j, none⟩ = some u := fun j u h => by
    have : j = 0 := by have := (List.getElem?_eq_some_iff.1 h).1; simpa using this
    subst this
    rw [blk_cell hvb]
    simpa using h
  have h1v : ∀ u ∈ [Value.int .i64 x], u.oneCell' = true := fun u hu => by rw [List.mem_singleton.1 hu]; rfl
  obtain ⟨hlen, hrest⟩ := hR
  rcases hrest with ⟨rfl, h0⟩ | ⟨g, cap, cur, rfl, hg, hh, hnc, hcm, hsz, htk⟩
  · have hx : xs = [] := List.eq_nil_of_length_eq_zero h0
    subst hx
    obtain rfl : i = 0 := by simpa using hi
    refine (Any2.slices_Insert_int_end_grow Try.laysNm221 none 0 0 vb 0 1 1 [] [.int .i64 x] W (by decide) (Nat.le_refl _) (by decide) (by decide) rfl rfl (fun _ => rfl) (fun a h => by cases h) hvs h1v).mono ?_
    rintro e W' ⟨rfl, rfl⟩
    have h1 := grownCap_ge W (0 + 1) 0 (Try.laysNm221_ren.t 3)
    have h2 := grownCap_le_maxLen W (0 + 1) 0 (Try.laysNm221_ren.t 3) (by unfold maxLen; omega)
    generalize grownCap W (0 + 1) 0 (Try.laysNm221_ren.t 3) = G at h1 h2
    refine ⟨_, rfl, own_mk (heap_alloc_new W.drew _) hbase rfl h1 h2 ?_ ?_, below_grown (below_alloc (Below.refl _ _).drew _), .inr ⟨_, rfl, Nat.le_refl _⟩⟩
    · simp [size_zeroCells, Value.cells]
      omega
    · simp [insAt, nums]
  · rw [Nat.mul_one] at hsz htk
    have hcs := cells_take hh htk
    have h1c : ∀ u ∈ nums .i64 xs, u.oneCell' = true := nums_one
    have hgvb : vb ≠ g := fun e => hne (by rw [e]; rfl)
    have hsp : ∀ j, j < cap → (W.cell? ⟨g, 0 + j, none⟩).isSome = true := fun j hj => by
      rw [Nat.zero_add, blk_cell hh, Array.getElem?_eq_getElem (by omega)]
      rfl
    have hfz : ∀ j : Nat, W.frozen? ⟨g, 0 + j, none⟩ = false := fun j => blk_frozen hh _
    by_cases hin : i = xs.length
    · subst hin
      by_cases hroom : xs.length + 1 ≤ cap
      · refine (Any2.slices_Insert_int_end_room Try.laysNm221 g 0 xs.length cap vb 0 1 1 [.int .i64 x] W (by decide) hroom hcm rfl (fun j hj => by have := hsp (xs.length + j) (by omega); simpa using this) (fun j _ => by have := hfz (xs.length + j); simpa using this) hvs h1v).mono ?_
        rintro e W' ⟨rfl, rfl⟩
        refine ⟨_, rfl, own_mk (blk_setCells _ _ hh) hg (insAt_length (Nat.le_refl _)) hroom hcm (by rw [layArr_size]; exact hsz) ?_, grown_setCells _ _, .inl rfl⟩
        rw [layArr_list _ _ _ (by simp; omega), nums_ins, Nat.zero_add, htk]
        exact end_list _ _ _ _ (nums_length _ _)
      · refine (Any2.slices_Insert_int_end_grow Try.laysNm221 (some ⟨g, 0, none⟩) xs.length cap vb 0 1 1 (nums .i64 xs) [.int .i64 x] W (by decide) hnc (by omega) (by omega) (nums_length _ _) rfl (fun h => by cases h) (fun a h j u hu => by cases h; rw [add_plain]; have := hcs j u hu; rwa [Nat.zero_add] at this) hvs h1v).mono ?_
        rintro e W' ⟨rfl, rfl⟩
        have h1 := grownCap_ge W (xs.length + 1) cap (Try.laysNm221_ren.t 3)
        have h2 := grownCap_le_maxLen W (xs.length + 1) cap (Try.laysNm221_ren.t 3) (by unfold maxLen; omega)
        generalize grownCap W (xs.length + 1) cap (Try.laysNm221_ren.t 3) = G at h1 h2
        refine ⟨_, rfl, own_mk (heap_alloc_new W.drew _) hbase (insAt_length (Nat.le_refl _)) h1 h2 ?_ ?_, below_grown (below_alloc (Below.refl _ _).drew _), .inr ⟨_, rfl, Nat.le_refl _⟩⟩
        · simp [size_zeroCells, Value.cells, nums_length]
          omega
        · rw [nums_ins, Array.toList_append]
          exact end_list _ _ _ _ (nums_length _ _)
    · by_cases hroom : xs.length + 1 ≤ cap
      · refine (Any2.slices_Insert_int_shift Try.laysNm221 g 0 xs.length cap i vb 0 1 1 (nums .i64 xs) [.int .i64 x] W (by omega) (by decide) hroom hcm hgvb (nums_length _ _) rfl hcs (fun j hj => hsp j (by omega)) (fun j _ => hfz j) hvs h1c h1v 3 3 1 cap (by simp [World.shape?, hvb]) (by simp [World.shape?, hh, hsz]) (by omega) (blk_frozen hvb _) (blk_frozen hvb _)).mono ?_
        rintro e W' ⟨rfl, rfl⟩
        have hh2 : W.drew.heap[g]? = some (.cells cur 3 (0, 0)) := hh
        refine ⟨_, rfl, own_mk (blk_setCells _ _ (blk_setCells _ _ hh2)) hg (insAt_length hi) hroom hcm (by rw [layArr_size, layArr_size]; exact hsz) ?_, ?_, .inl rfl⟩
        · rw [layArr_list _ _ _ (by rw [layArr_size]; simp; omega), layArr_list _ _ _ (by rw [List.length_drop, nums_length]; simp; omega), nums_ins, Nat.zero_add, Nat.zero_add]
          exact shift_list _ _ _ _ _ htk (nums_length _ _) (by omega)
        · have g1 := grown_setCells (g := g) ((nums .i64 xs).drop i) (W := W.drew) (0 + (i + 1))
          have g2 := grown_setCells (g := g) [.int .i64 x] (W := W.drew.setCells g (0 + (i + 1)) ((nums .i64 xs).drop i)) (0 + i)
          exact ⟨g2.os.trans g1.os, g2.tape.trans g1.tape, g2.output.trans g1.output, Nat.le_trans g1.size g2.size, fun k hk hn => (g2.block k (Nat.lt_of_lt_of_le hk g1.size) hn).trans (g1.block k hk hn)⟩
      · refine (Any2.slices_Insert_int_grow Try.laysNm221 g 0 xs.length cap i vb 0 1 1 (nums .i64 xs) [.int .i64 x] W (by omega) (by decide) hnc (by omega) (by omega) (nums_length _ _) rfl hcs hvs h1c h1v).mono ?_
        rintro e W' ⟨rfl, rfl⟩
        have h1 := grownCap_ge W (xs.length + 1) cap (Try.laysNm221_ren.t 3)
        have h2 := grownCap_le_maxLen W (xs.length + 1) cap (Try.laysNm221_ren.t 3) (by unfold maxLen; omega)
        generalize grownCap W (xs.length + 1) cap (Try.laysNm221_ren.t 3) = G at h1 h2
        refine ⟨_, rfl, own_mk (blk_setCells _ _ (show _ = some _ from blk_setCells _ _ (show _ = some _ from heap_alloc_new W _))) hbase (insAt_length hi) h1 h2 ?_ ?_, below_grown (grown_new (W2 := World.drew _) (below_drew (grown_new (W2 := World.drew _) (below_drew (below_alloc (Below.refl _ _) _))))), .inr ⟨_, rfl, Nat.le_refl _⟩⟩
        · rw [layArr_size, layArr_size]
          simp [size_zeroCells, Value.cells, nums_length]
          omega
        · rw [layArr_list, layArr_list, nums_ins]
          · rw [show ((((nums .i64 xs).take i).toArray ++ Builtin.zeroCells (Value.int .i64 0).cells (xs.length + 1 - i) ++ Builtin.zeroCells (Value.int .i64 0).cells (G - (xs.length + 1))) : Array Value).toList = (nums .i64 xs).take i ++ ((Builtin.zeroCells (Value.int .i64 0).cells (xs.length + 1 - i)).toList ++ (Builtin.zeroCells (Value.int .i64 0).cells (G - (xs.length + 1))).toList) by simp]
            exact grow_list (nums .i64 xs) _ xs.length i _ (nums_length _ _) (by omega)
          · simp [size_zeroCells, Value.cells, nums_length, List.length_take]
            omega
          · rw [layArr_size]
            simp [size_zeroCells, Value.cells, nums_length, List.length_take]
            omega

end Go.Proofs.Ytnlckandbgpncaa.P
