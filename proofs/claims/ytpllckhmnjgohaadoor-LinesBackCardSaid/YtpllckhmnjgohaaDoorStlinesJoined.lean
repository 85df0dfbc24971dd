-- Laid by sp.py, a program of this session's, out of the translation and the session's own stand-ins.
import Derived.Test.YtpllckhmnjgohaaDoorPx0
import Derived.Test.YtpllckhmnjgohaaDoorStlinesAwake
import Derived.Test.YtpllckhmnjgohaaDoorLinesEvB
namespace Go.Proofs.YtpllckhmnjgohaaDoor.P
open Go.RowKit Go.Proofs.YtpllckhmnjgohaaDoorW.PrintWords Go.Proofs.YtpllckhmnjgohaaDoorW.PrintLast Go.Proofs.YtpllckhmnjgohaaDoorW.PrintMore
attribute [local go_sem] max2_int min2_int max_two min_two max_three min_three max_four min_four   -- for this text's walks alone
set_option linter.unusedVariables false
set_option linter.unusedSimpArgs false
set_option linter.unnecessarySimpa false

/-! ### LinesJoined: a law by hand -/
def postilionlaw18_LinesJoined.f (_k : Nat) (_a _b : ByteArray) : Option Bool := some true
theorem piecesL_join (c : UInt8) (y : List UInt8) : ∀ x : List UInt8, piecesL c (x ++ c :: y) = piecesL c x ++ piecesL c y
  | [] => by rw [List.nil_append, piecesL_same]; rfl
  | z :: x => by
    have ih := piecesL_join c y x
    rw [List.cons_append]
    by_cases hz : z = c
    · subst hz
      rw [piecesL_same, piecesL_same, ih]
      rfl
    · cases e : piecesL c x with
      | nil => exact absurd e (piecesL_ne c x)
      | cons p ps =>
        rw [e] at ih
        rw [piecesL_step hz (xs := x ++ c :: y) (p := p) (ps := ps ++ piecesL c y) ih, piecesL_step hz e]
        rfl
theorem counts_nil : countsT ⟨#[]⟩ = [] := rfl
theorem fL (l : List UInt8) : (⟨l.toArray⟩ : ByteArray) = ⟨l.toArray⟩ := rfl
/-- What a text gives, of its bytes. -/
def spB (l : List UInt8) : List (List ByteArray) := ((piecesL 10 l).map (fun p => countsT ⟨p.toArray⟩)).filter (fun l => !l.isEmpty)
theorem splitT_spB (s : ByteArray) : splitT s = spB s.data.toList := by
  unfold splitT spB texts
  rw [List.map_map]
  rfl
theorem spB_end (x y : List UInt8) : spB (x ++ 10 :: y) = spB x ++ spB y := by
  unfold spB
  rw [piecesL_join, List.map_append, List.filter_append]
theorem spB_nil : spB [] = [] := by
  unfold spB piecesL
  rfl
/-- A text that is empty or ends with 10, and another one behind it. -/
theorem spB_app {a b : List UInt8} (h : a = [] ∨ ∃ x, a = x ++ [10]) : spB (a ++ b) = spB a ++ spB b := by
  rcases h with rfl | ⟨x, rfl⟩
  · rw [spB_nil]; rfl
  · rw [List.append_assoc, show [10] ++ b = (10 : UInt8) :: b from rfl, spB_end, spB_end, spB_nil, List.append_nil]
theorem app_list (a b : ByteArray) : (a ++ b).data.toList = a.data.toList ++ b.data.toList := by
  rw [show (a ++ b).data = a.data ++ b.data from ByteArray.data_append, Array.toList_append]
theorem okT_app (a b : ByteArray) : okT (a ++ b) = (okT a && okT b) := by
  unfold okT
  rw [app_list, List.all_append]
theorem ends_10 {a : ByteArray} {k : Nat} (hk : a.size = k + 1) (h10 : (a[k]'(by omega)).toNat = 10) : ∃ x, a.data.toList = x ++ [10] := by
  have hl : k < a.data.toList.length := by rw [data_length]; omega
  refine ⟨a.data.toList.take k, ?_⟩
  have h3 : a.data.toList[k]'hl = 10 := UInt8.toNat_inj.1 h10
  rw [← h3, ← List.take_succ_eq_append_getElem hl, List.take_of_length_le (by rw [data_length]; omega)]
theorem slices_one {vs : List Value} (h : ∀ u ∈ vs, ∃ A n q, u = .slice A n q) : ∀ u ∈ vs, u.oneCell' = true := fun u hu => by
  obtain ⟨A, n, q, rfl⟩ := h u hu
  rfl
set_option maxHeartbeats 1000000 in
/-- 'append(v, x..)' of rows of rows. -/
theorem wl_app {ops : Array Oper} {rest : List Oper} {o : Oper} {a : Act} {Q : Exit → Act → World → Prop} (hgd : o.guard = none) (s x : Operand)
    (ho : o.op = .call { callee := .builtin .append, args := #[s, x], argTypes := #[22, 22] })
    (base : Nat) {W : World} (v : Value) (n : Nat) (xs : List Value) (A : Option Addr) (m c : Nat) (vs : List Value) (hs : a.eval s = v) (hown : W.ownsRow base 39 1 v n xs)
    (hx : a.eval x = .slice A m c) (hvl : vs.length = m) (h1 : ∀ u ∈ vs, ∃ A n q, u = .slice A n q) (hcells : m = 0 ∨ ∃ b, A = some ⟨b, 0, none⟩ ∧ ∀ j u, vs[j]? = some u → W.cell? ((⟨b, 0, none⟩ : Addr).add j) = some u) (hm : m ≤ 100000) (hn : n ≤ 100000) (hbase : base ≤ W.heap.size)
    (h : ∀ v' W', W'.ownsRow base 39 1 v' (n + m) (xs ++ vs) → W.grownBy W' v.ownBlock → (∃ A' c', v' = .slice A' (n + m) c') → wpList Tryd.prog ops Q rest (a.put o.dst v') W') :
    wpList Tryd.prog ops Q (o :: rest) a W := by
  obtain ⟨i0, hi, hz0, hz1, hz2⟩ := info_parts infoSl
  have form : ∀ {W' : World} {v' : Value} {k : Nat} {ys : List Value}, W'.ownsRow base 39 1 v' k ys → ∃ A' c', v' = .slice A' k c' := fun {W' v' k ys} ho' => by
    rcases ho'.2 with ⟨e1, h0⟩ | ⟨g, cap, cur, e1, _⟩
    · exact ⟨none, 0, by rw [e1, h0]⟩
    · exact ⟨_, _, e1⟩
  have fin : ∀ ad : Addr, A = some ad → (∀ j u, vs[j]? = some u → W.cell? (ad.add j) = some u) → wpList Tryd.prog ops Q (o :: rest) a W := fun ad e hc => by
    subst e
    refine wpList_append_own_at W hgd s x 22 ho base 39 i0 (.slice none 0 0) 1 24 Tryd.underlying22 hi hz0 hz1 hz2 rfl (by decide) v n xs hs hown ad m c vs hx (by rw [hvl, Nat.mul_one]) hc (slices_one h1) (by unfold maxLen; omega) (by omega) hbase ?_
    intro v' w' g1 g2 _ _
    exact h v' w' g1 g2 (form g1)
  rcases hcells with rfl | ⟨b, e, hc⟩
  · obtain rfl : vs = [] := List.length_eq_zero_iff.1 hvl
    cases A with
    | some ad => exact fin ad rfl (fun j u hj => by simp at hj)
    | none =>
      obtain ⟨Av, cv, rfl⟩ := form hown
      refine wpList_plain hgd fun K hK => ?_
      have hr : (Builtin.append_ #[22, 22] o.type #[.slice Av n cv, .slice none 0 c]).run Tryd.prog W = .ok (.slice Av n cv) W := by
        rcases hown.2 with ⟨e1, h0⟩ | ⟨g, cap, cur, e1, _, _, hnc, _⟩
        · obtain ⟨rfl, rfl, rfl⟩ := Value.slice.inj e1
          simp [Builtin.append_, run_underlying Tryd.underlying22, sizeOf, typeInfo, hi, Builtin.lenOf, Builtin.firstCells, loadCells, loadCellsFrom, storeCells]
        · obtain ⟨rfl, _, rfl⟩ := Value.slice.inj e1
          simp [Builtin.append_, run_underlying Tryd.underlying22, sizeOf, typeInfo, hi, Builtin.lenOf, Builtin.firstCells, loadCells, loadCellsFrom, storeCells, hnc]
      unfold Oper.wp execOp
      simp only [ho, resolve, invoke, builtin, Sem.run_bind, Sem.run_pure, Result.andThen_ok, List.map_toArray, List.map_cons, List.map_nil, hs, hx, List.length_nil, hr]
      exact hK _ _ (h _ _ (by rw [Nat.add_zero, List.append_nil]; exact hown) ⟨rfl, rfl, rfl, Nat.le_refl _, fun _ _ _ => rfl⟩ ⟨_, _, rfl⟩)
  · exact fin _ e hc
theorem own_cells {W : World} {base m c : Nat} {A : Option Addr} {vs : List Value} {e : TypeId} (h : W.ownsRow base e 1 (.slice A m c) m vs) : m = 0 ∨ ∃ b, A = some ⟨b, 0, none⟩ ∧ ∀ j u, vs[j]? = some u → W.cell? ((⟨b, 0, none⟩ : Addr).add j) = some u := by
  obtain ⟨hlen, hrest⟩ := h
  rcases hrest with ⟨e1, h0⟩ | ⟨g, cap, cur, e1, hg, hh, hnc, hcm, hsz, htk⟩
  · exact .inl h0
  · obtain ⟨rfl, _, rfl⟩ := Value.slice.inj e1
    rw [Nat.mul_one] at hsz htk
    refine .inr ⟨g, rfl, fun j u hj => ?_⟩
    have hjm : j < m := by
      have := (List.getElem?_eq_some_iff.1 hj).1
      rw [← htk, List.length_take] at this
      omega
    rw [← htk, List.getElem?_take_of_lt hjm] at hj
    rw [Addr.add_lit, Nat.zero_add, Lib.cell_of_heap hh]
    simpa using hj
/-- The rows of a row of rows. -/
def Ins (W : World) (base : Nat) (vs : List Value) (ls : List (List ByteArray)) : Prop := vs.length = ls.length ∧ ∀ j, j < ls.length → W.ownsRow base 9 1 (vs.getD j undef) (ls.getD j []).length (strs (ls.getD j []))
theorem Ins.slices {W : World} {base : Nat} {vs : List Value} {ls : List (List ByteArray)} (h : Ins W base vs ls) : ∀ u ∈ vs, ∃ A n q, u = .slice A n q := fun u hu => by
  obtain ⟨j, hj, e⟩ := List.getElem_of_mem hu
  have h2 := h.2 j (by rw [← h.1]; exact hj)
  rw [List.getD_eq_getElem?_getD, List.getElem?_eq_getElem hj] at h2
  have h3 : W.ownsRow base 9 1 u (ls.getD j []).length (strs (ls.getD j [])) := by rw [← e]; exact h2
  rcases h3.2 with ⟨e1, h0⟩ | ⟨g, cap, cur, e1, _⟩
  · exact ⟨none, 0, 0, e1⟩
  · exact ⟨_, _, _, e1⟩
theorem Ins.below {W W' : World} {base : Nat} {vs : List Value} {ls : List (List ByteArray)} (h : Ins W base vs ls) (hb : Below W.heap.size W W') : Ins W' base vs ls := ⟨h.1, fun j hj => pw_own_below (h.2 j hj) hb⟩
theorem Ins.grown {W W' : World} {base b n : Nat} {vs xs : List Value} {v : Value} {ls : List (List ByteArray)} (h : Ins W base vs ls) (ho : W.ownsRow b 39 1 v n xs) (hg : W.grownBy W' v.ownBlock) : Ins W' base vs ls := ⟨h.1, fun j hj => (h.2 j hj).kept hg (own_ne_types (h.2 j hj) ho (by decide))⟩
theorem Ins.cat {W : World} {base : Nat} {vs vs' : List Value} {ls ls' : List (List ByteArray)} (h : Ins W base vs ls) (h' : Ins W base vs' ls') : Ins W base (vs ++ vs') (ls ++ ls') := by
  refine ⟨by rw [List.length_append, List.length_append, h.1, h'.1], fun j hj => ?_⟩
  rcases Nat.lt_or_ge j ls.length with hl | hl
  · rw [List.getD_eq_getElem?_getD, List.getElem?_append_left (by rw [h.1]; exact hl), ← List.getD_eq_getElem?_getD, List.getD_eq_getElem?_getD (l := ls ++ ls'), List.getElem?_append_left hl, ← List.getD_eq_getElem?_getD]
    exact h.2 j hl
  · rw [List.getD_eq_getElem?_getD, List.getElem?_append_right (by rw [h.1]; exact hl), ← List.getD_eq_getElem?_getD, List.getD_eq_getElem?_getD (l := ls ++ ls'), List.getElem?_append_right hl, ← List.getD_eq_getElem?_getD, h.1]
    exact h'.2 (j - ls.length) (by rw [List.length_append] at hj; omega)
theorem Ins.lower {W : World} {base base' : Nat} {vs : List Value} {ls : List (List ByteArray)} (h : Ins W base vs ls) (hb : base' ≤ base) : Ins W base' vs ls := ⟨h.1, fun j hj => own_le (h.2 j hj) hb⟩
theorem lj_split (s : ByteArray) (W : World) (hs : s.size ≤ 1000000) (hT : spTab W) (E : Int) (L : List (List ByteArray)) (hE : splE s = E) (hL : splL s = L) : Calls Tryd.prog 6 #[.string s] W fun e W' => ∃ A q vs, e = .returned (.tuple #[.slice A L.length q, .int .i64 E]) ∧ L.length ≤ q ∧ W'.ownsRow W.heap.size 39 1 (.slice A L.length q) L.length vs ∧ Ins W' 0 vs L ∧ Below W.heap.size W W' := by
  subst hE hL
  refine (ls_Split s W hs hT).mono ?_
  rintro e w1 ⟨v, rfl, o1, b1⟩
  obtain ⟨A, q, rfl, hq, _⟩ := rows2_reads o1
  obtain ⟨vs, ho, hvl, hin⟩ := o1
  exact ⟨A, q, vs, rfl, hq, ho, Ins.lower ⟨hvl, hin⟩ (Nat.zero_le _), b1⟩
theorem splL_len (s : ByteArray) : (splL s).length ≤ s.size + 1 := by
  unfold splL
  split
  · unfold splitT
    refine Nat.le_trans (List.length_filter_le _ _) ?_
    rw [List.length_map]
    unfold texts
    rw [List.length_map]
    have := piecesL_len 10 s.data.toList
    rwa [data_length] at this
  · exact Nat.zero_le _
theorem splE_of {s : ByteArray} (h : s.size ≤ 4096) : splE s = if okT s = true then 0 else 180 := by unfold splE; rw [if_neg (by omega)]
theorem splL_bad {s : ByteArray} (h : splE s ≠ 0) : splL s = [] := by unfold splL; rw [if_neg h]
theorem splL_ok {s : ByteArray} (h : splE s = 0) : splL s = spB s.data.toList := by unfold splL; rw [if_pos h, splitT_spB]
theorem lj_same (W : World) (L : List (List ByteArray)) (hL : Pure.Small L) {A B : Option Addr} {p q n m : Nat} (hn : L.length = n) (hm : L.length = m) (hA : Rows2 W 0 (.slice A n p) L) (hB : Rows2 W 0 (.slice B m q) L) : Calls Tryd.prog 8 #[.slice A n p, .slice B m q] W fun e W' => e = .returned (.bool true) ∧ Below W.heap.size W W' := by
  subst hn
  subst hm
  obtain ⟨A2, p2, e2, h2, c2⟩ := rows2_reads hA
  obtain ⟨A3, p3, e3, h3, c3⟩ := rows2_reads hB
  obtain ⟨rfl, _, rfl⟩ := Value.slice.inj e2
  obtain ⟨rfl, _, rfl⟩ := Value.slice.inj e3
  exact lw_same W L hL rfl c2 h2 c3 h3
theorem splL_small2 (s : ByteArray) (hs : s.size ≤ 6000) : Pure.Small (splL s) := by
  unfold splL
  split
  · refine ⟨?_, fun r hr => ?_⟩
    · unfold splitT
      refine Nat.le_trans (List.length_filter_le _ _) ?_
      rw [List.length_map]
      unfold texts
      rw [List.length_map]
      have := piecesL_len 10 s.data.toList
      rw [data_length] at this
      omega
    · unfold splitT at hr
      have hr2 := (List.mem_filter.1 hr).1
      obtain ⟨x, hx, rfl⟩ := List.mem_map.1 hr2
      have hxs := texts_le hx
      refine ⟨?_, fun y hy => ?_⟩
      · unfold countsT
        refine Nat.le_trans (List.takeWhile_sublist _).length_le ?_
        unfold fieldsT
        rw [List.length_map]
        have := fldG_len x.data.toList []
        rw [data_length] at this
        omega
      · unfold countsT at hy
        have hy2 := (List.takeWhile_sublist _).subset hy
        unfold fieldsT at hy2
        obtain ⟨l, hl, rfl⟩ := List.mem_map.1 hy2
        have key : ∀ (m cur : List UInt8) (l : List UInt8), l ∈ fldG cur m → l.length ≤ cur.length + m.length := by
          intro m
          induction m with
          | nil =>
            intro cur l h
            unfold fldG at h
            split at h
            · cases h
            · rw [List.mem_singleton.1 h]; simp
          | cons b m ih =>
            intro cur l h
            unfold fldG at h
            split at h
            · split at h
              · have := ih [] l h
                simp at this ⊢
                omega
              · rcases List.mem_cons.1 h with rfl | h
                · simp
                · have := ih [] l h
                  simp at this ⊢
                  omega
            · have := ih (cur ++ [b]) l h
              simp at this ⊢
              omega
        have := key x.data.toList [] l hl
        rw [data_length] at this
        show (l.toArray).size ≤ 1000000
        rw [List.size_toArray]
        simp at this
        omega
  · exact ⟨Nat.zero_le _, fun r hr => by cases hr⟩
set_option maxRecDepth 100000 in
set_option maxHeartbeats 8000000 in
theorem lj_ok0 (a b : ByteArray) (w : World) (hT : spTab w) (ha : a.size ≤ 2000) (hb : b.size ≤ 2000) (h0 : a.size = 0) (eA : splE a = 0) (eB : splE b = 0) (eC : splE (a ++ b) = 0) (hlc : splL (a ++ b) = splL a ++ splL b) :
    Calls Tryd.prog 4 #[.string a, .string b] w fun e w' => e = .returned (.bool true) ∧ Below w.heap.size w w' := by
  have AW := postilionlaw18_awake.calls w hT
  have p1 : decide ((2000 : Int) < (a.size : Int)) = false := decide_eq_false (by omega)
  have p2 : decide ((2000 : Int) < (b.size : Int)) = false := decide_eq_false (by omega)
  have p3 : decide ((0 : Int) < (a.size : Int)) = false := decide_eq_false (by omega)
  have SA := Aside0.mk (fun (W : World) (hB : Below w.heap.size w W) => lj_split a W (by omega) (spTab_below hT hB) 0 (splL a) eA rfl)
  have SB := Aside0.mk (fun (W : World) (hB : Below w.heap.size w W) => lj_split b W (by omega) (spTab_below hT hB) 0 (splL b) eB rfl)
  have SC := Aside0.mk (fun (W : World) (hB : Below w.heap.size w W) => lj_split (a ++ b) W (by rw [ByteArray.size_append]; omega) (spTab_below hT hB) 0 (splL (a ++ b)) eC rfl)
  have l1 := splL_len a
  have l2 := splL_len b
  have hsm := splL_small2 (a ++ b) (by rw [ByteArray.size_append]; omega)
  clear eA eB eC
  generalize splL a = La at *
  generalize splL b = Lb at *
  generalize splL (a ++ b) = Lc at *
  have nlc : Lc.length = La.length + Lb.length := by rw [hlc, List.length_append]
  have SM := Aside0.mk (fun (W : World) (A B : Option Addr) (p q : Nat) (hA : Rows2 W 0 (.slice A Lc.length p) Lc) (hB : Rows2 W 0 (.slice B (La.length + Lb.length) q) Lc) => lj_same W Lc hsm rfl nlc hA hB)
  replace hlc := Aside0.mk hlc
  replace nlc := Aside0.mk nlc
  go_enter Tryd.func4, Tryd.ntmps4
  go_wp2_with (first | (go_at_call 9; (with_reducible refine AW.mono ?_); rintro e w1 ⟨rfl, b1⟩; have X1 := SA.out w1 b1; clear AW) | (go_at_call 6; (with_reducible refine X1.mono ?_); rintro e w2 ⟨A2, q2, vs2, rfl, h2, o2, i2, d2⟩; have b2 := bnext b1 d2; have X2 := SB.out w2 b2; clear X1 b1) | (go_at_call 6; (with_reducible refine X2.mono ?_); rintro e w3 ⟨A3, q3, vs3, rfl, h3, o3, i3, d3⟩; have b3 := bnext b2 d3; have X3 := SC.out w3 b3; have o2b := pw_own_below o2 d3; have i2b := i2.below d3; clear X2 b2 o2 i2) | (go_at_call 6; (with_reducible refine X3.mono ?_); rintro e w4 ⟨A4, q4, vs4, rfl, h4, o4, i4, d4⟩; have b4 := bnext b3 d4; have O4 := Aside0.mk o4; have I4 := Aside0.mk i4; have o2c := pw_own_below o2b d4; have i2c := Aside0.mk (i2b.below d4); have o3c := pw_own_below o3 d4; have i3c := Aside0.mk (i3.below d4); have n2 := i2c.out.1; have n3 := i3c.out.1; have e2 := own_cells o2c; have O3 := Aside0.mk o3c; clear X3 b3 o2b i2b o3 i3 o4 i4 o3c) | (at_builtin; refine wl_app rfl _ _ rfl w4.heap.size (.slice none 0 0) 0 [] A2 _ q2 vs2 rfl (World.ownsRow_nil _ _ _ _) rfl n2 i2c.out.slices e2 (by omega) (by omega) (Nat.le_refl _) ?_; rintro v5 w5 o5 g5 ⟨A5, q5, rfl⟩; rw [Nat.zero_add] at o5; have d5 : Below w4.heap.size w4 w5 := pw_below_grown (Below.refl _ _) _ (Nat.le_refl _) g5 (fun k e => by { cases e }); have b4s := b4.size; have b5 := bnext b4 d5; have i2d := Aside0.mk (i2c.out.below d5); have i3d := Aside0.mk (i3c.out.below d5); have e3 := own_cells (pw_own_below O3.out d5); have O4b := Aside0.mk (pw_own_below O4.out d5); have I4b := Aside0.mk (I4.out.below d5); have O5 := Aside0.mk o5; have D5 := Aside0.mk d5; have s5 := d5.size; simp only [Nat.zero_add]; clear o2c e2 g5 d5 b4 o5) | (at_builtin; refine wl_app rfl _ _ rfl w4.heap.size (.slice A5 _ q5) _ ([] ++ vs2) A3 _ q3 vs3 rfl O5.out rfl n3 i3d.out.slices e3 (by omega) (by omega) s5 ?_; rintro v6 w6 o6 g6 ⟨A6, q6, rfl⟩; have hkb := own_base O5.out; have b6 := pw_below_grown b5 _ b5.size g6 (fun k e => Nat.le_trans b4s (hkb k e)); have I6 := Aside0.mk ((i2d.out.grown O5.out g6).cat (i3d.out.grown O5.out g6)); have O6 := Aside0.mk o6; have G6 := Aside0.mk g6; have K6 := Aside0.mk hkb; have d6 : Below w4.heap.size w4 w6 := pw_below_grown D5.out _ D5.out.size g6 (fun k e => hkb k e); have X7 := SM.out w6 A4 A6 q4 q6 ⟨vs4, own_le (pw_own_below O4.out d6) (Nat.zero_le _), (I4.out.below d6).1, (I4.out.below d6).2⟩ ⟨vs2 ++ vs3, by { rw [nlc.out]; exact own_le (by { rw [List.nil_append] at o6; exact o6 }) (Nat.zero_le _) }, by { rw [hlc.out]; exact I6.out.1 }, by { rw [hlc.out]; exact I6.out.2 }⟩; clear b5 e3 hkb o6 g6 d6) | (go_at_call 8; (with_reducible refine X7.mono ?_); rintro e w7 ⟨rfl, d7⟩; have b7 := bnext b6 d7; clear X7 b6 d7))
  go_ret
  exact ⟨rfl, b7⟩
set_option maxRecDepth 100000 in
set_option maxHeartbeats 8000000 in
theorem lj_bad0x (a b : ByteArray) (w : World) (hT : spTab w) (ha : a.size ≤ 2000) (hb : b.size ≤ 2000) (h0 : a.size = 0) (eA : splE a = 180) (EB : Int) (eB : splE b = EB) (eC : splE (a ++ b) = 180) :
    Calls Tryd.prog 4 #[.string a, .string b] w fun e w' => e = .returned (.bool true) ∧ Below w.heap.size w w' := by
  have AW := postilionlaw18_awake.calls w hT
  have p1 : decide ((2000 : Int) < (a.size : Int)) = false := decide_eq_false (by omega)
  have p2 : decide ((2000 : Int) < (b.size : Int)) = false := decide_eq_false (by omega)
  have p3 : decide ((0 : Int) < (a.size : Int)) = false := decide_eq_false (by omega)
  have SA := Aside0.mk (fun (W : World) (hB : Below w.heap.size w W) => lj_split a W (by omega) (spTab_below hT hB) 180 (splL a) eA rfl)
  have SB := Aside0.mk (fun (W : World) (hB : Below w.heap.size w W) => lj_split b W (by omega) (spTab_below hT hB) EB (splL b) eB rfl)
  have SC := Aside0.mk (fun (W : World) (hB : Below w.heap.size w W) => lj_split (a ++ b) W (by rw [ByteArray.size_append]; omega) (spTab_below hT hB) 180 (splL (a ++ b)) eC rfl)
  clear eA eB eC
  generalize splL a = La at *
  generalize splL b = Lb at *
  generalize splL (a ++ b) = Lc at *
  go_enter Tryd.func4, Tryd.ntmps4
  go_wp2_with (first | (go_at_call 9; (with_reducible refine AW.mono ?_); rintro e w1 ⟨rfl, b1⟩; have X1 := SA.out w1 b1; clear AW) | (go_at_call 6; (with_reducible refine X1.mono ?_); rintro e w2 ⟨A2, q2, vs2, rfl, h2, o2, i2, d2⟩; have b2 := bnext b1 d2; have X2 := SB.out w2 b2; clear X1 b1 o2 i2 d2) | (go_at_call 6; (with_reducible refine X2.mono ?_); rintro e w3 ⟨A3, q3, vs3, rfl, h3, o3, i3, d3⟩; have b3 := bnext b2 d3; have X3 := SC.out w3 b3; clear X2 b2 o3 i3 d3) | (go_at_call 6; (with_reducible refine X3.mono ?_); rintro e w4 ⟨A4, q4, vs4, rfl, h4, o4, i4, d4⟩; have b4 := bnext b3 d4; clear X3 b3 o4 i4 d4))
  go_ret
  exact ⟨rfl, b4⟩
set_option maxRecDepth 100000 in
set_option maxHeartbeats 8000000 in
theorem lj_bad0y (a b : ByteArray) (w : World) (hT : spTab w) (ha : a.size ≤ 2000) (hb : b.size ≤ 2000) (h0 : a.size = 0) (eA : splE a = 0) (eB : splE b = 180) (eC : splE (a ++ b) = 180) :
    Calls Tryd.prog 4 #[.string a, .string b] w fun e w' => e = .returned (.bool true) ∧ Below w.heap.size w w' := by
  have AW := postilionlaw18_awake.calls w hT
  have p1 : decide ((2000 : Int) < (a.size : Int)) = false := decide_eq_false (by omega)
  have p2 : decide ((2000 : Int) < (b.size : Int)) = false := decide_eq_false (by omega)
  have p3 : decide ((0 : Int) < (a.size : Int)) = false := decide_eq_false (by omega)
  have SA := Aside0.mk (fun (W : World) (hB : Below w.heap.size w W) => lj_split a W (by omega) (spTab_below hT hB) 0 (splL a) eA rfl)
  have SB := Aside0.mk (fun (W : World) (hB : Below w.heap.size w W) => lj_split b W (by omega) (spTab_below hT hB) 180 (splL b) eB rfl)
  have SC := Aside0.mk (fun (W : World) (hB : Below w.heap.size w W) => lj_split (a ++ b) W (by rw [ByteArray.size_append]; omega) (spTab_below hT hB) 180 (splL (a ++ b)) eC rfl)
  clear eA eB eC
  generalize splL a = La at *
  generalize splL b = Lb at *
  generalize splL (a ++ b) = Lc at *
  go_enter Tryd.func4, Tryd.ntmps4
  go_wp2_with (first | (go_at_call 9; (with_reducible refine AW.mono ?_); rintro e w1 ⟨rfl, b1⟩; have X1 := SA.out w1 b1; clear AW) | (go_at_call 6; (with_reducible refine X1.mono ?_); rintro e w2 ⟨A2, q2, vs2, rfl, h2, o2, i2, d2⟩; have b2 := bnext b1 d2; have X2 := SB.out w2 b2; clear X1 b1 o2 i2 d2) | (go_at_call 6; (with_reducible refine X2.mono ?_); rintro e w3 ⟨A3, q3, vs3, rfl, h3, o3, i3, d3⟩; have b3 := bnext b2 d3; have X3 := SC.out w3 b3; clear X2 b2 o3 i3 d3) | (go_at_call 6; (with_reducible refine X3.mono ?_); rintro e w4 ⟨A4, q4, vs4, rfl, h4, o4, i4, d4⟩; have b4 := bnext b3 d4; clear X3 b3 o4 i4 d4))
  go_ret
  exact ⟨rfl, b4⟩
set_option maxRecDepth 100000 in
set_option maxHeartbeats 8000000 in
theorem lj_ok1 (a b : ByteArray) (w : World) (hT : spTab w) (ha : a.size ≤ 2000) (hb : b.size ≤ 2000) (k : Nat) (hk : a.size = k + 1) (h10 : (a[k]'(by omega)).toNat = 10) (eA : splE a = 0) (eB : splE b = 0) (eC : splE (a ++ b) = 0) (hlc : splL (a ++ b) = splL a ++ splL b) :
    Calls Tryd.prog 4 #[.string a, .string b] w fun e w' => e = .returned (.bool true) ∧ Below w.heap.size w w' := by
  have AW := postilionlaw18_awake.calls w hT
  have p1 : decide ((2000 : Int) < (a.size : Int)) = false := decide_eq_false (by omega)
  have p2 : decide ((2000 : Int) < (b.size : Int)) = false := decide_eq_false (by omega)
  have p3 : decide ((0 : Int) < (a.size : Int)) = true := decide_eq_true (by omega)
  have kw1 : wrap64 ((a.size : Int) - 1) = (k : Int) := by unfold wrap64; omega
  have hka : k < a.size := by omega
  have hka2 : (k : Int) < (a.size : Int) := by omega
  have hka3 : (0 : Int) ≤ (k : Int) := by omega
  have q10 : (((a[k]'hka).toNat : Int) != 10) = false := by rw [show (a[k]'hka).toNat = 10 from h10]; rfl
  have q11 : ((a[k]'hka).toNat : Int) = 10 := by rw [show (a[k]'hka).toNat = 10 from h10]; rfl
  clear h10
  have SA := Aside0.mk (fun (W : World) (hB : Below w.heap.size w W) => lj_split a W (by omega) (spTab_below hT hB) 0 (splL a) eA rfl)
  have SB := Aside0.mk (fun (W : World) (hB : Below w.heap.size w W) => lj_split b W (by omega) (spTab_below hT hB) 0 (splL b) eB rfl)
  have SC := Aside0.mk (fun (W : World) (hB : Below w.heap.size w W) => lj_split (a ++ b) W (by rw [ByteArray.size_append]; omega) (spTab_below hT hB) 0 (splL (a ++ b)) eC rfl)
  have l1 := splL_len a
  have l2 := splL_len b
  have hsm := splL_small2 (a ++ b) (by rw [ByteArray.size_append]; omega)
  clear eA eB eC
  generalize splL a = La at *
  generalize splL b = Lb at *
  generalize splL (a ++ b) = Lc at *
  have nlc : Lc.length = La.length + Lb.length := by rw [hlc, List.length_append]
  have SM := Aside0.mk (fun (W : World) (A B : Option Addr) (p q : Nat) (hA : Rows2 W 0 (.slice A Lc.length p) Lc) (hB : Rows2 W 0 (.slice B (La.length + Lb.length) q) Lc) => lj_same W Lc hsm rfl nlc hA hB)
  replace hlc := Aside0.mk hlc
  replace nlc := Aside0.mk nlc
  go_enter Tryd.func4, Tryd.ntmps4
  go_wp2_with (first | (go_at_call 9; (with_reducible refine AW.mono ?_); rintro e w1 ⟨rfl, b1⟩; have X1 := SA.out w1 b1; clear AW) | (go_at_call 6; (with_reducible refine X1.mono ?_); rintro e w2 ⟨A2, q2, vs2, rfl, h2, o2, i2, d2⟩; have b2 := bnext b1 d2; have X2 := SB.out w2 b2; clear X1 b1) | (go_at_call 6; (with_reducible refine X2.mono ?_); rintro e w3 ⟨A3, q3, vs3, rfl, h3, o3, i3, d3⟩; have b3 := bnext b2 d3; have X3 := SC.out w3 b3; have o2b := pw_own_below o2 d3; have i2b := i2.below d3; clear X2 b2 o2 i2) | (go_at_call 6; (with_reducible refine X3.mono ?_); rintro e w4 ⟨A4, q4, vs4, rfl, h4, o4, i4, d4⟩; have b4 := bnext b3 d4; have O4 := Aside0.mk o4; have I4 := Aside0.mk i4; have o2c := pw_own_below o2b d4; have i2c := Aside0.mk (i2b.below d4); have o3c := pw_own_below o3 d4; have i3c := Aside0.mk (i3.below d4); have n2 := i2c.out.1; have n3 := i3c.out.1; have e2 := own_cells o2c; have O3 := Aside0.mk o3c; clear X3 b3 o2b i2b o3 i3 o4 i4 o3c) | (at_builtin; refine wl_app rfl _ _ rfl w4.heap.size (.slice none 0 0) 0 [] A2 _ q2 vs2 rfl (World.ownsRow_nil _ _ _ _) rfl n2 i2c.out.slices e2 (by omega) (by omega) (Nat.le_refl _) ?_; rintro v5 w5 o5 g5 ⟨A5, q5, rfl⟩; rw [Nat.zero_add] at o5; have d5 : Below w4.heap.size w4 w5 := pw_below_grown (Below.refl _ _) _ (Nat.le_refl _) g5 (fun k e => by { cases e }); have b4s := b4.size; have b5 := bnext b4 d5; have i2d := Aside0.mk (i2c.out.below d5); have i3d := Aside0.mk (i3c.out.below d5); have e3 := own_cells (pw_own_below O3.out d5); have O4b := Aside0.mk (pw_own_below O4.out d5); have I4b := Aside0.mk (I4.out.below d5); have O5 := Aside0.mk o5; have D5 := Aside0.mk d5; have s5 := d5.size; simp only [Nat.zero_add]; clear o2c e2 g5 d5 b4 o5) | (at_builtin; refine wl_app rfl _ _ rfl w4.heap.size (.slice A5 _ q5) _ ([] ++ vs2) A3 _ q3 vs3 rfl O5.out rfl n3 i3d.out.slices e3 (by omega) (by omega) s5 ?_; rintro v6 w6 o6 g6 ⟨A6, q6, rfl⟩; have hkb := own_base O5.out; have b6 := pw_below_grown b5 _ b5.size g6 (fun k e => Nat.le_trans b4s (hkb k e)); have I6 := Aside0.mk ((i2d.out.grown O5.out g6).cat (i3d.out.grown O5.out g6)); have O6 := Aside0.mk o6; have G6 := Aside0.mk g6; have K6 := Aside0.mk hkb; have d6 : Below w4.heap.size w4 w6 := pw_below_grown D5.out _ D5.out.size g6 (fun k e => hkb k e); have X7 := SM.out w6 A4 A6 q4 q6 ⟨vs4, own_le (pw_own_below O4.out d6) (Nat.zero_le _), (I4.out.below d6).1, (I4.out.below d6).2⟩ ⟨vs2 ++ vs3, by { rw [nlc.out]; exact own_le (by { rw [List.nil_append] at o6; exact o6 }) (Nat.zero_le _) }, by { rw [hlc.out]; exact I6.out.1 }, by { rw [hlc.out]; exact I6.out.2 }⟩; clear b5 e3 hkb o6 g6 d6) | (go_at_call 8; (with_reducible refine X7.mono ?_); rintro e w7 ⟨rfl, d7⟩; have b7 := bnext b6 d7; clear X7 b6 d7))
  go_ret
  exact ⟨rfl, b7⟩
set_option maxRecDepth 100000 in
set_option maxHeartbeats 8000000 in
theorem lj_bad1x (a b : ByteArray) (w : World) (hT : spTab w) (ha : a.size ≤ 2000) (hb : b.size ≤ 2000) (k : Nat) (hk : a.size = k + 1) (h10 : (a[k]'(by omega)).toNat = 10) (eA : splE a = 180) (EB : Int) (eB : splE b = EB) (eC : splE (a ++ b) = 180) :
    Calls Tryd.prog 4 #[.string a, .string b] w fun e w' => e = .returned (.bool true) ∧ Below w.heap.size w w' := by
  have AW := postilionlaw18_awake.calls w hT
  have p1 : decide ((2000 : Int) < (a.size : Int)) = false := decide_eq_false (by omega)
  have p2 : decide ((2000 : Int) < (b.size : Int)) = false := decide_eq_false (by omega)
  have p3 : decide ((0 : Int) < (a.size : Int)) = true := decide_eq_true (by omega)
  have kw1 : wrap64 ((a.size : Int) - 1) = (k : Int) := by unfold wrap64; omega
  have hka : k < a.size := by omega
  have hka2 : (k : Int) < (a.size : Int) := by omega
  have hka3 : (0 : Int) ≤ (k : Int) := by omega
  have q10 : (((a[k]'hka).toNat : Int) != 10) = false := by rw [show (a[k]'hka).toNat = 10 from h10]; rfl
  have q11 : ((a[k]'hka).toNat : Int) = 10 := by rw [show (a[k]'hka).toNat = 10 from h10]; rfl
  clear h10
  have SA := Aside0.mk (fun (W : World) (hB : Below w.heap.size w W) => lj_split a W (by omega) (spTab_below hT hB) 180 (splL a) eA rfl)
  have SB := Aside0.mk (fun (W : World) (hB : Below w.heap.size w W) => lj_split b W (by omega) (spTab_below hT hB) EB (splL b) eB rfl)
  have SC := Aside0.mk (fun (W : World) (hB : Below w.heap.size w W) => lj_split (a ++ b) W (by rw [ByteArray.size_append]; omega) (spTab_below hT hB) 180 (splL (a ++ b)) eC rfl)
  clear eA eB eC
  generalize splL a = La at *
  generalize splL b = Lb at *
  generalize splL (a ++ b) = Lc at *
  go_enter Tryd.func4, Tryd.ntmps4
  go_wp2_with (first | (go_at_call 9; (with_reducible refine AW.mono ?_); rintro e w1 ⟨rfl, b1⟩; have X1 := SA.out w1 b1; clear AW) | (go_at_call 6; (with_reducible refine X1.mono ?_); rintro e w2 ⟨A2, q2, vs2, rfl, h2, o2, i2, d2⟩; have b2 := bnext b1 d2; have X2 := SB.out w2 b2; clear X1 b1 o2 i2 d2) | (go_at_call 6; (with_reducible refine X2.mono ?_); rintro e w3 ⟨A3, q3, vs3, rfl, h3, o3, i3, d3⟩; have b3 := bnext b2 d3; have X3 := SC.out w3 b3; clear X2 b2 o3 i3 d3) | (go_at_call 6; (with_reducible refine X3.mono ?_); rintro e w4 ⟨A4, q4, vs4, rfl, h4, o4, i4, d4⟩; have b4 := bnext b3 d4; clear X3 b3 o4 i4 d4))
  go_ret
  exact ⟨rfl, b4⟩
set_option maxRecDepth 100000 in
set_option maxHeartbeats 8000000 in
theorem lj_bad1y (a b : ByteArray) (w : World) (hT : spTab w) (ha : a.size ≤ 2000) (hb : b.size ≤ 2000) (k : Nat) (hk : a.size = k + 1) (h10 : (a[k]'(by omega)).toNat = 10) (eA : splE a = 0) (eB : splE b = 180) (eC : splE (a ++ b) = 180) :
    Calls Tryd.prog 4 #[.string a, .string b] w fun e w' => e = .returned (.bool true) ∧ Below w.heap.size w w' := by
  have AW := postilionlaw18_awake.calls w hT
  have p1 : decide ((2000 : Int) < (a.size : Int)) = false := decide_eq_false (by omega)
  have p2 : decide ((2000 : Int) < (b.size : Int)) = false := decide_eq_false (by omega)
  have p3 : decide ((0 : Int) < (a.size : Int)) = true := decide_eq_true (by omega)
  have kw1 : wrap64 ((a.size : Int) - 1) = (k : Int) := by unfold wrap64; omega
  have hka : k < a.size := by omega
  have hka2 : (k : Int) < (a.size : Int) := by omega
  have hka3 : (0 : Int) ≤ (k : Int) := by omega
  have q10 : (((a[k]'hka).toNat : Int) != 10) = false := by rw [show (a[k]'hka).toNat = 10 from h10]; rfl
  have q11 : ((a[k]'hka).toNat : Int) = 10 := by rw [show (a[k]'hka).toNat = 10 from h10]; rfl
  clear h10
  have SA := Aside0.mk (fun (W : World) (hB : Below w.heap.size w W) => lj_split a W (by omega) (spTab_below hT hB) 0 (splL a) eA rfl)
  have SB := Aside0.mk (fun (W : World) (hB : Below w.heap.size w W) => lj_split b W (by omega) (spTab_below hT hB) 180 (splL b) eB rfl)
  have SC := Aside0.mk (fun (W : World) (hB : Below w.heap.size w W) => lj_split (a ++ b) W (by rw [ByteArray.size_append]; omega) (spTab_below hT hB) 180 (splL (a ++ b)) eC rfl)
  clear eA eB eC
  generalize splL a = La at *
  generalize splL b = Lb at *
  generalize splL (a ++ b) = Lc at *
  go_enter Tryd.func4, Tryd.ntmps4
  go_wp2_with (first | (go_at_call 9; (with_reducible refine AW.mono ?_); rintro e w1 ⟨rfl, b1⟩; have X1 := SA.out w1 b1; clear AW) | (go_at_call 6; (with_reducible refine X1.mono ?_); rintro e w2 ⟨A2, q2, vs2, rfl, h2, o2, i2, d2⟩; have b2 := bnext b1 d2; have X2 := SB.out w2 b2; clear X1 b1 o2 i2 d2) | (go_at_call 6; (with_reducible refine X2.mono ?_); rintro e w3 ⟨A3, q3, vs3, rfl, h3, o3, i3, d3⟩; have b3 := bnext b2 d3; have X3 := SC.out w3 b3; clear X2 b2 o3 i3 d3) | (go_at_call 6; (with_reducible refine X3.mono ?_); rintro e w4 ⟨A4, q4, vs4, rfl, h4, o4, i4, d4⟩; have b4 := bnext b3 d4; clear X3 b3 o4 i4 d4))
  go_ret
  exact ⟨rfl, b4⟩
set_option maxRecDepth 100000 in
set_option maxHeartbeats 8000000 in
theorem lj_ok2 (a b : ByteArray) (w : World) (hT : spTab w) (ha : a.size ≤ 2000) (hb : b.size ≤ 2000) (k : Nat) (hk : a.size = k + 1) (h10 : (a[k]'(by omega)).toNat ≠ 10) (eA : splE (a ++ ⟨#[10]⟩) = 0) (eB : splE b = 0) (eC : splE ((a ++ ⟨#[10]⟩) ++ b) = 0) (hlc : splL ((a ++ ⟨#[10]⟩) ++ b) = splL (a ++ ⟨#[10]⟩) ++ splL b) :
    Calls Tryd.prog 4 #[.string a, .string b] w fun e w' => e = .returned (.bool true) ∧ Below w.heap.size w w' := by
  have AW := postilionlaw18_awake.calls w hT
  have p1 : decide ((2000 : Int) < (a.size : Int)) = false := decide_eq_false (by omega)
  have p2 : decide ((2000 : Int) < (b.size : Int)) = false := decide_eq_false (by omega)
  have p3 : decide ((0 : Int) < (a.size : Int)) = true := decide_eq_true (by omega)
  have kw1 : wrap64 ((a.size : Int) - 1) = (k : Int) := by unfold wrap64; omega
  have hka : k < a.size := by omega
  have hka2 : (k : Int) < (a.size : Int) := by omega
  have hka3 : (0 : Int) ≤ (k : Int) := by omega
  have q10 : (((a[k]'hka).toNat : Int) != 10) = true := by rw [bne_iff_ne]; exact fun e => h10 (by omega)
  clear h10
  have z1 : (a ++ (⟨#[10]⟩ : ByteArray)).size = a.size + 1 := by rw [ByteArray.size_append]; rfl
  have SA := Aside0.mk (fun (W : World) (hB : Below w.heap.size w W) => lj_split (a ++ ⟨#[10]⟩) W (by rw [z1]; omega) (spTab_below hT hB) 0 (splL (a ++ ⟨#[10]⟩)) eA rfl)
  have SB := Aside0.mk (fun (W : World) (hB : Below w.heap.size w W) => lj_split b W (by omega) (spTab_below hT hB) 0 (splL b) eB rfl)
  have SC := Aside0.mk (fun (W : World) (hB : Below w.heap.size w W) => lj_split ((a ++ ⟨#[10]⟩) ++ b) W (by rw [ByteArray.size_append, z1]; omega) (spTab_below hT hB) 0 (splL ((a ++ ⟨#[10]⟩) ++ b)) eC rfl)
  have l1 := splL_len (a ++ ⟨#[10]⟩)
  have l2 := splL_len b
  have hsm := splL_small2 ((a ++ ⟨#[10]⟩) ++ b) (by rw [ByteArray.size_append, z1]; omega)
  clear eA eB eC
  generalize splL (a ++ ⟨#[10]⟩) = La at *
  generalize splL b = Lb at *
  generalize splL ((a ++ ⟨#[10]⟩) ++ b) = Lc at *
  have nlc : Lc.length = La.length + Lb.length := by rw [hlc, List.length_append]
  have SM := Aside0.mk (fun (W : World) (A B : Option Addr) (p q : Nat) (hA : Rows2 W 0 (.slice A Lc.length p) Lc) (hB : Rows2 W 0 (.slice B (La.length + Lb.length) q) Lc) => lj_same W Lc hsm rfl nlc hA hB)
  replace hlc := Aside0.mk hlc
  replace nlc := Aside0.mk nlc
  go_enter Tryd.func4, Tryd.ntmps4
  go_wp2_with (first | (go_at_call 9; (with_reducible refine AW.mono ?_); rintro e w1 ⟨rfl, b1⟩; have X1 := SA.out w1 b1; clear AW) | (go_at_call 6; (with_reducible refine X1.mono ?_); rintro e w2 ⟨A2, q2, vs2, rfl, h2, o2, i2, d2⟩; have b2 := bnext b1 d2; have X2 := SB.out w2 b2; clear X1 b1) | (go_at_call 6; (with_reducible refine X2.mono ?_); rintro e w3 ⟨A3, q3, vs3, rfl, h3, o3, i3, d3⟩; have b3 := bnext b2 d3; have X3 := SC.out w3 b3; have o2b := pw_own_below o2 d3; have i2b := i2.below d3; clear X2 b2 o2 i2) | (go_at_call 6; (with_reducible refine X3.mono ?_); rintro e w4 ⟨A4, q4, vs4, rfl, h4, o4, i4, d4⟩; have b4 := bnext b3 d4; have O4 := Aside0.mk o4; have I4 := Aside0.mk i4; have o2c := pw_own_below o2b d4; have i2c := Aside0.mk (i2b.below d4); have o3c := pw_own_below o3 d4; have i3c := Aside0.mk (i3.below d4); have n2 := i2c.out.1; have n3 := i3c.out.1; have e2 := own_cells o2c; have O3 := Aside0.mk o3c; clear X3 b3 o2b i2b o3 i3 o4 i4 o3c) | (at_builtin; refine wl_app rfl _ _ rfl w4.heap.size (.slice none 0 0) 0 [] A2 _ q2 vs2 rfl (World.ownsRow_nil _ _ _ _) rfl n2 i2c.out.slices e2 (by omega) (by omega) (Nat.le_refl _) ?_; rintro v5 w5 o5 g5 ⟨A5, q5, rfl⟩; rw [Nat.zero_add] at o5; have d5 : Below w4.heap.size w4 w5 := pw_below_grown (Below.refl _ _) _ (Nat.le_refl _) g5 (fun k e => by { cases e }); have b4s := b4.size; have b5 := bnext b4 d5; have i2d := Aside0.mk (i2c.out.below d5); have i3d := Aside0.mk (i3c.out.below d5); have e3 := own_cells (pw_own_below O3.out d5); have O4b := Aside0.mk (pw_own_below O4.out d5); have I4b := Aside0.mk (I4.out.below d5); have O5 := Aside0.mk o5; have D5 := Aside0.mk d5; have s5 := d5.size; simp only [Nat.zero_add]; clear o2c e2 g5 d5 b4 o5) | (at_builtin; refine wl_app rfl _ _ rfl w4.heap.size (.slice A5 _ q5) _ ([] ++ vs2) A3 _ q3 vs3 rfl O5.out rfl n3 i3d.out.slices e3 (by omega) (by omega) s5 ?_; rintro v6 w6 o6 g6 ⟨A6, q6, rfl⟩; have hkb := own_base O5.out; have b6 := pw_below_grown b5 _ b5.size g6 (fun k e => Nat.le_trans b4s (hkb k e)); have I6 := Aside0.mk ((i2d.out.grown O5.out g6).cat (i3d.out.grown O5.out g6)); have O6 := Aside0.mk o6; have G6 := Aside0.mk g6; have K6 := Aside0.mk hkb; have d6 : Below w4.heap.size w4 w6 := pw_below_grown D5.out _ D5.out.size g6 (fun k e => hkb k e); have X7 := SM.out w6 A4 A6 q4 q6 ⟨vs4, own_le (pw_own_below O4.out d6) (Nat.zero_le _), (I4.out.below d6).1, (I4.out.below d6).2⟩ ⟨vs2 ++ vs3, by { rw [nlc.out]; exact own_le (by { rw [List.nil_append] at o6; exact o6 }) (Nat.zero_le _) }, by { rw [hlc.out]; exact I6.out.1 }, by { rw [hlc.out]; exact I6.out.2 }⟩; clear b5 e3 hkb o6 g6 d6) | (go_at_call 8; (with_reducible refine X7.mono ?_); rintro e w7 ⟨rfl, d7⟩; have b7 := bnext b6 d7; clear X7 b6 d7))
  go_ret
  exact ⟨rfl, b7⟩
set_option maxRecDepth 100000 in
set_option maxHeartbeats 8000000 in
theorem lj_bad2x (a b : ByteArray) (w : World) (hT : spTab w) (ha : a.size ≤ 2000) (hb : b.size ≤ 2000) (k : Nat) (hk : a.size = k + 1) (h10 : (a[k]'(by omega)).toNat ≠ 10) (eA : splE (a ++ ⟨#[10]⟩) = 180) (EB : Int) (eB : splE b = EB) (eC : splE ((a ++ ⟨#[10]⟩) ++ b) = 180) :
    Calls Tryd.prog 4 #[.string a, .string b] w fun e w' => e = .returned (.bool true) ∧ Below w.heap.size w w' := by
  have AW := postilionlaw18_awake.calls w hT
  have p1 : decide ((2000 : Int) < (a.size : Int)) = false := decide_eq_false (by omega)
  have p2 : decide ((2000 : Int) < (b.size : Int)) = false := decide_eq_false (by omega)
  have p3 : decide ((0 : Int) < (a.size : Int)) = true := decide_eq_true (by omega)
  have kw1 : wrap64 ((a.size : Int) - 1) = (k : Int) := by unfold wrap64; omega
  have hka : k < a.size := by omega
  have hka2 : (k : Int) < (a.size : Int) := by omega
  have hka3 : (0 : Int) ≤ (k : Int) := by omega
  have q10 : (((a[k]'hka).toNat : Int) != 10) = true := by rw [bne_iff_ne]; exact fun e => h10 (by omega)
  clear h10
  have z1 : (a ++ (⟨#[10]⟩ : ByteArray)).size = a.size + 1 := by rw [ByteArray.size_append]; rfl
  have SA := Aside0.mk (fun (W : World) (hB : Below w.heap.size w W) => lj_split (a ++ ⟨#[10]⟩) W (by rw [z1]; omega) (spTab_below hT hB) 180 (splL (a ++ ⟨#[10]⟩)) eA rfl)
  have SB := Aside0.mk (fun (W : World) (hB : Below w.heap.size w W) => lj_split b W (by omega) (spTab_below hT hB) EB (splL b) eB rfl)
  have SC := Aside0.mk (fun (W : World) (hB : Below w.heap.size w W) => lj_split ((a ++ ⟨#[10]⟩) ++ b) W (by rw [ByteArray.size_append, z1]; omega) (spTab_below hT hB) 180 (splL ((a ++ ⟨#[10]⟩) ++ b)) eC rfl)
  clear eA eB eC
  generalize splL (a ++ ⟨#[10]⟩) = La at *
  generalize splL b = Lb at *
  generalize splL ((a ++ ⟨#[10]⟩) ++ b) = Lc at *
  go_enter Tryd.func4, Tryd.ntmps4
  go_wp2_with (first | (go_at_call 9; (with_reducible refine AW.mono ?_); rintro e w1 ⟨rfl, b1⟩; have X1 := SA.out w1 b1; clear AW) | (go_at_call 6; (with_reducible refine X1.mono ?_); rintro e w2 ⟨A2, q2, vs2, rfl, h2, o2, i2, d2⟩; have b2 := bnext b1 d2; have X2 := SB.out w2 b2; clear X1 b1 o2 i2 d2) | (go_at_call 6; (with_reducible refine X2.mono ?_); rintro e w3 ⟨A3, q3, vs3, rfl, h3, o3, i3, d3⟩; have b3 := bnext b2 d3; have X3 := SC.out w3 b3; clear X2 b2 o3 i3 d3) | (go_at_call 6; (with_reducible refine X3.mono ?_); rintro e w4 ⟨A4, q4, vs4, rfl, h4, o4, i4, d4⟩; have b4 := bnext b3 d4; clear X3 b3 o4 i4 d4))
  go_ret
  exact ⟨rfl, b4⟩
set_option maxRecDepth 100000 in
set_option maxHeartbeats 8000000 in
theorem lj_bad2y (a b : ByteArray) (w : World) (hT : spTab w) (ha : a.size ≤ 2000) (hb : b.size ≤ 2000) (k : Nat) (hk : a.size = k + 1) (h10 : (a[k]'(by omega)).toNat ≠ 10) (eA : splE (a ++ ⟨#[10]⟩) = 0) (eB : splE b = 180) (eC : splE ((a ++ ⟨#[10]⟩) ++ b) = 180) :
    Calls Tryd.prog 4 #[.string a, .string b] w fun e w' => e = .returned (.bool true) ∧ Below w.heap.size w w' := by
  have AW := postilionlaw18_awake.calls w hT
  have p1 : decide ((2000 : Int) < (a.size : Int)) = false := decide_eq_false (by omega)
  have p2 : decide ((2000 : Int) < (b.size : Int)) = false := decide_eq_false (by omega)
  have p3 : decide ((0 : Int) < (a.size : Int)) = true := decide_eq_true (by omega)
  have kw1 : wrap64 ((a.size : Int) - 1) = (k : Int) := by unfold wrap64; omega
  have hka : k < a.size := by omega
  have hka2 : (k : Int) < (a.size : Int) := by omega
  have hka3 : (0 : Int) ≤ (k : Int) := by omega
  have q10 : (((a[k]'hka).toNat : Int) != 10) = true := by rw [bne_iff_ne]; exact fun e => h10 (by omega)
  clear h10
  have z1 : (a ++ (⟨#[10]⟩ : ByteArray)).size = a.size + 1 := by rw [ByteArray.size_append]; rfl
  have SA := Aside0.mk (fun (W : World) (hB : Below w.heap.size w W) => lj_split (a ++ ⟨#[10]⟩) W (by rw [z1]; omega) (spTab_below hT hB) 0 (splL (a ++ ⟨#[10]⟩)) eA rfl)
  have SB := Aside0.mk (fun (W : World) (hB : Below w.heap.size w W) => lj_split b W (by omega) (spTab_below hT hB) 180 (splL b) eB rfl)
  have SC := Aside0.mk (fun (W : World) (hB : Below w.heap.size w W) => lj_split ((a ++ ⟨#[10]⟩) ++ b) W (by rw [ByteArray.size_append, z1]; omega) (spTab_below hT hB) 180 (splL ((a ++ ⟨#[10]⟩) ++ b)) eC rfl)
  clear eA eB eC
  generalize splL (a ++ ⟨#[10]⟩) = La at *
  generalize splL b = Lb at *
  generalize splL ((a ++ ⟨#[10]⟩) ++ b) = Lc at *
  go_enter Tryd.func4, Tryd.ntmps4
  go_wp2_with (first | (go_at_call 9; (with_reducible refine AW.mono ?_); rintro e w1 ⟨rfl, b1⟩; have X1 := SA.out w1 b1; clear AW) | (go_at_call 6; (with_reducible refine X1.mono ?_); rintro e w2 ⟨A2, q2, vs2, rfl, h2, o2, i2, d2⟩; have b2 := bnext b1 d2; have X2 := SB.out w2 b2; clear X1 b1 o2 i2 d2) | (go_at_call 6; (with_reducible refine X2.mono ?_); rintro e w3 ⟨A3, q3, vs3, rfl, h3, o3, i3, d3⟩; have b3 := bnext b2 d3; have X3 := SC.out w3 b3; clear X2 b2 o3 i3 d3) | (go_at_call 6; (with_reducible refine X3.mono ?_); rintro e w4 ⟨A4, q4, vs4, rfl, h4, o4, i4, d4⟩; have b4 := bnext b3 d4; clear X3 b3 o4 i4 d4))
  go_ret
  exact ⟨rfl, b4⟩
theorem lj_ways {A b : ByteArray} (hA : A.size ≤ 2001) (hb : b.size ≤ 2000) (he : A.data.toList = [] ∨ ∃ x, A.data.toList = x ++ [10]) : (splE A = 0 ∧ splE b = 0 ∧ splE (A ++ b) = 0 ∧ splL (A ++ b) = splL A ++ splL b) ∨ (splE A = 180 ∧ splE (A ++ b) = 180) ∨ (splE A = 0 ∧ splE b = 180 ∧ splE (A ++ b) = 180) := by
  have e1 := splE_of (s := A) (by omega)
  have e2 := splE_of (s := b) (by omega)
  have e3 := splE_of (s := A ++ b) (by rw [ByteArray.size_append]; omega)
  rw [okT_app] at e3
  cases h1 : okT A with
  | false =>
    rw [h1] at e1 e3
    exact .inr (.inl ⟨e1, e3⟩)
  | true =>
    cases h2 : okT b with
    | false =>
      rw [h1] at e1 e3
      rw [h2] at e2 e3
      exact .inr (.inr ⟨e1, e2, e3⟩)
    | true =>
      rw [h1] at e1 e3
      rw [h2] at e2 e3
      have e1' : splE A = 0 := e1
      have e2' : splE b = 0 := e2
      have e3' : splE (A ++ b) = 0 := e3
      exact .inl ⟨e1', e2', e3', by rw [splL_ok e1', splL_ok e2', splL_ok e3', app_list, spB_app he]⟩
set_option maxRecDepth 100000 in
set_option maxHeartbeats 8000000 in
theorem postilionlaw18_LinesJoined.calls (a b : ByteArray) (w : World) (hT : spTab w) :
    Calls Tryd.prog 4 #[.string a, .string b] w fun e w' => e = .returned (.bool true) ∧ Below w.heap.size w w' := by
  have AW := postilionlaw18_awake.calls w hT
  by_cases ha : a.size ≤ 2000
  case neg =>
    have p1 : decide ((2000 : Int) < (a.size : Int)) = true := decide_eq_true (by omega)
    go_enter Tryd.func4, Tryd.ntmps4
    go_wp2_with (first | (go_at_call 9; (with_reducible refine AW.mono ?_); rintro e w1 ⟨rfl, b1⟩))
    go_ret
    exact ⟨rfl, b1⟩
  by_cases hb : b.size ≤ 2000
  case neg =>
    have p1 : decide ((2000 : Int) < (a.size : Int)) = false := decide_eq_false (by omega)
    have p2 : decide ((2000 : Int) < (b.size : Int)) = true := decide_eq_true (by omega)
    go_enter Tryd.func4, Tryd.ntmps4
    go_wp2_with (first | (go_at_call 9; (with_reducible refine AW.mono ?_); rintro e w1 ⟨rfl, b1⟩))
    go_ret
    exact ⟨rfl, b1⟩
  clear AW
  by_cases h0 : a.size = 0
  · skip
    rcases lj_ways (A := a) (b := b) (by omega) (by omega) (.inl (by rw [← List.length_eq_zero_iff, data_length]; exact h0)) with ⟨e1, e2, e3, e4⟩ | ⟨e1, e3⟩ | ⟨e1, e2, e3⟩
    · exact lj_ok0 a b w hT ha hb h0 e1 e2 e3 e4
    · exact lj_bad0x a b w hT ha hb h0 e1 _ rfl e3
    · exact lj_bad0y a b w hT ha hb h0 e1 e2 e3
  obtain ⟨k, hk⟩ : ∃ k, a.size = k + 1 := ⟨a.size - 1, by omega⟩
  by_cases h10 : (a[k]'(by omega)).toNat = 10
  · skip
    rcases lj_ways (A := a) (b := b) (by omega) (by omega) (.inr (ends_10 hk h10)) with ⟨e1, e2, e3, e4⟩ | ⟨e1, e3⟩ | ⟨e1, e2, e3⟩
    · exact lj_ok1 a b w hT ha hb k hk h10 e1 e2 e3 e4
    · exact lj_bad1x a b w hT ha hb k hk h10 e1 _ rfl e3
    · exact lj_bad1y a b w hT ha hb k hk h10 e1 e2 e3
  · have z1 : (a ++ (⟨#[10]⟩ : ByteArray)).size = a.size + 1 := by rw [ByteArray.size_append]; rfl
    rcases lj_ways (A := (a ++ ⟨#[10]⟩)) (b := b) (by rw [z1]; omega) (by omega) (.inr ⟨_, app_list a ⟨#[10]⟩⟩) with ⟨e1, e2, e3, e4⟩ | ⟨e1, e3⟩ | ⟨e1, e2, e3⟩
    · exact lj_ok2 a b w hT ha hb k hk h10 e1 e2 e3 e4
    · exact lj_bad2x a b w hT ha hb k hk h10 e1 _ rfl e3
    · exact lj_bad2y a b w hT ha hb k hk h10 e1 e2 e3
/-- THE ONE PURE STATEMENT of postilionlaw18_LinesJoined. -/
def postilionlaw18_LinesJoined.Pure : Prop := ∀ (a0 a1 : ByteArray), a0.size ≤ 140737488351232 → a1.size ≤ 140737488351232 → ∃ k, postilionlaw18_LinesJoined.f k a0 a1 = some true
theorem postilionlaw18_LinesJoined.walk (P : postilionlaw18_LinesJoined.Pure) (a0 a1 : ByteArray) (w : World) (w0 : a0.size ≤ 140737488351232) (w1 : a1.size ≤ 140737488351232) (ht : spTab w) :
    Calls Tryd.prog 4 #[.string a0, .string a1] w fun e w' => e = .returned (.bool true) ∧ Below w.heap.size w w' := postilionlaw18_LinesJoined.calls a0 a1 w ht

end Go.Proofs.YtpllckhmnjgohaaDoor.P
