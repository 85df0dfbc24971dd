import Derived.Test.YtnndmbhfolgohaaDoorSLsplitSeq
import Derived.Test.YtnndmbhfolgohaaDoorSLtokenNext
namespace Go.Proofs.YtnndmbhfolgohaaDoor.P
open Go.RowKit Go.Proofs.YtnndmbhfolgohaaDoorW.PrintWords Go.Proofs.YtnndmbhfolgohaaDoorW.PrintLast Go.Proofs.YtnndmbhfolgohaaDoorW.PrintMore
set_option linter.unusedVariables false
set_option linter.unusedSimpArgs false
set_option linter.unnecessarySimpa false
attribute [local go_sem] max2_int min2_int max_two min_two max_three min_three max_four min_four
set_option linter.unusedVariables false
set_option linter.unusedSimpArgs false
set_option linter.unnecessarySimpa false
attribute [local go_sem] Oper.semAt_some
/-! ### token.Parse -/
def parE (s : ByteArray) (c : UInt8) : Int := if ltB (c.toNat : Int) = true then 2 else if s.size = 0 then 0 else if mayB (texts c s) = true then 0 else 6
def parL (s : ByteArray) (c : UInt8) : List ByteArray := if ltB (c.toNat : Int) = true then [] else if s.size = 0 then [] else if mayB (texts c s) = true then texts c s else []
theorem results_cell2 {fn : Func} {p q : Tmp} {ty ty' : TypeId} (h : fn.results = #[.cell p ty, .cell q ty']) (tmps : Array Value) (P : Program) (w : World) :
    (results fn tmps).run P w =
      ((asAddr (tmps.getD p undef)).run P w).andThen fun a w₁ => ((loadVar ty a).run P w₁).andThen fun v w₂ => ((asAddr (tmps.getD q undef)).run P w₂).andThen fun b w₃ => ((loadVar ty' b).run P w₃).andThen fun v' w₄ => .ok (.tuple #[v, v']) w₄ := by
  simp only [results, h]
  simp [Sem.run_bind, Result.andThen]
theorem boxed_below {W W' : World} {B : Nat} {t : TypeId} {v : Value} (h : Boxed W B t v) (hb : Below W.heap.size W W') : Boxed W' B t v := (hb.block _ h.lt).trans h
theorem own_le {w : World} {base base' size n : Nat} {e : TypeId} {v : Value} {xs : List Value} (h : w.ownsRow base e size v n xs) (hb : base' ≤ base) : w.ownsRow base' e size v n xs :=
  ⟨h.1, h.2.elim Or.inl (fun ⟨g, cap, cur, hv, hg, r⟩ => Or.inr ⟨g, cap, cur, hv, Nat.le_trans hb hg, r⟩)⟩
theorem own_ge {W : World} {n₀ : Nat} {e : TypeId} {size k : Nat} {v : Value} {xs : List Value} (h : W.ownsRow n₀ e size v k xs) (j : Nat) (hj : j < n₀) : some j ≠ v.ownBlock := by
  rcases h.2 with ⟨rfl, _⟩ | ⟨g, cap, cur, rfl, hg, _⟩
  · intro e; cases e
  · intro e
    have e1 : j = g := Option.some.inj e
    omega
theorem boxed_appended {W w1 : World} {n₀ m₀ B : Nat} {t e : TypeId} {size : Nat} {v v' : Value} {k m : Nat} {xs ys : List Value} {tmp : Obj}
    (hv : Boxed W B t v) (hte : t ≠ e) (hrow : W.ownsRow n₀ e size v k xs) (hm : m₀ ≤ n₀) (hn₀ : n₀ ≤ W.heap.size) (hB : m₀ ≤ B)
    (hown' : w1.ownsRow n₀ e size v' m ys) (hgrow : (W.alloc tmp).grownBy w1 v.ownBlock) :
    Boxed w1 B t v ∧ Boxed (w1.setCell ⟨B, 0, none⟩ v') B t v' ∧ (w1.setCell ⟨B, 0, none⟩ v').ownsRow n₀ e size v' m ys ∧ KeepsOthers W (w1.setCell ⟨B, 0, none⟩ v') ∧ Below m₀ W (w1.setCell ⟨B, 0, none⟩ v') ∧
      (∀ (j : Nat) (t' : TypeId) (u : Value), j < n₀ → j ≠ B → Boxed W j t' u → Boxed (w1.setCell ⟨B, 0, none⟩ v') j t' u) := by
  obtain ⟨p1, p2, _, p4, p5⟩ := hv.appended hte (own_le hrow hm) (Nat.le_trans hm hn₀) hB (own_le hown' hm) hgrow
  exact ⟨p1, p2, hown'.kept (grownBy_setCell' w1 B v') (.inr (p1.not_row hte hown').symm), p4, p5, fun j t' u hj hjB hb => Boxed.other ((hb.alloc tmp).kept hgrow (own_ge hrow j hj)) hjB v'⟩
theorem piecesL_le (c : UInt8) : ∀ (l p : List UInt8), p ∈ piecesL c l → p.length ≤ l.length
  | [], p, h => by
    unfold piecesL at h
    simp at h
    subst h
    exact Nat.le_refl _
  | x :: xs, p, h => by
    by_cases hx : x = c
    · subst hx
      rw [piecesL_same] at h
      rcases List.mem_cons.1 h with rfl | h
      · simp
      · have := piecesL_le x xs p h
        simp
        omega
    · cases e : piecesL c xs with
      | nil => exact absurd e (piecesL_ne c xs)
      | cons q qs =>
        rw [piecesL_step hx e] at h
        rcases List.mem_cons.1 h with rfl | h
        · have := piecesL_le c xs q (by rw [e]; exact List.mem_cons_self ..)
          simp
          omega
        · have := piecesL_le c xs p (by rw [e]; exact List.mem_cons_of_mem _ h)
          simp
          omega
theorem texts_le {c : UInt8} {s x : ByteArray} (h : x ∈ texts c s) : x.size ≤ s.size := by
  unfold texts at h
  obtain ⟨p, hp, rfl⟩ := List.mem_map.1 h
  have := piecesL_le c _ p hp
  rw [data_length] at this
  show p.toArray.size ≤ s.size
  rw [List.size_toArray]
  exact this
theorem take_snocD {l : List ByteArray} {k : Nat} (h : k < l.length) : l.take (k + 1) = l.take k ++ [l.getD k ByteArray.empty] ∧ l.getD k ByteArray.empty ∈ l := by
  rw [List.take_succ_eq_append_getElem h, List.getD_eq_getElem?_getD, List.getElem?_eq_getElem h]
  exact ⟨rfl, List.getElem_mem h⟩
theorem mayB_long {l : List ByteArray} (h : 8 < l.length) : mayB l = false := by
  unfold mayB
  rw [decide_eq_false (by omega), Bool.false_and]
theorem mayB_odd {l : List ByteArray} {x : ByteArray} (h : x ∈ l) (hx : idB x = false) : mayB l = false := by
  unfold mayB
  rw [show l.all idB = false from List.all_eq_false.2 ⟨x, h, by rw [hx]; decide⟩, Bool.and_false]
set_option maxHeartbeats 2000000 in
set_option maxRecDepth 100000 in
theorem tk_Parse_in (s : ByteArray) (c : UInt8) (W : World) (hs : s.size ≤ 1000000) (n : Nat) (hn : 8 ≤ n) : CallsIn Fence.wide n Tryd.prog 14 #[.string s, .int .u8 (c.toNat : Int)] W fun e W' => ∃ v, e = .returned (.tuple #[v, .int .i64 (parE s c)]) ∧ W'.ownsRow W.heap.size 9 1 v (parL s c).length (strs (parL s c)) ∧ Below W.heap.size W W' := by
  have h1 : 1 ≤ n := by omega
  have LT := fun W => tk_letter (c.toNat : Int) W
  obtain ⟨i0, hi, hz0, hz1, hz2⟩ := info_parts infoStr
  refine callsIn_of_wp_marks Tryd.func14 rfl trivial ?_ rfl
  simp only [Tryd.ntmps14, List.size_toArray, List.length_cons, List.length_nil, Nat.reduceAdd, Nat.reduceSub, Array.replicate_succ, Array.replicate_zero, List.push_toArray, List.append_toArray, List.nil_append, List.cons_append]
  unfold parE parL
  cases hl : ltB (c.toNat : Int) with
  | true =>
    rw [hl] at LT
    simp only [if_true, ite_true]
    clear hl
    gi_wp2
    have hB2 : Below W.heap.size W ((W.alloc (.cells #[.slice none 0 0] 22)).alloc (.cells #[.int .i64 0] 26)) := ((Below.refl _ W).alloc (Nat.le_refl _) _).alloc (by simp) _
    have b4 := (Boxed.new W 22 (.slice none 0 0)).alloc (.cells #[.int .i64 0] 26)
    have b5 := Boxed.new (W.alloc (.cells #[.slice none 0 0] 22)) 26 (.int .i64 0)
    rw [World.size_alloc] at b5
    refine ⟨trivial, (callsIn_wide.2 (LT _)).mono ?_⟩
    generalize (W.alloc (.cells #[.slice none 0 0] 22)).alloc (.cells #[.int .i64 0] 26) = W2 at hB2 b4 b5
    rintro e w1 ⟨rfl, d1⟩
    replace b4 := boxed_below b4 d1.below
    replace b5 := boxed_below b5 d1.below
    replace hB2 := hB2.trans (d1.below.mono hB2.size)
    have c4 := b4.cell
    have c5 := b5.cell
    have f4 := b4.frozen
    have f5 := b5.frozen
    clear d1
    gi_wp2
    replace b4 := b4.set (.slice none 0 0)
    replace b5 := (Boxed.other b5 (by omega : W.heap.size + 1 ≠ W.heap.size) (.slice none 0 0)).set (.int .i64 2)
    replace b4 := Boxed.other b4 (by omega : W.heap.size ≠ W.heap.size + 1) (.int .i64 2)
    replace hB2 := (hB2.setCell (p := ⟨W.heap.size, 0, none⟩) (Nat.le_refl _) (.slice none 0 0)).setCell (p := ⟨W.heap.size + 1, 0, none⟩) (by simp) (.int .i64 2)
    generalize (w1.setCell ⟨W.heap.size, 0, none⟩ (.slice none 0 0)).setCell ⟨W.heap.size + 1, 0, none⟩ (.int .i64 2) = W3 at b4 b5 hB2 ⊢
    replace c4 := b4.cell
    replace c5 := b5.cell
    refine ⟨.tuple #[.slice none 0 0, .int .i64 2], ?res, .slice none 0 0, rfl, World.ownsRow_nil _ _ _ _, hB2⟩
    case res =>
      rw [results_cell2 rfl]
      go_simp
  | false =>
   rw [hl] at LT
   by_cases h0 : s.size = 0
   · obtain rfl : s = ⟨#[]⟩ := by
      obtain ⟨d⟩ := s
      have : d.size = 0 := h0
      rw [Array.eq_empty_of_size_eq_zero this]
     clear h0 hl
     simp only [if_true, if_false, Bool.false_eq_true, ByteArray.size, Array.size, List.length_nil]
     gi_wp2
     have hB2 : Below W.heap.size W ((W.alloc (.cells #[.slice none 0 0] 22)).alloc (.cells #[.int .i64 0] 26)) := ((Below.refl _ W).alloc (Nat.le_refl _) _).alloc (by simp) _
     have b4 := (Boxed.new W 22 (.slice none 0 0)).alloc (.cells #[.int .i64 0] 26)
     have b5 := Boxed.new (W.alloc (.cells #[.slice none 0 0] 22)) 26 (.int .i64 0)
     rw [World.size_alloc] at b5
     refine ⟨trivial, (callsIn_wide.2 (LT _)).mono ?_⟩
     generalize (W.alloc (.cells #[.slice none 0 0] 22)).alloc (.cells #[.int .i64 0] 26) = W2 at hB2 b4 b5
     rintro e w1 ⟨rfl, d1⟩
     replace b4 := boxed_below b4 d1.below
     replace b5 := boxed_below b5 d1.below
     replace hB2 := hB2.trans (d1.below.mono hB2.size)
     have c4 := b4.cell
     have c5 := b5.cell
     have f4 := b4.frozen
     have f5 := b5.frozen
     clear d1
     gi_wp2
     replace b4 := b4.set (.slice none 0 0)
     replace b5 := (Boxed.other b5 (by omega : W.heap.size + 1 ≠ W.heap.size) (.slice none 0 0)).set (.int .i64 0)
     replace b4 := Boxed.other b4 (by omega : W.heap.size ≠ W.heap.size + 1) (.int .i64 0)
     replace hB2 := (hB2.setCell (p := ⟨W.heap.size, 0, none⟩) (Nat.le_refl _) (.slice none 0 0)).setCell (p := ⟨W.heap.size + 1, 0, none⟩) (by simp) (.int .i64 0)
     generalize (w1.setCell ⟨W.heap.size, 0, none⟩ (.slice none 0 0)).setCell ⟨W.heap.size + 1, 0, none⟩ (.int .i64 0) = W3 at b4 b5 hB2 ⊢
     replace c4 := b4.cell
     replace c5 := b5.cell
     refine ⟨.tuple #[.slice none 0 0, .int .i64 0], ?res, .slice none 0 0, rfl, World.ownsRow_nil _ _ _ _, hB2⟩
     case res =>
       rw [results_cell2 rfl]
       go_simp
   · have hne : s.toList.isEmpty = false := tk_full h0
     have hne2 : (s.toList = []) = False := eq_false (fun e => by rw [e] at hne; cases hne)
     simp only [if_false, Bool.false_eq_true, if_neg h0]
     have SP := fun W => sp_SplitSeq s c W
     gi_wp2
     have hB2 : Below W.heap.size W ((W.alloc (.cells #[.slice none 0 0] 22)).alloc (.cells #[.int .i64 0] 26)) := ((Below.refl _ W).alloc (Nat.le_refl _) _).alloc (by simp) _
     have b4 := (Boxed.new W 22 (.slice none 0 0)).alloc (.cells #[.int .i64 0] 26)
     have b5 := Boxed.new (W.alloc (.cells #[.slice none 0 0] 22)) 26 (.int .i64 0)
     rw [World.size_alloc] at b5
     refine ⟨trivial, (callsIn_wide.2 (LT _)).mono ?_⟩
     generalize (W.alloc (.cells #[.slice none 0 0] 22)).alloc (.cells #[.int .i64 0] 26) = W2 at hB2 b4 b5
     rintro e w1 ⟨rfl, d1⟩
     replace b4 := boxed_below b4 d1.below
     replace b5 := boxed_below b5 d1.below
     replace hB2 := hB2.trans (d1.below.mono hB2.size)
     have c4 := b4.cell
     have c5 := b5.cell
     have f4 := b4.frozen
     have f5 := b5.frozen
     clear d1
     have hcv := run_convert_bytes_back (P := Tryd.prog) ((w1.alloc (.cells #[.slice none 0 0] 22)).alloc (.cells #[.int .u8 (c.toNat : Int)] 5)) 48 9 5 ⟨w1.heap.size + 1, 0, none⟩ 1 [c] Tryd.underlying48 Tryd.underlying5 Tryd.underlying9 (fun j hj => by
       obtain rfl : j = 0 := by simp at hj; omega
       have := World.cell?_alloc_new (w1.alloc (.cells #[.slice none 0 0] 22)) #[.int .u8 (c.toNat : Int)] 5 0
       rw [World.size_alloc] at this
       simpa [Addr.add] using this)
     simp only [List.length_cons, List.length_nil, Nat.zero_add] at hcv
     have hlt5 : W.heap.size + 1 < w1.heap.size := b5.lt
     have b6 := (Boxed.new w1 22 (.slice none 0 0)).alloc (.cells #[.int .u8 (c.toNat : Int)] 5)
     replace b4 := (b4.alloc (.cells #[.slice none 0 0] 22)).alloc (.cells #[.int .u8 (c.toNat : Int)] 5)
     replace b5 := (b5.alloc (.cells #[.slice none 0 0] 22)).alloc (.cells #[.int .u8 (c.toNat : Int)] 5)
     have hw1 := hB2.size
     replace hB2 := (hB2.alloc (by omega) (.cells #[.slice none 0 0] 22)).alloc (by simp; omega) (.cells #[.int .u8 (c.toNat : Int)] 5)
     gi_wp2
     refine ⟨trivial, (callsIn_wide.2 (SP _)).mono ?_⟩
     generalize (w1.alloc (.cells #[.slice none 0 0] 22)).alloc (.cells #[.int .u8 (c.toNat : Int)] 5) = W2 at hB2 b4 b5 b6
     rintro e w2 ⟨rfl, hSees, hb2, hsz2⟩
     have hlt6 := b6.lt
     replace b4 := boxed_below b4 hb2
     replace b5 := boxed_below b5 hb2
     replace b6 := boxed_below b6 hb2
     replace hB2 := hB2.trans (hb2.mono hB2.size)
     have hne' : (w1.heap.size : Nat) ≠ W2.heap.size := by omega
     clear hb2 SP LT hne hne2 h0 c4 c5 f4 f5 hcv
     gi_wp2
     refine wpIn_rangeN h1 (gf := 38) rfl (enters_of Tryd.func38 (by kernel_rfl) rfl) (sp_seqN W2.heap.size c s (n - 1) (by omega) w2 hSees hs) (Below.refl _ _) rfl spKeeps_t (fun X l o o' _ h hc => spKeeps_b X l o o' h hc) (fun A B h j o _ hj hc => spTurns_others A B h j o hj hc)
       (fun k X => (∃ v, Boxed X w1.heap.size 22 v ∧ X.ownsRow w2.heap.size 9 1 v k (strs ((texts c s).take k)) ∧ True) ∧ Boxed X W.heap.size 22 (.slice none 0 0) ∧ Boxed X (W.heap.size + 1) 26 (.int .i64 0) ∧ Below W.heap.size W X ∧ k ≤ 8 ∧ ((texts c s).take k).all idB = true)
       (fun cd k X => cd = .ret ∧ Boxed X W.heap.size 22 (.slice none 0 0) ∧ Boxed X (W.heap.size + 1) 26 (.int .i64 6) ∧ Below W.heap.size W X ∧ mayB (texts c s) = false)
       ?ownI ?ownX ?turn ?init
       (fun x => { tmps := #[.string s, .int .u8 (c.toNat : Int), undef, undef, .pointer (some ⟨W.heap.size, 0, none⟩), .pointer (some ⟨W.heap.size + 1, 0, none⟩), .pointer (some ⟨w1.heap.size, 0, none⟩), .string x, .bool false, .int .u8 (c.toNat : Int), .bool false, .bool false, .string s, .bool false, .string s, .int .u8 (c.toNat : Int), .slice (some ⟨w1.heap.size + 1, 0, none⟩) 1 1, .string ⟨#[c]⟩, .func (.func 38) #[] #[.pointer (some ⟨W2.heap.size + 1, 0, none⟩), .pointer (some ⟨W2.heap.size, 0, none⟩), .pointer (some ⟨W2.heap.size + 2, 0, none⟩)], .string x, undef, undef, undef, undef, undef, undef, undef, undef, undef, undef, undef, undef, undef], defers := [] }) ?assign ?body ?done ?stop
     case ownI =>
       exact OwnFrom.and (Own.from (holdsRow_own w2.heap.size w1.heap.size 22 9 1 (fun k : Nat => k) (fun k => strs ((texts c s).take k)) (fun _ _ => True)) _) (OwnFrom.and (Own.from (boxed_own _ _ (fun _ => _)) _) (OwnFrom.and (Own.from (boxed_own _ _ (fun _ => _)) _) (OwnFrom.and (ownFrom_below (Nat.le_refl _) hB2.size) (ownFrom_pure _ _))))
     case ownX =>
       intro cd
       exact OwnFrom.and (ownFrom_pure _ _) (OwnFrom.and (Own.from (boxed_own _ _ (fun _ => _)) _) (OwnFrom.and (Own.from (boxed_own _ _ (fun _ => _)) _) (OwnFrom.and (ownFrom_below (Nat.le_refl _) hB2.size) (ownFrom_pure _ _))))
     case turn =>
       rintro k A B ⟨v, rfl⟩ ⟨⟨u, hu, hr, _⟩, h4, h5, hB, hk⟩
       refine ⟨⟨u, Boxed.other hu hne' _, hr.kept (grownBy_setCell' A _ v) (.inr ?_), trivial⟩, Boxed.other h4 (by omega) _, Boxed.other h5 (by omega) _, hB.setCell (p := ⟨W2.heap.size, 0, none⟩) (by simp only; omega) v, hk⟩
       intro e
       rcases hr.2 with ⟨rfl, _⟩ | ⟨g, cap, cur, rfl, hg, _⟩
       · cases e
       · have e1 : g = W2.heap.size := Option.some.inj e
         omega
     case init =>
       exact ⟨⟨_, b6, World.ownsRow_nil _ _ _ _, trivial⟩, b4, b5, hB2, Nat.zero_le _, rfl⟩
     case assign =>
       intro l x X K hK
       gi_wp2
       exact hK
     case body =>
       rintro lp k X hlp ⟨r0, hr0⟩ ⟨⟨v, hv, hrow, _⟩, h4, h5, hB, hk8, hall⟩ hk
       have hc := hv.cell
       obtain ⟨hT, hmem⟩ := take_snocD hk
       have hxs : ((texts c s).getD k ByteArray.empty).size ≤ 1000000 := Nat.le_trans (texts_le hmem) hs
       generalize (texts c s).getD k ByteArray.empty = x at hT hmem hxs
       have ID := fun Z => tk_ID x Z hxs
       have hX := (Array.getElem?_eq_some_iff.1 hr0).1
       have hn2 : w2.heap.size ≤ X.heap.size := by omega
       have hBs := hB.size
       obtain ⟨L, hL⟩ : ∃ L, L = strs ((texts c s).take k) := ⟨_, rfl⟩
       rw [← hL] at hrow
       have HT := Aside0.mk (show strs ((texts c s).take (k + 1)) = L ++ [.string x] by rw [hT, hL]; unfold strs; rw [List.map_append]; rfl)
       have HA := Aside0.mk (show ((texts c s).take (k + 1)).all idB = idB x by rw [hT, List.all_append, hall]; simp)
       have HK := Aside0.mk hk
       have HM := Aside0.mk hmem
       have H4 := Aside0.mk h4
       have H5 := Aside0.mk h5
       clear hT hmem hall hk hxs h4 h5 hL
       have base : ∀ (t' : TypeId), True := fun _ => trivial
       gi_wp2_with (gi_at_builtin; refine wpListIn_append_own _ rfl _ _ 22 rfl w2.heap.size 9 i0 (.string ⟨#[]⟩) 1 16 Tryd.underlying22 hi hz0 hz1 hz2 rfl (by decide) _ _ _ rfl (hrow.alloc _) ⟨X.heap.size, 0, none⟩ 1 1 [.string x] rfl rfl (cell_one_new _ _ _) (by simp [Value.oneCell']) (by unfold maxLen; omega) (by omega) (by simp; omega) ?_; intro v' w3 hown' hgrow _; obtain ⟨g', cap', rfl⟩ := ownsRow_succ hown'; obtain ⟨hv1, hv2, hr2, hk2, hb2, hoth⟩ := boxed_appended (m₀ := W.heap.size) hv (by decide) hrow (by omega) hn2 (by omega) hown' hgrow; have hc1 := hv1.cell; have hf1 := hv1.frozen)
       have HB3 := Aside0.mk (show spKeeps W2.heap.size c X (w3.setCell ⟨w1.heap.size, 0, none⟩ (.slice (some ⟨g', 0, none⟩) (k + 1) cap')) from fun r hr => ⟨hoth _ _ _ (by omega) (by omega) hr.1, hoth _ _ _ (by omega) (by omega) hr.2.1, hoth _ _ _ (by omega) (by omega) hr.2.2⟩)
       replace h4 := hoth _ _ _ (by omega) (by omega) H4.out
       replace h5 := hoth _ _ _ (by omega) (by omega) H5.out
       have HR2 := Aside0.mk hr2
       have HK2 := Aside0.mk (hk2.from w2.heap.size)
       have HBB := Aside0.mk (hB.trans hb2)
       have hX3 : w2.heap.size ≤ (w3.setCell ⟨w1.heap.size, 0, none⟩ (.slice (some ⟨g', 0, none⟩) (k + 1) cap')).heap.size := Nat.le_trans hn2 hk2.size
       generalize w3.setCell ⟨w1.heap.size, 0, none⟩ (.slice (some ⟨g', 0, none⟩) (k + 1) cap') = w4 at *
       have I4 := ID w4
       clear ID hr2 hk2 hb2 hoth hown' hgrow hv1 hc1 hf1 hrow hv hc hB
       cases hid : idB x with
       | true =>
         rw [hid] at I4
         by_cases h9 : k = 8
         · subst h9
           have HML := Aside0.mk (show mayB (texts c s) = false from mayB_long (by have := HK.out; omega))
           refine ⟨trivial, fun h => (by cases h), (callsIn_wide.2 I4).mono ?_⟩
           rintro e w5 ⟨rfl, d5⟩
           replace hv2 := boxed_below hv2 d5.below
           replace h4 := boxed_below h4 d5.below
           replace h5 := boxed_below h5 d5.below
           have c6 := hv2.cell
           have k4 := h4.cell
           have k5 := h5.cell
           have f4 := h4.frozen
           have f5 := h5.frozen
           have hBd := HBB.out.trans (d5.below.mono HBB.out.size)
           have hKd := HK2.out.trans (KeepsFrom.of_grownBy (B := w2.heap.size) (grown_of_below d5.below none) (fun j e => by cases e))
           clear d5
           gi_wp2
           refine ⟨(hKd.trans ((KeepsOthers.setCell _ _ _).from _)).trans ((KeepsOthers.setCell _ _ _).from _), rfl, Boxed.other (h4.set _) (by omega) _, (Boxed.other h5 (by omega) _).set _, (hBd.setCell (p := ⟨W.heap.size, 0, none⟩) (Nat.le_refl _) _).setCell (p := ⟨W.heap.size + 1, 0, none⟩) (by simp only; omega) _, HML.out⟩
         · refine ⟨trivial, fun h => (by cases h), (callsIn_wide.2 I4).mono ?_⟩
           rintro e w5 ⟨rfl, d5⟩
           replace hv2 := boxed_below hv2 d5.below
           have c6 := hv2.cell
           gi_wp2
           exact ⟨HK2.out.trans (KeepsFrom.of_grownBy (grown_of_below d5.below none) (fun j e => by cases e)), fun r hr => ⟨boxed_below (HB3.out r hr).1 d5.below, boxed_below (HB3.out r hr).2.1 d5.below, boxed_below (HB3.out r hr).2.2 d5.below⟩, ⟨_, hv2, by rw [HT.out]; exact pw_own_below HR2.out d5.below, trivial⟩, boxed_below h4 d5.below, boxed_below h5 d5.below, HBB.out.trans (d5.below.mono HBB.out.size), by omega, by rw [HA.out, hid]⟩
       | false =>
         rw [hid] at I4
         have HML := Aside0.mk (show mayB (texts c s) = false from mayB_odd HM.out hid)
         refine ⟨trivial, fun h => (by cases h), (callsIn_wide.2 I4).mono ?_⟩
         rintro e w5 ⟨rfl, d5⟩
         replace hv2 := boxed_below hv2 d5.below
         replace h4 := boxed_below h4 d5.below
         replace h5 := boxed_below h5 d5.below
         have c6 := hv2.cell
         have k4 := h4.cell
         have k5 := h5.cell
         have f4 := h4.frozen
         have f5 := h5.frozen
         have hBd := HBB.out.trans (d5.below.mono HBB.out.size)
         have hKd := HK2.out.trans (KeepsFrom.of_grownBy (B := w2.heap.size) (grown_of_below d5.below none) (fun j e => by cases e))
         clear d5
         gi_wp2
         refine ⟨(hKd.trans ((KeepsOthers.setCell _ _ _).from _)).trans ((KeepsOthers.setCell _ _ _).from _), rfl, Boxed.other (h4.set _) (by omega) _, (Boxed.other h5 (by omega) _).set _, (hBd.setCell (p := ⟨W.heap.size, 0, none⟩) (Nat.le_refl _) _).setCell (p := ⟨W.heap.size + 1, 0, none⟩) (by simp only; omega) _, HML.out⟩
     case done =>
       rintro D X hD ⟨⟨v, hv, hrow, _⟩, h4, h5, hB, hk8, hall⟩ hK
       rw [List.take_of_length_le (Nat.le_refl _)] at hrow hall
       have hm : mayB (texts c s) = true := by
         unfold mayB
         rw [decide_eq_true hk8, hall]
         rfl
       simp only [hm, if_true]
       have c6 := hv.cell
       have k4 := h4.cell
       have k5 := h5.cell
       have f4 := h4.frozen
       have f5 := h5.frozen
       obtain ⟨A, q, ev⟩ : ∃ A q, v = .slice A (texts c s).length q := by
         rcases hrow.2 with ⟨e1, e2⟩ | ⟨g, cap, cur, e1, _⟩
         · exact ⟨none, 0, by rw [e1, e2]⟩
         · exact ⟨_, _, e1⟩
       subst ev
       gi_wp2
       have g4 := Boxed.other (h4.set (.slice A (texts c s).length q)) (by omega : W.heap.size ≠ W.heap.size + 1) (.int .i64 0)
       have g5 := (Boxed.other h5 (by omega : W.heap.size + 1 ≠ W.heap.size) (.slice A (texts c s).length q)).set (.int .i64 0)
       have gB := (hB.setCell (p := ⟨W.heap.size, 0, none⟩) (Nat.le_refl _) (.slice A (texts c s).length q)).setCell (p := ⟨W.heap.size + 1, 0, none⟩) (by simp only; omega) (.int .i64 0)
       have gK := (KeepsOthers.setCell (X.setCell ⟨W.heap.size, 0, none⟩ (.slice A (texts c s).length q)) ⟨W.heap.size + 1, 0, none⟩ (.int .i64 0)).same _ _ ((KeepsOthers.setCell X ⟨W.heap.size, 0, none⟩ (.slice A (texts c s).length q)).same _ _ hK rfl) rfl
       have gr := (hrow.kept (grownBy_setCell' X W.heap.size (.slice A (texts c s).length q)) (.inr (fun e => own_ge hrow W.heap.size (by omega) e.symm)))
       replace gr := gr.kept (grownBy_setCell' _ (W.heap.size + 1) (.int .i64 0)) (.inr (fun e => own_ge hrow (W.heap.size + 1) (by omega) e.symm))
       generalize (X.setCell ⟨W.heap.size, 0, none⟩ (.slice A (texts c s).length q)).setCell ⟨W.heap.size + 1, 0, none⟩ (.int .i64 0) = Y at g4 g5 gB gK gr ⊢
       refine ⟨by simp, .inl ⟨_, _, rfl, run_takeDeferred gK, ?_⟩⟩
       have k1 := (g4.kept (grownBy_putObj' Y D (.deferred none)) (fun e => by have e1 : W.heap.size = D := Option.some.inj e; omega)).cell
       have k2 := (g5.kept (grownBy_putObj' Y D (.deferred none)) (fun e => by have e1 : W.heap.size + 1 = D := Option.some.inj e; omega)).cell
       refine ⟨.tuple #[.slice A (texts c s).length q, .int .i64 0], ?res, _, rfl, own_le (ownsRow_putObj gr _ gK rfl) (by omega), gB.trans (belowK_b (w := w2) hB2.size Y D _ _ hD gK rfl rfl)⟩
       case res =>
         rw [results_cell2 rfl]
         go_simp
     case stop =>
       rintro D cd k X hD hk ⟨rfl, h4, h5, hB, hm⟩ hK
       simp only [hm, if_false, Bool.false_eq_true]
       have k1 := (h4.kept (grownBy_putObj' X D (.deferred none)) (fun e => by have e1 : W.heap.size = D := Option.some.inj e; omega)).cell
       have k2 := (h5.kept (grownBy_putObj' X D (.deferred none)) (fun e => by have e1 : W.heap.size + 1 = D := Option.some.inj e; omega)).cell
       gi_wp2
       all_goals refine ⟨by simp, .inl ⟨_, _, rfl, run_takeDeferred hK, ?_⟩⟩
       all_goals refine ⟨.tuple #[.slice none 0 0, .int .i64 6], ?_, _, rfl, World.ownsRow_nil _ _ _ _, hB.trans (belowK_b (w := w2) hB2.size X D _ _ hD hK rfl rfl)⟩
       all_goals (rw [results_cell2 rfl]; go_simp)
theorem tk_Parse (s : ByteArray) (c : UInt8) (W : World) (hs : s.size ≤ 1000000) : Calls Tryd.prog 14 #[.string s, .int .u8 (c.toNat : Int)] W fun e W' => ∃ v, e = .returned (.tuple #[v, .int .i64 (parE s c)]) ∧ W'.ownsRow W.heap.size 9 1 v (parL s c).length (strs (parL s c)) ∧ Below W.heap.size W W' :=
  (callsIn_wide (n := 8)).1 (tk_Parse_in s c W hs 8 (Nat.le_refl _))
end Go.Proofs.YtnndmbhfolgohaaDoor.P
