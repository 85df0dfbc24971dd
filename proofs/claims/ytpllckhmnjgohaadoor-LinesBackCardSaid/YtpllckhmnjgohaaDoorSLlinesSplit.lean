import Derived.Test.YtpllckhmnjgohaaDoorSLlinesCounts
import Derived.Laws.RangeAny
namespace Go.Proofs.YtpllckhmnjgohaaDoor.P
open Go.RowKit Go.Proofs.YtpllckhmnjgohaaDoorW.PrintWords Go.Proofs.YtpllckhmnjgohaaDoorW.PrintLast Go.Proofs.YtpllckhmnjgohaaDoorW.PrintMore
set_option linter.unusedVariables false
set_option linter.unusedSimpArgs false
set_option linter.unnecessarySimpa false
attribute [local go_sem] max2_int min2_int max_two min_two max_three min_three max_four min_four
set_option linter.unusedVariables false
set_option linter.unusedSimpArgs false
set_option linter.unnecessarySimpa false
attribute [local go_sem] Oper.semAt_some
/-! ### lines.Split -/
def okB (b : UInt8) : Bool := b == 10 || (decide (32 ≤ b.toNat) && decide (b.toNat ≤ 126))
def okT (s : ByteArray) : Bool := s.data.toList.all okB
def splE (s : ByteArray) : Int := if 4096 < s.size then 3 else if okT s = true then 0 else 180
def splitT (s : ByteArray) : List (List ByteArray) := ((texts 10 s).map countsT).filter (fun l => !l.isEmpty)
def splL (s : ByteArray) : List (List ByteArray) := if splE s = 0 then splitT s else []
/-- A row of rows of the call's own. -/
def Rows2 (W : World) (base : Nat) (v : Value) (ls : List (List ByteArray)) : Prop :=
  ∃ vs : List Value, W.ownsRow base 39 1 v ls.length vs ∧ vs.length = ls.length ∧ ∀ j, j < ls.length → W.ownsRow base 9 1 (vs.getD j undef) (ls.getD j []).length (strs (ls.getD j []))
theorem Rows2.nil (W : World) (base : Nat) : Rows2 W base (.slice none 0 0) [] := ⟨[], World.ownsRow_nil _ _ _ _, rfl, fun j hj => absurd hj (Nat.not_lt_zero _)⟩
theorem own_ne_types {W : World} {b b' : Nat} {e e' : TypeId} {sz sz' n n' : Nat} {v v' : Value} {xs xs' : List Value} (h : W.ownsRow b e sz v n xs) (h' : W.ownsRow b' e' sz' v' n' xs') (hne : e ≠ e') : v.ownBlock = none ∨ v.ownBlock ≠ v'.ownBlock := by
  cases hv : v.ownBlock with
  | none => exact .inl rfl
  | some k =>
    refine .inr fun e2 => ?_
    obtain ⟨c1, h1⟩ := own_typed h k hv
    obtain ⟨c2, h2⟩ := own_typed h' k e2.symm
    rw [h1] at h2
    simp at h2
    exact hne h2.2
theorem own_kept_others {W W' : World} {row : Option Nat} {b : Nat} {e : TypeId} {sz n : Nat} {v : Value} {xs : List Value} (h : W.ownsRow b e sz v n xs) (hg : W.grownBy W' row) (hr : ∀ r, row = some r → ∃ o : Obj, W.heap[r]? = some o ∧ o.isCells = false) : W'.ownsRow b e sz v n xs := by
  refine h.kept hg ?_
  cases hv : v.ownBlock with
  | none => exact .inl rfl
  | some k =>
    refine .inr fun e2 => ?_
    obtain ⟨o, ho, hc⟩ := hr k e2.symm
    obtain ⟨c1, h1⟩ := own_typed h k hv
    rw [h1] at ho
    cases ho
    cases hc
theorem own_set_low {W : World} {b H : Nat} {e : TypeId} {sz n : Nat} {v : Value} {xs : List Value} (h : W.ownsRow b e sz v n xs) (hH : H < b) (u : Value) : (W.setCell ⟨H, 0, none⟩ u).ownsRow b e sz v n xs :=
  h.kept (grownBy_setCell' W H u) (.inr (fun e2 => own_ge h H hH e2.symm))
theorem Rows2.below {W W' : World} {base : Nat} {v : Value} {ls : List (List ByteArray)} (h : Rows2 W base v ls) (hb : Below W.heap.size W W') : Rows2 W' base v ls := by
  obtain ⟨vs, ho, hl, hin⟩ := h
  exact ⟨vs, pw_own_below ho hb, hl, fun j hj => pw_own_below (hin j hj) hb⟩
theorem Rows2.others {W W' : World} {row : Option Nat} {base : Nat} {v : Value} {ls : List (List ByteArray)} (h : Rows2 W base v ls) (hg : W.grownBy W' row) (hr : ∀ r, row = some r → ∃ o : Obj, W.heap[r]? = some o ∧ o.isCells = false) : Rows2 W' base v ls := by
  obtain ⟨vs, ho, hl, hin⟩ := h
  exact ⟨vs, own_kept_others ho hg hr, hl, fun j hj => own_kept_others (hin j hj) hg hr⟩
theorem Rows2.set {W : World} {base H : Nat} {v : Value} {ls : List (List ByteArray)} (h : Rows2 W base v ls) (hH : H < base) (u : Value) : Rows2 (W.setCell ⟨H, 0, none⟩ u) base v ls := by
  obtain ⟨vs, ho, hl, hin⟩ := h
  exact ⟨vs, own_set_low ho hH u, hl, fun j hj => own_set_low (hin j hj) hH u⟩
theorem Rows2.lower {W : World} {base base' : Nat} {v : Value} {ls : List (List ByteArray)} (h : Rows2 W base v ls) (hb : base' ≤ base) : Rows2 W base' v ls := by
  obtain ⟨vs, ho, hl, hin⟩ := h
  exact ⟨vs, own_le ho hb, hl, fun j hj => own_le (hin j hj) hb⟩
theorem rows2_push {X w3 : World} {base B : Nat} {v v' u : Value} {ls : List (List ByteArray)} {l : List ByteArray} {vs : List Value} {tmp : Obj} (ho : X.ownsRow base 39 1 v ls.length vs) (hl : vs.length = ls.length)
    (hin : ∀ j, j < ls.length → X.ownsRow base 9 1 (vs.getD j undef) (ls.getD j []).length (strs (ls.getD j []))) (hu : X.ownsRow base 9 1 u l.length (strs l)) (hB : B < base)
    (hgrow : (X.alloc tmp).grownBy w3 v.ownBlock) (hown' : (w3.setCell ⟨B, 0, none⟩ v').ownsRow base 39 1 v' (ls.length + 1) (vs ++ [u])) : Rows2 (w3.setCell ⟨B, 0, none⟩ v') base v' (ls ++ [l]) := by
  have key : ∀ {u' : Value} {l' : List ByteArray}, X.ownsRow base 9 1 u' l'.length (strs l') → (w3.setCell ⟨B, 0, none⟩ v').ownsRow base 9 1 u' l'.length (strs l') := fun {u' l'} h =>
    own_set_low ((h.alloc tmp).kept hgrow (own_ne_types h ho (by decide))) hB v'
  have e1 : (ls ++ [l]).length = ls.length + 1 := by simp
  refine ⟨vs ++ [u], by rw [e1]; exact hown', by simp [hl], fun j hj => ?_⟩
  rcases Nat.lt_or_ge j ls.length with h | h
  · rw [List.getD_eq_getElem?_getD, List.getElem?_append_left (by omega), ← List.getD_eq_getElem?_getD, List.getD_eq_getElem?_getD (l := ls ++ [l]), List.getElem?_append_left h, ← List.getD_eq_getElem?_getD]
    exact key (hin j h)
  · obtain rfl : j = ls.length := by omega
    rw [List.getD_eq_getElem?_getD, List.getElem?_append_right (by omega), List.getD_eq_getElem?_getD (l := ls ++ [l]), List.getElem?_append_right (Nat.le_refl _), hl]
    simpa using key hu
def rowsK (s : ByteArray) (k : Nat) : List (List ByteArray) := (((texts 10 s).take k).map countsT).filter (fun l => !l.isEmpty)
theorem rowsK_more {s : ByteArray} {k : Nat} (hk : k < (texts 10 s).length) : rowsK s (k + 1) = rowsK s k ++ (if (countsT ((texts 10 s).getD k ByteArray.empty)).isEmpty = true then [] else [countsT ((texts 10 s).getD k ByteArray.empty)]) := by
  unfold rowsK
  rw [(take_snocD hk).1, List.map_append, List.filter_append]
  congr 1
  simp only [List.map_cons, List.map_nil, List.filter_cons, List.filter_nil]
  cases (countsT ((texts 10 s).getD k ByteArray.empty)).isEmpty <;> rfl
theorem rowsK_all (s : ByteArray) : rowsK s (texts 10 s).length = splitT s := by
  unfold rowsK splitT
  rw [List.take_of_length_le (Nat.le_refl _)]
theorem rowsK_len (s : ByteArray) (k : Nat) : (rowsK s k).length ≤ k := by
  unfold rowsK
  refine Nat.le_trans (List.length_filter_le _ _) ?_
  rw [List.length_map, List.length_take]
  omega
theorem piecesL_mem (c : UInt8) : ∀ (l p : List UInt8), p ∈ piecesL c l → ∀ b ∈ p, b ∈ l ∧ b ≠ c
  | [], p, h => by
    unfold piecesL at h
    simp at h
    subst h
    intro b hb
    cases hb
  | x :: xs, p, h => by
    by_cases hx : x = c
    · subst hx
      rw [piecesL_same] at h
      rcases List.mem_cons.1 h with rfl | h
      · intro b hb; cases hb
      · intro b hb
        obtain ⟨h1, h2⟩ := piecesL_mem x xs p h b hb
        exact ⟨List.mem_cons_of_mem _ h1, h2⟩
    · cases e : piecesL c xs with
      | nil => exact absurd e (piecesL_ne c xs)
      | cons q qs =>
        rw [piecesL_step hx e] at h
        rcases List.mem_cons.1 h with rfl | h
        · intro b hb
          rcases List.mem_cons.1 hb with rfl | hb
          · exact ⟨List.mem_cons_self .., hx⟩
          · obtain ⟨h1, h2⟩ := piecesL_mem c xs q (by rw [e]; exact List.mem_cons_self ..) b hb
            exact ⟨List.mem_cons_of_mem _ h1, h2⟩
        · intro b hb
          obtain ⟨h1, h2⟩ := piecesL_mem c xs p (by rw [e]; exact List.mem_cons_of_mem _ h) b hb
          exact ⟨List.mem_cons_of_mem _ h1, h2⟩
theorem piecesL_len (c : UInt8) : ∀ l : List UInt8, (piecesL c l).length ≤ l.length + 1
  | [] => by unfold piecesL; simp
  | x :: xs => by
    have ih := piecesL_len c xs
    by_cases hx : x = c
    · subst hx
      rw [piecesL_same]
      simp
      omega
    · cases e : piecesL c xs with
      | nil => exact absurd e (piecesL_ne c xs)
      | cons q qs =>
        rw [piecesL_step hx e]
        rw [e] at ih
        simp at ih ⊢
        omega
theorem infoSl : (Tryd.prog.info? 39).map (fun i => (i.zero, i.size, i.bytes)) = some (some (.slice none 0 0), 1, 24) := by kernel_rfl
theorem okB_bad {b : UInt8} (h : okB b = false) : ¬ b.toNat = 10 ∧ (b.toNat < 32 ∨ 126 < b.toNat) := by
  unfold okB at h
  rw [Bool.or_eq_false_iff, Bool.and_eq_false_iff] at h
  refine ⟨fun e => ?_, ?_⟩
  · have : b = 10 := UInt8.toNat_inj.1 e
    rw [this] at h
    exact absurd h.1 (by decide)
  · rcases h.2 with h | h
    · exact .inl (by have := of_decide_eq_false h; omega)
    · exact .inr (by have := of_decide_eq_false h; omega)
theorem okB_good {b : UInt8} (h : okB b = true) : b.toNat = 10 ∨ (32 ≤ b.toNat ∧ b.toNat ≤ 126) := by
  unfold okB at h
  rw [Bool.or_eq_true, Bool.and_eq_true] at h
  rcases h with h | h
  · left
    rw [beq_iff_eq.1 h]
    rfl
  · exact .inr ⟨of_decide_eq_true h.1, of_decide_eq_true h.2⟩
theorem texts_plain {s x : ByteArray} (h : okT s = true) (hx : x ∈ texts 10 s) : plainT x := by
  unfold texts at hx
  obtain ⟨p, hp, rfl⟩ := List.mem_map.1 hx
  intro j b hb
  have hm : b ∈ p := List.mem_of_getElem? hb
  obtain ⟨h1, h2⟩ := piecesL_mem 10 _ p hp b hm
  rcases okB_good (List.all_eq_true.1 h b h1) with h3 | h3
  · exact absurd (UInt8.toNat_inj.1 h3) h2
  · exact h3
set_option maxHeartbeats 4000000 in
set_option maxRecDepth 100000 in
theorem ls_Split_in (s : ByteArray) (W : World) (hs : s.size ≤ 1000000) (hT : spTab W) (n : Nat) (hn : 16 ≤ n) : CallsIn Fence.wide n Tryd.prog 6 #[.string s] W fun e W' => ∃ v, e = .returned (.tuple #[v, .int .i64 (splE s)]) ∧ Rows2 W' W.heap.size v (splL s) ∧ Below W.heap.size W W' := by
  have h1 : 1 ≤ n := by omega
  have HTB := Aside0.mk hT
  clear hT
  obtain ⟨E, hE⟩ : ∃ E, E = splE s := ⟨_, rfl⟩
  obtain ⟨LL, hLL⟩ : ∃ LL, LL = splL s := ⟨_, rfl⟩
  rw [← hE, ← hLL]
  have HEE := Aside0.mk hE
  have HLL := Aside0.mk hLL
  clear hE hLL
  refine callsIn_of_wp_marks Tryd.func6 rfl trivial ?_ rfl
  simp only [Tryd.ntmps6, List.size_toArray, List.length_cons, List.length_nil, Nat.reduceAdd, Nat.reduceSub, Array.replicate_succ, Array.replicate_zero, List.push_toArray, List.append_toArray, List.nil_append, List.cons_append]
  by_cases hl : 4096 < s.size
  · have p1 : decide ((4096 : Int) < (s.size : Int)) = true := decide_eq_true (by omega)
    have e1 : splE s = 3 := by unfold splE; rw [if_pos hl]
    have e2 : splL s = [] := by unfold splL; rw [e1]; rfl
    have E1 := Aside0.mk (HEE.out.trans e1)
    have E2 := Aside0.mk (HLL.out.trans e2)
    clear e1 e2
    gi_wp2
    exact ⟨_, results_tmp2 rfl _ _ _, _, by rw [E1.out]; rfl, by rw [E2.out]; exact Rows2.nil _ _, Below.refl _ _⟩
  · have p1 : decide ((4096 : Int) < (s.size : Int)) = false := decide_eq_false (by omega)
    have HE := Aside0.mk (show splE s = if okT s = true then 0 else 180 by unfold splE; rw [if_neg hl])
    gi_wp2
    gi_loopw [5] (fun _ wr => ∃ pos, wr = W.iter s pos ∧ (s.data.toList.take pos).all okB = true) (fun _ wr => s.size - wr.iterPos W.heap.size)
    case atStart => exact ⟨0, rfl, rfl⟩
    case round =>
      obtain ⟨pos, rfl, hall⟩ := hrel
      by_cases hp : pos < s.size
      · have hl2 : pos < s.data.toList.length := by rw [data_length]; exact hp
        have hnx : ∀ ty, (Instr.next (.pointer (some ⟨W.heap.size, 0, none⟩)) true ty).run Tryd.prog (W.iter s pos) = _ := fun ty => run_next_any W s pos ty hp
        have hx4 : (s.data.toList[pos]'hl2) = s[pos]'hp := rfl
        cases hb : okB (s[pos]'hp) with
        | true =>
          have hg := okB_good hb
          have ha : (s[pos]'hp).toNat < 128 := by omega
          rw [decode_ascii s pos hp ha] at hnx
          have HA := Aside0.mk (show (s.data.toList.take (pos + 1)).all okB = true by
            rw [List.take_succ_eq_append_getElem hl2, List.all_append, hall, hx4]
            simp [hb])
          clear hall
          generalize (s[pos]'hp).toNat = m at hnx hg ha
          rcases hg with hg | hg
          · subst hg
            gi_wp2
            exact ⟨⟨pos + 1, rfl, HA.out⟩, by rw [World.iterPos_iter, World.iterPos_iter]; omega⟩
          · have q1 : decide ((m : Int) < 32) = false := decide_eq_false (by omega)
            have q2 : decide ((126 : Int) < (m : Int)) = false := decide_eq_false (by omega)
            have q3 : ((m : Int) != 10) = true := by rw [bne_iff_ne]; omega
            gi_wp2
            exact ⟨⟨pos + 1, rfl, HA.out⟩, by rw [World.iterPos_iter, World.iterPos_iter]; omega⟩
        | false =>
          have HO := Aside0.mk (show okT s = false by
            unfold okT
            exact List.all_eq_false.2 ⟨_, List.getElem_mem hl2, by rw [hx4, hb]; decide⟩)
          have hbad := okB_bad hb
          have hr : ¬ (Utf8.decode s pos).1 = 10 ∧ ((Utf8.decode s pos).1 < 32 ∨ 126 < (Utf8.decode s pos).1) := by
            by_cases ha : (s[pos]'hp).toNat < 128
            · rw [decode_ascii s pos hp ha]
              exact hbad
            · have := (decode_high s pos hp (by omega)).1
              exact ⟨by omega, by omega⟩
          generalize (Utf8.decode s pos).1 = m at hnx hr
          generalize (Utf8.decode s pos).2 = d at hnx
          obtain ⟨h10, hlo⟩ := hr
          have q3 : ((m : Int) != 10) = true := by rw [bne_iff_ne]; omega
          have e1 : splE s = 180 := by rw [HE.out, HO.out]; rfl
          have e2 : splL s = [] := by unfold splL; rw [e1]; rfl
          have E1 := Aside0.mk (HEE.out.trans e1)
          have E2 := Aside0.mk (HLL.out.trans e2)
          clear e1 e2 hbad hb hall
          have hBel : Below W.heap.size W (W.iter s (pos + d)) := (Below.refl _ W).alloc (Nat.le_refl _) _
          rcases Nat.lt_or_ge m 32 with hm | hm
          · have q1 : decide ((m : Int) < 32) = true := decide_eq_true (by omega)
            gi_wp2
            exact ⟨_, results_tmp2 rfl _ _ _, _, by rw [E1.out]; rfl, by rw [E2.out]; exact Rows2.nil _ _, hBel⟩
          · have q1 : decide ((m : Int) < 32) = false := decide_eq_false (by omega)
            have q2 : decide ((126 : Int) < (m : Int)) = true := decide_eq_true (by omega)
            gi_wp2
            exact ⟨_, results_tmp2 rfl _ _ _, _, by rw [E1.out]; rfl, by rw [E2.out]; exact Rows2.nil _ _, hBel⟩
      · have hnx : ∀ ty, (Instr.next (.pointer (some ⟨W.heap.size, 0, none⟩)) true ty).run Tryd.prog (W.iter s pos) = _ := fun ty => run_next_end W s pos ty hp
        have hok : okT s = true := by
          unfold okT
          rwa [List.take_of_length_le (by rw [data_length]; omega)] at hall
        have e1 : splE s = 0 := by rw [HE.out, hok]; rfl
        have e2 : splL s = splitT s := by unfold splL; rw [if_pos e1]
        have E1 := Aside0.mk (HEE.out.trans e1)
        have E2 := Aside0.mk (HLL.out.trans e2)
        have HO := Aside0.mk hok
        have hB1 : Below W.heap.size W (W.iter s pos) := (Below.refl _ W).alloc (Nat.le_refl _) _
        have hs1 : (W.iter s pos).heap.size = W.heap.size + 1 := by show (W.alloc _).heap.size = _; simp
        clear hall hok e1 e2 HE
        have SP := fun (W : World) => sp_SplitSeq s 10 W
        obtain ⟨i0, hi, hz0, hz1, hz2⟩ := info_parts infoSl
        have hTL : (texts 10 s).length ≤ 4097 := by
          unfold texts
          rw [List.length_map]
          have := piecesL_len 10 s.data.toList
          rw [data_length] at this
          omega
        have HTL := Aside0.mk hTL
        clear hTL
        gi_wp2
        generalize W.iter s pos = W1 at *
        have hB2 : Below W.heap.size W (W1.alloc (.cells #[.slice none 0 0] 22)) := hB1.alloc (by omega) _
        have b6 := Boxed.new W1 22 (.slice none 0 0)
        rw [hs1] at b6
        refine ⟨trivial, (callsIn_wide.2 (SP _)).mono ?_⟩
        generalize W1.alloc (.cells #[.slice none 0 0] 22) = W2 at hB2 b6
        rintro e w2 ⟨rfl, hSees, hb2, hsz2⟩
        have hlt6 := b6.lt
        replace b6 := boxed_below b6 hb2
        replace hB2 := hB2.trans (hb2.mono hB2.size)
        have hne' : (W.heap.size + 1 : Nat) ≠ W2.heap.size := by omega
        clear hb2 SP hB1 hs1
        gi_wp2
        refine wpIn_rangeN h1 (gf := 27) rfl (enters_of Tryd.func27 (by kernel_rfl) rfl) (sp_seqN W2.heap.size 10 s (n - 1) (by omega) w2 hSees hs) (Below.refl _ _) rfl spKeeps_t (fun X l o o' _ h hc => spKeeps_b X l o o' h hc) (fun A B h j o _ hj hc => spTurns_others A B h j o hj hc)
          (fun k X => (∃ v, Boxed X (W.heap.size + 1) 22 v ∧ Rows2 X w2.heap.size v (rowsK s k)) ∧ Below W.heap.size W X)
          (fun _ _ _ => False)
          ?ownI (fun _ _ _ _ _ hs _ _ => hs) ?turn ?init
          (fun x => { tmps := #[.string s, undef, u2, u3, undef, u5, .pointer (some ⟨W.heap.size + 1, 0, none⟩), .string x, undef, .string s, .int .i64 s.size, .bool false, .string s, .pointer (some ⟨W.heap.size, 0, none⟩), .tuple #[.bool false], .bool false, u16, u17, u18, u19, u20, u21, u22, u23, u24, u25, u26, .string s, .func (.func 27) #[] #[.pointer (some ⟨W2.heap.size + 1, 0, none⟩), .pointer (some ⟨W2.heap.size, 0, none⟩), .pointer (some ⟨W2.heap.size + 2, 0, none⟩)], .string x, undef, undef, undef, undef, undef, undef, undef, undef, undef, undef], defers := [] }) ?assign ?body ?done ?stop
        case ownI =>
          refine OwnFrom.and (Own.from (fun k X Y row hs hg hr => ?_) _) (ownFrom_below (Nat.le_refl _) hB2.size)
          obtain ⟨v, hv, hR⟩ := hs
          refine ⟨v, hv.kept hg (fun e' => ?_), hR.others hg hr⟩
          obtain ⟨o, ho, hc⟩ := hr _ e'.symm
          rw [show X.heap[W.heap.size + 1]? = _ from hv] at ho
          cases ho
          cases hc
        case turn =>
          rintro k A B ⟨v, rfl⟩ ⟨⟨u, hu, hr⟩, hB⟩
          exact ⟨⟨u, Boxed.other hu hne' _, hr.set (by omega) v⟩, hB.setCell (p := ⟨W2.heap.size, 0, none⟩) (by simp only; omega) v⟩
        case init =>
          exact ⟨⟨_, b6, Rows2.nil _ _⟩, hB2⟩
        case assign =>
          intro l x X K hK
          gi_wp2
          exact hK
        case body =>
          rintro lp k X hlp ⟨r0, hr0⟩ ⟨⟨v, hv, vs, ho, hvl, hin⟩, hB⟩ hk
          have hX := (Array.getElem?_eq_some_iff.1 hr0).1
          have hn2 : w2.heap.size ≤ X.heap.size := by omega
          obtain ⟨_, hmem⟩ := take_snocD hk
          have hmore := rowsK_more hk
          have hxs : ((texts 10 s).getD k ByteArray.empty).size ≤ 100000 := by
            have := texts_le hmem
            omega
          have hxp := texts_plain HO.out hmem
          have hrl := rowsK_len s k
          generalize (texts 10 s).getD k ByteArray.empty = x at hmem hmore hxs hxp
          have CT := lc_counts x X hxs hxp (spTab_below HTB.out hB)
          have hr0K := hr0
          generalize countsT x = cl at CT hmore
          have HM := Aside0.mk hmore
          have HIN := Aside0.mk hin
          have HOO := Aside0.mk ho
          have HV := Aside0.mk hv
          have HBX := Aside0.mk hB
          clear hmem hmore hxp hxs hin ho hv
          gi_wp2
          refine ⟨trivial, fun h => (by cases h), (callsIn_wide.2 CT).mono ?_⟩
          rintro e w4 ⟨v4, rfl, o4, d4⟩
          obtain ⟨A4, q4, rfl⟩ : ∃ A q, v4 = .slice A cl.length q := by
            rcases o4.2 with ⟨e1, e2⟩ | ⟨g, cap, cur, e1, _⟩
            · exact ⟨none, 0, by rw [e1, e2]⟩
            · exact ⟨_, _, e1⟩
          have hK4 : KeepsFrom w2.heap.size X w4 := KeepsFrom.of_grownBy (grown_of_below d4 none) (fun j e => by cases e)
          have HS4 := Aside0.mk (show spKeeps W2.heap.size 10 X w4 from fun r hr => ⟨boxed_below hr.1 d4, boxed_below hr.2.1 d4, boxed_below hr.2.2 d4⟩)
          have hv4 := boxed_below HV.out d4
          have HB4 := Aside0.mk (HBX.out.trans (d4.mono HBX.out.size))
          have HO4 := Aside0.mk (pw_own_below HOO.out d4)
          have HIN4 := Aside0.mk (show ∀ j, j < (rowsK s k).length → w4.ownsRow w2.heap.size 9 1 (vs.getD j undef) ((rowsK s k).getD j []).length (strs ((rowsK s k).getD j [])) from fun j hj => pw_own_below (HIN.out j hj) d4)
          have HU4 := Aside0.mk (own_le o4 hn2)
          have hn4 : w2.heap.size ≤ w4.heap.size := Nat.le_trans hn2 d4.size
          have HK4 := Aside0.mk hK4
          clear hK4 d4 o4
          by_cases he : cl = []
          · subst he
            have HM2 := Aside0.mk (show rowsK s (k + 1) = rowsK s k by rw [HM.out]; simp)
            gi_wp2
            exact ⟨HK4.out, HS4.out, ⟨v, hv4, by rw [HM2.out]; exact ⟨vs, HO4.out, hvl, HIN4.out⟩⟩, HB4.out⟩
          · have hcl : 0 < cl.length := List.length_pos_iff.2 he
            have HM2 := Aside0.mk (show rowsK s (k + 1) = rowsK s k ++ [cl] by
              rw [HM.out, if_neg (by simpa using he)])
            have q1 : decide ((0 : Int) < (cl.length : Int)) = true := decide_eq_true (by omega)
            have hc := hv4.cell
            have hrow := HO4.out
            have hBs := HB4.out.size
            have hml := HTL.out
            gi_wp2_with (gi_at_builtin; refine wpListIn_append_own _ rfl _ _ 22 rfl w2.heap.size 39 i0 (.slice none 0 0) 1 24 Tryd.underlying22 hi hz0 hz1 hz2 rfl (by decide) _ _ _ rfl (hrow.alloc _) ⟨w4.heap.size, 0, none⟩ 1 1 [.slice A4 cl.length q4] rfl rfl (cell_one_new _ _ _) (by simp [Value.oneCell']) (by unfold maxLen; omega) (by omega) (by simp; omega) ?_; intro v' w3 hown' hgrow _; obtain ⟨g', cap', rfl⟩ := ownsRow_succ hown'; obtain ⟨hv1, hv2, hr2, hk2, hb2, hoth⟩ := boxed_appended (m₀ := W.heap.size) hv4 (by decide) hrow (by omega) hn4 (by omega) hown' hgrow; have hc1 := hv1.cell; have hf1 := hv1.frozen)
            refine ⟨HK4.out.trans (hk2.from _), fun r hr => ?_, ⟨_, hv2, by rw [HM2.out]; exact rows2_push HO4.out hvl HIN4.out HU4.out (by omega) hgrow hr2⟩, HB4.out.trans hb2⟩
            have h4 := HS4.out r hr
            exact ⟨hoth _ _ _ (by omega) (by omega) h4.1, hoth _ _ _ (by omega) (by omega) h4.2.1, hoth _ _ _ (by omega) (by omega) h4.2.2⟩
        case done =>
          rintro D X hD ⟨⟨v, hv, hR⟩, hB⟩ hK
          rw [rowsK_all] at hR
          have hc := hv.cell
          gi_wp2
          refine ⟨by simp, .inl ⟨_, _, rfl, run_takeDeferred hK, ?_⟩⟩
          refine ⟨_, results_tmp2 rfl _ _ _, v, by rw [E1.out]; rfl, ?_, hB.trans (belowK_b (w := w2) hB2.size X D _ _ hD hK rfl rfl)⟩
          rw [E2.out]
          exact (hR.others (grownBy_putObj' X D _) (fun r e => by cases e; exact ⟨_, hK, rfl⟩)).lower (by omega)
        case stop =>
          rintro D cd k X _ _ h _
          exact h.elim
theorem ls_Split (s : ByteArray) (W : World) (hs : s.size ≤ 1000000) (hT : spTab W) : Calls Tryd.prog 6 #[.string s] W fun e W' => ∃ v, e = .returned (.tuple #[v, .int .i64 (splE s)]) ∧ Rows2 W' W.heap.size v (splL s) ∧ Below W.heap.size W W' :=
  (callsIn_wide (n := 16)).1 (ls_Split_in s W hs hT 16 (Nat.le_refl _))
end Go.Proofs.YtpllckhmnjgohaaDoor.P
