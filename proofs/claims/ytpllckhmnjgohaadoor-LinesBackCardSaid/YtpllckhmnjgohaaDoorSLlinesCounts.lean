import Derived.Test.YtpllckhmnjgohaaDoorSLstrRows
namespace Go.Proofs.YtpllckhmnjgohaaDoor.P
open Go.RowKit Go.Proofs.YtpllckhmnjgohaaDoorW.PrintWords Go.Proofs.YtpllckhmnjgohaaDoorW.PrintLast Go.Proofs.YtpllckhmnjgohaaDoorW.PrintMore
set_option linter.unusedVariables false
set_option linter.unusedSimpArgs false
set_option linter.unnecessarySimpa false
attribute [local go_sem] max2_int min2_int max_two min_two max_three min_three max_four min_four
set_option linter.unusedVariables false
set_option linter.unusedSimpArgs false
set_option linter.unnecessarySimpa false
attribute [local go_sem] Oper.semAt_some
/-! ### lines.counts -/
def hashB (w : ByteArray) : Bool := Lib.hasPrefix w.data.toList [35]
def countsT (s : ByteArray) : List ByteArray := (fieldsT s).takeWhile (fun w => !(hashB w))
theorem takeWhile_stop {α : Type} {p : α → Bool} {l : List α} {k : Nat} {d : α} (hk : k < l.length) (h1 : (l.take k).all p = true) (h2 : p (l.getD k d) = false) : l.takeWhile p = l.take k := by
  induction l generalizing k with
  | nil => cases hk
  | cons x xs ih =>
    cases k with
    | zero =>
      have : p x = false := by simpa using h2
      simp [List.takeWhile, this]
    | succ k =>
      simp only [List.take_succ_cons, List.all_cons, Bool.and_eq_true] at h1
      rw [List.take_succ_cons, List.takeWhile, h1.1]
      simp only
      rw [ih (by simpa using hk) h1.2 (by simpa using h2)]
theorem takeWhile_all {α : Type} {p : α → Bool} {l : List α} (h : l.all p = true) : l.takeWhile p = l := by
  induction l with
  | nil => rfl
  | cons x xs ih =>
    simp only [List.all_cons, Bool.and_eq_true] at h
    rw [List.takeWhile, h.1]
    simp only
    rw [ih h.2]
set_option maxHeartbeats 2000000 in
set_option maxRecDepth 100000 in
theorem lc_counts_in (s : ByteArray) (W : World) (hs : s.size ≤ 1000000) (hpl : plainT s) (hT : spTab W) (hfl : (fieldsT s).length ≤ 1000000) (n : Nat) (hn : 8 ≤ n) : CallsIn Fence.wide n Tryd.prog 14 #[.string s] W fun e W' => ∃ v, e = .returned v ∧ W'.ownsRow W.heap.size 9 1 v (countsT s).length (strs (countsT s)) ∧ Below W.heap.size W W' := by
  have h1 : 1 ≤ n := by omega
  obtain ⟨i0, hi, hz0, hz1, hz2⟩ := info_parts infoStr
  have FS := Aside0.mk (fun (W : World) (hT : spTab W) => fs_FieldsSeq s W hT)
  have HF := Aside0.mk hfl
  have HP := Aside0.mk hpl
  have HTB := Aside0.mk hT
  clear hpl hT
  refine callsIn_of_wp_marks Tryd.func14 rfl trivial ?_ rfl
  simp only [Tryd.ntmps14, List.size_toArray, List.length_cons, List.length_nil, Nat.reduceAdd, Nat.reduceSub, Array.replicate_succ, Array.replicate_zero, List.push_toArray, List.append_toArray, List.nil_append, List.cons_append]
  gi_wp2
  have hB2 : Below W.heap.size W (W.alloc (.cells #[.slice none 0 0] 39)) := (Below.refl _ W).alloc (Nat.le_refl _) _
  have b3 := Boxed.new W 39 (.slice none 0 0)
  refine ⟨trivial, (callsIn_wide.2 (FS.out _ (spTab_below HTB.out hB2))).mono ?_⟩
  generalize W.alloc (.cells #[.slice none 0 0] 39) = W2 at hB2 b3
  rintro e w2 ⟨rfl, hSees, hb2, hsz2⟩
  have hlt3 := b3.lt
  replace b3 := boxed_below b3 hb2
  replace hB2 := hB2.trans (hb2.mono hB2.size)
  have hne' : (W.heap.size : Nat) ≠ W2.heap.size := by omega
  clear hb2 FS
  gi_wp2
  refine wpIn_rangeN h1 (gf := 30) rfl (enters_of Tryd.func30 (by kernel_rfl) rfl) (fs_seqN W2.heap.size s (n - 1) (by omega) w2 hSees hs HP.out) (Below.refl _ _) rfl fsKeeps_t (fun X l o o' _ h hc => fsKeeps_b X l o o' h hc) (fun A B h j o _ hj hc => by subst h; exact hj)
    (fun k X => (∃ v, Boxed X W.heap.size 39 v ∧ X.ownsRow w2.heap.size 9 1 v k (strs ((fieldsT s).take k)) ∧ True) ∧ Below W.heap.size W X ∧ ((fieldsT s).take k).all (fun w => !(hashB w)) = true)
    (fun cd k X => cd = .exit 0 ∧ (∃ v, Boxed X W.heap.size 39 v ∧ X.ownsRow w2.heap.size 9 1 v k (strs ((fieldsT s).take k)) ∧ True) ∧ Below W.heap.size W X ∧ countsT s = (fieldsT s).take k)
    ?ownI ?ownX ?turn ?init
    (fun x => { tmps := #[.string s, undef, .slice none 0 0, .pointer (some ⟨W.heap.size, 0, none⟩), .string x, .string s, .func (.func 30) #[] #[.pointer (some ⟨W2.heap.size, 0, none⟩)], .string x, undef, undef, undef, undef, undef, undef, undef], defers := [] }) ?assign ?body ?done ?stop
  case ownI =>
    exact OwnFrom.and (Own.from (holdsRow_own w2.heap.size W.heap.size 39 9 1 (fun k : Nat => k) (fun k => strs ((fieldsT s).take k)) (fun _ _ => True)) _) (OwnFrom.and (ownFrom_below (Nat.le_refl _) hB2.size) (ownFrom_pure _ _))
  case ownX =>
    intro cd
    exact OwnFrom.and (ownFrom_pure _ _) (OwnFrom.and (Own.from (holdsRow_own w2.heap.size W.heap.size 39 9 1 (fun k : Nat => k) (fun k => strs ((fieldsT s).take k)) (fun _ _ => True)) _) (OwnFrom.and (ownFrom_below (Nat.le_refl _) hB2.size) (ownFrom_pure _ _)))
  case turn =>
    rintro k A B rfl h
    exact h
  case init =>
    exact ⟨⟨_, b3, World.ownsRow_nil _ _ _ _, trivial⟩, hB2, rfl⟩
  case assign =>
    intro l x X K hK
    gi_wp2
    exact hK
  case body =>
    rintro lp k X hlp ⟨r0, hr0⟩ ⟨⟨v, hv, hrow, _⟩, hB, hall⟩ hk
    have hc := hv.cell
    obtain ⟨hT, hmem⟩ := take_snocD hk
    obtain ⟨hx, hxe⟩ : ∃ hx, hx = (fieldsT s).getD k ByteArray.empty := ⟨_, rfl⟩
    have HSTOP := Aside0.mk (fun (h : hashB hx = true) => takeWhile_stop (p := fun w => !(hashB w)) (d := ByteArray.empty) hk hall (by rw [← hxe, h]; rfl))
    rw [← hxe] at hT ⊢
    have PX := fun (Z : World) => Tryd.strings_HasPrefix hx ⟨#[35]⟩ Z
    have hX := (Array.getElem?_eq_some_iff.1 hr0).1
    have hn2 : w2.heap.size ≤ X.heap.size := by omega
    have hBs := hB.size
    obtain ⟨L, hL⟩ : ∃ L, L = strs ((fieldsT s).take k) := ⟨_, rfl⟩
    have HT := Aside0.mk (show strs ((fieldsT s).take (k + 1)) = L ++ [.string hx] by rw [hT, hL]; unfold strs; rw [List.map_append]; rfl)
    have HA := Aside0.mk (show ((fieldsT s).take (k + 1)).all (fun w => !(hashB w)) = !(hashB hx) by rw [hT, List.all_append, hall]; simp)
    have HLL := Aside0.mk hL
    rw [← hL] at hrow
    have HK := Aside0.mk hk
    clear hT hmem hall hk hxe hL
    cases hh : hashB hx with
    | true =>
      have e1 : Lib.hasPrefix hx.data.toList (⟨#[35]⟩ : ByteArray).data.toList = true := hh
      rw [e1] at PX
      have P4 := PX X
      have HS := Aside0.mk (HSTOP.out hh)
      clear e1 PX
      gi_wp2
      refine ⟨trivial, fun h => (by cases h), (callsIn_wide.2 P4).mono ?_⟩
      rintro e w4 ⟨rfl, hw4⟩
      obtain rfl := hw4.symm
      gi_wp2
      exact ⟨KeepsFrom.refl _ _, rfl, ⟨_, hv, by rw [← HLL.out]; exact hrow, trivial⟩, hB, HS.out⟩
    | false =>
      have e1 : Lib.hasPrefix hx.data.toList (⟨#[35]⟩ : ByteArray).data.toList = false := hh
      rw [e1] at PX
      have P4 := PX X
      clear e1 PX
      gi_wp2
      refine ⟨trivial, fun h => (by cases h), (callsIn_wide.2 P4).mono ?_⟩
      rintro e w4 ⟨rfl, hw4⟩
      obtain rfl := hw4.symm
      have hml := HF.out
      have hkl := HK.out
      gi_wp2_with (gi_at_builtin; refine wpListIn_append_own _ rfl _ _ 39 rfl w2.heap.size 9 i0 (.string ⟨#[]⟩) 1 16 Tryd.underlying39 hi hz0 hz1 hz2 rfl (by decide) _ _ _ rfl (hrow.alloc _) ⟨X.heap.size, 0, none⟩ 1 1 [.string hx] rfl rfl (cell_one_new _ _ _) (by simp [Value.oneCell']) (by unfold maxLen; omega) (by omega) (by simp; omega) ?_; intro v' w3 hown' hgrow _; obtain ⟨g', cap', rfl⟩ := ownsRow_succ hown'; obtain ⟨hv1, hv2, hr2, hk2, hb2, hoth⟩ := boxed_appended (m₀ := W.heap.size) hv (by decide) hrow (by omega) hn2 (by omega) hown' hgrow; have hc1 := hv1.cell; have hf1 := hv1.frozen)
      have hbt := hB.trans hb2
      refine ⟨hk2.from _, fun hr => ⟨hoth _ _ _ (by omega) (by omega) hr.1, spTab_below HTB.out hbt⟩, ⟨_, hv2, by rw [HT.out]; exact hr2, trivial⟩, hbt, by rw [HA.out, hh]; rfl⟩
  case done =>
    rintro D X hD ⟨⟨v, hv, hrow, _⟩, hB, hall⟩ hK
    rw [List.take_of_length_le (Nat.le_refl _)] at hrow hall
    have e0 : countsT s = fieldsT s := takeWhile_all hall
    have hc := hv.cell
    gi_wp2
    refine ⟨by simp, .inl ⟨_, _, rfl, run_takeDeferred hK, ?_⟩⟩
    refine ⟨_, results_tmp rfl _ _ _, v, rfl, ?_, hB.trans (belowK_b (w := w2) hB2.size X D _ _ hD hK rfl rfl)⟩
    rw [e0]
    exact own_le (ownsRow_putObj hrow _ hK rfl) (by omega)
  case stop =>
    rintro D cd k X hD hk ⟨rfl, ⟨v, hv, hrow, _⟩, hB, hm⟩ hK
    have e1 : ((fieldsT s).take k).length = k := by rw [List.length_take]; omega
    have hc := hv.cell
    gi_wp2
    refine ⟨by simp, .inl ⟨_, _, rfl, run_takeDeferred hK, ?_⟩⟩
    refine ⟨_, results_tmp rfl _ _ _, v, rfl, ?_, hB.trans (belowK_b (w := w2) hB2.size X D _ _ hD hK rfl rfl)⟩
    rw [hm, e1]
    exact own_le (ownsRow_putObj hrow _ hK rfl) (by omega)
theorem fldG_len : ∀ (l cur : List UInt8), (fldG cur l).length ≤ l.length + 1
  | [], cur => by unfold fldG; split <;> simp
  | x :: xs, cur => by
    unfold fldG
    have h1 := fldG_len xs []
    have h2 := fldG_len xs (cur ++ [x])
    split
    · split
      · simp; omega
      · simp; omega
    · simp; omega
theorem lc_counts (s : ByteArray) (W : World) (hs : s.size ≤ 100000) (hpl : plainT s) (hT : spTab W) : Calls Tryd.prog 14 #[.string s] W fun e W' => ∃ v, e = .returned v ∧ W'.ownsRow W.heap.size 9 1 v (countsT s).length (strs (countsT s)) ∧ Below W.heap.size W W' :=
  (callsIn_wide (n := 8)).1 (lc_counts_in s W (by omega) hpl hT (by
    unfold fieldsT
    rw [List.length_map]
    have := fldG_len s.data.toList []
    rw [data_length] at this
    omega) 8 (Nat.le_refl _))
end Go.Proofs.YtpllckhmnjgohaaDoor.P
