import Derived.Test.YtpllckhmnjgohaaDoorSLfieldsSeq
namespace Go.Proofs.YtpllckhmnjgohaaDoor.P
open Go Go.RowKit Go.Proofs.YtpllckhmnjgohaaDoorW.PrintWords Go.Proofs.YtpllckhmnjgohaaDoorW.PrintLast Go.Proofs.YtpllckhmnjgohaaDoorW.PrintMore
set_option linter.unusedVariables false
set_option linter.unusedSimpArgs false
set_option linter.unnecessarySimpa false
attribute [local go_sem] max2_int min2_int max_two min_two max_three min_three max_four min_four
/-! ### rows of texts (as in the tokens' texts, for a seat without them) -/
def strs (l : List ByteArray) : List Value := l.map Value.string
theorem infoStr : (Tryd.prog.info? 9).map (fun i => (i.zero, i.size, i.bytes)) = some (some (.string ⟨#[]⟩), 1, 16) := by kernel_rfl
theorem results_cell2 {fn : Func} {p q : Tmp} {ty ty' : TypeId} (h : fn.results = #[.cell p ty, .cell q ty']) (tmps : Array Value) (P : Program) (w : World) :
    (results fn tmps).run P w =
      ((asAddr (tmps.getD p undef)).run P w).andThen fun a w₁ => ((loadVar ty a).run P w₁).andThen fun v w₂ => ((asAddr (tmps.getD q undef)).run P w₂).andThen fun b w₃ => ((loadVar ty' b).run P w₃).andThen fun v' w₄ => .ok (.tuple #[v, v']) w₄ := by
  simp only [results, h]
  simp [Sem.run_bind, Result.andThen]
theorem boxed_below {W W' : World} {B : Nat} {t : TypeId} {v : Value} (h : Boxed W B t v) (hb : Below W.heap.size W W') : Boxed W' B t v := (hb.block _ h.lt).trans h
theorem own_le {w : World} {base base' size n : Nat} {e : TypeId} {v : Value} {xs : List Value} (h : w.ownsRow base e size v n xs) (hb : base' ≤ base) : w.ownsRow base' e size v n xs :=
  ⟨h.1, h.2.elim Or.inl (fun ⟨g, cap, cur, hv, hg, r⟩ => Or.inr ⟨g, cap, cur, hv, Nat.le_trans hb hg, r⟩)⟩
theorem own_ge {W : World} {n₀ : Nat} {e : TypeId} {size k : Nat} {v : Value} {xs : List Value} (h : W.ownsRow n₀ e size v k xs) (j : Nat) (hj : j < n₀) : some j ≠ v.ownBlock := by
  rcases h.2 with ⟨rfl, _⟩ | ⟨g, cap, cur, rfl, hg, _⟩
  · intro e; cases e
  · intro e
    have e1 : j = g := Option.some.inj e
    omega
theorem boxed_appended {W w1 : World} {n₀ m₀ B : Nat} {t e : TypeId} {size : Nat} {v v' : Value} {k m : Nat} {xs ys : List Value} {tmp : Obj}
    (hv : Boxed W B t v) (hte : t ≠ e) (hrow : W.ownsRow n₀ e size v k xs) (hm : m₀ ≤ n₀) (hn₀ : n₀ ≤ W.heap.size) (hB : m₀ ≤ B)
    (hown' : w1.ownsRow n₀ e size v' m ys) (hgrow : (W.alloc tmp).grownBy w1 v.ownBlock) :
    Boxed w1 B t v ∧ Boxed (w1.setCell ⟨B, 0, none⟩ v') B t v' ∧ (w1.setCell ⟨B, 0, none⟩ v').ownsRow n₀ e size v' m ys ∧ KeepsOthers W (w1.setCell ⟨B, 0, none⟩ v') ∧ Below m₀ W (w1.setCell ⟨B, 0, none⟩ v') ∧
      (∀ (j : Nat) (t' : TypeId) (u : Value), j < n₀ → j ≠ B → Boxed W j t' u → Boxed (w1.setCell ⟨B, 0, none⟩ v') j t' u) := by
  obtain ⟨p1, p2, _, p4, p5⟩ := hv.appended hte (own_le hrow hm) (Nat.le_trans hm hn₀) hB (own_le hown' hm) hgrow
  exact ⟨p1, p2, hown'.kept (grownBy_setCell' w1 B v') (.inr (p1.not_row hte hown').symm), p4, p5, fun j t' u hj hjB hb => Boxed.other ((hb.alloc tmp).kept hgrow (own_ge hrow j hj)) hjB v'⟩
theorem piecesL_le (c : UInt8) : ∀ (l p : List UInt8), p ∈ piecesL c l → p.length ≤ l.length
  | [], p, h => by
    unfold piecesL at h
    simp at h
    subst h
    exact Nat.le_refl _
  | x :: xs, p, h => by
    by_cases hx : x = c
    · subst hx
      rw [piecesL_same] at h
      rcases List.mem_cons.1 h with rfl | h
      · simp
      · have := piecesL_le x xs p h
        simp
        omega
    · cases e : piecesL c xs with
      | nil => exact absurd e (piecesL_ne c xs)
      | cons q qs =>
        rw [piecesL_step hx e] at h
        rcases List.mem_cons.1 h with rfl | h
        · have := piecesL_le c xs q (by rw [e]; exact List.mem_cons_self ..)
          simp
          omega
        · have := piecesL_le c xs p (by rw [e]; exact List.mem_cons_of_mem _ h)
          simp
          omega
theorem texts_le {c : UInt8} {s x : ByteArray} (h : x ∈ texts c s) : x.size ≤ s.size := by
  unfold texts at h
  obtain ⟨p, hp, rfl⟩ := List.mem_map.1 h
  have := piecesL_le c _ p hp
  rw [data_length] at this
  show p.toArray.size ≤ s.size
  rw [List.size_toArray]
  exact this
theorem take_snocD {l : List ByteArray} {k : Nat} (h : k < l.length) : l.take (k + 1) = l.take k ++ [l.getD k ByteArray.empty] ∧ l.getD k ByteArray.empty ∈ l := by
  rw [List.take_succ_eq_append_getElem h, List.getD_eq_getElem?_getD, List.getElem?_eq_getElem h]
  exact ⟨rfl, List.getElem_mem h⟩
theorem strs_reads {W : World} {base : Nat} {v : Value} {l : List ByteArray} (h : W.ownsRow base 9 1 v l.length (strs l)) (hl : l.length ≤ 1000) : ∃ A q, v = .slice A l.length q ∧ l.length ≤ q ∧ Kd.C Kd.string W A l.length l := by
  obtain ⟨hlen, hrest⟩ := h
  rcases hrest with ⟨rfl, h0⟩ | ⟨g, cap, cur, rfl, hg, hh, hnc, hcm, hsz, htk⟩
  · obtain rfl : l = [] := List.eq_nil_of_length_eq_zero h0
    exact ⟨none, 0, rfl, Nat.le_refl _, Kd.C_nil _ _⟩
  · rw [Nat.mul_one] at hsz htk
    refine ⟨_, cap, rfl, hnc, Kd.C_of_reads (d := ByteArray.empty) (h1 := fun _ => rfl) ⟨rfl, by omega, fun _ => ⟨⟨g, 0, none⟩, rfl, fun j hj => ?_⟩⟩⟩
    have h1 : (strs l)[j]? = some (.string (l.getD j ByteArray.empty)) := by
      unfold strs
      rw [List.getElem?_map, List.getElem?_eq_getElem hj, List.getD_eq_getElem?_getD, List.getElem?_eq_getElem hj]
      rfl
    rw [← htk, List.getElem?_take_of_lt hj] at h1
    rw [Addr.add_lit, Nat.zero_add, Lib.cell_of_heap hh]
    simpa using h1
theorem strs_lit (W : World) (l : List ByteArray) (hm : l.length ≤ 1000) : Kd.C Kd.string (W.alloc (.cells (l.map Value.string).toArray 9)) (some ⟨W.heap.size, 0, none⟩) l.length l :=
  Kd.C_of_reads (d := ByteArray.empty) (h1 := fun _ => rfl) ⟨rfl, by omega, fun _ => ⟨⟨W.heap.size, 0, none⟩, rfl, fun j hj => by
    rw [Addr.add_lit, Nat.zero_add, World.cell?_alloc_new]
    simp [List.getD_eq_getElem?_getD, List.getElem?_eq_getElem hj]⟩⟩
theorem bnext {w W W' : World} (h : Below w.heap.size w W) (hb : Below W.heap.size W W') : Below w.heap.size w W' :=
  h.trans ⟨hb.os, hb.tape, hb.output, hb.size, fun j hj => hb.block j (Nat.lt_of_lt_of_le hj h.size)⟩
theorem balloc {w W : World} (h : Below w.heap.size w W) (o : Obj) : Below w.heap.size w (W.alloc o) := h.alloc h.size o
theorem bstep {w W W' : World} {o : Obj} (h : Below w.heap.size w W) (hb : Below (W.heap.size + 1) (W.alloc o) W') : Below w.heap.size w W' :=
  (balloc h o).trans ⟨hb.os, hb.tape, hb.output, hb.size, fun j hj => hb.block j (Nat.lt_succ_of_lt (Nat.lt_of_lt_of_le hj h.size))⟩
theorem joinTail_cons (c : UInt8) (p : List UInt8) (ps : List (List UInt8)) : Lib.joinTail [c] (p :: ps) = c :: Lib.join (p :: ps) [c] := by
  rw [Lib.join_cons]
  simp [Lib.joinTail]
theorem join_pieces (c : UInt8) : ∀ l : List UInt8, Lib.join (piecesL c l) [c] = l
  | [] => by unfold piecesL; exact Lib.join_one _ _
  | x :: xs => by
    have ih := join_pieces c xs
    cases e : piecesL c xs with
    | nil => exact absurd e (piecesL_ne c xs)
    | cons p ps =>
      rw [e] at ih
      by_cases hx : x = c
      · subst hx
        rw [piecesL_same, e, Lib.join_cons, joinTail_cons, ih]
        rfl
      · rw [piecesL_step hx e, Lib.join_cons]
        rw [Lib.join_cons] at ih
        simp [ih]
theorem pieces_app (c : UInt8) (rest : List UInt8) (q : List UInt8) (qs : List (List UInt8)) (e : piecesL c rest = q :: qs) : ∀ p : List UInt8, c ∉ p → piecesL c (p ++ rest) = (p ++ q) :: qs
  | [], _ => e
  | x :: p, h => by
    have hx : x ≠ c := fun e2 => h (by rw [e2]; exact List.mem_cons_self ..)
    have ih := pieces_app c rest q qs e p (fun hm => h (List.mem_cons_of_mem _ hm))
    exact piecesL_step hx ih
theorem pieces_join (c : UInt8) : ∀ (ps : List (List UInt8)) (p : List UInt8), (∀ q ∈ p :: ps, c ∉ q) → piecesL c (Lib.join (p :: ps) [c]) = p :: ps
  | [], p, h => by
    rw [Lib.join_one]
    have := pieces_app c [] [] [] (by unfold piecesL; rfl) p (h p (List.mem_cons_self ..))
    simpa using this
  | q :: qs, p, h => by
    have ih := pieces_join c qs q (fun r hr => h r (List.mem_cons_of_mem _ hr))
    rw [Lib.join_cons, joinTail_cons]
    have := pieces_app c (c :: Lib.join (q :: qs) [c]) [] (q :: qs) (by rw [piecesL_same, ih]) p (h p (List.mem_cons_self ..))
    simpa using this
theorem bytes_id (s : ByteArray) : (⟨s.data.toList.toArray⟩ : ByteArray) = s := rfl
theorem joinTail_len (c : UInt8) (m : Nat) : ∀ r : List (List UInt8), (∀ x ∈ r, x.length ≤ m) → (Lib.joinTail [c] r).length ≤ r.length * (m + 1)
  | [], _ => by simp [Lib.joinTail]
  | x :: r, h => by
    have h1 := h x (List.mem_cons_self ..)
    have h2 := joinTail_len c m r (fun y hy => h y (List.mem_cons_of_mem _ hy))
    simp only [Lib.joinTail, List.map_cons, List.flatten_cons, List.length_append, List.length_cons, List.length_nil] at h2 ⊢
    rw [Nat.succ_mul]
    omega
theorem join_len (c : UInt8) (m : Nat) (l : List (List UInt8)) (h : ∀ x ∈ l, x.length ≤ m) : (Lib.join l [c]).length ≤ l.length * (m + 1) := by
  cases l with
  | nil => simp [Lib.join_nil]
  | cons x r =>
    have h1 := h x (List.mem_cons_self ..)
    have h2 := joinTail_len c m r (fun y hy => h y (List.mem_cons_of_mem _ hy))
    rw [Lib.join_cons, List.length_append, List.length_cons, Nat.succ_mul]
    omega
end Go.Proofs.YtpllckhmnjgohaaDoor.P
