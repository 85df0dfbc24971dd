import Derived.Test.YtbdodjedigegdaaDoorSLheadSame
namespace Go.Proofs.YtbdodjedigegdaaDoor.P
open Go.RowKit Go.Proofs.YtbdodjedigegdaaDoorW.PrintWords Go.Proofs.YtbdodjedigegdaaDoorW.PrintLast Go.Proofs.YtbdodjedigegdaaDoorW.PrintMore
set_option linter.unusedVariables false
set_option linter.unusedSimpArgs false
set_option linter.unnecessarySimpa false
attribute [local go_sem] max2_int min2_int max_two min_two max_three min_three max_four min_four
set_option linter.unusedVariables false
set_option linter.unusedSimpArgs false
set_option linter.unnecessarySimpa false
/-! ### copies of bytes, for the laws -/
theorem appR_ {P : Program} {Q : Exit → Act → World → Prop} {ops : Array Oper} {oi : Oper} {N : Option Tmp} {a : Act} {w w' : World} {K : Act → World → Prop} (hw : Region.wanted oi (yielded ops a.tmps) = true) (hN : oi.dst = N) (s x : Operand) (t u : TypeId)
    (ho : oi.op = .call { callee := .builtin .append, args := #[s, x], argTypes := #[t, u] }) (v y v' : Value) (hs : a.eval s = v) (hx : a.eval x = y) (hr : (Builtin.append_ #[t, u] oi.type #[v, y]).run P w = .ok v' w') (h : K (a.put N v') w') :
    if Region.wanted oi (yielded ops a.tmps) = true then Oper.wp P oi a w K Q else K (a.put N undef) w := by
  refine value_ (w1 := w') (v := v') hw hN ?_ h
  unfold execOp
  simp only [ho, resolve, invoke, builtin, Sem.run_bind, Sem.run_pure, Result.andThen_ok, List.map_toArray, List.map_cons, List.map_nil, hs, hx, hr]
theorem copy_u8 (base : Nat) {X : World} {B : Nat} {l : List UInt8} {A : Option Addr} {c : Nat} (ty : TypeId) (hB : X.heap[B]? = some (.cells #[] 5 (0, 0))) (hbB : base ≤ B) (hr : ReadsInt X .u8 A l.length (l.map fun b => (b.toNat : Int))) (hl : l.length ≤ 100000) :
    ∃ A' c' W', (Builtin.append_ #[26, 26] ty #[.slice (some ⟨B, 0, none⟩) 0 0, .slice A l.length c]).run Tryd.prog X = .ok (.slice A' l.length c') W' ∧ W'.ownsRow base 5 1 (.slice A' l.length c') l.length (u8s l) ∧ X.grownBy W' (some B) := by
  have own0 : X.ownsRow base 5 1 (.slice (some ⟨B, 0, none⟩) 0 0) ([] : List UInt8).length (u8s []) := ⟨rfl, .inr ⟨B, 0, #[], rfl, hbB, hB, Nat.le_refl _, by decide, rfl, rfl⟩⟩
  obtain ⟨A', c', W', h1, h2, h3⟩ := run_app_u8 base ty own0 hr (by decide) hl (Nat.le_trans hbB (Nat.le_of_lt (blk_lt hB)))
  simp only [List.length_nil, Nat.zero_add, List.nil_append] at h1 h2
  exact ⟨A', c', W', h1, h2, h3⟩
def toU (l : List Int) : List UInt8 := l.map fun x => x.toNat.toUInt8
theorem toU_map {l : List Int} (h : ∀ x ∈ l, 0 ≤ x ∧ x < 256) : ((toU l).map fun b => (b.toNat : Int)) = l := by
  unfold toU
  rw [List.map_map]
  conv => rhs; rw [← List.map_id l]
  refine List.map_congr_left fun x hx => ?_
  obtain ⟨h0, h1⟩ := h x hx
  obtain ⟨n, rfl⟩ := Int.eq_ofNat_of_zero_le h0
  simp
  omega
theorem toU_len (l : List Int) : (toU l).length = l.length := by unfold toU; rw [List.length_map]
theorem u8_wf {l : List Int} (h : ∀ n ∈ l, (Lit.int .u8 n).wf = true) : ∀ x ∈ l, 0 ≤ x ∧ x < 256 := fun x hx => by
  have h := h x hx
  simp only [Lit.wf, Bool.and_eq_true, decide_eq_true_eq] at h
  have h1 : 0 ≤ x := h.1
  have h2 : x ≤ 255 := h.2
  omega
theorem wpList_appR {P : Program} {Q : Exit → Act → World → Prop} {ops : Array Oper} {rest : List Oper} {o : Oper} {a : Act} {w w' : World} (hgd : o.guard = none) (s x : Operand) (t u : TypeId)
    (ho : o.op = .call { callee := .builtin .append, args := #[s, x], argTypes := #[t, u] }) (v y v' : Value) (hs : a.eval s = v) (hx : a.eval x = y) (hr : (Builtin.append_ #[t, u] o.type #[v, y]).run P w = .ok v' w') (h : wpList P ops Q rest (a.put o.dst v') w') :
    wpList P ops Q (o :: rest) a w := by
  refine wpList_plain hgd fun K hK => ?_
  unfold Oper.wp execOp
  simp only [ho, resolve, invoke, builtin, Sem.run_bind, Sem.run_pure, Result.andThen_ok, List.map_toArray, List.map_cons, List.map_nil, hs, hx, hr]
  exact hK _ _ h
theorem blkNewOf {w W : World} {B : Nat} (_h : Below B w W) (o : Obj) : (W.alloc o).heap[W.heap.size]? = some o := blk_new W o
theorem alloc_sz (U : World) (o : Obj) : (U.alloc o).heap.size = U.heap.size + 1 := Array.size_push _
theorem u8_new {U : World} {base : Nat} {A : Option Addr} {n c : Nat} {l : List UInt8} (h : U.ownsRow base 5 1 (.slice A n c) l.length (u8s l)) (hl : l.length ≤ 1000000) : n = l.length ∧ l.length ≤ c ∧ ReadsInt U .u8 A l.length (l.map fun b => (b.toNat : Int)) := by
  obtain ⟨A', q, e, hq, -, hr⟩ := own_u8_form h
  obtain ⟨rfl, rfl, rfl⟩ := Value.slice.inj e
  exact ⟨rfl, hq, hr hl⟩
/-- 'append(append([]byte{}, b...), more...)'. -/
theorem twice_u8 (X : World) (n : Nat) (hn : X.heap.size = n) {l m : List UInt8} {A B : Option Addr} {c d : Nat} (ty : TypeId) (hA : ReadsInt X .u8 A l.length (l.map fun b => (b.toNat : Int))) (hB : ReadsInt X .u8 B m.length (m.map fun b => (b.toNat : Int))) (hl : l.length ≤ 50000) (hm : m.length ≤ 50000) :
    ∃ A5 c5 w5 A6 c6 w6, (Builtin.append_ #[26, 26] ty #[.slice (some ⟨n, 0, none⟩) 0 0, .slice A l.length c]).run Tryd.prog (X.alloc (.cells #[] 5)) = .ok (.slice A5 l.length c5) w5 ∧ (Builtin.append_ #[26, 26] ty #[.slice A5 l.length c5, .slice B m.length d]).run Tryd.prog w5 = .ok (.slice A6 (l ++ m).length c6) w6 ∧ Below X.heap.size X w6 ∧ ReadsInt w6 .u8 A6 (l ++ m).length ((l ++ m).map fun b => (b.toNat : Int)) := by
  subst hn
  have b0 : Below X.heap.size X (X.alloc (.cells #[] 5)) := (Below.refl _ X).alloc (Nat.le_refl _) _
  obtain ⟨A5, c5, w5, h5, o5, g5⟩ := copy_u8 (c := c) X.heap.size ty (blk_new X (.cells #[] 5)) (Nat.le_refl _) (hA.below b0) (by omega)
  have b5 : Below X.heap.size X w5 := b0.grown g5 b0.size (fun j hj => by cases hj; exact Nat.le_refl _)
  obtain ⟨A6, c6, w6, h6, o6, g6⟩ := run_app_u8 (c := d) X.heap.size ty o5 (hB.below b5) (by omega) (by omega) b5.size
  obtain ⟨e, -, hr⟩ := u8_new o6 (by rw [List.length_append]; omega)
  rw [e] at h6
  exact ⟨A5, c5, w5, A6, c6, w6, h5, h6, b5.grown g6 b5.size (fun j hj => (o5.lt j hj).1), hr⟩
end Go.Proofs.YtbdodjedigegdaaDoor.P
