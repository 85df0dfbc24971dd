-- Laid by sp.py, a program of this session's, out of the translation and the session's own stand-ins.
import Derived.Test.YtnlckandbgpncaaPx0
import Derived.Test.YtnlckandbgpncaaStrackTable
import Derived.Test.YtnlckandbgpncaaStrackOps
import Derived.Test.YtnlckandbgpncaaShelf
import Derived.Test.YtnlckandbgpncaaStrackOps
import Derived.Test.YtnlckandbgpncaaSLswap
namespace Go.Proofs.Ytnlckandbgpncaa.P
open Go.RowKit Go.Proofs.YtnlckandbgpncaaW.PrintWords Go.Proofs.YtnlckandbgpncaaW.PrintLast Go.Proofs.YtnlckandbgpncaaW.PrintMore
attribute [local go_sem] max2_int min2_int max_two min_two max_three min_three max_four min_four   -- for this text's walks alone
set_option linter.unusedVariables false
set_option linter.unusedSimpArgs false
set_option linter.unnecessarySimpa false

/-! ### rack.Rack: Give -/
def giveAt (ks : List Int) (step : Int) : Nat → Int → Option Int
  | 0, _ => none
  | n + 1, nx => if 1099511627775 < nx then none else if ks.contains nx = true then giveAt ks step n (nx + step) else some nx
def giveNx (ks : List Int) (step : Int) : Nat → Int → Int
  | 0, nx => nx
  | n + 1, nx => if 1099511627775 < nx then nx else if ks.contains nx = true then giveNx ks step n (nx + step) else nx + step
/-- More rounds than are wanted change nothing. -/
theorem giveAt_more (ks : List Int) (step : Int) (hs : 1 ≤ step) : ∀ (n m : Nat) (nx : Int), 1099511627776 - nx ≤ n → n ≤ m → giveAt ks step m nx = giveAt ks step n nx ∧ giveNx ks step m nx = giveNx ks step n nx := by
  intro n
  induction n with
  | zero =>
    intro m nx h _
    have h1 : 1099511627775 < nx := by omega
    cases m with
    | zero => exact ⟨rfl, rfl⟩
    | succ m => exact ⟨if_pos h1, if_pos h1⟩
  | succ n ih =>
    intro m nx h hm
    cases m with
    | zero => omega
    | succ m =>
      obtain ⟨e1, e2⟩ := ih m (nx + step) (by omega) (by omega)
      unfold giveAt giveNx
      rw [e1, e2]
      exact ⟨rfl, rfl⟩
def gvId (ks : List Int) (size next step : Int) : Option Int := if size ≤ (ks.length : Int) then none else giveAt ks step (1099511627776 - next).toNat next
def gvNx (ks : List Int) (size next step : Int) : Int := if size ≤ (ks.length : Int) then next else giveNx ks step (1099511627776 - next).toNat next
def gvK (ks : List Int) : Option Int → List Int
  | none => ks
  | some k => putK ks k
def gvV (ks vs : List Int) (v : Int) : Option Int → List Int
  | none => vs
  | some k => putV ks vs k v
def gvE : Option Int → Int
  | none => 4
  | some _ => 0
def nextMany (R : Nat) (W : World) : Nat := (1099511627776 - intOf ((W.cell? ⟨R, 3, none⟩).getD (.int .i64 0))).toNat
section
variable {w0 : World} {R : Nat} {kv vv : Value} {ks vs : List Int} {size next step : Int} {W : World}
theorem RkRaw.many (h : RkRaw w0 R kv vv ks vs size next step W) : nextMany R W = (1099511627776 - next).toNat := by
  have c : W.cell? ⟨R, 3, none⟩ = some (.int .i64 next) := (blk_cell h.blk 3).trans rfl
  unfold nextMany
  rw [c]
  rfl
theorem RkMv.atR {W' : World} (h : RkMv R kv vv W W') (j : Nat) (x : Value) : RkMv R kv vv W (W'.setCell ⟨R, j, none⟩ x) :=
  ⟨by simpa [World.setCell] using h.size, fun k hk h1 h2 h3 => (Below.heap_setCell W' ⟨R, j, none⟩ x k h1).trans (h.keep k hk h1 h2 h3)⟩
theorem RkMv.trans_ {W1 W2 : World} {kv' vv' : Value} (a : RkMv R kv vv W W1) (b : RkMv R kv' vv' W1 W2) (hk : kv' = kv) (hv : vv' = vv) : RkMv R kv vv W W2 := by
  subst hk hv
  exact ⟨Nat.le_trans a.size b.size, fun j hj h1 h2 h3 => (b.keep j (Nat.lt_of_lt_of_le hj a.size) h1 h2 h3).trans (a.keep j hj h1 h2 h3)⟩
theorem give_round {o : Option Int} {x : Int} {nx : Int} (hx : ¬ 1099511627775 < nx) (hst : 1 ≤ step) (h : giveAt ks step (1099511627776 - nx).toNat nx = o ∧ giveNx ks step (1099511627776 - nx).toNat nx = x) :
    (ks.contains nx = true → giveAt ks step (1099511627776 - (nx + step)).toNat (nx + step) = o ∧ giveNx ks step (1099511627776 - (nx + step)).toNat (nx + step) = x) ∧ (ks.contains nx = false → some nx = o ∧ nx + step = x) := by
  obtain ⟨m, hm⟩ : ∃ m, (1099511627776 - nx).toNat = m + 1 := ⟨(1099511627776 - nx).toNat - 1, by omega⟩
  rw [hm] at h
  unfold giveAt giveNx at h
  rw [if_neg hx, if_neg hx] at h
  constructor
  · intro hc
    rw [if_pos hc, if_pos hc] at h
    obtain ⟨e1, e2⟩ := giveAt_more ks step hst (1099511627776 - (nx + step)).toNat m (nx + step) (by omega) (by omega)
    rw [← e1, ← e2]
    exact h
  · intro hc
    rw [if_neg (by rw [hc]; decide), if_neg (by rw [hc]; decide)] at h
    exact h
set_option maxHeartbeats 8000000 in
theorem rk_Give (h : RkRaw w0 R kv vv ks vs size next step W) (ok : TbOk ks vs) (hs : size ≠ 0) (hst : 1 ≤ step) (hst2 : step ≤ 1000) (hn : 1 ≤ next) (hn2 : next ≤ 1099511629000) (v : Int) : Calls Try.prog 11 #[.pointer (some ⟨R, 0, none⟩), .int .i64 v] W fun e W' => e = .returned (.tuple #[.int .i64 ((gvId ks size next step).getD 0), .int .i64 (gvE (gvId ks size next step))]) ∧ ∃ kv' vv', RkRaw w0 R kv' vv' (gvK ks (gvId ks size next step)) (gvV ks vs v (gvId ks size next step)) size (gvNx ks size next step) step W' ∧ RkMv R kv vv W W' := by
  have N := rk_none h hs
  have L := tb_len w0 R kv vv ks vs size next step W h
  have HH := Aside0.mk h
  have f2 := blk_frozen h.blk 3
  by_cases hf : size ≤ (ks.length : Int)
  · have e1 : gvId ks size next step = none := by unfold gvId; rw [if_pos hf]
    have e2 : gvNx ks size next step = next := by unfold gvNx; rw [if_pos hf]
    have k3 : decide (size ≤ (ks.length : Int)) = true := decide_eq_true hf
    rw [e1, e2]
    clear e1 e2 hf
    have L2 := tb_len w0 R kv vv ks vs size next step W.drew (h.below (Below.refl _ _).drew)
    go_enter Try.func11, Try.ntmps11
    go_wp2_with (go_at_call 25; refine N.mono ?_; rintro e w1 ⟨rfl, rfl⟩)
    refine start_ (n := 9) (S := fun w' => (w'.cell? ⟨R, 1 + 1, none⟩ = some (.int .i64 size))) (ds := []) #[false, false, false, false, false, false, false, false, false] (by kernel_rfl) rfl rfl ((blk_cell h.blk 2).trans rfl) (fun hHeld => ?_)
    refine pure_ (i := 0) (N := some 11) (v := ?_) (a' := ?_) #[true, false, false, false, false, false, false, false, false] rfl rfl (by kernel_rfl) (fun _ _ _ h => h) (Or.inl ⟨by rfl, ?_⟩) ?_ ?_
    rotate_left
    · intro w'
      go_simp
      with_reducible rfl
    rotate_left
    · simp only [Act.put, List.setIfInBounds_toArray, List.set_cons_zero, List.set_cons_succ, i64_w, i32_w]
      rfl
    refine pure_ (i := 1) (N := some 12) (v := ?_) (a' := ?_) #[true, true, false, false, false, false, false, false, false] rfl rfl (by kernel_rfl) (fun _ _ _ h => h) (Or.inl ⟨by rfl, ?_⟩) ?_ ?_
    rotate_left
    · intro w'
      go_simp
      with_reducible rfl
    rotate_left
    · simp only [Act.put, List.setIfInBounds_toArray, List.set_cons_zero, List.set_cons_succ, i64_w, i32_w]
      rfl
    refine pure_ (i := 2) (N := some 13) (v := ?_) (a' := ?_) #[true, true, true, false, false, false, false, false, false] rfl rfl (by kernel_rfl) (fun _ _ _ h => h) (Or.inl ⟨by rfl, ?_⟩) ?_ ?_
    rotate_left
    · intro w'
      go_simp
      with_reducible rfl
    rotate_left
    · simp only [Act.put, List.setIfInBounds_toArray, List.set_cons_zero, List.set_cons_succ, i64_w, i32_w]
      rfl
    refine pure_ (i := 4) (N := some 15) (v := ?_) (a' := ?_) #[true, true, true, false, true, false, false, false, false] rfl rfl (by kernel_rfl) (fun _ _ _ h => h) (Or.inl ⟨by rfl, ?_⟩) ?_ ?_
    rotate_left
    · intro w'
      go_simp
      with_reducible rfl
    rotate_left
    · simp only [Act.put, List.setIfInBounds_toArray, List.set_cons_zero, List.set_cons_succ, i64_w, i32_w]
      rfl
    refine pure_ (i := 5) (N := some 16) (v := ?_) (a' := ?_) #[true, true, true, false, true, true, false, false, false] rfl rfl (by kernel_rfl) (fun _ _ _ h => h) (Or.inl ⟨by rfl, ?_⟩) ?_ ?_
    rotate_left
    · intro w'
      go_simp
      with_reducible rfl
    rotate_left
    · simp only [Act.put, List.setIfInBounds_toArray, List.set_cons_zero, List.set_cons_succ, i64_w, i32_w]
      rfl
    refine pure_ (i := 6) (N := some 17) (v := ?_) (a' := ?_) #[true, true, true, false, true, true, true, false, false] rfl rfl (by kernel_rfl) (fun _ _ _ h => h) (Or.inl ⟨by rfl, ?_⟩) ?_ ?_
    rotate_left
    · intro w'
      go_simp
      with_reducible rfl
    rotate_left
    · simp only [Act.put, List.setIfInBounds_toArray, List.set_cons_zero, List.set_cons_succ, i64_w, i32_w]
      rfl
    refine take_ (i := 7) (N := some 18) (v := ?_) (a' := ?_) #[true, true, true, false, true, true, true, true, false] rfl rfl (by kernel_rfl) (fun _ _ _ h => h) (Or.inl ⟨by rfl, ?_⟩) hHeld ?_ ?_
    rotate_left
    · intro w' s0
      go_simp
      with_reducible rfl
    rotate_left
    · simp only [Act.put, List.setIfInBounds_toArray, List.set_cons_zero, List.set_cons_succ, i64_w, i32_w]
      rfl
    refine one_ (i := 3) (N := some 14) #[true, true, true, true, true, true, true, true, false] rfl rfl (by kernel_rfl) (by decide) (fun K hK => ?_)
    refine goes_ Try.func27 (by kernel_rfl) rfl #[.pointer (some ⟨R, 0, none⟩)] (by rfl) rfl rfl (by simp only [List.map_toArray, List.map_cons, List.map_nil]; rfl) ?_
    with_reducible refine (L2).mono ?_
    rintro e w3 ⟨rfl, hw3⟩
    obtain rfl := hw3.symm
    refine ⟨_, rfl, ?_⟩
    refine hK.out _ _ (hHeld) (fun hHeld => ?_)
    clear hK K
    refine norm_ (a' := ?_) ?_ ?_
    rotate_left
    · show Act.put _ (some 14) _ = _
      simp only [Act.put, List.setIfInBounds_toArray, List.set_cons_zero, List.set_cons_succ, i64_w, i32_w]
      rfl
    refine pure_ (i := 8) (N := some 19) (v := ?_) (a' := ?_) #[true, true, true, true, true, true, true, true, true] rfl rfl (by kernel_rfl) (fun _ _ _ h => h) (Or.inl ⟨by rfl, ?_⟩) ?_ ?_
    rotate_left
    · intro w'
      go_simp
      with_reducible rfl
    rotate_left
    · simp only [Act.put, List.setIfInBounds_toArray, List.set_cons_zero, List.set_cons_succ, i64_w, i32_w]
      rfl
    refine done_ (by kernel_rfl) ?_
    go_wp2_with fail
    go_ret2
    exact ⟨rfl, ⟨kv, vv, HH.out.below (Below.refl _ _).drew⟩, RkMv.of_below (Below.refl _ _).drew⟩
  have e1 : gvId ks size next step = giveAt ks step (1099511627776 - next).toNat next := by unfold gvId; rw [if_neg hf]
  have e2 : gvNx ks size next step = giveNx ks step (1099511627776 - next).toNat next := by unfold gvNx; rw [if_neg hf]
  have k3 : decide (size ≤ (ks.length : Int)) = false := decide_eq_false hf
  rw [e1, e2]
  generalize hO : giveAt ks step (1099511627776 - next).toNat next = o
  generalize hX : giveNx ks step (1099511627776 - next).toNat next = x
  have AO := Aside0.mk (And.intro hO hX)
  clear e1 e2 hf hO hX
  have L2 := tb_len w0 R kv vv ks vs size next step W.drew (h.below (Below.refl _ _).drew)
  have HG := Aside0.mk (fun (nx : Int) (W1 : World) (h1 : RkRaw w0 R kv vv ks vs size nx step W1) => tb_get w0 R kv vv ks vs size nx step W1 h1 ok nx)
  have HP := Aside0.mk (fun (nx nx2 : Int) (W1 : World) (h1 : RkRaw w0 R kv vv ks vs size nx2 step W1) => tb_put w0 R kv vv ks vs size nx2 step W1 h1 ok nx v)
  go_enter Try.func11, Try.ntmps11
  go_wp2_with (go_at_call 25; refine N.mono ?_; rintro e w1 ⟨rfl, rfl⟩)
  refine start_ (n := 9) (S := fun w' => (w'.cell? ⟨R, 1 + 1, none⟩ = some (.int .i64 size))) (ds := []) #[false, false, false, false, false, false, false, false, false] (by kernel_rfl) rfl rfl ((blk_cell h.blk 2).trans rfl) (fun hHeld => ?_)
  refine pure_ (i := 0) (N := some 11) (v := ?_) (a' := ?_) #[true, false, false, false, false, false, false, false, false] rfl rfl (by kernel_rfl) (fun _ _ _ h => h) (Or.inl ⟨by rfl, ?_⟩) ?_ ?_
  rotate_left
  · intro w'
    go_simp
    with_reducible rfl
  rotate_left
  · simp only [Act.put, List.setIfInBounds_toArray, List.set_cons_zero, List.set_cons_succ, i64_w, i32_w]
    rfl
  refine pure_ (i := 1) (N := some 12) (v := ?_) (a' := ?_) #[true, true, false, false, false, false, false, false, false] rfl rfl (by kernel_rfl) (fun _ _ _ h => h) (Or.inl ⟨by rfl, ?_⟩) ?_ ?_
  rotate_left
  · intro w'
    go_simp
    with_reducible rfl
  rotate_left
  · simp only [Act.put, List.setIfInBounds_toArray, List.set_cons_zero, List.set_cons_succ, i64_w, i32_w]
    rfl
  refine pure_ (i := 2) (N := some 13) (v := ?_) (a' := ?_) #[true, true, true, false, false, false, false, false, false] rfl rfl (by kernel_rfl) (fun _ _ _ h => h) (Or.inl ⟨by rfl, ?_⟩) ?_ ?_
  rotate_left
  · intro w'
    go_simp
    with_reducible rfl
  rotate_left
  · simp only [Act.put, List.setIfInBounds_toArray, List.set_cons_zero, List.set_cons_succ, i64_w, i32_w]
    rfl
  refine pure_ (i := 4) (N := some 15) (v := ?_) (a' := ?_) #[true, true, true, false, true, false, false, false, false] rfl rfl (by kernel_rfl) (fun _ _ _ h => h) (Or.inl ⟨by rfl, ?_⟩) ?_ ?_
  rotate_left
  · intro w'
    go_simp
    with_reducible rfl
  rotate_left
  · simp only [Act.put, List.setIfInBounds_toArray, List.set_cons_zero, List.set_cons_succ, i64_w, i32_w]
    rfl
  refine pure_ (i := 5) (N := some 16) (v := ?_) (a' := ?_) #[true, true, true, false, true, true, false, false, false] rfl rfl (by kernel_rfl) (fun _ _ _ h => h) (Or.inl ⟨by rfl, ?_⟩) ?_ ?_
  rotate_left
  · intro w'
    go_simp
    with_reducible rfl
  rotate_left
  · simp only [Act.put, List.setIfInBounds_toArray, List.set_cons_zero, List.set_cons_succ, i64_w, i32_w]
    rfl
  refine pure_ (i := 6) (N := some 17) (v := ?_) (a' := ?_) #[true, true, true, false, true, true, true, false, false] rfl rfl (by kernel_rfl) (fun _ _ _ h => h) (Or.inl ⟨by rfl, ?_⟩) ?_ ?_
  rotate_left
  · intro w'
    go_simp
    with_reducible rfl
  rotate_left
  · simp only [Act.put, List.setIfInBounds_toArray, List.set_cons_zero, List.set_cons_succ, i64_w, i32_w]
    rfl
  refine take_ (i := 7) (N := some 18) (v := ?_) (a' := ?_) #[true, true, true, false, true, true, true, true, false] rfl rfl (by kernel_rfl) (fun _ _ _ h => h) (Or.inl ⟨by rfl, ?_⟩) hHeld ?_ ?_
  rotate_left
  · intro w' s0
    go_simp
    with_reducible rfl
  rotate_left
  · simp only [Act.put, List.setIfInBounds_toArray, List.set_cons_zero, List.set_cons_succ, i64_w, i32_w]
    rfl
  refine one_ (i := 3) (N := some 14) #[true, true, true, true, true, true, true, true, false] rfl rfl (by kernel_rfl) (by decide) (fun K hK => ?_)
  refine goes_ Try.func27 (by kernel_rfl) rfl #[.pointer (some ⟨R, 0, none⟩)] (by rfl) rfl rfl (by simp only [List.map_toArray, List.map_cons, List.map_nil]; rfl) ?_
  with_reducible refine (L2).mono ?_
  rintro e w3 ⟨rfl, hw3⟩
  obtain rfl := hw3.symm
  refine ⟨_, rfl, ?_⟩
  refine hK.out _ _ (hHeld) (fun hHeld => ?_)
  clear hK K
  refine norm_ (a' := ?_) ?_ ?_
  rotate_left
  · show Act.put _ (some 14) _ = _
    simp only [Act.put, List.setIfInBounds_toArray, List.set_cons_zero, List.set_cons_succ, i64_w, i32_w]
    rfl
  refine pure_ (i := 8) (N := some 19) (v := ?_) (a' := ?_) #[true, true, true, true, true, true, true, true, true] rfl rfl (by kernel_rfl) (fun _ _ _ h => h) (Or.inl ⟨by rfl, ?_⟩) ?_ ?_
  rotate_left
  · intro w'
    go_simp
    with_reducible rfl
  rotate_left
  · simp only [Act.put, List.setIfInBounds_toArray, List.set_cons_zero, List.set_cons_succ, i64_w, i32_w]
    rfl
  refine done_ (by kernel_rfl) ?_
  go_wp2_with fail
  have h1 := h.below (Below.refl _ _).drew
  go_loopw [6, 7, 8] (fun _ _ _ wr => ∃ nx : Int, RkRaw w0 R kv vv ks vs size nx step wr ∧ RkMv R kv vv w1 wr ∧ 1 ≤ nx ∧ nx ≤ 1099511629000 ∧ Aside0 (giveAt ks step (1099511627776 - nx).toNat nx = o ∧ giveNx ks step (1099511627776 - nx).toNat nx = x)) (fun _ _ _ wr => nextMany R wr)
  case atStart => exact ⟨next, h1, RkMv.of_below (Below.refl _ _).drew, hn, hn2, AO⟩
  case round =>
    obtain ⟨nx, hr, hm, ha, hb, hao⟩ := hrel
    have c2 := (blk_cell hr.blk 3).trans rfl
    have c3 := (blk_cell hr.blk 4).trans rfl
    have fz := blk_frozen hr.blk 3
    simp at c2 c3
    by_cases hx : 1099511627775 < nx
    · have k4 : decide (nx ≤ 1099511627775) = false := decide_eq_false (by omega)
      have HR := Aside0.mk hr
      have HM := Aside0.mk hm
      obtain ⟨eo, ex⟩ := hao.out
      rw [show (1099511627776 - nx).toNat = 0 by omega] at eo ex
      obtain rfl : none = o := eo
      obtain rfl : nx = x := ex
      clear hr hm
      go_wp2_with fail
      go_ret2
      exact ⟨rfl, kv, vv, HR.out, HM.out⟩
    · have k4 : decide (nx ≤ 1099511627775) = true := decide_eq_true (by omega)
      have w4 : wrap64 (nx + step) = nx + step := by unfold wrap64; omega
      have hr2 : RkRaw w0 R kv vv ks vs size (nx + step) step (wr.setCell ⟨R, 3, none⟩ (.int .i64 (nx + step))) := by simpa using hr.nums_ 3 (.inr (.inl rfl)) (nx + step)
      have hm2 : RkMv R kv vv w1 (wr.setCell ⟨R, 3, none⟩ (.int .i64 (nx + step))) := hm.atR 3 _
      obtain ⟨gr1, gr2⟩ := give_round hx hst hao.out
      have hmy := hr.many
      have HR := Aside0.mk (And.intro hr2 hm2)
      have HY := Aside0.mk hmy
      clear hr hm hr2 hm2 hmy
      by_cases hc : ks.contains nx = true
      · have AO2 := Aside0.mk (gr1 hc)
        clear gr1 gr2
        go_wp2_with fail
        go_region
        obtain ⟨hr2, hm2⟩ := HR.out
        have hr3 := hr2.below (Below.refl _ _).drew
        have G := tb_get w0 R kv vv ks vs size (nx + step) step _ hr3 ok nx
        have hm3 := hm2.below (Below.refl _ _).drew
        rw [hc] at G
        clear hc hr2 hm2
        have HR3 := Aside0.mk (And.intro hr3 hm3)
        clear hr3 hm3
        go_wp2_with (go_at_call 28; refine G.mono ?_; rintro e w2 ⟨rfl, hd⟩)
        obtain ⟨hr3, hm3⟩ := HR3.out
        have hr4 := hr3.below hd.below
        refine ⟨⟨nx + step, hr4, hm3.below hd.below, by omega, by omega, AO2⟩, ?_⟩
        rw [hr4.many, HY.out]
        omega
      · have hc2 : ks.contains nx = false := by simpa using hc
        obtain ⟨eo, ex⟩ := gr2 hc2
        subst eo ex
        clear gr1 gr2 hc
        go_wp2_with fail
        go_region
        obtain ⟨hr2, hm2⟩ := HR.out
        have hr3 := hr2.below (Below.refl _ _).drew
        have G := tb_get w0 R kv vv ks vs size (nx + step) step _ hr3 ok nx
        have hm3 := hm2.below (Below.refl _ _).drew
        rw [hc2] at G
        clear hc2 hr2 hm2
        have HR3 := Aside0.mk (And.intro hr3 hm3)
        clear hr3 hm3
        go_wp2_with (first | (go_at_call 28; refine G.mono ?_; rintro e w2 ⟨rfl, hd⟩; have P := HP.out nx (nx + step) w2 (HR3.out.1.below hd.below)) | (go_at_call 29; refine P.mono ?_; rintro e w4 ⟨rfl, kv', vv', h4, m4⟩))
        go_ret2
        exact ⟨rfl, kv', vv', h4, (HR3.out.2.below hd.below).trans_ m4 rfl rfl⟩
end

end Go.Proofs.Ytnlckandbgpncaa.P
