-- Laid by sp.py, a program of this session's, out of the translation and the session's own stand-ins.
import Derived.Test.YtnlckandbgpncaaPx0
import Derived.Test.YtnlckandbgpncaaStrackTable
import Derived.Test.YtnlckandbgpncaaShelf
import Derived.Test.YtnlckandbgpncaaStrackTable
import Derived.Test.YtnlckandbgpncaaSLswap
namespace Go.Proofs.Ytnlckandbgpncaa.P
open Go.RowKit Go.Proofs.YtnlckandbgpncaaW.PrintWords Go.Proofs.YtnlckandbgpncaaW.PrintLast Go.Proofs.YtnlckandbgpncaaW.PrintMore
attribute [local go_sem] max2_int min2_int max_two min_two max_three min_three max_four min_four   -- for this text's walks alone
set_option linter.unusedVariables false
set_option linter.unusedSimpArgs false
set_option linter.unnecessarySimpa false

/-! ### rack.Rack: what is done to it -/
section
variable {w0 : World} {R : Nat} {kv vv : Value} {ks vs : List Int} {size next step : Int} {W : World}
theorem rk_none (h : RkRaw w0 R kv vv ks vs size next step W) (hs : size ≠ 0) : Calls Try.prog 25 #[.pointer (some ⟨R, 0, none⟩)] W fun e W' => e = .returned (.bool false) ∧ W' = W := by
  have c2 := blk_cell h.blk 2
  simp at c2
  have k : (size == 0) = false := beq_eq_false_iff_ne.mpr hs
  clear hs
  go_enter Try.func25, Try.ntmps25
  go_wp2_with fail
  go_ret
  exact ⟨rfl, rfl⟩
theorem rk_Len (h : RkRaw w0 R kv vv ks vs size next step W) (hs : size ≠ 0) : Calls Try.prog 16 #[.pointer (some ⟨R, 0, none⟩)] W fun e W' => e = .returned (.int .i64 (ks.length : Int)) ∧ W' = W := by
  have N := rk_none h hs
  have L := tb_len w0 R kv vv ks vs size next step W h
  go_enter Try.func16, Try.ntmps16
  go_wp2_with (first | (go_at_call 25; refine N.mono ?_; rintro e w1 ⟨rfl, rfl⟩) | (go_at_call 27; refine L.mono ?_; rintro e w2 ⟨rfl, rfl⟩))
  go_ret
  exact ⟨rfl, rfl⟩
/-- Is a key there: the error. -/
def erK (ks : List Int) (k : Int) : Int := if ks.contains k = true then 0 else 30
theorem rk_Get (h : RkRaw w0 R kv vv ks vs size next step W) (ok : TbOk ks vs) (hs : size ≠ 0) (k : Int) : Calls Try.prog 14 #[.pointer (some ⟨R, 0, none⟩), .int .i64 k] W fun e W' => e = .returned (.tuple #[.int .i64 (getV ks vs k), .int .i64 (erK ks k)]) ∧ Drawn0 W W' := by
  have N := rk_none h hs
  have G := tb_get w0 R kv vv ks vs size next step W h ok k
  have hg : ks.contains k = false → getV ks vs k = 0 := fun h => by unfold getV; rw [h]; rfl
  have he : erK ks k = if ks.contains k = true then 0 else 30 := rfl
  rw [he]
  clear he
  generalize getV ks vs k = v at *
  generalize ks.contains k = b at *
  cases b with
  | true =>
    clear hg
    go_enter Try.func14, Try.ntmps14
    go_wp2_with (first | (go_at_call 25; refine N.mono ?_; rintro e w1 ⟨rfl, rfl⟩) | (go_at_call 28; refine G.mono ?_; rintro e w2 ⟨rfl, hd⟩))
    go_ret2
    exact ⟨rfl, hd⟩
  | false =>
    obtain rfl := hg rfl
    go_enter Try.func14, Try.ntmps14
    go_wp2_with (first | (go_at_call 25; refine N.mono ?_; rintro e w1 ⟨rfl, rfl⟩) | (go_at_call 28; refine G.mono ?_; rintro e w2 ⟨rfl, hd⟩))
    go_ret2
    exact ⟨rfl, hd⟩
theorem rk_Set (h : RkRaw w0 R kv vv ks vs size next step W) (ok : TbOk ks vs) (hs : size ≠ 0) (k v : Int) : Calls Try.prog 15 #[.pointer (some ⟨R, 0, none⟩), .int .i64 k, .int .i64 v] W fun e W' => e = .returned (.int .i64 (erK ks k)) ∧ ∃ kv' vv', RkRaw w0 R kv' vv' ks (if ks.contains k = true then putV ks vs k v else vs) size next step W' ∧ RkMv R kv vv W W' := by
  have G := rk_Get h ok hs k
  have P := fun (W1 : World) (h1 : RkRaw w0 R kv vv ks vs size next step W1) => tb_put w0 R kv vv ks vs size next step W1 h1 ok k v
  have HK := Aside0.mk (show ks.contains k = true → putK ks k = ks from fun h => by unfold putK; rw [if_pos h])
  have he : erK ks k = if ks.contains k = true then 0 else 30 := rfl
  rw [he] at G ⊢
  clear he
  generalize ks.contains k = b at *
  have HP := Aside0.mk P
  have HH := Aside0.mk h
  clear P
  cases b with
  | true =>
    rw [if_pos rfl] at G
    go_enter Try.func15, Try.ntmps15
    go_wp2_with (first | (go_at_call 14; refine G.mono ?_; rintro e w1 ⟨rfl, hd⟩; have P1 := HP.out w1 (HH.out.below hd.below)) | (go_at_call 29; refine P1.mono ?_; rintro e w2 ⟨rfl, kv', vv', h2, m2⟩))
    go_ret
    refine ⟨rfl, ⟨kv', vv', ?_⟩, RkMv.after hd.below m2⟩
    rw [HK.out trivial] at h2
    exact h2
  | false =>
    rw [if_neg (by decide)] at G
    go_enter Try.func15, Try.ntmps15
    go_wp2_with (go_at_call 14; refine G.mono ?_; rintro e w1 ⟨rfl, hd⟩)
    go_ret
    exact ⟨rfl, ⟨kv, vv, HH.out.below hd.below⟩, RkMv.of_below hd.below⟩
theorem rk_Drop (h : RkRaw w0 R kv vv ks vs size next step W) (ok : TbOk ks vs) (hs : size ≠ 0) (k : Int) : Calls Try.prog 13 #[.pointer (some ⟨R, 0, none⟩), .int .i64 k] W fun e W' => e = .returned (.int .i64 (erK ks k)) ∧ ∃ kv' vv', RkRaw w0 R kv' vv' (dropK ks k) (dropV ks vs k) size next step W' ∧ RkMv R kv vv W W' := by
  have G := rk_Get h ok hs k
  have P := fun (W1 : World) (h1 : RkRaw w0 R kv vv ks vs size next step W1) => tb_drop w0 R kv vv ks vs size next step W1 h1 ok k
  have HK := Aside0.mk (show ks.contains k = false → dropK ks k = ks ∧ dropV ks vs k = vs from fun h => by unfold dropK dropV; rw [h]; exact ⟨rfl, rfl⟩)
  have he : erK ks k = if ks.contains k = true then 0 else 30 := rfl
  rw [he] at G ⊢
  clear he
  generalize ks.contains k = b at *
  generalize dropK ks k = ks2 at *
  generalize dropV ks vs k = vs2 at *
  have HP := Aside0.mk P
  have HH := Aside0.mk h
  clear P
  cases b with
  | true =>
    rw [if_pos rfl] at G
    go_enter Try.func13, Try.ntmps13
    go_wp2_with (first | (go_at_call 14; refine G.mono ?_; rintro e w1 ⟨rfl, hd⟩; have P1 := HP.out w1 (HH.out.below hd.below)) | (go_at_call 30; refine P1.mono ?_; rintro e w2 ⟨rfl, kv', vv', h2, m2⟩))
    go_ret
    exact ⟨rfl, ⟨kv', vv', h2⟩, RkMv.after hd.below m2⟩
  | false =>
    rw [if_neg (by decide)] at G
    go_enter Try.func13, Try.ntmps13
    go_wp2_with (go_at_call 14; refine G.mono ?_; rintro e w1 ⟨rfl, hd⟩)
    go_ret
    refine ⟨rfl, ⟨kv, vv, ?_⟩, RkMv.of_below hd.below⟩
    obtain ⟨e1, e2⟩ := HK.out trivial
    rw [e1, e2]
    exact HH.out.below hd.below
/-- Hold's answer. -/
def erH (ks : List Int) (size k : Int) : Int := if ks.contains k = true ∨ k < 1 ∨ 1099511627775 < k then 2 else if size ≤ (ks.length : Int) then 4 else 0
set_option maxHeartbeats 4000000 in
theorem rk_Hold (h : RkRaw w0 R kv vv ks vs size next step W) (ok : TbOk ks vs) (hs : size ≠ 0) (k v : Int) : Calls Try.prog 12 #[.pointer (some ⟨R, 0, none⟩), .int .i64 k, .int .i64 v] W fun e W' => e = .returned (.int .i64 (erH ks size k)) ∧ ∃ kv' vv', RkRaw w0 R kv' vv' (if erH ks size k = 0 then putK ks k else ks) (if erH ks size k = 0 then putV ks vs k v else vs) size next step W' ∧ RkMv R kv vv W W' := by
  have N := rk_none h hs
  have G := tb_get w0 R kv vv ks vs size next step W h ok k
  have P := fun (W1 : World) (h1 : RkRaw w0 R kv vv ks vs size next step W1) => tb_put w0 R kv vv ks vs size next step W1 h1 ok k v
  have L := fun (W1 : World) (h1 : RkRaw w0 R kv vv ks vs size next step W1) => tb_len w0 R kv vv ks vs size next step W1 h1
  have HP := Aside0.mk P
  have HL := Aside0.mk L
  have HH := Aside0.mk h
  clear P L
  generalize getV ks vs k = g at *
  by_cases hb : ks.contains k = true
  · have he : erH ks size k = 2 := by unfold erH; rw [if_pos (.inl hb)]
    rw [hb] at G
    rw [he]
    clear he hb
    go_enter Try.func12, Try.ntmps12
    go_wp2_with (first | (go_at_call 25; refine N.mono ?_; rintro e w1 ⟨rfl, rfl⟩) | (go_at_call 28; refine G.mono ?_; rintro e w2 ⟨rfl, hd⟩))
    go_ret
    exact ⟨rfl, ⟨kv, vv, HH.out.below hd.below⟩, RkMv.of_below hd.below⟩
  have hbf : ks.contains k = false := by simpa using hb
  rw [hbf] at G
  by_cases hk : k < 1 ∨ 1099511627775 < k
  · have he : erH ks size k = 2 := by unfold erH; rw [if_pos (.inr hk)]
    rw [he]
    clear he hb hbf
    by_cases h1 : k < 1
    · have k1 : decide (k < 1) = true := decide_eq_true h1
      clear hk h1
      go_enter Try.func12, Try.ntmps12
      go_wp2_with (first | (go_at_call 25; refine N.mono ?_; rintro e w1 ⟨rfl, rfl⟩) | (go_at_call 28; refine G.mono ?_; rintro e w2 ⟨rfl, hd⟩))
      go_ret
      exact ⟨rfl, ⟨kv, vv, HH.out.below hd.below⟩, RkMv.of_below hd.below⟩
    · have k1 : decide (k < 1) = false := decide_eq_false h1
      have k2 : decide (1099511627775 < k) = true := decide_eq_true (by omega)
      clear hk h1
      go_enter Try.func12, Try.ntmps12
      go_wp2_with (first | (go_at_call 25; refine N.mono ?_; rintro e w1 ⟨rfl, rfl⟩) | (go_at_call 28; refine G.mono ?_; rintro e w2 ⟨rfl, hd⟩))
      go_ret
      exact ⟨rfl, ⟨kv, vv, HH.out.below hd.below⟩, RkMv.of_below hd.below⟩
  have k1 : decide (k < 1) = false := decide_eq_false (fun h => hk (.inl h))
  have k2 : decide (1099511627775 < k) = false := decide_eq_false (fun h => hk (.inr h))
  by_cases hf : size ≤ (ks.length : Int)
  · have he : erH ks size k = 4 := by unfold erH; rw [if_neg (fun h => h.elim hb hk), if_pos hf]
    have k3 : decide (size ≤ (ks.length : Int)) = true := decide_eq_true hf
    rw [he]
    clear he hb hbf hk hf
    go_enter Try.func12, Try.ntmps12
    go_wp2_with (first | (go_at_call 25; refine N.mono ?_; rintro e w1 ⟨rfl, rfl⟩) | (go_at_call 28; refine G.mono ?_; rintro e w2 ⟨rfl, hd⟩; have h2 := HH.out.below hd.below; have L2 := HL.out _ (h2.below (Below.refl _ _).drew)))
    refine start_ (n := 10) (S := fun w' => (w'.cell? ⟨R, 1 + 1, none⟩ = some (.int .i64 size))) (ds := []) #[false, false, false, false, false, false, false, false, false, false] (by kernel_rfl) rfl rfl ((blk_cell h2.blk 2).trans rfl) (fun hHeld => ?_)
    refine pure_ (i := 0) (N := some 30) (v := ?_) (a' := ?_) #[true, false, false, false, false, false, false, false, false, false] rfl rfl (by kernel_rfl) (fun _ _ _ h => h) (Or.inl ⟨by rfl, ?_⟩) ?_ ?_
    rotate_left
    · intro w'
      go_simp
      with_reducible rfl
    rotate_left
    · simp only [Act.put, List.setIfInBounds_toArray, List.set_cons_zero, List.set_cons_succ, i64_w, i32_w]
      rfl
    refine pure_ (i := 1) (N := some 31) (v := ?_) (a' := ?_) #[true, true, false, false, false, false, false, false, false, false] rfl rfl (by kernel_rfl) (fun _ _ _ h => h) (Or.inl ⟨by rfl, ?_⟩) ?_ ?_
    rotate_left
    · intro w'
      go_simp
      with_reducible rfl
    rotate_left
    · simp only [Act.put, List.setIfInBounds_toArray, List.set_cons_zero, List.set_cons_succ, i64_w, i32_w]
      rfl
    refine pure_ (i := 2) (N := some 32) (v := ?_) (a' := ?_) #[true, true, true, false, false, false, false, false, false, false] rfl rfl (by kernel_rfl) (fun _ _ _ h => h) (Or.inl ⟨by rfl, ?_⟩) ?_ ?_
    rotate_left
    · intro w'
      go_simp
      with_reducible rfl
    rotate_left
    · simp only [Act.put, List.setIfInBounds_toArray, List.set_cons_zero, List.set_cons_succ, i64_w, i32_w]
      rfl
    refine pure_ (i := 4) (N := some 34) (v := ?_) (a' := ?_) #[true, true, true, false, true, false, false, false, false, false] rfl rfl (by kernel_rfl) (fun _ _ _ h => h) (Or.inl ⟨by rfl, ?_⟩) ?_ ?_
    rotate_left
    · intro w'
      go_simp
      with_reducible rfl
    rotate_left
    · simp only [Act.put, List.setIfInBounds_toArray, List.set_cons_zero, List.set_cons_succ, i64_w, i32_w]
      rfl
    refine pure_ (i := 5) (N := some 35) (v := ?_) (a' := ?_) #[true, true, true, false, true, true, false, false, false, false] rfl rfl (by kernel_rfl) (fun _ _ _ h => h) (Or.inl ⟨by rfl, ?_⟩) ?_ ?_
    rotate_left
    · intro w'
      go_simp
      with_reducible rfl
    rotate_left
    · simp only [Act.put, List.setIfInBounds_toArray, List.set_cons_zero, List.set_cons_succ, i64_w, i32_w]
      rfl
    refine pure_ (i := 6) (N := some 36) (v := ?_) (a' := ?_) #[true, true, true, false, true, true, true, false, false, false] rfl rfl (by kernel_rfl) (fun _ _ _ h => h) (Or.inl ⟨by rfl, ?_⟩) ?_ ?_
    rotate_left
    · intro w'
      go_simp
      with_reducible rfl
    rotate_left
    · simp only [Act.put, List.setIfInBounds_toArray, List.set_cons_zero, List.set_cons_succ, i64_w, i32_w]
      rfl
    refine take_ (i := 7) (N := some 37) (v := ?_) (a' := ?_) #[true, true, true, false, true, true, true, true, false, false] rfl rfl (by kernel_rfl) (fun _ _ _ h => h) (Or.inl ⟨by rfl, ?_⟩) hHeld ?_ ?_
    rotate_left
    · intro w' s0
      go_simp
      with_reducible rfl
    rotate_left
    · simp only [Act.put, List.setIfInBounds_toArray, List.set_cons_zero, List.set_cons_succ, i64_w, i32_w]
      rfl
    refine one_ (i := 3) (N := some 33) #[true, true, true, true, true, true, true, true, false, false] rfl rfl (by kernel_rfl) (by decide) (fun K hK => ?_)
    refine goes_ Try.func27 (by kernel_rfl) rfl #[.pointer (some ⟨R, 0, none⟩)] (by rfl) rfl rfl (by simp only [List.map_toArray, List.map_cons, List.map_nil]; rfl) ?_
    with_reducible refine (L2).mono ?_
    rintro e w3 ⟨rfl, hw3⟩
    obtain rfl := hw3.symm
    refine ⟨_, rfl, ?_⟩
    refine hK.out _ _ (hHeld) (fun hHeld => ?_)
    clear hK K
    refine norm_ (a' := ?_) ?_ ?_
    rotate_left
    · show Act.put _ (some 33) _ = _
      simp only [Act.put, List.setIfInBounds_toArray, List.set_cons_zero, List.set_cons_succ, i64_w, i32_w]
      rfl
    refine pure_ (i := 8) (N := some 38) (v := ?_) (a' := ?_) #[true, true, true, true, true, true, true, true, true, false] rfl rfl (by kernel_rfl) (fun _ _ _ h => h) (Or.inl ⟨by rfl, ?_⟩) ?_ ?_
    rotate_left
    · intro w'
      go_simp
      with_reducible rfl
    rotate_left
    · simp only [Act.put, List.setIfInBounds_toArray, List.set_cons_zero, List.set_cons_succ, i64_w, i32_w]
      rfl
    refine pure_ (i := 9) (N := some 29) (v := ?_) (a' := ?_) #[true, true, true, true, true, true, true, true, true, true] rfl rfl (by kernel_rfl) (fun _ _ _ h => h) (Or.inl ⟨by rfl, ?_⟩) ?_ ?_
    rotate_left
    · intro w'
      go_simp
      with_reducible rfl
    rotate_left
    · simp only [Act.put, List.setIfInBounds_toArray, List.set_cons_zero, List.set_cons_succ, i64_w, i32_w]
      rfl
    refine done_ (by kernel_rfl) ?_
    go_wp2_with fail
    go_ret
    exact ⟨rfl, ⟨kv, vv, h2.below (Below.refl _ _).drew⟩, RkMv.of_below hd.below.drew⟩
  · have he : erH ks size k = 0 := by unfold erH; rw [if_neg (fun h => h.elim hb hk), if_neg hf]
    have k3 : decide (size ≤ (ks.length : Int)) = false := decide_eq_false hf
    rw [he]
    clear he hb hbf hk hf
    go_enter Try.func12, Try.ntmps12
    go_wp2_with (first | (go_at_call 25; refine N.mono ?_; rintro e w1 ⟨rfl, rfl⟩) | (go_at_call 28; refine G.mono ?_; rintro e w2 ⟨rfl, hd⟩; have h2 := HH.out.below hd.below; have L2 := HL.out _ (h2.below (Below.refl _ _).drew); have P2 := HP.out _ (h2.below (Below.refl _ _).drew)))
    refine start_ (n := 10) (S := fun w' => (w'.cell? ⟨R, 1 + 1, none⟩ = some (.int .i64 size))) (ds := []) #[false, false, false, false, false, false, false, false, false, false] (by kernel_rfl) rfl rfl ((blk_cell h2.blk 2).trans rfl) (fun hHeld => ?_)
    refine pure_ (i := 0) (N := some 30) (v := ?_) (a' := ?_) #[true, false, false, false, false, false, false, false, false, false] rfl rfl (by kernel_rfl) (fun _ _ _ h => h) (Or.inl ⟨by rfl, ?_⟩) ?_ ?_
    rotate_left
    · intro w'
      go_simp
      with_reducible rfl
    rotate_left
    · simp only [Act.put, List.setIfInBounds_toArray, List.set_cons_zero, List.set_cons_succ, i64_w, i32_w]
      rfl
    refine pure_ (i := 1) (N := some 31) (v := ?_) (a' := ?_) #[true, true, false, false, false, false, false, false, false, false] rfl rfl (by kernel_rfl) (fun _ _ _ h => h) (Or.inl ⟨by rfl, ?_⟩) ?_ ?_
    rotate_left
    · intro w'
      go_simp
      with_reducible rfl
    rotate_left
    · simp only [Act.put, List.setIfInBounds_toArray, List.set_cons_zero, List.set_cons_succ, i64_w, i32_w]
      rfl
    refine pure_ (i := 2) (N := some 32) (v := ?_) (a' := ?_) #[true, true, true, false, false, false, false, false, false, false] rfl rfl (by kernel_rfl) (fun _ _ _ h => h) (Or.inl ⟨by rfl, ?_⟩) ?_ ?_
    rotate_left
    · intro w'
      go_simp
      with_reducible rfl
    rotate_left
    · simp only [Act.put, List.setIfInBounds_toArray, List.set_cons_zero, List.set_cons_succ, i64_w, i32_w]
      rfl
    refine pure_ (i := 4) (N := some 34) (v := ?_) (a' := ?_) #[true, true, true, false, true, false, false, false, false, false] rfl rfl (by kernel_rfl) (fun _ _ _ h => h) (Or.inl ⟨by rfl, ?_⟩) ?_ ?_
    rotate_left
    · intro w'
      go_simp
      with_reducible rfl
    rotate_left
    · simp only [Act.put, List.setIfInBounds_toArray, List.set_cons_zero, List.set_cons_succ, i64_w, i32_w]
      rfl
    refine pure_ (i := 5) (N := some 35) (v := ?_) (a' := ?_) #[true, true, true, false, true, true, false, false, false, false] rfl rfl (by kernel_rfl) (fun _ _ _ h => h) (Or.inl ⟨by rfl, ?_⟩) ?_ ?_
    rotate_left
    · intro w'
      go_simp
      with_reducible rfl
    rotate_left
    · simp only [Act.put, List.setIfInBounds_toArray, List.set_cons_zero, List.set_cons_succ, i64_w, i32_w]
      rfl
    refine pure_ (i := 6) (N := some 36) (v := ?_) (a' := ?_) #[true, true, true, false, true, true, true, false, false, false] rfl rfl (by kernel_rfl) (fun _ _ _ h => h) (Or.inl ⟨by rfl, ?_⟩) ?_ ?_
    rotate_left
    · intro w'
      go_simp
      with_reducible rfl
    rotate_left
    · simp only [Act.put, List.setIfInBounds_toArray, List.set_cons_zero, List.set_cons_succ, i64_w, i32_w]
      rfl
    refine take_ (i := 7) (N := some 37) (v := ?_) (a' := ?_) #[true, true, true, false, true, true, true, true, false, false] rfl rfl (by kernel_rfl) (fun _ _ _ h => h) (Or.inl ⟨by rfl, ?_⟩) hHeld ?_ ?_
    rotate_left
    · intro w' s0
      go_simp
      with_reducible rfl
    rotate_left
    · simp only [Act.put, List.setIfInBounds_toArray, List.set_cons_zero, List.set_cons_succ, i64_w, i32_w]
      rfl
    refine one_ (i := 3) (N := some 33) #[true, true, true, true, true, true, true, true, false, false] rfl rfl (by kernel_rfl) (by decide) (fun K hK => ?_)
    refine goes_ Try.func27 (by kernel_rfl) rfl #[.pointer (some ⟨R, 0, none⟩)] (by rfl) rfl rfl (by simp only [List.map_toArray, List.map_cons, List.map_nil]; rfl) ?_
    with_reducible refine (L2).mono ?_
    rintro e w3 ⟨rfl, hw3⟩
    obtain rfl := hw3.symm
    refine ⟨_, rfl, ?_⟩
    refine hK.out _ _ (hHeld) (fun hHeld => ?_)
    clear hK K
    refine norm_ (a' := ?_) ?_ ?_
    rotate_left
    · show Act.put _ (some 33) _ = _
      simp only [Act.put, List.setIfInBounds_toArray, List.set_cons_zero, List.set_cons_succ, i64_w, i32_w]
      rfl
    refine pure_ (i := 8) (N := some 38) (v := ?_) (a' := ?_) #[true, true, true, true, true, true, true, true, true, false] rfl rfl (by kernel_rfl) (fun _ _ _ h => h) (Or.inl ⟨by rfl, ?_⟩) ?_ ?_
    rotate_left
    · intro w'
      go_simp
      with_reducible rfl
    rotate_left
    · simp only [Act.put, List.setIfInBounds_toArray, List.set_cons_zero, List.set_cons_succ, i64_w, i32_w]
      rfl
    refine pure_ (i := 9) (N := some 29) (v := ?_) (a' := ?_) #[true, true, true, true, true, true, true, true, true, true] rfl rfl (by kernel_rfl) (fun _ _ _ h => h) (Or.inl ⟨by rfl, ?_⟩) ?_ ?_
    rotate_left
    · intro w'
      go_simp
      with_reducible rfl
    rotate_left
    · simp only [Act.put, List.setIfInBounds_toArray, List.set_cons_zero, List.set_cons_succ, i64_w, i32_w]
      rfl
    refine done_ (by kernel_rfl) ?_
    go_wp2_with (go_at_call 29; refine P2.mono ?_; rintro e w4 ⟨rfl, kv', vv', h4, m4⟩)
    go_ret
    exact ⟨rfl, ⟨kv', vv', h4⟩, RkMv.after hd.below.drew m4⟩
end

end Go.Proofs.Ytnlckandbgpncaa.P
