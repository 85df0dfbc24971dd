import Derived.Test.YtnajlpmpofljhaaSLrefRound
namespace Go.Proofs.Ytnajlpmpofljhaa.P
open Go.RowKit Go.Proofs.YtnajlpmpofljhaaW.PrintWords Go.Proofs.YtnajlpmpofljhaaW.PrintLast Go.Proofs.YtnajlpmpofljhaaW.PrintMore
set_option linter.unusedVariables false
set_option linter.unusedSimpArgs false
set_option linter.unnecessarySimpa false
attribute [local go_sem] max2_int min2_int max_two min_two max_three min_three max_four min_four
section
variable {w0 : World} {P M : Nat} {pv rv pv' rv' : Value} {l l' : List (Int × Int)} {every every' : Int} {W W5 W6 : World}
theorem ints_ofC {w : World} {A : Option Addr} {ws : List Int} (h : (Kd.int .i64).C w A ws.length ws) : IntsAt w.heap.size w.heap.size A ws w := by
  by_cases h0 : ws = []
  · exact .inl h0
  have hp : 0 < ws.length := List.length_pos_iff.2 h0
  obtain ⟨ad, e, c0⟩ := Kd.at_int h 0 (Int.le_refl _) (by omega)
  have c0' : w.cell? ad = some (.int .i64 (rd ws 0)) := by simpa [Addr.add] using c0
  have hs : ad.spot = none := by
    unfold World.cell? at c0'
    split at c0'
    · split at c0'
      · cases c0'
      · rename_i hn; simpa using hn
    · cases c0'
  have hb : ad.block < w.heap.size := by
    unfold World.cell? at c0'
    split at c0'
    · rename_i hc
      exact blk_lt hc
    · cases c0'
  have hadd : ∀ j, ad.add j = ⟨ad.block, ad.off + j, none⟩ := fun j => by
    unfold Addr.add
    split
    · rename_i hj; subst hj; rw [Nat.add_zero, ← hs]
    · rfl
  refine .inr ⟨ad.block, ad.off, by rw [e, ← hs], hb, .inl hb, fun j hj => ?_⟩
  obtain ⟨ad2, e2, c2⟩ := Kd.at_int h (j : Int) (by omega) (by omega)
  obtain rfl : ad = ad2 := by rw [e] at e2; exact Option.some.inj e2
  rw [Int.toNat_natCast, hadd] at c2
  rw [c2]
  unfold rd
  rw [Int.toNat_natCast]
theorem ints_ofOwn {base : Nat} {A : Option Addr} {c b0 : Nat} {ws : List Int} (h : W.ownsRow b0 3 1 (.slice A ws.length c) ws.length (nums .i64 ws)) : IntsAt base W.heap.size A ws W := by
  rcases own1_form h with ⟨_, rfl⟩ | ⟨g, cap, cur, ev, hg, hh, _, _, _, _, hc⟩
  · exact .inl rfl
  · refine .inr ⟨g, 0, (Value.slice.inj ev).1, blk_lt hh, .inr ⟨_, hh⟩, fun j hj => ?_⟩
    rw [Nat.zero_add]
    exact hc j hj
set_option maxHeartbeats 1000000 in
/-- Two rows that hold the same. -/
theorem ints_both {b0 b1 n0 n1 c0 c1 : Nat} {A0 A1 : Option Addr} {xs : List Int} (h0 : IntsAt b0 n0 A0 xs W) (h1 : IntsAt b1 n1 A1 xs W) (hl : xs.length ≤ 1000) :
    Calls Try.prog 20 #[.slice A0 xs.length c0, .slice A1 xs.length c1] W fun e W' => e = .returned (.bool true) ∧ ∃ n, W' = W.drewN n := by
  have H0 := Aside0.mk h0
  have H1 := Aside0.mk h1
  have hq : ((xs.length : Int) != (xs.length : Int)) = false := by simp
  clear h0 h1
  go_enter Try.func20, Try.ntmps20
  go_wp2_with fail
  go_loopw [5] (fun i wr => ∃ k nd : Nat, k ≤ xs.length ∧ i = .int .i64 (k : Int) ∧ wr = W.drewN nd) (fun i _ => xs.length - (intOf i).toNat)
  case atStart => exact ⟨0, 0, Nat.zero_le _, rfl, rfl⟩
  case round =>
    obtain ⟨k, nd, hk, rfl, rfl⟩ := hrel
    by_cases hlt : k < xs.length
    · have p1 : decide ((k : Int) < (xs.length : Int)) = true := decide_eq_true (by omega)
      obtain ⟨g0, o0, e0, d0⟩ := H0.out.cell hlt
      obtain ⟨g1, o1, e1, d1⟩ := H1.out.cell hlt
      subst e0
      subst e1
      generalize xs.getD k 0 = x at d0 d1
      have hx : (x != x) = false := by simp
      have i1 : (0 : Int) ≤ (k : Int) := by omega
      have i2 : (k : Int) < (xs.length : Int) := by omega
      go_wp2_with fail
      go_region
      go_wp2_with fail
      exact ⟨⟨k + 1, nd + 1, by omega, by simp, rfl⟩, by simp [intOf]; omega⟩
    · have p1 : decide ((k : Int) < (xs.length : Int)) = false := decide_eq_false (by omega)
      go_wp2_with fail
      go_ret
      exact ⟨rfl, nd, rfl⟩
/-- Round at a tick that cannot be: nothing. -/
theorem pz_RoundNo (h : PnRaw w0 P pv l every W) (he : every ≠ 0) (now : Int) (hn : now < 0 ∨ 1099511626775 < now) (v : Value) :
    Calls Try.prog 11 #[.pointer (some ⟨P, 0, none⟩), .int .i64 now, v] W fun e W' => e = .returned (.slice none 0 0) ∧ W' = W := by
  have N := pz_none h he
  clear h
  by_cases h1 : now < 0
  · have p1 : decide (now < 0) = true := decide_eq_true h1
    go_enter Try.func11, Try.ntmps11
    go_wp2_with fail
    go_step3
    go_wp2_with (go_at_call 24; (with_reducible refine N.mono ?_); rintro e w1 ⟨rfl, hw⟩; obtain rfl := hw.symm)
    rw [Exit.noGoto_ret]
    go_ret
    exact ⟨rfl, rfl⟩
  · have p1 : decide (now < 0) = false := decide_eq_false h1
    have p2 : decide (1099511626775 < now) = true := decide_eq_true (by omega)
    go_enter Try.func11, Try.ntmps11
    go_wp2_with fail
    go_step3
    go_wp2_with (go_at_call 24; (with_reducible refine N.mono ?_); rintro e w1 ⟨rfl, hw⟩; obtain rfl := hw.symm)
    rw [Exit.noGoto_ret]
    go_ret
    exact ⟨rfl, rfl⟩
theorem rp_RoundNo (P : Option Addr) (now : Int) (hn : now < 0 ∨ 1099511626775 < now) (v : Value) (W : World) :
    Calls Try.prog 21 #[.pointer P, .int .i64 now, v] W fun e W' => e = .returned (.slice none 0 0) ∧ W' = W := by
  by_cases h1 : now < 0
  · have p1 : decide (now < 0) = true := decide_eq_true h1
    go_enter Try.func21, Try.ntmps21
    go_wp2_with fail
    go_ret
    exact ⟨rfl, rfl⟩
  · have p1 : decide (now < 0) = false := decide_eq_false h1
    have p2 : decide (1099511626775 < now) = true := decide_eq_true (by omega)
    go_enter Try.func21, Try.ntmps21
    go_wp2_with fail
    go_ret
    exact ⟨rfl, rfl⟩
/-! one plan stays where the other moves -/
theorem rp_mv (hf : RpRaw w0 M rv l every W) (hr : PnRaw w0 P pv l' every' W) (m : PnMv P pv W W5) (hB5 : Below w0.heap.size w0 W5) : RpRaw w0 M rv l every W5 := by
  refine ⟨hf.le, (m.keep M hf.lt (fun e => blk_ne hf.blk hr.blk (by decide) e) (own_ne hr.hr hf.blk (by decide))).trans hf.blk, ?_, hB5⟩
  rcases own2_form hf.hr with ⟨rfl, rfl⟩ | ⟨g, cap, cur, rfl, hg, hh, hnc, hcm, hsz, htk, _⟩
  · exact World.ownsRow_nil _ _ _ _
  · exact own2_mk ((m.keep g (blk_lt hh) (fun e => blk_ne hh hr.blk (by decide) e) (own_ne hr.hr hh (by decide))).trans hh) hg rfl hnc hcm hsz htk
theorem pz_mv (hr : PnRaw w0 P pv l every W) (hf : RpRaw w0 M rv l' every' W) (m : RpMv M rv W W5) (hB5 : Below w0.heap.size w0 W5) : PnRaw w0 P pv l every W5 := by
  refine ⟨hr.le, (m.keep P hr.lt (fun e => blk_ne hr.blk hf.blk (by decide) e) (own_ne hf.hr hr.blk (by decide))).trans hr.blk, ?_, hB5⟩
  rcases own2_form hr.hr with ⟨rfl, rfl⟩ | ⟨g, cap, cur, rfl, hg, hh, hnc, hcm, hsz, htk, _⟩
  · exact World.ownsRow_nil _ _ _ _
  · exact own2_mk ((m.keep g (blk_lt hh) (fun e => blk_ne hh hf.blk (by decide) e) (own_ne hf.hr hh (by decide))).trans hh) hg rfl hnc hcm hsz htk
theorem act_pz {g : Nat} {cs : Array Value} (h : W.heap[g]? = some (.cells cs 46 (0, 0))) (hr : PnRaw w0 P pv l every W) (m : PnMv P pv W W5) : W5.heap[g]? = some (.cells cs 46 (0, 0)) :=
  (m.keep g (blk_lt h) (fun e => blk_ne h hr.blk (by decide) e) (own_ne hr.hr h (by decide))).trans h
theorem act_rp {g : Nat} {cs : Array Value} (h : W.heap[g]? = some (.cells cs 46 (0, 0))) (hf : RpRaw w0 M rv l every W) (m : RpMv M rv W W5) : W5.heap[g]? = some (.cells cs 46 (0, 0)) :=
  (m.keep g (blk_lt h) (fun e => blk_ne h hf.blk (by decide) e) (own_ne hf.hr h (by decide))).trans h
theorem erDR (k : Int) : erR l k = erD l k := by
  unfold erR erD
  rw [hasR_contains]
theorem atN_posK (ok : PnOk l) {k : Int} (h : (l.map Prod.fst).contains k = true) : atN l k = posK (l.map Prod.fst) k := by
  have h1 : hasR l k = true := (hasR_contains k).trans h
  have h2 := (atI_yes h1).2
  have h3 := atN_get l k h2
  have a := posK_lt_iff (k := k) ok.sorted (h := atN l k) (by simpa using h2)
  rw [fst_getD h2, h3] at a
  have h4 : ¬ atN l k < posK (l.map Prod.fst) k := fun q => by have := a.2 q; omega
  by_cases h5 : posK (l.map Prod.fst) k < atN l k
  · exfalso
    have hp : posK (l.map Prod.fst) k < l.length := by omega
    have b := posK_lt_iff (k := k) ok.sorted (h := posK (l.map Prod.fst) k) (by simpa using hp)
    rw [fst_getD hp] at b
    have b2 : ¬ (l.getD (posK (l.map Prod.fst) k) (0, 0)).1 < k := fun q => by have := b.1 q; omega
    have hs := (atN_step l k (posK (l.map Prod.fst) k) (by omega) hp)
    have hlt : (l.getD (posK (l.map Prod.fst) k) (0, 0)).1 < (l.getD (atN l k) (0, 0)).1 := by
      have := List.pairwise_iff_getElem.1 ok.sorted (posK (l.map Prod.fst) k) (atN l k) (by simpa using hp) (by simpa using h2) h5
      rw [← fst_getD hp, ← fst_getD h2, List.getD_eq_getElem?_getD, List.getD_eq_getElem?_getD, List.getElem?_eq_getElem (by simpa using hp), List.getElem?_eq_getElem (by simpa using h2)]
      exact this
    rw [h3] at hlt
    exact b2 hlt
  · omega
theorem delDR (ok : PnOk l) (k : Int) : delR l k = delP l k := by
  unfold delR delP
  rw [hasR_contains]
  split
  · rename_i h
    rw [atN_posK ok h]
  · rfl
end
end Go.Proofs.Ytnajlpmpofljhaa.P
