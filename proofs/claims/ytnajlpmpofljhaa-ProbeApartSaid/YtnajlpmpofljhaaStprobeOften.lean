-- Laid by sp.py, a program of this session's, out of the translation and the session's own stand-ins.
import Derived.Test.YtnajlpmpofljhaaPx0
import Derived.Test.YtnajlpmpofljhaaShelf
import Derived.Test.YtnajlpmpofljhaaSLprobeAwake
namespace Go.Proofs.Ytnajlpmpofljhaa.P
open Go.RowKit Go.Proofs.YtnajlpmpofljhaaW.PrintWords Go.Proofs.YtnajlpmpofljhaaW.PrintLast Go.Proofs.YtnajlpmpofljhaaW.PrintMore
attribute [local go_sem] max2_int min2_int max_two min_two max_three min_three max_four min_four   -- for this text's walks alone
set_option linter.unusedVariables false
set_option linter.unusedSimpArgs false
set_option linter.unnecessarySimpa false

/-! ### ProbeOften: a law by hand -/
def postilionlaw10_ProbeOften.f (_every _key _from : Int) (_l : List Bool) : Option Bool := some true
/-- When a row is due that has been wanted for s ticks: r is what s - 1 leaves by every. -/
structure OfIn (every start nx : Int) (i s : Nat) : Prop where
  zero : s = 0 → nx = 0
  more : 1 ≤ s → nx = start + i - 1 - ((s : Int) - 1) % every + every
  lo : 0 ≤ nx
theorem mod_step {e : Int} (he : 1 ≤ e) (s : Int) (hs : 1 ≤ s) : (((s - 1) % e = e - 1) → s % e = 0) ∧ (¬ ((s - 1) % e = e - 1) → s % e = (s - 1) % e + 1) ∧ 0 ≤ (s - 1) % e ∧ (s - 1) % e < e := by
  have h1 := Int.emod_add_mul_ediv (s - 1) e
  have h2 := Int.emod_nonneg (s - 1) (by omega : e ≠ 0)
  have h3 := Int.emod_lt_of_pos (s - 1) (by omega : 0 < e)
  generalize hr : (s - 1) % e = r at *
  generalize (s - 1) / e = q at *
  refine ⟨fun h => ?_, fun h => ?_, h2, h3⟩
  · have : s = 0 + e * (q + 1) := by rw [Int.mul_add]; omega
    rw [this, Int.add_mul_emod_self_left]
    exact Int.zero_emod e
  · have : s = (r + 1) + e * q := by omega
    rw [this, Int.add_mul_emod_self_left]
    exact Int.emod_eq_of_lt (by omega) (by omega)
theorem OfIn.due {every start nx : Int} {i s : Nat} (h : OfIn every start nx i s) (he : 1 ≤ every) (hs : 0 ≤ start) : (nx ≤ start + i ↔ (s : Int) % every = 0) ∧ OfIn every start (if nx ≤ start + i then start + i + every else nx) (i + 1) (s + 1) := by
  rcases Nat.eq_zero_or_pos s with h0 | h0
  · have e := h.zero h0
    have hd : nx ≤ start + i := by omega
    refine ⟨⟨fun _ => by rw [h0]; simp, fun _ => hd⟩, ⟨fun h => absurd h (by omega), fun _ => ?_, ?_⟩⟩
    · rw [if_pos hd, h0]
      simp
      omega
    · rw [if_pos hd]
      omega
  · have e := h.more h0
    obtain ⟨m1, m2, m3, m4⟩ := mod_step he (s : Int) (by omega)
    by_cases hr : ((s : Int) - 1) % every = every - 1
    · have hd : nx ≤ start + i := by omega
      have hz := m1 hr
      refine ⟨⟨fun _ => hz, fun _ => hd⟩, ⟨fun h => absurd h (by omega), fun _ => ?_, ?_⟩⟩
      · rw [if_pos hd, show ((s + 1 : Nat) : Int) - 1 = (s : Int) by omega, hz]
        omega
      · rw [if_pos hd]
        omega
    · have hd : ¬ nx ≤ start + i := by omega
      have hz := m2 hr
      refine ⟨⟨fun h => absurd h hd, fun h => by omega⟩, ⟨fun h => absurd h (by omega), fun _ => ?_, ?_⟩⟩
      · rw [if_neg hd, show ((s + 1 : Nat) : Int) - 1 = (s : Int) by omega, hz]
        omega
      · rw [if_neg hd]
        exact h.lo
theorem round_one_yes {key nx now : Int} (h : nx ≤ now) : roundO [key] now [(key, nx)] = [key] := by
  unfold roundO rowD
  simp [h]
theorem round_one_no {key nx now : Int} (h : ¬ nx ≤ now) : roundO [key] now [(key, nx)] = [] := by
  unfold roundO rowD
  simp [h]
theorem rowF_one {key nx now every : Int} : [(key, nx)].map (rowF [key] now every) = [(key, if nx ≤ now then now + every else nx)] := by
  unfold rowF
  by_cases h : nx ≤ now
  · simp [h, Int.not_lt.2 h]
  · simp [h, Int.not_le.1 h]
theorem rowF_none {key nx now every : Int} : [(key, nx)].map (rowF [] now every) = [(key, 0)] := by
  unfold rowF
  simp
theorem ok_one {key nx : Int} (h : 1 ≤ key ∧ key ≤ 1099511627775) : PnOk [(key, nx)] := ⟨by simp, fun x hx => by simp at hx; omega, by simp⟩
theorem add_one {key : Int} (h : 1 ≤ key ∧ key ≤ 1099511627775) : erA [] key = 0 ∧ insP [] key = [(key, 0)] := by
  refine ⟨?_, by unfold insP; simp⟩
  unfold erA
  rw [if_neg (by rintro (h1 | h1 | h1); omega; omega; cases h1), if_neg (by simp)]
section
variable {w0 : World} {P : Nat} {rv : Value} {every key nx : Int} {W : World}
theorem due_nn (h : PnRaw w0 P rv [(key, nx)] every W) (hk : 1 ≤ key ∧ key ≤ 1099511627775) (he : 1 ≤ every ∧ every ≤ 1000) (now : Int) (hn : 0 ≤ now ∧ now ≤ 1099511626775) :
    Calls Try.prog 10 #[.pointer (some ⟨P, 0, none⟩), .int .i64 now, .slice none 0 0, .slice none 0 0] W fun e W' => e = .returned (.bool true) ∧ PnRaw w0 P rv [(key, 0)] every W' ∧ PnMv P rv W W' := by
  have D := pz_due (A := none) (B := none) (c := 0) (d := 0) (ws := []) (xs := []) h (ok_one hk) he now hn (.inl rfl) (by decide) (.inl rfl) (by decide) rfl
  rw [rowF_none] at D
  exact D
theorem due_11 (h : PnRaw w0 P rv [(key, nx)] every W) (hk : 1 ≤ key ∧ key ≤ 1099511627775) (he : 1 ≤ every ∧ every ≤ 1000) (now : Int) (hn : 0 ≤ now ∧ now ≤ 1099511626775) (hd : nx ≤ now) :
    Calls Try.prog 10 #[.pointer (some ⟨P, 0, none⟩), .int .i64 now, .slice (some ⟨W.heap.size + 1, 0, none⟩) 1 1, .slice (some ⟨W.heap.size, 0, none⟩) 1 1] ((W.alloc (.cells #[.int .i64 key] 3)).alloc (.cells #[.int .i64 key] 3)) fun e W' => e = .returned (.bool true) ∧ PnRaw w0 P rv [(key, now + every)] every W' ∧ PnMv P rv W W' := by
  have hb : Below W.heap.size W (W.alloc (.cells #[.int .i64 key] 3)) := (Below.refl _ _).alloc (Nat.le_refl _) _
  have IK : IntsAt w0.heap.size (W.alloc (.cells #[.int .i64 key] 3)).heap.size (some ⟨W.heap.size, 0, none⟩) [key] (W.alloc (.cells #[.int .i64 key] 3)) := by rw [World.size_alloc]; exact ints_n (base := w0.heap.size) W [key]
  have D := due_fg (c := 1) (d := 1) (ws := [key]) (xs := [key]) (h.below hb) (ok_one hk) he now hn IK (by simp) (by simp) (round_one_yes hd)
  rw [rowF_one, if_pos hd, World.size_alloc] at D
  refine Calls.mono D ?_
  rintro e W' ⟨rfl, h1, h2⟩
  exact ⟨rfl, h1, PnMv.after hb h2⟩
theorem due_10 (h : PnRaw w0 P rv [(key, nx)] every W) (hk : 1 ≤ key ∧ key ≤ 1099511627775) (he : 1 ≤ every ∧ every ≤ 1000) (now : Int) (hn : 0 ≤ now ∧ now ≤ 1099511626775) (hd : ¬ nx ≤ now) :
    Calls Try.prog 10 #[.pointer (some ⟨P, 0, none⟩), .int .i64 now, .slice (some ⟨W.heap.size + 1, 0, none⟩) 1 1, .slice none 0 0] ((W.alloc (.cells #[.int .i64 key] 3)).alloc (.cells #[.int .i64 key] 3)) fun e W' => e = .returned (.bool true) ∧ PnRaw w0 P rv [(key, nx)] every W' ∧ PnMv P rv W W' := by
  have hb : Below W.heap.size W (W.alloc (.cells #[.int .i64 key] 3)) := (Below.refl _ _).alloc (Nat.le_refl _) _
  have D := due_fg (B := none) (c := 1) (d := 0) (ws := [key]) (xs := []) (h.below hb) (ok_one hk) he now hn (.inl rfl) (by simp) (by simp) (round_one_no hd)
  rw [rowF_one, if_neg hd, World.size_alloc] at D
  refine Calls.mono D ?_
  rintro e W' ⟨rfl, h1, h2⟩
  exact ⟨rfl, h1, PnMv.after hb h2⟩
end
set_option maxRecDepth 20000 in
set_option maxHeartbeats 16000000 in
theorem postilionlaw10_ProbeOften.calls (every key start : Int) (A3 : Option Addr) (c3 : Nat) (l : List Bool) (r : Bool) (w : World) (hC : Kd.bool.C w A3 l.length l) (hc : l.length ≤ c3) (h : postilionlaw10_ProbeOften.f every key start l = some r) (hT : Aside0 (r = true)) :
    Calls Try.prog 3 #[.int .i64 every, .int .i64 key, .int .i64 start, .slice A3 l.length c3] w fun e w' => e = .returned (.bool r) ∧ Below w.heap.size w w' := by
  obtain rfl := hT.out
  clear h
  have HC := Aside0.mk hC
  clear hC hc
  have AW := pz_awake w
  by_cases hg : 1 ≤ every ∧ every ≤ 1000 ∧ 1 ≤ key ∧ key ≤ 1099511627775 ∧ 0 ≤ start ∧ start ≤ 1073741824 ∧ l.length ≤ 300
  · obtain ⟨g1, g2, g3, g4, g5, g6, g7⟩ := hg
    have q1 : decide (every < 1) = false := decide_eq_false (by omega)
    have q2 : decide (1000 < every) = false := decide_eq_false (by omega)
    have q3 : decide (key < 1) = false := decide_eq_false (by omega)
    have q4 : decide (1099511627775 < key) = false := decide_eq_false (by omega)
    have q5 : decide (start < 0) = false := decide_eq_false (by omega)
    have q6 : decide (1073741824 < start) = false := decide_eq_false (by omega)
    have q7 : decide (300 < (l.length : Int)) = false := decide_eq_false (by omega)
    have hfit : fitsB every = true := by unfold fitsB; rw [decide_eq_true g1, decide_eq_true g2]; rfl
    have NW := Aside0.mk (fun (W : World) => pz_New every W hfit)
    have MD := Aside0.mk (fun (W : World) => pz_made every W)
    have AD := Aside0.mk (fun (W0 W : World) (h : PnRaw W0 W0.heap.size (.slice none 0 0) [] every W) => (by
      have h2 := pz_Add h pz_ok_nil (by omega) key
      rw [(add_one ⟨g3, g4⟩).1, if_pos rfl, (add_one ⟨g3, g4⟩).2] at h2
      exact h2 : Calls Try.prog 9 #[.pointer (some ⟨W0.heap.size, 0, none⟩), .int .i64 key] W fun e W' => e = .returned (.int .i64 0) ∧ ∃ rv', PnRaw W0 W0.heap.size rv' [(key, 0)] every W' ∧ PnMv W0.heap.size (.slice none 0 0) W W'))
    clear hfit
    go_enter Try.func3, Try.ntmps3
    go_wp2_with (first | (go_at_call 7; (with_reducible refine AW.mono ?_); rintro e w1 ⟨rfl, hb1⟩; have NW1 := NW.out w1) | (go_at_call 8; (with_reducible refine NW1.mono ?_); rintro e w2 ⟨rfl, hw2⟩; have R2 := MD.out w1; (rw [← hw2] at R2); clear hw2; have A2 := AD.out w1 w2 R2) | (go_at_call 9; (with_reducible refine A2.mono ?_); rintro e w4 ⟨rfl, rv, r4, m4⟩; have R4 := Aside0.mk r4; clear A2 R2 r4 m4))
    go_loopw [11, 12] (fun si ii wr => ∃ (s i : Nat) (nx : Int), s ≤ i ∧ i ≤ l.length ∧ si = .int .i64 (s : Int) ∧ ii = .int .i64 (i : Int) ∧ Aside0 (OfIn every start nx i s) ∧ Aside0 (PnRaw w1 w1.heap.size rv [(key, nx)] every wr)) (fun _ ii _ => l.length - (intOf ii).toNat)
    case atStart => exact ⟨0, 0, 0, Nat.le_refl _, Nat.zero_le _, rfl, rfl, ⟨fun _ => rfl, fun h => absurd h (by omega), by omega⟩, R4⟩
    case round =>
      obtain ⟨s, i, nx, hsi, hil, rfl, rfl, ho, hr⟩ := hrel
      by_cases hlt : i < l.length
      · have p1 : decide ((i : Int) < (l.length : Int)) = true := decide_eq_true (by omega)
        obtain ⟨ad, e, d0⟩ := Kd.at_bool (Kd.C_below HC.out (below2 hb1 hr.out.hB)) (i : Int) (by omega) (by omega)
        subst e
        rw [Int.toNat_natCast] at d0
        have OD := Aside0.mk (ho.out.due g1 g5)
        have i1 : (0 : Int) ≤ (i : Int) := by omega
        generalize rdOf false l (i : Int) = wd at d0
        cases wd with
        | false =>
          have D := due_nn hr.out ⟨g3, g4⟩ ⟨g1, g2⟩ (start + (i : Int)) ⟨by omega, by omega⟩
          go_wp2_with (go_at_call 10; (with_reducible refine D.mono ?_); rintro e w5 ⟨rfl, r5, m5⟩; have R5 := Aside0.mk r5; clear D r5 m5)
          exact ⟨⟨0, i + 1, 0, by omega, by omega, rfl, by simp, ⟨fun _ => rfl, fun h => absurd h (by omega), by omega⟩, R5⟩, by simp [intOf]; omega⟩
        | true =>
          by_cases hd : nx ≤ start + (i : Int)
          · have hm := OD.out.1.1 hd
            have OI := OD.out.2
            rw [if_pos hd] at OI
            have OI2 := Aside0.mk OI
            have hmb : ((s : Int) % every != 0) = false := by rw [hm]; rfl
            have D := due_11 hr.out ⟨g3, g4⟩ ⟨g1, g2⟩ (start + (i : Int)) ⟨by omega, by omega⟩ hd
            clear OI hm hd
            go_wp2_with (go_at_call 10; (with_reducible refine D.mono ?_); rintro e w5 ⟨rfl, r5, m5⟩; have R5 := Aside0.mk r5; clear D r5 m5)
            exact ⟨⟨s + 1, i + 1, _, by omega, by omega, by simp, by simp, OI2, R5⟩, by simp [intOf]; omega⟩
          · have hm : ¬ (s : Int) % every = 0 := fun h => hd (OD.out.1.2 h)
            have OI := OD.out.2
            rw [if_neg hd] at OI
            have OI2 := Aside0.mk OI
            have hmb : ((s : Int) % every != 0) = true := by rw [bne_iff_ne]; exact hm
            have D := due_10 hr.out ⟨g3, g4⟩ ⟨g1, g2⟩ (start + (i : Int)) ⟨by omega, by omega⟩ hd
            clear OI hm hd
            go_wp2_with (go_at_call 10; (with_reducible refine D.mono ?_); rintro e w5 ⟨rfl, r5, m5⟩; have R5 := Aside0.mk r5; clear D r5 m5)
            exact ⟨⟨s + 1, i + 1, _, by omega, by omega, by simp, by simp, OI2, R5⟩, by simp [intOf]; omega⟩
      · have p1 : decide ((i : Int) < (l.length : Int)) = false := decide_eq_false (by omega)
        have HB := Aside0.mk (below2 hb1 hr.out.hB)
        go_wp2_with fail
        go_ret
        exact ⟨rfl, HB.out⟩
  · have HG := Aside0.mk hg
    clear hg
    go_enter Try.func3, Try.ntmps3
    go_wp2_with (first | (go_at_call 7; (with_reducible refine AW.mono ?_); rintro e w1 ⟨rfl, hb1⟩))
    all_goals first | (go_ret; exact ⟨rfl, hb1⟩) | (exfalso; have h := HG.out; omega)

/-- THE ONE PURE STATEMENT of postilionlaw10_ProbeOften: yours. -/
def postilionlaw10_ProbeOften.Pure : Prop := ∀ (a0 : Int) (a1 : Int) (a2 : Int) (l3 : List Bool), (Lit.int .i64 a0).wf = true → (Lit.int .i64 a1).wf = true → (Lit.int .i64 a2).wf = true → l3.length ≤ maxLen → (∀ y_ ∈ l3, True) → postilionlaw10_ProbeOften.f a0 a1 a2 l3 = some true

end Go.Proofs.Ytnajlpmpofljhaa.P
