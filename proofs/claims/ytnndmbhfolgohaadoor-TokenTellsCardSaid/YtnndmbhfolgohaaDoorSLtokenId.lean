import Derived.Test.YtnndmbhfolgohaaDoorPx0
namespace Go.Proofs.YtnndmbhfolgohaaDoor.P
open Go.RowKit Go.Proofs.YtnndmbhfolgohaaDoorW.PrintWords Go.Proofs.YtnndmbhfolgohaaDoorW.PrintLast Go.Proofs.YtnndmbhfolgohaaDoorW.PrintMore
set_option linter.unusedVariables false
set_option linter.unusedSimpArgs false
set_option linter.unnecessarySimpa false
attribute [local go_sem] max2_int min2_int max_two min_two max_three min_three max_four min_four
/-! ### ids and tokens -/
def ltB (c : Int) : Bool := decide (97 ≤ c ∧ c ≤ 122) || decide (48 ≤ c ∧ c ≤ 57)
def ltUp (s : ByteArray) (k : Nat) : Bool := (List.range k).all (fun i => ltB (bt s (i : Int)))
def idB (s : ByteArray) : Bool := decide (1 ≤ s.size ∧ s.size ≤ 8) && ltUp s s.size
theorem ltUp_more (s : ByteArray) (k : Nat) : ltUp s (k + 1) = (ltUp s k && ltB (bt s (k : Int))) := by
  unfold ltUp
  rw [List.range_succ, List.all_append]
  simp
theorem ltUp_no {s : ByteArray} {k n : Nat} (h : ltB (bt s (k : Int)) = false) (hk : k < n) : ltUp s n = false := by
  unfold ltUp
  rw [List.all_eq_false]
  exact ⟨k, List.mem_range.2 hk, by rw [h]; decide⟩
theorem tk_list (s : ByteArray) : s.toList.length = s.size := by
  rw [ByteArray.toList_eq, data_length]
theorem tk_full {s : ByteArray} (h : s.size ≠ 0) : s.toList.isEmpty = false := by
  rw [← tk_list s] at h
  cases hs : s.toList with
  | nil => rw [hs] at h; exact absurd rfl h
  | cons x xs => rfl
theorem tk_letter (c : Int) (W : World) : Calls Tryd.prog 22 #[.int .u8 c] W fun e W' => e = .returned (.bool (ltB c)) ∧ Drawn0 W W' := by
  have key : ∀ b1 b2 b3 b4 : Bool, decide (97 ≤ c) = b1 → decide (c ≤ 122) = b2 → decide (48 ≤ c) = b3 → decide (c ≤ 57) = b4 → Calls Tryd.prog 22 #[.int .u8 c] W fun e W' => e = .returned (.bool ((b1 && b2) || (b3 && b4))) ∧ Drawn0 W W' := by
    intro b1 b2 b3 b4 p1 p2 p3 p4
    cases b1 <;> cases b2 <;> cases b3 <;> cases b4 <;> (go_enter Tryd.func22, Tryd.ntmps22; go_wp2_with fail; go_ret; exact ⟨rfl, Drawn0.refl _⟩)
  have e : ltB c = ((decide (97 ≤ c) && decide (c ≤ 122)) || (decide (48 ≤ c) && decide (c ≤ 57))) := by
    unfold ltB
    rw [Bool.decide_and, Bool.decide_and]
  rw [e]
  exact key _ _ _ _ rfl rfl rfl rfl
set_option maxHeartbeats 1000000 in
theorem tk_ID (s : ByteArray) (W : World) (hs : s.size ≤ 1000000) : Calls Tryd.prog 8 #[.string s] W fun e W' => e = .returned (.bool (idB s)) ∧ Drawn0 W W' := by
  by_cases h0 : s.size = 0
  · obtain rfl : s = ⟨#[]⟩ := by
      obtain ⟨d⟩ := s
      have : d.size = 0 := h0
      rw [Array.eq_empty_of_size_eq_zero this]
    have hx : idB ⟨#[]⟩ = false := by decide
    rw [hx]
    clear hx h0 hs
    go_enter Tryd.func8, Tryd.ntmps8
    go_wp2_with fail
    go_step3
    go_wp2_with fail
    go_step3
    go_wp2_with fail
    go_loopw [3, 4, 14] (fun gg _ ii wr => gg = .bool false ∧ ii = .int .i64 0 ∧ wr = W) (fun _ _ _ _ => 0)
    case atStart => exact ⟨rfl, rfl, rfl⟩
    case round =>
      obtain ⟨rfl, rfl, hw⟩ := hrel
      obtain rfl := hw.symm
      go_wp2_with fail
      go_ret
      exact ⟨rfl, Drawn0.refl _⟩
  · have hne : s.toList.isEmpty = false := tk_full h0
    have hne2 : (s.toList = []) = False := eq_false (fun e => by rw [e] at hne; cases hne)
    obtain ⟨gd, hgd⟩ : ∃ gd, gd = decide (s.size ≤ 8) := ⟨_, rfl⟩
    have hg2 : decide ((s.size : Int) ≤ 8) = gd := by rw [hgd]; exact decide_eq_decide.2 (by omega)
    have HI := Aside0.mk (show idB s = (gd && ltUp s s.size) by unfold idB; rw [hgd]; congr 1; exact decide_eq_decide.2 (by omega))
    clear hgd
    go_enter Tryd.func8, Tryd.ntmps8
    go_wp2_with fail
    go_step3
    go_wp2_with fail
    go_step3
    go_wp2_with fail
    go_loopw [3, 4, 14] (fun gg _ ii wr => ∃ k : Nat, k ≤ s.size ∧ gg = .bool gd ∧ ii = .int .i64 (k : Int) ∧ Aside0 (ltUp s k = true) ∧ Drawn0 W wr) (fun _ _ ii _ => s.size - (intOf ii).toNat)
    case atStart => exact ⟨0, Nat.zero_le _, rfl, rfl, ⟨rfl⟩, Drawn0.refl _⟩
    case round =>
      obtain ⟨k, hk, rfl, rfl, hup, hd⟩ := hrel
      by_cases hlt : k < s.size
      · have p1 : decide ((k : Int) < (s.size : Int)) = true := decide_eq_true (by omega)
        have hx4 : ((s[k]'hlt).toNat : Int) = bt s (k : Int) := by simpa using bt_at s (k : Int) (by simpa using hlt)
        have hm := ltUp_more s k
        rw [hup.out, Bool.true_and] at hm
        have LT := tk_letter ((s[k]'hlt).toNat : Int) wr
        cases hb : ltB (bt s (k : Int)) with
        | true =>
          have HM := Aside0.mk (hm.trans hb)
          have HX := Aside0.mk hx4
          rw [show ltB ((s[k]'hlt).toNat : Int) = _ from (congrArg ltB hx4).trans hb] at LT
          clear hm hup hb hx4
          go_wp2_with (go_at_call 22; (with_reducible refine LT.mono ?_); rintro e w1 ⟨rfl, d1⟩)
          exact ⟨⟨k + 1, by omega, rfl, by simp, HM, by obtain ⟨n1, rfl⟩ := d1.out; exact hd.step n1⟩, by simp [intOf]; omega⟩
        | false =>
          have HF := Aside0.mk (ltUp_no (n := s.size) hb hlt)
          rw [show ltB ((s[k]'hlt).toNat : Int) = _ from (congrArg ltB hx4).trans hb] at LT
          clear hm hup hb hx4
          go_wp2_with (go_at_call 22; (with_reducible refine LT.mono ?_); rintro e w1 ⟨rfl, d1⟩)
          first | rw [Exit.noGoto_ret] | skip
          go_ret
          exact ⟨by rw [HI.out, HF.out, Bool.and_false]; rfl, by obtain ⟨n1, rfl⟩ := d1.out; exact hd.step n1⟩
      · have p1 : decide ((k : Int) < (s.size : Int)) = false := decide_eq_false (by omega)
        obtain rfl : k = s.size := by omega
        have HU := Aside0.mk hup.out
        go_wp2_with fail
        rw [Exit.noGoto_ret]
        go_ret
        exact ⟨by rw [HI.out, HU.out, Bool.and_true]; rfl, hd⟩
theorem tk_not (s : ByteArray) (W : World) (hs : s.size ≤ 1000000) : Calls Tryd.prog 26 #[.string s] W fun e W' => e = .returned (.bool !(idB s)) ∧ Drawn0 W W' := by
  have I := tk_ID s W hs
  generalize idB s = b at I
  go_enter Tryd.func26, Tryd.ntmps26
  go_wp2_with (go_at_call 8; (with_reducible refine I.mono ?_); rintro e w1 ⟨rfl, d1⟩)
  go_ret
  exact ⟨rfl, d1⟩
end Go.Proofs.YtnndmbhfolgohaaDoor.P
