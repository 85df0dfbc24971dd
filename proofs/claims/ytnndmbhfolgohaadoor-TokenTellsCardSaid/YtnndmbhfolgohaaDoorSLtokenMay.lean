import Derived.Test.YtnndmbhfolgohaaDoorSLtokenId
namespace Go.Proofs.YtnndmbhfolgohaaDoor.P
open Go.RowKit Go.Proofs.YtnndmbhfolgohaaDoorW.PrintWords Go.Proofs.YtnndmbhfolgohaaDoorW.PrintLast Go.Proofs.YtnndmbhfolgohaaDoorW.PrintMore
set_option linter.unusedVariables false
set_option linter.unusedSimpArgs false
set_option linter.unnecessarySimpa false
attribute [local go_sem] max2_int min2_int max_two min_two max_three min_three max_four min_four
/-! ### tokens -/
def mayB (l : List ByteArray) : Bool := decide (l.length ≤ 8) && l.all idB
def oddUp (l : List ByteArray) (k : Nat) : Bool := (l.take k).any (fun s => !(idB s))
theorem oddUp_more {l : List ByteArray} {k : Nat} (h : k < l.length) : oddUp l (k + 1) = (oddUp l k || !(idB (rdOf ByteArray.empty l (k : Int)))) := by
  unfold oddUp rdOf
  rw [List.take_succ_eq_append_getElem h, List.any_append, Int.toNat_natCast, List.getD_eq_getElem?_getD, List.getElem?_eq_getElem h]
  simp
theorem odd_at {l : List ByteArray} {k : Nat} (h : k < l.length) : rdOf ByteArray.empty l (k : Int) ∈ l := by
  unfold rdOf
  rw [Int.toNat_natCast, List.getD_eq_getElem?_getD, List.getElem?_eq_getElem h]
  exact List.getElem_mem h
set_option maxHeartbeats 2000000 in
theorem tk_index {A : Option Addr} {c : Nat} (l : List ByteArray) (W : World) (hC : Kd.C Kd.string W A l.length l) (hl : l.length ≤ 1000) (hs : ∀ s ∈ l, s.size ≤ 1000000) : Calls Tryd.prog 31 #[.slice A l.length c, .func (.func 26) #[] #[]] W fun e W' => (∃ i : Int, e = .returned (.int .i64 i) ∧ (decide (0 ≤ i)) = l.any (fun s => !(idB s))) ∧ Drawn0 W W' := by
  have HC := Aside0.mk hC
  have HS := Aside0.mk hs
  clear hC hs
  go_enter Tryd.func31, Tryd.ntmps31
  go_wp2_with fail
  go_loopw [5, 8] (fun _ ii wr => ∃ k : Nat, k ≤ l.length ∧ ii = .int .i64 (k : Int) ∧ Aside0 (oddUp l k = false) ∧ Drawn0 W wr) (fun _ ii _ => l.length - (intOf ii).toNat)
  case atStart => exact ⟨0, Nat.zero_le _, rfl, ⟨rfl⟩, Drawn0.refl _⟩
  case round =>
    obtain ⟨k, hk, rfl, hup, hd⟩ := hrel
    by_cases hlt : k < l.length
    · have p1 : decide ((k : Int) < (l.length : Int)) = true := decide_eq_true (by omega)
      obtain ⟨ad, e, c0⟩ := Kd.at_string (Kd.C_below HC.out hd.below) (k : Int) (by omega) (by omega)
      subst e
      rw [Int.toNat_natCast] at c0
      have hm := oddUp_more hlt
      have hmem := odd_at hlt
      have hsz := HS.out _ hmem
      have i1 : (0 : Int) ≤ (k : Int) := by omega
      have i2 : (k : Int) < (l.length : Int) := by omega
      generalize rdOf ByteArray.empty l (k : Int) = s at c0 hm hmem hsz
      have TN := tk_not s wr hsz
      rw [hup.out, Bool.false_or] at hm
      cases hb : idB s with
      | true =>
        rw [hb] at TN hm
        have HM := Aside0.mk hm
        clear hm hup hmem hb
        go_wp2_with (go_at_call 26; (with_reducible refine TN.mono ?_); rintro e w1 ⟨rfl, d1⟩)
        exact ⟨⟨k + 1, by omega, by simp, HM, by obtain ⟨n1, rfl⟩ := d1.out; exact hd.step n1⟩, by simp [intOf]; omega⟩
      | false =>
        have HX := Aside0.mk (show l.any (fun s => !(idB s)) = true from List.any_eq_true.2 ⟨s, hmem, by rw [hb]; rfl⟩)
        rw [hb] at TN
        clear hm hup hmem hb
        go_wp2_with (go_at_call 26; (with_reducible refine TN.mono ?_); rintro e w1 ⟨rfl, d1⟩)
        go_ret
        exact ⟨⟨(k : Int), rfl, by rw [HX.out]; exact decide_eq_true (by omega)⟩, by obtain ⟨n1, rfl⟩ := d1.out; exact hd.step n1⟩
    · have p1 : decide ((k : Int) < (l.length : Int)) = false := decide_eq_false (by omega)
      obtain rfl : k = l.length := by omega
      have HU := Aside0.mk (show l.any (fun s => !(idB s)) = false by have := hup.out; unfold oddUp at this; rwa [List.take_of_length_le (Nat.le_refl _)] at this)
      clear hup
      go_wp2_with fail
      go_ret
      exact ⟨⟨-1, rfl, by rw [HU.out]; decide⟩, hd⟩
theorem tk_odd {A : Option Addr} {c : Nat} (l : List ByteArray) (W : World) (hC : Kd.C Kd.string W A l.length l) (hl : l.length ≤ 1000) (hs : ∀ s ∈ l, s.size ≤ 1000000) : Calls Tryd.prog 25 #[.slice A l.length c, .func (.func 26) #[] #[]] W fun e W' => e = .returned (.bool (l.any (fun s => !(idB s)))) ∧ Drawn0 W W' := by
  have I := tk_index (c := c) l W hC hl hs
  clear hC hs
  generalize l.any (fun s => !(idB s)) = b at I
  go_enter Tryd.func25, Tryd.ntmps25
  go_wp2_with (go_at_call 31; (with_reducible refine I.mono ?_); rintro e w1 ⟨⟨i, rfl, hi⟩, d1⟩)
  go_ret
  exact ⟨by rw [← hi]; rfl, d1⟩
theorem mayB_eq (l : List ByteArray) : mayB l = (decide ((l.length : Int) ≤ 8) && !(l.any (fun s => !(idB s)))) := by
  unfold mayB
  rw [show decide ((l.length : Int) ≤ 8) = decide (l.length ≤ 8) from decide_eq_decide.2 (by omega)]
  congr 1
  rw [Bool.eq_iff_iff]
  simp
theorem tk_May {A : Option Addr} {c : Nat} (l : List ByteArray) (W : World) (hC : Kd.C Kd.string W A l.length l) (hl : l.length ≤ 1000) (hs : ∀ s ∈ l, s.size ≤ 1000000) : Calls Tryd.prog 12 #[.slice A l.length c] W fun e W' => e = .returned (.bool (mayB l)) ∧ Drawn0 W W' := by
  have I := tk_odd (c := c) l W hC hl hs
  rw [mayB_eq]
  clear hC hs
  generalize l.any (fun s => !(idB s)) = b at I
  cases h8 : decide ((l.length : Int) ≤ 8) with
  | true =>
    go_enter Tryd.func12, Tryd.ntmps12
    go_wp2_with (go_at_call 25; (with_reducible refine I.mono ?_); rintro e w1 ⟨rfl, d1⟩)
    go_ret
    exact ⟨rfl, d1⟩
  | false =>
    go_enter Tryd.func12, Tryd.ntmps12
    go_wp2_with fail
    go_ret
    exact ⟨rfl, Drawn0.refl _⟩
end Go.Proofs.YtnndmbhfolgohaaDoor.P
