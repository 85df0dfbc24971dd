import Derived.Test.YtnndmbhfolgohaaDoorSLtokenJoin
namespace Go.Proofs.YtnndmbhfolgohaaDoor.P
open Go.RowKit Go.Proofs.YtnndmbhfolgohaaDoorW.PrintWords Go.Proofs.YtnndmbhfolgohaaDoorW.PrintLast Go.Proofs.YtnndmbhfolgohaaDoorW.PrintMore
set_option linter.unusedVariables false
set_option linter.unusedSimpArgs false
set_option linter.unnecessarySimpa false
attribute [local go_sem] max2_int min2_int max_two min_two max_three min_three max_four min_four
set_option linter.unusedVariables false
set_option linter.unusedSimpArgs false
set_option linter.unnecessarySimpa false
/-! ### token: what is gone through -/
def greatB (l : List ByteArray) : Bool := decide (20 < l.length) || l.any (fun x => decide (100 < x.size))
theorem greatB_no {l : List ByteArray} (h : greatB l = false) : l.length ≤ 20 ∧ ∀ x ∈ l, x.size ≤ 100 := by
  unfold greatB at h
  rw [Bool.or_eq_false_iff] at h
  refine ⟨by have := of_decide_eq_false h.1; omega, fun x hx => ?_⟩
  have := (List.any_eq_false.1 h.2) x hx
  simp at this
  exact this
set_option maxHeartbeats 1000000 in
theorem tk_great {A : Option Addr} {q : Nat} (l : List ByteArray) (W : World) (hC : Kd.C Kd.string W A l.length l) : Calls Tryd.prog 7 #[.slice A l.length q] W fun e W' => e = .returned (.bool (greatB l)) ∧ Drawn0 W W' := by
  by_cases hl : 20 < l.length
  · have p1 : decide ((20 : Int) < (l.length : Int)) = true := decide_eq_true (by omega)
    have e : greatB l = true := by unfold greatB; rw [decide_eq_true hl]; rfl
    rw [e]
    clear hC hl e
    go_enter Tryd.func7, Tryd.ntmps7
    go_wp2_with fail
    go_ret
    exact ⟨rfl, Drawn0.refl _⟩
  · have p0 : decide ((20 : Int) < (l.length : Int)) = false := decide_eq_false (by omega)
    have HC := Aside0.mk hC
    have HG := Aside0.mk (show greatB l = l.any (fun x => decide (100 < x.size)) by unfold greatB; rw [decide_eq_false hl]; rfl)
    clear hC
    go_enter Tryd.func7, Tryd.ntmps7
    go_wp2_with fail
    go_loopw [3] (fun ii wr => ∃ k : Nat, k ≤ l.length ∧ ii = .int .i64 (k : Int) ∧ Aside0 ((l.take k).any (fun x => decide (100 < x.size)) = false) ∧ Drawn0 W wr) (fun ii _ => l.length - (intOf ii).toNat)
    case atStart => exact ⟨0, Nat.zero_le _, rfl, ⟨rfl⟩, Drawn0.refl _⟩
    case round =>
      obtain ⟨k, hk, rfl, hup, hd⟩ := hrel
      by_cases hlt : k < l.length
      · have p1 : decide ((k : Int) < (l.length : Int)) = true := decide_eq_true (by omega)
        obtain ⟨ad, e, c0⟩ := Kd.at_string (Kd.C_below HC.out hd.below) (k : Int) (by omega) (by omega)
        subst e
        rw [Int.toNat_natCast] at c0
        have hm : (l.take (k + 1)).any (fun x => decide (100 < x.size)) = ((l.take k).any (fun x => decide (100 < x.size)) || decide (100 < (rdOf ByteArray.empty l (k : Int)).size)) := by
          unfold rdOf
          rw [List.take_succ_eq_append_getElem hlt, List.any_append, Int.toNat_natCast, List.getD_eq_getElem?_getD, List.getElem?_eq_getElem hlt]
          simp
        have hmem := odd_at hlt
        have i1 : (0 : Int) ≤ (k : Int) := by omega
        have i2 : (k : Int) < (l.length : Int) := by omega
        generalize rdOf ByteArray.empty l (k : Int) = s at c0 hm hmem
        rw [hup.out, Bool.false_or] at hm
        by_cases hb : 100 < s.size
        · have q1 : decide ((100 : Int) < (s.size : Int)) = true := decide_eq_true (by omega)
          have HX := Aside0.mk (show l.any (fun x => decide (100 < x.size)) = true from List.any_eq_true.2 ⟨s, hmem, decide_eq_true hb⟩)
          clear hm hup hmem hb
          go_wp2_with fail
          go_ret
          exact ⟨by rw [HG.out, HX.out]; rfl, hd⟩
        · have q1 : decide ((100 : Int) < (s.size : Int)) = false := decide_eq_false (by omega)
          rw [decide_eq_false hb] at hm
          have HM := Aside0.mk hm
          clear hm hup hmem hb
          go_wp2_with fail
          exact ⟨⟨k + 1, by omega, by simp, HM, hd⟩, by simp [intOf]; omega⟩
      · have p1 : decide ((k : Int) < (l.length : Int)) = false := decide_eq_false (by omega)
        obtain rfl : k = l.length := by omega
        have HU := Aside0.mk (show l.any (fun x => decide (100 < x.size)) = false by have := hup.out; rwa [List.take_of_length_le (Nat.le_refl _)] at this)
        clear hup
        go_wp2_with fail
        go_ret
        exact ⟨by rw [HG.out, HU.out]; rfl, hd⟩
end Go.Proofs.YtnndmbhfolgohaaDoor.P
