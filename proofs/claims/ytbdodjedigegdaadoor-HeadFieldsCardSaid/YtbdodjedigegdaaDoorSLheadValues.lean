import Derived.Test.YtbdodjedigegdaaDoorSLheadRow
namespace Go.Proofs.YtbdodjedigegdaaDoor.P
open Go.RowKit Go.Proofs.YtbdodjedigegdaaDoorW.PrintWords Go.Proofs.YtbdodjedigegdaaDoorW.PrintLast Go.Proofs.YtbdodjedigegdaaDoorW.PrintMore
set_option linter.unusedVariables false
set_option linter.unusedSimpArgs false
set_option linter.unnecessarySimpa false
attribute [local go_sem] max2_int min2_int max_two min_two max_three min_three max_four min_four
set_option linter.unusedVariables false
set_option linter.unusedSimpArgs false
set_option linter.unnecessarySimpa false
/-! ### Head.Values -/
def strsH (l : List ByteArray) : List Value := l.map Value.string
def valsOf (l : List (ByteArray × ByteArray)) (s : ByteArray) : List ByteArray := (l.filter fun p => p.1.toList == s.toList).map (·.2)
theorem infoStrH : (Tryd.prog.info? 9).map (fun i => (i.zero, i.size, i.bytes)) = some (some (.string ⟨#[]⟩), 1, 16) := by kernel_rfl
theorem valsOf_more (l : List (ByteArray × ByteArray)) (s : ByteArray) (i : Nat) (hi : i < l.length) : valsOf (l.take (i + 1)) s = valsOf (l.take i) s ++ (if ((l.getD i (⟨#[]⟩, ⟨#[]⟩)).1.toList == s.toList) = true then [(l.getD i (⟨#[]⟩, ⟨#[]⟩)).2] else []) := by
  unfold valsOf
  rw [List.take_succ_eq_append_getElem hi, List.filter_append, List.map_append, List.getD_eq_getElem?_getD, List.getElem?_eq_getElem hi]
  congr 1
  simp only [List.filter_cons, List.filter_nil, Option.getD_some]
  split <;> rfl
theorem valsOf_len (l : List (ByteArray × ByteArray)) (s : ByteArray) : (valsOf l s).length ≤ l.length := by
  unfold valsOf
  rw [List.length_map]
  exact List.length_filter_le _ _
set_option maxHeartbeats 8000000 in
theorem hd_Values (t s : ByteArray) (l : List (ByteArray × ByteArray)) (A : Option Addr) (c : Nat) (W : World) (hl : l.length ≤ 1000000) (hA : RdP W A l) :
    Calls Tryd.prog 13 #[.agg #[.string t, .slice A l.length c], .string s] W fun e W' => ∃ v, e = .returned v ∧ W'.ownsRow W.heap.size 9 1 v (valsOf l s).length (strsH (valsOf l s)) ∧ Below W.heap.size W W' := by
  obtain ⟨i0, hi, hz0, hz1, hz2⟩ := info_parts infoStrH
  obtain ⟨V, hV⟩ : ∃ V, V = valsOf l s := ⟨_, rfl⟩
  rw [← hV]
  have HV := Aside0.mk hV
  have HA := Aside0.mk hA
  clear hV hA
  have bA := (Below.refl _ W).alloc (Nat.le_refl _) (.cells #[.string t, .slice A l.length c] 24)
  go_enter Tryd.func13, Tryd.ntmps13
  go_wp2
  go_loopw [5, 11] (fun v u wr => ∃ i : Nat, u = .int .i64 (i : Int) ∧ i ≤ l.length ∧ Aside0 (wr.ownsRow W.heap.size 9 1 v (valsOf (l.take i) s).length (strsH (valsOf (l.take i) s))) ∧ Aside0 (Below W.heap.size W wr)) (fun _ u _ => l.length - (intOf u).toNat)
  case atStart => exact ⟨0, rfl, Nat.zero_le _, ⟨World.ownsRow_nil _ _ _ _⟩, ⟨bA⟩⟩
  case round =>
    clear bA
    obtain ⟨i, rfl, hi2, HO, HB⟩ := hrel
    by_cases hlt : i < l.length
    · have p1 : decide ((i : Int) < (l.length : Int)) = true := decide_eq_true (by omega)
      rcases HA.out.below HB.out with h0 | ⟨b, off, rfl, hc⟩
      · rw [h0] at hlt
        exact absurd hlt (Nat.not_lt_zero _)
      obtain ⟨q1, q2⟩ := hc i hlt
      clear hc
      have HM := Aside0.mk (valsOf_more l s i hlt)
      have HLn := Aside0.mk (valsOf_len (l.take i) s)
      have HLt := Aside0.mk (show (l.take i).length ≤ 1000000 by rw [List.length_take]; omega)
      have ho := HO.out
      generalize (l.getD i (⟨#[]⟩, ⟨#[]⟩)).1 = x at *
      generalize (l.getD i (⟨#[]⟩, ⟨#[]⟩)).2 = y at *
      generalize valsOf (l.take i) s = vs at *
      have HI := Aside0.mk hlt
      cases hx : x.toList == s.toList with
      | true =>
        rw [hx, if_pos rfl] at HM
        obtain ⟨A3, c3, ev⟩ : ∃ A3 c3, u5 = Value.slice A3 vs.length c3 := by
          rcases ho.2 with ⟨e, h0⟩ | ⟨g, cap, cur, e, _⟩
          · exact ⟨none, 0, by rw [e, h0]⟩
          · exact ⟨_, _, e⟩
        subst ev
        have bX := (HB.out.alloc HB.out.size (.cells #[.string x, .string y] 46))
        have bY := bX.alloc bX.size (.cells #[.string y] 9)
        have oY := Aside0.mk (own_alloc (own_alloc ho (.cells #[.string x, .string y] 46)) (.cells #[.string y] 9))
        have hnews := Aside0.mk (World.news_of_block (cs := #[.string y]) (blk_new (wr.alloc (.cells #[.string x, .string y] 46)) (.cells #[.string y] 9)))
        rw [alloc_sz] at hnews
        have BY := Aside0.mk bY
        have HLb := Aside0.mk (show vs.length ≤ 1000000 from Nat.le_trans HLn.out HLt.out)
        clear ho bX bY
        go_wp2_with (at_builtin; refine wpList_append_own_at _ rfl _ _ 29 rfl W.heap.size 9 i0 (.string ⟨#[]⟩) 1 16 Tryd.underlying29 hi hz0 hz1 hz2 rfl (by decide) _ _ _ rfl oY.out ⟨wr.heap.size + 1, 0, none⟩ 1 1 [.string y] rfl rfl hnews.out (by simp [Value.oneCell']) (by have := HLb.out; unfold maxLen; omega) (by have := HLb.out; omega) BY.out.size ?_; intro v' w2 hown hgrow _ _; have H1 := Aside0.mk hown; have H2 := Aside0.mk hgrow; clear hown hgrow)
        go_roundw
        case rel =>
          refine ⟨i + 1, by go_num, HI.out, ⟨?_⟩, ⟨BY.out.grown H2.out BY.out.size (fun j hj => (oY.out.lt j hj).1)⟩⟩
          rw [HM.out]
          have e : strsH (vs ++ [y]) = strsH vs ++ [.string y] := by unfold strsH; rw [List.map_append]; rfl
          rw [e, List.length_append]
          exact H1.out
        case measure => have := HI.out; simp only [intOf]; omega
      | false =>
        rw [hx, if_neg (by decide), List.append_nil] at HM
        have bX := Aside0.mk (HB.out.alloc HB.out.size (.cells #[.string x, .string y] 46))
        have oX := Aside0.mk (own_alloc ho (.cells #[.string x, .string y] 46))
        clear ho
        go_wp2
        go_roundw
        case rel =>
          refine ⟨i + 1, by go_num, HI.out, ⟨?_⟩, bX⟩
          rw [HM.out]
          exact oX.out
        case measure => have := HI.out; simp only [intOf]; omega
    · have p1 : decide ((i : Int) < (l.length : Int)) = false := decide_eq_false (by omega)
      have e : l.take i = l := List.take_of_length_le (by omega)
      have HO2 := Aside0.mk (show _ from by have := HO.out; rw [e, ← HV.out] at this; exact this)
      go_wp2
      go_ret
      exact ⟨_, rfl, HO2.out, HB.out⟩
end Go.Proofs.YtbdodjedigegdaaDoor.P
