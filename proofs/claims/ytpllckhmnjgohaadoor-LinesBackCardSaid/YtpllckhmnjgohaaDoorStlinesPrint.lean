-- Laid by sp.py, a program of this session's, out of the translation and the session's own stand-ins.
import Derived.Test.YtpllckhmnjgohaaDoorPx0
import Derived.Test.YtpllckhmnjgohaaDoorPx7
import Derived.Test.YtpllckhmnjgohaaDoorSLbuilder
namespace Go.Proofs.YtpllckhmnjgohaaDoor.P
open Go.RowKit Go.Proofs.YtpllckhmnjgohaaDoorW.PrintWords Go.Proofs.YtpllckhmnjgohaaDoorW.PrintLast Go.Proofs.YtpllckhmnjgohaaDoorW.PrintMore
attribute [local go_sem] max2_int min2_int max_two min_two max_three min_three max_four min_four   -- for this text's walks alone
set_option linter.unusedVariables false
set_option linter.unusedSimpArgs false
set_option linter.unnecessarySimpa false

/-! ### lines.Print: a stand-in: a builder, Join and a range over rows -/
open Go.Proofs.YtpllckhmnjgohaaDoor.SL
/-- The lines' text. -/
def linesText (l : List (List ByteArray)) : List UInt8 := l.flatMap fun x => Lib.join (x.map (·.data.toList)) [32] ++ [10]
theorem linesText_take (l : List (List ByteArray)) (k : Nat) (h : k < l.length) : linesText (l.take (k + 1)) = (linesText (l.take k) ++ Lib.join (l[k].map (·.data.toList)) [32]) ++ [10] := by
  unfold linesText
  rw [List.take_succ_eq_append_getElem h, List.flatMap_append]
  simp
def lines_Print.f (k : Nat) (l0 : List (List ByteArray)) : Option (ByteArray × Int) := (lines_May.f k l0).bind fun m =>
  if m = true then (if l0.length ≤ 1000000 ∧ (∀ i, i < l0.length → (rd_L1 l0 (i : Int)).length ≤ 1000000) ∧ (∀ i, i ≤ l0.length → (linesText (l0.take i)).length ≤ 1000000) then (if (linesText l0).length > 4096 then some (⟨#[]⟩, 3) else some (⟨(linesText l0).toArray⟩, 0)) else none)
  else some (⟨#[]⟩, 2)
set_option maxHeartbeats 4000000 in
theorem lines_Print.calls (k : Nat) (A0 : Option Addr) (c0 : Nat) (l0 : List (List ByteArray)) (r1 : ByteArray) (r2 : Int) (w : World) (hr0 : Kd.C (Kd.slice 9 Kd.string) w A0 l0.length l0) (hc0 : l0.length ≤ c0) (h : lines_Print.f k l0 = some (r1, r2)) :
    Calls Tryd.prog 11 #[.slice A0 l0.length c0] w fun e w' => e = .returned (.tuple #[.string r1, .int .i64 r2]) ∧ Below w.heap.size w w' := by
  unfold lines_Print.f at h
  obtain ⟨m, hm, h⟩ := Option.bind_eq_some_iff.mp h
  have HM := Aside0.mk hm
  have HR := Aside0.mk hr0
  clear hm hr0
  cases m with
  | false =>
    rw [if_neg (by simp)] at h
    simp only [Option.some.injEq, Prod.mk.injEq] at h
    obtain ⟨rfl, rfl⟩ := h
    go_enter Tryd.func11, Tryd.ntmps11
    go_wp2_with (go_at_call 12; refine (lines_May.calls k A0 c0 l0 false _ HR.out hc0 HM.out).mono ?_; rintro e w' ⟨rfl, ⟨nd, rfl⟩⟩)
    go_ret2
    exact ⟨rfl, pw_below_drewN (Below.refl _ _) _⟩
  | true =>
    rw [if_pos rfl] at h
    by_cases hg : l0.length ≤ 1000000 ∧ (∀ i, i < l0.length → (rd_L1 l0 (i : Int)).length ≤ 1000000) ∧ (∀ i, i ≤ l0.length → (linesText (l0.take i)).length ≤ 1000000)
    case neg => rw [if_neg hg] at h; exact absurd h (by simp)
    rw [if_pos hg] at h
    have HG := Aside0.mk hg
    have HH := Aside0.mk h
    clear hg h
    go_enter Tryd.func11, Tryd.ntmps11
    go_wp2_with (go_at_call 12; refine (lines_May.calls k A0 c0 l0 true _ HR.out hc0 HM.out).mono ?_; rintro e w' ⟨rfl, ⟨nd, rfl⟩⟩)
    have hnew := bd_new w (w.drewN nd) (Nat.le_refl _)
    have hBn : Below w.heap.size w ((w.drewN nd).alloc (.cells #[.pointer none, .slice none 0 0] 45)) := below_alloc (pw_below_drewN (Below.refl _ _) nd) _
    generalize (w.drewN nd).alloc (.cells #[.pointer none, .slice none 0 0] 45) = w1 at hnew hBn ⊢
    go_loopw [12] (fun v wr => ∃ j : Nat, j ≤ l0.length ∧ v = .int .i64 (j : Int) ∧ Lib.IsBuilderF 45 5 w.heap.size w.heap.size (Lib.byteCells (linesText (l0.take j))) wr ∧ Below w.heap.size w wr) (fun v _ => l0.length - (intOf v).toNat)
    case atStart => exact ⟨0, Nat.zero_le _, rfl, hnew, hBn⟩
    case round =>
      obtain ⟨j, hj, rfl, hI, hB⟩ := hrel
      obtain ⟨g1, g2, g3⟩ := HG.out
      by_cases hlt : j < l0.length
      · obtain ⟨ad, Ai, ci, e, hx, hl, hi⟩ := at_L1 (Kd.C_below HR.out hB) j (by omega) (by omega)
        subst e
        have hrow : rd_L1 l0 (j : Int) = l0[j] := by
          unfold rd_L1
          rw [Int.toNat_natCast, List.getD_eq_getElem?_getD, List.getElem?_eq_getElem hlt]
          rfl
        have hn := g2 j hlt
        have ht := linesText_take l0 j hlt
        have hs1 := g3 (j + 1) (by omega)
        rw [hrow] at hn hl hi hx
        rw [ht] at hs1
        simp only [List.length_append, List.length_cons, List.length_nil] at hs1
        generalize l0[j] = row at hn hl hi hx ht hs1 hrow
        have hJ : Calls Tryd.prog 17 #[.slice Ai row.length ci, .string ⟨#[32]⟩] wr fun e w' => e = .returned (.string ⟨(Lib.join (row.map (·.data.toList)) [32]).toArray⟩) ∧ Below wr.heap.size wr w' := by
          by_cases hz : row.length = 0
          · have hr0 : row = [] := List.length_eq_zero_iff.1 hz
            rw [hz, hr0]
            refine (Tryd.strings_Join_none Ai ci ⟨#[32]⟩ wr).mono ?_
            rintro e w2 ⟨rfl, rfl⟩
            exact ⟨rfl, Below.refl _ _⟩
          · obtain ⟨ad2, e2, hc⟩ := Kd.at_string hi 0 (by omega) (by omega)
            subst e2
            have hlt2 := Kd.C_lt hi (by omega) (by decide)
            have hsp : ad2.spot = none := by
              rw [show (0 : Int).toNat = 0 from rfl, Addr.add_zero'] at hc
              exact World.cell?_spot hc
            obtain ⟨bk, o, sp⟩ := ad2
            simp only at hsp hlt2
            subst hsp
            have hjl : (Lib.join (row.map (·.data.toList)) [32]).length ≤ 140737488355328 := Nat.le_trans (show _ ≤ 1000000 by omega) (by decide)
            refine (Tryd.strings_Join bk o ci row ⟨#[32]⟩ wr (fun i x hx2 => ?_) hlt2 (by omega) hl hjl).mono ?_
            · have hil : i < row.length := by
                rcases Nat.lt_or_ge i row.length with h1 | h1
                · exact h1
                · rw [List.getElem?_eq_none h1] at hx2; cases hx2
              obtain ⟨ad3, e3, hc3⟩ := Kd.at_string hi i (by omega) (by omega)
              cases e3
              have hv : rdOf ByteArray.empty row (i : Int) = x := by
                unfold rdOf
                rw [List.getD_eq_getElem?_getD, Int.toNat_natCast, hx2]
                rfl
              rw [hv, Int.toNat_natCast] at hc3
              have ha : (⟨bk, o, none⟩ : Addr).add i = ⟨bk, o + i, none⟩ := by
                unfold Addr.add
                by_cases h0 : i = 0
                · rw [if_pos h0, h0]; rfl
                · rw [if_neg h0]
              rw [ha] at hc3
              exact hc3
            · rintro e w2 ⟨rfl, hb⟩
              exact ⟨rfl, hb⟩
        have q1 : decide ((j : Int) < (l0.length : Int)) = true := decide_eq_true (by omega)
        have p1 : (j < l0.length) = True := eq_true hlt
        rw [Int.toNat_natCast] at hx
        have HT := Aside0.mk ht
        have HS := Aside0.mk hs1
        clear ht hs1 hrow g2 g3
        go_wp2_with (first | (go_at_call 17; refine hJ.mono ?_; rintro e w2 ⟨rfl, hb2⟩; have hI2 := bd_below hI hb2) | (go_at_call 16; refine (bd_WriteString w.heap.size w.heap.size _ _ _ hI2 ?lenA ?sizeA).mono ?_; rotate_left 2; rintro e w3 ⟨rfl, hI3, hb3, _⟩) | (go_at_call 18; refine (bd_WriteByte w.heap.size w.heap.size _ _ _ (.inr hI3) ?lenB ?sizeB).mono ?_; rotate_left 2; rintro e w4 ⟨rfl, hI4, hb4, _⟩))
        case lenA =>
          have := HS.out
          rw [Lib.byteCells_length]
          simp only [ByteArray.size, List.size_toArray]
          omega
        case sizeA => exact Nat.le_trans hB.size hb2.size
        case lenB =>
          have := HS.out
          rw [List.length_append, Lib.byteCells_length, Lib.strCells_length]
          simp only [ByteArray.size, List.size_toArray]
          omega
        case sizeB => exact Nat.le_trans (Nat.le_trans hB.size hb2.size) hb3.size
        case roundEnd =>
          go_roundw
          case rel =>
            refine ⟨j + 1, by omega, by go_num, ?_, ?_⟩
            · rw [HT.out]
              simp only [Lib.byteCells, List.map_append] at hI4 ⊢
              exact .inr hI4
            · exact ((hB.trans (hb2.mono hB.size)).trans hb3).trans hb4
          case measure => simp only [intOf]; omega
      · have q1 : decide ((j : Int) < (l0.length : Int)) = false := decide_eq_false (by omega)
        have hjl : l0.take j = l0 := List.take_of_length_le (by omega)
        rw [hjl] at hI
        have hs := g3 l0.length (Nat.le_refl _)
        rw [List.take_length] at hs
        have hL := Tryd.Builder_Len_f w.heap.size w.heap.size _ wr hI
        rw [Lib.byteCells_length] at hL
        have hS := fun W (h : W = wr) => Tryd.Builder_String_any_k w.heap.size w.heap.size (linesText l0) W (h ▸ hI) (h ▸ hB.size)
        have hh := HH.out
        clear g2 g3 hjl
        by_cases hbig : (linesText l0).length > 4096
        · rw [if_pos hbig] at hh
          simp only [Option.some.injEq, Prod.mk.injEq] at hh
          obtain ⟨rfl, rfl⟩ := hh
          have q2 : decide (4096 < ((linesText l0).length : Int)) = true := decide_eq_true (by omega)
          have q3 : decide (4096 < (linesText l0).length) = true := decide_eq_true hbig
          go_wp2_with (first | (go_at_call 19; refine hL.mono ?_; rintro e w2 ⟨rfl, rfl⟩))
          go_ret2
          exact ⟨rfl, hB⟩
        · rw [if_neg hbig] at hh
          simp only [Option.some.injEq, Prod.mk.injEq] at hh
          obtain ⟨rfl, rfl⟩ := hh
          have q2 : decide (4096 < ((linesText l0).length : Int)) = false := decide_eq_false (by omega)
          have q3 : decide (4096 < (linesText l0).length) = false := decide_eq_false hbig
          go_wp2_with (first | (go_at_call 19; refine hL.mono ?_; rintro e w2 ⟨rfl, rfl⟩) | (go_at_call 20; refine (hS _ rfl).mono ?_; rintro e w3 ⟨rfl, _, hb3, _⟩))
          go_ret2
          exact ⟨rfl, hB.trans hb3⟩

end Go.Proofs.YtpllckhmnjgohaaDoor.P
