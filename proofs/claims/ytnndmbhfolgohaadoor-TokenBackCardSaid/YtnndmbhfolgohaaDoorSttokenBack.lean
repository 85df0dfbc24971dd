-- Laid by sp.py, a program of this session's, out of the translation and the session's own stand-ins.
import Derived.Test.YtnndmbhfolgohaaDoorPx0
import Derived.Test.YtnndmbhfolgohaaDoorSLtokenGreat
namespace Go.Proofs.YtnndmbhfolgohaaDoor.P
open Go.RowKit Go.Proofs.YtnndmbhfolgohaaDoorW.PrintWords Go.Proofs.YtnndmbhfolgohaaDoorW.PrintLast Go.Proofs.YtnndmbhfolgohaaDoorW.PrintMore
attribute [local go_sem] max2_int min2_int max_two min_two max_three min_three max_four min_four   -- for this text's walks alone
set_option linter.unusedVariables false
set_option linter.unusedSimpArgs false
set_option linter.unnecessarySimpa false

/-! ### TokenBack: a law by hand -/
def postilionlaw17_TokenBack.f (_l : List ByteArray) (_s : ByteArray) (c : Int) : Option Bool := if 0 ≤ c ∧ c < 256 then some true else none
theorem tk_b0 (l : List ByteArray) (c : UInt8) (h : ¬ (ltB (c.toNat : Int) = false ∧ mayB l = true)) : priE l c = 2 ∧ priS l c = ⟨#[]⟩ := by
  unfold priE priS
  rw [if_neg h, if_neg h]
  exact ⟨rfl, rfl⟩
theorem joinT_small {l : List ByteArray} {c : UInt8} (hm : mayB l = true) : (joinT l c).size ≤ 1000000 := by
  obtain ⟨h8, hid⟩ := mayB_id hm
  have := join_len c 8 (l.map (·.data.toList)) (fun x hx => by
    obtain ⟨y, hy, rfl⟩ := List.mem_map.1 hx
    have := (idB_size (hid y hy)).2
    rwa [data_length])
  rw [List.length_map] at this
  have e : (joinT l c).size = (Lib.join (l.map (·.data.toList)) [c]).length := List.size_toArray ..
  omega
/-- The second half: a text is parsed, and printed. -/
theorem parL_le (s : ByteArray) (c : UInt8) (hs : s.size ≤ 1000000) : ∀ x ∈ parL s c, x.size ≤ 1000000 := by
  intro x hx
  unfold parL at hx
  split at hx
  · cases hx
  · split at hx
    · cases hx
    · split at hx
      · exact Nat.le_trans (texts_le hx) hs
      · cases hx
theorem parL_len (s : ByteArray) (c : UInt8) : (parL s c).length ≤ 8 := by
  unfold parL
  split
  · decide
  · split
    · decide
    · split
      · rename_i h
        exact (mayB_id h).1
      · decide
set_option maxRecDepth 100000 in
set_option maxHeartbeats 8000000 in
theorem postilionlaw17_TokenBack.calls (A0 : Option Addr) (c0 : Nat) (l : List ByteArray) (s : ByteArray) (c' : Int) (r : Bool) (w : World) (hC0 : Kd.C Kd.string w A0 l.length l) (hc0 : l.length ≤ c0) (h : postilionlaw17_TokenBack.f l s c' = some r) (hT : Aside0 (r = true)) :
    Calls Tryd.prog 4 #[.slice A0 l.length c0, .string s, .int .u8 c'] w fun e w' => e = .returned (.bool r) ∧ Below w.heap.size w w' := by
  obtain rfl := hT.out
  have hcr : 0 ≤ c' ∧ c' < 256 := by
    unfold postilionlaw17_TokenBack.f at h
    split at h
    · assumption
    · cases h
  obtain ⟨c, rfl⟩ : ∃ c : UInt8, c' = (c.toNat : Int) := ⟨UInt8.ofNat c'.toNat, by
    have e : (UInt8.ofNat c'.toNat).toNat = c'.toNat % 256 := by simp
    rw [e]
    omega⟩
  clear h hcr hT
  have AW := tk_awake w
  have HC := Aside0.mk hC0
  have GR := Aside0.mk (fun (W : World) (hb : Below w.heap.size w W) => tk_great (q := c0) l W (Kd.C_below hC0 hb))
  clear hC0
  cases hg : greatB l with
  | true =>
    rw [hg] at GR
    clear hg
    go_enter Tryd.func4, Tryd.ntmps4
    go_wp2_with (first | (go_at_call 6; (with_reducible refine AW.mono ?_); rintro e w1 ⟨rfl, hb1⟩; have G1 := GR.out w1 hb1) | (go_at_call 7; (with_reducible refine G1.mono ?_); rintro e w2 ⟨rfl, d2⟩))
    go_ret
    exact ⟨rfl, bnext hb1 d2.below⟩
  | false =>
    obtain ⟨h20, h100⟩ := greatB_no hg
    rw [hg] at GR
    clear hg
    by_cases hs : 1000 < s.size
    · have p1 : decide ((1000 : Int) < (s.size : Int)) = true := decide_eq_true (by omega)
      clear h100
      go_enter Tryd.func4, Tryd.ntmps4
      go_wp2_with (first | (go_at_call 6; (with_reducible refine AW.mono ?_); rintro e w1 ⟨rfl, hb1⟩; have G1 := GR.out w1 hb1) | (go_at_call 7; (with_reducible refine G1.mono ?_); rintro e w2 ⟨rfl, d2⟩))
      go_ret
      exact ⟨rfl, bnext hb1 d2.below⟩
    · have p1 : decide ((1000 : Int) < (s.size : Int)) = false := decide_eq_false (by omega)
      have PR := Aside0.mk (fun (W : World) (hb : Below w.heap.size w W) => tk_Print (q := c0) l c W (Kd.C_below HC.out hb) (by omega) hc0 (fun x hx => by have := h100 x hx; omega))
      have MA := Aside0.mk (fun (W : World) (hb : Below w.heap.size w W) => tk_May (c := c0) l W (Kd.C_below HC.out hb) (by omega) (fun x hx => by have := h100 x hx; omega))
      have hps := parL_le s c (by omega)
      have hpl := parL_len s c
      have PS := Aside0.mk (fun (W : World) => tk_Parse s c W (by omega))
      have hcs := parE_cases s c
      have PP := @print_parse s c
      obtain ⟨pl, hpL⟩ : ∃ pl, pl = parL s c := ⟨_, rfl⟩
      rw [← hpL] at hps hpl PS hcs PP
      obtain ⟨pe, hpe⟩ : ∃ pe, pe = parE s c := ⟨_, rfl⟩
      rw [← hpe] at PS hcs PP
      have P2 := Aside0.mk (fun (W : World) (A : Option Addr) (q : Nat) (hC : Kd.C Kd.string W A pl.length pl) (hq : pl.length ≤ q) => tk_Print (q := q) pl c W hC (by omega) hq hps)
      have M2 := Aside0.mk (fun (W : World) (A : Option Addr) (q : Nat) (hC : Kd.C Kd.string W A pl.length pl) => tk_May (c := q) pl W hC (by omega) hps)
      clear hpL hpe h100
      by_cases hA : ltB (c.toNat : Int) = false ∧ mayB l = true
      · obtain ⟨j1, j2⟩ := parse_print hA.1 hA.2
        have PJ := Aside0.mk (fun (W : World) => tk_Parse (joinT l c) c W (joinT_small hA.2))
        rw [j1, j2] at PJ
        rw [show priE l c = 0 by unfold priE; rw [if_pos hA], show priS l c = joinT l c by unfold priS; rw [if_pos hA]] at PR
        rw [hA.2] at MA
        clear hA j1 j2
        generalize joinT l c = T at PR PJ
        rcases hcs with e0 | ⟨e0, e1⟩ | ⟨e0, e1⟩
        · obtain ⟨y1, y2, y3⟩ := PP e0
          rw [e0] at PS
          rw [y1, y2] at P2
          rw [y3] at M2
          clear e0 PP y1 y2 y3 hps
          go_enter Tryd.func4, Tryd.ntmps4
          go_wp2_with (first | (go_at_call 6; (with_reducible refine AW.mono ?_); rintro e w1 ⟨rfl, b1⟩; have G1 := GR.out w1 b1; clear AW) | (go_at_call 7; (with_reducible refine G1.mono ?_); rintro e w2 ⟨rfl, d2⟩; have b2 := bnext b1 d2.below; have X3 := PR.out w2 b2; clear G1 d2 b1) | (go_at_call 13; (with_reducible refine X3.mono ?_); rintro e w3 ⟨rfl, d3⟩; have b3 := bnext b2 d3; have X4 := PJ.out w3; clear X3 d3 b2) | (go_at_call 14; (with_reducible refine X4.mono ?_); rintro e w4 ⟨v4, rfl, o4, d4⟩; obtain ⟨A4, q4, rfl, _, c4⟩ := strs_reads o4 (by omega); have b4 := bnext b3 d4; have X5 := tk_Same (p := c0) (q := q4) l w4 (Kd.C_below HC.out b4) c4 (by omega); clear X4 d4 b3 o4) | (go_at_call 11; (with_reducible refine X5.mono ?_); rintro e w5 ⟨rfl, n5, hw5⟩; have b5 : Below w.heap.size w w5 := by { rw [hw5]; exact pw_below_drewN b4 n5 }; have X6 := MA.out w5 b5; clear X5 c4 b4 hw5) | (go_at_call 12; (with_reducible refine X6.mono ?_); rintro e w6 ⟨rfl, d6⟩; have b6 := bnext b5 d6.below; have X7 := PS.out w6; clear X6 d6 b5) | (go_at_call 14; (with_reducible refine X7.mono ?_); rintro e w7 ⟨v7, rfl, o7, d7⟩; obtain ⟨A7, q7, rfl, hq7, c7⟩ := strs_reads o7 (by omega); have b7 := bnext b6 d7; have X8 := P2.out w7 A7 q7 c7 hq7; clear X7 d7 b6 o7) | (go_at_call 13; (with_reducible refine X8.mono ?_); rintro e w8 ⟨rfl, d8⟩; have b8 := bnext b7 d8; have X9 := M2.out w8 A7 q7 (Kd.C_below c7 d8); clear X8 d8 b7 c7) | (go_at_call 12; (with_reducible refine X9.mono ?_); rintro e w9 ⟨rfl, d9⟩; have b9 := bnext b8 d9.below; clear X9 d9 b8))
          go_ret
          exact ⟨rfl, b9⟩
        · subst e1
          rw [e0] at PS
          clear e0 PP P2 M2 hps
          go_enter Tryd.func4, Tryd.ntmps4
          go_wp2_with (first | (go_at_call 6; (with_reducible refine AW.mono ?_); rintro e w1 ⟨rfl, b1⟩; have G1 := GR.out w1 b1; clear AW) | (go_at_call 7; (with_reducible refine G1.mono ?_); rintro e w2 ⟨rfl, d2⟩; have b2 := bnext b1 d2.below; have X3 := PR.out w2 b2; clear G1 d2 b1) | (go_at_call 13; (with_reducible refine X3.mono ?_); rintro e w3 ⟨rfl, d3⟩; have b3 := bnext b2 d3; have X4 := PJ.out w3; clear X3 d3 b2) | (go_at_call 14; (with_reducible refine X4.mono ?_); rintro e w4 ⟨v4, rfl, o4, d4⟩; obtain ⟨A4, q4, rfl, _, c4⟩ := strs_reads o4 (by omega); have b4 := bnext b3 d4; have X5 := tk_Same (p := c0) (q := q4) l w4 (Kd.C_below HC.out b4) c4 (by omega); clear X4 d4 b3 o4) | (go_at_call 11; (with_reducible refine X5.mono ?_); rintro e w5 ⟨rfl, n5, hw5⟩; have b5 : Below w.heap.size w w5 := by { rw [hw5]; exact pw_below_drewN b4 n5 }; have X6 := MA.out w5 b5; clear X5 c4 b4 hw5) | (go_at_call 12; (with_reducible refine X6.mono ?_); rintro e w6 ⟨rfl, d6⟩; have b6 := bnext b5 d6.below; have X7 := PS.out w6; clear X6 d6 b5) | (go_at_call 14; (with_reducible refine X7.mono ?_); rintro e w7 ⟨v7, rfl, o7, d7⟩; obtain ⟨A7, q7, rfl, hq7, c7⟩ := strs_reads (l := []) o7 (by decide); have b7 := bnext b6 d7; clear X7 d7 b6 o7 c7))
          go_ret
          exact ⟨rfl, b7⟩
        · subst e1
          rw [e0] at PS
          clear e0 PP P2 M2 hps
          go_enter Tryd.func4, Tryd.ntmps4
          go_wp2_with (first | (go_at_call 6; (with_reducible refine AW.mono ?_); rintro e w1 ⟨rfl, b1⟩; have G1 := GR.out w1 b1; clear AW) | (go_at_call 7; (with_reducible refine G1.mono ?_); rintro e w2 ⟨rfl, d2⟩; have b2 := bnext b1 d2.below; have X3 := PR.out w2 b2; clear G1 d2 b1) | (go_at_call 13; (with_reducible refine X3.mono ?_); rintro e w3 ⟨rfl, d3⟩; have b3 := bnext b2 d3; have X4 := PJ.out w3; clear X3 d3 b2) | (go_at_call 14; (with_reducible refine X4.mono ?_); rintro e w4 ⟨v4, rfl, o4, d4⟩; obtain ⟨A4, q4, rfl, _, c4⟩ := strs_reads o4 (by omega); have b4 := bnext b3 d4; have X5 := tk_Same (p := c0) (q := q4) l w4 (Kd.C_below HC.out b4) c4 (by omega); clear X4 d4 b3 o4) | (go_at_call 11; (with_reducible refine X5.mono ?_); rintro e w5 ⟨rfl, n5, hw5⟩; have b5 : Below w.heap.size w w5 := by { rw [hw5]; exact pw_below_drewN b4 n5 }; have X6 := MA.out w5 b5; clear X5 c4 b4 hw5) | (go_at_call 12; (with_reducible refine X6.mono ?_); rintro e w6 ⟨rfl, d6⟩; have b6 := bnext b5 d6.below; have X7 := PS.out w6; clear X6 d6 b5) | (go_at_call 14; (with_reducible refine X7.mono ?_); rintro e w7 ⟨v7, rfl, o7, d7⟩; obtain ⟨A7, q7, rfl, hq7, c7⟩ := strs_reads (l := []) o7 (by decide); have b7 := bnext b6 d7; clear X7 d7 b6 o7 c7))
          go_ret
          exact ⟨rfl, b7⟩
      · obtain ⟨j1, j2⟩ := tk_b0 l c hA
        rw [j1, j2] at PR
        clear hA j1 j2 MA
        rcases hcs with e0 | ⟨e0, e1⟩ | ⟨e0, e1⟩
        · obtain ⟨y1, y2, y3⟩ := PP e0
          rw [e0] at PS
          rw [y1, y2] at P2
          rw [y3] at M2
          clear e0 PP y1 y2 y3 hps
          go_enter Tryd.func4, Tryd.ntmps4
          go_wp2_with (first | (go_at_call 6; (with_reducible refine AW.mono ?_); rintro e w1 ⟨rfl, b1⟩; have G1 := GR.out w1 b1; clear AW) | (go_at_call 7; (with_reducible refine G1.mono ?_); rintro e w2 ⟨rfl, d2⟩; have b2 := bnext b1 d2.below; have X3 := PR.out w2 b2; clear G1 d2 b1) | (go_at_call 13; (with_reducible refine X3.mono ?_); rintro e w6 ⟨rfl, d3⟩; have b6 := bnext b2 d3; have X7 := PS.out w6; clear X3 d3 b2) | (go_at_call 14; (with_reducible refine X7.mono ?_); rintro e w7 ⟨v7, rfl, o7, d7⟩; obtain ⟨A7, q7, rfl, hq7, c7⟩ := strs_reads o7 (by omega); have b7 := bnext b6 d7; have X8 := P2.out w7 A7 q7 c7 hq7; clear X7 d7 b6 o7) | (go_at_call 13; (with_reducible refine X8.mono ?_); rintro e w8 ⟨rfl, d8⟩; have b8 := bnext b7 d8; have X9 := M2.out w8 A7 q7 (Kd.C_below c7 d8); clear X8 d8 b7 c7) | (go_at_call 12; (with_reducible refine X9.mono ?_); rintro e w9 ⟨rfl, d9⟩; have b9 := bnext b8 d9.below; clear X9 d9 b8))
          go_ret
          exact ⟨rfl, b9⟩
        · subst e1
          rw [e0] at PS
          clear e0 PP P2 M2 hps
          go_enter Tryd.func4, Tryd.ntmps4
          go_wp2_with (first | (go_at_call 6; (with_reducible refine AW.mono ?_); rintro e w1 ⟨rfl, b1⟩; have G1 := GR.out w1 b1; clear AW) | (go_at_call 7; (with_reducible refine G1.mono ?_); rintro e w2 ⟨rfl, d2⟩; have b2 := bnext b1 d2.below; have X3 := PR.out w2 b2; clear G1 d2 b1) | (go_at_call 13; (with_reducible refine X3.mono ?_); rintro e w6 ⟨rfl, d3⟩; have b6 := bnext b2 d3; have X7 := PS.out w6; clear X3 d3 b2) | (go_at_call 14; (with_reducible refine X7.mono ?_); rintro e w7 ⟨v7, rfl, o7, d7⟩; obtain ⟨A7, q7, rfl, hq7, c7⟩ := strs_reads (l := []) o7 (by decide); have b7 := bnext b6 d7; clear X7 d7 b6 o7 c7))
          go_ret
          exact ⟨rfl, b7⟩
        · subst e1
          rw [e0] at PS
          clear e0 PP P2 M2 hps
          go_enter Tryd.func4, Tryd.ntmps4
          go_wp2_with (first | (go_at_call 6; (with_reducible refine AW.mono ?_); rintro e w1 ⟨rfl, b1⟩; have G1 := GR.out w1 b1; clear AW) | (go_at_call 7; (with_reducible refine G1.mono ?_); rintro e w2 ⟨rfl, d2⟩; have b2 := bnext b1 d2.below; have X3 := PR.out w2 b2; clear G1 d2 b1) | (go_at_call 13; (with_reducible refine X3.mono ?_); rintro e w6 ⟨rfl, d3⟩; have b6 := bnext b2 d3; have X7 := PS.out w6; clear X3 d3 b2) | (go_at_call 14; (with_reducible refine X7.mono ?_); rintro e w7 ⟨v7, rfl, o7, d7⟩; obtain ⟨A7, q7, rfl, hq7, c7⟩ := strs_reads (l := []) o7 (by decide); have b7 := bnext b6 d7; clear X7 d7 b6 o7 c7))
          go_ret
          exact ⟨rfl, b7⟩

/-- THE ONE PURE STATEMENT of postilionlaw17_TokenBack: yours. -/
def postilionlaw17_TokenBack.Pure : Prop := ∀ (l0 : List ByteArray) (a1 : ByteArray) (a2 : Int), l0.length ≤ maxLen → (∀ y_ ∈ l0, (y_.size ≤ 9223372036854775807)) → a1.size ≤ 140737488351232 → (Lit.int .u8 a2).wf = true → postilionlaw17_TokenBack.f l0 a1 a2 = some true

end Go.Proofs.YtnndmbhfolgohaaDoor.P
