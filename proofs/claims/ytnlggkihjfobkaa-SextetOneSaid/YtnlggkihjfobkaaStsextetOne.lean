-- Laid by sp.py, a program of this session's, out of the translation and the session's own stand-ins.
import Derived.Test.YtnlggkihjfobkaaPx0
import Derived.Test.YtnlggkihjfobkaaStsextetEncode
import Derived.Test.YtnlggkihjfobkaaStsextetDecode
import Derived.Test.YtnlggkihjfobkaaStsextetAwake
import Derived.Lib.ConvBytes
namespace Go.Proofs.Ytnlggkihjfobkaa.P
open Go.RowKit Go.Proofs.YtnlggkihjfobkaaW.PrintWords Go.Proofs.YtnlggkihjfobkaaW.PrintLast Go.Proofs.YtnlggkihjfobkaaW.PrintMore
attribute [local go_sem] max2_int min2_int max_two min_two max_three min_three max_four min_four   -- for this text's walks alone
set_option linter.unusedVariables false
set_option linter.unusedSimpArgs false
set_option linter.unnecessarySimpa false

/-! ### SextetOne: a stand-in: a text's bytes in a row of their own, one of which is written -/
/-- A row of bytes in a block of its own. -/
structure ByIn (w0 : World) (B : Nat) (xs : List Int) (W : World) : Prop where
  le : w0.heap.size ≤ B
  cell : ∀ j, j < xs.length → W.cell? ⟨B, j, none⟩ = some (.int .u8 (rd xs j))
  free : ∀ j, j < xs.length → W.frozen? ⟨B, j, none⟩ = false
  hB : Below w0.heap.size w0 W
theorem ByIn.set {w0 : World} {B : Nat} {xs : List Int} {W : World} (h : ByIn w0 B xs W) (k : Nat) (c : Int) (hk : k < xs.length) : ByIn w0 B (xs.set k c) (W.setCell ⟨B, k, none⟩ (.int .u8 c)) := by
  refine ⟨h.le, fun j hj => ?_, fun j hj => ?_, h.hB.setCell h.le _⟩
  · rw [List.length_set] at hj
    have e2 : rd (xs.set k c) (j : Int) = if k = j then c else rd xs (j : Int) := by
      unfold rd
      rw [Int.toNat_natCast, List.getD_eq_getElem?_getD, List.getD_eq_getElem?_getD, List.getElem?_set]
      by_cases e : k = j
      · rw [if_pos e, if_pos e, if_pos (by omega)]; rfl
      · rw [if_neg e, if_neg e]
    rw [e2]
    by_cases e : k = j
    · subst e
      rw [World.cell?_setCell_same _ _ _ (h.cell k hk), if_pos rfl]
    · rw [World.cell?_setCell_other _ _ _ _ (by intro h2; cases h2; exact e rfl), h.cell j hj, if_neg e]
  · rw [List.length_set] at hj
    rw [World.frozen?_setCell]; exact h.free j hj
theorem ByIn.str {w0 : World} {B : Nat} {xs : List Int} {W : World} (h : ByIn w0 B xs W) (n cap : Nat) (hn : xs.length = n) (hm : n ≤ 1000000) : (convert 22 9 (.slice (some ⟨B, 0, none⟩) n cap)).run Try.prog W = .ok (.string (strOfNums xs)) W :=
  string_of_reads Try.underlying22 Try.underlying5 Try.underlying9 ⟨hn, by omega, fun _ => ⟨⟨B, 0, none⟩, rfl, fun j hj => by
    have := h.cell j (by omega)
    rw [Addr.add_lit, Nat.zero_add, this]
    unfold rd
    rw [Int.toNat_natCast]⟩⟩
theorem by_start (w0 w : World) (s : ByteArray) (hB : Below w0.heap.size w0 w) : ByIn w0 w.heap.size (bytesOf s) (Lib.bytesWorld w 5 s) := by
  refine ⟨hB.size, fun j hj => ?_, fun j hj => ?_, hB.trans ⟨rfl, rfl, rfl, by rw [Lib.bytesWorld_size]; omega, fun j hj => Lib.bytesWorld_at_old w _ s j (Nat.lt_of_lt_of_le hj hB.size)⟩⟩
  · rw [bytesOf_length] at hj
    rw [Lib.bytesWorld_cell w _ s j hj]
    unfold rd bytesOf
    rw [Int.toNat_natCast, List.getD_eq_getElem?_getD, List.getD_eq_getElem?_getD, List.getElem?_map]
    rw [List.getElem?_eq_getElem (by rw [data_length]; exact hj)]
    rfl
  · rw [bytesOf_length] at hj
    have hc : (Lib.bytesCells w 5 s).size = s.size + (grownCap w s.size 0 5 - s.size) := by
      unfold Lib.bytesCells
      rw [Array.size_append, Array.size_map, Array.size_replicate]
      rfl
    unfold World.frozen?
    rw [Lib.bytesWorld_at_new]
    simp only [hc]
    simp
    omega
/-- The place that is meant. -/
def sxPlace (a : Int) (n : Nat) : Nat := ((a % 18446744073709551616) % (n : Int)).toNat
def postilionlaw05_SextetOne.f (l0 : List Int) (a1 a2 : Int) : Option Bool :=
  if l0.length = 0 ∨ 3000 < l0.length then some true else (sextet_Encode.f l0).bind fun t => if t.size = 0 ∨ 1000000 < t.size then some false else
    (sextet_Decode.f (strOfNums ((bytesOf t).set (sxPlace a1 t.size) a2))).bind fun d => some ((if d.2 = 0 then (strOfNums d.1).toList == (strOfNums l0).toList else false) == (rd (bytesOf t) (sxPlace a1 t.size : Int) == a2))
set_option maxHeartbeats 4000000 in
theorem postilionlaw05_SextetOne.calls (A0 : Option Addr) (c0 : Nat) (l0 : List Int) (a1 a2 : Int) (w : World) (hr0 : Kd.C (Kd.int .u8) w A0 l0.length l0) (hc0 : l0.length ≤ c0) (h : postilionlaw05_SextetOne.f l0 a1 a2 = some true) :
    Calls Try.prog 7 #[.slice A0 l0.length c0, .int .i64 a1, .int .u8 a2] w fun e w' => e = .returned (.bool true) ∧ Below w.heap.size w w' := by
  have hAw := fun W => postilionlaw05_awake.calls true W rfl
  have HR := Aside0.mk hr0
  clear hr0
  unfold postilionlaw05_SextetOne.f at h
  by_cases z1 : l0.length = 0
  · have q1 : ((l0.length : Int) == 0) = true := beq_iff_eq.mpr (by omega)
    clear h
    go_enter Try.func7, Try.ntmps7
    go_wp2_with (go_at_call 14; refine (hAw _).mono ?_; rintro e w1 ⟨rfl, hb1⟩)
    go_ret
    exact ⟨rfl, hb1⟩
  · have q1 : ((l0.length : Int) == 0) = false := beq_eq_false_iff_ne.mpr (by omega)
    by_cases z2 : 3000 < l0.length
    · have q2 : decide (3000 < (l0.length : Int)) = true := decide_eq_true (by omega)
      clear h
      go_enter Try.func7, Try.ntmps7
      go_wp2_with (go_at_call 14; refine (hAw _).mono ?_; rintro e w1 ⟨rfl, hb1⟩)
      go_ret
      exact ⟨rfl, hb1⟩
    · have q2 : decide (3000 < (l0.length : Int)) = false := decide_eq_false (by omega)
      rw [if_neg (by omega)] at h
      obtain ⟨t, ht, h⟩ := Option.bind_eq_some_iff.mp h
      by_cases z3 : t.size = 0 ∨ 1000000 < t.size
      · rw [if_pos z3] at h; cases h
      rw [if_neg z3] at h
      have q3 : ((t.size : Int) == 0) = false := beq_eq_false_iff_ne.mpr (by omega)
      obtain ⟨d, hd, h⟩ := Option.bind_eq_some_iff.mp h
      have h := Option.some.inj h
      have HT := Aside0.mk ht
      have HD := Aside0.mk hd
      have HH := Aside0.mk h
      clear ht hd h
      have hcv := fun W => Lib.run_convert_string_bytes (P := Try.prog) W 9 22 5 t Try.underlying9 Try.underlying22 Try.underlying5
      have hu : IntKind.u64.wrap a1 = a1 % 18446744073709551616 := IntKind.wrap_u64 a1
      have hkm : (a1 % 18446744073709551616).tmod (t.size : Int) = (sxPlace a1 t.size : Int) := by
        unfold sxPlace
        rw [Int.tmod_eq_emod_of_nonneg (by omega), Int.toNat_of_nonneg (Int.emod_nonneg _ (by omega))]
      have hkl : sxPlace a1 t.size < t.size := by
        have h1 := Int.emod_lt_of_pos (a1 % 18446744073709551616) (show (0 : Int) < (t.size : Int) by omega)
        have h2 := Int.emod_nonneg (a1 % 18446744073709551616) (show (t.size : Int) ≠ 0 by omega)
        unfold sxPlace
        omega
      rw [← hu] at hkm
      clear hu
      generalize sxPlace a1 t.size = k at hkm hkl HD HH
      have hP2 : wrap64 ((IntKind.u64.wrap a1).tmod (t.size : Int)) = (k : Int) := by rw [hkm]; unfold wrap64; omega
      clear hkm
      have hbl := bytesOf_length t
      have q4 : decide ((k : Int) < (t.size : Int)) = true := decide_eq_true (by omega)
      have q5 : decide (0 ≤ (k : Int)) = true := decide_eq_true (by omega)
      have p1 : (k < t.size) = True := eq_true hkl
      obtain ⟨d1, d2⟩ := d
      have hd1 := HD.out
      have hh := HH.out
      simp only at hh
      clear HD HH h
      have HD := Aside0.mk hd1
      have HH := Aside0.mk hh
      clear hd1 hh
      by_cases hz : d2 = 0
      · subst hz
        go_enter Try.func7, Try.ntmps7
        go_wp2_with (first | (go_at_call 14; refine (hAw _).mono ?_; rintro e w1 ⟨rfl, hb1⟩; have hEn := sextet_Encode.calls A0 c0 l0 t w1 (Kd.C_below HR.out hb1) hc0 HT.out) | (go_at_call 8; refine hEn.mono ?_; rintro e w2 ⟨rfl, hb2⟩; have hBy := by_start w w2 t (hb1.trans ⟨hb2.os, hb2.tape, hb2.output, hb2.size, fun j hj => hb2.block j (Nat.lt_of_lt_of_le hj hb1.size)⟩); have hc := hBy.cell k (by omega); have hf := hBy.free k (by omega); have hBs := hBy.set k a2 (by omega); have hst := hBs.str t.size (grownCap w2 t.size 0 5) (by rw [List.length_set]; exact hbl) (by omega); have hDe := sextet_Decode.calls _ d1 0 ((Lib.bytesWorld w2 5 t).setCell ⟨w2.heap.size, k, none⟩ (.int .u8 a2)) HD.out) | (go_at_call 12; refine hDe.mono ?_; rintro e w5 ⟨v0, rfl, hR5, hb5⟩; obtain ⟨A5, c5, e5, hl5, hC5⟩ := Kd.R_reads hR5; subst e5; have hs5 := Kd.C_string Try.underlying22 Try.underlying5 Try.underlying9 (c := c5) hC5; have hBw5 := hBs.hB.trans ⟨hb5.os, hb5.tape, hb5.output, hb5.size, fun j hj => hb5.block j (Nat.lt_of_lt_of_le hj hBs.hB.size)⟩; have hs6 := Kd.C_string Try.underlying22 Try.underlying5 Try.underlying9 (c := c0) (Kd.C_below HR.out hBw5)))
        go_ret
        have hh := HH.out
        rw [if_pos trivial] at hh
        exact ⟨congrArg (fun b => Ending.returned (Value.bool b)) hh, hBw5⟩
      · have q6 : (d2 == 0) = false := beq_eq_false_iff_ne.mpr hz
        go_enter Try.func7, Try.ntmps7
        go_wp2_with (first | (go_at_call 14; refine (hAw _).mono ?_; rintro e w1 ⟨rfl, hb1⟩; have hEn := sextet_Encode.calls A0 c0 l0 t w1 (Kd.C_below HR.out hb1) hc0 HT.out) | (go_at_call 8; refine hEn.mono ?_; rintro e w2 ⟨rfl, hb2⟩; have hBy := by_start w w2 t (hb1.trans ⟨hb2.os, hb2.tape, hb2.output, hb2.size, fun j hj => hb2.block j (Nat.lt_of_lt_of_le hj hb1.size)⟩); have hc := hBy.cell k (by omega); have hf := hBy.free k (by omega); have hBs := hBy.set k a2 (by omega); have hst := hBs.str t.size (grownCap w2 t.size 0 5) (by rw [List.length_set]; exact hbl) (by omega); have hDe := sextet_Decode.calls _ d1 d2 ((Lib.bytesWorld w2 5 t).setCell ⟨w2.heap.size, k, none⟩ (.int .u8 a2)) HD.out) | (go_at_call 12; refine hDe.mono ?_; rintro e w5 ⟨v0, rfl, hR5, hb5⟩; obtain ⟨A5, c5, e5, hl5, hC5⟩ := Kd.R_reads hR5; subst e5; have hs5 := Kd.C_string Try.underlying22 Try.underlying5 Try.underlying9 (c := c5) hC5; have hBw5 := hBs.hB.trans ⟨hb5.os, hb5.tape, hb5.output, hb5.size, fun j hj => hb5.block j (Nat.lt_of_lt_of_le hj hBs.hB.size)⟩; have hs6 := Kd.C_string Try.underlying22 Try.underlying5 Try.underlying9 (c := c0) (Kd.C_below HR.out hBw5)))
        go_ret
        have hh := HH.out
        rw [if_neg hz] at hh
        have e : (!(rd (bytesOf t) (k : Int) == a2)) = true := by
          cases hx : (rd (bytesOf t) (k : Int) == a2) with
          | true => rw [hx] at hh; cases hh
          | false => rfl
        exact ⟨congrArg (fun b => Ending.returned (Value.bool b)) e, hBw5⟩

/-- THE ONE PURE STATEMENT of postilionlaw05_SextetOne. -/
def postilionlaw05_SextetOne.Pure : Prop := ∀ (l0 : List Int) (a1 a2 : Int), l0.length ≤ maxLen → l0.length * 1 ≤ 140737488351232 → (∀ x ∈ l0, (Lit.int .u8 x).wf = true) → (Lit.int .i64 a1).wf = true → (Lit.int .u8 a2).wf = true → postilionlaw05_SextetOne.f l0 a1 a2 = some true
theorem postilionlaw05_SextetOne.walk (P : postilionlaw05_SextetOne.Pure) (a0 : Option Addr) (len0 cap0 : Nat) (z0 : List Int) (a1 : Int) (a2 : Int) (w : World) (w0 : (a0 = none ∧ len0 = 0 ∧ cap0 = 0 ∧ z0 = []) ∨ ∃ x, a0 = some x ∧ len0 ≤ cap0 ∧ cap0 ≤ maxLen ∧ z0.length = cap0 ∧ (∀ i, i < z0.length → w.cell? (x.add i) = some (.int .u8 (z0.getD i 0))) ∧ ∀ n ∈ z0, (Lit.int .u8 n).wf = true) (y0 : len0 * 1 ≤ 140737488351232) (w1 : (Lit.int .i64 a1).wf = true) (w2 : (Lit.int .u8 a2).wf = true) :
    Calls Try.prog 7 #[.slice a0 len0 cap0, .int .i64 a1, .int .u8 a2] w fun e w' => e = .returned (.bool true) ∧ Below w.heap.size w w' := by
  obtain ⟨l0, rfl, hr0, hm0, hw0, hc0⟩ := ReadsInt.ofRowC w0
  have h := P l0 a1 a2 hm0 y0 hw0 w1 w2
  refine (postilionlaw05_SextetOne.calls _ _ l0 a1 a2 w (Kd.C_of_reads (d := (0 : Int)) (h1 := fun _ => rfl) hr0) hc0 h).mono ?_
  rintro e w' ⟨rfl, hd⟩
  exact ⟨rfl, hd⟩

end Go.Proofs.Ytnlggkihjfobkaa.P
