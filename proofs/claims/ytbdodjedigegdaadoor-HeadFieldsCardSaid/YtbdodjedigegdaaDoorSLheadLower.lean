import Derived.Test.YtbdodjedigegdaaDoorSLheadTaker
import Derived.Lib.ConvBytes
namespace Go.Proofs.YtbdodjedigegdaaDoor.P
open Go.RowKit Go.Proofs.YtbdodjedigegdaaDoorW.PrintWords Go.Proofs.YtbdodjedigegdaaDoorW.PrintLast Go.Proofs.YtbdodjedigegdaaDoorW.PrintMore
set_option linter.unusedVariables false
set_option linter.unusedSimpArgs false
set_option linter.unnecessarySimpa false
attribute [local go_sem] max2_int min2_int max_two min_two max_three min_three max_four min_four
/-! ### ascii.Lower: a stand-in: a text's bytes in a row of their own, turned where they lie -/
/-- A byte's lower form. -/
def lowB (c : Int) : Int := if 65 ≤ c ∧ c ≤ 90 then c + 32 else c
def lowT (s : ByteArray) : ByteArray := strOfNums ((bytesOf s).map lowB)
/-- The row when k bytes are turned. -/
structure LowIn (w0 : World) (B : Nat) (xs : List Int) (k : Nat) (W : World) : Prop where
  le : w0.heap.size ≤ B
  cell : ∀ j, j < xs.length → W.cell? ⟨B, j, none⟩ = some (.int .u8 (if j < k then lowB (rd xs j) else rd xs j))
  free : ∀ j, j < xs.length → W.frozen? ⟨B, j, none⟩ = false
  hB : Below w0.heap.size w0 W
theorem LowIn.next {w0 : World} {B : Nat} {xs : List Int} {k : Nat} {W : World} (h : LowIn w0 B xs k W) (hk : k < xs.length) : LowIn w0 B xs (k + 1) (W.setCell ⟨B, k, none⟩ (.int .u8 (lowB (rd xs k)))) := by
  refine ⟨h.le, fun j hj => ?_, fun j hj => ?_, h.hB.setCell h.le _⟩
  · by_cases e : j = k
    · subst e
      rw [World.cell?_setCell_same _ _ _ (h.cell j hj), if_pos (by omega)]
    · rw [World.cell?_setCell_other _ _ _ _ (by intro h2; cases h2; exact e rfl), h.cell j hj]
      by_cases hjk : j < k
      · rw [if_pos hjk, if_pos (by omega)]
      · rw [if_neg hjk, if_neg (by omega)]
  · rw [World.frozen?_setCell]; exact h.free j hj
theorem LowIn.skip {w0 : World} {B : Nat} {xs : List Int} {k : Nat} {W : World} (h : LowIn w0 B xs k W) (hs : lowB (rd xs k) = rd xs k) : LowIn w0 B xs (k + 1) W := by
  refine ⟨h.le, fun j hj => ?_, h.free, h.hB⟩
  rw [h.cell j hj]
  by_cases e : j = k
  · subst e
    rw [if_neg (by omega), if_pos (by omega), hs]
  · by_cases hjk : j < k
    · rw [if_pos hjk, if_pos (by omega)]
    · rw [if_neg hjk, if_neg (by omega)]
theorem low_start (w : World) (s : ByteArray) : LowIn w w.heap.size (bytesOf s) 0 (Lib.bytesWorld w 5 s) := by
  refine ⟨Nat.le_refl _, fun j hj => ?_, fun j hj => ?_, ?_⟩
  · rw [bytesOf_length] at hj
    rw [Lib.bytesWorld_cell w _ s j hj, if_neg (by omega)]
    unfold rd bytesOf
    rw [Int.toNat_natCast, List.getD_eq_getElem?_getD, List.getD_eq_getElem?_getD, List.getElem?_map]
    rw [List.getElem?_eq_getElem (by rw [data_length]; exact hj)]
    rfl
  · rw [bytesOf_length] at hj
    have hc : (Lib.bytesCells w 5 s).size = s.size + (grownCap w s.size 0 5 - s.size) := by
      unfold Lib.bytesCells
      rw [Array.size_append, Array.size_map, Array.size_replicate]
      rfl
    unfold World.frozen?
    rw [Lib.bytesWorld_at_new]
    simp only [hc]
    simp
    omega
  · exact ⟨rfl, rfl, rfl, by rw [Lib.bytesWorld_size]; omega, fun j hj => Lib.bytesWorld_at_old w _ s j hj⟩
set_option maxHeartbeats 4000000 in
theorem hd_Lower (a0 : ByteArray) (w : World) (hl : a0.size ≤ 1000000) :
    Calls Tryd.prog 18 #[.string a0] w fun e w' => e = .returned (.string (lowT a0)) ∧ Below w.heap.size w w' := by
  unfold lowT
  have hcv := Lib.run_convert_string_bytes (P := Tryd.prog) w 9 26 5 a0 Tryd.underlying9 Tryd.underlying26 Tryd.underlying5
  have h0 := low_start w a0
  have hlen := bytesOf_length a0
  generalize Lib.bytesWorld w 5 a0 = w1 at hcv h0
  generalize grownCap w a0.size 0 5 = cap at hcv
  go_enter Tryd.func18, Tryd.ntmps18
  go_wp2
  go_loopw [10] (fun v wr => ∃ k : Nat, k ≤ a0.size ∧ v = .int .i64 (k : Int) ∧ LowIn w w.heap.size (bytesOf a0) k wr) (fun v _ => a0.size - (intOf v).toNat)
  case atStart => exact ⟨0, Nat.zero_le _, rfl, h0⟩
  case round =>
    obtain ⟨k, hk, rfl, hI⟩ := hrel
    by_cases hlt : k < a0.size
    · have q1 : decide ((k : Int) < (a0.size : Int)) = true := decide_eq_true (by omega)
      have hc := hI.cell k (by omega)
      rw [if_neg (by omega)] at hc
      have hf := hI.free k (by omega)
      have hr := rd_bytesOf a0 k
      obtain ⟨b0, b1⟩ : 0 ≤ rd (bytesOf a0) k ∧ rd (bytesOf a0) k ≤ 255 := by rw [hr]; exact bt_range _ _
      have hnx := hI.next (by omega)
      have hsk := hI.skip (W := wr)
      generalize rd (bytesOf a0) k = c at hc b0 b1 hnx hsk
      clear hr
      have p1 : (k < a0.size) = True := eq_true hlt
      by_cases c1 : 65 ≤ c
      · have q2 : decide (65 ≤ c) = true := decide_eq_true c1
        by_cases c2 : c ≤ 90
        · have q3 : decide (c ≤ 90) = true := decide_eq_true c2
          have e : lowB c = c + 32 := by unfold lowB; rw [if_pos ⟨c1, c2⟩]
          rw [e] at hnx
          go_wp2
          go_roundw
          case rel => exact ⟨k + 1, by omega, by go_num, hnx⟩
          case measure => simp only [intOf]; omega
        · have q3 : decide (c ≤ 90) = false := decide_eq_false c2
          have e : lowB c = c := by unfold lowB; rw [if_neg (fun h => c2 h.2)]
          go_wp2
          go_roundw
          case rel => exact ⟨k + 1, by omega, by go_num, hsk e⟩
          case measure => simp only [intOf]; omega
      · have q2 : decide (65 ≤ c) = false := decide_eq_false c1
        have e : lowB c = c := by unfold lowB; rw [if_neg (fun h => c1 h.1)]
        go_wp2
        go_roundw
        case rel => exact ⟨k + 1, by omega, by go_num, hsk e⟩
        case measure => simp only [intOf]; omega
    · have q1 : decide ((k : Int) < (a0.size : Int)) = false := decide_eq_false (by omega)
      have hst : (convert 26 9 (.slice (some ⟨w.heap.size, 0, none⟩) a0.size cap)).run Tryd.prog wr = .ok (.string (strOfNums ((bytesOf a0).map lowB))) wr := by
        refine string_of_reads Tryd.underlying26 Tryd.underlying5 Tryd.underlying9 ⟨by rw [List.length_map, hlen], by omega, fun _ => ⟨⟨w.heap.size, 0, none⟩, rfl, fun j hj => ?_⟩⟩
        have := hI.cell j (by omega)
        rw [if_pos (by omega)] at this
        rw [Addr.add_lit, Nat.zero_add, this]
        unfold rd
        rw [Int.toNat_natCast, List.getD_eq_getElem?_getD, List.getD_eq_getElem?_getD, List.getElem?_map, List.getElem?_eq_getElem (by omega)]
        rfl
      go_wp2
      go_ret
      exact ⟨rfl, hI.hB⟩
end Go.Proofs.YtbdodjedigegdaaDoor.P
