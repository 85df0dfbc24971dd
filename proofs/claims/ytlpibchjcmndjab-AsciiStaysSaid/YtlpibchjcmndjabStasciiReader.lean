-- Laid by sp.py, a program of this session's, out of the translation and the session's own stand-ins.
import Derived.Test.YtlpibchjcmndjabPx0
import Derived.Test.YtlpibchjcmndjabStasciiAwake
import Derived.Test.YtlpibchjcmndjabShelf
import Derived.Test.YtlpibchjcmndjabStasciiAwake
namespace Go.Proofs.Ytlpibchjcmndjab.P
open Go.RowKit Go.Proofs.YtlpibchjcmndjabW.PrintWords Go.Proofs.YtlpibchjcmndjabW.PrintLast Go.Proofs.YtlpibchjcmndjabW.PrintMore
attribute [local go_sem] max2_int min2_int max_two min_two max_three min_three max_four min_four   -- for this text's walks alone
set_option linter.unusedVariables false
set_option linter.unusedSimpArgs false
set_option linter.unnecessarySimpa false

/-! ### ascii.Reader's Line: for every bytes and place -/
/-- Where the first end stands; -1: none is there. -/
def endOf (l : List Int) : Int := Lib.index (Lib.bytesOf l) (Lib.bytesOf [13, 10])
/-- How many bytes there are without a last 13. -/
def trimN (l : List Int) : Nat := if Lib.hasSuffix (Lib.bytesOf l) (Lib.bytesOf [13]) then l.length - 1 else l.length
/-- What Line answers, and where the reader stands then. -/
def lineS (l : List Int) (n : Nat) (most : Int) : ByteArray × Int × Nat :=
  if most < 0 then (⟨#[]⟩, 2, n)
  else if most < endOf (l.drop n) then (⟨#[]⟩, 6, n)
  else if endOf (l.drop n) < 0 then (⟨#[]⟩, if decide (most < (trimN (l.drop n) : Int)) = true then 6 else 5, n)
  else (strOfNums ((l.drop n).take (endOf (l.drop n)).toNat), 0, n + (endOf (l.drop n)).toNat + 2)
theorem endOf_room {l : List Int} (h : 0 ≤ endOf l) : (endOf l).toNat + 2 ≤ l.length := by
  have key : ∀ (s : List UInt8), 0 ≤ Lib.index s (Lib.bytesOf [13, 10]) → (Lib.index s (Lib.bytesOf [13, 10])).toNat + 2 ≤ s.length := by
    intro s
    induction s with
    | nil => intro h; exact absurd h (by decide)
    | cons b t ih =>
      intro h
      unfold Lib.index at h ⊢
      by_cases c : (Lib.bytesOf [13, 10]).isPrefixOf (b :: t) = true
      · rw [if_pos c] at h ⊢
        have := (List.isPrefixOf_iff_prefix.1 c).length_le
        have e : (Lib.bytesOf [13, 10]).length = 2 := rfl
        rw [e] at this
        exact this
      · rw [if_neg c] at h ⊢
        by_cases c2 : (Lib.index t (Lib.bytesOf [13, 10]) == -1) = true
        · rw [if_pos c2] at h
          exact absurd h (by decide)
        · rw [if_neg c2] at h ⊢
          have c3 : ¬ Lib.index t (Lib.bytesOf [13, 10]) = -1 := fun h' => c2 (beq_iff_eq.mpr h')
          have g := Lib.index_ge t (Lib.bytesOf [13, 10])
          have := ih (by omega)
          simp only [List.length_cons]
          omega
  have := key (Lib.bytesOf l) h
  unfold endOf
  rwa [Lib.bytesOf, List.length_map] at this
theorem bytesIn_of_C {W : World} {A : Option Addr} {l : List Int} (hC : Kd.C (Kd.int .u8) W A l.length l) : Lib.BytesIn W A l.length l := by
  intro hn
  obtain ⟨ad, rfl, hs, hc⟩ := cells_of_C hC hn
  obtain ⟨b, o, s⟩ := ad
  simp only at hs
  subst hs
  exact ⟨b, o, rfl, fun i hi => by rw [← Go.WideShapes.add_plain]; exact hc i hi⟩
theorem rd_Index (W W1 : World) (c : Nat) (A : Option Addr) (d : List Int) (hd : d.length ≤ 1000000) (hb : ∀ x ∈ d, 0 ≤ x ∧ x < 256) (hC : Kd.C (Kd.int .u8) W1 A d.length d) (h13 : W1.cell? ⟨W.heap.size, 0, none⟩ = some (.int .u8 13)) (h10 : W1.cell? ⟨W.heap.size, 1, none⟩ = some (.int .u8 10)) (hc : d.length ≤ c) (hm : hasMax W1) :
    Calls Try.prog 14 #[.slice A d.length c, .slice (some ⟨W.heap.size, 0, none⟩) 2 2] W1 fun x W' => x = .returned (.int .i64 (endOf d)) ∧ Below W1.heap.size W1 W' := by
  by_cases h0 : d.length < 2
  · refine (Try.bytes_Index_longer A (some ⟨W.heap.size, 0, none⟩) d.length c 2 2 W1 (by decide) h0 (by decide)).mono ?_
    rintro x W' ⟨rfl, rfl⟩
    refine ⟨?_, Below.refl _ _⟩
    have : endOf d = -1 := by
      rcases Int.lt_or_le (endOf d) 0 with h | h
      · have := Lib.index_ge (Lib.bytesOf d) (Lib.bytesOf [13, 10])
        unfold endOf at h ⊢
        omega
      · have := endOf_room h
        omega
    rw [this]
  · obtain ⟨m, hm⟩ := hm
    obtain ⟨ad, rfl, _, hcs⟩ := cells_of_C hC (by omega)
    refine (Try.bytes_Index_at ad ⟨W.heap.size, 0, none⟩ d.length c 2 2 d [13, 10] m W1 rfl rfl hb (by decide) (fun i hi => hcs i hi) (fun i hi => ?_) hc (by omega) (by decide) hm).mono ?_
    · match i, hi with
      | 0, _ => exact h13
      | 1, _ => exact h10
    · rintro x W' ⟨rfl, q, rfl⟩
      exact ⟨rfl, pw_below_drewN (Below.refl _ _) _⟩
theorem trim_shape (A : Option Addr) (d : List Int) (c : Nat) (hA : 0 < d.length → ∃ b o, A = some ⟨b, o, none⟩) : ∃ A2 c2, Lib.trimSuffixV A d.length c d [13] = .slice A2 (trimN d) c2 := by
  rcases Nat.eq_zero_or_pos d.length with h0 | h0
  · have : d = [] := List.eq_nil_of_length_eq_zero h0
    subst this
    have e : ∀ b o, Lib.bytesTrimSuffix b o 0 c [] [13] = .slice (some ⟨b, o, none⟩) 0 c := by
      intro b o
      unfold Lib.bytesTrimSuffix
      rw [if_neg (by decide)]
    unfold Lib.trimSuffixV
    split
    · exact ⟨_, _, e _ _⟩
    · exact ⟨_, _, rfl⟩
  · obtain ⟨b, o, rfl⟩ := hA h0
    show ∃ A2 c2, Lib.bytesTrimSuffix b o d.length c d [13] = .slice A2 (trimN d) c2
    unfold Lib.bytesTrimSuffix trimN Lib.sliceTo
    by_cases q : Lib.hasSuffix (Lib.bytesOf d) (Lib.bytesOf [13]) = true
    · rw [if_pos q, if_pos q]
      exact ⟨_, _, rfl⟩
    · rw [if_neg q, if_neg q]
      exact ⟨_, _, rfl⟩
theorem rd_long (W1 : World) (c : Nat) (A : Option Addr) (d : List Int) (most : Int) (hd : d.length ≤ 1000000) (hC : Kd.C (Kd.int .u8) W1 A d.length d) (hc : d.length ≤ c) :
    Calls Try.prog 15 #[.slice A d.length c, .int .i64 most] W1 fun x W' => x = .returned (.bool (decide (most < (trimN d : Int)))) ∧ Below W1.heap.size W1 W' := by
  have hsh := trim_shape A d c (fun h0 => by
    obtain ⟨ad, rfl, hs, _⟩ := cells_of_C hC h0
    obtain ⟨b, o, s⟩ := ad
    simp only at hs
    subst hs
    exact ⟨b, o, rfl⟩)
  refine long_of A d.length c d most W1 rfl hd hc hC (Lib.trimSuffixV A d.length c d [13]) (trimN d) hsh (fun W2 hb2 h13 => ?_)
  refine (Try.bytes_TrimSuffix_all A (some ⟨W1.heap.size, 0, none⟩) d.length c 1 1 d [13] W2 rfl rfl hc (by omega) (bytesIn_of_C (Kd.C_below hC hb2)) ?_).mono ?_
  · intro _
    exact ⟨W1.heap.size, 0, rfl, fun i hi => by
      match i, hi with
      | 0, _ => exact h13⟩
  · rintro x W' ⟨rfl, rfl⟩
    exact ⟨rfl, rfl⟩
/-- All but one block stays. -/
structure Fr (R : Nat) (W W' : World) : Prop where
  size : W.heap.size ≤ W'.heap.size
  keep : ∀ j, j < W.heap.size → j ≠ R → W'.heap[j]? = W.heap[j]?
theorem Fr.of_below {R : Nat} {W W' : World} (hb : Below W.heap.size W W') : Fr R W W' := ⟨hb.size, fun j hj _ => hb.block j hj⟩
theorem Fr.set {R : Nat} {W W' : World} (h : Fr R W W') (o : Nat) (u : Value) : Fr R W (W'.setCell ⟨R, o, none⟩ u) :=
  ⟨by simpa [World.setCell] using h.size, fun j hj hne => (Below.heap_setCell W' ⟨R, o, none⟩ u j hne).trans (h.keep j hj hne)⟩
theorem Fr.trans {R : Nat} {W W' W2 : World} (h : Fr R W W') (h2 : Fr R W' W2) : Fr R W W2 :=
  ⟨Nat.le_trans h.size h2.size, fun j hj hne => (h2.keep j (Nat.lt_of_lt_of_le hj h.size) hne).trans (h.keep j hj hne)⟩
theorem RdIn.rebase {w0 w1 : World} {R : Nat} {v : Value} {l : List Int} {n : Nat} {W : World} (h : RdIn w1 R v l n W) (hb : Below w0.heap.size w0 w1) : RdIn w0 R v l n W :=
  ⟨Nat.le_trans hb.size h.le, h.blk, Kd.R_lower h.hR hb.size, hb.trans ⟨h.hB.os, h.hB.tape, h.hB.output, h.hB.size, fun j hj => h.hB.block j (Nat.lt_of_lt_of_le hj hb.size)⟩⟩
/-- Where the one reader reads, the other stays. -/
theorem RdIn.other {w0 : World} {R R' : Nat} {v v2 : Value} {l l2 : List Int} {n n2 n3 : Nat} {W W' : World} (h : RdIn w0 R' v l n W) (h2 : RdIn w0 R v2 l2 n2 W) (h3 : RdIn w0 R v2 l2 n3 W') (fr : Fr R W W') (hne : R' ≠ R) : RdIn w0 R' v l n W' :=
  ⟨h.le, (fr.keep R' (Array.getElem?_eq_some_iff.1 h.blk).1 hne).trans h.blk, Kd.R_mono (Kd.R_step (Kd.R_types h.hR h2.blk (by intro q hq; simp [Kd.int, Kd.scalar] at hq; subst hq; decide)) (fun k hk hlt => fr.keep k hlt hk.2)) (fun _ hk => hk.1), h3.hB⟩
set_option maxHeartbeats 8000000 in
theorem rf_Line1 (w0 : World) (R : Nat) (v : Value) (l : List Int) (n : Nat) (W : World) (h : RdIn w0 R v l n W) (most : Int) (e : Nat) (hm0 : 0 ≤ most) (hn : n + 2 ≤ l.length) (hl : l.length ≤ 1000000) (hem : (e : Int) ≤ most) (hen : n + e + 2 ≤ l.length)
    (hI : ∀ (W1 : World) (c : Nat) (A : Option Addr), Kd.C (Kd.int .u8) W1 A (l.drop n).length (l.drop n) → Below W.heap.size W W1 → W1.cell? ⟨W.heap.size, 0, none⟩ = some (.int .u8 13) → W1.cell? ⟨W.heap.size, 1, none⟩ = some (.int .u8 10) → (l.drop n).length ≤ c →
      Calls Try.prog 14 #[.slice A (l.drop n).length c, .slice (some ⟨W.heap.size, 0, none⟩) 2 2] W1 fun x W' => x = .returned (.int .i64 (e : Int)) ∧ Below W1.heap.size W1 W') :
    Calls Try.prog 7 #[.pointer (some ⟨R, 0, none⟩), .int .i64 most] W fun x W' => x = .returned (.tuple #[.string (strOfNums ((l.drop n).take e)), .int .i64 0]) ∧ RdIn w0 R v l (n + e + 2) W' ∧ Fr R W W' := by
  obtain ⟨A, c, ev, hc, hC⟩ := Kd.R_reads h.hR
  subst ev
  have c0 := rd_cell h.blk 0
  have c1 := rd_cell h.blk 1
  simp at c0 c1
  obtain ⟨i0, hi0, _, hsz, _⟩ := info_parts info5
  have q1 : decide (most < 0) = false := decide_eq_false (by omega)
  have hlen : (l.drop n).length = l.length - n := List.length_drop
  obtain ⟨A', hcut, hA, hC2⟩ := print_drop_of (P := Try.prog) (Value.int .u8) 0 22 5 .i64 Try.underlying22 hi0 hsz A c l n (by omega) (by omega) hc
  rw [Int.toNat_natCast] at hcut hA hC2
  have hlow := Kd.C_of_reads (d := (0 : Int)) (h1 := fun _ => rfl) (hA W (Kd.reads_of_C hC))
  obtain ⟨htk, htr, htc⟩ := print_take_of (P := Try.prog) (Value.int .u8) 0 22 5 .i64 Try.underlying22 hi0 hsz A' (c - n) (l.drop n) (e : Int) (by omega) (by omega) hC2
  rw [Int.toNat_natCast] at htk htr htc
  have hkk := heap_alloc_new W (.cells #[.int .u8 13, .int .u8 10] 5)
  have hba : Below W.heap.size W (W.alloc (.cells #[.int .u8 13, .int .u8 10] 5)) := below_alloc (Below.refl _ _) _
  have i0c : (W.alloc (.cells #[.int .u8 13, .int .u8 10] 5)).drew.cell? ⟨W.heap.size, 0, none⟩ = some (.int .u8 13) := (rd_cell hkk 0).trans rfl
  have i1c : (W.alloc (.cells #[.int .u8 13, .int .u8 10] 5)).drew.cell? ⟨W.heap.size, 1, none⟩ = some (.int .u8 10) := (rd_cell hkk 1).trans rfl
  have HI := hI (W.alloc (.cells #[.int .u8 13, .int .u8 10] 5)).drew (c - n) A' (Kd.C_below hlow hba.drew) hba.drew i0c i1c hC2
  have q2 : decide (most < (e : Int)) = false := decide_eq_false (by omega)
  have q3 : decide ((e : Int) < 0) = false := decide_eq_false (by omega)
  have htl : ((l.drop n).take e).length = e := by rw [List.length_take, hlen]; omega
  rw [htl] at htk htr htc
  rw [hlen] at hcut HI htk htr hlow hA
  have HT := Aside0.mk htr
  have HA := Aside0.mk hA
  have hcast : ((n + e + 2 : Nat) : Int) = (n : Int) + ((e : Int) + 2) := by omega
  have HC := Aside0.mk hcast
  clear hcast
  have HL := Aside0.mk hlow
  generalize hL : l.drop n = L at *
  clear hA hC hlow hC2 htr htc i0c i1c hkk
  go_enter Try.func7, Try.ntmps7
  go_wp2_with fail
  go_region
  go_wp2_with (go_at_call 14; refine HI.mono ?_; rintro x w2 ⟨rfl, hb2⟩; have h2 := h.below (hba.drew.trans ⟨hb2.os, hb2.tape, hb2.output, hb2.size, fun j hj => hb2.block j (Nat.lt_of_lt_of_le hj hba.drew.size)⟩); have d0 := rd_cell h2.blk 0; have d1 := rd_cell h2.blk 1; have d2 := rd_free h2.blk 1; simp at d0 d1; have h3 := h2.set (n + e + 2); have hst := Kd.C_string Try.underlying22 Try.underlying5 Try.underlying9 (c := c - n) (Kd.C_of_reads (d := (0 : Int)) (h1 := fun _ => rfl) (HT.out _ (HA.out _ (Kd.reads_of_C (Kd.R_reads' h3.hR).2.2)))); rw [HC.out] at h3 hst)
  go_ret2
  exact ⟨rfl, h3, (Fr.of_below (hba.drew.trans ⟨hb2.os, hb2.tape, hb2.output, hb2.size, fun j hj => hb2.block j (Nat.lt_of_lt_of_le hj hba.drew.size)⟩)).set 1 _⟩
set_option maxHeartbeats 8000000 in
theorem rf_Line2 (w0 : World) (R : Nat) (v : Value) (l : List Int) (n : Nat) (W : World) (h : RdIn w0 R v l n W) (most : Int) (b : Bool) (hm0 : 0 ≤ most) (hn : n ≤ l.length) (hl : l.length ≤ 1000000)
    (hI : ∀ (W1 : World) (c : Nat) (A : Option Addr), Kd.C (Kd.int .u8) W1 A (l.drop n).length (l.drop n) → Below W.heap.size W W1 → W1.cell? ⟨W.heap.size, 0, none⟩ = some (.int .u8 13) → W1.cell? ⟨W.heap.size, 1, none⟩ = some (.int .u8 10) → (l.drop n).length ≤ c →
      Calls Try.prog 14 #[.slice A (l.drop n).length c, .slice (some ⟨W.heap.size, 0, none⟩) 2 2] W1 fun x W' => x = .returned (.int .i64 (-1)) ∧ Below W1.heap.size W1 W')
    (hG : ∀ (W1 : World) (c : Nat) (A : Option Addr), Kd.C (Kd.int .u8) W1 A (l.drop n).length (l.drop n) → (l.drop n).length ≤ c →
      Calls Try.prog 15 #[.slice A (l.drop n).length c, .int .i64 most] W1 fun x W' => x = .returned (.bool b) ∧ Below W1.heap.size W1 W') :
    Calls Try.prog 7 #[.pointer (some ⟨R, 0, none⟩), .int .i64 most] W fun x W' => x = .returned (.tuple #[.string ⟨#[]⟩, .int .i64 (if b = true then 6 else 5)]) ∧ RdIn w0 R v l n W' ∧ Fr R W W' := by
  obtain ⟨A, c, ev, hc, hC⟩ := Kd.R_reads h.hR
  subst ev
  have HRd := Aside0.mk h
  have c0 := rd_cell h.blk 0
  have c1 := rd_cell h.blk 1
  simp at c0 c1
  obtain ⟨i0, hi0, _, hsz, _⟩ := info_parts info5
  have q1 : decide (most < 0) = false := decide_eq_false (by omega)
  have hlen : (l.drop n).length = l.length - n := List.length_drop
  obtain ⟨A', hcut, hA, hC2⟩ := print_drop_of (P := Try.prog) (Value.int .u8) 0 22 5 .i64 Try.underlying22 hi0 hsz A c l n (by omega) (by omega) hc
  rw [Int.toNat_natCast] at hcut hA hC2
  have hlow := Kd.C_of_reads (d := (0 : Int)) (h1 := fun _ => rfl) (hA W (Kd.reads_of_C hC))
  have hkk := heap_alloc_new W (.cells #[.int .u8 13, .int .u8 10] 5)
  have hba : Below W.heap.size W (W.alloc (.cells #[.int .u8 13, .int .u8 10] 5)) := below_alloc (Below.refl _ _) _
  have i0c : (W.alloc (.cells #[.int .u8 13, .int .u8 10] 5)).drew.cell? ⟨W.heap.size, 0, none⟩ = some (.int .u8 13) := (rd_cell hkk 0).trans rfl
  have i1c : (W.alloc (.cells #[.int .u8 13, .int .u8 10] 5)).drew.cell? ⟨W.heap.size, 1, none⟩ = some (.int .u8 10) := (rd_cell hkk 1).trans rfl
  have HI := hI (W.alloc (.cells #[.int .u8 13, .int .u8 10] 5)).drew (c - n) A' (Kd.C_below hlow hba.drew) hba.drew i0c i1c hC2
  have q2 : decide (most < (-1 : Int)) = false := decide_eq_false (by omega)
  have HG := fun W1 c A => hG W1 c A
  rw [hlen] at hcut HI hlow hA hC2 HG
  have HL := Aside0.mk hlow
  have HA := Aside0.mk hA
  have HC2 := Aside0.mk hC2
  generalize hL : l.drop n = L at *
  clear hA hC hlow hC2 i0c i1c hkk
  go_enter Try.func7, Try.ntmps7
  go_wp2_with fail
  go_region
  cases b with
  | true =>
    go_wp2_with (first | (go_at_call 14; refine HI.mono ?_; rintro x w2 ⟨rfl, hb2⟩; have hlow2 := Kd.C_below HL.out (hba.drew.trans ⟨hb2.os, hb2.tape, hb2.output, hb2.size, fun j hj => hb2.block j (Nat.lt_of_lt_of_le hj hba.drew.size)⟩); have HG2 := HG w2 (c - n) A' hlow2 HC2.out) | (go_at_call 15; refine HG2.mono ?_; rintro x w3 ⟨rfl, hb3⟩))
    go_ret2
    have hbx := (hba.drew.trans ⟨hb2.os, hb2.tape, hb2.output, hb2.size, fun j hj => hb2.block j (Nat.lt_of_lt_of_le hj hba.drew.size)⟩).trans ⟨hb3.os, hb3.tape, hb3.output, hb3.size, fun j hj => hb3.block j (Nat.lt_of_lt_of_le hj (Nat.le_trans hba.drew.size hb2.size))⟩
    refine ⟨rfl, HRd.out.below hbx, Fr.of_below hbx⟩
  | false =>
    go_wp2_with (first | (go_at_call 14; refine HI.mono ?_; rintro x w2 ⟨rfl, hb2⟩; have hlow2 := Kd.C_below HL.out (hba.drew.trans ⟨hb2.os, hb2.tape, hb2.output, hb2.size, fun j hj => hb2.block j (Nat.lt_of_lt_of_le hj hba.drew.size)⟩); have HG2 := HG w2 (c - n) A' hlow2 HC2.out) | (go_at_call 15; refine HG2.mono ?_; rintro x w3 ⟨rfl, hb3⟩))
    go_ret2
    have hbx := (hba.drew.trans ⟨hb2.os, hb2.tape, hb2.output, hb2.size, fun j hj => hb2.block j (Nat.lt_of_lt_of_le hj hba.drew.size)⟩).trans ⟨hb3.os, hb3.tape, hb3.output, hb3.size, fun j hj => hb3.block j (Nat.lt_of_lt_of_le hj (Nat.le_trans hba.drew.size hb2.size))⟩
    refine ⟨rfl, HRd.out.below hbx, Fr.of_below hbx⟩
theorem rf_Line0 (w0 : World) (R : Nat) (v : Value) (l : List Int) (n : Nat) (W : World) (h : RdIn w0 R v l n W) (most : Int) (hm0 : most < 0) :
    Calls Try.prog 7 #[.pointer (some ⟨R, 0, none⟩), .int .i64 most] W fun x W' => x = .returned (.tuple #[.string ⟨#[]⟩, .int .i64 2]) ∧ RdIn w0 R v l n W' ∧ Fr R W W' := by
  have q1 : decide (most < 0) = true := decide_eq_true hm0
  go_enter Try.func7, Try.ntmps7
  go_wp2_with fail
  go_ret2
  exact ⟨rfl, h, Fr.of_below (Below.refl _ _)⟩
set_option maxHeartbeats 8000000 in
/-- A line that is there, but too long. -/
theorem rf_Line3 (w0 : World) (R : Nat) (v : Value) (l : List Int) (n : Nat) (W : World) (h : RdIn w0 R v l n W) (most : Int) (e : Int) (hm0 : 0 ≤ most) (hn : n ≤ l.length) (_hl : l.length ≤ 1000000) (hem : most < e)
    (hI : ∀ (W1 : World) (c : Nat) (A : Option Addr), Kd.C (Kd.int .u8) W1 A (l.drop n).length (l.drop n) → Below W.heap.size W W1 → W1.cell? ⟨W.heap.size, 0, none⟩ = some (.int .u8 13) → W1.cell? ⟨W.heap.size, 1, none⟩ = some (.int .u8 10) → (l.drop n).length ≤ c →
      Calls Try.prog 14 #[.slice A (l.drop n).length c, .slice (some ⟨W.heap.size, 0, none⟩) 2 2] W1 fun x W' => x = .returned (.int .i64 e) ∧ Below W1.heap.size W1 W') :
    Calls Try.prog 7 #[.pointer (some ⟨R, 0, none⟩), .int .i64 most] W fun x W' => x = .returned (.tuple #[.string ⟨#[]⟩, .int .i64 6]) ∧ RdIn w0 R v l n W' ∧ Fr R W W' := by
  obtain ⟨A, c, ev, hc, hC⟩ := Kd.R_reads h.hR
  subst ev
  have HRd := Aside0.mk h
  have c0 := rd_cell h.blk 0
  have c1 := rd_cell h.blk 1
  simp at c0 c1
  obtain ⟨i0, hi0, _, hsz, _⟩ := info_parts info5
  have q1 : decide (most < 0) = false := decide_eq_false (by omega)
  have hlen : (l.drop n).length = l.length - n := List.length_drop
  obtain ⟨A', hcut, hA, hC2⟩ := print_drop_of (P := Try.prog) (Value.int .u8) 0 22 5 .i64 Try.underlying22 hi0 hsz A c l n (by omega) (by omega) hc
  rw [Int.toNat_natCast] at hcut hA hC2
  have hlow := Kd.C_of_reads (d := (0 : Int)) (h1 := fun _ => rfl) (hA W (Kd.reads_of_C hC))
  have hkk := heap_alloc_new W (.cells #[.int .u8 13, .int .u8 10] 5)
  have hba : Below W.heap.size W (W.alloc (.cells #[.int .u8 13, .int .u8 10] 5)) := below_alloc (Below.refl _ _) _
  have i0c : (W.alloc (.cells #[.int .u8 13, .int .u8 10] 5)).drew.cell? ⟨W.heap.size, 0, none⟩ = some (.int .u8 13) := (rd_cell hkk 0).trans rfl
  have i1c : (W.alloc (.cells #[.int .u8 13, .int .u8 10] 5)).drew.cell? ⟨W.heap.size, 1, none⟩ = some (.int .u8 10) := (rd_cell hkk 1).trans rfl
  have HI := hI (W.alloc (.cells #[.int .u8 13, .int .u8 10] 5)).drew (c - n) A' (Kd.C_below hlow hba.drew) hba.drew i0c i1c hC2
  have q2 : decide (most < e) = true := decide_eq_true hem
  rw [hlen] at hcut HI hlow hA hC2
  generalize hL : l.drop n = L at *
  clear hA hC hlow hC2 i0c i1c hkk
  go_enter Try.func7, Try.ntmps7
  go_wp2_with fail
  go_region
  go_wp2_with (go_at_call 14; refine HI.mono ?_; rintro x w2 ⟨rfl, hb2⟩)
  go_ret2
  have hbx := hba.drew.trans ⟨hb2.os, hb2.tape, hb2.output, hb2.size, fun j hj => hb2.block j (Nat.lt_of_lt_of_le hj hba.drew.size)⟩
  exact ⟨rfl, HRd.out.below hbx, Fr.of_below hbx⟩
/-- Line, at every bytes, place and bound. -/
theorem rf_Line (w0 : World) (R : Nat) (v : Value) (l : List Int) (n : Nat) (W : World) (h : RdIn w0 R v l n W) (hm : hasMax W) (most : Int) (hn : n ≤ l.length) (hl : l.length ≤ 1000000) (hb : ∀ x ∈ l, 0 ≤ x ∧ x < 256) :
    Calls Try.prog 7 #[.pointer (some ⟨R, 0, none⟩), .int .i64 most] W fun x W' => x = .returned (.tuple #[.string (lineS l n most).1, .int .i64 (lineS l n most).2.1]) ∧ RdIn w0 R v l (lineS l n most).2.2 W' ∧ Fr R W W' := by
  have hlen : (l.drop n).length = l.length - n := List.length_drop
  have hbd : ∀ x ∈ l.drop n, 0 ≤ x ∧ x < 256 := fun x hx => hb x (List.mem_of_mem_drop hx)
  have hI := fun (W1 : World) (c : Nat) (A : Option Addr) (hC : Kd.C (Kd.int .u8) W1 A (l.drop n).length (l.drop n)) (hbl : Below W.heap.size W W1) (h13 : W1.cell? ⟨W.heap.size, 0, none⟩ = some (.int .u8 13)) (h10 : W1.cell? ⟨W.heap.size, 1, none⟩ = some (.int .u8 10)) (hc : (l.drop n).length ≤ c) => rd_Index W W1 c A (l.drop n) (by omega) hbd hC h13 h10 hc (hm.below hbl)
  unfold lineS
  by_cases c1 : most < 0
  · rw [if_pos c1]
    exact rf_Line0 w0 R v l n W h most c1
  rw [if_neg c1]
  by_cases c2 : most < endOf (l.drop n)
  · rw [if_pos c2]
    exact rf_Line3 w0 R v l n W h most _ (by omega) hn hl c2 hI
  rw [if_neg c2]
  by_cases c3 : endOf (l.drop n) < 0
  · rw [if_pos c3]
    have e1 : endOf (l.drop n) = -1 := by
      have := Lib.index_ge (Lib.bytesOf (l.drop n)) (Lib.bytesOf [13, 10])
      unfold endOf at c3 ⊢
      omega
    rw [e1] at hI
    exact rf_Line2 w0 R v l n W h most (decide (most < (trimN (l.drop n) : Int))) (by omega) hn hl hI (fun W1 c A hC hc => rd_long W1 c A (l.drop n) most (by omega) hC hc)
  · rw [if_neg c3]
    have hr := endOf_room (l := l.drop n) (by omega)
    obtain ⟨e, he⟩ : ∃ e : Nat, endOf (l.drop n) = (e : Int) := ⟨(endOf (l.drop n)).toNat, by omega⟩
    rw [he] at hI c2 hr ⊢
    rw [Int.toNat_natCast] at hr ⊢
    exact rf_Line1 w0 R v l n W h most e (by omega) (by omega) hl (by omega) (by omega) hI

end Go.Proofs.Ytlpibchjcmndjab.P
