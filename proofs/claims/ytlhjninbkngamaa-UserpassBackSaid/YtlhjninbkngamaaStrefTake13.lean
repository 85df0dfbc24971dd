-- Laid by sp.py, a program of this session's, out of the translation and the session's own stand-ins.
import Derived.Test.YtlhjninbkngamaaPx0
import Derived.OneCell
import Derived.LoopN
namespace Go.Proofs.Ytlhjninbkngamaa.P
open Go.RowKit Go.Proofs.YtlhjninbkngamaaW.PrintWords Go.Proofs.YtlhjninbkngamaaW.PrintLast Go.Proofs.YtlhjninbkngamaaW.PrintMore
attribute [local go_sem] max2_int min2_int max_two min_two max_three min_three max_four min_four   -- for this text's walks alone
set_option linter.unusedVariables false
set_option linter.unusedSimpArgs false
set_option linter.unnecessarySimpa false

/-! ### postilionref13.Take: a stand-in: two texts into an array of two, round by round -/
/-- One text at a place: the error, the text, the place behind it. -/
def r13 (l : List Int) (a : Int) : Int × ByteArray × Int :=
  if a ≥ l.length then (5, ⟨#[]⟩, a) else if rd l a = 0 then (6, ⟨#[]⟩, a) else if a + 1 + rd l a > l.length then (5, ⟨#[]⟩, a)
  else (0, strOfNums ((l.take (a + 1 + rd l a).toNat).drop (a + 1).toNat), a + 1 + rd l a)
def r13Take (l : List Int) : ByteArray × ByteArray × Int × Int :=
  if l.length = 0 then (⟨#[]⟩, ⟨#[]⟩, 0, 5) else if rd l 0 ≠ 1 then (⟨#[]⟩, ⟨#[]⟩, 0, 6)
  else if (r13 l 1).1 ≠ 0 then (⟨#[]⟩, ⟨#[]⟩, 0, (r13 l 1).1) else if (r13 l (r13 l 1).2.2).1 ≠ 0 then (⟨#[]⟩, ⟨#[]⟩, 0, (r13 l (r13 l 1).2.2).1)
  else ((r13 l 1).2.1, (r13 l (r13 l 1).2.2).2.1, (r13 l (r13 l 1).2.2).2.2, 0)
def postilionref13_Take.f (l0 : List Int) : Option (ByteArray × ByteArray × Int × Int) := if l0.length ≤ 1000000 then (if l0.all (fun x => decide (0 ≤ x) && decide (x ≤ 255)) = true then some (r13Take l0) else none) else none
theorem r13_rd {l : List Int} (h : l.all (fun x => decide (0 ≤ x) && decide (x ≤ 255)) = true) (i : Int) : 0 ≤ rd l i ∧ rd l i ≤ 255 := by
  unfold rd
  rw [List.getD_eq_getElem?_getD]
  cases e : l[i.toNat]? with
  | none => simp
  | some x =>
    have h2 := List.all_eq_true.1 h x (List.mem_of_getElem? e)
    simp only [Bool.and_eq_true, decide_eq_true_eq] at h2
    exact h2
set_option maxHeartbeats 4000000 in
theorem postilionref13_Take.calls (A0 : Option Addr) (c0 : Nat) (l0 : List Int) (r1 r2 : ByteArray) (r3 r4 : Int) (w : World) (hr0 : Kd.C (Kd.int .u8) w A0 l0.length l0) (hc0 : l0.length ≤ c0) (h : postilionref13_Take.f l0 = some (r1, r2, r3, r4)) :
    Calls Try.prog 12 #[.slice A0 l0.length c0] w fun e w' => e = .returned (.tuple #[.string r1, .string r2, .int .i64 r3, .int .i64 r4]) ∧ Below w.heap.size w w' := by
  unfold postilionref13_Take.f at h
  by_cases hmax : l0.length ≤ 1000000
  case neg => rw [if_neg hmax] at h; exact absurd h (by simp)
  rw [if_pos hmax] at h
  by_cases hl : l0.all (fun x => decide (0 ≤ x) && decide (x ≤ 255)) = true
  · rw [if_pos hl] at h
    have h := Option.some.inj h
    have hB0 := Below.refl w.heap.size w
    unfold r13Take at h
    by_cases c1 : l0.length = 0
    · rw [if_pos c1] at h
      have q1 : ((l0.length : Int) == 0) = true := by simp [c1]
      simp only [Prod.mk.injEq] at h
      obtain ⟨rfl, rfl, rfl, rfl⟩ := h
      go_enter Try.func12, Try.ntmps12
      go_wp2
      refine bodyPost_ret (by simp [results, Try.results12, go_sem]; try rfl) rfl ?_
      exact ⟨rfl, hB0⟩
    rw [if_neg c1] at h
    have q1 : ((l0.length : Int) == 0) = false := by simp only [beq_eq_false_iff_ne]; omega
    obtain ⟨ad, rfl, hx0⟩ := Kd.at_int hr0 0 (by omega) (by omega)
    rw [show ((0 : Int)).toNat = 0 from rfl, Addr.add_zero'] at hx0
    have p0 : (0 < l0.length) = True := eq_true (by omega)
    by_cases c2 : rd l0 0 ≠ 1
    · rw [if_pos c2] at h
      have q2 : (rd l0 0 != 1) = true := bne_iff_ne.mpr c2
      simp only [Prod.mk.injEq] at h
      obtain ⟨rfl, rfl, rfl, rfl⟩ := h
      go_enter Try.func12, Try.ntmps12
      go_wp2
      refine bodyPost_ret (by simp [results, Try.results12, go_sem]; try rfl) rfl ?_
      exact ⟨rfl, hB0⟩
    rw [if_neg c2] at h
    have q2 : (rd l0 0 != 1) = false := bne_eq_false_iff_eq.mpr (by simpa using c2)
    have hWB : ∀ x y : ByteArray, Below w.heap.size w (w.alloc (.cells #[.string x, .string y] 42)) := fun x y => below_alloc hB0 _
    have hWh : ∀ x y : ByteArray, (w.alloc (.cells #[.string x, .string y] 42)).heap[w.heap.size]? = some (.cells #[.string x, .string y] 42 (0, 0)) := fun x y => heap_alloc_new w _
    have hW0 : ∀ x y : ByteArray, (w.alloc (.cells #[.string x, .string y] 42)).cell? ⟨w.heap.size, 0, none⟩ = some (.string x) := fun x y => by unfold World.cell?; rw [hWh]; rfl
    have hW1 : ∀ x y : ByteArray, (w.alloc (.cells #[.string x, .string y] 42)).cell? ⟨w.heap.size, 1, none⟩ = some (.string y) := fun x y => by unfold World.cell?; rw [hWh]; rfl
    have hF0 : ∀ x y : ByteArray, (w.alloc (.cells #[.string x, .string y] 42)).frozen? ⟨w.heap.size, 0, none⟩ = false := fun x y => by unfold World.frozen?; rw [hWh]; rfl
    have hF1 : ∀ x y : ByteArray, (w.alloc (.cells #[.string x, .string y] 42)).frozen? ⟨w.heap.size, 1, none⟩ = false := fun x y => by unfold World.frozen?; rw [hWh]; rfl
    have hcell : ∀ (i : Int) (x y : ByteArray), 0 ≤ i → i < l0.length → (w.alloc (.cells #[.string x, .string y] 42)).cell? (ad.add i.toNat) = some (.int .u8 (rd l0 i)) := fun i x y h0 h1 => by
      obtain ⟨ad2, hA, hx⟩ := Kd.at_int (Kd.C_below hr0 (hWB x y)) i h0 h1
      cases hA
      exact hx
    clear hWh
    have hr1 := r13_rd hl 1
    by_cases c3 : 1 ≥ (l0.length : Int)
    · have e3 : r13 l0 1 = (5, ⟨#[]⟩, 1) := by unfold r13; rw [if_pos c3]
      rw [e3] at h
      simp only at h
      rw [if_pos (by decide)] at h
      have q3 : decide ((l0.length : Int) ≤ 1) = true := decide_eq_true (by omega)
      have q3' : decide (l0.length ≤ 1) = true := decide_eq_true (by omega)
      simp only [Prod.mk.injEq] at h
      obtain ⟨rfl, rfl, rfl, rfl⟩ := h
      go_enter Try.func12, Try.ntmps12
      go_wp2
      refine wp_loop_rounds 3 ?_
      rw [rounds_succ]
      go_wp2
      refine bodyPost_ret (by simp [results, Try.results12, go_sem]; try rfl) rfl ?_
      exact ⟨rfl, hWB _ _⟩
    have q3 : decide ((l0.length : Int) ≤ 1) = false := decide_eq_false (by omega)
    have q3' : decide (l0.length ≤ 1) = false := decide_eq_false (by omega)
    have p1 : (1 < l0.length) = True := eq_true (by omega)
    have p1i : (1 < (l0.length : Int)) = True := eq_true (by omega)
    have hx1 : ∀ x y : ByteArray, (w.alloc (.cells #[.string x, .string y] 42)).cell? ⟨ad.block, ad.off + 1, none⟩ = some (.int .u8 (rd l0 1)) := fun x y => by
      have := hcell 1 x y (by omega) (by omega)
      simpa [Addr.add] using this
    by_cases c4 : rd l0 1 = 0
    · have e4 : r13 l0 1 = (6, ⟨#[]⟩, 1) := by unfold r13; rw [if_neg c3, if_pos c4]
      rw [e4] at h
      simp only at h
      rw [if_pos (by decide)] at h
      have q4 : (rd l0 1 == 0) = true := beq_iff_eq.mpr c4
      simp only [Prod.mk.injEq] at h
      obtain ⟨rfl, rfl, rfl, rfl⟩ := h
      go_enter Try.func12, Try.ntmps12
      go_wp2
      refine wp_loop_rounds 3 ?_
      rw [rounds_succ]
      go_wp2
      refine bodyPost_ret (by simp [results, Try.results12, go_sem]; try rfl) rfl ?_
      exact ⟨rfl, hWB _ _⟩
    have q4 : (rd l0 1 == 0) = false := beq_eq_false_iff_ne.mpr c4
    by_cases c5 : 1 + 1 + rd l0 1 > l0.length
    · have e5 : r13 l0 1 = (5, ⟨#[]⟩, 1) := by unfold r13; rw [if_neg c3, if_neg c4, if_pos c5]
      rw [e5] at h
      simp only at h
      rw [if_pos (by decide)] at h
      have q5 : decide ((l0.length : Int) < 2 + rd l0 1) = true := decide_eq_true (by omega)
      simp only [Prod.mk.injEq] at h
      obtain ⟨rfl, rfl, rfl, rfl⟩ := h
      go_enter Try.func12, Try.ntmps12
      go_wp2
      refine wp_loop_rounds 3 ?_
      rw [rounds_succ]
      go_wp2
      refine bodyPost_ret (by simp [results, Try.results12, go_sem]; try rfl) rfl ?_
      exact ⟨rfl, hWB _ _⟩
    have q5 : decide ((l0.length : Int) < 2 + rd l0 1) = false := decide_eq_false (by omega)
    have hstr1 : ∀ x y : ByteArray, (convert 22 9 (.slice (some ⟨ad.block, ad.off + 2, none⟩) ((2 + rd l0 1).toNat - 2) (c0 - 2))).run Try.prog (w.alloc (.cells #[.string x, .string y] 42)) = .ok (.string (strOfNums ((l0.take (2 + rd l0 1).toNat).drop 2))) (w.alloc (.cells #[.string x, .string y] 42)) := fun x y => by
      have := Kd.C_mid (c := c0) (lo := 2) (hi := (2 + rd l0 1).toNat) (Kd.C_below hr0 (hWB x y)) (by omega) (by omega) hc0
      have hlen : ((l0.take (2 + rd l0 1).toNat).drop 2).length = (2 + rd l0 1).toNat - 2 := by rw [List.length_drop, List.length_take]; omega
      rw [if_neg (by omega), hlen] at this
      exact Kd.C_string Try.underlying22 Try.underlying5 Try.underlying9 this
    obtain ⟨a, ha⟩ : ∃ a : Int, a = 2 + rd l0 1 := ⟨_, rfl⟩
    obtain ⟨t1, ht1⟩ : ∃ t1 : ByteArray, t1 = strOfNums ((l0.take (2 + rd l0 1).toNat).drop 2) := ⟨_, rfl⟩
    have e5 : r13 l0 1 = (0, t1, a) := by
      unfold r13
      rw [if_neg c3, if_neg c4, if_neg c5, ht1, ha]
      rfl
    rw [← ht1] at hstr1
    rw [e5] at h
    simp only at h
    rw [if_neg (by decide)] at h
    have HA := Aside0.mk ha
    have hb0 : 0 ≤ a := by omega
    have hb1 : a ≤ l0.length := by omega
    clear ht1 e5 ha
    have hr2 := r13_rd hl a
    by_cases c6 : a ≥ (l0.length : Int)
    · have e6 : r13 l0 a = (5, ⟨#[]⟩, a) := by unfold r13; rw [if_pos c6]
      rw [e6] at h
      simp only at h
      rw [if_pos (by decide)] at h
      have q6 : decide ((l0.length : Int) ≤ a) = true := decide_eq_true (by omega)
      simp only [Prod.mk.injEq] at h
      obtain ⟨rfl, rfl, rfl, rfl⟩ := h
      go_enter Try.func12, Try.ntmps12
      go_wp2
      refine wp_loop_rounds 3 ?_
      rw [rounds_succ]
      go_wp2
      rw [show (2 : Int) + rd l0 1 = a from HA.out.symm]
      rw [rounds_succ]
      go_wp2
      refine bodyPost_ret (by simp [results, Try.results12, go_sem]; try rfl) rfl ?_
      exact ⟨rfl, hWB _ _⟩
    have q6 : decide ((l0.length : Int) ≤ a) = false := decide_eq_false (by omega)
    have hxa : ∀ x y : ByteArray, (w.alloc (.cells #[.string x, .string y] 42)).cell? (ad.add a.toNat) = some (.int .u8 (rd l0 a)) := fun x y => hcell a x y hb0 (by omega)
    have p6 : (a < (l0.length : Int)) = True := eq_true (by omega)
    have p6n : a.toNat < l0.length := by omega
    by_cases c7 : rd l0 a = 0
    · have e7 : r13 l0 a = (6, ⟨#[]⟩, a) := by unfold r13; rw [if_neg c6, if_pos c7]
      rw [e7] at h
      simp only at h
      rw [if_pos (by decide)] at h
      have q7 : (rd l0 a == 0) = true := beq_iff_eq.mpr c7
      simp only [Prod.mk.injEq] at h
      obtain ⟨rfl, rfl, rfl, rfl⟩ := h
      go_enter Try.func12, Try.ntmps12
      go_wp2
      refine wp_loop_rounds 3 ?_
      rw [rounds_succ]
      go_wp2
      rw [show (2 : Int) + rd l0 1 = a from HA.out.symm]
      rw [rounds_succ]
      go_wp2
      refine bodyPost_ret (by simp [results, Try.results12, go_sem]; try rfl) rfl ?_
      exact ⟨rfl, hWB _ _⟩
    have q7 : (rd l0 a == 0) = false := beq_eq_false_iff_ne.mpr c7
    by_cases c8 : a + 1 + rd l0 a > l0.length
    · have e8 : r13 l0 a = (5, ⟨#[]⟩, a) := by unfold r13; rw [if_neg c6, if_neg c7, if_pos c8]
      rw [e8] at h
      simp only at h
      rw [if_pos (by decide)] at h
      have q8 : decide ((l0.length : Int) < a + 1 + rd l0 a) = true := decide_eq_true (by omega)
      simp only [Prod.mk.injEq] at h
      obtain ⟨rfl, rfl, rfl, rfl⟩ := h
      go_enter Try.func12, Try.ntmps12
      go_wp2
      refine wp_loop_rounds 3 ?_
      rw [rounds_succ]
      go_wp2
      rw [show (2 : Int) + rd l0 1 = a from HA.out.symm]
      rw [rounds_succ]
      go_wp2
      refine bodyPost_ret (by simp [results, Try.results12, go_sem]; try rfl) rfl ?_
      exact ⟨rfl, hWB _ _⟩
    have q8 : decide ((l0.length : Int) < a + 1 + rd l0 a) = false := decide_eq_false (by omega)
    obtain ⟨i0, hi0, _, hsz, _⟩ := info_parts info5
    obtain ⟨A2, hcut2, hA2, hC2⟩ := print_mid_of (P := Try.prog) (Value.int .u8) 0 22 5 .i64 .i64 Try.underlying22 hi0 hsz (some ad) c0 l0 (a + 1) (a + 1 + rd l0 a) (by omega) (by omega) (by omega) hc0
    have hlen2 : ((l0.take (a + 1 + rd l0 a).toNat).drop (a + 1).toNat).length = (rd l0 a).toNat := by rw [List.length_drop, List.length_take]; omega
    rw [hlen2] at hcut2
    have hstr2 : ∀ x y : ByteArray, (convert 22 9 (.slice A2 (rd l0 a).toNat (c0 - (a + 1).toNat))).run Try.prog (w.alloc (.cells #[.string x, .string y] 42)) = .ok (.string (strOfNums ((l0.take (a + 1 + rd l0 a).toNat).drop (a + 1).toNat))) (w.alloc (.cells #[.string x, .string y] 42)) := fun x y => by
      rw [← hlen2]
      exact Kd.C_string Try.underlying22 Try.underlying5 Try.underlying9 (Kd.C_of_reads (h1 := fun _ => rfl) (hA2 _ (Kd.reads_of_C (Kd.C_below hr0 (hWB x y)))))
    have e8 : r13 l0 a = (0, strOfNums ((l0.take (a + 1 + rd l0 a).toNat).drop (a + 1).toNat), a + 1 + rd l0 a) := by unfold r13; rw [if_neg c6, if_neg c7, if_neg c8]
    rw [e8] at h
    simp only at h
    rw [if_neg (by decide)] at h
    clear e8 hA2 hC2 hsz hi0
    simp only [Prod.mk.injEq] at h
    obtain ⟨rfl, rfl, rfl, rfl⟩ := h
    go_enter Try.func12, Try.ntmps12
    go_wp2
    refine wp_loop_rounds 3 ?_
    rw [rounds_succ]
    go_wp2
    rw [show (2 : Int) + rd l0 1 = a from HA.out.symm]
    rw [rounds_succ]
    go_wp2
    rw [rounds_succ]
    go_wp2
    go_region
    all_goals (try go_wp2)
    all_goals (refine bodyPost_ret (by simp [results, Try.results12, go_sem]; try rfl) rfl ?_)
    all_goals (exact ⟨rfl, below_drew (hWB _ _)⟩)
  · rw [if_neg hl] at h
    exact absurd h (by simp)

end Go.Proofs.Ytlhjninbkngamaa.P
