-- Laid by sp.py, a program of this session's, out of the translation and the session's own stand-ins.
import Derived.Test.YtlhjninbkngamaaPx0
import Derived.OneCell
import Derived.Deep.RegionHeld3
namespace Go.Proofs.Ytlhjninbkngamaa.P
open Go.RowKit Go.Proofs.YtlhjninbkngamaaW.PrintWords Go.Proofs.YtlhjninbkngamaaW.PrintLast Go.Proofs.YtlhjninbkngamaaW.PrintMore
attribute [local go_sem] max2_int min2_int max_two min_two max_three min_three max_four min_four   -- for this text's walks alone
set_option linter.unusedVariables false
set_option linter.unusedSimpArgs false
set_option linter.unnecessarySimpa false

/-! ### userpass.Take: a stand-in: two closures over three variables -/
/-- The next byte: what it is, whether there is one; the error and the place behind it. -/
def upNext (l : List Int) (e a : Int) : Int × Bool × Int × Int := if e = 0 then (if a < l.length then (rd l a, true, 0, a + 1) else (0, false, 5, a)) else (0, false, e, a)
/-- The next text. -/
def upText (l : List Int) (e a : Int) : ByteArray × Int × Int :=
  let n := upNext l e a
  if n.2.1 = false then (⟨#[]⟩, n.2.2.1, n.2.2.2) else if n.1 = 0 then (⟨#[]⟩, 6, n.2.2.2) else if (l.length : Int) - n.2.2.2 < n.1 then (⟨#[]⟩, 5, n.2.2.2)
  else (strOfNums ((l.take (n.2.2.2 + n.1).toNat).drop n.2.2.2.toNat), n.2.2.1, n.2.2.2 + n.1)
/-- The whole. -/
def upTake (l : List Int) : ByteArray × ByteArray × Int × Int :=
  let n := upNext l 0 0
  let t := upText l (if n.2.1 = true ∧ n.1 ≠ 1 then 6 else n.2.2.1) n.2.2.2
  let u := upText l t.2.1 t.2.2
  if u.2.1 = 0 then (t.1, u.1, u.2.2, 0) else (⟨#[]⟩, ⟨#[]⟩, 0, u.2.1)
def userpass_Take.f (l0 : List Int) : Option (ByteArray × ByteArray × Int × Int) := if l0.all (fun x => decide (0 ≤ x) && decide (x ≤ 255)) = true then some (upTake l0) else none
theorem up_rd {l : List Int} (h : l.all (fun x => decide (0 ≤ x) && decide (x ≤ 255)) = true) (i : Int) : 0 ≤ rd l i ∧ rd l i ≤ 255 := by
  unfold rd
  rw [List.getD_eq_getElem?_getD]
  cases e : l[i.toNat]? with
  | none => simp
  | some x =>
    have h2 := List.all_eq_true.1 h x (List.mem_of_getElem? e)
    simp only [Bool.and_eq_true, decide_eq_true_eq] at h2
    exact h2
/-- The three variables, the closure, and what lies below. -/
structure UpIn (w0 : World) (A0 : Option Addr) (c0 : Nat) (l : List Int) (Be Ba Bb Bn : Nat) (e a : Int) (W : World) : Prop where
  le : w0.heap.size ≤ Be
  la : w0.heap.size ≤ Ba
  he : W.heap[Be]? = some (.cells #[.int .i64 e] 25 (0, 0))
  ha : W.heap[Ba]? = some (.cells #[.int .i64 a] 3 (0, 0))
  hb : W.heap[Bb]? = some (.cells #[.slice A0 l.length c0] 22 (0, 0))
  hn : W.heap[Bn]? = some (.cells #[.func (.func 16) #[] #[.pointer (some ⟨Be, 0, none⟩), .pointer (some ⟨Ba, 0, none⟩), .pointer (some ⟨Bb, 0, none⟩)]] 43 (0, 0))
  hB : Below w0.heap.size w0 W
theorem UpIn.ne {w0 : World} {A0 : Option Addr} {c0 : Nat} {l : List Int} {Be Ba Bb Bn : Nat} {e a : Int} {W : World} (h : UpIn w0 A0 c0 l Be Ba Bb Bn e a W) : Be ≠ Ba ∧ Be ≠ Bb ∧ Be ≠ Bn ∧ Ba ≠ Bb ∧ Ba ≠ Bn := by
  refine ⟨?_, ?_, ?_, ?_, ?_⟩ <;> rintro rfl
  · have := h.he.symm.trans h.ha; simp at this
  · have := h.he.symm.trans h.hb; simp at this
  · have := h.he.symm.trans h.hn; simp at this
  · have := h.ha.symm.trans h.hb; simp at this
  · have := h.ha.symm.trans h.hn; simp at this
theorem UpIn.drewN {w0 : World} {A0 : Option Addr} {c0 : Nat} {l : List Int} {Be Ba Bb Bn : Nat} {e a : Int} {W : World} (h : UpIn w0 A0 c0 l Be Ba Bb Bn e a W) (n : Nat) : UpIn w0 A0 c0 l Be Ba Bb Bn e a (W.drewN n) :=
  ⟨h.le, h.la, h.he, h.ha, h.hb, h.hn, pw_below_drewN h.hB n⟩
theorem UpIn.setE {w0 : World} {A0 : Option Addr} {c0 : Nat} {l : List Int} {Be Ba Bb Bn : Nat} {e a : Int} {W : World} (h : UpIn w0 A0 c0 l Be Ba Bb Bn e a W) (e2 : Int) : UpIn w0 A0 c0 l Be Ba Bb Bn e2 a (W.setCell ⟨Be, 0, none⟩ (.int .i64 e2)) := by
  obtain ⟨n1, n2, n3, n4, n5⟩ := h.ne
  exact ⟨h.le, h.la, one_setCell h.he, (Below.heap_setCell _ _ _ _ n1.symm).trans h.ha, (Below.heap_setCell _ _ _ _ n2.symm).trans h.hb, (Below.heap_setCell _ _ _ _ n3.symm).trans h.hn, h.hB.setCell h.le _⟩
theorem UpIn.setA {w0 : World} {A0 : Option Addr} {c0 : Nat} {l : List Int} {Be Ba Bb Bn : Nat} {e a : Int} {W : World} (h : UpIn w0 A0 c0 l Be Ba Bb Bn e a W) (a2 : Int) : UpIn w0 A0 c0 l Be Ba Bb Bn e a2 (W.setCell ⟨Ba, 0, none⟩ (.int .i64 a2)) := by
  obtain ⟨n1, n2, n3, n4, n5⟩ := h.ne
  exact ⟨h.le, h.la, (Below.heap_setCell _ _ _ _ n1).trans h.he, one_setCell h.ha, (Below.heap_setCell _ _ _ _ n4.symm).trans h.hb, (Below.heap_setCell _ _ _ _ n5.symm).trans h.hn, h.hB.setCell h.la _⟩
set_option maxHeartbeats 2000000 in
theorem up_next (w0 : World) (A0 : Option Addr) (c0 : Nat) (l : List Int) (hr0 : Kd.C (Kd.int .u8) w0 A0 l.length l) (Be Ba Bb Bn : Nat) (e a : Int) (ha0 : 0 ≤ a) (ha1 : a ≤ l.length) (W : World) (h : UpIn w0 A0 c0 l Be Ba Bb Bn e a W) :
    Calls Try.prog 16 #[.pointer (some ⟨Be, 0, none⟩), .pointer (some ⟨Ba, 0, none⟩), .pointer (some ⟨Bb, 0, none⟩)] W fun x W' => x = .returned (.tuple #[.int .u8 (upNext l e a).1, .bool (upNext l e a).2.1]) ∧ UpIn w0 A0 c0 l Be Ba Bb Bn (upNext l e a).2.2.1 (upNext l e a).2.2.2 W' := by
  have hmax := Kd.C_max hr0
  have ce := cell_of_one h.he
  have fe := free_of_one h.he
  have ca := cell_of_one h.ha
  have fa := free_of_one h.ha
  have cb := cell_of_one h.hb
  unfold upNext
  by_cases he : e = 0
  · subst he
    rw [if_pos rfl]
    by_cases hal : a < l.length
    · rw [if_pos hal]
      obtain ⟨ad, hA, hx0⟩ := Kd.at_int hr0 a ha0 hal
      subst hA
      have h2 := h.setA (a + 1)
      have ca2 := cell_of_one h2.ha
      have cb2 := cell_of_one h2.hb
      have cx : (W.setCell ⟨Ba, 0, none⟩ (.int .i64 (a + 1))).cell? (ad.add a.toNat) = some (.int .u8 (rd l a)) := by
        have hC := Kd.C_below hr0 h2.hB
        obtain ⟨ad2, hA2, hx2⟩ := Kd.at_int hC a ha0 hal
        cases hA2
        exact hx2
      have q1 : decide ((l.length : Int) ≤ a) = false := decide_eq_false (by omega)
      have q2 : a.toNat < l.length := by omega
      go_enter Try.func16, Try.ntmps16
      go_wp2
      go_ret2
      exact ⟨rfl, h2⟩
    · rw [if_neg hal]
      have h2 := h.setE 5
      have ce2 := cell_of_one h2.he
      have q1 : decide ((l.length : Int) ≤ a) = true := decide_eq_true (by omega)
      go_enter Try.func16, Try.ntmps16
      go_wp2
      go_ret2
      exact ⟨rfl, h2⟩
  · rw [if_neg he]
    have q1 : (e == 0) = false := beq_eq_false_iff_ne.mpr he
    have q2 : (e != 0) = true := bne_iff_ne.mpr he
    go_enter Try.func16, Try.ntmps16
    go_wp2
    go_ret2
    exact ⟨rfl, h⟩
theorem upNext_in {l : List Int} (hl : l.all (fun x => decide (0 ≤ x) && decide (x ≤ 255)) = true) {e a : Int} (ha0 : 0 ≤ a) (ha1 : a ≤ l.length) :
    0 ≤ (upNext l e a).1 ∧ (upNext l e a).1 ≤ 255 ∧ 0 ≤ (upNext l e a).2.2.2 ∧ (upNext l e a).2.2.2 ≤ l.length := by
  have := up_rd hl a
  unfold upNext
  by_cases he : e = 0
  · rw [if_pos he]
    by_cases hal : a < l.length
    · rw [if_pos hal]; exact ⟨this.1, this.2, by simp only; omega, by simp only; omega⟩
    · rw [if_neg hal]; exact ⟨by omega, by omega, ha0, ha1⟩
  · rw [if_neg he]; exact ⟨by omega, by omega, ha0, ha1⟩
theorem upText_in {l : List Int} (hl : l.all (fun x => decide (0 ≤ x) && decide (x ≤ 255)) = true) {e a : Int} (ha0 : 0 ≤ a) (ha1 : a ≤ l.length) : 0 ≤ (upText l e a).2.2 ∧ (upText l e a).2.2 ≤ l.length := by
  obtain ⟨h0, h1, h2, h3⟩ := upNext_in hl (e := e) ha0 ha1
  unfold upText
  by_cases c1 : (upNext l e a).2.1 = false
  · rw [if_pos c1]; exact ⟨h2, h3⟩
  rw [if_neg c1]
  by_cases c2 : (upNext l e a).1 = 0
  · rw [if_pos c2]; exact ⟨h2, h3⟩
  rw [if_neg c2]
  by_cases c3 : (l.length : Int) - (upNext l e a).2.2.2 < (upNext l e a).1
  · rw [if_pos c3]; exact ⟨h2, h3⟩
  rw [if_neg c3]
  exact ⟨by simp only; omega, by simp only; omega⟩
set_option maxHeartbeats 4000000 in
theorem up_text (w0 : World) (A0 : Option Addr) (c0 : Nat) (l : List Int) (hl : l.all (fun x => decide (0 ≤ x) && decide (x ≤ 255)) = true) (hr0 : Kd.C (Kd.int .u8) w0 A0 l.length l) (hc0 : l.length ≤ c0) (Be Ba Bb Bn : Nat) (e a : Int) (ha0 : 0 ≤ a) (ha1 : a ≤ l.length) (W : World) (h : UpIn w0 A0 c0 l Be Ba Bb Bn e a W) :
    Calls Try.prog 17 #[.pointer (some ⟨Bn, 0, none⟩), .pointer (some ⟨Be, 0, none⟩), .pointer (some ⟨Bb, 0, none⟩), .pointer (some ⟨Ba, 0, none⟩)] W fun x W' => x = .returned (.string (upText l e a).1) ∧ UpIn w0 A0 c0 l Be Ba Bb Bn (upText l e a).2.1 (upText l e a).2.2 W' := by
  have hmax := Kd.C_max hr0
  have cn := cell_of_one h.hn
  have hN := fun W (h : UpIn w0 A0 c0 l Be Ba Bb Bn e a W) => up_next w0 A0 c0 l hr0 Be Ba Bb Bn e a ha0 ha1 W h
  obtain ⟨b0, b1, b2, b3⟩ := upNext_in hl (e := e) ha0 ha1
  unfold upText
  generalize upNext l e a = n at hN b0 b1 b2 b3 ⊢
  obtain ⟨v, is, e1, a1⟩ := n
  simp only at hN b0 b1 b2 b3 ⊢
  cases is with
  | false =>
    rw [if_pos rfl]
    go_enter Try.func17, Try.ntmps17
    go_wp2_with (go_at_call 16; refine (hN _ h).mono ?_; rintro x W1 ⟨rfl, h1⟩)
    go_ret
    exact ⟨rfl, h1⟩
  | true =>
    rw [if_neg (by simp)]
    by_cases c2 : v = 0
    · rw [if_pos c2]
      have q2 : (v == 0) = true := beq_iff_eq.mpr c2
      go_enter Try.func17, Try.ntmps17
      go_wp2_with (go_at_call 16; refine (hN _ h).mono ?_; rintro x W1 ⟨rfl, h1⟩; have ce := cell_of_one h1.he; have fe := free_of_one h1.he)
      go_ret
      exact ⟨rfl, h1.setE 6⟩
    rw [if_neg c2]
    have q2 : (v == 0) = false := beq_eq_false_iff_ne.mpr c2
    by_cases c3 : (l.length : Int) - a1 < v
    · rw [if_pos c3]
      have q3 : decide ((l.length : Int) - a1 < v) = true := decide_eq_true c3
      go_enter Try.func17, Try.ntmps17
      go_wp2_with (go_at_call 16; refine (hN _ h).mono ?_; rintro x W1 ⟨rfl, h1⟩; have ce := cell_of_one h1.he; have fe := free_of_one h1.he; have ca := cell_of_one h1.ha; have cb := cell_of_one h1.hb)
      go_ret
      exact ⟨rfl, h1.setE 5⟩
    rw [if_neg c3]
    have q3 : decide ((l.length : Int) - a1 < v) = false := decide_eq_false c3
    obtain ⟨i0, hi0, _, hsz, _⟩ := info_parts info5
    obtain ⟨A', hcut, hA, hC⟩ := print_mid_of (P := Try.prog) (Value.int .u8) 0 22 5 .i64 .i64 Try.underlying22 hi0 hsz A0 c0 l a1 (a1 + v) b2 (by omega) (by omega) hc0
    have hlen : ((l.take (a1 + v).toNat).drop a1.toNat).length = v.toNat := by rw [List.length_drop, List.length_take]; omega
    rw [hlen] at hcut
    have hstr : ∀ W1, UpIn w0 A0 c0 l Be Ba Bb Bn e1 a1 W1 → (convert 22 9 (.slice A' v.toNat (c0 - a1.toNat))).run Try.prog (W1.setCell ⟨Ba, 0, none⟩ (.int .i64 (a1 + v))) = .ok (.string (strOfNums ((l.take (a1 + v).toNat).drop a1.toNat))) (W1.setCell ⟨Ba, 0, none⟩ (.int .i64 (a1 + v))) := fun W1 h1 => by
      rw [← hlen]
      exact Kd.C_string Try.underlying22 Try.underlying5 Try.underlying9 (Kd.C_of_reads (h1 := fun _ => rfl) (hA _ (Kd.reads_of_C (Kd.C_below hr0 (h1.setA (a1 + v)).hB))))
    go_enter Try.func17, Try.ntmps17
    go_wp2_with (go_at_call 16; refine (hN _ h).mono ?_; rintro x W1 ⟨rfl, h1⟩; have ce := cell_of_one h1.he; have fe := free_of_one h1.he; have ca := cell_of_one h1.ha; have cb := cell_of_one h1.hb; have fa := free_of_one h1.ha; have cb2 := cell_of_one (h1.setA (a1 + v)).hb; have ca2 := cell_of_one (h1.setA (a1 + v)).ha; have hst := hstr W1 h1)
    go_ret
    exact ⟨rfl, h1.setA (a1 + v)⟩
theorem up_in (w : World) (A0 : Option Addr) (c0 : Nat) (l : List Int) (o : Value) :
    (o = (.func (.func 16) #[] #[.pointer (some ⟨w.heap.size + 1, 0, none⟩), .pointer (some ⟨w.heap.size + 1 + 1, 0, none⟩), .pointer (some ⟨w.heap.size, 0, none⟩)]) → UpIn w A0 c0 l (w.heap.size + 1) (w.heap.size + 1 + 1) w.heap.size (w.heap.size + 1 + 1 + 1) 0 0 ((((w.alloc (.cells #[.slice A0 l.length c0] 22)).alloc (.cells #[.int .i64 0] 25)).alloc (.cells #[.int .i64 0] 3)).alloc (.cells #[o] 43))) ∧
    ((((w.alloc (.cells #[.slice A0 l.length c0] 22)).alloc (.cells #[.int .i64 0] 25)).alloc (.cells #[.int .i64 0] 3)).alloc (.cells #[o] 43)).heap[w.heap.size + 1 + 1 + 1]? = some (.cells #[o] 43 (0, 0)) := by
  have k0 := heap_alloc_new w (.cells #[.slice A0 l.length c0] 22)
  have s1 : (w.alloc (.cells #[.slice A0 l.length c0] 22)).heap.size = w.heap.size + 1 := Array.size_push _
  have b1 : Below w.heap.size w (w.alloc (.cells #[.slice A0 l.length c0] 22)) := below_alloc (Below.refl _ _) _
  generalize w.alloc (.cells #[.slice A0 l.length c0] 22) = w1 at k0 s1 b1 ⊢
  have k1 := heap_alloc_new w1 (.cells #[.int .i64 0] 25)
  have k0 := blk_alloc k0 (.cells #[.int .i64 0] 25)
  have s2 : (w1.alloc (.cells #[.int .i64 0] 25)).heap.size = w.heap.size + 1 + 1 := (Array.size_push _).trans (by rw [s1])
  have b2 := below_alloc b1 (.cells #[.int .i64 0] 25)
  rw [s1] at k1
  generalize w1.alloc (.cells #[.int .i64 0] 25) = w2 at k0 k1 s2 b2 ⊢
  have k2 := heap_alloc_new w2 (.cells #[.int .i64 0] 3)
  have k0 := blk_alloc k0 (.cells #[.int .i64 0] 3)
  have k1 := blk_alloc k1 (.cells #[.int .i64 0] 3)
  have s3 : (w2.alloc (.cells #[.int .i64 0] 3)).heap.size = w.heap.size + 1 + 1 + 1 := (Array.size_push _).trans (by rw [s2])
  have b3 := below_alloc b2 (.cells #[.int .i64 0] 3)
  rw [s2] at k2
  generalize w2.alloc (.cells #[.int .i64 0] 3) = w3 at k0 k1 k2 s3 b3 ⊢
  have k3 := heap_alloc_new w3 (.cells #[o] 43)
  have k0 := blk_alloc k0 (.cells #[o] 43)
  have k1 := blk_alloc k1 (.cells #[o] 43)
  have k2 := blk_alloc k2 (.cells #[o] 43)
  have b4 := below_alloc b3 (.cells #[o] 43)
  rw [s3] at k3
  generalize w3.alloc (.cells #[o] 43) = w4 at k0 k1 k2 k3 b4 ⊢
  exact ⟨fun ho => ⟨by omega, by omega, k1, k2, k0, ho ▸ k3, b4⟩, k3⟩
theorem up_orS (e : Int) (s : ByteArray) (W : World) : Calls Try.prog 18 #[.int .i64 e, .string s] W fun x W' => x = .returned (.string (if e = 0 then s else ⟨#[]⟩)) ∧ W' = W := by
  by_cases he : e = 0
  · have q : (e != 0) = false := bne_eq_false_iff_eq.mpr he
    rw [if_pos he]
    go_enter Try.func18, Try.ntmps18
    go_wp2
    go_ret
    exact ⟨rfl, rfl⟩
  · have q : (e != 0) = true := bne_iff_ne.mpr he
    rw [if_neg he]
    go_enter Try.func18, Try.ntmps18
    go_wp2
    go_ret
    exact ⟨rfl, rfl⟩
theorem up_orI (e s : Int) (W : World) : Calls Try.prog 19 #[.int .i64 e, .int .i64 s] W fun x W' => x = .returned (.int .i64 (if e = 0 then s else 0)) ∧ W' = W := by
  by_cases he : e = 0
  · have q : (e != 0) = false := bne_eq_false_iff_eq.mpr he
    rw [if_pos he]
    go_enter Try.func19, Try.ntmps19
    go_wp2
    go_ret
    exact ⟨rfl, rfl⟩
  · have q : (e != 0) = true := bne_iff_ne.mpr he
    rw [if_neg he]
    go_enter Try.func19, Try.ntmps19
    go_wp2
    go_ret
    exact ⟨rfl, rfl⟩
theorem up_store_func {P : Program} {w : World} {a : Addr} {m : Mode} (f : Fn) (ts cs : Array Value) : (store a (.func f ts cs) m).run P w = stored P w a (.func f ts cs) m := run_store P w a _ m rfl
attribute [local go_sem] up_store_func
set_option maxHeartbeats 4000000 in
theorem userpass_Take.calls (A0 : Option Addr) (c0 : Nat) (l0 : List Int) (r1 r2 : ByteArray) (r3 r4 : Int) (w : World) (hr0 : Kd.C (Kd.int .u8) w A0 l0.length l0) (hc0 : l0.length ≤ c0) (h : userpass_Take.f l0 = some (r1, r2, r3, r4)) :
    Calls Try.prog 11 #[.slice A0 l0.length c0] w fun e w' => e = .returned (.tuple #[.string r1, .string r2, .int .i64 r3, .int .i64 r4]) ∧ Below w.heap.size w w' := by
  unfold userpass_Take.f at h
  by_cases hl : l0.all (fun x => decide (0 ≤ x) && decide (x ≤ 255)) = true
  · rw [if_pos hl] at h
    have h := Option.some.inj h
    have hU := (up_in w A0 c0 l0 _).1 rfl
    have hk := (up_in w A0 c0 l0 .nilFunc).2
    have hkc := cell_of_one hk
    have hkf := free_of_one hk
    obtain ⟨b0, b1, b2, b3⟩ := upNext_in hl (e := 0) (a := 0) (by omega) (by omega)
    have hN := up_next w A0 c0 l0 hr0 _ _ _ _ 0 0 (by omega) (by omega) _ hU
    obtain ⟨b4, b5⟩ := upText_in hl (e := if (upNext l0 0 0).2.1 = true ∧ (upNext l0 0 0).1 ≠ 1 then 6 else (upNext l0 0 0).2.2.1) b2 b3
    unfold upTake at h
    generalize upNext l0 0 0 = n at hN b0 b1 b2 b3 b4 b5 h
    obtain ⟨v, is, e1, a1⟩ := n
    simp only at hN b0 b1 b2 b3 b4 b5 h
    cases is with
    | false =>
      rw [if_neg (show ¬ (false = true ∧ v ≠ 1) by simp)] at h b4 b5
      go_enter Try.func11, Try.ntmps11
      go_wp2_with (first | (go_at_call 16; refine hN.mono ?_; rintro x W1 ⟨rfl, h1⟩; have hT1 := up_text w A0 c0 l0 hl hr0 hc0 _ _ _ _ e1 a1 b2 b3 _ h1) | (go_at_call 17; refine hT1.mono ?_; rintro x W2 ⟨rfl, h2⟩; have hT2 := up_text w A0 c0 l0 hl hr0 hc0 _ _ _ _ (upText l0 e1 a1).2.1 (upText l0 e1 a1).2.2 b4 b5 _ h2) | (go_at_call 17; refine hT2.mono ?_; rintro x W3 ⟨rfl, h3⟩; have ce := cell_of_one h3.he; have fe := free_of_one h3.he; have ca := cell_of_one h3.ha))
      generalize upText l0 (upText l0 e1 a1).2.1 (upText l0 e1 a1).2.2 = u at h3 ce ca fe h ⊢
      generalize upText l0 e1 a1 = s at h ⊢
      have hB3 := h3.hB
      have hbe := h3.he
      clear hT1 hT2 hN h1 h2 h3 hU hk hkc hkf
      obtain ⟨FS, hFS⟩ : ∃ F : ByteArray → ByteArray, F = fun s => if u.2.1 = 0 then s else ⟨#[]⟩ := ⟨_, rfl⟩
      obtain ⟨FI, hFI⟩ : ∃ F : Int → Int, F = fun s => if u.2.1 = 0 then s else 0 := ⟨_, rfl⟩
      have oS : ∀ (s : ByteArray) (W : World), Calls Try.prog 18 #[.int .i64 u.2.1, .string s] W fun x W' => x = .returned (.string (FS s)) ∧ W' = W := fun s W => by rw [hFS]; exact up_orS _ _ _
      have oI : ∀ (s : Int) (W : World), Calls Try.prog 19 #[.int .i64 u.2.1, .int .i64 s] W fun x W' => x = .returned (.int .i64 (FI s)) ∧ W' = W := fun s W => by rw [hFI]; exact up_orI _ _ _
      have HFS := Aside0.mk hFS
      have HFI := Aside0.mk hFI
      clear hFS hFI
      have hbd : Below w.heap.size w W3.drew := below_drew hB3
      have hcs : (W3.setCell ⟨w.heap.size + 1, 0, none⟩ (.int .i64 u.2.1)).drew.cell? ⟨w.heap.size + 1, 0, none⟩ = some (.int .i64 u.2.1) := cell_of_one (one_setCell hbe)
      have hBs : Below w.heap.size w (W3.setCell ⟨w.heap.size + 1, 0, none⟩ (.int .i64 u.2.1)).drew := below_drew (hB3.setCell (Nat.le_succ _) _)
      have hbs : ∀ (W : World) (x : Value), Below w.heap.size w W → Below w.heap.size w (W.setCell ⟨w.heap.size + 1, 0, none⟩ x) := fun W x h => h.setCell (Nat.le_succ _) _
      go_region_held3 (fun w' => w'.cell? ⟨w.heap.size + 1, 0, none⟩ = some (.int .i64 u.2.1) ∧ w'.frozen? ⟨w.heap.size + 1, 0, none⟩ = false ∧ w'.cell? ⟨w.heap.size + 1 + 1, 0, none⟩ = some (.int .i64 u.2.2) ∧ Below w.heap.size w w') (go_keep)
        (first | (go_at_call 18; refine (oS _ _).mono ?_; rintro x W4 ⟨rfl, rfl⟩) | (go_at_call 19; refine (oI _ _).mono ?_; rintro x W4 ⟨rfl, rfl⟩))
      go_wp2
      refine bodyPost_ret (by simp [results, Try.results11, go_sem, hcs]; try rfl) rfl ?_
      refine ⟨?_, hBs⟩
      rw [HFS.out, HFI.out]
      simp only
      by_cases hu : u.2.1 = 0
      · rw [if_pos hu] at h
        simp only [Prod.mk.injEq] at h
        obtain ⟨rfl, rfl, rfl, rfl⟩ := h
        simp only [if_pos hu]
        rw [hu]
      · rw [if_neg hu] at h
        simp only [Prod.mk.injEq] at h
        obtain ⟨rfl, rfl, rfl, rfl⟩ := h
        simp only [if_neg hu]
    | true =>
      by_cases hv : v = 1
      · rw [if_neg (show ¬ (true = true ∧ v ≠ 1) by simp [hv])] at h b4 b5
        have qv : (v != 1) = false := bne_eq_false_iff_eq.mpr hv
        go_enter Try.func11, Try.ntmps11
        go_wp2_with (first | (go_at_call 16; refine hN.mono ?_; rintro x W1 ⟨rfl, h1⟩; have hT1 := up_text w A0 c0 l0 hl hr0 hc0 _ _ _ _ e1 a1 b2 b3 _ h1) | (go_at_call 17; refine hT1.mono ?_; rintro x W2 ⟨rfl, h2⟩; have hT2 := up_text w A0 c0 l0 hl hr0 hc0 _ _ _ _ (upText l0 e1 a1).2.1 (upText l0 e1 a1).2.2 b4 b5 _ h2) | (go_at_call 17; refine hT2.mono ?_; rintro x W3 ⟨rfl, h3⟩; have ce := cell_of_one h3.he; have fe := free_of_one h3.he; have ca := cell_of_one h3.ha))
        generalize upText l0 (upText l0 e1 a1).2.1 (upText l0 e1 a1).2.2 = u at h3 ce ca fe h ⊢
        generalize upText l0 e1 a1 = s at h ⊢
        have hB3 := h3.hB
        have hbe := h3.he
        clear hT1 hT2 hN h1 h2 h3 hU hk hkc hkf
        obtain ⟨FS, hFS⟩ : ∃ F : ByteArray → ByteArray, F = fun s => if u.2.1 = 0 then s else ⟨#[]⟩ := ⟨_, rfl⟩
        obtain ⟨FI, hFI⟩ : ∃ F : Int → Int, F = fun s => if u.2.1 = 0 then s else 0 := ⟨_, rfl⟩
        have oS : ∀ (s : ByteArray) (W : World), Calls Try.prog 18 #[.int .i64 u.2.1, .string s] W fun x W' => x = .returned (.string (FS s)) ∧ W' = W := fun s W => by rw [hFS]; exact up_orS _ _ _
        have oI : ∀ (s : Int) (W : World), Calls Try.prog 19 #[.int .i64 u.2.1, .int .i64 s] W fun x W' => x = .returned (.int .i64 (FI s)) ∧ W' = W := fun s W => by rw [hFI]; exact up_orI _ _ _
        have HFS := Aside0.mk hFS
        have HFI := Aside0.mk hFI
        clear hFS hFI
        have hbd : Below w.heap.size w W3.drew := below_drew hB3
        have hcs : (W3.setCell ⟨w.heap.size + 1, 0, none⟩ (.int .i64 u.2.1)).drew.cell? ⟨w.heap.size + 1, 0, none⟩ = some (.int .i64 u.2.1) := cell_of_one (one_setCell hbe)
        have hBs : Below w.heap.size w (W3.setCell ⟨w.heap.size + 1, 0, none⟩ (.int .i64 u.2.1)).drew := below_drew (hB3.setCell (Nat.le_succ _) _)
        have hbs : ∀ (W : World) (x : Value), Below w.heap.size w W → Below w.heap.size w (W.setCell ⟨w.heap.size + 1, 0, none⟩ x) := fun W x h => h.setCell (Nat.le_succ _) _
        go_region_held3 (fun w' => w'.cell? ⟨w.heap.size + 1, 0, none⟩ = some (.int .i64 u.2.1) ∧ w'.frozen? ⟨w.heap.size + 1, 0, none⟩ = false ∧ w'.cell? ⟨w.heap.size + 1 + 1, 0, none⟩ = some (.int .i64 u.2.2) ∧ Below w.heap.size w w') (go_keep)
          (first | (go_at_call 18; refine (oS _ _).mono ?_; rintro x W4 ⟨rfl, rfl⟩) | (go_at_call 19; refine (oI _ _).mono ?_; rintro x W4 ⟨rfl, rfl⟩))
        go_wp2
        refine bodyPost_ret (by simp [results, Try.results11, go_sem, hcs]; try rfl) rfl ?_
        refine ⟨?_, hBs⟩
        rw [HFS.out, HFI.out]
        simp only
        by_cases hu : u.2.1 = 0
        · rw [if_pos hu] at h
          simp only [Prod.mk.injEq] at h
          obtain ⟨rfl, rfl, rfl, rfl⟩ := h
          simp only [if_pos hu]
          rw [hu]
        · rw [if_neg hu] at h
          simp only [Prod.mk.injEq] at h
          obtain ⟨rfl, rfl, rfl, rfl⟩ := h
          simp only [if_neg hu]
      · rw [if_pos (show (true = true ∧ v ≠ 1) from ⟨rfl, hv⟩)] at h b4 b5
        have qv : (v != 1) = true := bne_iff_ne.mpr hv
        go_enter Try.func11, Try.ntmps11
        go_wp2_with (first | (go_at_call 16; refine hN.mono ?_; rintro x W1 ⟨rfl, h1⟩; have hT1 := up_text w A0 c0 l0 hl hr0 hc0 _ _ _ _ 6 a1 b2 b3 _ (h1.setE 6); have ce1 := cell_of_one h1.he; have fe1 := free_of_one h1.he) | (go_at_call 17; refine hT1.mono ?_; rintro x W2 ⟨rfl, h2⟩; have hT2 := up_text w A0 c0 l0 hl hr0 hc0 _ _ _ _ (upText l0 6 a1).2.1 (upText l0 6 a1).2.2 b4 b5 _ h2) | (go_at_call 17; refine hT2.mono ?_; rintro x W3 ⟨rfl, h3⟩; have ce := cell_of_one h3.he; have fe := free_of_one h3.he; have ca := cell_of_one h3.ha))
        generalize upText l0 (upText l0 6 a1).2.1 (upText l0 6 a1).2.2 = u at h3 ce ca fe h ⊢
        generalize upText l0 6 a1 = s at h ⊢
        have hB3 := h3.hB
        have hbe := h3.he
        clear hT1 hT2 hN ce1 fe1 h1 h2 h3 hU hk hkc hkf
        obtain ⟨FS, hFS⟩ : ∃ F : ByteArray → ByteArray, F = fun s => if u.2.1 = 0 then s else ⟨#[]⟩ := ⟨_, rfl⟩
        obtain ⟨FI, hFI⟩ : ∃ F : Int → Int, F = fun s => if u.2.1 = 0 then s else 0 := ⟨_, rfl⟩
        have oS : ∀ (s : ByteArray) (W : World), Calls Try.prog 18 #[.int .i64 u.2.1, .string s] W fun x W' => x = .returned (.string (FS s)) ∧ W' = W := fun s W => by rw [hFS]; exact up_orS _ _ _
        have oI : ∀ (s : Int) (W : World), Calls Try.prog 19 #[.int .i64 u.2.1, .int .i64 s] W fun x W' => x = .returned (.int .i64 (FI s)) ∧ W' = W := fun s W => by rw [hFI]; exact up_orI _ _ _
        have HFS := Aside0.mk hFS
        have HFI := Aside0.mk hFI
        clear hFS hFI
        have hbd : Below w.heap.size w W3.drew := below_drew hB3
        have hcs : (W3.setCell ⟨w.heap.size + 1, 0, none⟩ (.int .i64 u.2.1)).drew.cell? ⟨w.heap.size + 1, 0, none⟩ = some (.int .i64 u.2.1) := cell_of_one (one_setCell hbe)
        have hBs : Below w.heap.size w (W3.setCell ⟨w.heap.size + 1, 0, none⟩ (.int .i64 u.2.1)).drew := below_drew (hB3.setCell (Nat.le_succ _) _)
        have hbs : ∀ (W : World) (x : Value), Below w.heap.size w W → Below w.heap.size w (W.setCell ⟨w.heap.size + 1, 0, none⟩ x) := fun W x h => h.setCell (Nat.le_succ _) _
        go_region_held3 (fun w' => w'.cell? ⟨w.heap.size + 1, 0, none⟩ = some (.int .i64 u.2.1) ∧ w'.frozen? ⟨w.heap.size + 1, 0, none⟩ = false ∧ w'.cell? ⟨w.heap.size + 1 + 1, 0, none⟩ = some (.int .i64 u.2.2) ∧ Below w.heap.size w w') (go_keep)
          (first | (go_at_call 18; refine (oS _ _).mono ?_; rintro x W4 ⟨rfl, rfl⟩) | (go_at_call 19; refine (oI _ _).mono ?_; rintro x W4 ⟨rfl, rfl⟩))
        go_wp2
        refine bodyPost_ret (by simp [results, Try.results11, go_sem, hcs]; try rfl) rfl ?_
        refine ⟨?_, hBs⟩
        rw [HFS.out, HFI.out]
        simp only
        by_cases hu : u.2.1 = 0
        · rw [if_pos hu] at h
          simp only [Prod.mk.injEq] at h
          obtain ⟨rfl, rfl, rfl, rfl⟩ := h
          simp only [if_pos hu]
          rw [hu]
        · rw [if_neg hu] at h
          simp only [Prod.mk.injEq] at h
          obtain ⟨rfl, rfl, rfl, rfl⟩ := h
          simp only [if_neg hu]
  · rw [if_neg hl] at h
    exact absurd h (by simp)

end Go.Proofs.Ytlhjninbkngamaa.P
