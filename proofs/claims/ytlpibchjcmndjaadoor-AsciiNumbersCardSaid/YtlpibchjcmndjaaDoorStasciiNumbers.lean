-- Laid by sp.py, a program of this session's, out of the translation and the session's own stand-ins.
import Derived.Test.YtlpibchjcmndjaaDoorPx0
import Derived.Test.YtlpibchjcmndjaaDoorPx1
import Derived.Test.YtlpibchjcmndjaaDoorStasciiParse
import Derived.Test.YtlpibchjcmndjaaDoorPx2
import Derived.Test.YtlpibchjcmndjaaDoorShelf
import Derived.Lib.AppendIntMem
namespace Go.Proofs.YtlpibchjcmndjaaDoor.P
open Go.RowKit Go.Proofs.YtlpibchjcmndjaaDoorW.PrintWords Go.Proofs.YtlpibchjcmndjaaDoorW.PrintLast Go.Proofs.YtlpibchjcmndjaaDoorW.PrintMore
attribute [local go_sem] max2_int min2_int max_two min_two max_three min_three max_four min_four   -- for this text's walks alone
set_option linter.unusedVariables false
set_option linter.unusedSimpArgs false
set_option linter.unnecessarySimpa false

/-! ### AsciiNumbers: a law by hand: strconv.Itoa by the shelf -/
def numS (n : Int) : ByteArray := if n < 0 then ⟨#[]⟩ else ⟨(Lib.itoa n).toArray⟩
def numE (n : Int) : Int := if n < 0 then 2 else 0
/-- The variable that Itoa reads holds its table. -/
def itoaTab (W : World) : Prop := Lib.TabIs Tryd.prog W "internal/strconv.uint64pow10" .u64 Lib.pow10Tab
theorem an_Number (n : Int) (h0 : -9223372036854775808 ≤ n) (h1 : n ≤ 9223372036854775807) (W : World) (ht : itoaTab W) :
    Calls Tryd.prog 4 #[.int .i64 n] W fun e W' => e = .returned (.tuple #[.string (numS n), .int .i64 (numE n)]) ∧ Below W.heap.size W W' := by
  have hI := Tryd.strconv_Itoa n h0 h1 W ht
  unfold numS numE
  by_cases c : n < 0
  · have q : decide (n < 0) = true := decide_eq_true c
    rw [if_pos c, if_pos c]
    go_enter Tryd.func4, Tryd.ntmps4
    go_wp2_with fail
    go_ret2
    exact ⟨rfl, Below.refl _ _⟩
  · have q : decide (n < 0) = false := decide_eq_false c
    rw [if_neg c, if_neg c]
    go_enter Tryd.func4, Tryd.ntmps4
    go_wp2_with (go_at_call 8; refine hI.mono ?_; rintro e w1 ⟨rfl, k, os, rfl⟩)
    go_ret2
    exact ⟨rfl, Lib.below_grow _ _ (Nat.le_refl _) _ _⟩
def postilionlaw02_AsciiNumbers.f (k : Nat) (a0 : Int) (a1 : ByteArray) (a2 a3 : Int) : Option Bool :=
  if 100 < a1.size then some true else (ascii_Parse.f a1 a2 a3).bind fun c => (postilionref02_Number.f k a0).bind fun b => (postilionref02_Parse.f k a1 a2 a3).bind fun d =>
    some ((numS a0).toList == b.1.toList && numE a0 == b.2 && c.1 == d.1 && c.2 == d.2)
set_option maxHeartbeats 4000000 in
theorem postilionlaw02_AsciiNumbers.calls (k : Nat) (a0 : Int) (a1 : ByteArray) (a2 a3 : Int) (w : World) (h0 : -9223372036854775808 ≤ a0) (h1 : a0 ≤ 9223372036854775807) (ht : itoaTab w) (h : postilionlaw02_AsciiNumbers.f k a0 a1 a2 a3 = some true) :
    Calls Tryd.prog 3 #[.int .i64 a0, .string a1, .int .i64 a2, .int .i64 a3] w fun e w' => e = .returned (.bool true) ∧ Below w.heap.size w w' := by
  unfold postilionlaw02_AsciiNumbers.f at h
  by_cases hs : 100 < a1.size
  · have q : decide (100 < (a1.size : Int)) = true := decide_eq_true (by omega)
    clear h
    go_enter Tryd.func3, Tryd.ntmps3
    go_wp2_with fail
    go_ret
    exact ⟨rfl, Below.refl _ _⟩
  · have q : decide (100 < (a1.size : Int)) = false := decide_eq_false (by omega)
    rw [if_neg hs] at h
    obtain ⟨⟨C1, C2⟩, hc, h⟩ := Option.bind_eq_some_iff.mp h
    obtain ⟨⟨B1, B2⟩, hb, h⟩ := Option.bind_eq_some_iff.mp h
    obtain ⟨⟨D1, D2⟩, hd, h⟩ := Option.bind_eq_some_iff.mp h
    have h := Option.some.inj h
    simp only [Bool.and_eq_true] at h
    obtain ⟨⟨⟨e1, e2⟩, e3⟩, e4⟩ := h
    have hN := an_Number a0 h0 h1 w ht
    generalize numS a0 = A1 at hN e1
    generalize numE a0 = A2 at hN e2
    have HC := Aside0.mk hc
    have HB := Aside0.mk hb
    have HD := Aside0.mk hd
    clear hc hb hd
    go_enter Tryd.func3, Tryd.ntmps3
    go_wp2_with (first | (go_at_call 4; refine hN.mono ?_; rintro e w1 ⟨rfl, hb1⟩) | (go_at_call 5; refine (postilionref02_Number.calls k a0 B1 B2 _ HB.out).mono ?_; rintro e w2 ⟨rfl, ⟨n2, rfl⟩⟩) | (go_at_call 6; refine (ascii_Parse.calls a1 a2 a3 C1 C2 _ HC.out).mono ?_; rintro e w3 ⟨rfl, ⟨n3, rfl⟩⟩) | (go_at_call 7; refine (postilionref02_Parse.calls k a1 a2 a3 D1 D2 _ HD.out).mono ?_; rintro e w4 ⟨rfl, ⟨n4, rfl⟩⟩))
    go_ret
    exact ⟨rfl, pw_below_drewN hb1 _⟩
/-- THE ONE PURE STATEMENT of postilionlaw02_AsciiNumbers. -/
def postilionlaw02_AsciiNumbers.Pure : Prop := ∀ (a0 : Int) (a1 : ByteArray) (a2 a3 : Int), (Lit.int .i64 a0).wf = true → a1.size ≤ 140737488351232 → (Lit.int .i64 a2).wf = true → (Lit.int .i64 a3).wf = true → ∃ k, postilionlaw02_AsciiNumbers.f k a0 a1 a2 a3 = some true
theorem postilionlaw02_AsciiNumbers.walk (P : postilionlaw02_AsciiNumbers.Pure) (a0 : Int) (a1 : ByteArray) (a2 : Int) (a3 : Int) (w : World) (w0 : (Lit.int .i64 a0).wf = true) (w1 : a1.size ≤ 140737488351232) (w2 : (Lit.int .i64 a2).wf = true) (w3 : (Lit.int .i64 a3).wf = true) (ht : itoaTab w) :
    Calls Tryd.prog 3 #[.int .i64 a0, .string a1, .int .i64 a2, .int .i64 a3] w fun e w' => e = .returned (.bool true) ∧ Below w.heap.size w w' := by
  obtain ⟨k, h⟩ := P a0 a1 a2 a3 w0 w1 w2 w3
  simp only [Lit.wf, Bool.and_eq_true, decide_eq_true_eq] at w0
  exact postilionlaw02_AsciiNumbers.calls k a0 a1 a2 a3 w w0.1 w0.2 ht h

end Go.Proofs.YtlpibchjcmndjaaDoor.P
