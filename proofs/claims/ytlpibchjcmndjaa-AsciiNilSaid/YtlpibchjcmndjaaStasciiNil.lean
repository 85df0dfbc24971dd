-- Laid by sp.py, a program of this session's, out of the translation and the session's own stand-ins.
import Derived.Test.YtlpibchjcmndjaaPx0
namespace Go.Proofs.Ytlpibchjcmndjaa.P
open Go.RowKit Go.Proofs.YtlpibchjcmndjaaW.PrintWords Go.Proofs.YtlpibchjcmndjaaW.PrintLast Go.Proofs.YtlpibchjcmndjaaW.PrintMore
attribute [local go_sem] max2_int min2_int max_two min_two max_three min_three max_four min_four   -- for this text's walks alone
set_option linter.unusedVariables false
set_option linter.unusedSimpArgs false
set_option linter.unnecessarySimpa false

/-! ### AsciiNil: a law by hand: a nil reader's methods -/
theorem nl_next (n : Int) (g : Value) (W : World) : Calls Try.prog 27 #[.pointer none, .int .i64 n, g] W fun e W' => e = .returned (.int .i64 1) ∧ W' = W := by
  go_enter Try.func27, Try.ntmps27
  go_wp2
  go_ret
  exact ⟨rfl, rfl⟩
theorem nl_cell (W : World) (o : Value) (t : Nat) : (W.alloc (.cells #[o] t)).heap[W.heap.size]? = some (.cells #[o] t (0, 0)) := heap_alloc_new W _
set_option maxHeartbeats 2000000 in
theorem nl_Byte (W : World) : Calls Try.prog 13 #[.pointer none] W fun e W' => e = .returned (.tuple #[.int .u8 0, .int .i64 1]) ∧ Below W.heap.size W W' := by
  have k := nl_cell W (.int .u8 0) 5
  have c := cell_of_one k
  have f := free_of_one k
  have hb : Below W.heap.size W (W.alloc (.cells #[.int .u8 0] 5)) := below_alloc (Below.refl _ _) _
  go_enter Try.func13, Try.ntmps13
  go_wp2_with (go_at_call 27; refine (nl_next _ _ _).mono ?_; rintro e w1 ⟨rfl, rfl⟩)
  refine bodyPost_ret (by simp [results, Try.results13, go_sem, c]; try rfl) rfl ?_
  exact ⟨rfl, hb⟩
set_option maxHeartbeats 2000000 in
theorem nl_Pair (W : World) : Calls Try.prog 14 #[.pointer none] W fun e W' => e = .returned (.tuple #[.int .i64 0, .int .i64 1]) ∧ Below W.heap.size W W' := by
  have k := nl_cell W (.int .i64 0) 3
  have c := cell_of_one k
  have f := free_of_one k
  have hb : Below W.heap.size W (W.alloc (.cells #[.int .i64 0] 3)) := below_alloc (Below.refl _ _) _
  go_enter Try.func14, Try.ntmps14
  go_wp2_with (go_at_call 27; refine (nl_next _ _ _).mono ?_; rintro e w1 ⟨rfl, rfl⟩)
  refine bodyPost_ret (by simp [results, Try.results14, go_sem, c]; try rfl) rfl ?_
  exact ⟨rfl, hb⟩
set_option maxHeartbeats 2000000 in
theorem nl_Bytes (n : Int) (W : World) : Calls Try.prog 15 #[.pointer none, .int .i64 n] W fun e W' => e = .returned (.tuple #[.slice none 0 0, .int .i64 1]) ∧ Below W.heap.size W W' := by
  have k := nl_cell W (.slice none 0 0) 31
  have c := cell_of_one k
  have f := free_of_one k
  have hb : Below W.heap.size W (W.alloc (.cells #[.slice none 0 0] 31)) := below_alloc (Below.refl _ _) _
  go_enter Try.func15, Try.ntmps15
  go_wp2_with (go_at_call 27; refine (nl_next _ _ _).mono ?_; rintro e w1 ⟨rfl, rfl⟩)
  refine bodyPost_ret (by simp [results, Try.results15, go_sem, c]; try rfl) rfl ?_
  exact ⟨rfl, hb⟩
theorem nl_Line (n : Int) (W : World) : Calls Try.prog 16 #[.pointer none, .int .i64 n] W fun e W' => e = .returned (.tuple #[.string ⟨#[]⟩, .int .i64 1]) ∧ W' = W := by
  go_enter Try.func16, Try.ntmps16
  go_wp2_with fail
  go_ret2
  exact ⟨rfl, rfl⟩
theorem nl_At (W : World) : Calls Try.prog 17 #[.pointer none] W fun e W' => e = .returned (.int .i64 0) ∧ W' = W := by
  go_enter Try.func17, Try.ntmps17
  go_wp2
  go_ret
  exact ⟨rfl, rfl⟩
theorem nl_Left (W : World) : Calls Try.prog 18 #[.pointer none] W fun e W' => e = .returned (.int .i64 0) ∧ W' = W := by
  go_enter Try.func18, Try.ntmps18
  go_wp2
  go_ret
  exact ⟨rfl, rfl⟩
theorem nl_below {w W W' : World} (h : Below w.heap.size w W) (hb : Below W.heap.size W W') : Below w.heap.size w W' :=
  h.trans ⟨hb.os, hb.tape, hb.output, hb.size, fun j hj => hb.block j (Nat.lt_of_lt_of_le hj h.size)⟩
set_option maxHeartbeats 4000000 in
theorem postilionlaw02_AsciiNil.calls (n : Int) (w : World) : Calls Try.prog 4 #[.int .i64 n] w fun e w' => e = .returned (.bool true) ∧ Below w.heap.size w w' := by
  go_enter Try.func4, Try.ntmps4
  go_wp2_with (first | (go_at_call 13; refine (nl_Byte _).mono ?_; rintro e w1 ⟨rfl, h1⟩) | (go_at_call 14; refine (nl_Pair _).mono ?_; rintro e w2 ⟨rfl, h2⟩) | (go_at_call 15; refine (nl_Bytes n _).mono ?_; rintro e w3 ⟨rfl, h3⟩) | (go_at_call 16; refine (nl_Line n _).mono ?_; rintro e w4 ⟨rfl, rfl⟩) | (go_at_call 17; refine (nl_At _).mono ?_; rintro e w5 ⟨rfl, rfl⟩) | (go_at_call 18; refine (nl_Left _).mono ?_; rintro e w6 ⟨rfl, rfl⟩))
  go_ret
  exact ⟨rfl, nl_below (nl_below h1 h2) h3⟩
/-- THE ONE PURE STATEMENT of postilionlaw02_AsciiNil. -/
def postilionlaw02_AsciiNil.Pure : Prop := ∀ (a0 : Int), (Lit.int .i64 a0).wf = true → True
theorem postilionlaw02_AsciiNil.walk (_P : postilionlaw02_AsciiNil.Pure) (a0 : Int) (w : World) (_w0 : (Lit.int .i64 a0).wf = true) :
    Calls Try.prog 4 #[.int .i64 a0] w fun e w' => e = .returned (.bool true) ∧ Below w.heap.size w w' := postilionlaw02_AsciiNil.calls a0 w

end Go.Proofs.Ytlpibchjcmndjaa.P
