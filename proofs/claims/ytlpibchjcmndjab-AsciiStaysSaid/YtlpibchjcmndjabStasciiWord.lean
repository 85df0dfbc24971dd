-- Laid by sp.py, a program of this session's, out of the translation and the session's own stand-ins.
import Derived.Test.YtlpibchjcmndjabPx0
import Derived.Test.YtlpibchjcmndjabShelf
import Derived.Shelf.GgClosure.StringsIndexFuncTop
namespace Go.Proofs.Ytlpibchjcmndjab.P
open Go.RowKit Go.Proofs.YtlpibchjcmndjabW.PrintWords Go.Proofs.YtlpibchjcmndjabW.PrintLast Go.Proofs.YtlpibchjcmndjabW.PrintMore
attribute [local go_sem] max2_int min2_int max_two min_two max_three min_three max_four min_four   -- for this text's walks alone
set_option linter.unusedVariables false
set_option linter.unusedSimpArgs false
set_option linter.unnecessarySimpa false

/-! ### ascii.Word: a stand-in: a closure is handed to strings.IndexFunc -/
/-- No letter of a word. -/
def noLetter (c : Nat) : Bool := !((97 ≤ c && c ≤ 122) || (48 ≤ c && c ≤ 57))
def ascii_Word.f (a0 : ByteArray) : Option Bool := some (decide (1 ≤ a0.size) && decide (a0.size ≤ 8) && decide (Lib.idxFunc noLetter true a0 < 0))
set_option maxHeartbeats 2000000 in
theorem word_pred (W : World) (c : Nat) : Calls Try.prog 20 #[.int .i32 (c : Int)] W fun e W' => e = .returned (.bool (noLetter c)) ∧ ∃ q, W' = W.drewN q := by
  by_cases h1 : 97 ≤ (c : Int) <;> by_cases h2 : (c : Int) ≤ 122 <;> by_cases h3 : 48 ≤ (c : Int) <;> by_cases h4 : (c : Int) ≤ 57
  all_goals
    (go_enter Try.func20, Try.ntmps20
     go_wp2
     go_ret
     refine ⟨?_, 0, rfl⟩
     congr 2
     unfold noLetter
     simp
     omega)
set_option maxHeartbeats 2000000 in
theorem ascii_Word.calls (a0 : ByteArray) (r : Bool) (w : World) (h : ascii_Word.f a0 = some r) :
    Calls Try.prog 12 #[.string a0] w fun e w' => e = .returned (.bool r) ∧ Below w.heap.size w w' := by
  unfold ascii_Word.f at h
  obtain rfl := Option.some.inj h
  have hB := Below.refl w.heap.size w
  by_cases c1 : 1 ≤ a0.size
  case neg =>
    have q1 : decide (1 ≤ (a0.size : Int)) = false := decide_eq_false (by omega)
    have q1' : decide (1 ≤ a0.size) = false := decide_eq_false (by omega)
    go_enter Try.func12, Try.ntmps12
    go_wp2
    go_ret
    exact ⟨rfl, hB⟩
  have q1 : decide (1 ≤ (a0.size : Int)) = true := decide_eq_true (by omega)
  have q1' : decide (1 ≤ a0.size) = true := decide_eq_true (by omega)
  by_cases c2 : a0.size ≤ 8
  case neg =>
    have q2 : decide ((a0.size : Int) ≤ 8) = false := decide_eq_false (by omega)
    have q2' : decide (a0.size ≤ 8) = false := decide_eq_false (by omega)
    go_enter Try.func12, Try.ntmps12
    go_wp2
    go_ret
    exact ⟨rfl, hB⟩
  have q2 : decide ((a0.size : Int) ≤ 8) = true := decide_eq_true (by omega)
  have q2' : decide (a0.size ≤ 8) = true := decide_eq_true (by omega)
  have hI := fun W => Try.strings_IndexFunc 20 #[] (enters_of Try.func20 (by kernel_rfl) rfl) noLetter a0 W (fun W x _ => word_pred W x)
  obtain ⟨I, hIe⟩ : ∃ I, Lib.idxFunc noLetter true a0 = I := ⟨_, rfl⟩
  rw [hIe] at hI ⊢
  go_enter Try.func12, Try.ntmps12
  go_wp2_with (go_at_call 19; refine (hI _).mono ?_; rintro e w' ⟨rfl, hb⟩)
  go_ret
  exact ⟨by rw [q1', q2']; simp, hb⟩

end Go.Proofs.Ytlpibchjcmndjab.P
