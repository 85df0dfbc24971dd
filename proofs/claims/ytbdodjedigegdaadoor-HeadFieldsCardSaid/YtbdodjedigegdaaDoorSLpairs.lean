import Derived.Test.YtbdodjedigegdaaDoorProg
import Derived.Below
import Derived.Deep.Draws
import Derived.Deep.AppendLies
import Derived.Maps.AppendAt
import Derived.OwnWalk
import Derived.Laws.BytesArg
import Derived.Laws.MakeOwn
import Derived.Laws.OwnMore
import Derived.Deep.OwnRows
import Derived.Tactics
import Derived.Lib.ConvBytes
import Derived.Laws.Slices
import Derived.WalkKit
import Derived.KernelRfl
import Derived.RowKit3
import Derived.Deep.LoopGhost
import Derived.Deep.QuietTactic
import Derived.BigQuiet
import Derived.WideLaws
import Derived.Deep.DeepCutAuto
import Derived.Deep.CutBlock
import Derived.Deep.RegionHeld3
import Derived.Laws.Rows
import Derived.Lib.AppendStr
import Derived.ArgAppend
import Derived.Laws.IdiomCopy
import Derived.OrdersHeld
import Derived.Laws.BitsLemmas
import Derived.RowKit
import Derived.Test.YtbdodjedigegdaaDoorWWords
import Derived.Test.YtbdodjedigegdaaDoorWLast
import Derived.Test.YtbdodjedigegdaaDoorWTab
import Derived.Test.YtbdodjedigegdaaDoorWFour
import Derived.Test.YtbdodjedigegdaaDoorWQPut
import Derived.Test.YtbdodjedigegdaaDoorWApart
import Derived.Test.YtbdodjedigegdaaDoorWArr
import Derived.Test.YtbdodjedigegdaaDoorWZeros
import Derived.Test.YtbdodjedigegdaaDoorWFoot
import Derived.Test.YtbdodjedigegdaaDoorWKept
import Derived.Test.YtbdodjedigegdaaDoorWShare
import Derived.Test.YtbdodjedigegdaaDoorWN
import Derived.Test.YtbdodjedigegdaaDoorWFootNe
import Derived.Test.YtbdodjedigegdaaDoorWAt
import Derived.Test.YtbdodjedigegdaaDoorWEqStruct
import Derived.Test.YtbdodjedigegdaaDoorWRepsOne
import Derived.Test.YtbdodjedigegdaaDoorWInv
import Derived.Test.YtbdodjedigegdaaDoorWInvWords
import Derived.Test.YtbdodjedigegdaaDoorWGuard
import Derived.Test.YtbdodjedigegdaaDoorWNEv
import Derived.Test.YtbdodjedigegdaaDoorWMore
namespace Go.Proofs.YtbdodjedigegdaaDoor.P
open Go.RowKit Go.Proofs.YtbdodjedigegdaaDoorW.PrintWords Go.Proofs.YtbdodjedigegdaaDoorW.PrintLast Go.Proofs.YtbdodjedigegdaaDoorW.PrintMore
set_option linter.unusedVariables false
set_option linter.unusedSimpArgs false
set_option linter.unnecessarySimpa false
attribute [local go_sem] max2_int min2_int max_two min_two max_three min_three max_four min_four
/-! ### rows of two numbers each -/
def prs (l : List (Int × Int)) : List Value := l.flatMap fun p => [.int .i64 p.1, .int .i64 p.2]
theorem prs_length (l : List (Int × Int)) : (prs l).length = l.length * 2 := by
  induction l with
  | nil => rfl
  | cons a t ih =>
    have : prs (a :: t) = .int .i64 a.1 :: .int .i64 a.2 :: prs t := rfl
    rw [this]
    simp only [List.length_cons, ih]
    omega
theorem prs_append (a b : List (Int × Int)) : prs (a ++ b) = prs a ++ prs b := List.flatMap_append
theorem prs_get : ∀ (l : List (Int × Int)) (i : Nat), i < l.length → (prs l)[i * 2]? = some (.int .i64 (l.getD i (0, 0)).1) ∧ (prs l)[i * 2 + 1]? = some (.int .i64 (l.getD i (0, 0)).2)
  | [], i, h => absurd h (Nat.not_lt_zero _)
  | a :: t, 0, _ => ⟨rfl, rfl⟩
  | a :: t, i + 1, h => by
    have e : prs (a :: t) = .int .i64 a.1 :: .int .i64 a.2 :: prs t := rfl
    obtain ⟨h1, h2⟩ := prs_get t i (by simpa using h)
    rw [e, show (i + 1) * 2 = i * 2 + 1 + 1 by omega]
    exact ⟨by simpa using h1, by simpa using h2⟩
theorem prs_set : ∀ (l : List (Int × Int)) (i : Nat) (v : Int), i < l.length → prs (l.set i ((l.getD i (0, 0)).1, v)) = (prs l).set (i * 2 + 1) (.int .i64 v)
  | [], i, _, h => absurd h (Nat.not_lt_zero _)
  | a :: t, 0, v, _ => rfl
  | a :: t, i + 1, v, h => by
    have e : ∀ (a : Int × Int) (t : List (Int × Int)), prs (a :: t) = .int .i64 a.1 :: .int .i64 a.2 :: prs t := fun _ _ => rfl
    have ih := prs_set t i v (by simpa using h)
    rw [List.set_cons_succ, e, e, show (i + 1) * 2 + 1 = i * 2 + 1 + 1 + 1 by omega, List.set_cons_succ, List.set_cons_succ, ← ih]
    simp
/-- A row of pairs, laid open. -/
theorem own2_form {W : World} {base : Nat} {e : TypeId} {v : Value} {l : List (Int × Int)} (h : W.ownsRow base e 2 v l.length (prs l)) : (v = .slice none 0 0 ∧ l = []) ∨ ∃ g cap cur, v = .slice (some ⟨g, 0, none⟩) l.length cap ∧ base ≤ g ∧ W.heap[g]? = some (.cells cur e (0, 0)) ∧ l.length ≤ cap ∧ cap ≤ maxLen ∧ cur.size = cap * 2 ∧ cur.toList.take (l.length * 2) = prs l ∧ ∀ j, j < l.length → W.cell? ⟨g, j * 2, none⟩ = some (.int .i64 (l.getD j (0, 0)).1) ∧ W.cell? ⟨g, j * 2 + 1, none⟩ = some (.int .i64 (l.getD j (0, 0)).2) := by
  obtain ⟨hlen, hrest⟩ := h
  rcases hrest with ⟨rfl, h0⟩ | ⟨g, cap, cur, rfl, hg, hh, hnc, hcm, hsz, htk⟩
  · exact .inl ⟨rfl, List.eq_nil_of_length_eq_zero h0⟩
  · refine .inr ⟨g, cap, cur, rfl, hg, hh, hnc, hcm, hsz, htk, fun j hj => ?_⟩
    obtain ⟨h1, h2⟩ := prs_get l j hj
    rw [← htk] at h1 h2
    rw [List.getElem?_take_of_lt (by omega)] at h1 h2
    rw [blk_cell hh, blk_cell hh]
    exact ⟨by simpa using h1, by simpa using h2⟩
theorem own2_mk {W : World} {g base n cap : Nat} {e : TypeId} {cur : Array Value} {l : List (Int × Int)} (h : W.heap[g]? = some (.cells cur e (0, 0))) (hb : base ≤ g) (hy : l.length = n) (hn : n ≤ cap) (hm : cap ≤ maxLen) (hs : cur.size = cap * 2) (ht : cur.toList.take (n * 2) = prs l) : W.ownsRow base e 2 (.slice (some ⟨g, 0, none⟩) n cap) l.length (prs l) := by
  subst hy
  exact ⟨prs_length l, .inr ⟨g, cap, cur, rfl, hb, h, hn, hm, hs, ht⟩⟩
theorem own2_slice {W : World} {base : Nat} {e : TypeId} {v : Value} {l : List (Int × Int)} (h : W.ownsRow base e 2 v l.length (prs l)) : ∃ A c, v = .slice A l.length c := by
  rcases own2_form h with ⟨rfl, rfl⟩ | ⟨g, cap, cur, rfl, _⟩
  · exact ⟨_, _, rfl⟩
  · exact ⟨_, _, rfl⟩
/-- The second number of a pair is laid anew. -/
theorem own2_set {W : World} {base : Nat} {e : TypeId} {g cap : Nat} {l : List (Int × Int)} (h : W.ownsRow base e 2 (.slice (some ⟨g, 0, none⟩) l.length cap) l.length (prs l)) (i : Nat) (hi : i < l.length) (v : Int) : (W.setCell ⟨g, i * 2 + 1, none⟩ (.int .i64 v)).ownsRow base e 2 (.slice (some ⟨g, 0, none⟩) l.length cap) (l.set i ((l.getD i (0, 0)).1, v)).length (prs (l.set i ((l.getD i (0, 0)).1, v))) := by
  rcases own2_form h with ⟨hv, _⟩ | ⟨g2, cap2, cur, hv, hg, hh, hnc, hcm, hsz, htk, _⟩
  · cases hv
  · cases hv
    refine own2_mk (blk_set hh _ _) hg (by simp) hnc hcm (by simpa using hsz) ?_
    rw [prs_set l i v hi, ← htk]
    simp [List.take_set]
end Go.Proofs.YtbdodjedigegdaaDoor.P
