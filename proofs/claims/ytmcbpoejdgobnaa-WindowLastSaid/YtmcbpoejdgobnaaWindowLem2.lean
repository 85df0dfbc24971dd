import Derived.Test.YtmcbpoejdgobnaaPx11
import Derived.Test.YtmcbpoejdgobnaaStwindowList
import Derived.Test.YtmcbpoejdgobnaaPx4
namespace Go.Proofs.Ytmcbpoejdgobnaa.Pure
open Go.RowKit Go.Proofs.Ytmcbpoejdgobnaa.P Go.Proofs.YtmcbpoejdgobnaaW.PrintWords Go.Proofs.YtmcbpoejdgobnaaW.PrintLast

theorem wrap_id {x : Int} (h1 : -9223372036854775808 ≤ x) (h2 : x ≤ 9223372036854775807) : wrap64 x = x := by unfold wrap64; omega
/-- The outcomes that are kept, of a row of outcomes. -/
def last8 (l : List Bool) : List Bool := l.drop (l.length - 8)
/-- A window that may be, and what it keeps. -/
def holds (x : Int) (l : List Bool) : Prop := window_Window_May.f x = some true ∧ window_Window_List.f x = some l ∧ window_Window_Len.f x = some (l.length : Int) ∧ window_Window_Bad.f x = some ((l.filter fun b => !b).length : Int) ∧ l.length ≤ 8 ∧ 0 ≤ x ∧ x ≤ 65535
instance (x : Int) (l : List Bool) : Decidable (holds x l) := by unfold holds; infer_instance
/-- What a number keeps: its window's outcomes, or none. -/
def kept (x : Int) : List Bool := if window_Window_May.f x = some true then (window_Window_List.f x).getD [] else []
def addOf (x : Int) (b : Bool) : Int := (window_Window_Add.f x b).getD 0
set_option maxRecDepth 100000 in
theorem add_small : ∀ (n : Fin 2304) (b : Bool), window_Window_May.f (n.val : Int) = some true → window_Window_Add.f (n.val : Int) b = some (addOf n.val b) ∧ holds (addOf n.val b) (last8 (kept n.val ++ [b])) := by decide +kernel
set_option maxRecDepth 100000 in
theorem may_small : ∀ (n : Fin 2304), window_Window_May.f (n.val : Int) = some true → holds n.val (kept n.val) ∧ postilionlaw08_added.f 20 0 (kept n.val) = some (n.val : Int) := by decide +kernel
theorem may_great (x : Int) (h : 2304 ≤ x) (h2 : x ≤ 65535) : window_Window_May.f x = some false := by
  unfold window_Window_May.f window_Window_held.f
  have e : wrap64 (IntKind.u16.wrap (Int.tdiv x 256)) = x / 256 := by
    rw [Int.tdiv_eq_ediv_of_nonneg (by omega)]
    have : IntKind.u16.wrap (x / 256) = x / 256 := by
      simp [IntKind.wrap, IntKind.bits, IntKind.signed]
      omega
    rw [this, wrap_id (by omega) (by omega)]
  simp only [Option.bind_some, e]
  rw [if_neg (by omega)]
theorem may_some (x : Int) (h0 : 0 ≤ x) (h1 : x ≤ 65535) : window_Window_May.f x = some true ∨ window_Window_May.f x = some false := by
  by_cases h : 2304 ≤ x
  · exact .inr (may_great x h h1)
  · have key : ∀ n : Fin 2304, window_Window_May.f (n.val : Int) = some true ∨ window_Window_May.f (n.val : Int) = some false := by
      intro n
      unfold window_Window_May.f window_Window_held.f bits_Len16.f
      have hn := n.isLt
      have e : wrap64 (IntKind.u16.wrap (Int.tdiv (n.val : Int) 256)) = (n.val : Int) / 256 := by
        rw [Int.tdiv_eq_ediv_of_nonneg (by omega)]
        have : IntKind.u16.wrap ((n.val : Int) / 256) = (n.val : Int) / 256 := by
          simp [IntKind.wrap, IntKind.bits, IntKind.signed]
          omega
        rw [this, wrap_id (by omega) (by omega)]
      have e2 : Go.bits .and .u16 (n.val : Int) 255 = (n.val : Int) % 256 := bits_u16_and255 (by omega) (by omega)
      simp only [Option.bind_some, e, e2]
      rw [if_pos (by omega), if_pos (by omega)]
      simp only [Option.bind_some]
      cases decide ((Lib.bitLen ((n.val : Int) % 256).toNat : Int) ≤ (n.val : Int) / 256) <;> simp
    have := key ⟨x.toNat, by omega⟩
    simpa [Int.toNat_of_nonneg h0] using this
theorem kept_of {x : Int} {l : List Bool} (h : holds x l) : kept x = l := by
  unfold kept
  rw [if_pos h.1, h.2.1]
  rfl
theorem may_holds (x : Int) (h0 : 0 ≤ x) (h1 : x ≤ 65535) (h : window_Window_May.f x = some true) : holds x (kept x) ∧ postilionlaw08_added.f 20 0 (kept x) = some x := by
  by_cases hg : 2304 ≤ x
  · rw [may_great x hg h1] at h; cases h
  · have := may_small ⟨x.toNat, by omega⟩
    simp only [Int.toNat_of_nonneg h0] at this
    exact this h
theorem add_holds (x : Int) (b : Bool) (h0 : 0 ≤ x) (h1 : x ≤ 65535) : ∃ y, window_Window_Add.f x b = some y ∧ holds y (last8 (kept x ++ [b])) := by
  rcases may_some x h0 h1 with h | h
  · by_cases hg : 2304 ≤ x
    · rw [may_great x hg h1] at h; cases h
    · have := add_small ⟨x.toNat, by omega⟩ b
      simp only [Int.toNat_of_nonneg h0] at this
      exact ⟨_, this h⟩
  · have e : window_Window_Add.f x b = window_Window_Add.f 0 b := by
      unfold window_Window_Add.f window_Window_own.f
      rw [h, show window_Window_May.f 0 = some true from by decide +kernel]
      simp only [Option.bind_some, Bool.false_eq_true, if_false, if_true]
    have hk : kept x = kept 0 := by
      rw [show kept 0 = [] from by decide +kernel]
      unfold kept
      rw [h]
      simp
    rw [e, hk]
    have := add_small ⟨0, by omega⟩ b
    simp only [Int.natCast_zero] at this
    exact ⟨_, this (by decide +kernel)⟩
theorem last8_append (l : List Bool) (b : Bool) : last8 (last8 l ++ [b]) = last8 (l ++ [b]) := by
  unfold last8
  simp only [List.length_append, List.length_drop, List.length_cons, List.length_nil]
  by_cases h : l.length ≤ 8
  · rw [show l.length - 8 = 0 by omega, List.drop_zero, show l.length - 0 + (0 + 1) - 8 = l.length + (0 + 1) - 8 by omega]
  · rw [List.drop_append_of_le_length (by rw [List.length_drop]; omega), List.drop_append_of_le_length (by omega), List.drop_drop]
    congr 2
    omega
/-- Of whatever is added, the last 8 outcomes are kept. -/
theorem added_loop (l : List Bool) (hl : l.length ≤ 1000) (d : Nat) : ∀ (k i : Nat) (x : Int) (p : List Bool), (l.length : Int) - i = d → d < k → 0 ≤ x → x ≤ 65535 → kept x = last8 p →
    ∃ y, postilionlaw08_added.l0 k x l i = some y ∧ 0 ≤ y ∧ y ≤ 65535 ∧ kept y = last8 (p ++ l.drop i) ∧ (i < l.length → holds y (kept y)) ∧ (l.length ≤ i → y = x) := by
  induction d with
  | zero =>
    intro k i x p hd hk h0 h1 hp
    obtain ⟨k, rfl⟩ : ∃ q, k = q + 1 := ⟨k - 1, by omega⟩
    refine ⟨x, ?_, h0, h1, ?_, fun h => by omega, fun _ => rfl⟩
    · simp only [postilionlaw08_added.l0]
      rw [if_neg (by omega)]
    · rw [List.drop_of_length_le (by omega), List.append_nil, hp]
  | succ d ih =>
    intro k i x p hd hk h0 h1 hp
    obtain ⟨k, rfl⟩ : ∃ q, k = q + 1 := ⟨k - 1, by omega⟩
    have hi : i < l.length := by omega
    have er : rdOf false l (i : Int) = l[i] := by
      unfold rdOf
      rw [List.getD_eq_getElem?_getD, Int.toNat_natCast, List.getElem?_eq_getElem hi]
      rfl
    obtain ⟨y, hy, hh⟩ := add_holds x l[i] h0 h1
    have hky := kept_of hh
    obtain ⟨z, hz, z0, z1, z2, z3, z4⟩ := ih k (i + 1) y (p ++ [l[i]]) (by omega) (by omega) hh.2.2.2.2.2.1 hh.2.2.2.2.2.2 (by rw [hky, hp, last8_append])
    refine ⟨z, ?_, z0, z1, ?_, fun _ => ?_, fun h => by omega⟩
    · simp only [postilionlaw08_added.l0]
      rw [if_pos (by omega), if_pos (by omega), er, hy, wrap_id (by omega) (by omega)]
      exact hz
    · rw [z2, List.append_assoc]
      congr 2
      rw [List.singleton_append, List.getElem_cons_drop]
    · by_cases hn : i + 1 < l.length
      · exact z3 hn
      · obtain rfl := z4 (by omega)
        rw [hky]; exact hh
theorem added_of (l : List Bool) (hl : l.length ≤ 1000) (x : Int) (h0 : 0 ≤ x) (h1 : x ≤ 65535) (k : Nat) (hk : l.length < k) :
    ∃ y, postilionlaw08_added.f k x l = some y ∧ 0 ≤ y ∧ y ≤ 65535 ∧ kept y = last8 (kept x ++ l) ∧ (0 < l.length → holds y (kept y)) ∧ (l = [] → y = x) := by
  have hlen : (kept x).length ≤ 8 := by
    rcases may_some x h0 h1 with h | h
    · exact (may_holds x h0 h1 h).1.2.2.2.2.1
    · unfold kept
      rw [h]
      simp
  obtain ⟨y, a, b, c, d, e, f⟩ := added_loop l hl l.length k 0 x (kept x) (by omega) hk h0 h1 (by unfold last8; rw [show (kept x).length - 8 = 0 by omega, List.drop_zero])
  exact ⟨y, a, b, c, by simpa using d, e, fun h => f (by simp [h])⟩
theorem kept_zero : kept 0 = [] := by decide +kernel
/-- One number keeps these outcomes. -/
theorem one_number {x y : Int} (hx : holds x (kept x)) (hy : holds y (kept y)) (h : kept x = kept y) : x = y := by
  have a := (may_holds x hx.2.2.2.2.2.1 hx.2.2.2.2.2.2 hx.1).2
  have b := (may_holds y hy.2.2.2.2.2.1 hy.2.2.2.2.2.2 hy.1).2
  rw [h, b] at a
  exact (Option.some.inj a).symm
end Go.Proofs.Ytmcbpoejdgobnaa.Pure
