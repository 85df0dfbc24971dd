/- Plain laws of reading lines off bytes: where the first end stands, what is answered without one, and what more bytes change; no condition beyond the bytes' bounds. -/
import Derived.Test.YtlpibchjcmndjabStasciiReader
namespace Go.Proofs.Ytlpibchjcmndjab.Pure
open Go.RowKit Go.Proofs.Ytlpibchjcmndjab.P Go.Proofs.YtlpibchjcmndjabW.PrintWords Go.Proofs.YtlpibchjcmndjabW.PrintLast

/-- An end begins at a place. -/
def pairAt (L : List Int) (i : Nat) : Prop := L[i]? = some 13 ∧ L[i + 1]? = some 10
def isBytes (L : List Int) : Prop := ∀ x ∈ L, 0 ≤ x ∧ x < 256
theorem byte_eq {x : Int} (h : 0 ≤ x ∧ x < 256) (k : Nat) (hk : k < 256) : UInt8.ofNat x.toNat = UInt8.ofNat k ↔ x = (k : Int) := by
  constructor
  · intro e
    have := congrArg UInt8.toNat e
    simp only [UInt8.toNat_ofNat'] at this
    rw [Nat.mod_eq_of_lt (by omega), Nat.mod_eq_of_lt (by omega)] at this
    omega
  · rintro rfl
    rfl
theorem occ_pair {L : List Int} (hb : isBytes L) (j : Nat) : Lib.occAt (Lib.bytesOf L) (Lib.bytesOf [13, 10]) j = true ↔ pairAt L j := by
  have e2 : Lib.bytesOf [13, 10] = [UInt8.ofNat 13, UInt8.ofNat 10] := rfl
  unfold Lib.occAt pairAt
  rw [← Lib.bytesOf_drop, e2]
  have hd : ∀ x ∈ L.drop j, 0 ≤ x ∧ x < 256 := fun x hx => hb x (List.mem_of_mem_drop hx)
  have g0 : L[j]? = (L.drop j)[0]? := by rw [List.getElem?_drop]; rfl
  have g1 : L[j + 1]? = (L.drop j)[1]? := by rw [List.getElem?_drop]
  rw [g0, g1]
  generalize L.drop j = D at hd
  match D, hd with
  | [], _ => simp [Lib.bytesOf]
  | [x], _ => simp [Lib.bytesOf]
  | x :: y :: t, hd =>
    have hx := byte_eq (hd x (by simp)) 13 (by decide)
    have hy := byte_eq (hd y (by simp)) 10 (by decide)
    simp only [Lib.bytesOf, List.map_cons, List.isPrefixOf, Bool.and_eq_true, beq_iff_eq, Bool.and_true]
    simp only [List.getElem?_cons_zero, List.getElem?_cons_succ, Option.some.injEq]
    rw [eq_comm, hx, eq_comm (a := UInt8.ofNat 10), hy]
    simp
theorem end_at {L : List Int} (hb : isBytes L) {i : Nat} (h : pairAt L i) (hn : ∀ j, j < i → ¬ pairAt L j) : endOf L = (i : Int) := by
  unfold endOf
  have hi : i < L.length := (List.getElem?_eq_some_iff.1 h.1).1
  refine Lib.index_first (by rw [Lib.bytesOf_length]; omega) ((occ_pair hb i).2 h) fun j hj => ?_
  exact Bool.eq_false_iff.2 fun c => hn j hj ((occ_pair hb j).1 c)
theorem end_none {L : List Int} (hb : isBytes L) (hn : ∀ j, j < L.length → ¬ pairAt L j) : endOf L = -1 := by
  unfold endOf
  refine Lib.index_none fun j _ => ?_
  exact Bool.eq_false_iff.2 fun c => by
    have h := (occ_pair hb j).1 c
    exact hn j (List.getElem?_eq_some_iff.1 h.1).1 h
theorem end_char {L : List Int} (hb : isBytes L) : (∃ i : Nat, endOf L = (i : Int) ∧ pairAt L i ∧ ∀ j, j < i → ¬ pairAt L j) ∨ (endOf L = -1 ∧ ∀ j, ¬ pairAt L j) := by
  by_cases h : ∃ i, pairAt L i
  · obtain ⟨i, hi⟩ := h
    have key : ∀ n, (∃ i, i ≤ n ∧ pairAt L i) → ∃ i, pairAt L i ∧ ∀ j, j < i → ¬ pairAt L j := by
      intro n
      induction n with
      | zero => rintro ⟨i, hi, hp⟩; exact ⟨i, hp, fun j hj => by omega⟩
      | succ n ih =>
        rintro ⟨i, hi, hp⟩
        by_cases c : ∃ i, i ≤ n ∧ pairAt L i
        · exact ih c
        · exact ⟨i, hp, fun j hj hq => c ⟨j, by omega, hq⟩⟩
    obtain ⟨k, hk, hm⟩ := key i ⟨i, Nat.le_refl _, hi⟩
    exact .inl ⟨k, end_at hb hk hm, hk, hm⟩
  · exact .inr ⟨end_none hb fun j _ c => h ⟨j, c⟩, fun j c => h ⟨j, c⟩⟩
theorem trim_eq {L : List Int} (hb : isBytes L) : trimN L = if L.getLast? = some 13 then L.length - 1 else L.length := by
  unfold trimN
  have e : (Lib.hasSuffix (Lib.bytesOf L) (Lib.bytesOf [13]) = true) ↔ L.getLast? = some 13 := by
    unfold Lib.hasSuffix
    rw [List.isSuffixOf_iff_suffix]
    constructor
    · rintro ⟨t, ht⟩
      have hl := congrArg List.getLast? ht
      rw [List.getLast?_append] at hl
      have e1 : (Lib.bytesOf [13]).getLast? = some (UInt8.ofNat 13) := rfl
      rw [e1] at hl
      simp only [Lib.bytesOf, List.getLast?_map] at hl
      cases hc : L.getLast? with
      | none => rw [hc] at hl; simp at hl
      | some x =>
        rw [hc] at hl
        simp only [Option.map_some, Option.some_or, Option.some.injEq] at hl
        have := (byte_eq (hb x (List.mem_of_getLast? hc)) 13 (by decide)).1 hl.symm
        rw [this]
        rfl
    · intro h
      obtain ⟨t, rfl⟩ := List.getLast?_eq_some_iff.1 h
      exact ⟨Lib.bytesOf t, by simp [Lib.bytesOf]⟩
  by_cases c : L.getLast? = some 13
  · rw [if_pos (e.2 c), if_pos c]
  · rw [if_neg (fun h => c (e.1 h)), if_neg c]
theorem last_at {L : List Int} : L.getLast? = some 13 ↔ 0 < L.length ∧ L[L.length - 1]? = some 13 := by
  rw [List.getLast?_eq_getElem?]
  constructor
  · intro h
    exact ⟨by have := (List.getElem?_eq_some_iff.1 h).1; omega, h⟩
  · exact fun h => h.2
theorem trim_len {L : List Int} (hb : isBytes L) : (trimN L = L.length ∧ ¬ (0 < L.length ∧ L[L.length - 1]? = some 13)) ∨ (trimN L + 1 = L.length ∧ L[L.length - 1]? = some 13) := by
  rw [trim_eq hb]
  by_cases c : L.getLast? = some 13
  · rw [if_pos c]
    have := last_at.1 c
    exact .inr ⟨by omega, this.2⟩
  · rw [if_neg c]
    exact .inl ⟨rfl, fun h => c (last_at.2 h)⟩
/-- The four ways of reading a line. -/
theorem line_bad {l : List Int} {n : Nat} {most : Int} (h : most < 0) : lineS l n most = (⟨#[]⟩, 2, n) := by unfold lineS; rw [if_pos h]
theorem line_ok {l : List Int} {n i : Nat} {most : Int} (hb : isBytes l) (hp : pairAt (l.drop n) i) (hn : ∀ j, j < i → ¬ pairAt (l.drop n) j) (hm : (i : Int) ≤ most) : lineS l n most = (strOfNums ((l.drop n).take i), 0, n + i + 2) := by
  have e := end_at (fun x hx => hb x (List.mem_of_mem_drop hx)) hp hn
  unfold lineS
  rw [if_neg (by omega), e, if_neg (by omega), if_neg (by omega), Int.toNat_natCast]
theorem line_far {l : List Int} {n : Nat} {most : Int} (hb : isBytes l) (hm : 0 ≤ most) (hn : ∀ j : Nat, (j : Int) ≤ most → ¬ pairAt (l.drop n) j) (hl : most < (trimN (l.drop n) : Int)) : lineS l n most = (⟨#[]⟩, 6, n) := by
  unfold lineS
  rw [if_neg (by omega)]
  rcases end_char (L := l.drop n) (fun x hx => hb x (List.mem_of_mem_drop hx)) with ⟨i, e, hp, _⟩ | ⟨e, _⟩
  · rw [e, if_pos]
    by_cases c : (i : Int) ≤ most
    · exact absurd hp (hn i c)
    · omega
  · rw [e, if_neg (by omega), if_pos (by decide), if_pos (decide_eq_true hl)]
theorem line_far2 {l : List Int} {n i : Nat} {most : Int} (hb : isBytes l) (hm : 0 ≤ most) (hn : ∀ j : Nat, (j : Int) ≤ most → ¬ pairAt (l.drop n) j) (hp : pairAt (l.drop n) i) : lineS l n most = (⟨#[]⟩, 6, n) := by
  unfold lineS
  rw [if_neg (by omega)]
  rcases end_char (L := l.drop n) (fun x hx => hb x (List.mem_of_mem_drop hx)) with ⟨j, e, hq, _⟩ | ⟨_, e⟩
  · rw [e, if_pos]
    by_cases c : (j : Int) ≤ most
    · exact absurd hq (hn j c)
    · omega
  · exact absurd hp (e i)
theorem line_more {l : List Int} {n : Nat} {most : Int} (hb : isBytes l) (hm : 0 ≤ most) (hn : ∀ j : Nat, ¬ pairAt (l.drop n) j) (hl : (trimN (l.drop n) : Int) ≤ most) : lineS l n most = (⟨#[]⟩, 5, n) := by
  unfold lineS
  rw [if_neg (by omega)]
  rcases end_char (L := l.drop n) (fun x hx => hb x (List.mem_of_mem_drop hx)) with ⟨j, e, hq, _⟩ | ⟨e, _⟩
  · exact absurd hq (hn j)
  · have q : decide (most < (trimN (l.drop n) : Int)) = false := decide_eq_false (by omega)
    rw [e, if_neg (by omega), if_pos (by decide), q]
    rfl
/-! #### the reference's way: byte by byte -/
theorem pair_drop {l : List Int} {n j : Nat} : pairAt (l.drop n) j ↔ pairAt l (n + j) := by
  unfold pairAt
  rw [List.getElem?_drop, List.getElem?_drop]
  exact Iff.rfl
/-- Up to a place no line ends, and none is too long. -/
def LnOk (l : List Int) (n : Nat) (most : Int) (i : Nat) : Prop := ∀ j, n ≤ j → j < i → ¬ pairAt l j ∧ ((j : Int) - n < most ∨ ((j : Int) - n = most ∧ j + 1 = l.length ∧ l[j]? = some 13))
theorem LnOk.start (l : List Int) (n : Nat) (most : Int) : LnOk l n most n := fun j h1 h2 => by omega
theorem LnOk.step {l : List Int} {n i : Nat} {most : Int} (h : LnOk l n most i) (hp : ¬ pairAt l i) (hs : (i : Int) - n < most ∨ ((i : Int) - n = most ∧ i + 1 = l.length ∧ l[i]? = some 13)) : LnOk l n most (i + 1) := fun j h1 h2 => by
  by_cases c : j < i
  · exact h j h1 c
  · have : j = i := by omega
    subst this
    exact ⟨hp, hs⟩
theorem ln_ok {l : List Int} {n i : Nat} {most : Int} (hb : isBytes l) (h : LnOk l n most i) (hn : n ≤ i) (hp : pairAt l i) (hm : (i : Int) - n ≤ most) : lineS l n most = (strOfNums ((l.take i).drop n), 0, i + 2) := by
  have e : n + (i - n) = i := by omega
  rw [line_ok (l := l) (n := n) (i := i - n) hb (pair_drop.2 (by rw [e]; exact hp)) (fun j hj hq => (h (n + j) (by omega) (by omega)).1 (pair_drop.1 hq)) (by omega), List.drop_take, e]
theorem ln_far {l : List Int} {n i : Nat} {most : Int} (hb : isBytes l) (h : LnOk l n most i) (hm0 : 0 ≤ most) (hl : i < l.length) (hm : most < (i : Int) - n) : lineS l n most = (⟨#[]⟩, 6, n) := by
  refine line_far hb hm0 (fun j hj hq => (h (n + j) (by omega) (by omega)).1 (pair_drop.1 hq)) ?_
  have := trim_len (L := l.drop n) (fun x hx => hb x (List.mem_of_mem_drop hx))
  have hd : (l.drop n).length = l.length - n := List.length_drop
  omega
theorem ln_form {l : List Int} {n i : Nat} {most : Int} (hb : isBytes l) (h : LnOk l n most i) (hn : n ≤ i) (hm0 : 0 ≤ most) (hl : i < l.length) (hm : most ≤ (i : Int) - n) (hp : ¬ pairAt l i) (hy : ¬ (l[i]? = some 13 ∧ i + 1 = l.length)) : lineS l n most = (⟨#[]⟩, 6, n) := by
  refine line_far hb hm0 (fun j hj hq => ?_) ?_
  · have hq := pair_drop.1 hq
    by_cases c : n + j < i
    · exact (h (n + j) (by omega) c).1 hq
    · exact hp (by rwa [show n + j = i by omega] at hq)
  · have ht := trim_len (L := l.drop n) (fun x hx => hb x (List.mem_of_mem_drop hx))
    have hd : (l.drop n).length = l.length - n := List.length_drop
    rcases ht with ⟨e, _⟩ | ⟨e, e2⟩
    · omega
    · by_cases c : i + 1 = l.length
      · refine absurd ⟨?_, c⟩ hy
        rw [List.getElem?_drop, hd] at e2
        rw [show n + (l.length - n - 1) = i by omega] at e2
        exact e2
      · omega
theorem ln_more {l : List Int} {n : Nat} {most : Int} (hb : isBytes l) (h : LnOk l n most l.length) (hn : n ≤ l.length) (hm0 : 0 ≤ most) : lineS l n most = (⟨#[]⟩, 5, n) := by
  refine line_more hb hm0 (fun j hq => ?_) ?_
  · have hq := pair_drop.1 hq
    exact (h (n + j) (by omega) (List.getElem?_eq_some_iff.1 hq.1).1).1 hq
  · have ht := trim_len (L := l.drop n) (fun x hx => hb x (List.mem_of_mem_drop hx))
    have hd : (l.drop n).length = l.length - n := List.length_drop
    by_cases c : n = l.length
    · omega
    · rcases (h (l.length - 1) (by omega) (by omega)).2 with h1 | ⟨h1, h2, h3⟩
      · omega
      · rcases ht with ⟨e, e2⟩ | ⟨e, e2⟩
        · refine absurd ⟨by omega, ?_⟩ e2
          rw [List.getElem?_drop, hd, show n + (l.length - n - 1) = l.length - 1 by omega]
          exact h3
        · omega
end Go.Proofs.Ytlpibchjcmndjab.Pure
