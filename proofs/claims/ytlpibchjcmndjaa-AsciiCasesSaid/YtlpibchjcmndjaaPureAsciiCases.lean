/- The plain law of AsciiCases (postilionlaw02): the lower form has no great letter, is as long, and its own lower form; a word is its own lower form; no condition beyond the text's bound. -/
import Derived.Test.YtlpibchjcmndjaaStasciiCases
import Derived.Test.YtlpibchjcmndjaaPureAsciiWords
namespace Go.Proofs.Ytlpibchjcmndjaa.Pure
open Go.RowKit Go.Proofs.Ytlpibchjcmndjaa.P Go.Proofs.YtlpibchjcmndjaaW.PrintWords Go.Proofs.YtlpibchjcmndjaaW.PrintLast

theorem str_bytes (s : ByteArray) : strOfNums (bytesOf s) = s := by
  apply ByteArray.ext
  apply Array.ext'
  unfold strOfNums bytesOf
  simp only [List.map_map]
  conv => rhs; rw [← List.map_id s.data.toList]
  exact List.map_congr_left fun b _ => by simp
theorem bytes_str {l : List Int} (h : ∀ x ∈ l, 0 ≤ x ∧ x < 256) : bytesOf (strOfNums l) = l := by
  unfold strOfNums bytesOf
  simp only [List.map_map]
  conv => rhs; rw [← List.map_id l]
  apply List.map_congr_left
  intro x hx
  have := h x hx
  simp
  omega
theorem bytesOf_mem (s : ByteArray) : ∀ x ∈ bytesOf s, 0 ≤ x ∧ x < 256 := by
  intro x hx
  unfold bytesOf at hx
  obtain ⟨b, _, rfl⟩ := List.mem_map.1 hx
  exact ⟨Int.natCast_nonneg _, by have := b.toNat_lt; omega⟩
theorem lowB_byte {x : Int} (h : 0 ≤ x ∧ x < 256) : 0 ≤ lowB x ∧ lowB x < 256 := by
  unfold lowB
  split <;> omega
theorem lowB_twice (x : Int) : lowB (lowB x) = lowB x := by
  unfold lowB
  split
  · rw [if_neg (by omega)]
  · rfl
theorem lowB_small (x : Int) : ¬ (65 ≤ lowB x ∧ lowB x ≤ 90) := by
  unfold lowB
  split <;> omega
theorem lowB_letter {x : Int} (h : isL x = true) : lowB x = x := by
  unfold isL at h
  simp only [Bool.or_eq_true, Bool.and_eq_true, decide_eq_true_eq] at h
  unfold lowB
  rw [if_neg (by omega)]
theorem bytes_lowT (s : ByteArray) : bytesOf (lowT s) = (bytesOf s).map lowB := by
  unfold lowT
  refine bytes_str ?_
  intro x hx
  obtain ⟨y, hy, rfl⟩ := List.mem_map.1 hx
  exact lowB_byte (bytesOf_mem s y hy)
theorem lowT_size (s : ByteArray) : (lowT s).size = s.size := by
  rw [← bytesOf_length, bytes_lowT, List.length_map, bytesOf_length]
theorem lowT_twice (s : ByteArray) : lowT (lowT s) = lowT s := by
  show strOfNums ((bytesOf (lowT s)).map lowB) = lowT s
  rw [bytes_lowT, List.map_map]
  unfold lowT
  congr 1
  exact List.map_congr_left (fun x _ => lowB_twice x)
theorem AsciiCases : postilionlaw02_AsciiCases.Pure := by
  intro s _ hs
  have hsz := lowT_size s
  have hL1 : ascii_Lower.f s = some (lowT s) := by unfold ascii_Lower.f lowT; rw [if_pos (by omega)]
  have hL2 : ascii_Lower.f (lowT s) = some (lowT s) := by
    have := lowT_twice s
    unfold ascii_Lower.f
    rw [if_pos (by omega)]
    exact congrArg some this
  refine ⟨?_, hsz, by rw [lowT_twice], ?_, ?_⟩
  · intro k hk
    have e : ((((lowT s)[k]'hk).toNat : Nat) : Int) = (bytesOf (lowT s))[k]'(by rw [bytesOf_length]; exact hk) := by
      unfold bytesOf
      rw [List.getElem_map]
      rfl
    rw [e]
    have e2 : (bytesOf (lowT s))[k]'(by rw [bytesOf_length]; exact hk) = lowB ((bytesOf s)[k]'(by rw [bytesOf_length]; omega)) := by
      simp only [bytes_lowT, List.getElem_map]
    rw [e2]
    exact lowB_small _
  · unfold ascii_Same.f
    rw [hL1, hL2]
    simp
  · intro hw
    rw [show ascii_Word.f s = some (decide (1 ≤ s.size) && decide (s.size ≤ 8) && decide (Lib.idxFuncFrom noLetter true s s.size 0 < 0)) from rfl, idx_all s s.size 0 (by omega)] at hw
    have hw := Option.some.inj hw
    simp only [Bool.and_eq_true, decide_eq_true_eq, List.drop_zero, List.all_eq_true] at hw
    refine ⟨?_, hw.1.2⟩
    have : (bytesOf s).map lowB = bytesOf s := by
      conv => rhs; rw [← List.map_id (bytesOf s)]
      exact List.map_congr_left (fun x hx => lowB_letter (hw.2 x hx))
    unfold lowT
    rw [this, str_bytes]
end Go.Proofs.Ytlpibchjcmndjaa.Pure
