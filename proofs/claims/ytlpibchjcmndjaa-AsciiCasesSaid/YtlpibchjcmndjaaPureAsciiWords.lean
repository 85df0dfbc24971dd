/- The statement AsciiWords (postilionlaw02): whether any text is a word, its lower form, and whether two are the same in that, is what the reference says; for every two texts; no condition. -/
import Derived.Test.YtlpibchjcmndjaaPx4
import Derived.Lib.DecodeN
namespace Go.Proofs.Ytlpibchjcmndjaa.Pure
open Go.RowKit Go.Proofs.Ytlpibchjcmndjaa.P Go.Proofs.YtlpibchjcmndjaaW.PrintWords Go.Proofs.YtlpibchjcmndjaaW.PrintLast

theorem wrap_id {x : Int} (h1 : -9223372036854775808 ≤ x) (h2 : x ≤ 9223372036854775807) : wrap64 x = x := by unfold wrap64; omega
/-- A letter of a word. -/
def isL (c : Int) : Bool := (decide (97 ≤ c) && decide (c ≤ 122)) || (decide (48 ≤ c) && decide (c ≤ 57))
theorem byte_at (s : ByteArray) (i : Nat) (h : i < s.size) : (bytesOf s)[i]'(by rw [bytesOf_length]; exact h) = ((s.get! i).toNat : Int) := by
  have h2 : s.get! i = s.data[i]'(by simpa using h) := by
    show s.data[i]! = _
    exact getElem!_pos s.data i (by simpa using h)
  rw [h2]
  unfold bytesOf
  rw [List.getElem_map]
  rfl
theorem bt_byte (s : ByteArray) (i : Nat) (h : i < s.size) : bt s (i : Int) = (bytesOf s)[i]'(by rw [bytesOf_length]; exact h) := by
  rw [← rd_bytesOf]
  unfold rd
  rw [List.getD_eq_getElem?_getD, Int.toNat_natCast, List.getElem?_eq_getElem (by rw [bytesOf_length]; exact h)]
  rfl
theorem decode_great (n b0 b1 b2 b3 : Nat) (h : 128 ≤ b0) : 128 ≤ (Lib.decodeN n b0 b1 b2 b3).1 := by
  unfold Lib.decodeN
  rw [if_neg (by omega)]
  repeat' split
  all_goals (simp only; omega)
theorem noLetter_great (c : Nat) (h : 128 ≤ c) : noLetter c = true := by
  unfold noLetter
  simp
  omega
theorem noLetter_is (c : Nat) : noLetter c = !isL (c : Int) := by
  unfold noLetter isL
  congr 1
  rw [Bool.eq_iff_iff]
  simp only [Bool.or_eq_true, Bool.and_eq_true, decide_eq_true_eq]
  omega
theorem isL_great (c : Int) (h : 128 ≤ c) : isL c = false := by
  unfold isL
  simp
  omega
theorem idx_all (s : ByteArray) : ∀ (f pos : Nat), s.size ≤ pos + f → decide (Lib.idxFuncFrom noLetter true s f pos < 0) = ((bytesOf s).drop pos).all isL := by
  intro f
  induction f with
  | zero =>
    intro pos h
    rw [List.drop_of_length_le (by rw [bytesOf_length]; omega)]
    rfl
  | succ f ih =>
    intro pos h
    unfold Lib.idxFuncFrom
    by_cases hp : pos < s.size
    · rw [if_pos hp, Lib.decode_at, List.drop_eq_getElem_cons (by rw [bytesOf_length]; exact hp), List.all_cons, byte_at s pos hp]
      by_cases hb : (s.get! pos).toNat < 128
      · have e : Lib.decodeN (s.size - pos) (s.get! pos).toNat (s.get! (pos + 1)).toNat (s.get! (pos + 2)).toNat (s.get! (pos + 3)).toNat = ((s.get! pos).toNat, 1) := by
          unfold Lib.decodeN
          rw [if_pos hb]
        rw [e]
        simp only
        rw [noLetter_is]
        cases hl : isL ((s.get! pos).toNat : Int) with
        | true =>
          rw [if_neg (by simp), ih (pos + 1) (by omega)]
          rfl
        | false =>
          rw [if_pos (by simp), decide_eq_false (by omega)]
          rfl
      · rw [if_pos (noLetter_great _ (decode_great _ _ _ _ _ (by omega))), decide_eq_false (by omega), isL_great _ (by omega)]
        rfl
    · rw [if_neg hp, List.drop_of_length_le (by rw [bytesOf_length]; omega)]
      rfl
theorem ref_word (s : ByteArray) (hs : s.size ≤ 1000) (d : Nat) : ∀ (k i : Nat), s.size - i = d → d < k → i ≤ s.size → postilionref02_Word.l0 k s (i : Int) = some (((bytesOf s).drop i).all isL && (decide (1 ≤ s.size) && decide (s.size ≤ 8))) := by
  induction d with
  | zero =>
    intro k i hd hk hi
    obtain ⟨k, rfl⟩ : ∃ q, k = q + 1 := ⟨k - 1, by omega⟩
    simp only [postilionref02_Word.l0]
    rw [if_neg (by omega), List.drop_of_length_le (by rw [bytesOf_length]; omega), List.all_nil, Bool.true_and]
    by_cases h1 : 1 ≤ s.size
    · rw [if_pos (by omega), decide_eq_true h1, Bool.true_and]
      congr 1
      simp only [decide_eq_decide]
      omega
    · rw [if_neg (by omega), decide_eq_false h1, Bool.false_and]
  | succ d ih =>
    intro k i hd hk hi
    obtain ⟨k, rfl⟩ : ∃ q, k = q + 1 := ⟨k - 1, by omega⟩
    have hil : i < s.size := by omega
    simp only [postilionref02_Word.l0]
    have hw : wrap64 ((i : Int) + 1) = ((i + 1 : Nat) : Int) := by rw [wrap_id (by omega) (by omega)]; omega
    rw [if_pos (by omega), if_pos (by omega), hw, ih k (i + 1) (by omega) (by omega) (by omega), List.drop_eq_getElem_cons (i := i) (by rw [bytesOf_length]; exact hil), List.all_cons, ← bt_byte s i hil]
    generalize bt s (i : Int) = c
    generalize (List.drop (i + 1) (bytesOf s)).all isL = t
    unfold isL
    by_cases h1 : c ≥ 97 <;> by_cases h2 : c ≥ 48 <;> by_cases h3 : c ≤ 122 <;> by_cases h4 : c ≤ 57 <;> simp [h1, h2, h3, h4]
theorem word_eq (s : ByteArray) (hs : s.size ≤ 100) : postilionref02_Word.f 2000 s = ascii_Word.f s := by
  unfold ascii_Word.f postilionref02_Word.f Lib.idxFunc
  have := ref_word s (by omega) s.size 2000 0 (by omega) (by omega) (by omega)
  rw [Int.natCast_zero] at this
  rw [this, idx_all s s.size 0 (by omega)]
  congr 1
  exact Bool.and_comm _ _
theorem ref_lower (s : ByteArray) (hs : s.size ≤ 1000) (d : Nat) : ∀ (k i : Nat), s.size - i = d → d < k → i ≤ s.size → postilionref02_Lower.l0 k s (((bytesOf s).take i).map lowB) (i : Int) = some (strOfNums ((bytesOf s).map lowB)) := by
  have hlen := bytesOf_length s
  induction d with
  | zero =>
    intro k i hd hk hi
    obtain ⟨k, rfl⟩ : ∃ q, k = q + 1 := ⟨k - 1, by omega⟩
    simp only [postilionref02_Lower.l0]
    rw [if_neg (by omega), List.take_of_length_le (by omega)]
  | succ d ih =>
    intro k i hd hk hi
    obtain ⟨k, rfl⟩ : ∃ q, k = q + 1 := ⟨k - 1, by omega⟩
    have hil : i < s.size := by omega
    simp only [postilionref02_Lower.l0]
    have hw : wrap64 ((i : Int) + 1) = ((i + 1 : Nat) : Int) := by rw [wrap_id (by omega) (by omega)]; omega
    have hl : (((bytesOf s).take i).map lowB).length < 140737488355328 := by rw [List.length_map, List.length_take]; omega
    have hn := ih k (i + 1) (by omega) (by omega) (by omega)
    rw [List.take_succ_eq_append_getElem (by omega), List.map_append, ← bt_byte s i hil] at hn
    have hr := bt_range s (i : Int)
    rw [if_pos (by omega), if_pos (by omega), hw]
    generalize bt s (i : Int) = c at hn hr ⊢
    by_cases h1 : c ≥ 65
    · rw [if_pos h1]
      by_cases h2 : c ≤ 90
      · rw [if_pos h2, if_pos hl, show (c + 32) % 256 = lowB c by unfold lowB; rw [if_pos ⟨h1, h2⟩]; omega]
        exact hn
      · rw [if_neg h2, if_pos hl]
        have e : lowB c = c := by unfold lowB; rw [if_neg (fun h => h2 h.2)]
        simp only [List.map_cons, List.map_nil, e] at hn
        exact hn
    · rw [if_neg h1, if_pos hl]
      have e : lowB c = c := by unfold lowB; rw [if_neg (fun h => h1 h.1)]
      simp only [List.map_cons, List.map_nil, e] at hn
      exact hn
theorem lower_eq (s : ByteArray) (hs : s.size ≤ 100) : postilionref02_Lower.f 2000 s = ascii_Lower.f s := by
  unfold ascii_Lower.f postilionref02_Lower.f
  rw [if_pos (by omega)]
  have := ref_lower s (by omega) s.size 2000 0 (by omega) (by omega) (by omega)
  rw [Int.natCast_zero] at this
  exact this
theorem lower_some (s : ByteArray) (hs : s.size ≤ 100) : ∃ r, ascii_Lower.f s = some r := by
  unfold ascii_Lower.f
  rw [if_pos (by omega)]
  exact ⟨_, rfl⟩
theorem AsciiWords : postilionlaw02_AsciiWords.Pure := by
  intro s t _ _
  refine ⟨2001, ?_⟩
  have done : postilionlaw02_AsciiWords.j0 2001 s t true = some true := by
    rw [show (2001 : Nat) = 2000 + 1 from rfl]
    simp only [postilionlaw02_AsciiWords.j0]
    rw [if_pos trivial]
  unfold postilionlaw02_AsciiWords.f
  by_cases c1 : (s.size : Int) > 100
  · rw [if_pos c1, done]
  rw [if_neg c1]
  by_cases c2 : (t.size : Int) > 100
  · rw [decide_eq_true c2, done]
  rw [decide_eq_false c2, show (2001 : Nat) = 2000 + 1 from rfl]
  simp only [postilionlaw02_AsciiWords.j0]
  obtain ⟨a, ha⟩ := lower_some s (by omega)
  obtain ⟨b, hb⟩ := lower_some t (by omega)
  obtain ⟨x, hx⟩ : ∃ x, ascii_Word.f s = some x := ⟨_, rfl⟩
  rw [if_neg (by simp), word_eq s (by omega), hx, lower_eq s (by omega), lower_eq t (by omega), ha, hb]
  unfold ascii_Same.f
  rw [ha, hb]
  simp
end Go.Proofs.Ytlpibchjcmndjaa.Pure
