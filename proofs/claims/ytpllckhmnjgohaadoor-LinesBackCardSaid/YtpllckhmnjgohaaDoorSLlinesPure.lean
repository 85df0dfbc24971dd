import Derived.Test.YtpllckhmnjgohaaDoorSLlinesRows
namespace Go.Proofs.YtpllckhmnjgohaaDoor.P
open Go.RowKit Go.Proofs.YtpllckhmnjgohaaDoorW.PrintWords Go.Proofs.YtpllckhmnjgohaaDoorW.PrintLast Go.Proofs.YtpllckhmnjgohaaDoorW.PrintMore
set_option linter.unusedVariables false
set_option linter.unusedSimpArgs false
set_option linter.unnecessarySimpa false
attribute [local go_sem] max2_int min2_int max_two min_two max_three min_three max_four min_four
set_option linter.unusedVariables false
set_option linter.unusedSimpArgs false
set_option linter.unnecessarySimpa false
/-! ### what a text's lines are, byte by byte -/
def mkB (l : List UInt8) : ByteArray := ⟨l.toArray⟩
def lineR (line : List ByteArray) (word : List UInt8) (rem : Bool) (r : List UInt8) : List ByteArray :=
  if rem = true then line else line ++ ((fldG word r).map mkB).takeWhile (fun w => !(hashB w))
def resR (out : List (List ByteArray)) (line : List ByteArray) (word : List UInt8) (rem : Bool) (rest : List UInt8) : List (List ByteArray) :=
  match piecesL 10 rest with
  | [] => out
  | p :: ps => out ++ ((lineR line word rem p) :: ps.map (fun q => lineR [] [] false q)).filter (fun l => !l.isEmpty)
theorem splitT_res (s : ByteArray) : splitT s = resR [] [] [] false s.data.toList := by
  unfold splitT resR texts
  rw [List.map_map]
  have e : (countsT ∘ fun l : List UInt8 => (⟨l.toArray⟩ : ByteArray)) = fun q => lineR [] [] false q := by
    funext q
    show countsT ⟨q.toArray⟩ = _
    unfold countsT fieldsT lineR
    simp only [Bool.false_eq_true, if_false, List.nil_append]
    rfl
  rw [e]
  cases h : piecesL 10 s.data.toList with
  | nil => exact absurd h (piecesL_ne _ _)
  | cons p ps => rfl
theorem resR_end (out : List (List ByteArray)) (line : List ByteArray) (word : List UInt8) (rem : Bool) : resR out line word rem [] = out ++ [lineR line word rem []].filter (fun l => !l.isEmpty) := by
  unfold resR piecesL
  rfl
theorem resR_10 (out : List (List ByteArray)) (line : List ByteArray) (word : List UInt8) (rem : Bool) (xs : List UInt8) : resR out line word rem (10 :: xs) = resR (out ++ [lineR line word rem []].filter (fun l => !l.isEmpty)) [] [] false xs := by
  unfold resR
  rw [piecesL_same]
  cases h : piecesL 10 xs with
  | nil => exact absurd h (piecesL_ne _ _)
  | cons p ps =>
    simp only [List.map_cons, List.filter_cons, List.filter_nil, List.append_assoc]
    congr 1
    split <;> simp
theorem resR_b {b : UInt8} (hb : b ≠ 10) (out : List (List ByteArray)) {line line' : List ByteArray} {word word' : List UInt8} {rem rem' : Bool} (xs : List UInt8) (h : ∀ p, lineR line word rem (b :: p) = lineR line' word' rem' p) : resR out line word rem (b :: xs) = resR out line' word' rem' xs := by
  unfold resR
  cases e : piecesL 10 xs with
  | nil => exact absurd e (piecesL_ne _ _)
  | cons p ps =>
    rw [piecesL_step hb e]
    simp only [h p]
theorem lineR_rem (line : List ByteArray) (w w' : List UInt8) (r r' : List UInt8) : lineR line w true r = lineR line w' true r' := rfl
theorem fldG_head : ∀ (r cur : List UInt8), cur ≠ [] → ∃ x rest, fldG cur r = (cur ++ x) :: rest
  | [], cur, h => ⟨[], [], by rw [fldG, if_neg h]; simp⟩
  | b :: r, cur, h => by
    by_cases hb : b = 32
    · subst hb
      exact ⟨[], fldG [] r, by rw [fldG_end h]; simp⟩
    · obtain ⟨x, rest, e⟩ := fldG_head r (cur ++ [b]) (by simp)
      exact ⟨b :: x, rest, by rw [fldG_word hb, e]; simp⟩
theorem hashB_cons (b : UInt8) (l : List UInt8) : hashB (mkB (b :: l)) = (b == 35) := by
  show Lib.hasPrefix (b :: l) [35] = _
  unfold Lib.hasPrefix
  show ((35 : UInt8) == b && [].isPrefixOf l) = (b == 35)
  rw [show ([] : List UInt8).isPrefixOf l = true by cases l <;> rfl, Bool.and_true]
  by_cases h : b = 35
  · subst h; rfl
  · rw [beq_false_of_ne h, beq_false_of_ne (Ne.symm h)]
theorem lineR_gap0 (line : List ByteArray) (p : List UInt8) : lineR line [] false (32 :: p) = lineR line [] false p := by
  unfold lineR
  rw [fldG_gap]
theorem lineR_gap1 (line : List ByteArray) {b : UInt8} {w : List UInt8} (hb : b ≠ 35) (p : List UInt8) : lineR line (b :: w) false (32 :: p) = lineR (line ++ [mkB (b :: w)]) [] false p := by
  unfold lineR
  rw [fldG_end (by simp)]
  simp only [Bool.false_eq_true, if_false, List.map_cons, List.takeWhile, hashB_cons]
  rw [beq_false_of_ne hb]
  simp
theorem lineR_hash (line : List ByteArray) (p : List UInt8) : lineR line [] false (35 :: p) = lineR line [] true p := by
  unfold lineR
  rw [fldG_word (by decide)]
  obtain ⟨x, rest, e⟩ := fldG_head p ([] ++ [35]) (by simp)
  rw [e]
  simp only [Bool.false_eq_true, if_false, List.nil_append, List.cons_append, List.map_cons, List.takeWhile, hashB_cons]
  simp
theorem lineR_word (line : List ByteArray) (w : List UInt8) {b : UInt8} (hb : b ≠ 32) (p : List UInt8) : lineR line w false (b :: p) = lineR line (w ++ [b]) false p := by
  unfold lineR
  rw [fldG_word hb]
theorem lineR_done0 (line : List ByteArray) : lineR line [] false [] = line := by
  unfold lineR fldG
  simp
theorem lineR_done1 (line : List ByteArray) {b : UInt8} {w : List UInt8} (hb : b ≠ 35) : lineR line (b :: w) false [] = line ++ [mkB (b :: w)] := by
  unfold lineR fldG
  simp only [Bool.false_eq_true, if_false, if_neg (List.cons_ne_nil b w), List.map_cons, List.map_nil, List.takeWhile, hashB_cons]
  rw [beq_false_of_ne hb]
  simp
end Go.Proofs.YtpllckhmnjgohaaDoor.P
