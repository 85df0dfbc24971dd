/- Plain law: the document's own way through a text, byte by byte, tells the lines that stand between its ends, or that there are none; no condition beyond the text's size. -/
import Derived.Test.YtpllckhmnjgohaaDoorLinesEvB
import Derived.Test.YtpllckhmnjgohaaDoorPx1
namespace Go.Proofs.YtpllckhmnjgohaaDoor.Pure
open Go.RowKit Go.Proofs.YtpllckhmnjgohaaDoor.P Go.Proofs.YtpllckhmnjgohaaDoorW.PrintWords Go.Proofs.YtpllckhmnjgohaaDoorW.PrintLast

theorem Ev.next {α : Type} {F : Nat → Option α} {r : α} {G : Nat → Option α} (n : Nat) (h : ∀ k, F (k + n) = G k) (hG : Ev G r) : Ev F r := by
  obtain ⟨K, hK⟩ := hG
  exact ⟨K + n, fun k hk => by obtain ⟨q, rfl⟩ : ∃ q, k = q + n := ⟨k - n, by omega⟩; rw [h]; exact hK q (by omega)⟩
section
variable {s : ByteArray} {out : List (List ByteArray)} {line : List ByteArray} {word : ByteArray} {rem : Bool} {i : Nat}
/-- A bad byte. -/
theorem st_bad (hi : i < s.size) (hm : bt s (i : Int) ≠ 10) (hb : bt s (i : Int) < 32 ∨ 126 < bt s (i : Int)) (k : Nat) : postilionref18_Split.l0 (k + 3) s out line word rem (i : Int) = some ([], 180) := by
  have h1 : (i : Int) ≤ (s.size : Int) := by omega
  have h2 : ¬ (i : Int) = (s.size : Int) := by omega
  have h3 : (0 : Int) ≤ (i : Int) := by omega
  have h4 : (i : Int) < (s.size : Int) := by omega
  rw [postilionref18_Split.l0, if_pos h1, if_neg h2, if_pos h3, if_pos h4, beq_false_of_ne hm, postilionref18_Split.j1, if_neg (by decide), if_pos h3, if_pos h4]
  rcases hb with hb | hb
  · rw [if_pos hb, postilionref18_Split.j2, if_pos rfl]
  · by_cases h5 : bt s (i : Int) < 32
    · rw [if_pos h5, postilionref18_Split.j2, if_pos rfl]
    · rw [if_neg h5, decide_eq_true (show bt s (i : Int) > 126 from hb), postilionref18_Split.j2, if_pos rfl]
/-- The state behind a word's end. -/
def endW (line : List ByteArray) (word : ByteArray) : List ByteArray := if word.toList = [] then line else line ++ [word]
theorem st_j3 (x8 : Int) (x9 : Bool) (hl : line.length < 8796093022208) (k : Nat) : postilionref18_Split.j3 (k + 1) s out line word rem x8 x9 false = postilionref18_Split.j5 k s out (endW line word) rem x8 x9 := by
  rw [postilionref18_Split.j3, if_neg (by decide)]
  unfold endW
  by_cases h : word.toList = []
  · rw [if_pos h, if_pos h]
  · rw [if_neg h, if_neg h, if_pos hl]
/-- A line's end: 10, or the text's. -/
def endL (out : List (List ByteArray)) (l : List ByteArray) : List (List ByteArray) := if l.length = 0 then out else out ++ [l]
theorem st_j5 (x8 : Int) (ho : out.length < 5864062014805) (k : Nat) : postilionref18_Split.j5 (k + 1) s out line rem x8 true = postilionref18_Split.l0 k s (endL out line) [] ⟨#[]⟩ false (wrap64 (x8 + 1)) := by
  rw [postilionref18_Split.j5, if_pos rfl]
  unfold endL
  by_cases h : line.length = 0
  · rw [if_neg (by omega), if_pos h]
  · rw [if_pos (by omega), if_pos ho, if_neg h]
theorem st_end (hl : line.length < 8796093022208) (ho : out.length < 5864062014805) (hs : s.size ≤ 4096) (k : Nat) : postilionref18_Split.l0 (k + 6) s out line word rem (s.size : Int) = some (endL out (endW line word), 0) := by
  rw [postilionref18_Split.l0, if_pos (Int.le_refl _), if_pos rfl, postilionref18_Split.j1, if_pos rfl, postilionref18_Split.j2, if_neg (by decide), if_pos rfl, st_j3 _ _ hl, st_j5 _ ho, postilionref18_Split.l0, if_neg (by unfold wrap64; omega)]
theorem st_10 (hi : i < s.size) (hm : bt s (i : Int) = 10) (hl : line.length < 8796093022208) (ho : out.length < 5864062014805) (hs : s.size ≤ 4096) (k : Nat) : postilionref18_Split.l0 (k + 5) s out line word rem (i : Int) = postilionref18_Split.l0 k s (endL out (endW line word)) [] ⟨#[]⟩ false ((i + 1 : Nat) : Int) := by
  have h1 : (i : Int) ≤ (s.size : Int) := by omega
  have h2 : ¬ (i : Int) = (s.size : Int) := by omega
  have h3 : (0 : Int) ≤ (i : Int) := by omega
  have h4 : (i : Int) < (s.size : Int) := by omega
  rw [postilionref18_Split.l0, if_pos h1, if_neg h2, if_pos h3, if_pos h4, hm, show ((10 : Int) == 10) = true by decide, postilionref18_Split.j1, if_pos rfl, postilionref18_Split.j2, if_neg (by decide), if_pos rfl, st_j3 _ _ hl, st_j5 _ ho, show wrap64 ((i : Int) + 1) = ((i + 1 : Nat) : Int) by unfold wrap64; omega]
theorem st_mid (hi : i < s.size) (hm : bt s (i : Int) ≠ 10) (h32 : 32 ≤ bt s (i : Int)) (h126 : bt s (i : Int) ≤ 126) (k : Nat) : postilionref18_Split.l0 (k + 3) s out line word rem (i : Int) = postilionref18_Split.j3 k s out line word rem (i : Int) false (bt s (i : Int) != 32) := by
  have h1 : (i : Int) ≤ (s.size : Int) := by omega
  have h2 : ¬ (i : Int) = (s.size : Int) := by omega
  have h3 : (0 : Int) ≤ (i : Int) := by omega
  have h4 : (i : Int) < (s.size : Int) := by omega
  rw [postilionref18_Split.l0, if_pos h1, if_neg h2, if_pos h3, if_pos h4, beq_false_of_ne hm, postilionref18_Split.j1, if_neg (by decide), if_pos h3, if_pos h4, if_neg (show ¬ bt s (i : Int) < 32 by omega), decide_eq_false (show ¬ bt s (i : Int) > 126 by omega), postilionref18_Split.j2, if_neg (by decide), if_neg (by decide), if_pos h3, if_pos h4]
theorem st_32 (hi : i < s.size) (hm : bt s (i : Int) = 32) (hl : line.length < 8796093022208) (hs : s.size ≤ 4096) (k : Nat) : postilionref18_Split.l0 (k + 5) s out line word rem (i : Int) = postilionref18_Split.l0 k s out (endW line word) ⟨#[]⟩ rem ((i + 1 : Nat) : Int) := by
  rw [st_mid hi (by rw [hm]; decide) (by rw [hm]; decide) (by rw [hm]; decide), hm, show ((32 : Int) != 32) = false by decide, st_j3 _ _ hl, postilionref18_Split.j5, if_neg (by decide), show wrap64 ((i : Int) + 1) = ((i + 1 : Nat) : Int) by unfold wrap64; omega]
theorem st_rem (hi : i < s.size) (h32 : 32 < bt s (i : Int)) (h126 : bt s (i : Int) ≤ 126) (hs : s.size ≤ 4096) (k : Nat) : postilionref18_Split.l0 (k + 5) s out line word true (i : Int) = postilionref18_Split.l0 k s out line word true ((i + 1 : Nat) : Int) := by
  have h3 : (0 : Int) ≤ (i : Int) := by omega
  have h4 : (i : Int) < (s.size : Int) := by omega
  have hw : wrap64 ((i : Int) + 1) = ((i + 1 : Nat) : Int) := by unfold wrap64; omega
  rw [st_mid hi (by omega) (by omega) h126, show (bt s (i : Int) != 32) = true from bne_iff_ne.2 (by omega), postilionref18_Split.j3, if_pos rfl]
  by_cases h : word.toList = []
  · rw [if_pos h, if_pos h3, if_pos h4, postilionref18_Split.j4]
    by_cases h5 : (bt s (i : Int) == 35) = true
    · rw [if_pos h5, hw]
    · rw [if_neg h5, if_pos rfl, hw]
  · rw [if_neg h, postilionref18_Split.j4, if_neg (by decide), if_pos rfl, hw]
theorem st_hash (hi : i < s.size) (hm : bt s (i : Int) = 35) (hw0 : word.toList = []) (hs : s.size ≤ 4096) (k : Nat) : postilionref18_Split.l0 (k + 5) s out line word false (i : Int) = postilionref18_Split.l0 k s out line word true ((i + 1 : Nat) : Int) := by
  have h3 : (0 : Int) ≤ (i : Int) := by omega
  have h4 : (i : Int) < (s.size : Int) := by omega
  have hw : wrap64 ((i : Int) + 1) = ((i + 1 : Nat) : Int) := by unfold wrap64; omega
  rw [st_mid hi (by omega) (by omega) (by omega), show (bt s (i : Int) != 32) = true from bne_iff_ne.2 (by omega), postilionref18_Split.j3, if_pos rfl, if_pos hw0, if_pos h3, if_pos h4, hm, show ((35 : Int) == 35) = true by decide, postilionref18_Split.j4, if_pos rfl, hw]
theorem st_word (hi : i < s.size) (h32 : 32 < bt s (i : Int)) (h126 : bt s (i : Int) ≤ 126) (hw0 : word.toList = [] → bt s (i : Int) ≠ 35) (hws : word.size ≤ 4096) (hs : s.size ≤ 4096) (k : Nat) : postilionref18_Split.l0 (k + 5) s out line word false (i : Int) = postilionref18_Split.l0 k s out line (word ++ s.extract i (i + 1)) false ((i + 1 : Nat) : Int) := by
  have h3 : (0 : Int) ≤ (i : Int) := by omega
  have h4 : (i : Int) < (s.size : Int) := by omega
  have hw : wrap64 ((i : Int) + 1) = ((i + 1 : Nat) : Int) := by unfold wrap64; omega
  have hz : (s.extract ((i : Int).toNat) (((i + 1 : Nat) : Int).toNat)).size ≤ 4096 := by
    rw [Int.toNat_natCast, Int.toNat_natCast, ByteArray.size_extract]
    omega
  have key : ∀ b, b = false → postilionref18_Split.j4 (k + 1) s out line word false (i : Int) b = postilionref18_Split.l0 k s out line (word ++ s.extract i (i + 1)) false ((i + 1 : Nat) : Int) := by
    rintro b rfl
    rw [postilionref18_Split.j4, if_neg (by decide), if_neg (by decide), if_pos h3, hw, if_pos (by omega), if_pos (by omega), if_pos (by omega), Int.toNat_natCast, Int.toNat_natCast]
  rw [st_mid hi (by omega) (by omega) h126, show (bt s (i : Int) != 32) = true from bne_iff_ne.2 (by omega), postilionref18_Split.j3, if_pos rfl]
  by_cases h : word.toList = []
  · rw [if_pos h, if_pos h3, if_pos h4]
    exact key _ (beq_false_of_ne (hw0 h))
  · rw [if_neg h]
    exact key _ rfl
end
theorem toList_data (w : ByteArray) : w.toList = w.data.toList := ByteArray.toList_eq w
theorem end_line {out : List (List ByteArray)} {line : List ByteArray} {word : ByteArray} {rem : Bool} (hr : rem = true → word.toList = []) (hh : ∀ b w, word.data.toList = b :: w → b ≠ 35) : endL out (endW line word) = out ++ [lineR line word.data.toList rem []].filter (fun l => !l.isEmpty) := by
  have e : endW line word = lineR line word.data.toList rem [] := by
    unfold endW
    cases rem with
    | true => rw [if_pos (hr rfl)]; rfl
    | false =>
      cases h : word.data.toList with
      | nil => rw [if_pos (by rw [toList_data, h]), lineR_done0]
      | cons b w =>
        rw [if_neg (by rw [toList_data, h]; simp), lineR_done1 _ (hh b w h), ← h]
        rfl
  rw [← e]
  unfold endL
  cases endW line word with
  | nil => simp
  | cons a l => simp
theorem bt_list (s : ByteArray) (i : Nat) (h : i < s.size) (h2 : i < s.data.toList.length) : bt s (i : Int) = ((s.data.toList[i]'h2).toNat : Int) := by
  have h3 := bt_at s (i : Int) (by simpa using h)
  rw [← h3]
  rfl
theorem word_more (word s : ByteArray) (i : Nat) (h : i < s.data.toList.length) : (word ++ s.extract i (i + 1)).data.toList = word.data.toList ++ [s.data.toList[i]'h] := by
  have e : (word ++ s.extract i (i + 1)).data = word.data ++ (s.extract i (i + 1)).data := ByteArray.data_append
  rw [e, Array.toList_append, ByteArray.data_extract, Array.toList_extract]
  congr 1
  simp only [List.extract]
  rw [List.drop_eq_getElem_cons h]
  simp
theorem endW_len (line : List ByteArray) (word : ByteArray) : (endW line word).length ≤ line.length + 1 := by
  unfold endW
  split <;> simp
theorem endL_len (out : List (List ByteArray)) (l : List ByteArray) : (endL out l).length ≤ out.length + 1 := by
  unfold endL
  split <;> simp
theorem ref_loop (s : ByteArray) (hs : s.size ≤ 4096) : ∀ (d i : Nat) (out : List (List ByteArray)) (line : List ByteArray) (word : ByteArray) (rem : Bool), s.size - i = d → i ≤ s.size → line.length ≤ i → out.length ≤ i → word.size ≤ i → (rem = true → word.toList = []) → (∀ b w, word.data.toList = b :: w → b ≠ 35) →
    Ev (fun k => postilionref18_Split.l0 k s out line word rem (i : Int)) (if (s.data.toList.drop i).all okB = true then (resR out line word.data.toList rem (s.data.toList.drop i), 0) else ([], 180)) := by
  intro d
  induction d with
  | zero =>
    intro i out line word rem hd hi hl ho hw hr hh
    obtain rfl : i = s.size := by omega
    have e0 : s.data.toList.drop s.size = [] := List.drop_eq_nil_of_le (by rw [data_length]; exact Nat.le_refl _)
    rw [e0, if_pos (show ([] : List UInt8).all okB = true from rfl), resR_end, ← end_line hr hh]
    exact ⟨6, fun k hk => by obtain ⟨q, rfl⟩ : ∃ q, k = q + 6 := ⟨k - 6, by omega⟩; exact st_end (by omega) (by omega) hs q⟩
  | succ d ih =>
    intro i out line word rem hd hi hl ho hw hr hh
    have hlt : i < s.size := by omega
    have h2 : i < s.data.toList.length := by rw [data_length]; exact hlt
    have hb := bt_list s i hlt h2
    rw [List.drop_eq_getElem_cons h2, List.all_cons]
    have hmore := word_more word s i h2
    generalize hB : (s.data.toList[i]'h2) = b at hb hmore
    cases hok : okB b with
    | false =>
      rw [Bool.false_and, if_neg (by decide)]
      obtain ⟨g1, g2⟩ := okB_bad hok
      exact ⟨3, fun k hk => by obtain ⟨q, rfl⟩ : ∃ q, k = q + 3 := ⟨k - 3, by omega⟩; exact st_bad hlt (by rw [hb]; omega) (by rw [hb]; omega) q⟩
    | true =>
      rw [Bool.true_and]
      by_cases h10 : b = 10
      · subst h10
        rw [resR_10, ← end_line hr hh]
        refine Ev.next 5 (st_10 hlt (by rw [hb]; rfl) (by omega) (by omega) hs) ?_
        have := endL_len out (endW line word)
        have h3 := ih (i + 1) (endL out (endW line word)) [] ⟨#[]⟩ false (by omega) (by omega) (by simp) (by omega) (by simp [ByteArray.size]) (fun h => by cases h) (fun b w h => by cases h)
        exact h3
      · have h10n : ¬ b.toNat = 10 := fun e => h10 (UInt8.toNat_inj.1 e)
        have hg := okB_good hok
        by_cases h32 : b = 32
        · subst h32
          refine Ev.next 5 (st_32 hlt (by rw [hb]; rfl) (by omega) hs) ?_
          have h3 := ih (i + 1) out (endW line word) ⟨#[]⟩ rem (by omega) (by omega) (by have := endW_len line word; omega) (by omega) (by simp [ByteArray.size]) (fun _ => by rw [toList_data]) (fun b w h => by cases h)
          rw [resR_b (by decide) out (line' := endW line word) (word' := []) (rem' := rem) (s.data.toList.drop (i + 1)) (fun p => ?_)]
          · exact h3
          · cases rem with
            | true =>
              unfold endW
              rw [if_pos (hr rfl)]
              rfl
            | false =>
              unfold endW
              cases h : word.data.toList with
              | nil => rw [if_pos (by rw [toList_data, h]), lineR_gap0]
              | cons c w =>
                rw [if_neg (by rw [toList_data, h]; simp), lineR_gap1 _ (hh c w h), ← h]
                rfl
        · have h32n : ¬ b.toNat = 32 := fun e => h32 (UInt8.toNat_inj.1 e)
          have q1 : 32 < bt s (i : Int) := by rw [hb]; omega
          have q2 : bt s (i : Int) ≤ 126 := by rw [hb]; omega
          cases rem with
          | true =>
            refine Ev.next 5 (st_rem hlt q1 q2 hs) ?_
            have h3 := ih (i + 1) out line word true (by omega) (by omega) (by omega) (by omega) (by omega) hr hh
            rw [resR_b h10 out (line' := line) (word' := word.data.toList) (rem' := true) (s.data.toList.drop (i + 1)) (fun p => rfl)]
            exact h3
          | false =>
            by_cases hha : word.toList = [] ∧ b = 35
            · obtain ⟨hw0, rfl⟩ := hha
              refine Ev.next 5 (st_hash hlt (by rw [hb]; rfl) hw0 hs) ?_
              have h3 := ih (i + 1) out line word true (by omega) (by omega) (by omega) (by omega) (by omega) (fun _ => hw0) hh
              have hd0 : word.data.toList = [] := by rw [← toList_data]; exact hw0
              rw [resR_b h10 out (line' := line) (word' := word.data.toList) (rem' := true) (s.data.toList.drop (i + 1)) (fun p => by rw [hd0]; exact lineR_hash line p)]
              exact h3
            · have hw0 : word.toList = [] → b ≠ 35 := fun h e => hha ⟨h, e⟩
              refine Ev.next 5 (st_word hlt q1 q2 (fun h e => hw0 h (by rw [hb] at e; exact UInt8.toNat_inj.1 (by rw [show (35 : UInt8).toNat = 35 from rfl]; omega))) (by omega) hs) ?_
              have hsz : (word ++ s.extract i (i + 1)).size ≤ i + 1 := by
                rw [ByteArray.size_append, ByteArray.size_extract]
                omega
              have h3 := ih (i + 1) out line (word ++ s.extract i (i + 1)) false (by omega) (by omega) (by omega) (by omega) hsz (fun h => by cases h) (fun c w h => by
                rw [hmore] at h
                cases h4 : word.data.toList with
                | nil =>
                  rw [h4] at h
                  obtain ⟨rfl, _⟩ := List.cons.inj h
                  exact hw0 (by rw [toList_data, h4])
                | cons c' w' =>
                  rw [h4] at h
                  obtain ⟨rfl, _⟩ := List.cons.inj h
                  exact hh _ _ h4)
              rw [hmore] at h3
              rw [resR_b h10 out (line' := line) (word' := word.data.toList ++ [b]) (rem' := false) (s.data.toList.drop (i + 1)) (fun p => lineR_word line _ h32 p)]
              exact h3
/-- The document's way tells what the program tells. -/
theorem refSplit_ev (s : ByteArray) : Ev (fun k => postilionref18_Split.f k s) (splL s, splE s) := by
  by_cases h : 4096 < s.size
  · have e : splE s = 3 := by unfold splE; rw [if_pos h]
    have e2 : splL s = [] := by unfold splL; rw [e, if_neg (by decide)]
    have h2 : (s.size : Int) > 4096 := by omega
    refine ⟨0, fun k _ => ?_⟩
    show (if (s.size : Int) > 4096 then _ else _) = _
    rw [if_pos h2, e, e2]
  · have h0 := ref_loop s (by omega) (s.size - 0) 0 [] [] ⟨#[]⟩ false rfl (Nat.zero_le _) (Nat.le_refl _) (Nat.le_refl _) (by simp [ByteArray.size]) (fun h => by cases h) (fun b w h => by cases h)
    obtain ⟨K, hK⟩ := h0
    refine ⟨K, fun k hk => ?_⟩
    have h2 : ¬ (s.size : Int) > 4096 := by omega
    show (if (s.size : Int) > 4096 then _ else _) = _
    rw [if_neg h2]
    refine (hK k hk).trans ?_
    rw [List.drop_zero]
    have e : splE s = if okT s = true then 0 else 180 := by unfold splE; rw [if_neg h]
    unfold splL
    rw [e]
    show some (if okT s = true then _ else _) = _
    cases okT s with
    | true => rw [if_pos rfl, if_pos rfl, if_pos rfl, splitT_res]
    | false => rfl
end Go.Proofs.YtpllckhmnjgohaaDoor.Pure
