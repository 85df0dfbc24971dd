import Derived.Test.YtnlggkihjfobkaaPx6
import Derived.Test.YtnlggkihjfobkaaStsextetDecode
import Derived.Test.YtnlggkihjfobkaaPx3
namespace Go.Proofs.Ytnlggkihjfobkaa.Pure
open Go.RowKit Go.Proofs.Ytnlggkihjfobkaa.P Go.Proofs.YtnlggkihjfobkaaW.PrintWords Go.Proofs.YtnlggkihjfobkaaW.PrintLast

theorem wrap_id {x : Int} (h1 : -9223372036854775808 ≤ x) (h2 : x ≤ 9223372036854775807) : wrap64 x = x := by unfold wrap64; omega
/-- From some number of rounds on, that is told. -/
def Ev {α : Type} (F : Nat → Option α) (r : α) : Prop := ∃ K, ∀ k, K ≤ k → F k = some r
theorem Ev.succ {α : Type} {F : Nat → Option α} {r : α} (K : Nat) (h : ∀ q, K ≤ q → F (q + 1) = some r) : Ev F r :=
  ⟨K + 1, fun k hk => by obtain ⟨q, rfl⟩ : ∃ q, k = q + 1 := ⟨k - 1, by omega⟩; exact h q (by omega)⟩
/-- Numbers, as the program holds them. -/
def up (ns : List Nat) : List Int := ns.map fun (n : Nat) => (n : Int)
theorem up_length (ns : List Nat) : (up ns).length = ns.length := List.length_map _
theorem up_inj {l m : List Nat} (h : up l = up m) : l = m := by
  have e : ∀ l : List Nat, (up l).map Int.toNat = l := fun l => by simp [up, Function.comp_def]
  rw [← e l, ← e m, h]
theorem up_append (a b : List Nat) : up (a ++ b) = up a ++ up b := List.map_append
def Small (ns : List Nat) : Prop := ∀ n ∈ ns, n < 256
theorem small_cons {n : Nat} {ns : List Nat} (h : Small (n :: ns)) : n < 256 ∧ Small ns := ⟨h n List.mem_cons_self, fun x hx => h x (List.mem_cons_of_mem _ hx)⟩
theorem up_all {ns : List Nat} (h : Small ns) : (up ns).all (fun x => decide (0 ≤ x) && decide (x ≤ 255)) = true := by
  rw [List.all_eq_true]
  intro x hx
  obtain ⟨n, hn, rfl⟩ := List.mem_map.1 hx
  have := h n hn
  simp only [Bool.and_eq_true, decide_eq_true_eq]
  omega
theorem of_nums {l : List Int} (h : ∀ x ∈ l, ∃ n : Nat, x = (n : Int) ∧ n < 256) : ∃ ns, l = up ns ∧ Small ns := by
  refine ⟨l.map Int.toNat, ?_, fun n hn => ?_⟩
  · unfold up
    rw [List.map_map]
    conv => lhs; rw [← List.map_id l]
    refine List.map_congr_left fun x hx => ?_
    obtain ⟨n, rfl, _⟩ := h x hx
    simp
  · obtain ⟨x, hx, rfl⟩ := List.mem_map.1 hn
    obtain ⟨n, rfl, hb⟩ := h x hx
    rw [Int.toNat_natCast]
    exact hb
theorem of_wf {l : List Int} (h : ∀ x ∈ l, (Lit.int .u8 x).wf = true) : ∃ ns, l = up ns ∧ Small ns := of_nums fun x hx => by
  have h2 := h x hx
  simp only [Lit.wf, Bool.and_eq_true, decide_eq_true_eq] at h2
  have h3 : x ≤ 255 := h2.2
  have h4 : 0 ≤ x := h2.1
  exact ⟨x.toNat, by omega, by omega⟩
/-- The letter of a number. -/
def S (n : Nat) : UInt8 := sxLetter (n : Int)
/-- The text of bytes, three by three. -/
def encS : List Nat → List UInt8
  | [] => []
  | [a] => [S (a / 4), S (a % 4 * 16), 61, 61]
  | [a, b] => [S (a / 4), S (a % 4 * 16 + b / 16), S (b % 16 * 4), 61]
  | a :: b :: c :: r => S (a / 4) :: S (a % 4 * 16 + b / 16) :: S (b % 16 * 4 + c / 64) :: S (c % 64) :: encS r
theorem div64 (x c : Nat) : (x * 256 + c) / 64 = x * 4 + c / 64 := by omega
theorem mod64 (x c : Nat) : (x * 256 + c) % 64 = c % 64 := by omega
theorem take6a (a : Nat) : cutTake 6 8 a 0 0 = ([((a / 4 : Nat) : Int)], a % 4, 2) := by simp [cutTake, cutLoop]
theorem take6b (b h : Nat) : cutTake 6 8 b h 2 = ([(((h * 256 + b) / 16 : Nat) : Int)], (h * 256 + b) % 16, 4) := by
  unfold cutTake
  rw [show 2 + 8 = 4 + 6 from rfl, cut_more, cut_end _ _ _ _ (by decide)]
theorem take6c (c h : Nat) : cutTake 6 8 c h 4 = ([(((h * 256 + c) / 64 : Nat) : Int), (((h * 256 + c) % 64 : Nat) : Int)], 0, 0) := by
  have e : cutLoop 6 2 ((h * 256 + c) % 64) 6 = ([(((h * 256 + c) % 64 : Nat) : Int)], 0, 0) := by
    rw [show cutLoop 6 2 ((h * 256 + c) % 64) 6 = cutLoop 6 (1 + 1) ((h * 256 + c) % 64) (0 + 6) from rfl, cut_more, Nat.pow_zero, Nat.div_one, Nat.mod_one]
    rfl
  have e2 := cut_more 6 2 (h * 256 + c) 6
  rw [show 2 ^ 6 = 64 from rfl, e] at e2
  exact e2
theorem take6d (h : Nat) : (cutTake 6 4 0 h 2).1 = [((h * 16 : Nat) : Int)] := by
  unfold cutTake
  rw [show 2 + 4 = 0 + 6 from rfl, cut_more, cut_end _ _ _ _ (by decide)]
  simp
theorem take6e (h : Nat) : (cutTake 6 2 0 h 4).1 = [((h * 4 : Nat) : Int)] := by
  unfold cutTake
  rw [show 4 + 2 = 0 + 6 from rfl, cut_more, cut_end _ _ _ _ (by decide)]
  simp
theorem cut3 (a b c : Nat) (r : List Nat) : cutAll 6 8 (up (a :: b :: c :: r)) 0 0 = (((a / 4 : Nat) : Int) :: ((a % 4 * 16 + b / 16 : Nat) : Int) :: ((b % 16 * 4 + c / 64 : Nat) : Int) :: ((c % 64 : Nat) : Int) :: (cutAll 6 8 (up r) 0 0).1, (cutAll 6 8 (up r) 0 0).2) := by
  have e1 : (a % 4 * 256 + b) / 16 = a % 4 * 16 + b / 16 := by omega
  have e2 : (a % 4 * 256 + b) % 16 = b % 16 := by omega
  have e3 : (b % 16 * 256 + c) / 64 = b % 16 * 4 + c / 64 := div64 _ _
  have e4 : (b % 16 * 256 + c) % 64 = c % 64 := mod64 _ _
  show cutAll 6 8 ((a : Int) :: (b : Int) :: (c : Int) :: up r) 0 0 = _
  simp only [cutAll, Int.toNat_natCast, take6a, take6b, e1, e2, take6c, e3, e4]
  rfl
theorem sxEnc_eq : ∀ ns : List Nat, sxEnc (up ns) = encS ns
  | [] => rfl
  | [a] => by
    have e : cutAll 6 8 (up [a]) 0 0 = ([((a / 4 : Nat) : Int)], a % 4, 2) := by
      show cutAll 6 8 [(a : Int)] 0 0 = _
      simp only [cutAll, Int.toNat_natCast, take6a]
      rfl
    unfold sxEnc
    rw [up_length, e]
    show (_ ++ if 0 < 1 % 3 then (cutTake 6 (2 * (3 - 1 % 3)) 0 (a % 4) 2).1 else []).map sxLetter ++ _ = _
    rw [if_pos (by decide), show 2 * (3 - 1 % 3) = 4 from rfl, take6d]
    rfl
  | [a, b] => by
    have e1 : (a % 4 * 256 + b) / 16 = a % 4 * 16 + b / 16 := by omega
    have e2 : (a % 4 * 256 + b) % 16 = b % 16 := by omega
    have e : cutAll 6 8 (up [a, b]) 0 0 = ([((a / 4 : Nat) : Int), ((a % 4 * 16 + b / 16 : Nat) : Int)], b % 16, 4) := by
      show cutAll 6 8 [(a : Int), (b : Int)] 0 0 = _
      simp only [cutAll, Int.toNat_natCast, take6a, take6b, e1, e2]
      rfl
    unfold sxEnc
    rw [up_length, e]
    show (_ ++ if 0 < 2 % 3 then (cutTake 6 (2 * (3 - 2 % 3)) 0 (b % 16) 4).1 else []).map sxLetter ++ _ = _
    rw [if_pos (by decide), show 2 * (3 - 2 % 3) = 2 from rfl, take6e]
    rfl
  | a :: b :: c :: r => by
    have ih := sxEnc_eq r
    unfold sxEnc at ih ⊢
    rw [cut3]
    have e : (up (a :: b :: c :: r)).length % 3 = (up r).length % 3 := by rw [up_length, up_length]; simp only [List.length_cons]; omega
    rw [e]
    simp only [List.cons_append, List.map_cons]
    rw [ih]
    rfl
theorem encF {ns : List Nat} (h : Small ns) (hl : ns.length ≤ 100000) : sextet_Encode.f (up ns) = some ⟨(encS ns).toArray⟩ := by
  unfold sextet_Encode.f
  rw [if_pos ⟨up_all h, by rw [up_length]; exact hl⟩, sxEnc_eq]
theorem encS_len : ∀ ns : List Nat, (encS ns).length = (ns.length + 2) / 3 * 4
  | [] => rfl
  | [_] => by simp [encS]
  | [_, _] => by simp [encS]
  | a :: b :: c :: r => by
    have ih := encS_len r
    simp only [encS, List.length_cons, ih]
    omega
theorem encS_join (a b : List Nat) (h : a.length % 3 = 0) : encS (a ++ b) = encS a ++ encS b := by
  match a, h with
  | [], _ => rfl
  | [_], h => simp at h
  | [_, _], h => simp at h
  | x :: y :: z :: r, h =>
    have ih := encS_join r b (by simp only [List.length_cons] at h; omega)
    simp only [List.cons_append, encS]
    rw [ih]
/-! ### the numbers of letters -/
theorem num_letter (n : Nat) (h : n < 64) : dxNum (S n) = (n : Int) := by
  have : ∀ n : Fin 64, dxNum (S n.val) = (n.val : Int) := by decide +kernel
  exact this ⟨n, h⟩
theorem num_pad : dxNum 61 = -1 := by decide +kernel
theorem take8a (x : Nat) : cutTake 8 6 x 0 0 = ([], x, 6) := by simp [cutTake, cutLoop]
theorem take8b (x h : Nat) : cutTake 8 6 x h 6 = ([(((h * 64 + x) / 16 : Nat) : Int)], (h * 64 + x) % 16, 4) := by simp [cutTake, cutLoop]
theorem take8c (x h : Nat) : cutTake 8 6 x h 4 = ([(((h * 64 + x) / 4 : Nat) : Int)], (h * 64 + x) % 4, 2) := by simp [cutTake, cutLoop]
theorem take8d (x h : Nat) : cutTake 8 6 x h 2 = ([((h * 64 + x : Nat) : Int)], 0, 0) := by simp [cutTake, cutLoop, Nat.mod_one]
theorem dxNums_pad (r : List UInt8) : dxNums (61 :: r) = [] := dxNums_stop _ _ (by rw [num_pad]; decide)
theorem dxNums_S (n : Nat) (h : n < 64) (r : List UInt8) : dxNums (S n :: r) = (n : Int) :: dxNums r := by
  rw [dxNums_cons _ _ (by rw [num_letter n h]; exact Int.natCast_nonneg n), num_letter n h]
theorem dxOut_enc : ∀ ns : List Nat, Small ns → dxOut (encS ns) = up ns
  | [], _ => rfl
  | [a], hs => by
    have ha := (small_cons hs).1
    unfold dxOut encS
    rw [dxNums_S _ (by omega), dxNums_S _ (by omega), dxNums_pad]
    have e1 : (a / 4 * 64 + a % 4 * 16) / 16 = a := by omega
    simp only [cutAll, Int.toNat_natCast, take8a, take8b, e1]
    rfl
  | [a, b], hs => by
    have ha := (small_cons hs).1
    have hb := (small_cons (small_cons hs).2).1
    unfold dxOut encS
    rw [dxNums_S _ (by omega), dxNums_S _ (by omega), dxNums_S _ (by omega), dxNums_pad]
    have e1 : (a / 4 * 64 + (a % 4 * 16 + b / 16)) / 16 = a := by omega
    have e2 : (a / 4 * 64 + (a % 4 * 16 + b / 16)) % 16 = b / 16 := by omega
    have e3 : (b / 16 * 64 + b % 16 * 4) / 4 = b := by omega
    simp only [cutAll, Int.toNat_natCast, take8a, take8b, e1, e2, take8c, e3]
    rfl
  | a :: b :: c :: r, hs => by
    have ha := (small_cons hs).1
    have hb := (small_cons (small_cons hs).2).1
    have hc := (small_cons (small_cons (small_cons hs).2).2).1
    have ih := dxOut_enc r (small_cons (small_cons (small_cons hs).2).2).2
    unfold dxOut at ih ⊢
    unfold encS
    rw [dxNums_S _ (by omega), dxNums_S _ (by omega), dxNums_S _ (by omega), dxNums_S _ (by omega)]
    have e1 : (a / 4 * 64 + (a % 4 * 16 + b / 16)) / 16 = a := by omega
    have e2 : (a / 4 * 64 + (a % 4 * 16 + b / 16)) % 16 = b / 16 := by omega
    have e3 : (b / 16 * 64 + (b % 16 * 4 + c / 64)) / 4 = b := by omega
    have e4 : (b / 16 * 64 + (b % 16 * 4 + c / 64)) % 4 = c / 64 := by omega
    have e5 : c / 64 * 64 + c % 64 = c := by omega
    simp only [cutAll, Int.toNat_natCast, take8a, take8b, e1, e2, take8c, e3, e4, take8d, e5, ih]
    rfl
theorem encS_inj {a b : List Nat} (ha : Small a) (hb : Small b) (h : encS a = encS b) : a = b := by
  have h1 := dxOut_enc a ha
  rw [h, dxOut_enc b hb] at h1
  exact (up_inj h1).symm
/-! ### what is taken out of any text is bytes -/
theorem loop_out (wide k : Nat) : ∀ H M, H < 2 ^ M → ∀ x ∈ (cutLoop wide k H M).1, ∃ n : Nat, x = (n : Int) ∧ n < 2 ^ wide := by
  induction k with
  | zero => intro H M _ x hx; cases hx
  | succ k ih =>
    intro H M h1 x hx
    by_cases h : wide ≤ M
    · obtain ⟨M3, rfl⟩ : ∃ M3, M = M3 + wide := ⟨M - wide, by omega⟩
      rw [cut_more] at hx
      rcases List.mem_cons.1 hx with rfl | hx
      · exact ⟨_, rfl, Nat.div_lt_of_lt_mul (by rw [← Nat.pow_add]; exact h1)⟩
      · exact ih _ _ (Nat.mod_lt _ (Nat.two_pow_pos _)) x hx
    · rw [cut_end _ _ _ _ h] at hx
      cases hx
theorem all_out (l : List Int) (hl : ∀ x ∈ l, 0 ≤ x ∧ x < 64) : ∀ H M, H < 2 ^ M → M < 8 → (∀ x ∈ (cutAll 8 6 l H M).1, ∃ n : Nat, x = (n : Int) ∧ n < 256) ∧ (cutAll 8 6 l H M).1.length ≤ 3 * l.length := by
  induction l with
  | nil => intro H M _ _; exact ⟨fun x hx => (List.not_mem_nil hx).elim, Nat.zero_le _⟩
  | cons y r ih =>
    intro H M h1 h2
    have hy := hl y List.mem_cons_self
    have hi := cutTake_in 8 6 y.toNat H M ⟨by decide, by decide⟩ (by decide) (by show _ < 64; omega) h1 h2
    have hf := (cut_first H M 6 y.toNat (by decide) (by show _ < 64; omega) h1 h2).2
    obtain ⟨a, b⟩ := ih (fun x hx => hl x (List.mem_cons_of_mem _ hx)) _ _ hi.1 hi.2.1
    simp only [cutAll]
    refine ⟨fun x hx => ?_, ?_⟩
    · rcases List.mem_append.1 hx with hx | hx
      · exact loop_out 8 3 _ _ hf x hx
      · exact a x hx
    · rw [List.length_append, List.length_cons]
      have := hi.2.2
      omega
theorem dxOut_small (s : List UInt8) : ∃ ns, dxOut s = up ns ∧ Small ns ∧ ns.length ≤ 3 * s.length := by
  have h := all_out (dxNums s) (fun x hx => by
    unfold dxNums at hx
    have h1 := List.all_eq_true.1 List.all_takeWhile x hx
    have h2 := List.takeWhile_subset _ hx
    obtain ⟨c, _, rfl⟩ := List.mem_map.1 h2
    exact ⟨of_decide_eq_true h1, (dxNum_in c).2⟩) 0 0 (by decide) (by decide)
  obtain ⟨ns, e, hs⟩ := of_nums h.1
  refine ⟨ns, e, hs, ?_⟩
  have h2 := h.2
  rw [e, up_length] at h2
  have h3 : (dxNums s).length ≤ s.length := by
    unfold dxNums
    have := (List.takeWhile_sublist (fun x => decide (0 ≤ x)) (l := s.map dxNum)).length_le
    rw [List.length_map] at this
    exact this
  omega
/-- What Decode tells: the bytes whose text it is, or none. -/
theorem decF {s : ByteArray} (hs : s.size ≤ 10000) : (∀ ns, Small ns → s.data.toList = encS ns → sextet_Decode.f s = some (up ns, 0)) ∧ ((∀ ns, Small ns → s.data.toList ≠ encS ns) → sextet_Decode.f s = some ([], 6)) := by
  obtain ⟨ns, e, hn, hl⟩ := dxOut_small s.data.toList
  rw [data_length] at hl
  have hf : sextet_Decode.f s = some (if encS ns = s.data.toList then (up ns, 0) else ([], 6)) := by
    unfold sextet_Decode.f
    rw [if_pos (by omega), e, encF hn (by omega), Option.bind_some, ByteArray.toList_eq, ByteArray.toList_eq]
  refine ⟨fun ms hm h => ?_, fun h => ?_⟩
  · have : up ns = up ms := by rw [← e, h, dxOut_enc ms hm]
    have h2 : ns = ms := up_inj this
    rw [hf, h2, if_pos h.symm]
  · rw [hf, if_neg (fun h2 => h ns hn h2.symm)]
end Go.Proofs.Ytnlggkihjfobkaa.Pure
