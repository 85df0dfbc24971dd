import Derived.Test.YtpllckhmnjgohaaDoorSLseqN
import Derived.Lib.Bytealg
import Derived.IntWalk
import Derived.Test.YtpllckhmnjgohaaDoorShelf
import Derived.Test.YtpllckhmnjgohaaDoorPx0
import Derived.Shelf.Abstract
namespace Go.Proofs.YtpllckhmnjgohaaDoor.P
open Go Go.RowKit Go.Proofs.YtpllckhmnjgohaaDoorW.PrintWords Go.Proofs.YtpllckhmnjgohaaDoorW.PrintLast Go.Proofs.YtpllckhmnjgohaaDoorW.PrintMore
set_option linter.unusedVariables false
set_option linter.unusedSimpArgs false
set_option linter.unnecessarySimpa false
attribute [local go_sem] max2_int min2_int max_two min_two max_three min_three max_four min_four
/-- The pieces of a row between the bytes c. -/
def piecesL (c : UInt8) : List UInt8 → List (List UInt8)
  | [] => [[]]
  | x :: xs => if x = c then [] :: piecesL c xs else
      match piecesL c xs with
      | [] => [[x]]
      | p :: ps => (x :: p) :: ps
theorem piecesL_ne (c : UInt8) (l : List UInt8) : piecesL c l ≠ [] := by
  cases l with
  | nil => simp [piecesL]
  | cons x xs =>
    unfold piecesL
    split
    · simp
    · split <;> simp
theorem piecesL_same (c : UInt8) (xs : List UInt8) : piecesL c (c :: xs) = [] :: piecesL c xs := by
  rw [piecesL, if_pos rfl]
theorem piecesL_step {c x : UInt8} (h : x ≠ c) {xs : List UInt8} {p : List UInt8} {ps : List (List UInt8)} (e : piecesL c xs = p :: ps) : piecesL c (x :: xs) = (x :: p) :: ps := by
  rw [piecesL, if_neg h, e]
theorem piecesL_none (c : UInt8) : ∀ l : List UInt8, Lib.indexByte l c < 0 → piecesL c l = [l]
  | [], _ => rfl
  | x :: xs, h => by
    unfold Lib.indexByte at h
    by_cases hx : x = c
    · subst hx; simp at h
    · have hb : (x == c) = false := by simp [hx]
      rw [hb] at h
      have hg := Lib.indexByte_ge xs c
      have h2 : Lib.indexByte xs c < 0 := by
        by_cases h3 : (Lib.indexByte xs c == -1) = true
        · have : Lib.indexByte xs c = -1 := by simpa using h3
          omega
        · simp only [Bool.false_eq_true, if_false] at h
          rw [if_neg h3] at h
          omega
      exact piecesL_step hx (piecesL_none c xs h2)
theorem piecesL_some (c : UInt8) : ∀ (l : List UInt8) (i : Nat), Lib.indexByte l c = (i : Int) → piecesL c l = l.take i :: piecesL c (l.drop (i + 1)) ∧ i < l.length
  | [], i, h => by unfold Lib.indexByte at h; omega
  | x :: xs, i, h => by
    unfold Lib.indexByte at h
    by_cases hx : x = c
    · subst hx
      simp at h
      obtain rfl : i = 0 := by omega
      exact ⟨piecesL_same _ _, by simp⟩
    · have hb : (x == c) = false := by simp [hx]
      rw [hb] at h
      have hg := Lib.indexByte_ge xs c
      by_cases h3 : (Lib.indexByte xs c == -1) = true
      · simp only [Bool.false_eq_true, if_false] at h
        rw [if_pos h3] at h
        omega
      · simp only [Bool.false_eq_true, if_false] at h
        rw [if_neg h3] at h
        cases i with
        | zero => 
          have : Lib.indexByte xs c ≠ -1 := by simpa using h3
          omega
        | succ i =>
          obtain ⟨e, hl⟩ := piecesL_some c xs i (by omega)
          exact ⟨piecesL_step hx e, by simp; omega⟩

theorem bytes_take (r : ByteArray) (i : Nat) : (⟨(r.data.toList.take i).toArray⟩ : ByteArray) = r.extract 0 i := by
  apply ByteArray.ext
  apply Array.ext'
  rw [ByteArray.data_extract, Array.toList_extract]
  simp [List.extract]
theorem bytes_drop (r : ByteArray) (i : Nat) : (r.extract i r.size).data.toList = r.data.toList.drop i := by
  rw [ByteArray.data_extract, Array.toList_extract]
  simp [List.extract]
  rw [List.take_of_length_le]
  simp [data_length]
theorem drop_cons {α : Type} {l t : List α} {x d : α} {k : Nat} (h : x :: t = l.drop k) : k < l.length ∧ l.getD k d = x ∧ l.drop (k + 1) = t := by
  have hk : k < l.length := by
    rcases Nat.lt_or_ge k l.length with h1 | h1
    · exact h1
    · rw [List.drop_eq_nil_of_le h1] at h; cases h
  rw [List.drop_eq_getElem_cons hk] at h
  obtain ⟨rfl, rfl⟩ := List.cons.inj h
  exact ⟨hk, by rw [List.getD_eq_getElem?_getD, List.getElem?_eq_getElem hk]; rfl, rfl⟩
attribute [local go_sem] Oper.semAt_some
/-! ### strings.SplitSeq at a separator of one byte -/
def spSees (H : Nat) (c : UInt8) (s : ByteArray) (W : World) : Prop := Boxed W H 9 (.string s) ∧ Boxed W (H + 1) 9 (.string ⟨#[c]⟩) ∧ Boxed W (H + 2) 3 (.int .i64 0)
def spKeeps (H : Nat) (c : UInt8) (A B : World) : Prop := ∀ s, spSees H c s A → spSees H c s B
def spTurns (H : Nat) (A B : World) : Prop := ∃ v, B = A.setCell ⟨H, 0, none⟩ v
def texts (c : UInt8) (s : ByteArray) : List ByteArray := (piecesL c s.data.toList).map fun l => ⟨l.toArray⟩
theorem spSees.set {H : Nat} {c : UInt8} {s : ByteArray} {W : World} (h : spSees H c s W) (s' : ByteArray) : spSees H c s' (W.setCell ⟨H, 0, none⟩ (.string s')) :=
  ⟨h.1.set _, Boxed.other h.2.1 (by omega) _, Boxed.other h.2.2 (by omega) _⟩
def strLen : Option Value → Nat
  | some (.string s) => s.size
  | _ => 0
set_option maxRecDepth 100000 in
set_option maxHeartbeats 2000000 in
theorem sp_seq1 (H : Nat) (c : UInt8) (s : ByteArray) (n : Nat) (hn : 3 ≤ n) (lb : Nat) (J Jx : Nat → World → Prop) (W : World)
    (hT : ∀ k A B, spTurns H A B → J k A → J k B)
    (hY : ∀ k A, J k A → k < (texts c s).length → YieldAt Fence.wide (n - 1) Tryd.prog lb #[.string ((texts c s).getD k ByteArray.empty)] A fun e B =>
      (e = .returned (.bool true) ∧ J (k + 1) B ∧ spKeeps H c A B) ∨ (e = .returned (.bool false) ∧ Jx k B))
    (hS : spSees H c s W) (h0 : J 0 W) (hsz : s.size ≤ 1000000) :
    CallsIn Fence.wide n Tryd.prog 27 #[.func (.yield lb) #[] #[], .pointer (some ⟨H + 1, 0, none⟩), .pointer (some ⟨H, 0, none⟩), .pointer (some ⟨H + 2, 0, none⟩)] W fun e W' => (∃ v, e = .returned v) ∧
      (J (texts c s).length W' ∨ ∃ k, k < (texts c s).length ∧ Jx k W') := by
  refine callsIn_of_wp Tryd.func27 rfl trivial ?_ rfl
  simp only [Tryd.ntmps27, List.size_toArray, List.length_cons, List.length_nil, Nat.reduceAdd, Nat.reduceSub, Array.replicate_succ, Array.replicate_zero, List.push_toArray, List.append_toArray, List.nil_append, List.cons_append]
  have HS := Aside0.mk hS
  have HT := Aside0.mk hT
  have HY := Aside0.mk hY
  have H0 := Aside0.mk h0
  have cS := hS.1.cell
  have cP := hS.2.1.cell
  have cM := hS.2.2.cell
  clear hT hY h0 hS
  gi_wp2
  gi_loopw [7, 8] (fun _ _ wr => ∃ (k : Nat) (r : ByteArray), spSees H c r wr ∧ (piecesL c r.data.toList).map (fun l => (⟨l.toArray⟩ : ByteArray)) = (texts c s).drop k ∧ J k wr ∧ r.size ≤ s.size) (fun _ _ wr => strLen (wr.cell? ⟨H, 0, none⟩))
  case atStart => exact ⟨0, s, HS.out, rfl, H0.out, Nat.le_refl _⟩
  case round =>
    obtain ⟨k, r, hS, hr, hJ, hrs⟩ := hrel
    have IX := Tryd.strings_Index_one r c wr
    have cS := hS.1.cell
    have cP := hS.2.1.cell
    have cM := hS.2.2.cell
    have hge := Lib.indexByte_ge r.data.toList c
    by_cases hlt : Lib.indexByte r.data.toList c < 0
    · have e1 : Lib.indexByte r.data.toList c = -1 := by omega
      rw [e1] at IX
      rw [piecesL_none c _ hlt] at hr
      obtain ⟨hk, hg, hd⟩ := drop_cons (d := ByteArray.empty) hr
      have hlen : (texts c s).length = k + 1 := by
        have := List.drop_eq_nil_iff.1 hd
        omega
      obtain ⟨fn, tmps, assign, body, hy, hR⟩ := HY.out k wr hJ hk
      rw [hg] at hy
      have HL := Aside0.mk hlen
      clear e1 hge hlt hr hg hd hlen hJ hS hk
      gi_wp2
      refine ⟨trivial, fun h => (by cases h), (callsIn_wide.2 IX).mono ?_⟩
      rintro e w1 ⟨rfl, hw⟩
      obtain rfl := hw.symm
      gi_wp2
      refine ⟨fun h => (by cases h), hR.mono ?_⟩
      rintro e W3 (⟨rfl, hJ3, hk3⟩ | ⟨rfl, hJx3⟩)
      · have hJ4 := HL.out ▸ hJ3
        gi_wp2
        go_end0
        exact ⟨⟨_, rfl⟩, .inl hJ4⟩
      · have hJ4 := HL.out
        gi_wp2
        go_end0
        exact ⟨⟨_, rfl⟩, .inr ⟨k, by omega, hJx3⟩⟩
    · obtain ⟨i, hi⟩ : ∃ i : Nat, Lib.indexByte r.data.toList c = (i : Int) := ⟨(Lib.indexByte r.data.toList c).toNat, by omega⟩
      obtain ⟨hp, hil⟩ := piecesL_some c _ i hi
      rw [hi] at IX
      rw [hp] at hr
      obtain ⟨hk, hg, hd⟩ := drop_cons (d := ByteArray.empty) hr
      obtain ⟨fn, tmps, assign, body, hy, hR⟩ := HY.out k wr hJ hk
      rw [hg] at hy
      simp only [bytes_take] at hy
      have C0 := Aside0.mk cS
      have HSS := Aside0.mk hS
      have HD := Aside0.mk hd
      have HK := Aside0.mk hk
      have p1 : decide ((i : Int) < 0) = false := decide_eq_false (by omega)
      have hil2 : i < r.size := by rwa [← data_length]
      have q1 : wrap64 (i : Int) = (i : Int) := by unfold wrap64; omega
      have q2 : wrap64 ((i : Int) + 1) = ((i + 1 : Nat) : Int) := by unfold wrap64; omega
      clear hge hlt hr hg hd hJ hS hk hp hi hil
      gi_wp2
      refine ⟨trivial, fun h => (by cases h), (callsIn_wide.2 IX).mono ?_⟩
      rintro e w1 ⟨rfl, hw⟩
      obtain rfl := hw.symm
      gi_wp2
      refine ⟨fun h => (by cases h), hR.mono ?_⟩
      rintro e W3 (⟨rfl, hJ3, hk3⟩ | ⟨rfl, hJx3⟩)
      · have hS3 := hk3 _ HSS.out
        have c3 := hS3.1.cell
        have f3 := hS3.1.frozen
        have c4 := hS3.2.1.cell
        have HS3 := Aside0.mk hS3
        clear hS3 cS cP cM IX hy hR
        gi_wp2
        go_roundw
        case rel =>
          refine ⟨k + 1, r.extract (i + 1) r.size, HS3.out.set _, ?_, HT.out _ _ _ ⟨_, rfl⟩ hJ3, ?_⟩
          · rw [bytes_drop, HD.out]
          · rw [ByteArray.size_extract]; omega
        case measure =>
          rw [C0.out, (HS3.out.set _).1.cell]
          show (r.extract (i + 1) r.size).size < r.size
          rw [ByteArray.size_extract]
          omega
      · have hK := HK.out
        gi_wp2
        refine bodyPost_ret (results_none rfl _ _ _) rfl ?_
        exact ⟨⟨_, rfl⟩, .inr ⟨k, hK, hJx3⟩⟩
theorem sp_seqN (H : Nat) (c : UInt8) (s : ByteArray) (n : Nat) (hn : 3 ≤ n) (w : World) (hS : spSees H c s w) (hsz : s.size ≤ 1000000) :
    SeqN n Tryd.prog 27 #[.pointer (some ⟨H + 1, 0, none⟩), .pointer (some ⟨H, 0, none⟩), .pointer (some ⟨H + 2, 0, none⟩)] (texts c s) (spKeeps H c) (spTurns H) w := fun lb J Jx W hW hT hY h0 =>
  sp_seq1 H c s n hn lb J Jx W hT hY ⟨(hW.block _ hS.1.lt).trans hS.1, (hW.block _ hS.2.1.lt).trans hS.2.1, (hW.block _ hS.2.2.lt).trans hS.2.2⟩ h0 hsz
theorem spKeeps_t {H : Nat} {c : UInt8} {X Y Z : World} (h : spKeeps H c X Y) (k : spKeeps H c Y Z) : spKeeps H c X Z := fun s hb => k s (h s hb)
theorem spKeeps_b {H : Nat} {c : UInt8} (W : World) (l : Nat) (o o' : Obj) (h : W.heap[l]? = some o) (hc : o.isCells = false) : spKeeps H c W (W.putObj l o') := fun s hb => by
  have key : ∀ {B : Nat} {t : TypeId} {v : Value}, Boxed W B t v → Boxed (W.putObj l o') B t v := fun {B t v} hx => hx.kept (grownBy_putObj' W l o') (fun e => by
    have e1 : B = l := Option.some.inj e
    rw [← e1, show W.heap[B]? = _ from hx] at h
    cases h
    cases hc)
  exact ⟨key hb.1, key hb.2.1, key hb.2.2⟩
theorem spTurns_others {H : Nat} (A B : World) (h : spTurns H A B) (j : Nat) (o : Obj) (hj : A.heap[j]? = some o) (hc : o.isCells = false) : B.heap[j]? = some o := by
  obtain ⟨v, rfl⟩ := h
  exact (KeepsOthers.setCell A _ v).same j o hj hc
set_option maxHeartbeats 1000000 in
theorem sp_make (s : ByteArray) (c : UInt8) (W : World) : Calls Tryd.prog 22 #[.string s, .string ⟨#[c]⟩, .int .i64 0] W fun e W' => e = .returned (.func (.func 27) #[] #[.pointer (some ⟨W.heap.size + 1, 0, none⟩), .pointer (some ⟨W.heap.size, 0, none⟩), .pointer (some ⟨W.heap.size + 2, 0, none⟩)]) ∧ W' = ((W.alloc (.cells #[.string s] 9)).alloc (.cells #[.string ⟨#[c]⟩] 9)).alloc (.cells #[.int .i64 0] 3) := by
  go_enter Tryd.func22, Tryd.ntmps22
  go_wp2_with fail
  go_ret
  exact ⟨rfl, rfl⟩
set_option maxHeartbeats 1000000 in
theorem sp_SplitSeq (s : ByteArray) (c : UInt8) (W : World) : Calls Tryd.prog 13 #[.string s, .string ⟨#[c]⟩] W fun e W' => e = .returned (.func (.func 27) #[] #[.pointer (some ⟨W.heap.size + 1, 0, none⟩), .pointer (some ⟨W.heap.size, 0, none⟩), .pointer (some ⟨W.heap.size + 2, 0, none⟩)]) ∧ spSees W.heap.size c s W' ∧ Below W.heap.size W W' ∧ W'.heap.size = W.heap.size + 3 := by
  have M := sp_make s c W
  go_enter Tryd.func13, Tryd.ntmps13
  go_wp2_with (go_at_call 22; (with_reducible refine M.mono ?_); rintro e w1 ⟨rfl, hw1⟩)
  go_ret
  refine ⟨rfl, ?_, ?_, ?_⟩
  · refine ⟨((Boxed.new W _ _).alloc _).alloc _, ?_, ?_⟩
    · have := (Boxed.new (W.alloc (.cells #[.string s] 9)) 9 (.string ⟨#[c]⟩)).alloc (.cells #[.int .i64 0] 3)
      rwa [World.size_alloc] at this
    · have := Boxed.new ((W.alloc (.cells #[.string s] 9)).alloc (.cells #[.string ⟨#[c]⟩] 9)) 3 (.int .i64 0)
      rwa [World.size_alloc, World.size_alloc] at this
  · exact (((Below.refl _ W).alloc (Nat.le_refl _) _).alloc (by simp) _).alloc (by simp; omega) _
  · simp
end Go.Proofs.YtpllckhmnjgohaaDoor.P
