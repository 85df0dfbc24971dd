-- Laid by sp.py, a program of this session's, out of the translation and the session's own stand-ins.
import Derived.Test.YtnndmbhfolgohaaDoorPx0
import Derived.Test.YtnndmbhfolgohaaDoorPx3
import Derived.Test.YtnndmbhfolgohaaDoorPx4
import Derived.Test.YtnndmbhfolgohaaDoorPx5
import Derived.Test.YtnndmbhfolgohaaDoorPx6
import Derived.Test.YtnndmbhfolgohaaDoorPx7
import Derived.Test.YtnndmbhfolgohaaDoorPx8
import Derived.Test.YtnndmbhfolgohaaDoorTokenRef
import Derived.Test.YtnndmbhfolgohaaDoorSLpairs
namespace Go.Proofs.YtnndmbhfolgohaaDoor.P
open Go.RowKit Go.Proofs.YtnndmbhfolgohaaDoorW.PrintWords Go.Proofs.YtnndmbhfolgohaaDoorW.PrintLast Go.Proofs.YtnndmbhfolgohaaDoorW.PrintMore
attribute [local go_sem] max2_int min2_int max_two min_two max_three min_three max_four min_four   -- for this text's walks alone
set_option linter.unusedVariables false
set_option linter.unusedSimpArgs false
set_option linter.unnecessarySimpa false

/-! ### TokenTells: a law by hand -/
def postilionlaw17_TokenTells.f (_own : ByteArray) (_l : List ByteArray) (_s : ByteArray) (c _m : Int) : Option Bool := if 0 ≤ c ∧ c < 256 then some true else none
theorem parL_le (s : ByteArray) (c : UInt8) (hs : s.size ≤ 1000000) : ∀ x ∈ parL s c, x.size ≤ 1000000 := by
  intro x hx
  unfold parL at hx
  split at hx
  · cases hx
  · split at hx
    · cases hx
    · split at hx
      · exact Nat.le_trans (texts_le hx) hs
      · cases hx
theorem parL_len (s : ByteArray) (c : UInt8) : (parL s c).length ≤ 8 := by
  unfold parL
  split
  · decide
  · split
    · decide
    · split
      · rename_i h
        exact (mayB_id h).1
      · decide
theorem strs_news {W : World} {b off : Nat} {l : List ByteArray} (hc : ∀ j, j < l.length → W.cell? ⟨b, off + j, none⟩ = some (.string (l.getD j ByteArray.empty))) : ∀ j u, (strs l)[j]? = some u → W.cell? ((⟨b, off, none⟩ : Addr).add j) = some u := fun j u hj => by
  unfold strs at hj
  rw [List.getElem?_map] at hj
  by_cases h : j < l.length
  · rw [List.getElem?_eq_getElem h] at hj
    have h2 := hc j h
    rw [List.getD_eq_getElem?_getD, List.getElem?_eq_getElem h] at h2
    have e : (⟨b, off, none⟩ : Addr).add j = ⟨b, off + j, none⟩ := by
      unfold Addr.add
      split
      · rename_i h0; subst h0; rfl
      · rfl
    rw [e, h2, ← hj]
    rfl
  · rw [List.getElem?_eq_none (by omega)] at hj
    cases hj
theorem strs_one (l : List ByteArray) : ∀ u ∈ strs l, u.oneCell' = true := fun u hu => by
  unfold strs at hu
  obtain ⟨x, _, rfl⟩ := List.mem_map.1 hu
  rfl
theorem strs_front {W : World} {A : Option Addr} {n : Nat} {l m : List ByteArray} (h : Kd.C Kd.string W A n (l ++ m)) : Kd.C Kd.string W A l.length l := by
  obtain ⟨h1, h2, h3⟩ := h
  refine ⟨rfl, by rw [List.length_append] at h1; omega, fun hp => ?_⟩
  obtain ⟨ad, e, hc⟩ := h3 (by rw [List.length_append] at h1; omega)
  refine ⟨ad, e, fun j p hj => hc j p ?_⟩
  have hjl : j < l.length := (List.getElem?_eq_some_iff.1 hj).1
  rw [List.getElem?_append_left hjl]
  exact hj
theorem own_form0 {W : World} {base : Nat} {v : Value} {n : Nat} {xs : List Value} {e : TypeId} (h : W.ownsRow base e 1 v n xs) : ∃ A q, v = .slice A n q := by
  rcases h.2 with ⟨e1, h0⟩ | ⟨g, cap, cur, e1, _⟩
  · exact ⟨none, 0, by rw [e1, h0]⟩
  · exact ⟨_, _, e1⟩
theorem own_at {W : World} {base n cap : Nat} {e : TypeId} {A : Option Addr} {xs : List Value} (h : W.ownsRow base e 1 (.slice A n cap) n xs) (i : Nat) (hi : i < n) : ∃ g u, A = some ⟨g, 0, none⟩ ∧ base ≤ g ∧ W.cell? ⟨g, i, none⟩ = some u ∧ W.frozen? ⟨g, i, none⟩ = false ∧ ∀ v, (W.setCell ⟨g, i, none⟩ v).ownsRow base e 1 (.slice (some ⟨g, 0, none⟩) n cap) n (xs.set i v) := by
  obtain ⟨hlen, hrest⟩ := h
  rcases hrest with ⟨e1, h0⟩ | ⟨g, cap2, cur, e1, hg, hh, hnc, hcm, hsz, htk⟩
  · omega
  · obtain ⟨rfl, _, rfl⟩ := Value.slice.inj e1
    rw [Nat.mul_one] at hsz htk
    refine ⟨g, cur[i]'(by omega), rfl, hg, by rw [Lib.cell_of_heap hh]; exact Array.getElem?_eq_getElem _, Lib.frozen_of_heap hh i, fun v => ⟨by rw [List.length_set]; exact hlen, .inr ⟨g, cap, _, rfl, hg, blk_set hh i v, hnc, hcm, by simpa using hsz, ?_⟩⟩⟩
    rw [Nat.mul_one, ← htk]
    simp [List.take_set]
set_option maxHeartbeats 1000000 in
/-- 'append([]string{}, l..)'. -/
theorem wt_copy {ops : Array Oper} {rest : List Oper} {o : Oper} {a : Act} {Q : Exit → Act → World → Prop} (hgd : o.guard = none) (s x : Operand)
    (ho : o.op = .call { callee := .builtin .append, args := #[s, x], argTypes := #[22, 22] })
    (base : Nat) {W : World} {B : Nat} (c : Nat) (A : Option Addr) (l : List ByteArray) (hs : a.eval s = .slice (some ⟨B, 0, none⟩) 0 0) (hB : W.heap[B]? = some (.cells #[] 9 (0, 0))) (hbB : base ≤ B)
    (hx : a.eval x = .slice A l.length c) (hC : Kd.C Kd.string W A l.length l) (hl : l.length ≤ 1000) (hbase : base ≤ W.heap.size)
    (h : ∀ A' c' W', W'.ownsRow base 9 1 (.slice A' l.length c') l.length (strs l) → W.grownBy W' (some B) → wpList Tryd.prog ops Q rest (a.put o.dst (.slice A' l.length c')) W') :
    wpList Tryd.prog ops Q (o :: rest) a W := by
  obtain ⟨i0, hi, hz0, hz1, hz2⟩ := info_parts infoStr
  have own0 : W.ownsRow base 9 1 (.slice (some ⟨B, 0, none⟩) 0 0) 0 [] := ⟨rfl, .inr ⟨B, 0, #[], rfl, hbB, hB, Nat.le_refl _, by decide, rfl, rfl⟩⟩
  rcases strs_ofC hC with rfl | ⟨b, off, rfl, _, hc⟩
  · cases A with
    | some ad =>
      refine wpList_append_own_at W hgd s x 22 ho base 9 i0 (.string ⟨#[]⟩) 1 16 Tryd.underlying22 hi hz0 hz1 hz2 rfl (by decide) _ 0 [] hs own0 ad 0 c [] hx rfl (fun j u hj => by simp at hj) (fun u hu => by cases hu) (by decide) (by decide) hbase ?_
      intro v' w' h1 h2 _ _
      obtain ⟨A2, c2, ev⟩ := own_form0 (xs := ([] : List Value)) h1
      subst ev
      exact h A2 c2 w' h1 h2
    | none =>
      refine wpList_plain hgd fun K hK => ?_
      have hr : (Builtin.append_ #[22, 22] o.type #[.slice (some ⟨B, 0, none⟩) 0 0, .slice none 0 c]).run Tryd.prog W = .ok (.slice (some ⟨B, 0, none⟩) 0 0) W := by
        simp [Builtin.append_, run_underlying Tryd.underlying22, sizeOf, typeInfo, hi, Builtin.lenOf, Builtin.firstCells, loadCells, loadCellsFrom, storeCells]
      unfold Oper.wp execOp
      simp only [ho, resolve, invoke, builtin, Sem.run_bind, Sem.run_pure, Result.andThen_ok, List.map_toArray, List.map_cons, List.map_nil, hs, hx, List.length_nil, hr]
      exact hK _ _ (h _ _ _ own0 ⟨rfl, rfl, rfl, Nat.le_refl _, fun _ _ _ => rfl⟩)
  · refine wpList_append_own_at W hgd s x 22 ho base 9 i0 (.string ⟨#[]⟩) 1 16 Tryd.underlying22 hi hz0 hz1 hz2 rfl (by decide) _ 0 [] hs own0 ⟨b, off, none⟩ l.length c (strs l) hx (by unfold strs; simp) (strs_news hc) (strs_one l) (by unfold maxLen; omega) (by omega) hbase ?_
    intro v' w' h1 h2 _ _
    rw [Nat.zero_add, List.nil_append] at h1
    obtain ⟨A2, c2, ev⟩ := own_form0 h1
    subst ev
    exact h A2 c2 w' h1 h2
set_option maxRecDepth 100000 in
set_option maxHeartbeats 16000000 in
theorem postilionlaw17_TokenTells.calls (own : ByteArray) (A1 : Option Addr) (c1 : Nat) (l : List ByteArray) (s : ByteArray) (c' most : Int) (r : Bool) (w : World) (hC0 : Kd.C Kd.string w A1 l.length l) (hc0 : l.length ≤ c1) (h : postilionlaw17_TokenTells.f own l s c' most = some r) (hT : Aside0 (r = true)) :
    Calls Tryd.prog 5 #[.string own, .slice A1 l.length c1, .string s, .int .u8 c', .int .i64 most] w fun e w' => e = .returned (.bool r) ∧ Below w.heap.size w w' := by
  obtain rfl := hT.out
  have hcr : 0 ≤ c' ∧ c' < 256 := by
    unfold postilionlaw17_TokenTells.f at h
    split at h
    · assumption
    · cases h
  obtain ⟨c, rfl⟩ : ∃ c : UInt8, c' = (c.toNat : Int) := ⟨UInt8.ofNat c'.toNat, by
    have e : (UInt8.ofNat c'.toNat).toNat = c'.toNat % 256 := by simp
    rw [e]
    omega⟩
  clear h hcr hT
  have G1 := tk_great (q := c1) l w hC0
  have HC := Aside0.mk hC0
  clear hC0
  cases hg : greatB l with
  | true =>
    rw [hg] at G1
    clear hg
    go_enter Tryd.func5, Tryd.ntmps5
    go_wp2_with (first | (go_at_call 7; (with_reducible refine G1.mono ?_); rintro e w2 ⟨rfl, d2⟩))
    go_ret
    exact ⟨rfl, d2.below⟩
  | false =>
    obtain ⟨h20, h100⟩ := greatB_no hg
    rw [hg] at G1
    clear hg
    by_cases ho : 100 < own.size
    · have p1 : decide ((100 : Int) < (own.size : Int)) = true := decide_eq_true (by omega)
      clear h100
      go_enter Tryd.func5, Tryd.ntmps5
      go_wp2_with (first | (go_at_call 7; (with_reducible refine G1.mono ?_); rintro e w2 ⟨rfl, d2⟩))
      go_ret
      exact ⟨rfl, d2.below⟩
    by_cases hs : 1000 < s.size
    · have p1 : decide ((100 : Int) < (own.size : Int)) = false := decide_eq_false (by omega)
      have p2 : decide ((1000 : Int) < (s.size : Int)) = true := decide_eq_true (by omega)
      clear h100
      go_enter Tryd.func5, Tryd.ntmps5
      go_wp2_with (first | (go_at_call 7; (with_reducible refine G1.mono ?_); rintro e w2 ⟨rfl, d2⟩))
      go_ret
      exact ⟨rfl, d2.below⟩
    have p1 : decide ((100 : Int) < (own.size : Int)) = false := decide_eq_false (by omega)
    have p2 : decide ((1000 : Int) < (s.size : Int)) = false := decide_eq_false (by omega)
    have hls : ∀ x ∈ l, x.size ≤ 1000000 := fun x hx => by have := h100 x hx; omega
    have HLS := Aside0.mk hls
    clear h100 hls
    have hpl := parL_len s c
    have hps := parL_le s c (by omega)
    obtain ⟨K1, hK1⟩ := Pure.refParse_ev s c (by omega)
    obtain ⟨K2, hK2⟩ := Pure.refPrint_ev l c (by omega) HLS.out
    obtain ⟨K3, hK3⟩ := Pure.refID_ev own (by omega)
    obtain ⟨K4, hK4⟩ := Pure.refMay_ev l (by omega) HLS.out
    obtain ⟨K5, hK5⟩ := Pure.refCheck_ev own l most (by omega) HLS.out
    have F1 := Aside0.mk (fun (W : World) => tk_Parse s c W (by omega))
    have F2 := Aside0.mk (fun (W : World) => postilionref17_Parse.calls K1 s (c.toNat : Int) (parL s c) (parE s c) W (hK1 K1 (Nat.le_refl _)))
    have F3 := Aside0.mk (fun (W : World) (A : Option Addr) (q : Nat) (hC : Kd.C Kd.string W A l.length l) (hq : l.length ≤ q) => tk_Print (q := q) l c W hC (by omega) hq HLS.out)
    have F4 := Aside0.mk (fun (W : World) (hb : Below w.heap.size w W) => postilionref17_Print.calls K2 A1 c1 l (c.toNat : Int) (priS l c) (priE l c) W (Kd.C_below HC.out hb) hc0 (hK2 K2 (Nat.le_refl _)))
    have F5 := Aside0.mk (fun (W : World) (A B : Option Addr) (p q : Nat) (hA : Kd.C Kd.string W A (parL s c).length (parL s c)) (hB : Kd.C Kd.string W B (parL s c).length (parL s c)) => tk_Same (p := p) (q := q) (parL s c) W hA hB (by omega))
    have F6 := Aside0.mk (fun (W : World) => tk_ID own W (by omega))
    have F7 := Aside0.mk (fun (W : World) => postilionref17_ID.calls K3 own (idB own) W (hK3 K3 (Nat.le_refl _)))
    have F8 := Aside0.mk (fun (W : World) (A : Option Addr) (q : Nat) (hC : Kd.C Kd.string W A l.length l) => tk_May (c := q) l W hC (by omega) HLS.out)
    have F9 := Aside0.mk (fun (W : World) (hb : Below w.heap.size w W) => postilionref17_May.calls K4 A1 c1 l (mayB l) W (Kd.C_below HC.out hb) hc0 (hK4 K4 (Nat.le_refl _)))
    have F10 := Aside0.mk (fun (W : World) (A : Option Addr) (q : Nat) (hC : Kd.C Kd.string W A l.length l) => tk_Check (c := q) own l most W hC (by omega) HLS.out)
    have F11 := Aside0.mk (fun (W : World) (hb : Below w.heap.size w W) => postilionref17_Check.calls K5 own A1 c1 l most (ckE own l most) W (Kd.C_below HC.out hb) hc0 (hK5 K5 (Nat.le_refl _)))
    have eln : (l ++ [own]).length = l.length + 1 := by simp
    have F12 := Aside0.mk (fun (W : World) (hb : Below w.heap.size w W) => postilionref17_Next.calls own A1 c1 l (l ++ [own]) W (Kd.C_below HC.out hb) hc0 (Pure.refNext own l (by omega)))
    have F13 : Aside0 (∀ (W : World) (A : Option Addr) (p : Nat) (B : Option Addr) (q base : Nat), W.ownsRow base 9 1 (.slice A (l.length + 1) p) (l.length + 1) (strs l ++ [.string own]) → Kd.C Kd.string W B (l ++ [own]).length (l ++ [own]) → Calls Tryd.prog 11 #[.slice A (l.length + 1) p, .slice B (l.length + 1) q] W fun e W' => e = .returned (.bool true) ∧ ∃ n, W' = W.drewN n) := ⟨fun W A p B q base ho hB => by
      have e1 : strs l ++ [.string own] = strs (l ++ [own]) := by unfold strs; rw [List.map_append]; rfl
      rw [e1, ← eln] at ho
      obtain ⟨A2, q2, e2, _, c2⟩ := strs_reads ho (by omega)
      obtain ⟨rfl, _, rfl⟩ := Value.slice.inj e2
      have h := tk_Same (p := p) (q := q) (l ++ [own]) W c2 hB (by omega)
      rw [eln] at h
      exact h⟩
    clear hK1 hK2 hK3 hK4 hK5
    generalize parL s c = PL at F1 F2 F5 hpl hps
    generalize parE s c = PE at F1 F2
    generalize priS l c = PS at F3 F4
    generalize priE l c = PP at F3 F4
    generalize idB own = IB at F6 F7
    generalize mayB l = MB at F8 F9
    generalize ckE own l most = CE at F10 F11
    clear hps
    have n1 : (PE != PE) = false := by simp
    have n2 : (PS.toList != PS.toList) = false := by simp
    have n3 : (PP != PP) = false := by simp
    have n4 : (IB != IB) = false := by simp
    have n5 : (MB != MB) = false := by simp
    have n6 : (CE != CE) = false := by simp
    go_enter Tryd.func5, Tryd.ntmps5
    go_wp2_with (first
      | (go_at_call 7; (with_reducible refine G1.mono ?_); rintro e w2 ⟨rfl, d2⟩; have b2 := d2.below; have c2 := Kd.C_below HC.out b2; clear G1 d2)
      | (at_builtin; refine wt_copy rfl _ _ rfl w2.heap.size c1 A1 l rfl (heap_alloc_new w2 _) (Nat.le_refl _) rfl (Kd.C_below c2 ((Below.refl _ w2).alloc (Nat.le_refl _) _)) (by omega) (by simp) ?_; intro A4 c4 w4 o4 g4; obtain ⟨A4', q4', e4, hq4, k4⟩ := strs_reads o4 (by omega); obtain ⟨rfl, _, rfl⟩ := Value.slice.inj e4; have b4 := pw_below_grown (balloc b2 _) _ (balloc b2 _).size g4 (fun k e => by { cases e; exact b2.size }); have X5 := F1.out w4; clear c2 o4 g4 e4)
      | (go_at_call 14; (with_reducible refine X5.mono ?_); rintro e w5 ⟨v5, rfl, o5, d5⟩; obtain ⟨A5, q5, rfl, hq5, k5⟩ := strs_reads o5 (by omega); have b5 := bnext b4 d5; have k4b := Kd.C_below k4 d5; have X6 := F2.out w5; clear X5 o5 d5 b4 k4)
      | (go_at_call 15; (with_reducible refine X6.mono ?_); rintro e w6 ⟨v6, rfl, o6, d6⟩; obtain ⟨A6, q6, rfl, hq6, k6⟩ := Kd.R_reads o6; have b6 := bnext b5 d6; have k4c := Kd.C_below k4b d6; have k5b := Kd.C_below k5 d6; have X7 := F3.out w6 _ _ k4c hq4; clear X6 o6 d6 b5 k4b k5)
      | (go_at_call 13; (with_reducible refine X7.mono ?_); rintro e w7 ⟨rfl, d7⟩; have b7 := bnext b6 d7; have k4d := Kd.C_below k4c d7; have k5c := Kd.C_below k5b d7; have k6b := Kd.C_below k6 d7; have X8 := F4.out w7 b7; clear X7 d7 b6 k4c k5b k6)
      | (go_at_call 16; (with_reducible refine X8.mono ?_); rintro e w8 ⟨rfl, d8⟩; have b8 := bnext b7 d8; have k4e := Kd.C_below k4d d8; have k5d := Kd.C_below k5c d8; have k6c := Kd.C_below k6b d8; have X9 := F5.out w8 A5 A6 q5 q6 k5d k6c; clear X8 d8 b7 k4d k5c k6b)
      | (go_at_call 11; (with_reducible refine X9.mono ?_); rintro e w9 ⟨rfl, n9, hw9⟩; have d9 : Below w8.heap.size w8 w9 := by { rw [hw9]; exact pw_below_drewN (Below.refl _ _) n9 }; have b9 := bnext b8 d9; have k4f := Kd.C_below k4e d9; have X10 := F6.out w9; clear X9 hw9 d9 b8 k4e k5d k6c)
      | (go_at_call 8; (with_reducible refine X10.mono ?_); rintro e w10 ⟨rfl, d10⟩; have b10 := bnext b9 d10.below; have k4g := Kd.C_below k4f d10.below; have X11 := F7.out w10; clear X10 d10 b9 k4f)
      | (go_at_call 17; (with_reducible refine X11.mono ?_); rintro e w11 ⟨rfl, d11⟩; have b11 := bnext b10 d11.below; have k4h := Kd.C_below k4g d11.below; have X12 := F8.out w11 _ c4 k4h; clear X11 d11 b10 k4g)
      | (go_at_call 12; (with_reducible refine X12.mono ?_); rintro e w12 ⟨rfl, d12⟩; have b12 := bnext b11 d12.below; have k4i := Kd.C_below k4h d12.below; have X13 := F9.out w12 b12; clear X12 d12 b11 k4h)
      | (go_at_call 18; (with_reducible refine X13.mono ?_); rintro e w13 ⟨rfl, d13⟩; have b13 := bnext b12 d13.below; have k4j := Kd.C_below k4i d13.below; have X14 := F10.out w13 _ c4 k4j; clear X13 d13 b12 k4i)
      | (go_at_call 9; (with_reducible refine X14.mono ?_); rintro e w14 ⟨rfl, d14⟩; have b14 := bnext b13 d14.below; have k4k := Kd.C_below k4j d14.below; have X15 := F11.out w14 b14; clear X14 d14 b13 k4j)
      | (go_at_call 19; (with_reducible refine X15.mono ?_); rintro e w15 ⟨rfl, d15⟩; have b15 := bnext b14 d15.below; have k4l := Kd.C_below k4k d15.below; have X16 := tk_Next (c := l.length) own l w15 k4l (by omega); have b15s := b15.size; clear X15 d15 b14 k4k)
      | (go_at_call 10; (with_reducible refine X16.mono ?_); rintro e w16 ⟨v16, rfl, o16, d16⟩; obtain ⟨A16, q16, rfl⟩ := own_form0 o16; have b16 := bnext b15 d16; have e16 := d16; have k4m := Aside0.mk k4l; have O16 := Aside0.mk o16; have X17 := F12.out w16 b16; clear X16 o16 b15 d16 k4l)
      | (go_at_call 20; (with_reducible refine X17.mono ?_); rintro e w17 ⟨v17, rfl, o17, d17⟩; obtain ⟨A17, q17, rfl, hq17, k17⟩ := Kd.R_reads o17; have b17 := bnext b16 d17; have e17 := bnext e16 d17; have O17 := Aside0.mk (pw_own_below O16.out d17); have X18 := F13.out w17 A16 q16 A17 q17 w15.heap.size O17.out k17; clear X17 o17 b16 e16)
      | (go_at_call 11; (with_reducible refine X18.mono ?_); rintro e w18 ⟨rfl, n18, hw18⟩; have d18 : Below w17.heap.size w17 w18 := by { rw [hw18]; exact pw_below_drewN (Below.refl _ _) n18 }; have b18 := bnext b17 d18; have e18 := Aside0.mk (bnext e17 d18); have O18 := Aside0.mk (pw_own_below O17.out d18); have B18 := Aside0.mk b18; clear X18 hw18 b17 e17 k17))
    have HB15 := Aside0.mk (b15s)
    go_loopw [22] (fun iv wr => ∃ (i : Nat) (xs : List ByteArray), i ≤ l.length + 1 ∧ iv = .int .i64 (i : Int) ∧ xs.length = l.length + 1 ∧ Aside0 (wr.ownsRow w15.heap.size 9 1 (.slice A16 (l.length + 1) q16) (l.length + 1) (strs xs)) ∧ Aside0 (Below w15.heap.size w15 wr) ∧ Below w.heap.size w wr) (fun iv _ => l.length + 1 - (intOf iv).toNat)
    case atStart => exact ⟨0, l ++ [own], Nat.zero_le _, rfl, eln, ⟨by have h := O18.out; have e1 : strs l ++ [.string own] = strs (l ++ [own]) := by { unfold strs; rw [List.map_append]; rfl }; rwa [e1] at h⟩, e18, B18.out⟩
    case round =>
      obtain ⟨i, xs, hi, rfl, hxl, hO, hK, hB⟩ := hrel
      by_cases hlt : i < l.length + 1
      · have p3 : decide ((i : Int) < ((l.length : Int) + 1)) = true := decide_eq_true (by omega)
        have p4 : decide ((i : Int) < ((l.length + 1 : Nat) : Int)) = true := decide_eq_true (by omega)
        obtain ⟨g, u, rfl, hg, hcu, hfu, hset⟩ := own_at hO.out i (by omega)
        have HSET := Aside0.mk hset
        have i1 : (0 : Int) ≤ (i : Int) := by omega
        have i2 : (i : Int) < ((l.length + 1 : Nat) : Int) := by omega
        have i3 : (i : Int) < (l.length : Int) + 1 := by omega
        clear hset
        have HW := Aside0.mk hK.out.size
        go_wp2_with fail
        refine ⟨⟨i + 1, xs.set i ⟨#[115, 112, 111, 105, 108, 116]⟩, by omega, by simp, by rw [List.length_set]; exact hxl, ⟨?_⟩, ⟨hK.out.setCell (p := ⟨g, i, none⟩) hg _⟩, hB.setCell (p := ⟨g, i, none⟩) (Nat.le_trans HB15.out hg) _⟩, by simp [intOf]; omega⟩
        have := HSET.out (.string ⟨#[115, 112, 111, 105, 108, 116]⟩)
        have e2 : (strs xs).set i (.string ⟨#[115, 112, 111, 105, 108, 116]⟩) = strs (xs.set i ⟨#[115, 112, 111, 105, 108, 116]⟩) := by unfold strs; rw [List.map_set]
        rwa [e2] at this
      · have p3 : decide ((i : Int) < ((l.length : Int) + 1)) = false := decide_eq_false (by omega)
        have HK4 := Aside0.mk (Kd.C_below k4m.out hK.out)
        have HCC := Kd.C_below HC.out hB
        have HB0 := Aside0.mk hB
        clear hO hK hB
        obtain ⟨i0, hi0, hz0, hz1, hz2⟩ := info_parts infoStr
        have elk : (l ++ [(⟨#[107, 101, 112, 116]⟩ : ByteArray)]).length = l.length + 1 := by simp
        have snk : strs l ++ [.string ⟨#[107, 101, 112, 116]⟩] = strs (l ++ [⟨#[107, 101, 112, 116]⟩]) := by unfold strs; rw [List.map_append]; rfl
        have rdk : rdOf ByteArray.empty (l ++ [(⟨#[107, 101, 112, 116]⟩ : ByteArray)]) (l.length : Int) = ⟨#[107, 101, 112, 116]⟩ := by
          unfold rdOf
          rw [Int.toNat_natCast, List.getD_eq_getElem?_getD, List.getElem?_append_right (Nat.le_refl _)]
          simp
        go_wp2_with (first
          | (at_builtin; refine wt_copy rfl _ _ rfl wr.heap.size c1 A1 l rfl (heap_alloc_new wr _) (Nat.le_refl _) rfl (Kd.C_below HCC ((Below.refl _ wr).alloc (Nat.le_refl _) _)) (by omega) (by simp) ?_; intro A20 c20 w20 o20 g20; have b20 := pw_below_grown (balloc HB0.out _) _ (balloc HB0.out _).size g20 (fun k e => by { cases e; exact HB0.out.size }); have f20 := pw_below_grown ((Below.refl wr.heap.size wr).alloc (Nat.le_refl _) (.cells #[] 9)) _ (by simp) g20 (fun k e => by { cases e; exact Nat.le_refl _ }); have k20 := Kd.C_below HK4.out f20; have s20 := f20.size; have O20 := Aside0.mk (o20.alloc (.cells #[.string ⟨#[107, 101, 112, 116]⟩] 9)); have N20 := Aside0.mk (World.news_of_block (cs := #[.string ⟨#[107, 101, 112, 116]⟩]) (heap_alloc_new w20 (.cells #[.string ⟨#[107, 101, 112, 116]⟩] 9))); clear g20 o20)
          | (at_builtin; refine wpList_append_own_at _ rfl _ _ 22 rfl wr.heap.size 9 i0 (.string ⟨#[]⟩) 1 16 Tryd.underlying22 hi0 hz0 hz1 hz2 rfl (by decide) _ _ _ rfl O20.out ⟨w20.heap.size, 0, none⟩ 1 1 [.string ⟨#[107, 101, 112, 116]⟩] rfl rfl N20.out (by simp [Value.oneCell']) (by unfold maxLen; omega) (by omega) (by simp; omega) ?_; intro v21 w21 o21 g21 _ _; have hkb := own_base O20.out; have b21 := pw_below_grown (balloc b20 _) _ (balloc b20 _).size g21 (fun k e => Nat.le_trans HB0.out.size (hkb k e)); have f21 := pw_below_grown (f20.alloc f20.size (.cells #[.string ⟨#[107, 101, 112, 116]⟩] 9)) _ (f20.alloc f20.size (.cells #[.string ⟨#[107, 101, 112, 116]⟩] 9)).size g21 (fun k e => hkb k e); obtain ⟨A21, q21, ev21, hq21, c21⟩ := strs_reads (l := l ++ [⟨#[107, 101, 112, 116]⟩]) (by { rw [elk, ← snk]; exact o21 }) (by { rw [elk]; omega }); rw [elk] at ev21 hq21 c21; subst ev21; have HC21 := Aside0.mk c21; have k21 := Aside0.mk (Kd.C_below HK4.out f21); have X22 := tk_Next (c := q21) own l w21 (strs_front c21) (by omega); have j1 : (0 : Int) ≤ (l.length : Int) := by { omega }; have j2 : (l.length : Int) ≤ (q21 : Int) := by { omega }; clear g21 o21 hkb c21 f21 k20 f20)
          | (go_at_call 10; (with_reducible refine X22.mono ?_); rintro e w22 ⟨v22, rfl, _, d22⟩; have b22 := bnext b21 d22; have X23 := tk_Same (p := c4) (q := c1) l w22 (Kd.C_below k21.out d22) (Kd.C_below HC.out b22) (by omega); have HC22 := Aside0.mk (Kd.C_below HC21.out d22); clear X22 b21 d22)
          | (go_at_call 11; (with_reducible refine X23.mono ?_); rintro e w23 ⟨rfl, n23, hw23⟩; have d23 : Below w22.heap.size w22 w23 := by { rw [hw23]; exact pw_below_drewN (Below.refl _ _) n23 }; have b23 := bnext b22 d23; obtain ⟨a24, e24, c24⟩ := Kd.at_string (Kd.C_below HC22.out d23) (l.length : Int) (by omega) (by omega); subst e24; rw [rdk, Int.toNat_natCast] at c24; have j3 : (l.length : Int) < ((l.length + 1 : Nat) : Int) := by { omega }; have j4 : (l.length : Int) < (l.length : Int) + 1 := by { omega }; clear X23 hw23 b22))
        go_ret
        exact ⟨rfl, b23⟩

/-- THE ONE PURE STATEMENT of postilionlaw17_TokenTells: yours. -/
def postilionlaw17_TokenTells.Pure : Prop := ∀ (a0 : ByteArray) (l1 : List ByteArray) (a2 : ByteArray) (a3 : Int) (a4 : Int), a0.size ≤ 140737488351232 → l1.length ≤ maxLen → (∀ y_ ∈ l1, (y_.size ≤ 9223372036854775807)) → a2.size ≤ 140737488351232 → (Lit.int .u8 a3).wf = true → (Lit.int .i64 a4).wf = true → postilionlaw17_TokenTells.f a0 l1 a2 a3 a4 = some true

end Go.Proofs.YtnndmbhfolgohaaDoor.P
