-- Laid by sp.py, a program of this session's, out of the translation and the session's own stand-ins.
import Derived.Test.YtnndmbhfolgohaaDoorPx0
import Derived.Test.YtnndmbhfolgohaaDoorSLtokenGreat
import Derived.BigQuiet
namespace Go.Proofs.YtnndmbhfolgohaaDoor.P
open Go.RowKit Go.Proofs.YtnndmbhfolgohaaDoorW.PrintWords Go.Proofs.YtnndmbhfolgohaaDoorW.PrintLast Go.Proofs.YtnndmbhfolgohaaDoorW.PrintMore
attribute [local go_sem] max2_int min2_int max_two min_two max_three min_three max_four min_four   -- for this text's walks alone
set_option linter.unusedVariables false
set_option linter.unusedSimpArgs false
set_option linter.unnecessarySimpa false

/-! ### TokenOn: a law by hand -/
def postilionlaw17_TokenOn.f (_l : List ByteArray) (_m : Int) : Option Bool := some true
def hasT (l : List ByteArray) (x : ByteArray) : Bool := l.any (fun y => y.toList == x.toList)
theorem toList_inj {x y : ByteArray} (h : x.toList = y.toList) : x = y := by
  rw [ByteArray.toList_eq, ByteArray.toList_eq] at h
  apply ByteArray.ext
  exact Array.ext' h
theorem hasT_contains (l : List ByteArray) (x : ByteArray) : Lib.containsS l x = hasT l x := by
  rw [Bool.eq_iff_iff, Lib.containsS_iff]
  unfold hasT
  rw [List.any_eq_true]
  constructor
  · exact fun h => ⟨x, h, beq_iff_eq.2 rfl⟩
  · rintro ⟨y, hy, he⟩
    rw [← toList_inj (beq_iff_eq.1 he)]
    exact hy
theorem hasT_more {l : List ByteArray} {x : ByteArray} {k : Nat} (h : k < l.length) : hasT (l.take (k + 1)) x = (hasT (l.take k) x || ((rdOf ByteArray.empty l (k : Int)).toList == x.toList)) := by
  unfold hasT rdOf
  rw [List.take_succ_eq_append_getElem h, List.any_append, Int.toNat_natCast, List.getD_eq_getElem?_getD, List.getElem?_eq_getElem h]
  simp
theorem mayB_snoc {l : List ByteArray} {x : ByteArray} (hm : mayB l = true) (hx : idB x = true) : mayB (l ++ [x]) = decide (l.length < 8) := by
  obtain ⟨h8, hid⟩ := mayB_id hm
  unfold mayB
  rw [List.all_append, List.all_eq_true.2 hid]
  simp [hx]
  omega
theorem ckE_mem {own : ByteArray} {l : List ByteArray} (h : own ∈ l) (most : Int) : ckE own l most = 170 := by
  unfold ckE
  rw [(Lib.containsS_iff _ _).2 h, if_neg (by simp)]
theorem ckE_new {own : ByteArray} {l : List ByteArray} (hm : mayB l = true) (most : Int) (kb : Bool) (hk : hasT l own = kb) : ckE own l most = if kb = false ∧ (l.length : Int) < most then 0 else 170 := by
  unfold ckE
  rw [hasT_contains, hk, hm]
  simp
theorem ckE_long {own : ByteArray} {l : List ByteArray} (h : mayB l = false) (most : Int) : ckE own l most = 170 := by
  unfold ckE
  rw [h, if_neg (by simp)]
theorem id_small {l : List ByteArray} (h : mayB l = true) : ∀ x ∈ l, x.size ≤ 1000000 := fun x hx => by
  have := (idB_size ((mayB_id h).2 x hx)).2
  omega
theorem strs_front {W : World} {A : Option Addr} {n : Nat} {l m : List ByteArray} (h : Kd.C Kd.string W A n (l ++ m)) : Kd.C Kd.string W A l.length l := by
  obtain ⟨h1, h2, h3⟩ := h
  refine ⟨rfl, by rw [List.length_append] at h1; omega, fun hp => ?_⟩
  obtain ⟨ad, e, hc⟩ := h3 (by rw [List.length_append] at h1; omega)
  refine ⟨ad, e, fun j p hj => hc j p ?_⟩
  have hjl : j < l.length := (List.getElem?_eq_some_iff.1 hj).1
  rw [List.getElem?_append_left hjl]
  exact hj
theorem strs_snoc {l : List ByteArray} {x : ByteArray} : strs l ++ [.string x] = strs (l ++ [x]) := by unfold strs; rw [List.map_append]; rfl
set_option maxRecDepth 100000 in
set_option maxHeartbeats 16000000 in
theorem postilionlaw17_TokenOn.calls (A0 : Option Addr) (c0 : Nat) (ids : List ByteArray) (most : Int) (r : Bool) (w : World) (hC0 : Kd.C Kd.string w A0 ids.length ids) (hc0 : ids.length ≤ c0) (h : postilionlaw17_TokenOn.f ids most = some r) (hT : Aside0 (r = true)) :
    Calls Tryd.prog 3 #[.slice A0 ids.length c0, .int .i64 most] w fun e w' => e = .returned (.bool r) ∧ Below w.heap.size w w' := by
  obtain rfl := hT.out
  clear h hT
  have AW := tk_awake w
  have HC := Aside0.mk hC0
  have GR := Aside0.mk (fun (W : World) (hb : Below w.heap.size w W) => tk_great (q := c0) ids W (Kd.C_below hC0 hb))
  clear hC0
  cases hg : greatB ids with
  | true =>
    rw [hg] at GR
    clear hg
    go_enter Tryd.func3, Tryd.ntmps3
    go_wp2_with (first | (go_at_call 6; (with_reducible refine AW.mono ?_); rintro e w1 ⟨rfl, hb1⟩; have G1 := GR.out w1 hb1) | (go_at_call 7; (with_reducible refine G1.mono ?_); rintro e w2 ⟨rfl, d2⟩))
    go_ret
    exact ⟨rfl, bnext hb1 d2.below⟩
  | false =>
    obtain ⟨h20, h100⟩ := greatB_no hg
    have H100 := Aside0.mk h100
    rw [hg] at GR
    clear hg h100
    go_enter Tryd.func3, Tryd.ntmps3
    go_wp2_with (first | (go_at_call 6; (with_reducible refine AW.mono ?_); rintro e w1 ⟨rfl, hb1⟩; have G1 := GR.out w1 hb1; clear AW) | (go_at_call 7; (with_reducible refine G1.mono ?_); rintro e w2 ⟨rfl, d2⟩; have B2 := bnext hb1 d2.below; clear G1 d2 hb1))
    go_loopw [5, 6] (fun lv ii wr => ∃ (i : Nat) (L : List ByteArray) (A : Option Addr) (q : Nat), i ≤ ids.length ∧ ii = .int .i64 (i : Int) ∧ lv = .slice A L.length q ∧ L.length ≤ q ∧ Aside0 (Kd.C Kd.string wr A L.length L) ∧ Aside0 (mayB L = true) ∧ Below w.heap.size w wr) (fun _ ii _ => ids.length - (intOf ii).toNat)
    case atStart => exact ⟨0, [], none, 0, Nat.zero_le _, rfl, rfl, Nat.le_refl _, ⟨Kd.C_nil _ _⟩, ⟨by decide⟩, B2⟩
    case round =>
      obtain ⟨i, L, A, q, hi, rfl, rfl, hLq, hL, hM, hB⟩ := hrel
      have hL8 : L.length ≤ 8 := (mayB_id hM.out).1
      by_cases hlt : i < ids.length
      · have p1 : decide ((i : Int) < (ids.length : Int)) = true := decide_eq_true (by omega)
        obtain ⟨ad, e, c1⟩ := Kd.at_string (Kd.C_below HC.out hB) (i : Int) (by omega) (by omega)
        subst e
        rw [Int.toNat_natCast] at c1
        have hxs := H100.out _ (odd_at hlt)
        have HX := Aside0.mk (fun (W : World) (hb : Below w.heap.size w W) => (Kd.at_string (Kd.C_below HC.out hb) (i : Int) (by omega) (by omega)))
        rw [Int.toNat_natCast] at HX
        generalize rdOf ByteArray.empty ids (i : Int) = x at c1 hxs HX
        have i1 : (0 : Int) ≤ (i : Int) := by omega
        have i2 : (i : Int) < (ids.length : Int) := by omega
        have IDX := tk_ID x wr (by omega)
        cases hid : idB x with
        | false =>
          rw [hid] at IDX
          clear hid
          go_wp2_with (go_at_call 8; (with_reducible refine IDX.mono ?_); rintro e w3 ⟨rfl, d3⟩; have B3 := bnext hB d3.below; have hL3 := Aside0.mk (Kd.C_below hL.out d3.below); clear d3 IDX)
          exact ⟨⟨i + 1, L, A, q, by omega, by simp, rfl, hLq, hL3, hM, B3⟩, by simp [intOf]; omega⟩
        | true =>
          rw [hid] at IDX
          have HID := Aside0.mk hid
          clear hid
          go_wp2_with (go_at_call 8; (with_reducible refine IDX.mono ?_); rintro e w3 ⟨rfl, d3⟩; have B3 := bnext hB d3.below; have hL3 := Aside0.mk (Kd.C_below hL.out d3.below); clear d3 IDX hL hB c1)
          go_loopw [7, 8] (fun kv jv wr2 => ∃ k nd : Nat, k ≤ L.length ∧ kv = .bool (hasT (L.take k) x) ∧ jv = .int .i64 (k : Int) ∧ wr2 = w3.drewN nd) (fun _ jv _ => L.length - (intOf jv).toNat)
          case atStart => exact ⟨0, 0, Nat.zero_le _, rfl, rfl, rfl⟩
          case round =>
            obtain ⟨k, nd, hk, rfl, rfl, rfl⟩ := hrel
            by_cases hlk : k < L.length
            · have p2 : decide ((k : Int) < (L.length : Int)) = true := decide_eq_true (by omega)
              have HM2 := hasT_more (x := x) hlk
              obtain ⟨a2, e2, c2⟩ := Kd.at_string hL3.out (k : Int) (by omega) (by omega)
              subst e2
              obtain ⟨a3, e3, c3⟩ := HX.out w3 B3
              obtain rfl : ad = a3 := Option.some.inj e3
              rw [Int.toNat_natCast] at c2
              generalize rdOf ByteArray.empty L (k : Int) = y at c2 HM2
              have k1 : (0 : Int) ≤ (k : Int) := by omega
              have k2 : (k : Int) < (L.length : Int) := by omega
              clear e3
              cases hb : hasT (L.take k) x with
              | true =>
                rw [hb, Bool.true_or] at HM2
                have HN := Aside0.mk HM2
                clear HM2 hb
                go_wp2_with fail
                go_quiet (fail)
                go_wp2_with fail
                exact ⟨⟨k + 1, nd + nq, by omega, by rw [HN.out], by simp, rfl⟩, by simp [intOf]; omega⟩
              | false =>
                rw [hb, Bool.false_or] at HM2
                have HN := Aside0.mk HM2
                clear HM2 hb
                go_wp2_with fail
                go_quiet (fail)
                go_wp2_with fail
                exact ⟨⟨k + 1, nd + nq, by omega, by rw [HN.out], by simp, rfl⟩, by simp [intOf]; omega⟩
            · have p2 : decide ((k : Int) < (L.length : Int)) = false := decide_eq_false (by omega)
              obtain rfl : k = L.length := by omega
              rw [List.take_of_length_le (Nat.le_refl _)]
              have B4 : Below w.heap.size w (w3.drewN nd) := pw_below_drewN B3 nd
              have hL4 := Aside0.mk (Kd.C_below hL3.out (pw_below_drewN (Below.refl _ _) nd))
              obtain ⟨a3, e3, c3⟩ := HX.out _ B4
              obtain rfl : ad = a3 := Option.some.inj e3
              have CK := tk_Check (c := q) x L most (w3.drewN nd) hL4.out (by omega) (id_small hM.out)
              obtain ⟨kb, hkb⟩ : ∃ kb, hasT L x = kb := ⟨_, rfl⟩
              rw [ckE_new hM.out most kb hkb] at CK
              rw [hkb]
              have HKB := Aside0.mk hkb
              clear hkb e3
              generalize w3.drewN nd = w4 at *
              cases kb with
              | true =>
                rw [if_neg (by simp)] at CK
                go_wp2_with (go_at_call 9; (with_reducible refine CK.mono ?_); rintro e w5 ⟨rfl, d5⟩; have B5 := bnext B4 d5.below; have hL5 := Aside0.mk (Kd.C_below hL4.out d5.below); clear d5 CK B4 hL4)
                exact ⟨⟨i + 1, L, A, q, by omega, by simp, rfl, hLq, hL5, hM, B5⟩, by simp [intOf]; omega⟩
              | false =>
                by_cases hm : (L.length : Int) < most
                · have p3 : decide ((L.length : Int) < most) = true := decide_eq_true hm
                  rw [if_pos ⟨rfl, hm⟩] at CK
                  have hsn := mayB_snoc hM.out HID.out
                  go_wp2_with (first | (go_at_call 9; (with_reducible refine CK.mono ?_); rintro e w5 ⟨rfl, d5⟩; have B5 := bnext B4 d5.below; have hL5 := Aside0.mk (Kd.C_below hL4.out d5.below); obtain ⟨a5, e5, c5⟩ := HX.out _ B5; obtain rfl : ad = a5 := Option.some.inj e5; have NX := tk_Next (c := q) x L w5 hL5.out (by omega); clear d5 CK B4 hL4 e5 c3) | (go_at_call 10; (with_reducible refine NX.mono ?_); rintro e w6 ⟨v, rfl, o6, d6⟩; have B6 := bnext B5 d6; have hL6 := Aside0.mk (Kd.C_below hL5.out d6); obtain ⟨a6, e6, c6⟩ := HX.out _ B6; obtain rfl : ad = a6 := Option.some.inj e6; clear d6 NX B5 hL5 e6 c5))
                  obtain ⟨A6, q6, ev, hq6, c7⟩ := strs_reads (l := L ++ [x]) (by rw [← strs_snoc, List.length_append]; exact o6) (by rw [List.length_append, List.length_cons, List.length_nil]; omega)
                  have el : (L ++ [x]).length = L.length + 1 := by simp
                  rw [el] at ev hq6 c7
                  subst ev
                  obtain ⟨a7, e7, c8⟩ := Kd.at_string c7 (L.length : Int) (by omega) (by omega)
                  subst e7
                  have ex : rdOf ByteArray.empty (L ++ [x]) (L.length : Int) = x := by
                    unfold rdOf
                    rw [Int.toNat_natCast, List.getD_eq_getElem?_getD, List.getElem?_append_right (Nat.le_refl _)]
                    simp
                  rw [ex, Int.toNat_natCast] at c8
                  have SM := Aside0.mk (fun (nd : Nat) => tk_Same (p := q6) (q := q) L (w6.drewN nd) (strs_front (Kd.C_below c7 (pw_below_drewN (Below.refl _ _) nd))) (Kd.C_below hL6.out (pw_below_drewN (Below.refl _ _) nd)) (by omega))
                  have C7 := Aside0.mk c7
                  have HS := Aside0.mk hsn
                  have r1 : ((L.length : Int) + 1 != (L.length : Int) + 1) = false := by simp
                  have r2 : (x.toList != x.toList) = false := by simp
                  have r3 : (0 : Int) ≤ (L.length : Int) := by omega
                  have r4 : (L.length : Int) < ((L.length + 1 : Nat) : Int) := by omega
                  have r5 : (L.length : Int) < (L.length : Int) + 1 := by omega
                  obtain ⟨L2, hL2⟩ : ∃ L2, L2 = L ++ [x] := ⟨_, rfl⟩
                  have el2 : L2.length = L.length + 1 := by rw [hL2, el]
                  have hid2 : ∀ y ∈ L2, y.size ≤ 1000000 := by
                    rw [hL2]
                    intro y hy
                    rcases List.mem_append.1 hy with hy | hy
                    · exact id_small hM.out y hy
                    · rw [List.mem_singleton.1 hy]; omega
                  rw [← hL2] at hsn C7 HS
                  rw [← el2] at C7
                  have HS2 := HS
                  clear o6 el c7 ex hsn hL2
                  by_cases h8 : L.length < 8
                  · have hm2 : mayB L2 = true := by rw [HS.out]; exact decide_eq_true h8
                    have MY := Aside0.mk (fun (nd : Nat) => tk_May (c := q6) L2 (w6.drewN nd) (Kd.C_below C7.out (pw_below_drewN (Below.refl _ _) nd)) (by omega) hid2)
                    rw [hm2, el2] at MY
                    have HM2 := Aside0.mk hm2
                    clear hid2 hm2 HS HS2
                    go_quiet (refine Calls.quiet_of (SM.out _))
                    have M7 := MY.out nq
                    have B7 : Below w.heap.size w (w6.drewN nq) := pw_below_drewN B6 nq
                    have C8 := Aside0.mk (Kd.C_below C7.out (pw_below_drewN (Below.refl _ _) nq))
                    generalize w6.drewN nq = w7 at *
                    go_wp2_with (go_at_call 12; (with_reducible refine M7.mono ?_); rintro e w8 ⟨rfl, d8⟩; have B8 := bnext B7 d8.below; have C9 := Aside0.mk (Kd.C_below C8.out d8.below); clear M7 d8 B7 C8)
                    exact ⟨⟨i + 1, L2, some a7, q6, by omega, by simp, by rw [el2], by omega, C9, HM2, B8⟩, by simp [intOf]; omega⟩
                  · have hm2 : mayB L2 = false := by rw [HS.out]; exact decide_eq_false h8
                    have MY := Aside0.mk (fun (nd : Nat) => tk_May (c := q6) L2 (w6.drewN nd) (Kd.C_below C7.out (pw_below_drewN (Below.refl _ _) nd)) (by omega) hid2)
                    have CX := Aside0.mk (fun (W : World) (hC : Kd.C Kd.string W (some a7) L2.length L2) => tk_Check (c := q6) ⟨#[120]⟩ L2 most W hC (by omega) hid2)
                    rw [hm2, el2] at MY
                    rw [ckE_long hm2, el2] at CX
                    clear hid2 hm2 HS HS2
                    have r6 : decide ((8 : Int) < (L.length : Int) + 1) = true := decide_eq_true (by omega)
                    go_quiet (refine Calls.quiet_of (SM.out _))
                    have M7 := MY.out nq
                    have B7 : Below w.heap.size w (w6.drewN nq) := pw_below_drewN B6 nq
                    have C8 := Aside0.mk (Kd.C_below C7.out (pw_below_drewN (Below.refl _ _) nq))
                    rw [el2] at C8
                    generalize w6.drewN nq = w7 at *
                    go_wp2_with (first | (go_at_call 12; (with_reducible refine M7.mono ?_); rintro e w8 ⟨rfl, d8⟩; have B8 := bnext B7 d8.below; have K8 := CX.out w8 (Kd.C_below C8.out d8.below); clear M7 d8 B7 C8) | (go_at_call 9; (with_reducible refine K8.mono ?_); rintro e w9 ⟨rfl, d9⟩; have B9 := bnext B8 d9.below; clear K8 d9 B8))
                    go_ret
                    exact ⟨rfl, B9⟩
                · have p3 : decide ((L.length : Int) < most) = false := decide_eq_false hm
                  rw [if_neg (by simp [hm])] at CK
                  go_wp2_with (go_at_call 9; (with_reducible refine CK.mono ?_); rintro e w5 ⟨rfl, d5⟩; have B5 := bnext B4 d5.below; have hL5 := Aside0.mk (Kd.C_below hL4.out d5.below); clear d5 CK B4 hL4)
                  exact ⟨⟨i + 1, L, A, q, by omega, by simp, rfl, hLq, hL5, hM, B5⟩, by simp [intOf]; omega⟩
      · have p1 : decide ((i : Int) < (ids.length : Int)) = false := decide_eq_false (by omega)
        go_wp2_with fail
        go_loopw [11] (fun kv wr2 => ∃ k : Nat, k ≤ L.length ∧ kv = .int .i64 (k : Int) ∧ Aside0 (Kd.C Kd.string wr2 A L.length L) ∧ Below w.heap.size w wr2) (fun kv _ => L.length - (intOf kv).toNat)
        case atStart => exact ⟨0, Nat.zero_le _, rfl, hL, hB⟩
        case round =>
          obtain ⟨k, hk, rfl, hL2, hB2⟩ := hrel
          by_cases hlk : k < L.length
          · have p2 : decide ((k : Int) < (L.length : Int)) = true := decide_eq_true (by omega)
            obtain ⟨a2, e2, c2⟩ := Kd.at_string hL2.out (k : Int) (by omega) (by omega)
            subst e2
            rw [Int.toNat_natCast] at c2
            have hmem := odd_at hlk
            generalize rdOf ByteArray.empty L (k : Int) = y at c2 hmem
            have k1 : (0 : Int) ≤ (k : Int) := by omega
            have k2 : (k : Int) < (L.length : Int) := by omega
            have CK := tk_Check (c := q) y L 1099511627776 _ hL2.out (by omega) (id_small hM.out)
            rw [ckE_mem hmem] at CK
            clear hmem
            go_wp2_with (go_at_call 9; (with_reducible refine CK.mono ?_); rintro e w5 ⟨rfl, d5⟩; have B5 := bnext hB2 d5.below; have hL5 := Aside0.mk (Kd.C_below hL2.out d5.below); clear d5 CK)
            exact ⟨⟨k + 1, by omega, by simp, hL5, B5⟩, by simp [intOf]; omega⟩
          · have p2 : decide ((k : Int) < (L.length : Int)) = false := decide_eq_false (by omega)
            go_wp2_with fail
            go_ret
            exact ⟨rfl, hB2⟩

/-- THE ONE PURE STATEMENT of postilionlaw17_TokenOn: yours. -/
def postilionlaw17_TokenOn.Pure : Prop := ∀ (l0 : List ByteArray) (a1 : Int), l0.length ≤ maxLen → (∀ y_ ∈ l0, (y_.size ≤ 9223372036854775807)) → (Lit.int .i64 a1).wf = true → postilionlaw17_TokenOn.f l0 a1 = some true

end Go.Proofs.YtnndmbhfolgohaaDoor.P
