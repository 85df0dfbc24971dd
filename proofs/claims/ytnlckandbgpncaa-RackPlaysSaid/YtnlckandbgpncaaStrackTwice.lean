-- Laid by sp.py, a program of this session's, out of the translation and the session's own stand-ins.
import Derived.Test.YtnlckandbgpncaaPx0
import Derived.Test.YtnlckandbgpncaaStrackTable
import Derived.Test.YtnlckandbgpncaaStrackOps
import Derived.Test.YtnlckandbgpncaaStrackGive
import Derived.Test.YtnlckandbgpncaaStrackIDs
import Derived.Test.YtnlckandbgpncaaStrackNew
import Derived.Test.YtnlckandbgpncaaStrackAwake
import Derived.Test.YtnlckandbgpncaaPx3
import Derived.Test.YtnlckandbgpncaaShelf
import Derived.Test.YtnlckandbgpncaaSLrackFacts
namespace Go.Proofs.Ytnlckandbgpncaa.P
open Go.RowKit Go.Proofs.YtnlckandbgpncaaW.PrintWords Go.Proofs.YtnlckandbgpncaaW.PrintLast Go.Proofs.YtnlckandbgpncaaW.PrintMore
attribute [local go_sem] max2_int min2_int max_two min_two max_three min_three max_four min_four   -- for this text's walks alone
set_option linter.unusedVariables false
set_option linter.unusedSimpArgs false
set_option linter.unnecessarySimpa false

/-! ### RackTwice: a law by hand -/
def NearOk (l : List S31) : Prop := l.length ≤ 150 ∧ ∀ j : Nat, j < l.length → 0 ≤ (rd_T31 l j).f1 ∧ (rd_T31 l j).f1 ≤ 400
theorem near_loop (l : List S31) (hl : l.length ≤ 150) : ∀ (d i : Nat), l.length - i ≤ d → i ≤ l.length → ∃ k r, postilionlaw03_near.l0 k l (i : Int) = some r ∧ (r = true → ∀ j : Nat, i ≤ j → j < l.length → 0 ≤ (rd_T31 l j).f1 ∧ (rd_T31 l j).f1 ≤ 400) := by
  intro d
  induction d with
  | zero =>
    intro i h1 h2
    refine ⟨1, true, ?_, fun _ j hj hj2 => by omega⟩
    unfold postilionlaw03_near.l0
    rw [if_neg (by omega)]
  | succ d ih =>
    intro i h1 h2
    by_cases hi : i < l.length
    · have e0 : ∀ k, postilionlaw03_near.l0 (k + 1) l (i : Int) = if ((rd_T31 l (i : Int)).f1) < 0 then some false else if ((rd_T31 l (i : Int)).f1) > 400 then some false else postilionlaw03_near.l0 k l ((i + 1 : Nat) : Int) := by
        intro k
        conv => lhs; unfold postilionlaw03_near.l0
        rw [if_pos (by omega), if_pos (by omega), show wrap64 ((i : Int) + 1) = ((i + 1 : Nat) : Int) by unfold wrap64; omega]
      by_cases hn : (rd_T31 l (i : Int)).f1 < 0
      · exact ⟨1, false, by rw [e0, if_pos hn], fun h => by cases h⟩
      by_cases hx : (rd_T31 l (i : Int)).f1 > 400
      · exact ⟨1, false, by rw [e0, if_neg hn, if_pos hx], fun h => by cases h⟩
      obtain ⟨k, r, e, h⟩ := ih (i + 1) (by omega) (by omega)
      refine ⟨k + 1, r, by rw [e0, if_neg hn, if_neg hx]; exact e, fun hr j hj hj2 => ?_⟩
      rcases Nat.lt_or_ge i j with hji | hji
      · exact h hr j hji hj2
      · obtain rfl : j = i := by omega
        exact ⟨by omega, by omega⟩
    · refine ⟨1, true, ?_, fun _ j hj hj2 => by omega⟩
      unfold postilionlaw03_near.l0
      rw [if_neg (by omega)]
theorem near_law (l : List S31) : ∃ k r, postilionlaw03_near.f k l = some r ∧ (r = true → NearOk l) := by
  by_cases hl : (l.length : Int) > 150
  · exact ⟨0, false, by unfold postilionlaw03_near.f; rw [if_pos hl], fun h => by cases h⟩
  · obtain ⟨k, r, e, h⟩ := near_loop l (by omega) l.length 0 (by omega) (by omega)
    exact ⟨k, r, by unfold postilionlaw03_near.f; rw [if_neg hl]; exact e, fun hr => ⟨by omega, fun j hj => h hr j (by omega) hj⟩⟩
theorem nlb2 {w a b : World} (h : Below w.heap.size w a) (hb : Below a.heap.size a b) : Below w.heap.size w b :=
  h.trans ⟨hb.os, hb.tape, hb.output, hb.size, fun j hj => hb.block j (Nat.lt_of_lt_of_le hj h.size)⟩
/-- What is true of the rack between two acts. -/
structure TwIn (w0 : World) (R : Nat) (size first step : Int) (last : Int) (i : Nat) (W : World) : Prop where
  it : ∃ kv vv ks vs next, RkRaw w0 R kv vv ks vs size next step W ∧ TbOk ks vs ∧ (ks.length : Int) ≤ size ∧ (∃ m : Nat, next = first + step * m) ∧ next ≤ 3000 + 1000 * i ∧ last < next ∧ ∀ x ∈ ks, x ≤ 400 ∨ x < next
section
variable {w0 : World} {R : Nat} {size first step last next : Int} {j : Nat} {W : World} {kv vv kv' vv' : Value} {ks vs : List Int}
theorem erH_zero {k : Int} (h : erH ks size k = 0) : (ks.length : Int) < size ∧ ks.contains k = false := by
  unfold erH at h
  split at h
  · exact absurd h (by decide)
  · rename_i h1
    split at h
    · exact absurd h (by decide)
    · exact ⟨by omega, by
        cases hc : ks.contains k with
        | false => rfl
        | true => exact absurd (.inl hc) h1⟩
theorem tw_hold {id val : Int} (h5 : RkRaw w0 R kv' vv' (if erH ks size id = 0 then putK ks id else ks) (if erH ks size id = 0 then putV ks vs id val else vs) size next step W) (ok : TbOk ks vs) (hsz : (ks.length : Int) ≤ size) (hs2 : size ≤ 64) (hid : id ≤ 400) (hm : ∃ m : Nat, next = first + step * m) (hnx : next ≤ 3000 + 1000 * j) (hla : last < next) (hks : ∀ x ∈ ks, x ≤ 400 ∨ x < next) : TwIn w0 R size first step last (j + 1) W := by
  by_cases e : erH ks size id = 0
  · rw [if_pos e, if_pos e] at h5
    obtain ⟨e1, e2⟩ := erH_zero e
    refine ⟨_, _, _, _, _, h5, ok.put id val (by omega), ?_, hm, by omega, hla, fun x hx => ?_⟩
    · rw [putK_length, if_neg (by rw [e2]; decide)]
      omega
    · rcases (mem_putK _ _ _).1 hx with rfl | hx
      · exact .inl hid
      · exact hks x hx
  · rw [if_neg e, if_neg e] at h5
    exact ⟨_, _, _, _, _, h5, ok, hsz, hm, by omega, hla, hks⟩
theorem tw_drop {id : Int} (h5 : RkRaw w0 R kv' vv' (dropK ks id) (dropV ks vs id) size next step W) (ok : TbOk ks vs) (hsz : (ks.length : Int) ≤ size) (hm : ∃ m : Nat, next = first + step * m) (hnx : next ≤ 3000 + 1000 * j) (hla : last < next) (hks : ∀ x ∈ ks, x ≤ 400 ∨ x < next) : TwIn w0 R size first step last (j + 1) W := by
  refine ⟨_, _, _, _, _, h5, ok.drop id, ?_, hm, by omega, hla, fun x hx => hks x ((mem_dropK ok.sorted x).1 hx).1⟩
  rw [dropK_length]
  split <;> omega
/-- What Give gives here. -/
theorem tw_give (hst : 1 ≤ step) (hst2 : step ≤ 1000) (hm : ∃ m : Nat, next = first + step * m) (hnx : next ≤ 300000) (hks : ∀ x ∈ ks, x ≤ 400 ∨ x < next) :
    (size ≤ (ks.length : Int) ∧ gvId ks size next step = none ∧ gvNx ks size next step = next) ∨ ((ks.length : Int) < size ∧ ∃ x : Int, gvId ks size next step = some x ∧ gvNx ks size next step = x + step ∧ x ∉ ks ∧ next ≤ x ∧ (x ≤ next ∨ x ≤ 1400) ∧ ∃ m : Nat, x = first + step * m) := by
  by_cases hf : size ≤ (ks.length : Int)
  · exact .inl ⟨hf, (gv_full hf).1, (gv_full hf).2⟩
  · obtain ⟨i, e1, e2, e3, e4⟩ := give_law (ks := ks) hst hst2 (401 - next).toNat next (by omega) (by omega) hks
    obtain ⟨m, rfl⟩ := hm
    refine .inr ⟨by omega, first + step * m + step * i, ?_, ?_, e3, ?_, e4, m + i, ?_⟩
    · unfold gvId; rw [if_neg hf]; exact e1
    · unfold gvNx; rw [if_neg hf]; exact e2
    · have : 0 ≤ step * (i : Int) := Int.mul_nonneg (by omega) (by omega)
      omega
    · rw [Int.natCast_add, Int.mul_add]
      omega
theorem row_after {W5 W6 : World} {base : Nat} {v : Value} {xs : List Int} (ho : W5.ownsRow base 3 1 v xs.length (nums .i64 xs)) (m : RkMv R kv vv W5 W6) (hR : R < base) (hk : ∀ q, kv.ownBlock = some q → q < base) (hv : ∀ q, vv.ownBlock = some q → q < base) (k : Nat) (hkl : k < xs.length) : ∃ g c, v = .slice (some ⟨g, 0, none⟩) xs.length c ∧ W6.cell? ⟨g, k, none⟩ = some (.int .i64 (xs.getD k 0)) := by
  rcases own_form ho with ⟨_, rfl⟩ | ⟨g, cap, cur, rfl, hg, hh, hnc, hcm, hsz, htk, hc⟩
  · exact absurd hkl (Nat.not_lt_zero _)
  · refine ⟨g, cap, rfl, ?_⟩
    have h0 := hc k hkl
    rw [Nat.zero_add] at h0
    rw [← h0]
    have e := m.keep g (Array.getElem?_eq_some_iff.1 hh).1 (by omega) (fun e => by have := hk g e.symm; omega) (fun e => by have := hv g e.symm; omega)
    simp only [World.cell?, e]
theorem own_cells {W5 : World} {base : Nat} {v : Value} {xs : List Int} (ho : W5.ownsRow base 3 1 v xs.length (nums .i64 xs)) (h : 0 < xs.length) : ∃ g c, v = .slice (some ⟨g, 0, none⟩) xs.length c ∧ ∀ k, k < xs.length → W5.cell? ⟨g, k, none⟩ = some (.int .i64 (xs.getD k 0)) := by
  rcases own_form ho with ⟨_, rfl⟩ | ⟨g, cap, cur, rfl, hg, hh, hnc, hcm, hsz, htk, hc⟩
  · exact absurd h (Nat.lt_irrefl _)
  · exact ⟨g, cap, rfl, fun k hk => by have := hc k hk; rwa [Nat.zero_add] at this⟩
theorem NewOk.st (h : NewOk size first step) : 1 ≤ step ∧ step ≤ 1000 ∧ 1 ≤ first ∧ first ≤ 1000 := by
  unfold NewOk at h
  omega
theorem tw_pos (h : NewOk size first step) (hm : ∃ m : Nat, next = first + step * m) : 1 ≤ next := by
  obtain ⟨m, rfl⟩ := hm
  have := h.st
  have : 0 ≤ step * (m : Int) := Int.mul_nonneg (by omega) (by omega)
  omega
theorem tw_same (h5 : RkRaw w0 R kv' vv' ks vs size next step W) (ok : TbOk ks vs) (hsz : (ks.length : Int) ≤ size) (hm : ∃ m : Nat, next = first + step * m) (hnx : next ≤ 3000 + 1000 * j) (hla : last < next) (hks : ∀ x ∈ ks, x ≤ 400 ∨ x < next) : TwIn w0 R size first step last (j + 1) W :=
  ⟨_, _, _, _, _, h5, ok, hsz, hm, by omega, hla, hks⟩
theorem tw_given {x val : Int} (h5 : RkRaw w0 R kv' vv' (putK ks x) (putV ks vs x val) size (x + step) step W) (ok : TbOk ks vs) (hs2 : size ≤ 64) (hf : (ks.length : Int) < size) (hst : 1 ≤ step) (hst2 : step ≤ 1000) (hx : x ≤ next ∨ x ≤ 1400) (hxn : next ≤ x) (hm : ∃ m : Nat, x = first + step * m) (hnx : next ≤ 3000 + 1000 * j) (hks : ∀ y ∈ ks, y ≤ 400 ∨ y < next) : TwIn w0 R size first step x (j + 1) W := by
  refine ⟨_, _, _, _, _, h5, ok.put x val (by omega), ?_, ?_, by omega, by omega, fun y hy => ?_⟩
  · rw [putK_length]
    split <;> omega
  · obtain ⟨m, rfl⟩ := hm
    exact ⟨m + 1, by rw [Int.natCast_add, Int.mul_add]; simp; omega⟩
  · rcases (mem_putK _ _ _).1 hy with rfl | hy
    · exact .inr (by omega)
    · rcases hks y hy with h | h
      · exact .inl h
      · exact .inr (by omega)
end
def postilionlaw03_RackTwice.f (_size _first _step : Int) (l : List S31) : Option Bool := if l.all (fun a => decide (0 ≤ a.f0 ∧ a.f0 < 256)) = true then some true else none
theorem size_in (size : Int) : ∃ s : Int, 1 ≤ s ∧ s ≤ 64 ∧ wrap64 (1 + wrap64 ((IntKind.u64.wrap size).tmod 64)) = s := by
  have h0 : 0 ≤ IntKind.u64.wrap size := by
    have e : IntKind.u64.wrap size = size % 18446744073709551616 := rfl
    rw [e]
    omega
  have h1 : 0 ≤ Int.tmod (IntKind.u64.wrap size) 64 := Int.tmod_nonneg _ h0
  have h2 : Int.tmod (IntKind.u64.wrap size) 64 < 64 := Int.tmod_lt_of_pos _ (by decide)
  generalize Int.tmod (IntKind.u64.wrap size) 64 = t at *
  exact ⟨1 + t, by omega, by omega, by unfold wrap64; omega⟩
set_option maxRecDepth 100000 in
set_option maxHeartbeats 32000000 in
theorem postilionlaw03_RackTwice.calls (size first step : Int) (A3 : Option Addr) (c3 : Nat) (l : List S31) (r : Bool) (w : World) (hC : Kd.C k31 w A3 l.length l) (hc : l.length ≤ c3) (h : postilionlaw03_RackTwice.f size first step l = some r) (hT : Aside0 (r = true)) :
    Calls Try.prog 3 #[.int .i64 size, .int .i64 first, .int .i64 step, .slice A3 l.length c3] w fun e w' => e = .returned (.bool r) ∧ Below w.heap.size w w' := by
  obtain rfl := hT.out
  have ha : ∀ x ∈ l, 0 ≤ x.f0 ∧ x.f0 < 256 := by
    unfold postilionlaw03_RackTwice.f at h
    split at h
    · rename_i hg
      exact fun x hx => by simpa using (List.all_eq_true.1 hg) x hx
    · cases h
  clear h
  have HA := Aside0.mk ha
  clear ha
  have hAw := rk_awake w
  obtain ⟨k, r, hk, hn⟩ := near_law l
  have HN := Aside0.mk hn
  clear hn
  have HC := Aside0.mk hC
  have HCC := Aside0.mk hc
  clear hC hc
  obtain ⟨s, hs1, hs2, hs⟩ := size_in size
  by_cases hok : NewOk s first step
  · have NW := fun (W : World) => rk_New s first step W hok
    have NE := fun (W : World) (hb : Below w.heap.size w W) => postilionlaw03_near.calls k A3 c3 l r W (Kd.C_below HC.out hb) HCC.out hk
    have HNE := Aside0.mk NE
    have RM := Aside0.mk (rk_made s first step)
    clear hk NE
    cases r with
    | false =>
      go_enter Try.func3, Try.ntmps3
      go_wp2_with (first | (go_at_call 7; refine hAw.mono ?_; rintro e w1 ⟨rfl, hw1⟩; have nw := NW w1) | (go_at_call 8; (with_reducible refine nw.mono ?_); rintro e w2 ⟨rfl, hw2⟩; have r2 := RM.out w1; (rw [← hw2] at r2); clear hw2; have hb2 := nlb2 hw1 r2.hB; have ne := HNE.out w2 hb2) | (go_at_call 9; (with_reducible refine ne.mono ?_); rintro e w3 ⟨rfl, hd3⟩))
      go_ret
      exact ⟨rfl, nlb2 hb2 hd3.below⟩
    | true =>
      obtain ⟨hl, hnr⟩ := HN.out rfl
      have HNR := Aside0.mk hnr
      clear hnr
      go_enter Try.func3, Try.ntmps3
      go_wp2_with (first | (go_at_call 7; refine hAw.mono ?_; rintro e w1 ⟨rfl, hw1⟩; have nw := NW w1) | (go_at_call 8; (with_reducible refine nw.mono ?_); rintro e w2 ⟨rfl, hw2⟩; have r2 := RM.out w1; (rw [← hw2] at r2); clear hw2; have hb2 := nlb2 hw1 r2.hB; have ne := HNE.out w2 hb2) | (go_at_call 9; (with_reducible refine ne.mono ?_); rintro e w3 ⟨rfl, hd3⟩))
      have hb3 := nlb2 hw1 r2.hB
      have T0 : TwIn w1 w1.heap.size s first step 0 0 w3 := ⟨_, _, _, _, _, r2.below hd3.below, tb_nil, by simp; omega, ⟨0, by simp⟩, by have := hok; unfold NewOk at this; omega, by have := hok; unfold NewOk at this; omega, fun x hx => by cases hx⟩
      have HT0 := Aside0.mk T0
      clear T0 r2
      go_loopw [11, 12] (fun la i wr => ∃ (last : Int) (j : Nat), j ≤ l.length ∧ la = .int .i64 last ∧ i = .int .i64 (j : Int) ∧ Aside0 (TwIn w1 w1.heap.size s first step last j wr)) (fun _ i _ => l.length - (intOf i).toNat)
      case atStart => exact ⟨0, 0, Nat.zero_le _, rfl, rfl, HT0⟩
      case round =>
        obtain ⟨last, j, hj, rfl, rfl, ht⟩ := hrel
        by_cases hlt : j < l.length
        · have p1 : decide ((j : Int) < (l.length : Int)) = true := decide_eq_true (by omega)
          obtain ⟨kv, vv, ks, vs, next, hr, hok2, hsz, hm, hnx, hla, hks⟩ := ht.out.it
          obtain ⟨ad, e, d0, d1, d2⟩ := at_T31 (Kd.C_below HC.out (nlb2 hw1 hr.hB)) (j : Int) (by omega) (by omega)
          subst e
          rw [Int.toNat_natCast] at d0 d1 d2
          have hac := HA.out (rd_T31 l (j : Int)) (by
            unfold rd_T31
            rw [Int.toNat_natCast, List.getD_eq_getElem?_getD, List.getElem?_eq_getElem hlt]
            exact List.getElem_mem hlt)
          have hid := HNR.out j hlt
          generalize rd_T31 l (j : Int) = act at d0 d1 d2 hac hid
          obtain ⟨kd, id, val⟩ := act
          simp only at d0 d1 d2 hac hid
          have hrA := hr.below ((Below.refl _ wr).alloc (Nat.le_refl _) (.cells #[.int .u8 kd, .int .i64 id, .int .i64 val] 31))
          have ID := rk_IDs hrA hok2 (by omega)
          have HO := rk_Hold hrA hok2 (by omega) id val
          have DR := rk_Drop hrA hok2 (by omega) id
          have DA := Aside0.mk (show (wr.alloc (.cells #[.int .u8 kd, .int .i64 id, .int .i64 val] 31)).cell? ⟨wr.heap.size, 2, none⟩ = some (.int .i64 val) from (blk_cell (World.alloc_heap_new wr _) 2).trans rfl)
          have HR := Aside0.mk hrA
          have GG := tw_give (size := s) (ks := ks) (first := first) hok.st.1 hok.st.2.1 hm (by omega) hks
          have hpos := tw_pos hok hm
          clear hr hrA
          have HKS := Aside0.mk hks
          have HM := Aside0.mk hm
          clear hks hm
          rcases GG with ⟨gf, g1, g2⟩ | ⟨gf, x, g1, g2, g3, g4, g5, g6⟩
          · have q5 : ((ks.length : Int) == s) = true := beq_iff_eq.mpr (by omega)
            have G12 := Aside0.mk (And.intro g1 g2)
            clear g1 g2
            go_wp2_with (first | (go_at_call 10; (with_reducible refine ID.mono ?_); rintro e w5 ⟨v5, rfl, ho, hb5⟩; have h5 := HR.out.below hb5; have da5 := pw_cell_below hb5 DA.out; obtain ⟨A5, c5, ev⟩ := own_slice ho; subst ev; have GV := rk_Give h5 hok2 (by omega) hok.st.1 hok.st.2.1 hpos (by omega) val; (rw [G12.out.1, G12.out.2] at GV); clear ho h5) | (go_at_call 11; (with_reducible refine GV.mono ?_); rintro e w6 ⟨rfl, kv6, vv6, h6, _⟩; have TT := Aside0.mk (tw_same (last := last) (j := j) h6 hok2 hsz HM.out hnx hla HKS.out); clear h6) | (go_at_call 12; (with_reducible refine HO.mono ?_); rintro e w5 ⟨rfl, kv5, vv5, h5, _⟩; have TT := Aside0.mk (tw_hold (last := last) (j := j) h5 hok2 hsz hs2 hid.2 HM.out hnx hla HKS.out); clear h5) | (go_at_call 13; (with_reducible refine DR.mono ?_); rintro e w5 ⟨rfl, kv5, vv5, h5, _⟩; have TT := Aside0.mk (tw_drop (last := last) (j := j) h5 hok2 hsz HM.out hnx hla HKS.out); clear h5))
            all_goals try exact ⟨⟨last, j + 1, by omega, rfl, by simp, TT⟩, by simp [intOf]; omega⟩
          · have G12 := Aside0.mk (And.intro g1 g2)
            have HLT := Aside0.mk (HR.out.lt)
            have q1 : decide (x ≤ last) = false := decide_eq_false (by omega)
            have q2 : decide (x < first) = false := by
              obtain ⟨m, hm⟩ := g6
              have : 0 ≤ step * (m : Int) := Int.mul_nonneg (by have := hok.st; omega) (by omega)
              exact decide_eq_false (by omega)
            have q3 : wrap64 (x - first) = x - first := by
              have := hok.st
              unfold wrap64
              omega
            have q4 : (x - first).tmod step = 0 := by
              obtain ⟨m, hm⟩ := g6
              rw [hm, show first + step * (m : Int) - first = step * m by omega]
              exact Int.mul_tmod_right _ _
            have q5 : (step == 0) = false := beq_eq_false_iff_ne.mpr (by have := hok.st; omega)
            have q6 : ¬ step = 0 := by have := hok.st; omega
            have G3 := Aside0.mk g3
            have G6 := Aside0.mk g6
            clear g1 g2 g3 g6
            go_wp2_with (first | (go_at_call 10; (with_reducible refine ID.mono ?_); rintro e w5 ⟨v5, rfl, ho, hb5⟩; have h5 := HR.out.below hb5; have da5 := pw_cell_below hb5 DA.out; obtain ⟨A5, c5, ev⟩ := own_slice ho; subst ev; have GV := rk_Give h5 hok2 (by omega) hok.st.1 hok.st.2.1 hpos (by omega) val; (rw [G12.out.1, G12.out.2] at GV); (simp only [Option.getD_some, gvE, gvK, gvV] at GV); have ROW := Aside0.mk (fun (W6 : World) (m6 : RkMv w1.heap.size kv vv w5 W6) => row_after ho m6 HLT.out (fun q hq => own_lt HR.out.hk q hq) (fun q hq => own_lt HR.out.hv q hq)); clear ho h5) | (go_at_call 11; (with_reducible refine GV.mono ?_); rintro e w6 ⟨rfl, kv6, vv6, h6, m6⟩; have TT := Aside0.mk (tw_given (j := j) h6 hok2 hs2 gf hok.st.1 hok.st.2.1 g5 g4 G6.out hnx HKS.out); have RW := Aside0.mk (ROW.out _ m6); clear h6 m6) | (go_at_call 12; (with_reducible refine HO.mono ?_); rintro e w5 ⟨rfl, kv5, vv5, h5, _⟩; have TT := Aside0.mk (tw_hold (last := last) (j := j) h5 hok2 hsz hs2 hid.2 HM.out hnx hla HKS.out); clear h5) | (go_at_call 13; (with_reducible refine DR.mono ?_); rintro e w5 ⟨rfl, kv5, vv5, h5, _⟩; have TT := Aside0.mk (tw_drop (last := last) (j := j) h5 hok2 hsz HM.out hnx hla HKS.out); clear h5))
            all_goals try exact ⟨⟨last, j + 1, by omega, rfl, by simp, TT⟩, by simp [intOf]; omega⟩
            all_goals
              go_loopw [17] (fun v wr2 => ∃ q : Nat, q ≤ ks.length ∧ v = .int .i64 (q : Int) ∧ wr2 = w6) (fun v _ => ks.length - (intOf v).toNat)
              case atStart => exact ⟨0, Nat.zero_le _, rfl, rfl⟩
              case round =>
                obtain ⟨q, hq, rfl, hw6⟩ := hrel
                subst hw6
                by_cases hql : q < ks.length
                · have z1 : decide ((q : Int) < (ks.length : Int)) = true := decide_eq_true (by omega)
                  obtain ⟨g, c, e, hcell⟩ := RW.out q hql
                  obtain rfl : A5 = some ⟨g, 0, none⟩ := (Value.slice.inj e).1
                  have z2 : (ks.getD q 0 == x) = false := beq_eq_false_iff_ne.mpr (fun h => G3.out (by rw [← h, List.getD_eq_getElem?_getD, List.getElem?_eq_getElem hql]; exact List.getElem_mem hql))
                  generalize ks.getD q 0 = y at hcell z2
                  clear e
                  go_wp2_with fail
                  exact ⟨⟨q + 1, by omega, by simp, trivial⟩, by simp [intOf]; omega⟩
                · have z1 : decide ((q : Int) < (ks.length : Int)) = false := decide_eq_false (by omega)
                  go_wp2_with fail
                  exact ⟨⟨x, j + 1, by omega, rfl, by simp, TT⟩, by simp [intOf]; omega⟩
        · have p1 : decide ((j : Int) < (l.length : Int)) = false := decide_eq_false (by omega)
          obtain ⟨kv, vv, ks, vs, next, hr, hok2, hsz, hm, hnx, hla, hks⟩ := ht.out.it
          have ID := rk_IDs hr hok2 (by omega)
          have HB := Aside0.mk (nlb2 hw1 hr.hB)
          have HS := Aside0.mk hok2.sorted
          clear hr hks hm hok2
          go_wp2_with (go_at_call 10; (with_reducible refine ID.mono ?_); rintro e w5 ⟨v5, rfl, ho, hb5⟩; have HB5 := Aside0.mk (nlb2 HB.out hb5); obtain ⟨A5, c5, ev⟩ := own_slice ho; subst ev; have HO5 := Aside0.mk ho; clear ho)
          go_loopw [19] (fun v wr2 => ∃ q : Nat, 1 ≤ q ∧ v = .int .i64 (q : Int) ∧ ∃ nd, wr2 = w5.drewN nd) (fun v _ => ks.length - (intOf v).toNat)
          case atStart => exact ⟨1, Nat.le_refl _, rfl, 0, rfl⟩
          case round =>
            obtain ⟨q, hq, rfl, nd, rfl⟩ := hrel
            by_cases hql : q < ks.length
            · have z1 : decide ((q : Int) < (ks.length : Int)) = true := decide_eq_true (by omega)
              obtain ⟨g, c, e, hcs⟩ := own_cells HO5.out (by omega)
              obtain rfl : A5 = some ⟨g, 0, none⟩ := (Value.slice.inj e).1
              have y1 : w5.cell? ⟨g, q, none⟩ = some (.int .i64 (ks.getD q 0)) := hcs q hql
              have y0 : w5.cell? ⟨g, q - 1, none⟩ = some (.int .i64 (ks.getD (q - 1) 0)) := hcs (q - 1) (by omega)
              have z3 : IntKind.i64.wrap ((q : Int) - 1) = ((q - 1 : Nat) : Int) := by
                rw [IntKind.wrap_i64]
                omega
              have z5 : ((q - 1 : Nat) : Int) < (ks.length : Int) := by omega
              have z6 : (0 : Int) ≤ ((q - 1 : Nat) : Int) := by omega
              have z7 : q - 1 < ks.length := by omega
              have z4 : decide (ks.getD q 0 ≤ ks.getD (q - 1) 0) = false := decide_eq_false (by
                have := List.pairwise_iff_getElem.1 HS.out (q - 1) q (by omega) hql (by omega)
                rw [List.getD_eq_getElem?_getD, List.getD_eq_getElem?_getD, List.getElem?_eq_getElem hql, List.getElem?_eq_getElem (by omega)]
                simpa using this)
              generalize ks.getD q 0 = a at y1 z4
              generalize ks.getD (q - 1) 0 = b at y0 z4
              clear e hcs
              go_wp2_with fail
              go_region
              go_wp2_with fail
              exact ⟨⟨q + 1, by omega, by go_num, nd + 1, rfl⟩, by simp [intOf]; omega⟩
            · have z1 : decide ((q : Int) < (ks.length : Int)) = false := decide_eq_false (by omega)
              have z2 : decide ((ks.length : Int) ≤ s) = true := decide_eq_true hsz
              go_wp2_with fail
              go_ret
              exact ⟨rfl, nlb2 HB5.out (pw_below_drewN (Below.refl _ _) nd)⟩
  · have NW := fun (W : World) => rk_NewNo s first step W hok
    clear hk
    go_enter Try.func3, Try.ntmps3
    go_wp2_with (first | (go_at_call 7; refine hAw.mono ?_; rintro e w1 ⟨rfl, hw1⟩; have nw := NW w1) | (go_at_call 8; (with_reducible refine nw.mono ?_); rintro e w2 ⟨rfl, rfl⟩))
    go_ret
    exact ⟨rfl, hw1⟩

/-- THE ONE PURE STATEMENT of postilionlaw03_RackTwice: yours. -/
def postilionlaw03_RackTwice.Pure : Prop := ∀ (a0 : Int) (a1 : Int) (a2 : Int) (l3 : List (S31)), (Lit.int .i64 a0).wf = true → (Lit.int .i64 a1).wf = true → (Lit.int .i64 a2).wf = true → l3.length ≤ maxLen → (∀ y_ ∈ l3, ((Lit.int .u8 y_.f0).wf = true) ∧ ((Lit.int .i64 y_.f1).wf = true) ∧ ((Lit.int .i64 y_.f2).wf = true)) → postilionlaw03_RackTwice.f a0 a1 a2 l3 = some true

end Go.Proofs.Ytnlckandbgpncaa.P
