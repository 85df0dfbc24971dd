import Derived.Test.YtnajlpmpofljhaaSLplaysC
namespace Go.Proofs.Ytnajlpmpofljhaa.P
open Go.RowKit Go.Proofs.YtnajlpmpofljhaaW.PrintWords Go.Proofs.YtnajlpmpofljhaaW.PrintLast Go.Proofs.YtnajlpmpofljhaaW.PrintMore
set_option linter.unusedVariables false
set_option linter.unusedSimpArgs false
set_option linter.unnecessarySimpa false
attribute [local go_sem] max2_int min2_int max_two min_two max_three min_three max_four min_four
def nowB (now : Int) : Bool := decide (0 ≤ now) && decide (now ≤ 1099511626775)
def rdL (ws : List Int) (now every : Int) (l : List (Int × Int)) : List (Int × Int) := if nowB now = true then l.map (rowF ws now every) else l
def rdO (ws : List Int) (now : Int) (l : List (Int × Int)) : List Int := if nowB now = true then roundO ws now l else []
section
variable {w0 : World} {P M : Nat} {pv rv pv' rv' : Value} {l l' : List (Int × Int)} {every every' : Int} {W W5 W6 : World}
theorem rdO_len (ok : PnOk l) (ws : List Int) (now : Int) : (rdO ws now l).length ≤ 64 := by
  unfold rdO roundO
  split
  · rw [List.length_map]
    exact Nat.le_trans (List.length_filter_le _ _) ok.most
  · exact Nat.zero_le _
theorem rdL_ok (ok : PnOk l) (ws : List Int) (now : Int) : PnOk (rdL ws now every l) := by
  unfold rdL
  split
  · exact ok.round ws now
  · exact ok
theorem pz_RoundA (h : PnRaw w0 P pv l every W) (ok : PnOk l) (he : 1 ≤ every ∧ every ≤ 1000) (now : Int) {A : Option Addr} {c : Nat} {ws : List Int} (hw : IntsAt w0.heap.size W.heap.size A ws W) (hwl : ws.length ≤ 1000) :
    Calls Try.prog 11 #[.pointer (some ⟨P, 0, none⟩), .int .i64 now, .slice A ws.length c] W (fun e W' => ∃ v, e = .returned v ∧ W'.ownsRow W.heap.size 3 1 v (rdO ws now l).length (nums .i64 (rdO ws now l)) ∧ PnRaw w0 P pv (rdL ws now every l) every W' ∧ PnMv P pv W W') := by
  unfold rdO rdL nowB
  by_cases h1 : 0 ≤ now ∧ now ≤ 1099511626775
  · rw [show (decide (0 ≤ now) && decide (now ≤ 1099511626775)) = true by rw [decide_eq_true h1.1, decide_eq_true h1.2]; rfl, if_pos rfl, if_pos rfl]
    exact pz_Round h ok he now h1 hw hwl
  · have e : (decide (0 ≤ now) && decide (now ≤ 1099511626775)) = false := by
      rw [Bool.and_eq_false_iff, decide_eq_false_iff_not, decide_eq_false_iff_not]; omega
    rw [e, if_neg (by decide), if_neg (by decide)]
    refine (pz_RoundNo h (by omega) now (by omega) _).mono ?_
    rintro e w2 ⟨rfl, rfl⟩
    exact ⟨_, rfl, World.ownsRow_nil _ _ _ _, h, PnMv.refl _ _ _⟩
theorem rp_RoundA (h : RpRaw w0 P pv l every W) (ok : PnOk l) (he : 1 ≤ every ∧ every ≤ 1000) (now : Int) {A : Option Addr} {c : Nat} {ws : List Int} (hw : IntsAt w0.heap.size W.heap.size A ws W) (hwl : ws.length ≤ 1000) :
    Calls Try.prog 21 #[.pointer (some ⟨P, 0, none⟩), .int .i64 now, .slice A ws.length c] W (fun e W' => ∃ v, e = .returned v ∧ W'.ownsRow W.heap.size 3 1 v (rdO ws now l).length (nums .i64 (rdO ws now l)) ∧ RpRaw w0 P pv (rdL ws now every l) every W' ∧ RpMv P pv W W') := by
  unfold rdO rdL nowB
  by_cases h1 : 0 ≤ now ∧ now ≤ 1099511626775
  · rw [show (decide (0 ≤ now) && decide (now ≤ 1099511626775)) = true by rw [decide_eq_true h1.1, decide_eq_true h1.2]; rfl, if_pos rfl, if_pos rfl]
    exact rp_Round h ok he now h1 hw hwl
  · have e : (decide (0 ≤ now) && decide (now ≤ 1099511626775)) = false := by
      rw [Bool.and_eq_false_iff, decide_eq_false_iff_not, decide_eq_false_iff_not]; omega
    rw [e, if_neg (by decide), if_neg (by decide)]
    refine (rp_RoundNo _ now (by omega) _ _).mono ?_
    rintro e w2 ⟨rfl, rfl⟩
    exact ⟨_, rfl, World.ownsRow_nil _ _ _ _, h, RpMv.refl _ _ _⟩
theorem own_rmv {b : Nat} {v : Value} {xs : List Int} (h : W.ownsRow b 3 1 v xs.length (nums .i64 xs)) (hf : RpRaw w0 M rv l every W) (m : RpMv M rv W W5) : W5.ownsRow b 3 1 v xs.length (nums .i64 xs) := by
  rcases own1_form h with ⟨rfl, rfl⟩ | ⟨g, cap, cur, rfl, hg, hh, hnc, hcm, hsz, htk, _⟩
  · exact World.ownsRow_nil _ _ _ _
  · exact own1_mk ((m.keep g (blk_lt hh) (fun e => blk_ne hh hf.blk (by decide) e) (own_ne hf.hr hh (by decide))).trans hh) hg rfl hnc hcm hsz htk
theorem pz_store {b k : Nat} {x : Value} {cs : Array Value} (h : PnRaw w0 P pv l every W) (hb : W.heap[b]? = some (.cells cs 3 (0, 0))) (hg : w0.heap.size ≤ b) : PnRaw w0 P pv l every (W.setCell ⟨b, k, none⟩ x) :=
  ⟨h.le, (Below.heap_setCell _ _ _ _ (fun e => blk_ne h.blk hb (by decide) e)).trans h.blk, own_setCell (p := ⟨b, k, none⟩) h.hr (own_ne h.hr hb (by decide)) x, h.hB.setCell hg _⟩
theorem rp_store {b k : Nat} {x : Value} {cs : Array Value} (h : RpRaw w0 P pv l every W) (hb : W.heap[b]? = some (.cells cs 3 (0, 0))) (hg : w0.heap.size ≤ b) : RpRaw w0 P pv l every (W.setCell ⟨b, k, none⟩ x) :=
  ⟨h.le, (Below.heap_setCell _ _ _ _ (fun e => blk_ne h.blk hb (by decide) e)).trans h.blk, own_setCell (p := ⟨b, k, none⟩) h.hr (own_ne h.hr hb (by decide)) x, h.hB.setCell hg _⟩
end
end Go.Proofs.Ytnajlpmpofljhaa.P
