-- Laid by sp.py, a program of this session's, out of the translation and the session's own stand-ins.
import Derived.Test.YtnlckandbgpncaaPx0
import Derived.Test.YtnlckandbgpncaaStins
import Derived.Test.YtnlckandbgpncaaStrackTable
import Derived.Test.YtnlckandbgpncaaStrackOps
import Derived.Test.YtnlckandbgpncaaStrackGive
import Derived.Test.YtnlckandbgpncaaStrackIDs
import Derived.Test.YtnlckandbgpncaaStrackNew
import Derived.Test.YtnlckandbgpncaaStrackTwice
import Derived.Test.YtnlckandbgpncaaShelf
import Derived.Test.YtnlckandbgpncaaSLplayFacts
import Derived.Test.YtnlckandbgpncaaStrackNew
import Derived.Test.YtnlckandbgpncaaSLswap
import Derived.Test.YtnlckandbgpncaaSLints
import Derived.Test.YtnlckandbgpncaaStrackTwice
namespace Go.Proofs.Ytnlckandbgpncaa.P
open Go.RowKit Go.Proofs.YtnlckandbgpncaaW.PrintWords Go.Proofs.YtnlckandbgpncaaW.PrintLast Go.Proofs.YtnlckandbgpncaaW.PrintMore
attribute [local go_sem] max2_int min2_int max_two min_two max_three min_three max_four min_four   -- for this text's walks alone
set_option linter.unusedVariables false
set_option linter.unusedSimpArgs false
set_option linter.unnecessarySimpa false

/-! ### RackPlays: a law by hand -/
def postilionlaw03_RackPlays.f (_size _first _step : Int) (l : List S31) : Option Bool := if l.all (fun a => decide (0 ≤ a.f0 ∧ a.f0 < 256)) = true then some true else none
theorem plb2 {w a b : World} (h : Below w.heap.size w a) (hb : Below a.heap.size a b) : Below w.heap.size w b :=
  h.trans ⟨hb.os, hb.tape, hb.output, hb.size, fun j hj => hb.block j (Nat.lt_of_lt_of_le hj h.size)⟩
/-- What is true between two acts. -/
def PlIn (w0 : World) (R M : Nat) (size step : Int) (W : World) : Prop := ∃ kv vv ks vs next rv l, RkRaw w0 R kv vv ks vs size next step W ∧ RfRaw w0 M rv l size next step W ∧ TbOk ks vs ∧ (ks.length : Int) ≤ size ∧ 1 ≤ next ∧ next ≤ 1099511629000 ∧ (∀ x ∈ ks, 1 ≤ x) ∧ Sim ks vs l
/-- .. and behind what is done. -/
def PlMid (w0 : World) (R M : Nat) (size step : Int) (g : Nat) (kd id val : Int) (W : World) : Prop := PlIn w0 R M size step W ∧ W.heap[g]? = some (.cells #[.int .u8 kd, .int .i64 id, .int .i64 val] 31 (0, 0))
section
variable {w0 : World} {R M : Nat} {kv vv rv kv' vv' rv' : Value} {ks vs ks' vs' : List Int} {l l' : List (Int × Int)} {size next step next' : Int} {W W5 W6 : World}
theorem rf_mv (hf : RfRaw w0 M rv l size next step W) {sz nx st : Int} (hr : RkRaw w0 R kv vv ks vs sz nx st W) (m : RkMv R kv vv W W5) (hB5 : Below w0.heap.size w0 W5) : RfRaw w0 M rv l size next step W5 := by
  refine ⟨hf.le, (m.keep M hf.lt (fun e => blk_ne hf.blk hr.blk (by decide) e) (own_ne hr.hk hf.blk (by decide)) (own_ne hr.hv hf.blk (by decide))).trans hf.blk, ?_, hB5⟩
  rcases own2_form hf.hr with ⟨rfl, rfl⟩ | ⟨g, cap, cur, rfl, hg, hh, hnc, hcm, hsz, htk, _⟩
  · exact World.ownsRow_nil _ _ _ _
  · exact own2_mk ((m.keep g (blk_lt hh) (fun e => blk_ne hh hr.blk (by decide) e) (own_ne hr.hk hh (by decide)) (own_ne hr.hv hh (by decide))).trans hh) hg rfl hnc hcm hsz htk
theorem row_mv {v : Value} {xs : List Int} (h : W.ownsRow w0.heap.size 3 1 v xs.length (nums .i64 xs)) (hf : RfRaw w0 M rv l size next step W) (m : RfMv M rv W W5) : W5.ownsRow w0.heap.size 3 1 v xs.length (nums .i64 xs) := by
  rcases own_form h with ⟨rfl, rfl⟩ | ⟨g, cap, cur, rfl, hg, hh, hnc, hcm, hsz, htk, _⟩
  · exact World.ownsRow_nil _ _ _ _
  · exact own_mk ((m.keep g (blk_lt hh) (fun e => blk_ne hh hf.blk (by decide) e) (own_ne hf.hr hh (by decide))).trans hh) hg rfl hnc hcm hsz htk
theorem rk_mv {sz nx st : Int} (hr : RkRaw w0 R kv vv ks vs sz nx st W) (hf : RfRaw w0 M rv l size next step W) (m : RfMv M rv W W5) (hB5 : Below w0.heap.size w0 W5) : RkRaw w0 R kv vv ks vs sz nx st W5 :=
  ⟨hr.le, (m.keep R hr.lt (fun e => blk_ne hr.blk hf.blk (by decide) e) (own_ne hf.hr hr.blk (by decide))).trans hr.blk, row_mv hr.hk hf m, row_mv hr.hv hf m, hr.ap, hB5⟩
theorem actF_mv {g : Nat} {cs : Array Value} (h : W.heap[g]? = some (.cells cs 31 (0, 0))) (hf : RfRaw w0 M rv l size next step W) (m : RfMv M rv W W5) : W5.heap[g]? = some (.cells cs 31 (0, 0)) :=
  (m.keep g (blk_lt h) (fun e => blk_ne h hf.blk (by decide) e) (own_ne hf.hr h (by decide))).trans h
theorem actK_mv {g : Nat} {cs : Array Value} (h : W.heap[g]? = some (.cells cs 31 (0, 0))) (hr : RkRaw w0 R kv vv ks vs size next step W) (m : RkMv R kv vv W W5) : W5.heap[g]? = some (.cells cs 31 (0, 0)) :=
  (m.keep g (blk_lt h) (fun e => blk_ne h hr.blk (by decide) e) (own_ne hr.hk h (by decide)) (own_ne hr.hv h (by decide))).trans h
/-- Both have moved. -/
theorem pl_both {g : Nat} {kd id val : Int} (h5 : RkRaw w0 R kv' vv' ks' vs' size next' step W5) (hf5 : RfRaw w0 M rv l size next step W5) (hA5 : W5.heap[g]? = some (.cells #[.int .u8 kd, .int .i64 id, .int .i64 val] 31 (0, 0))) (h6 : RfRaw w0 M rv' l' size next' step W6) (m6 : RfMv M rv W5 W6)
    (ok : TbOk ks' vs') (hsz : (ks'.length : Int) ≤ size) (hn1 : 1 ≤ next') (hn2 : next' ≤ 1099511629000) (hks : ∀ x ∈ ks', 1 ≤ x) (hs : Sim ks' vs' l') : PlMid w0 R M size step g kd id val W6 :=
  ⟨⟨_, _, _, _, _, _, _, rk_mv h5 hf5 m6 h6.hB, h6, ok, hsz, hn1, hn2, hks, hs⟩, actF_mv hA5 hf5 m6⟩
theorem pl_give {v : Int} (ok : TbOk ks vs) (hs : Sim ks vs l) (hsz : (ks.length : Int) ≤ size) (hs2 : size ≤ 64) (hst : 1 ≤ step) (hst2 : step ≤ 1000) (hn1 : 1 ≤ next) (hn2 : next ≤ 1099511629000) (hks : ∀ x ∈ ks, 1 ≤ x) :
    TbOk (gvK ks (gvId ks size next step)) (gvV ks vs v (gvId ks size next step)) ∧ ((gvK ks (gvId ks size next step)).length : Int) ≤ size ∧ 1 ≤ gvNx ks size next step ∧ gvNx ks size next step ≤ 1099511629000 ∧ (∀ x ∈ gvK ks (gvId ks size next step), 1 ≤ x) ∧ Sim (gvK ks (gvId ks size next step)) (gvV ks vs v (gvId ks size next step)) (gvL l v (gvId ks size next step)) := by
  rcases gv_facts (ks := ks) (size := size) hst hst2 hn1 hn2 with ⟨e, h1, h2⟩ | ⟨x, e, hx, hc, hf, h1, h2⟩
  · rw [e]
    exact ⟨ok, hsz, h1, h2, hks, hs⟩
  · rw [e]
    refine ⟨ok.put x v (by omega), ?_, h1, h2, fun y hy => ?_, hs.more ok (by omega) hc⟩
    · show ((putK ks x).length : Int) ≤ size
      rw [putK_length, if_neg (by rw [hc]; decide)]
      omega
    · rcases (mem_putK ks x y).1 hy with rfl | hy
      · exact hx
      · exact hks y hy
theorem pl_hold {id v : Int} (ok : TbOk ks vs) (hs : Sim ks vs l) (hsz : (ks.length : Int) ≤ size) (hs2 : size ≤ 64) (hks : ∀ x ∈ ks, 1 ≤ x) :
    TbOk (if erH ks size id = 0 then putK ks id else ks) (if erH ks size id = 0 then putV ks vs id v else vs) ∧ ((if erH ks size id = 0 then putK ks id else ks).length : Int) ≤ size ∧ (∀ x ∈ (if erH ks size id = 0 then putK ks id else ks), 1 ≤ x) ∧ Sim (if erH ks size id = 0 then putK ks id else ks) (if erH ks size id = 0 then putV ks vs id v else vs) (if erH ks size id = 0 then l ++ [(id, v)] else l) := by
  by_cases e : erH ks size id = 0
  · rw [if_pos e, if_pos e, if_pos e]
    obtain ⟨hf, hc⟩ := erH_zero e
    have h1 : 1 ≤ id := by
      unfold erH at e
      split at e
      · cases e
      · omega
    refine ⟨ok.put id v (by omega), ?_, fun y hy => ?_, hs.more ok (by omega) hc⟩
    · rw [putK_length, if_neg (by rw [hc]; decide)]
      omega
    · rcases (mem_putK ks id y).1 hy with rfl | hy
      · exact h1
      · exact hks y hy
  · rw [if_neg e, if_neg e, if_neg e]
    exact ⟨ok, hsz, hks, hs⟩
theorem pl_set {id v : Int} (ok : TbOk ks vs) (hs : Sim ks vs l) (hl : ks.length ≤ 99) : TbOk ks (if ks.contains id = true then putV ks vs id v else vs) ∧ Sim ks (if ks.contains id = true then putV ks vs id v else vs) (setR l id v) := by
  by_cases hc : ks.contains id = true
  · rw [if_pos hc]
    have ek : putK ks id = ks := by unfold putK; rw [if_pos hc]
    have ok2 := ok.put id v hl
    rw [ek] at ok2
    exact ⟨ok2, hs.other ok hl hc⟩
  · rw [if_neg hc]
    have e : setR l id v = l := by unfold setR; rw [if_neg (by rw [hs.has]; exact hc)]
    rw [e]
    exact ⟨ok, hs⟩
theorem pl_drop {id : Int} (ok : TbOk ks vs) (hs : Sim ks vs l) (hsz : (ks.length : Int) ≤ size) (hks : ∀ x ∈ ks, 1 ≤ x) : TbOk (dropK ks id) (dropV ks vs id) ∧ ((dropK ks id).length : Int) ≤ size ∧ (∀ x ∈ dropK ks id, 1 ≤ x) ∧ Sim (dropK ks id) (dropV ks vs id) (delR l id) := by
  refine ⟨ok.drop id, ?_, fun y hy => hks y ((mem_dropK ok.sorted y).1 hy).1, hs.less ok id⟩
  rw [dropK_length]
  split <;> omega
end
set_option maxRecDepth 100000 in
set_option maxHeartbeats 32000000 in
theorem postilionlaw03_RackPlays.calls (size first step : Int) (A3 : Option Addr) (c3 : Nat) (l : List S31) (r : Bool) (w : World) (hC : Kd.C k31 w A3 l.length l) (hc : l.length ≤ c3) (h : postilionlaw03_RackPlays.f size first step l = some r) (hT : Aside0 (r = true)) :
    Calls Try.prog 5 #[.int .i64 size, .int .i64 first, .int .i64 step, .slice A3 l.length c3] w fun e w' => e = .returned (.bool r) ∧ Below w.heap.size w w' := by
  obtain rfl := hT.out
  have ha : ∀ x ∈ l, 0 ≤ x.f0 ∧ x.f0 < 256 := by
    unfold postilionlaw03_RackPlays.f at h
    split at h
    · rename_i hg
      exact fun x hx => by simpa using (List.all_eq_true.1 hg) x hx
    · cases h
  clear h
  have HA := Aside0.mk ha
  clear ha
  have HC := Aside0.mk hC
  have HCC := Aside0.mk hc
  clear hC hc
  by_cases hl : 150 < l.length
  · have p1 : decide (150 < (l.length : Int)) = true := decide_eq_true (by omega)
    go_enter Try.func5, Try.ntmps5
    go_wp2_with fail
    go_ret
    exact ⟨rfl, Below.refl _ _⟩
  have p1 : decide (150 < (l.length : Int)) = false := decide_eq_false (by omega)
  by_cases hok : NewOk size first step
  · have NW := rk_New size first step w hok
    have NF := fun (W : World) => rf_New size first step W hok
    have RM := Aside0.mk (rk_made size first step w)
    have hst : 1 ≤ step ∧ step ≤ 1000 ∧ 1 ≤ first ∧ first ≤ 1000 ∧ 1 ≤ size ∧ size ≤ 64 := by unfold NewOk at hok; omega
    clear hok
    go_enter Try.func5, Try.ntmps5
    go_wp2_with (first | (go_at_call 8; (with_reducible refine NW.mono ?_); rintro e w2 ⟨rfl, hw2⟩; subst hw2) | (go_at_call 17; (with_reducible refine (NF _).mono ?_); rintro e w3 ⟨rfl, hw3⟩; subst hw3))
    have T0 : PlIn w w.heap.size (w.heap.size + 1) size step ((w.alloc (.cells #[.slice none 0 0, .slice none 0 0, .int .i64 size, .int .i64 first, .int .i64 step] 42)).alloc (.cells #[.int .i64 size, .int .i64 first, .int .i64 step, .slice none 0 0] 55)) := by
      have b1 : Below (w.alloc (.cells #[.slice none 0 0, .slice none 0 0, .int .i64 size, .int .i64 first, .int .i64 step] 42)).heap.size (w.alloc (.cells #[.slice none 0 0, .slice none 0 0, .int .i64 size, .int .i64 first, .int .i64 step] 42)) ((w.alloc (.cells #[.slice none 0 0, .slice none 0 0, .int .i64 size, .int .i64 first, .int .i64 step] 42)).alloc (.cells #[.int .i64 size, .int .i64 first, .int .i64 step, .slice none 0 0] 55)) := (Below.refl _ _).alloc (Nat.le_refl _) _
      have r1 := RM.out.below b1
      have e2 := blk_new (w.alloc (.cells #[.slice none 0 0, .slice none 0 0, .int .i64 size, .int .i64 first, .int .i64 step] 42)) (.cells #[.int .i64 size, .int .i64 first, .int .i64 step, .slice none 0 0] 55)
      rw [World.size_alloc] at e2
      exact ⟨_, _, [], [], first, .slice none 0 0, [], r1, ⟨by omega, e2, World.ownsRow_nil _ _ _ _, r1.hB⟩, tb_nil, by simp; omega, by omega, by omega, (fun x hx => by cases hx), Sim.nil⟩
    have HT0 := Aside0.mk T0
    clear T0
    go_loopw [13] (fun i wr => ∃ (j : Nat), j ≤ l.length ∧ i = .int .i64 (j : Int) ∧ Aside0 (PlIn w w.heap.size (w.heap.size + 1) size step wr)) (fun i _ => l.length - (intOf i).toNat)
    case atStart => exact ⟨0, Nat.zero_le _, rfl, HT0⟩
    case round =>
      obtain ⟨j, hj, rfl, ht⟩ := hrel
      by_cases hlt : j < l.length
      · have p1 : decide ((j : Int) < (l.length : Int)) = true := decide_eq_true (by omega)
        obtain ⟨kv, vv, ks, vs, next, rv, rl, hr, hf, hok2, hsz, hn1, hn2, hks, hsm⟩ := ht.out
        clear ht
        obtain ⟨ad, e, d0, d1, d2⟩ := at_T31 (Kd.C_below HC.out hr.hB) (j : Int) (by omega) (by omega)
        subst e
        rw [Int.toNat_natCast] at d0 d1 d2
        have hac := HA.out (rd_T31 l (j : Int)) (by
          unfold rd_T31
          rw [Int.toNat_natCast, List.getD_eq_getElem?_getD, List.getElem?_eq_getElem hlt]
          exact List.getElem_mem hlt)
        generalize rd_T31 l (j : Int) = act at d0 d1 d2 hac
        obtain ⟨kd, id, val⟩ := act
        simp only at d0 d1 d2 hac
        have bA : Below wr.heap.size wr (wr.alloc (.cells #[.int .u8 kd, .int .i64 id, .int .i64 val] 31)) := (Below.refl _ wr).alloc (Nat.le_refl _) _
        have HR := Aside0.mk (hr.below bA)
        have HF := Aside0.mk (hf.below bA)
        have HA1 := Aside0.mk (blk_new wr (.cells #[.int .u8 kd, .int .i64 id, .int .i64 val] 31))
        have HKS := Aside0.mk hks
        have HSM := Aside0.mk hsm
        clear hr hf hks hsm bA
        go_upto_block 2 with fail
        go_cut [15] (fun _ wx => PlMid w w.heap.size (w.heap.size + 1) size step wr.heap.size kd id val wx)
        case first =>
          go_wp2_with fail
          · have GV := rk_Give HR.out hok2 (by omega) hst.1 hst.2.1 hn1 hn2 val
            have PG := Aside0.mk (pl_give (v := val) hok2 HSM.out hsz hst.2.2.2.2.2 hst.1 hst.2.1 hn1 hn2 HKS.out)
            have hll : rl.length ≤ 1000 := by have := HSM.out.len; omega
            have GF := Aside0.mk (fun (W : World) (hf5 : RfRaw w (w.heap.size + 1) rv rl size next step W) => rf_Give (ks := ks) hf5 hst.1 hst.2.1 hn1 hn2 val hll HSM.out.len hsz HSM.out.has)
            generalize (gvId ks size next step).getD 0 = gi at GV GF
            generalize gvE (gvId ks size next step) = ge at GV GF
            go_wp2_with (first | (go_at_call 11; (with_reducible refine GV.mono ?_); rintro e w5 ⟨rfl, kv', vv', h5, m5⟩; have hf5 := Aside0.mk (rf_mv HF.out HR.out m5 h5.hB); have hA5 := Aside0.mk (actK_mv HA1.out HR.out m5); have cA2 : w5.cell? ⟨wr.heap.size, 2, none⟩ = some (.int .i64 val) := (blk_cell hA5.out 2).trans rfl; have G5 := GF.out w5 hf5.out; have H5 := Aside0.mk h5; clear h5 m5 GV) | (go_at_call 18; (with_reducible refine G5.mono ?_); rintro e w6 ⟨rfl, rv', h6, m6⟩; have QQ := Aside0.mk (pl_both H5.out hf5.out hA5.out h6 m6 PG.out.1 PG.out.2.1 PG.out.2.2.1 PG.out.2.2.2.1 PG.out.2.2.2.2.1 PG.out.2.2.2.2.2); clear h6 m6 G5))
            go_meet
            exact QQ.out
          · have GV := rk_Give HR.out hok2 (by omega) hst.1 hst.2.1 hn1 hn2 val
            have PG := Aside0.mk (pl_give (v := val) hok2 HSM.out hsz hst.2.2.2.2.2 hst.1 hst.2.1 hn1 hn2 HKS.out)
            have hll : rl.length ≤ 1000 := by have := HSM.out.len; omega
            have GF := Aside0.mk (fun (W : World) (hf5 : RfRaw w (w.heap.size + 1) rv rl size next step W) => rf_Give (ks := ks) hf5 hst.1 hst.2.1 hn1 hn2 val hll HSM.out.len hsz HSM.out.has)
            generalize (gvId ks size next step).getD 0 = gi at GV GF
            generalize gvE (gvId ks size next step) = ge at GV GF
            go_wp2_with (first | (go_at_call 11; (with_reducible refine GV.mono ?_); rintro e w5 ⟨rfl, kv', vv', h5, m5⟩; have hf5 := Aside0.mk (rf_mv HF.out HR.out m5 h5.hB); have hA5 := Aside0.mk (actK_mv HA1.out HR.out m5); have cA2 : w5.cell? ⟨wr.heap.size, 2, none⟩ = some (.int .i64 val) := (blk_cell hA5.out 2).trans rfl; have G5 := GF.out w5 hf5.out; have H5 := Aside0.mk h5; clear h5 m5 GV) | (go_at_call 18; (with_reducible refine G5.mono ?_); rintro e w6 ⟨rfl, rv', h6, m6⟩; have QQ := Aside0.mk (pl_both H5.out hf5.out hA5.out h6 m6 PG.out.1 PG.out.2.1 PG.out.2.2.1 PG.out.2.2.2.1 PG.out.2.2.2.2.1 PG.out.2.2.2.2.2); clear h6 m6 G5))
            go_meet
            exact QQ.out
          · skip
            have HRd := Aside0.mk (HR.out.below (Below.refl _ _).drew)
            have HFd := Aside0.mk (HF.out.below (Below.refl _ _).drew)
            have hll : rl.length ≤ 1000 := by have := HSM.out.len; omega
            have PG := Aside0.mk (pl_hold (id := id) (v := val) hok2 HSM.out hsz hst.2.2.2.2.2 HKS.out)
            have GV := rk_Hold HRd.out hok2 (by omega) id val
            have GF := Aside0.mk (fun (W : World) (hf5 : RfRaw w (w.heap.size + 1) rv rl size next step W) => rf_Hold hf5 id val hll)
            rw [HSM.out.hold hsz] at GF
            refine start_ (n := 13) (S := fun w' => (w'.cell? ⟨wr.heap.size, 1, none⟩ = some (.int .i64 id)) ∧ (w'.cell? ⟨wr.heap.size, 1 + 1, none⟩ = some (.int .i64 val))) (ds := []) #[false, false, false, false, false, false, false, false, false, false, false, false, false] (by kernel_rfl) rfl rfl ⟨(blk_cell HA1.out 1).trans rfl, (blk_cell HA1.out 2).trans rfl⟩ (fun hHeld => ?_)
            refine pure_ (i := 0) (N := some 117) (v := ?_) (a' := ?_) #[true, false, false, false, false, false, false, false, false, false, false, false, false] rfl rfl (by kernel_rfl) (fun _ _ _ h => h) (Or.inl ⟨by rfl, ?_⟩) ?_ ?_
            rotate_left
            · intro w'
              go_simp
              with_reducible rfl
            rotate_left
            · simp only [Act.put, List.setIfInBounds_toArray, List.set_cons_zero, List.set_cons_succ, i64_w, i32_w]
              rfl
            refine pure_ (i := 1) (N := some 118) (v := ?_) (a' := ?_) #[true, true, false, false, false, false, false, false, false, false, false, false, false] rfl rfl (by kernel_rfl) (fun _ _ _ h => h) (Or.inl ⟨by rfl, ?_⟩) ?_ ?_
            rotate_left
            · intro w'
              go_simp
              with_reducible rfl
            rotate_left
            · simp only [Act.put, List.setIfInBounds_toArray, List.set_cons_zero, List.set_cons_succ, i64_w, i32_w]
              rfl
            refine pure_ (i := 3) (N := some 120) (v := ?_) (a' := ?_) #[true, true, false, true, false, false, false, false, false, false, false, false, false] rfl rfl (by kernel_rfl) (fun _ _ _ h => h) (Or.inl ⟨by rfl, ?_⟩) ?_ ?_
            rotate_left
            · intro w'
              go_simp
              with_reducible rfl
            rotate_left
            · simp only [Act.put, List.setIfInBounds_toArray, List.set_cons_zero, List.set_cons_succ, i64_w, i32_w]
              rfl
            refine pure_ (i := 6) (N := some 123) (v := ?_) (a' := ?_) #[true, true, false, true, false, false, true, false, false, false, false, false, false] rfl rfl (by kernel_rfl) (fun _ _ _ h => h) (Or.inl ⟨by rfl, ?_⟩) ?_ ?_
            rotate_left
            · intro w'
              go_simp
              with_reducible rfl
            rotate_left
            · simp only [Act.put, List.setIfInBounds_toArray, List.set_cons_zero, List.set_cons_succ, i64_w, i32_w]
              rfl
            refine pure_ (i := 7) (N := some 124) (v := ?_) (a' := ?_) #[true, true, false, true, false, false, true, true, false, false, false, false, false] rfl rfl (by kernel_rfl) (fun _ _ _ h => h) (Or.inl ⟨by rfl, ?_⟩) ?_ ?_
            rotate_left
            · intro w'
              go_simp
              with_reducible rfl
            rotate_left
            · simp only [Act.put, List.setIfInBounds_toArray, List.set_cons_zero, List.set_cons_succ, i64_w, i32_w]
              rfl
            refine pure_ (i := 9) (N := some 126) (v := ?_) (a' := ?_) #[true, true, false, true, false, false, true, true, false, true, false, false, false] rfl rfl (by kernel_rfl) (fun _ _ _ h => h) (Or.inl ⟨by rfl, ?_⟩) ?_ ?_
            rotate_left
            · intro w'
              go_simp
              with_reducible rfl
            rotate_left
            · simp only [Act.put, List.setIfInBounds_toArray, List.set_cons_zero, List.set_cons_succ, i64_w, i32_w]
              rfl
            refine take_ (i := 2) (N := some 119) (v := ?_) (a' := ?_) #[true, true, true, true, false, false, true, true, false, true, false, false, false] rfl rfl (by kernel_rfl) (fun _ _ _ h => h) (Or.inl ⟨by rfl, ?_⟩) hHeld ?_ ?_
            rotate_left
            · rintro w' ⟨s0, s1⟩
              go_simp
              with_reducible rfl
            rotate_left
            · simp only [Act.put, List.setIfInBounds_toArray, List.set_cons_zero, List.set_cons_succ, i64_w, i32_w]
              rfl
            refine take_ (i := 4) (N := some 121) (v := ?_) (a' := ?_) #[true, true, true, true, true, false, true, true, false, true, false, false, false] rfl rfl (by kernel_rfl) (fun _ _ _ h => h) (Or.inl ⟨by rfl, ?_⟩) hHeld ?_ ?_
            rotate_left
            · rintro w' ⟨s0, s1⟩
              go_simp
              with_reducible rfl
            rotate_left
            · simp only [Act.put, List.setIfInBounds_toArray, List.set_cons_zero, List.set_cons_succ, i64_w, i32_w]
              rfl
            refine take_ (i := 8) (N := some 125) (v := ?_) (a' := ?_) #[true, true, true, true, true, false, true, true, true, true, false, false, false] rfl rfl (by kernel_rfl) (fun _ _ _ h => h) (Or.inl ⟨by rfl, ?_⟩) hHeld ?_ ?_
            rotate_left
            · rintro w' ⟨s0, s1⟩
              go_simp
              with_reducible rfl
            rotate_left
            · simp only [Act.put, List.setIfInBounds_toArray, List.set_cons_zero, List.set_cons_succ, i64_w, i32_w]
              rfl
            refine take_ (i := 10) (N := some 127) (v := ?_) (a' := ?_) #[true, true, true, true, true, false, true, true, true, true, true, false, false] rfl rfl (by kernel_rfl) (fun _ _ _ h => h) (Or.inl ⟨by rfl, ?_⟩) hHeld ?_ ?_
            rotate_left
            · rintro w' ⟨s0, s1⟩
              go_simp
              with_reducible rfl
            rotate_left
            · simp only [Act.put, List.setIfInBounds_toArray, List.set_cons_zero, List.set_cons_succ, i64_w, i32_w]
              rfl
            refine one_ (i := 5) (N := some 122) #[true, true, true, true, true, true, true, true, true, true, true, false, false] rfl rfl (by kernel_rfl) (by decide) (fun K hK => ?_)
            refine goes_ Try.func12 (by kernel_rfl) rfl #[.pointer (some ⟨w.heap.size, 0, none⟩), .int .i64 id, .int .i64 val] (by rfl) rfl rfl (by simp only [List.map_toArray, List.map_cons, List.map_nil]; rfl) ?_
            with_reducible refine (GV).mono ?_
            rintro e w5 ⟨rfl, kv', vv', h5, m5⟩
            have hf5 := Aside0.mk (rf_mv HFd.out HRd.out m5 h5.hB)
            have hA5 := Aside0.mk (actK_mv (g := wr.heap.size) (blk_drew HA1.out) HRd.out m5)
            have G5 := GF.out w5 hf5.out
            refine ⟨_, rfl, ?_⟩
            refine hK.out _ _ ⟨(blk_cell hA5.out 1).trans rfl, (blk_cell hA5.out 2).trans rfl⟩ (fun hHeld => ?_)
            clear hK K
            refine norm_ (a' := ?_) ?_ ?_
            rotate_left
            · show Act.put _ (some 122) _ = _
              simp only [Act.put, List.setIfInBounds_toArray, List.set_cons_zero, List.set_cons_succ, i64_w, i32_w]
              rfl
            refine one_ (i := 11) (N := some 128) #[true, true, true, true, true, true, true, true, true, true, true, true, false] rfl rfl (by kernel_rfl) (by decide) (fun K hK => ?_)
            refine goes_ Try.func19 (by kernel_rfl) rfl #[.pointer (some ⟨w.heap.size + 1, 0, none⟩), .int .i64 id, .int .i64 val] (by rfl) rfl rfl (by simp only [List.map_toArray, List.map_cons, List.map_nil]; rfl) ?_
            with_reducible refine (G5).mono ?_
            rintro e w6 ⟨rfl, rv', h6, m6⟩
            refine ⟨_, rfl, ?_⟩
            refine hK.out _ _ ⟨(blk_cell (actF_mv hA5.out hf5.out m6) 1).trans rfl, (blk_cell (actF_mv hA5.out hf5.out m6) 2).trans rfl⟩ (fun hHeld => ?_)
            clear hK K
            refine norm_ (a' := ?_) ?_ ?_
            rotate_left
            · show Act.put _ (some 128) _ = _
              simp only [Act.put, List.setIfInBounds_toArray, List.set_cons_zero, List.set_cons_succ, i64_w, i32_w]
              rfl
            refine pure_ (i := 12) (N := some 129) (v := ?_) (a' := ?_) #[true, true, true, true, true, true, true, true, true, true, true, true, true] rfl rfl (by kernel_rfl) (fun _ _ _ h => h) (Or.inl ⟨by rfl, ?_⟩) ?_ ?_
            rotate_left
            · intro w'
              go_simp
              with_reducible rfl
            rotate_left
            · simp only [Act.put, List.setIfInBounds_toArray, List.set_cons_zero, List.set_cons_succ, i64_w, i32_w]
              rfl
            refine done_ (by kernel_rfl) ?_
            have QQ := Aside0.mk (pl_both h5 hf5.out hA5.out h6 m6 PG.out.1 PG.out.2.1 hn1 hn2 PG.out.2.2.1 PG.out.2.2.2)
            clear h5 m5 h6 m6 GV G5 hHeld
            generalize erH ks size id = er
            go_wp2_with fail
            go_meet
            exact QQ.out
          · skip
            have HRd := Aside0.mk (HR.out.below (Below.refl _ _).drew)
            have HFd := Aside0.mk (HF.out.below (Below.refl _ _).drew)
            have hll : rl.length ≤ 1000 := by have := HSM.out.len; omega
            have PG := Aside0.mk (pl_set (id := id) (v := val) hok2 HSM.out (by omega))
            have GV := rk_Set HRd.out hok2 (by omega) id val
            have GF := Aside0.mk (fun (W : World) (hf5 : RfRaw w (w.heap.size + 1) rv rl size next step W) => rf_Set hf5 id val hll)
            rw [HSM.out.er] at GF
            refine start_ (n := 13) (S := fun w' => (w'.cell? ⟨wr.heap.size, 1, none⟩ = some (.int .i64 id)) ∧ (w'.cell? ⟨wr.heap.size, 1 + 1, none⟩ = some (.int .i64 val))) (ds := []) #[false, false, false, false, false, false, false, false, false, false, false, false, false] (by kernel_rfl) rfl rfl ⟨(blk_cell HA1.out 1).trans rfl, (blk_cell HA1.out 2).trans rfl⟩ (fun hHeld => ?_)
            refine pure_ (i := 0) (N := some 132) (v := ?_) (a' := ?_) #[true, false, false, false, false, false, false, false, false, false, false, false, false] rfl rfl (by kernel_rfl) (fun _ _ _ h => h) (Or.inl ⟨by rfl, ?_⟩) ?_ ?_
            rotate_left
            · intro w'
              go_simp
              with_reducible rfl
            rotate_left
            · simp only [Act.put, List.setIfInBounds_toArray, List.set_cons_zero, List.set_cons_succ, i64_w, i32_w]
              rfl
            refine pure_ (i := 1) (N := some 133) (v := ?_) (a' := ?_) #[true, true, false, false, false, false, false, false, false, false, false, false, false] rfl rfl (by kernel_rfl) (fun _ _ _ h => h) (Or.inl ⟨by rfl, ?_⟩) ?_ ?_
            rotate_left
            · intro w'
              go_simp
              with_reducible rfl
            rotate_left
            · simp only [Act.put, List.setIfInBounds_toArray, List.set_cons_zero, List.set_cons_succ, i64_w, i32_w]
              rfl
            refine pure_ (i := 3) (N := some 135) (v := ?_) (a' := ?_) #[true, true, false, true, false, false, false, false, false, false, false, false, false] rfl rfl (by kernel_rfl) (fun _ _ _ h => h) (Or.inl ⟨by rfl, ?_⟩) ?_ ?_
            rotate_left
            · intro w'
              go_simp
              with_reducible rfl
            rotate_left
            · simp only [Act.put, List.setIfInBounds_toArray, List.set_cons_zero, List.set_cons_succ, i64_w, i32_w]
              rfl
            refine pure_ (i := 6) (N := some 138) (v := ?_) (a' := ?_) #[true, true, false, true, false, false, true, false, false, false, false, false, false] rfl rfl (by kernel_rfl) (fun _ _ _ h => h) (Or.inl ⟨by rfl, ?_⟩) ?_ ?_
            rotate_left
            · intro w'
              go_simp
              with_reducible rfl
            rotate_left
            · simp only [Act.put, List.setIfInBounds_toArray, List.set_cons_zero, List.set_cons_succ, i64_w, i32_w]
              rfl
            refine pure_ (i := 7) (N := some 139) (v := ?_) (a' := ?_) #[true, true, false, true, false, false, true, true, false, false, false, false, false] rfl rfl (by kernel_rfl) (fun _ _ _ h => h) (Or.inl ⟨by rfl, ?_⟩) ?_ ?_
            rotate_left
            · intro w'
              go_simp
              with_reducible rfl
            rotate_left
            · simp only [Act.put, List.setIfInBounds_toArray, List.set_cons_zero, List.set_cons_succ, i64_w, i32_w]
              rfl
            refine pure_ (i := 9) (N := some 141) (v := ?_) (a' := ?_) #[true, true, false, true, false, false, true, true, false, true, false, false, false] rfl rfl (by kernel_rfl) (fun _ _ _ h => h) (Or.inl ⟨by rfl, ?_⟩) ?_ ?_
            rotate_left
            · intro w'
              go_simp
              with_reducible rfl
            rotate_left
            · simp only [Act.put, List.setIfInBounds_toArray, List.set_cons_zero, List.set_cons_succ, i64_w, i32_w]
              rfl
            refine take_ (i := 2) (N := some 134) (v := ?_) (a' := ?_) #[true, true, true, true, false, false, true, true, false, true, false, false, false] rfl rfl (by kernel_rfl) (fun _ _ _ h => h) (Or.inl ⟨by rfl, ?_⟩) hHeld ?_ ?_
            rotate_left
            · rintro w' ⟨s0, s1⟩
              go_simp
              with_reducible rfl
            rotate_left
            · simp only [Act.put, List.setIfInBounds_toArray, List.set_cons_zero, List.set_cons_succ, i64_w, i32_w]
              rfl
            refine take_ (i := 4) (N := some 136) (v := ?_) (a' := ?_) #[true, true, true, true, true, false, true, true, false, true, false, false, false] rfl rfl (by kernel_rfl) (fun _ _ _ h => h) (Or.inl ⟨by rfl, ?_⟩) hHeld ?_ ?_
            rotate_left
            · rintro w' ⟨s0, s1⟩
              go_simp
              with_reducible rfl
            rotate_left
            · simp only [Act.put, List.setIfInBounds_toArray, List.set_cons_zero, List.set_cons_succ, i64_w, i32_w]
              rfl
            refine take_ (i := 8) (N := some 140) (v := ?_) (a' := ?_) #[true, true, true, true, true, false, true, true, true, true, false, false, false] rfl rfl (by kernel_rfl) (fun _ _ _ h => h) (Or.inl ⟨by rfl, ?_⟩) hHeld ?_ ?_
            rotate_left
            · rintro w' ⟨s0, s1⟩
              go_simp
              with_reducible rfl
            rotate_left
            · simp only [Act.put, List.setIfInBounds_toArray, List.set_cons_zero, List.set_cons_succ, i64_w, i32_w]
              rfl
            refine take_ (i := 10) (N := some 142) (v := ?_) (a' := ?_) #[true, true, true, true, true, false, true, true, true, true, true, false, false] rfl rfl (by kernel_rfl) (fun _ _ _ h => h) (Or.inl ⟨by rfl, ?_⟩) hHeld ?_ ?_
            rotate_left
            · rintro w' ⟨s0, s1⟩
              go_simp
              with_reducible rfl
            rotate_left
            · simp only [Act.put, List.setIfInBounds_toArray, List.set_cons_zero, List.set_cons_succ, i64_w, i32_w]
              rfl
            refine one_ (i := 5) (N := some 137) #[true, true, true, true, true, true, true, true, true, true, true, false, false] rfl rfl (by kernel_rfl) (by decide) (fun K hK => ?_)
            refine goes_ Try.func15 (by kernel_rfl) rfl #[.pointer (some ⟨w.heap.size, 0, none⟩), .int .i64 id, .int .i64 val] (by rfl) rfl rfl (by simp only [List.map_toArray, List.map_cons, List.map_nil]; rfl) ?_
            with_reducible refine (GV).mono ?_
            rintro e w5 ⟨rfl, kv', vv', h5, m5⟩
            have hf5 := Aside0.mk (rf_mv HFd.out HRd.out m5 h5.hB)
            have hA5 := Aside0.mk (actK_mv (g := wr.heap.size) (blk_drew HA1.out) HRd.out m5)
            have G5 := GF.out w5 hf5.out
            refine ⟨_, rfl, ?_⟩
            refine hK.out _ _ ⟨(blk_cell hA5.out 1).trans rfl, (blk_cell hA5.out 2).trans rfl⟩ (fun hHeld => ?_)
            clear hK K
            refine norm_ (a' := ?_) ?_ ?_
            rotate_left
            · show Act.put _ (some 137) _ = _
              simp only [Act.put, List.setIfInBounds_toArray, List.set_cons_zero, List.set_cons_succ, i64_w, i32_w]
              rfl
            refine one_ (i := 11) (N := some 143) #[true, true, true, true, true, true, true, true, true, true, true, true, false] rfl rfl (by kernel_rfl) (by decide) (fun K hK => ?_)
            refine goes_ Try.func20 (by kernel_rfl) rfl #[.pointer (some ⟨w.heap.size + 1, 0, none⟩), .int .i64 id, .int .i64 val] (by rfl) rfl rfl (by simp only [List.map_toArray, List.map_cons, List.map_nil]; rfl) ?_
            with_reducible refine (G5).mono ?_
            rintro e w6 ⟨rfl, rv', h6, m6⟩
            refine ⟨_, rfl, ?_⟩
            refine hK.out _ _ ⟨(blk_cell (actF_mv hA5.out hf5.out m6) 1).trans rfl, (blk_cell (actF_mv hA5.out hf5.out m6) 2).trans rfl⟩ (fun hHeld => ?_)
            clear hK K
            refine norm_ (a' := ?_) ?_ ?_
            rotate_left
            · show Act.put _ (some 143) _ = _
              simp only [Act.put, List.setIfInBounds_toArray, List.set_cons_zero, List.set_cons_succ, i64_w, i32_w]
              rfl
            refine pure_ (i := 12) (N := some 144) (v := ?_) (a' := ?_) #[true, true, true, true, true, true, true, true, true, true, true, true, true] rfl rfl (by kernel_rfl) (fun _ _ _ h => h) (Or.inl ⟨by rfl, ?_⟩) ?_ ?_
            rotate_left
            · intro w'
              go_simp
              with_reducible rfl
            rotate_left
            · simp only [Act.put, List.setIfInBounds_toArray, List.set_cons_zero, List.set_cons_succ, i64_w, i32_w]
              rfl
            refine done_ (by kernel_rfl) ?_
            have QQ := Aside0.mk (pl_both h5 hf5.out hA5.out h6 m6 PG.out.1 hsz hn1 hn2 HKS.out PG.out.2)
            clear h5 m5 h6 m6 GV G5 hHeld
            generalize erK ks id = er
            go_wp2_with fail
            go_meet
            exact QQ.out
          · skip
            have HRd := Aside0.mk (HR.out.below (Below.refl _ _).drew)
            have HFd := Aside0.mk (HF.out.below (Below.refl _ _).drew)
            have hll : rl.length ≤ 1000 := by have := HSM.out.len; omega
            have PG := Aside0.mk (pl_drop (id := id) hok2 HSM.out hsz HKS.out)
            have GV := rk_Drop HRd.out hok2 (by omega) id
            have GF := Aside0.mk (fun (W : World) (hf5 : RfRaw w (w.heap.size + 1) rv rl size next step W) => rf_Drop hf5 id hll)
            rw [HSM.out.er] at GF
            refine start_ (n := 9) (S := fun w' => (w'.cell? ⟨wr.heap.size, 1, none⟩ = some (.int .i64 id))) (ds := []) #[false, false, false, false, false, false, false, false, false] (by kernel_rfl) rfl rfl ((blk_cell HA1.out 1).trans rfl) (fun hHeld => ?_)
            refine pure_ (i := 0) (N := some 81) (v := ?_) (a' := ?_) #[true, false, false, false, false, false, false, false, false] rfl rfl (by kernel_rfl) (fun _ _ _ h => h) (Or.inl ⟨by rfl, ?_⟩) ?_ ?_
            rotate_left
            · intro w'
              go_simp
              with_reducible rfl
            rotate_left
            · simp only [Act.put, List.setIfInBounds_toArray, List.set_cons_zero, List.set_cons_succ, i64_w, i32_w]
              rfl
            refine pure_ (i := 1) (N := some 82) (v := ?_) (a' := ?_) #[true, true, false, false, false, false, false, false, false] rfl rfl (by kernel_rfl) (fun _ _ _ h => h) (Or.inl ⟨by rfl, ?_⟩) ?_ ?_
            rotate_left
            · intro w'
              go_simp
              with_reducible rfl
            rotate_left
            · simp only [Act.put, List.setIfInBounds_toArray, List.set_cons_zero, List.set_cons_succ, i64_w, i32_w]
              rfl
            refine pure_ (i := 4) (N := some 85) (v := ?_) (a' := ?_) #[true, true, false, false, true, false, false, false, false] rfl rfl (by kernel_rfl) (fun _ _ _ h => h) (Or.inl ⟨by rfl, ?_⟩) ?_ ?_
            rotate_left
            · intro w'
              go_simp
              with_reducible rfl
            rotate_left
            · simp only [Act.put, List.setIfInBounds_toArray, List.set_cons_zero, List.set_cons_succ, i64_w, i32_w]
              rfl
            refine pure_ (i := 5) (N := some 86) (v := ?_) (a' := ?_) #[true, true, false, false, true, true, false, false, false] rfl rfl (by kernel_rfl) (fun _ _ _ h => h) (Or.inl ⟨by rfl, ?_⟩) ?_ ?_
            rotate_left
            · intro w'
              go_simp
              with_reducible rfl
            rotate_left
            · simp only [Act.put, List.setIfInBounds_toArray, List.set_cons_zero, List.set_cons_succ, i64_w, i32_w]
              rfl
            refine take_ (i := 2) (N := some 83) (v := ?_) (a' := ?_) #[true, true, true, false, true, true, false, false, false] rfl rfl (by kernel_rfl) (fun _ _ _ h => h) (Or.inl ⟨by rfl, ?_⟩) hHeld ?_ ?_
            rotate_left
            · intro w' s0
              go_simp
              with_reducible rfl
            rotate_left
            · simp only [Act.put, List.setIfInBounds_toArray, List.set_cons_zero, List.set_cons_succ, i64_w, i32_w]
              rfl
            refine take_ (i := 6) (N := some 87) (v := ?_) (a' := ?_) #[true, true, true, false, true, true, true, false, false] rfl rfl (by kernel_rfl) (fun _ _ _ h => h) (Or.inl ⟨by rfl, ?_⟩) hHeld ?_ ?_
            rotate_left
            · intro w' s0
              go_simp
              with_reducible rfl
            rotate_left
            · simp only [Act.put, List.setIfInBounds_toArray, List.set_cons_zero, List.set_cons_succ, i64_w, i32_w]
              rfl
            refine one_ (i := 3) (N := some 84) #[true, true, true, true, true, true, true, false, false] rfl rfl (by kernel_rfl) (by decide) (fun K hK => ?_)
            refine goes_ Try.func13 (by kernel_rfl) rfl #[.pointer (some ⟨w.heap.size, 0, none⟩), .int .i64 id] (by rfl) rfl rfl (by simp only [List.map_toArray, List.map_cons, List.map_nil]; rfl) ?_
            with_reducible refine (GV).mono ?_
            rintro e w5 ⟨rfl, kv', vv', h5, m5⟩
            have hf5 := Aside0.mk (rf_mv HFd.out HRd.out m5 h5.hB)
            have hA5 := Aside0.mk (actK_mv (g := wr.heap.size) (blk_drew HA1.out) HRd.out m5)
            have G5 := GF.out w5 hf5.out
            refine ⟨_, rfl, ?_⟩
            refine hK.out _ _ ((blk_cell hA5.out 1).trans rfl) (fun hHeld => ?_)
            clear hK K
            refine norm_ (a' := ?_) ?_ ?_
            rotate_left
            · show Act.put _ (some 84) _ = _
              simp only [Act.put, List.setIfInBounds_toArray, List.set_cons_zero, List.set_cons_succ, i64_w, i32_w]
              rfl
            refine one_ (i := 7) (N := some 88) #[true, true, true, true, true, true, true, true, false] rfl rfl (by kernel_rfl) (by decide) (fun K hK => ?_)
            refine goes_ Try.func21 (by kernel_rfl) rfl #[.pointer (some ⟨w.heap.size + 1, 0, none⟩), .int .i64 id] (by rfl) rfl rfl (by simp only [List.map_toArray, List.map_cons, List.map_nil]; rfl) ?_
            with_reducible refine (G5).mono ?_
            rintro e w6 ⟨rfl, rv', h6, m6⟩
            refine ⟨_, rfl, ?_⟩
            refine hK.out _ _ ((blk_cell (actF_mv hA5.out hf5.out m6) 1).trans rfl) (fun hHeld => ?_)
            clear hK K
            refine norm_ (a' := ?_) ?_ ?_
            rotate_left
            · show Act.put _ (some 88) _ = _
              simp only [Act.put, List.setIfInBounds_toArray, List.set_cons_zero, List.set_cons_succ, i64_w, i32_w]
              rfl
            refine pure_ (i := 8) (N := some 89) (v := ?_) (a' := ?_) #[true, true, true, true, true, true, true, true, true] rfl rfl (by kernel_rfl) (fun _ _ _ h => h) (Or.inl ⟨by rfl, ?_⟩) ?_ ?_
            rotate_left
            · intro w'
              go_simp
              with_reducible rfl
            rotate_left
            · simp only [Act.put, List.setIfInBounds_toArray, List.set_cons_zero, List.set_cons_succ, i64_w, i32_w]
              rfl
            refine done_ (by kernel_rfl) ?_
            have QQ := Aside0.mk (pl_both h5 hf5.out hA5.out h6 m6 PG.out.1 PG.out.2.1 hn1 hn2 PG.out.2.2.1 PG.out.2.2.2)
            clear h5 m5 h6 m6 GV G5 hHeld
            generalize erK ks id = er
            go_wp2_with fail
            go_meet
            exact QQ.out
        case rest =>
          clear HR HF HA1 HKS HSM hok2 hsz hn1 hn2 d0 d1 d2 hac
          obtain ⟨⟨kv, vv, ks, vs, next, rv, rl, hr, hf, hok2, hsz, hn1, hn2, hks, hsm⟩, hA⟩ := hcut
          have c1 : wc.cell? ⟨wr.heap.size, 1, none⟩ = some (.int .i64 id) := (blk_cell hA 1).trans rfl
          have hll : rl.length ≤ 1000 := by have := hsm.len; omega
          have hkl : ks.length ≤ 99 := by omega
          have GA := fun (W : World) (hb : Below wc.heap.size wc W) (x : Int) => rk_Get (hr.below hb) hok2 (by omega) x
          have FA := fun (W : World) (hb : Below wc.heap.size wc W) (x : Int) => (by
            have h := rf_Get (hf.below hb) x hll
            rw [hsm.get, hsm.er] at h
            exact h : Calls Try.prog 22 #[.pointer (some ⟨w.heap.size + 1, 0, none⟩), .int .i64 x] W fun e W' => e = .returned (.tuple #[.int .i64 (getV ks vs x), .int .i64 (erK ks x)]) ∧ W' = W)
          have HGA := Aside0.mk GA
          have HFA := Aside0.mk FA
          have ID := Aside0.mk (fun (m : Nat) => rk_IDs (hr.below (pw_below_drewN (Below.refl _ _) m)) hok2 (by omega))
          have HR := Aside0.mk hr
          have HF := Aside0.mk hf
          have HKS := Aside0.mk hks
          have HSM := Aside0.mk hsm
          have G := GA wc (Below.refl _ _) id
          have F := Aside0.mk (fun m => FA (wc.drewN m) (pw_below_drewN (Below.refl _ _) m) id)
          obtain ⟨Af, cf, evf⟩ := own2_slice hf.hr
          clear hr hf hks hsm hA GA FA
          generalize getV ks vs id = gv at G F
          generalize erK ks id = ek at G F
          go_wp2_with (first | (go_at_call 14; (with_reducible refine G.mono ?_); rintro e w5 ⟨rfl, ⟨m, rfl⟩⟩; have F1 := F.out m; have I1 := ID.out m) | (go_at_call 22; (with_reducible refine F1.mono ?_); rintro e w6 ⟨rfl, hw6⟩; obtain rfl := hw6.symm) | (go_at_call 10; (with_reducible refine I1.mono ?_); rintro e w7 ⟨v7, rfl, ho7, hb7⟩; obtain ⟨A7, c7, ev7⟩ := own_slice ho7; subst ev7))
          have hB7 : Below wc.heap.size wc w7 := ⟨hb7.os, hb7.tape, hb7.output, hb7.size, hb7.block⟩
          have hr7 := (HR.out.below hB7).below (Below.refl _ _).drew
          have hf7 := (HF.out.below hB7).below (Below.refl _ _).drew
          have LN7 := rk_Len hr7 (by omega)
          rw [← HSM.out.len] at LN7
          have IF7 := Aside0.mk (rf_IDs hf7 hll HSM.out.len hok2.sorted HSM.out.has HKS.out)
          have cf3 : w7.drew.cell? ⟨w.heap.size + 1, 1 + 1 + 1, none⟩ = some (.slice Af rl.length cf) := by rw [← evf]; exact (blk_cell hf7.blk 3).trans rfl
          have ho7d := Aside0.mk (pw_own_below ho7 (Below.refl _ w7).drew)
          have HB7 := Aside0.mk hB7
          have HHB7 := Aside0.mk hb7
          clear G F1 I1 hr7 hf7 hB7 hb7 ho7 evf
          refine start_ (n := 25) (S := fun w' => (w'.cell? ⟨w.heap.size + 1, 1 + 1 + 1, none⟩ = some (.slice Af rl.length cf))) (ds := []) #[false, false, false, false, false, false, false, false, false, false, false, false, false, false, false, false, false, false, false, false, false, false, false, false, false] (by kernel_rfl) rfl rfl (cf3) (fun hHeld => ?_)
          refine pure_ (i := 0) (N := some 161) (v := ?_) (a' := ?_) #[true, false, false, false, false, false, false, false, false, false, false, false, false, false, false, false, false, false, false, false, false, false, false, false, false] rfl rfl (by kernel_rfl) (fun _ _ _ h => h) (Or.inl ⟨by rfl, ?_⟩) ?_ ?_
          rotate_left
          · intro w'
            go_simp
            with_reducible rfl
          rotate_left
          · simp only [Act.put, List.setIfInBounds_toArray, List.set_cons_zero, List.set_cons_succ, i64_w, i32_w]
            rfl
          refine pure_ (i := 1) (N := some 162) (v := ?_) (a' := ?_) #[true, true, false, false, false, false, false, false, false, false, false, false, false, false, false, false, false, false, false, false, false, false, false, false, false] rfl rfl (by kernel_rfl) (fun _ _ _ h => h) (Or.inl ⟨by rfl, ?_⟩) ?_ ?_
          rotate_left
          · intro w'
            go_simp
            with_reducible rfl
          rotate_left
          · simp only [Act.put, List.setIfInBounds_toArray, List.set_cons_zero, List.set_cons_succ, i64_w, i32_w]
            rfl
          refine pure_ (i := 2) (N := some 163) (v := ?_) (a' := ?_) #[true, true, true, false, false, false, false, false, false, false, false, false, false, false, false, false, false, false, false, false, false, false, false, false, false] rfl rfl (by kernel_rfl) (fun _ _ _ h => h) (Or.inl ⟨by rfl, ?_⟩) ?_ ?_
          rotate_left
          · intro w'
            go_simp
            with_reducible rfl
          rotate_left
          · simp only [Act.put, List.setIfInBounds_toArray, List.set_cons_zero, List.set_cons_succ, i64_w, i32_w]
            rfl
          refine pure_ (i := 3) (N := some 164) (v := ?_) (a' := ?_) #[true, true, true, true, false, false, false, false, false, false, false, false, false, false, false, false, false, false, false, false, false, false, false, false, false] rfl rfl (by kernel_rfl) (fun _ _ _ h => h) (Or.inl ⟨by rfl, ?_⟩) ?_ ?_
          rotate_left
          · intro w'
            go_simp
            with_reducible rfl
          rotate_left
          · simp only [Act.put, List.setIfInBounds_toArray, List.set_cons_zero, List.set_cons_succ, i64_w, i32_w]
            rfl
          refine pure_ (i := 4) (N := some 165) (v := ?_) (a' := ?_) #[true, true, true, true, true, false, false, false, false, false, false, false, false, false, false, false, false, false, false, false, false, false, false, false, false] rfl rfl (by kernel_rfl) (fun _ _ _ h => h) (Or.inl ⟨by rfl, ?_⟩) ?_ ?_
          rotate_left
          · intro w'
            go_simp
            with_reducible rfl
          rotate_left
          · simp only [Act.put, List.setIfInBounds_toArray, List.set_cons_zero, List.set_cons_succ, i64_w, i32_w]
            rfl
          refine pure_ (i := 5) (N := some 166) (v := ?_) (a' := ?_) #[true, true, true, true, true, true, false, false, false, false, false, false, false, false, false, false, false, false, false, false, false, false, false, false, false] rfl rfl (by kernel_rfl) (fun _ _ _ h => h) (Or.inl ⟨by rfl, ?_⟩) ?_ ?_
          rotate_left
          · intro w'
            go_simp
            with_reducible rfl
          rotate_left
          · simp only [Act.put, List.setIfInBounds_toArray, List.set_cons_zero, List.set_cons_succ, i64_w, i32_w]
            rfl
          refine pure_ (i := 6) (N := some 167) (v := ?_) (a' := ?_) #[true, true, true, true, true, true, true, false, false, false, false, false, false, false, false, false, false, false, false, false, false, false, false, false, false] rfl rfl (by kernel_rfl) (fun _ _ _ h => h) (Or.inl ⟨by rfl, ?_⟩) ?_ ?_
          rotate_left
          · intro w'
            go_simp
            with_reducible rfl
          rotate_left
          · simp only [Act.put, List.setIfInBounds_toArray, List.set_cons_zero, List.set_cons_succ, i64_w, i32_w]
            rfl
          refine pure_ (i := 7) (N := some 168) (v := ?_) (a' := ?_) #[true, true, true, true, true, true, true, true, false, false, false, false, false, false, false, false, false, false, false, false, false, false, false, false, false] rfl rfl (by kernel_rfl) (fun _ _ _ h => h) (Or.inl ⟨by rfl, ?_⟩) ?_ ?_
          rotate_left
          · intro w'
            go_simp
            with_reducible rfl
          rotate_left
          · simp only [Act.put, List.setIfInBounds_toArray, List.set_cons_zero, List.set_cons_succ, i64_w, i32_w]
            rfl
          refine pure_ (i := 8) (N := some 169) (v := ?_) (a' := ?_) #[true, true, true, true, true, true, true, true, true, false, false, false, false, false, false, false, false, false, false, false, false, false, false, false, false] rfl rfl (by kernel_rfl) (fun _ _ _ h => h) (Or.inl ⟨by rfl, ?_⟩) ?_ ?_
          rotate_left
          · intro w'
            go_simp
            with_reducible rfl
          rotate_left
          · simp only [Act.put, List.setIfInBounds_toArray, List.set_cons_zero, List.set_cons_succ, i64_w, i32_w]
            rfl
          refine pure_ (i := 9) (N := some 170) (v := ?_) (a' := ?_) #[true, true, true, true, true, true, true, true, true, true, false, false, false, false, false, false, false, false, false, false, false, false, false, false, false] rfl rfl (by kernel_rfl) (fun _ _ _ h => h) (Or.inl ⟨by rfl, ?_⟩) ?_ ?_
          rotate_left
          · intro w'
            go_simp
            with_reducible rfl
          rotate_left
          · simp only [Act.put, List.setIfInBounds_toArray, List.set_cons_zero, List.set_cons_succ, i64_w, i32_w]
            rfl
          refine pure_ (i := 11) (N := some 172) (v := ?_) (a' := ?_) #[true, true, true, true, true, true, true, true, true, true, false, true, false, false, false, false, false, false, false, false, false, false, false, false, false] rfl rfl (by kernel_rfl) (fun _ _ _ h => h) (Or.inl ⟨by rfl, ?_⟩) ?_ ?_
          rotate_left
          · intro w'
            go_simp
            with_reducible rfl
          rotate_left
          · simp only [Act.put, List.setIfInBounds_toArray, List.set_cons_zero, List.set_cons_succ, i64_w, i32_w]
            rfl
          refine pure_ (i := 12) (N := some 173) (v := ?_) (a' := ?_) #[true, true, true, true, true, true, true, true, true, true, false, true, true, false, false, false, false, false, false, false, false, false, false, false, false] rfl rfl (by kernel_rfl) (fun _ _ _ h => h) (Or.inl ⟨by rfl, ?_⟩) ?_ ?_
          rotate_left
          · intro w'
            go_simp
            with_reducible rfl
          rotate_left
          · simp only [Act.put, List.setIfInBounds_toArray, List.set_cons_zero, List.set_cons_succ, i64_w, i32_w]
            rfl
          refine pure_ (i := 13) (N := some 174) (v := ?_) (a' := ?_) #[true, true, true, true, true, true, true, true, true, true, false, true, true, true, false, false, false, false, false, false, false, false, false, false, false] rfl rfl (by kernel_rfl) (fun _ _ _ h => h) (Or.inl ⟨by rfl, ?_⟩) ?_ ?_
          rotate_left
          · intro w'
            go_simp
            with_reducible rfl
          rotate_left
          · simp only [Act.put, List.setIfInBounds_toArray, List.set_cons_zero, List.set_cons_succ, i64_w, i32_w]
            rfl
          refine take_ (i := 14) (N := some 175) (v := ?_) (a' := ?_) #[true, true, true, true, true, true, true, true, true, true, false, true, true, true, true, false, false, false, false, false, false, false, false, false, false] rfl rfl (by kernel_rfl) (fun _ _ _ h => h) (Or.inl ⟨by rfl, ?_⟩) hHeld ?_ ?_
          rotate_left
          · intro w' s0
            go_simp
            with_reducible rfl
          rotate_left
          · simp only [Act.put, List.setIfInBounds_toArray, List.set_cons_zero, List.set_cons_succ, i64_w, i32_w]
            rfl
          refine pure_ (i := 15) (N := some 176) (v := ?_) (a' := ?_) #[true, true, true, true, true, true, true, true, true, true, false, true, true, true, true, true, false, false, false, false, false, false, false, false, false] rfl rfl (by kernel_rfl) (fun _ _ _ h => h) (Or.inl ⟨by rfl, ?_⟩) ?_ ?_
          rotate_left
          · intro w'
            go_simp
            with_reducible rfl
          rotate_left
          · simp only [Act.put, List.setIfInBounds_toArray, List.set_cons_zero, List.set_cons_succ, i64_w, i32_w]
            rfl
          refine one_ (i := 10) (N := some 171) #[true, true, true, true, true, true, true, true, true, true, true, true, true, true, true, true, false, false, false, false, false, false, false, false, false] rfl rfl (by kernel_rfl) (by decide) (fun K hK => ?_)
          refine goes_ Try.func16 (by kernel_rfl) rfl #[.pointer (some ⟨w.heap.size, 0, none⟩)] (by rfl) rfl rfl (by simp only [List.map_toArray, List.map_cons, List.map_nil]; rfl) ?_
          with_reducible refine (LN7).mono ?_
          rintro e w8 ⟨rfl, hw8⟩
          obtain rfl := hw8.symm
          refine ⟨_, rfl, ?_⟩
          refine hK.out _ _ (hHeld) (fun hHeld => ?_)
          clear hK K
          refine norm_ (a' := ?_) ?_ ?_
          rotate_left
          · show Act.put _ (some 171) _ = _
            simp only [Act.put, List.setIfInBounds_toArray, List.set_cons_zero, List.set_cons_succ, i64_w, i32_w]
            rfl
          refine pure_ (i := 16) (N := some 177) (v := ?_) (a' := ?_) #[true, true, true, true, true, true, true, true, true, true, true, true, true, true, true, true, true, false, false, false, false, false, false, false, false] rfl rfl (by kernel_rfl) (fun _ _ _ h => h) (Or.inl ⟨by rfl, ?_⟩) ?_ ?_
          rotate_left
          · intro w'
            go_simp
            with_reducible rfl
          rotate_left
          · simp only [Act.put, List.setIfInBounds_toArray, List.set_cons_zero, List.set_cons_succ, i64_w, i32_w]
            rfl
          refine pure_ (i := 17) (N := some 178) (v := ?_) (a' := ?_) #[true, true, true, true, true, true, true, true, true, true, true, true, true, true, true, true, true, true, false, false, false, false, false, false, false] rfl rfl (by kernel_rfl) (fun _ _ _ h => h) (Or.inl ⟨by rfl, ?_⟩) ?_ ?_
          rotate_left
          · intro w'
            go_simp
            with_reducible rfl
          rotate_left
          · simp only [Act.put, List.setIfInBounds_toArray, List.set_cons_zero, List.set_cons_succ, i64_w, i32_w]
            rfl
          refine pure_ (i := 18) (N := some 179) (v := ?_) (a' := ?_) #[true, true, true, true, true, true, true, true, true, true, true, true, true, true, true, true, true, true, true, false, false, false, false, false, false] rfl rfl (by kernel_rfl) (fun _ _ _ h => h) (Or.inl ⟨by rfl, ?_⟩) ?_ ?_
          rotate_left
          · intro w'
            go_simp
            with_reducible rfl
          rotate_left
          · simp only [Act.put, List.setIfInBounds_toArray, List.set_cons_zero, List.set_cons_succ, i64_w, i32_w]
            rfl
          refine pure_ (i := 19) (N := some 180) (v := ?_) (a' := ?_) #[true, true, true, true, true, true, true, true, true, true, true, true, true, true, true, true, true, true, true, true, false, false, false, false, false] rfl rfl (by kernel_rfl) (fun _ _ _ h => h) (Or.inl ⟨by rfl, ?_⟩) ?_ ?_
          rotate_left
          · intro w'
            go_simp
            with_reducible rfl
          rotate_left
          · simp only [Act.put, List.setIfInBounds_toArray, List.set_cons_zero, List.set_cons_succ, i64_w, i32_w]
            rfl
          refine pure_ (i := 20) (N := some 181) (v := ?_) (a' := ?_) #[true, true, true, true, true, true, true, true, true, true, true, true, true, true, true, true, true, true, true, true, true, false, false, false, false] rfl rfl (by kernel_rfl) (fun _ _ _ h => h) (Or.inl ⟨by rfl, ?_⟩) ?_ ?_
          rotate_left
          · intro w'
            go_simp
            with_reducible rfl
          rotate_left
          · simp only [Act.put, List.setIfInBounds_toArray, List.set_cons_zero, List.set_cons_succ, i64_w, i32_w]
            rfl
          refine one_ (i := 21) (N := some 182) #[true, true, true, true, true, true, true, true, true, true, true, true, true, true, true, true, true, true, true, true, true, true, false, false, false] rfl rfl (by kernel_rfl) (by decide) (fun K hK => ?_)
          refine goes_ Try.func24 (by kernel_rfl) rfl #[.pointer (some ⟨w.heap.size + 1, 0, none⟩)] (by rfl) rfl rfl (by simp only [List.map_toArray, List.map_cons, List.map_nil]; rfl) ?_
          with_reducible refine (IF7.out).mono ?_
          rintro e w9 ⟨v9, rfl, ho9, hb9⟩
          obtain ⟨A9, c9, ev⟩ := own_slice ho9
          subst ev
          have IN := ints_same (pw_own_below ho7d.out hb9) ho9 (by omega)
          refine ⟨_, rfl, ?_⟩
          refine hK.out _ _ (pw_cell_below hb9 hHeld) (fun hHeld => ?_)
          clear hK K
          refine norm_ (a' := ?_) ?_ ?_
          rotate_left
          · show Act.put _ (some 182) _ = _
            simp only [Act.put, List.setIfInBounds_toArray, List.set_cons_zero, List.set_cons_succ, i64_w, i32_w]
            rfl
          refine one_ (i := 22) (N := some 183) #[true, true, true, true, true, true, true, true, true, true, true, true, true, true, true, true, true, true, true, true, true, true, true, false, false] rfl rfl (by kernel_rfl) (by decide) (fun K hK => ?_)
          refine goes_ Try.func23 (by kernel_rfl) rfl #[.slice A7 ks.length c7, .slice A9 ks.length c9] (by rfl) rfl rfl (by simp only [List.map_toArray, List.map_cons, List.map_nil]; rfl) ?_
          with_reducible refine (IN).mono ?_
          rintro e w10 ⟨rfl, ⟨n10, rfl⟩⟩
          refine ⟨_, rfl, ?_⟩
          refine hK.out _ _ (hHeld) (fun hHeld => ?_)
          clear hK K
          refine norm_ (a' := ?_) ?_ ?_
          rotate_left
          · show Act.put _ (some 183) _ = _
            simp only [Act.put, List.setIfInBounds_toArray, List.set_cons_zero, List.set_cons_succ, i64_w, i32_w]
            rfl
          refine pure_ (i := 23) (N := some 184) (v := ?_) (a' := ?_) #[true, true, true, true, true, true, true, true, true, true, true, true, true, true, true, true, true, true, true, true, true, true, true, true, false] rfl rfl (by kernel_rfl) (fun _ _ _ h => h) (Or.inl ⟨by rfl, ?_⟩) ?_ ?_
          rotate_left
          · intro w'
            go_simp
            with_reducible rfl
          rotate_left
          · simp only [Act.put, List.setIfInBounds_toArray, List.set_cons_zero, List.set_cons_succ, i64_w, i32_w]
            rfl
          refine pure_ (i := 24) (N := some 185) (v := ?_) (a' := ?_) #[true, true, true, true, true, true, true, true, true, true, true, true, true, true, true, true, true, true, true, true, true, true, true, true, true] rfl rfl (by kernel_rfl) (fun _ _ _ h => h) (Or.inl ⟨by rfl, ?_⟩) ?_ ?_
          rotate_left
          · intro w'
            go_simp
            with_reducible rfl
          rotate_left
          · simp only [Act.put, List.setIfInBounds_toArray, List.set_cons_zero, List.set_cons_succ, i64_w, i32_w]
            rfl
          refine done_ (by kernel_rfl) ?_
          have HX := Aside0.mk (show Below wc.heap.size wc (w9.drewN n10) from plb2 (plb2 (plb2 HB7.out (Below.refl _ w7).drew) hb9) (pw_below_drewN (Below.refl _ _) n10))
          have HO := Aside0.mk (show (w9.drewN n10).ownsRow wc.heap.size 3 1 (.slice A7 ks.length c7) ks.length (nums .i64 ks) from pw_own_below (pw_own_below ho7d.out hb9) (pw_below_drewN (Below.refl _ _) n10))
          clear hHeld IN ho9 hb9 LN7 cf3 F
          go_wp2_with fail
          go_loopw [24] (fun i wr2 => ∃ (k : Nat) (ys : List Int), k ≤ ks.length ∧ i = .int .i64 (k : Int) ∧ Aside0 (ys.length = ks.length ∧ (∀ q, k ≤ q → ys.getD q 0 = ks.getD q 0) ∧ wr2.ownsRow wc.heap.size 3 1 (.slice A7 ys.length c7) ys.length (nums .i64 ys)) ∧ Aside0 (Below wc.heap.size wc wr2)) (fun i _ => ks.length - (intOf i).toNat)
          case atStart => exact ⟨0, ks, Nat.zero_le _, rfl, ⟨rfl, fun _ _ => rfl, HO.out⟩, HX⟩
          case round =>
            obtain ⟨k, ys, hk, rfl, hys, hB2⟩ := hrel
            by_cases hkl2 : k < ks.length
            · have p3 : decide ((k : Int) < (ks.length : Int)) = true := decide_eq_true (by omega)
              obtain ⟨y1, y2, y3⟩ := hys.out
              have y3k := y3
              rcases own1_form y3 with ⟨_, hy0⟩ | ⟨g, cap, cur, ev, hg, hh, hnc, hcm, hszc, htk, hc⟩
              · rw [hy0] at y1
                exact absurd hkl2 (by simp at y1; omega)
              obtain rfl : A7 = some ⟨g, 0, none⟩ := (Value.slice.inj ev).1
              have dk := hc k (by omega)
              have fz := blk_frozen hh k
              rw [y2 k (Nat.le_refl _)] at dk
              have G2 := HGA.out wr hB2.out (ks.getD k 0)
              have F2 := Aside0.mk (fun (m : Nat) => HFA.out (wr.drewN m) (plb2 hB2.out (pw_below_drewN (Below.refl _ _) m)) (ks.getD k 0))
              have HY := Aside0.mk (fun (m : Nat) => own1_set (pw_own_below y3 (pw_below_drewN (Below.refl _ _) m)) k (-5))
              have HY2 := Aside0.mk (And.intro y1 y2)
              have i1 : (0 : Int) ≤ (k : Int) := by omega
              have i2 : (k : Int) < (ks.length : Int) := by omega
              clear y1 y2 y3 y3k hc hh htk ev hys
              generalize ks.getD k 0 = x at dk G2 F2
              generalize getV ks vs x = gx at G2 F2
              generalize erK ks x = ex at G2 F2
              go_wp2_with (first | (go_at_call 14; (with_reducible refine G2.mono ?_); rintro e w5 ⟨rfl, ⟨m, rfl⟩⟩; have F3 := F2.out m) | (go_at_call 22; (with_reducible refine F3.mono ?_); rintro e w6 ⟨rfl, hw6⟩; obtain rfl := hw6.symm))
              refine ⟨⟨k + 1, ys.set k (-5), by omega, by simp, ⟨by rw [List.length_set]; exact HY2.out.1, fun q hq => ?_, ?_⟩, ⟨(plb2 hB2.out (pw_below_drewN (Below.refl _ _) m)).setCell hg _⟩⟩, by simp [intOf]; omega⟩
              · rw [← HY2.out.2 q (by omega)]
                rw [List.getD_eq_getElem?_getD, List.getD_eq_getElem?_getD, List.getElem?_set_ne (by omega)]
              · have := HY.out m
                rw [List.length_set] at this ⊢
                exact this
            · have p3 : decide ((k : Int) < (ks.length : Int)) = false := decide_eq_false (by omega)
              go_wp2_with fail
              exact ⟨⟨j + 1, by omega, by simp, ⟨kv, vv, ks, vs, next, rv, rl, HR.out.below hB2.out, HF.out.below hB2.out, hok2, hsz, hn1, hn2, HKS.out, HSM.out⟩⟩, by simp [intOf]; omega⟩
      · have p1 : decide ((j : Int) < (l.length : Int)) = false := decide_eq_false (by omega)
        obtain ⟨kv, vv, ks, vs, next, rv, rl, hr, hf, hok2, hsz, hn1, hn2, hks, hsm⟩ := ht.out
        have HB := Aside0.mk hr.hB
        clear hr hf hok2 hks hsm ht
        go_wp2_with fail
        go_ret
        exact ⟨rfl, HB.out⟩
  · have NW := rk_NewNo size first step w hok
    have NF := rf_NewNo size first step w hok
    clear hok
    go_enter Try.func5, Try.ntmps5
    go_wp2_with (first | (go_at_call 8; (with_reducible refine NW.mono ?_); rintro e w2 ⟨rfl, hw2⟩; obtain rfl := hw2.symm) | (go_at_call 17; (with_reducible refine NF.mono ?_); rintro e w3 ⟨rfl, hw3⟩; obtain rfl := hw3.symm))
    go_ret
    exact ⟨rfl, Below.refl _ _⟩

/-- THE ONE PURE STATEMENT of postilionlaw03_RackPlays: yours. -/
def postilionlaw03_RackPlays.Pure : Prop := ∀ (a0 : Int) (a1 : Int) (a2 : Int) (l3 : List (S31)), (Lit.int .i64 a0).wf = true → (Lit.int .i64 a1).wf = true → (Lit.int .i64 a2).wf = true → l3.length ≤ maxLen → (∀ y_ ∈ l3, ((Lit.int .u8 y_.f0).wf = true) ∧ ((Lit.int .i64 y_.f1).wf = true) ∧ ((Lit.int .i64 y_.f2).wf = true)) → postilionlaw03_RackPlays.f a0 a1 a2 l3 = some true

end Go.Proofs.Ytnlckandbgpncaa.P
