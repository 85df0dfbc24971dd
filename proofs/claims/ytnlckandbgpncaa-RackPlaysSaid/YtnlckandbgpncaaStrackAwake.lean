-- Laid by sp.py, a program of this session's, out of the translation and the session's own stand-ins.
import Derived.Test.YtnlckandbgpncaaPx0
import Derived.Test.YtnlckandbgpncaaStrackTable
import Derived.Test.YtnlckandbgpncaaStrackOps
import Derived.Test.YtnlckandbgpncaaStrackGive
import Derived.Test.YtnlckandbgpncaaStrackIDs
import Derived.Test.YtnlckandbgpncaaStrackNew
import Derived.Test.YtnlckandbgpncaaShelf
import Derived.Test.YtnlckandbgpncaaStrackNew
namespace Go.Proofs.Ytnlckandbgpncaa.P
open Go.RowKit Go.Proofs.YtnlckandbgpncaaW.PrintWords Go.Proofs.YtnlckandbgpncaaW.PrintLast Go.Proofs.YtnlckandbgpncaaW.PrintMore
attribute [local go_sem] max2_int min2_int max_two min_two max_three min_three max_four min_four   -- for this text's walks alone
set_option linter.unusedVariables false
set_option linter.unusedSimpArgs false
set_option linter.unnecessarySimpa false

/-! ### awake: the chapter's example -/
section
variable {w0 : World} {R : Nat} {kv vv : Value} {W : World}
theorem aw_give1 (h : RkRaw w0 R kv vv [] [] 2 1 2 W) : Calls Try.prog 11 #[.pointer (some ⟨R, 0, none⟩), .int .i64 7] W fun e W' => e = .returned (.tuple #[.int .i64 1, .int .i64 0]) ∧ ∃ kv' vv', RkRaw w0 R kv' vv' [1] [7] 2 3 2 W' := by
  have g := rk_Give h tb_nil (by decide) (by decide) (by decide) (by decide) (by decide) 7
  obtain ⟨e1, e2⟩ := gv_some (ks := []) (size := 2) (next := 1) (step := 2) (by decide) (by decide) (by decide) (by decide)
  rw [e1, e2] at g
  refine g.mono ?_
  rintro e W' ⟨rfl, kv', vv', h', _⟩
  exact ⟨rfl, kv', vv', h'⟩
theorem tb_1 : TbOk [1] [7] := ⟨by decide, rfl, by decide⟩
theorem tb_2 : TbOk [1, 3] [7, 9] := ⟨by decide, rfl, by decide⟩
theorem tb_3 : TbOk [3] [9] := ⟨by decide, rfl, by decide⟩
theorem tb_4 : TbOk [3, 5] [9, 8] := ⟨by decide, rfl, by decide⟩
theorem aw_hold (h : RkRaw w0 R kv vv [1] [7] 2 3 2 W) : Calls Try.prog 12 #[.pointer (some ⟨R, 0, none⟩), .int .i64 3, .int .i64 9] W fun e W' => e = .returned (.int .i64 0) ∧ ∃ kv' vv', RkRaw w0 R kv' vv' [1, 3] [7, 9] 2 3 2 W' := by
  have g := rk_Hold h tb_1 (by decide) 3 9
  rw [show erH [1] 2 3 = 0 by decide] at g
  refine g.mono ?_
  rintro e W' ⟨rfl, kv', vv', h', _⟩
  exact ⟨rfl, kv', vv', h'⟩
theorem aw_give2 (h : RkRaw w0 R kv vv [1, 3] [7, 9] 2 3 2 W) : Calls Try.prog 11 #[.pointer (some ⟨R, 0, none⟩), .int .i64 1] W fun e W' => e = .returned (.tuple #[.int .i64 0, .int .i64 4]) ∧ ∃ kv' vv', RkRaw w0 R kv' vv' [1, 3] [7, 9] 2 3 2 W' := by
  have g := rk_Give h tb_2 (by decide) (by decide) (by decide) (by decide) (by decide) 1
  obtain ⟨e1, e2⟩ := gv_full (ks := [1, 3]) (size := 2) (next := 3) (step := 2) (by decide)
  rw [e1, e2] at g
  refine g.mono ?_
  rintro e W' ⟨rfl, kv', vv', h', _⟩
  exact ⟨rfl, kv', vv', h'⟩
theorem aw_drop1 (h : RkRaw w0 R kv vv [1, 3] [7, 9] 2 3 2 W) : Calls Try.prog 13 #[.pointer (some ⟨R, 0, none⟩), .int .i64 1] W fun e W' => e = .returned (.int .i64 0) ∧ ∃ kv' vv', RkRaw w0 R kv' vv' [3] [9] 2 3 2 W' := by
  have g := rk_Drop h tb_2 (by decide) 1
  refine g.mono ?_
  rintro e W' ⟨rfl, kv', vv', h', _⟩
  exact ⟨rfl, kv', vv', h'⟩
theorem aw_give3 (h : RkRaw w0 R kv vv [3] [9] 2 3 2 W) : Calls Try.prog 11 #[.pointer (some ⟨R, 0, none⟩), .int .i64 8] W fun e W' => e = .returned (.tuple #[.int .i64 5, .int .i64 0]) ∧ ∃ kv' vv', RkRaw w0 R kv' vv' [3, 5] [9, 8] 2 7 2 W' := by
  have g := rk_Give h tb_3 (by decide) (by decide) (by decide) (by decide) (by decide) 8
  obtain ⟨e1, e2⟩ := gv_skip (ks := [3]) (size := 2) (next := 3) (step := 2) (by decide) (by decide) (by decide) (by decide)
  obtain ⟨e3, e4⟩ := gv_some (ks := [3]) (size := 2) (next := 5) (step := 2) (by decide) (by decide) (by decide) (by decide)
  rw [e1, e2, show (3 : Int) + 2 = 5 from rfl, e3, e4] at g
  refine g.mono ?_
  rintro e W' ⟨rfl, kv', vv', h', _⟩
  exact ⟨rfl, kv', vv', h'⟩
theorem aw_drop2 (h : RkRaw w0 R kv vv [3, 5] [9, 8] 2 7 2 W) : Calls Try.prog 13 #[.pointer (some ⟨R, 0, none⟩), .int .i64 1] W fun e W' => e = .returned (.int .i64 30) ∧ ∃ kv' vv', RkRaw w0 R kv' vv' [3, 5] [9, 8] 2 7 2 W' := by
  have g := rk_Drop h tb_4 (by decide) 1
  refine g.mono ?_
  rintro e W' ⟨rfl, kv', vv', h', _⟩
  exact ⟨rfl, kv', vv', h'⟩
end
theorem own_two {W : World} {base : Nat} {v : Value} {a b : Int} (h : W.ownsRow base 3 1 v 2 (nums .i64 [a, b])) : ∃ g cap, v = .slice (some ⟨g, 0, none⟩) 2 cap ∧ W.cell? ⟨g, 0, none⟩ = some (.int .i64 a) ∧ W.cell? ⟨g, 1, none⟩ = some (.int .i64 b) := by
  rcases own_form (xs := [a, b]) h with ⟨_, hx⟩ | ⟨g, cap, cur, rfl, hg, hh, hnc, hcm, hsz, htk, hc⟩
  · cases hx
  · exact ⟨g, cap, rfl, hc 0 (by simp), hc 1 (by simp)⟩
set_option maxHeartbeats 4000000 in
theorem rk_awake (w : World) : Calls Try.prog 7 #[] w fun e w' => e = .returned (.bool true) ∧ Below w.heap.size w w' := by
  have n0 := rk_New 2 1 2 w (by unfold NewOk; decide)
  have rm := Aside0.mk (rk_made 2 1 2 w)
  go_enter Try.func7, Try.ntmps7
  go_wp2_with (first | (go_at_call 8; refine n0.mono ?_; rintro e w1 ⟨rfl, hw1⟩; have r0 := rm.out; (rw [← hw1] at r0); clear hw1; have g1 := aw_give1 r0; clear r0) | (go_at_call 11; (with_reducible refine g1.mono ?_); rintro e w2 ⟨rfl, kv1, vv1, r1⟩; have h1 := aw_hold r1; clear r1 g1) | (go_at_call 12; (with_reducible refine h1.mono ?_); rintro e w3 ⟨rfl, kv2, vv2, r2⟩; have g2 := aw_give2 r2; clear r2 h1) | (go_at_call 11; (with_reducible refine g2.mono ?_); rintro e w4 ⟨rfl, kv3, vv3, r3⟩; have d1 := aw_drop1 r3; clear r3 g2) | (go_at_call 13; (with_reducible refine d1.mono ?_); rintro e w5 ⟨rfl, kv4, vv4, r4⟩; have g3 := aw_give3 r4; clear r4 d1) | (go_at_call 11; (with_reducible refine g3.mono ?_); rintro e w6 ⟨rfl, kv5, vv5, r5⟩; have i5 := rk_IDs r5 tb_4 (by decide); have R5 := Aside0.mk r5; clear r5 g3) | (go_at_call 10; (with_reducible refine i5.mono ?_); rintro e w7 ⟨v, rfl, ho, hb7⟩; have d2 := aw_drop2 (R5.out.below hb7); obtain ⟨g, cap, rfl, x0, x1⟩ := own_two ho; clear ho i5) | (go_at_call 13; (with_reducible refine d2.mono ?_); rintro e w8 ⟨rfl, kv6, vv6, r6⟩))
  go_ret
  exact ⟨rfl, r6.hB⟩

end Go.Proofs.Ytnlckandbgpncaa.P
