-- Laid by sp.py, a program of this session's, out of the translation and the session's own stand-ins.
import Derived.Test.YtnlckandbgpncaaPx0
import Derived.Test.YtnlckandbgpncaaStrackTable
import Derived.Test.YtnlckandbgpncaaStrackGive
import Derived.Test.YtnlckandbgpncaaShelf
import Derived.Test.YtnlckandbgpncaaStrackIDs
namespace Go.Proofs.Ytnlckandbgpncaa.P
open Go.RowKit Go.Proofs.YtnlckandbgpncaaW.PrintWords Go.Proofs.YtnlckandbgpncaaW.PrintLast Go.Proofs.YtnlckandbgpncaaW.PrintMore
attribute [local go_sem] max2_int min2_int max_two min_two max_three min_three max_four min_four   -- for this text's walks alone
set_option linter.unusedVariables false
set_option linter.unusedSimpArgs false
set_option linter.unnecessarySimpa false

/-! ### rack.New -/
def NewOk (size first step : Int) : Prop := 1 ≤ size ∧ size ≤ 64 ∧ 1 ≤ first ∧ 1 ≤ step ∧ first ≤ 1000 ∧ step ≤ 1000
set_option maxHeartbeats 1000000 in
theorem rk_New (size first step : Int) (W : World) (h : NewOk size first step) : Calls Try.prog 8 #[.int .i64 size, .int .i64 first, .int .i64 step] W fun e W' => e = .returned (.tuple #[.pointer (some ⟨W.heap.size, 0, none⟩), .int .i64 0]) ∧ W' = W.alloc (.cells #[.slice none 0 0, .slice none 0 0, .int .i64 size, .int .i64 first, .int .i64 step] 42) := by
  have HN := Aside0.mk h
  clear h
  go_enter Try.func8, Try.ntmps8
  go_wp2_with fail
  all_goals first | (go_ret2; exact ⟨rfl, rfl⟩) | (exfalso; have h := HN.out; unfold NewOk at h; omega)
set_option maxHeartbeats 1000000 in
theorem rk_NewNo (size first step : Int) (W : World) (h : ¬ NewOk size first step) : Calls Try.prog 8 #[.int .i64 size, .int .i64 first, .int .i64 step] W fun e W' => e = .returned (.tuple #[.pointer none, .int .i64 2]) ∧ W' = W := by
  have HN := Aside0.mk h
  clear h
  go_enter Try.func8, Try.ntmps8
  go_wp2_with fail
  all_goals first | (go_ret2; exact ⟨rfl, rfl⟩) | (exfalso; have h := HN.out; unfold NewOk at h; omega)
theorem rk_made (size first step : Int) (W : World) : RkRaw W W.heap.size (.slice none 0 0) (.slice none 0 0) [] [] size first step (W.alloc (.cells #[.slice none 0 0, .slice none 0 0, .int .i64 size, .int .i64 first, .int .i64 step] 42)) :=
  ⟨Nat.le_refl _, World.alloc_heap_new W _, World.ownsRow_nil _ _ _ _, World.ownsRow_nil _ _ _ _, (fun k hk => by cases hk), (Below.refl _ W).alloc (Nat.le_refl _) _⟩
theorem tb_nil : TbOk [] [] := ⟨List.Pairwise.nil, rfl, by decide⟩
/-! ### what the state becomes, in plain words -/
theorem gv_some {ks : List Int} {size next step : Int} (hf : (ks.length : Int) < size) (hx : next ≤ 1099511627775) (hst : 1 ≤ step) (hc : ks.contains next = false) : gvId ks size next step = some next ∧ gvNx ks size next step = next + step := by
  unfold gvId gvNx
  rw [if_neg (by omega), if_neg (by omega)]
  have := (give_round (ks := ks) (step := step) (o := giveAt ks step (1099511627776 - next).toNat next) (x := giveNx ks step (1099511627776 - next).toNat next) (nx := next) (by omega) hst ⟨rfl, rfl⟩).2 hc
  exact ⟨this.1.symm, this.2.symm⟩
theorem gv_skip {ks : List Int} {size next step : Int} (hx : next ≤ 1099511627775) (hst : 1 ≤ step) (hc : ks.contains next = true) (hf : (ks.length : Int) < size) : gvId ks size next step = gvId ks size (next + step) step ∧ gvNx ks size next step = gvNx ks size (next + step) step := by
  unfold gvId gvNx
  rw [if_neg (by omega), if_neg (by omega), if_neg (by omega), if_neg (by omega)]
  have := (give_round (ks := ks) (step := step) (o := giveAt ks step (1099511627776 - next).toNat next) (x := giveNx ks step (1099511627776 - next).toNat next) (nx := next) (by omega) hst ⟨rfl, rfl⟩).1 hc
  exact ⟨this.1.symm, this.2.symm⟩
theorem gv_full {ks : List Int} {size next step : Int} (hf : size ≤ (ks.length : Int)) : gvId ks size next step = none ∧ gvNx ks size next step = next := by
  unfold gvId gvNx
  rw [if_pos hf, if_pos hf]
  exact ⟨rfl, rfl⟩

end Go.Proofs.Ytnlckandbgpncaa.P
