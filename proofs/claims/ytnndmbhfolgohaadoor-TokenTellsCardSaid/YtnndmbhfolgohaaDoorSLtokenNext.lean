import Derived.Test.YtnndmbhfolgohaaDoorSLtokenCheck
namespace Go.Proofs.YtnndmbhfolgohaaDoor.P
open Go.RowKit Go.Proofs.YtnndmbhfolgohaaDoorW.PrintWords Go.Proofs.YtnndmbhfolgohaaDoorW.PrintLast Go.Proofs.YtnndmbhfolgohaaDoorW.PrintMore
set_option linter.unusedVariables false
set_option linter.unusedSimpArgs false
set_option linter.unnecessarySimpa false
attribute [local go_sem] max2_int min2_int max_two min_two max_three min_three max_four min_four
def strs (l : List ByteArray) : List Value := l.map Value.string
theorem tk_Clone {A : Option Addr} {c : Nat} (l : List ByteArray) (W : World) (hC : Kd.C Kd.string W A l.length l) (hl : l.length ≤ 1000) : Calls Tryd.prog 24 #[.slice A l.length c] W fun e W' => ∃ v, e = .returned v ∧ W'.ownsRow W.heap.size 9 1 v l.length (strs l) ∧ Below W.heap.size W W' := by
  rcases strs_ofC hC with rfl | ⟨b, off, rfl, _, hc⟩
  · cases A with
    | none =>
      refine (Tryd.slices_Clone_string_nil 0 c W).mono ?_
      rintro e w1 ⟨rfl, rfl⟩
      exact ⟨_, rfl, World.ownsRow_nil _ _ _ _, Below.refl _ _⟩
    | some a =>
      refine (Tryd.slices_Clone_string_zero a c W).mono ?_
      rintro e w1 ⟨v, rfl, h1, _, h2⟩
      exact ⟨v, rfl, h1, h2⟩
  · refine (Tryd.slices_Clone_string b off l.length c l W (Nat.le_refl _) (by omega) hc).mono ?_
    rintro e w1 ⟨v, rfl, h1, _, h2⟩
    rw [List.take_length] at h1
    exact ⟨v, rfl, h1, h2⟩
theorem infoStr : (Tryd.prog.info? 9).map (fun i => (i.zero, i.size, i.bytes)) = some (some (.string ⟨#[]⟩), 1, 16) := by kernel_rfl
set_option maxHeartbeats 1000000 in
theorem tk_Next {A : Option Addr} {c : Nat} (own : ByteArray) (l : List ByteArray) (W : World) (hC : Kd.C Kd.string W A l.length l) (hl : l.length ≤ 1000) : Calls Tryd.prog 10 #[.string own, .slice A l.length c] W fun e W' => ∃ v, e = .returned v ∧ W'.ownsRow W.heap.size 9 1 v (l.length + 1) (strs l ++ [.string own]) ∧ Below W.heap.size W W' := by
  have CL := tk_Clone (c := c) l W hC hl
  clear hC
  obtain ⟨i0, hi, hz0, hz1, hz2⟩ := info_parts infoStr
  generalize strs l = xs at CL
  go_enter Tryd.func10, Tryd.ntmps10
  go_wp2_with (first | (go_at_call 24; (with_reducible refine CL.mono ?_); rintro e w1 ⟨v, rfl, h1, h2⟩; have bA : Below w1.heap.size w1 (w1.alloc (.cells #[.string own] 9)) := (Below.refl _ _).alloc (Nat.le_refl _) _; have HO := Aside0.mk (pw_own_below h1 bA); have HN := Aside0.mk (World.news_of_block (cs := #[.string own]) (heap_alloc_new w1 (.cells #[.string own] 9))); have HB := Aside0.mk (show Below W.heap.size W (w1.alloc (.cells #[.string own] 9)) from h2.trans ⟨bA.os, bA.tape, bA.output, bA.size, fun j hj => bA.block j (Nat.lt_of_lt_of_le hj h2.size)⟩); clear h1 h2 bA) | (at_builtin; refine wpList_append_own_at _ rfl _ _ 22 rfl W.heap.size 9 i0 (.string ⟨#[]⟩) 1 16 Tryd.underlying22 hi hz0 hz1 hz2 rfl (by decide) _ _ _ rfl HO.out ⟨w1.heap.size, 0, none⟩ 1 1 [.string own] rfl rfl HN.out (by simp [Value.oneCell']) (by unfold maxLen; omega) (by omega) HB.out.size ?_; intro v' w2 hown2 hgrow _ hat; have G1 := Aside0.mk hown2; have hkb := own_base HO.out; have G2 := Aside0.mk (pw_below_grown HB.out _ HB.out.size hgrow (fun k e => hkb k e)); clear hown2 hgrow hat hkb))
  go_ret
  exact ⟨_, rfl, G1.out, G2.out⟩
end Go.Proofs.YtnndmbhfolgohaaDoor.P
