-- Laid by sp.py, a program of this session's, out of the translation and the session's own stand-ins.
import Derived.Test.YtmcbpoejdgobnaaPx0
import Derived.Lib.BitFns
import Derived.Lib.Tables
namespace Go.Proofs.Ytmcbpoejdgobnaa.P
open Go.RowKit Go.Proofs.YtmcbpoejdgobnaaW.PrintWords Go.Proofs.YtmcbpoejdgobnaaW.PrintLast Go.Proofs.YtmcbpoejdgobnaaW.PrintMore
attribute [local go_sem] max2_int min2_int max_two min_two max_three min_three max_four min_four   -- for this text's walks alone
set_option linter.unusedVariables false
set_option linter.unusedSimpArgs false
set_option linter.unnecessarySimpa false

/-! ### bits.OnesCount16: a stand-in -/
def bits_OnesCount16.f (a0 : Int) : Option Int := if 0 ≤ a0 ∧ a0 ≤ 65535 then some ((Lib.onesCount (a0 / 256).toNat : Int) + Lib.onesCount (a0 % 256).toNat) else none
theorem bits_wraps_u16 (n : Int) (h₀ : 0 ≤ n) (h₁ : n < 2 ^ 16) : IntKind.u16.wrap n = n := by
  simp [IntKind.wrap, IntKind.bits, IntKind.signed]
  omega
theorem bits_u16_and255 {x : Int} (h₀ : 0 ≤ x) (h₁ : x < 65536) : Go.bits .and .u16 x 255 = x % 256 := bits_mask .u16 16 (by decide) bits_wraps_u16 8 (by decide) x h₀ h₁
theorem bits_pop8 (b : Int) (h0 : 0 ≤ b) (h1 : b ≤ 255) : Lib.pop8 b = (Lib.onesCount b.toNat : Int) ∧ Lib.onesCount b.toNat ≤ 8 := by
  have e := Lib.pop8_eq ⟨b.toNat, by omega⟩
  have l := Lib.onesCount_le8 ⟨b.toNat, by omega⟩
  simp only [Int.toNat_of_nonneg h0] at e
  exact ⟨e, l⟩
set_option maxHeartbeats 2000000 in
set_option maxRecDepth 1000000 in
theorem bits_OnesCount16.calls (a0 : Int) (r : Int) (w : World) (h : bits_OnesCount16.f a0 = some r) :
    Calls Try.prog 20 #[.int .u16 a0] w fun e w' => e = .returned (.int .i64 r) ∧ Drawn0 w w' := by
  unfold bits_OnesCount16.f at h
  split at h
  · rename_i hb
    obtain rfl := Option.some.inj h
    obtain ⟨h0, h1⟩ := hb
    have p1 := bits_pop8 (a0 / 256) (by omega) (by omega)
    have p2 := bits_pop8 (a0 % 256) (by omega) (by omega)
    have b1 := p1.2
    have b2 := p2.2
    have hm := bits_u16_and255 h0 (by omega)
    have ix1 : ∀ w, (Instr.index 9 (.string Lib.pop8tab) (.int .u16 (a0 / 256))).run Try.prog w = .ok (.int .u8 (Lib.onesCount (a0 / 256).toNat)) w := fun w => by rw [← p1.1]; exact Lib.run_index_pop8tab w _ _ _ Try.underlying9 (by omega) (by omega)
    have ix2 : ∀ w, (Instr.index 9 (.string Lib.pop8tab) (.int .u16 (a0 % 256))).run Try.prog w = .ok (.int .u8 (Lib.onesCount (a0 % 256).toNat)) w := fun w => by rw [← p2.1]; exact Lib.run_index_pop8tab w _ _ _ Try.underlying9 (by omega) (by omega)
    clear p1 p2
    generalize Lib.onesCount (a0 / 256).toNat = n1 at *
    generalize Lib.onesCount (a0 % 256).toNat = n2 at *
    go_enter Try.func20, Try.ntmps20
    go_wp2
    go_quiet (fail)
    go_wp2
    go_ret
    exact ⟨by first | rfl | (congr 2; omega), by repeat (first | exact Drawn0.refl _ | apply Drawn0.step)⟩
  · exact absurd h (by simp)

end Go.Proofs.Ytmcbpoejdgobnaa.P
