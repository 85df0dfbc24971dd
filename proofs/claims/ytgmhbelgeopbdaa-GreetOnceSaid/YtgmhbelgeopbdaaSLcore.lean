import Derived.ScopeJumps
import Derived.WalkMore
import Derived.Control
/- Small laws of this session's own: a scope out of which a goto goes forward once. -/
namespace Go.Proofs.Ytgmhbelgeopbdaa.SL
open Go
variable {P : Program} {a : Act} {w : World} {Q : Exit → Act → World → Prop}
theorem wp_scope_forward {c rest : Code} (l : Nat) (hf : findLabel c l = some rest)
    (first : c.wp P (Exit.jump l (fun a w => rest.wp P (Exit.noGoto Q) a w) Q) a w) : (Code.scope c).wp P Q a w := by
  refine wp_scope_jumps l (fun a w => rest.wp P (Exit.noGoto Q) a w) (fun _ _ => 0) hf first ?_
  intro a w hJ
  refine wp_mono hJ ?_
  intro e a w he
  cases e with
  | goto l' => exact he.elim
  | normal => exact he
  | exit id => exact he
  | ret => exact he
  | panic ch => exact he
  | outgrown => exact he
theorem jump_goto {l : Nat} {J : Act → World → Prop} (h : J a w) : Exit.jump l J Q (.goto l) a w := ⟨rfl, h⟩
end Go.Proofs.Ytgmhbelgeopbdaa.SL
