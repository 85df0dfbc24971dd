import Derived.Test.YtnajlpmpofljhaaWLast
/-! ### swap: what holds behind the operations of a region, told anew in its midst -/
namespace Go.Proofs.Ytnajlpmpofljhaa.SL
open Go Go.RowKit Go.Proofs.YtnajlpmpofljhaaW.PrintLast
theorem last_of_any {P : Program} {ops : Array Oper} {Q : Exit → Act → World → Prop} {md : Region.Mode} {ds : List Nat} : ∀ (fuel : Nat) (l : Array Bool) (a : Act) (w : World), wpAny P md ops Q fuel l a w → wpAnyLast P md ops Q (fun _ => True) ds fuel l a w
  | 0, _, _, _, h => h
  | fuel + 1, _, _, _, h => ⟨h.1, fun i hi => wpOp_mono (fun a' w' h' => ⟨fun _ _ => trivial, last_of_any fuel _ a' w' h'⟩) (h.2 i hi)⟩
theorem swap_ {P : Program} {ops : Array Oper} {Q : Exit → Act → World → Prop} {md : Region.Mode} {ds ds' : List Nat} {S' : World → Prop} {fuel : Nat} {l : Array Bool} {a : Act} {w : World} (hS : S' w) (h : S' w → wpAnyLast P md ops Q S' ds' fuel l a w) : wpAnyLast P md ops Q (fun _ => True) ds fuel l a w :=
  last_of_any _ _ _ _ (wpAny_of_last _ _ _ _ (h hS))
end Go.Proofs.Ytnajlpmpofljhaa.SL
