import Derived.Test.YtnndmbhfolgohaaDoorSLtokenMay
import Derived.Test.YtnndmbhfolgohaaDoorShelf
namespace Go.Proofs.YtnndmbhfolgohaaDoor.P
open Go.RowKit Go.Proofs.YtnndmbhfolgohaaDoorW.PrintWords Go.Proofs.YtnndmbhfolgohaaDoorW.PrintLast Go.Proofs.YtnndmbhfolgohaaDoorW.PrintMore
set_option linter.unusedVariables false
set_option linter.unusedSimpArgs false
set_option linter.unnecessarySimpa false
attribute [local go_sem] max2_int min2_int max_two min_two max_three min_three max_four min_four
theorem strs_ofC {w : World} {A : Option Addr} {l : List ByteArray} (h : Kd.C Kd.string w A l.length l) : l = [] ∨ ∃ b off, A = some ⟨b, off, none⟩ ∧ b < w.heap.size ∧ ∀ j, j < l.length → w.cell? ⟨b, off + j, none⟩ = some (.string (l.getD j ByteArray.empty)) := by
  by_cases h0 : l = []
  · exact .inl h0
  have hp : 0 < l.length := List.length_pos_iff.2 h0
  obtain ⟨ad, e, c0⟩ := Kd.at_string h 0 (Int.le_refl _) (by omega)
  have c0' : w.cell? ad = some (.string (rdOf ByteArray.empty l 0)) := by simpa [Addr.add] using c0
  have hs : ad.spot = none := by
    unfold World.cell? at c0'
    split at c0'
    · split at c0'
      · cases c0'
      · rename_i hn; simpa using hn
    · cases c0'
  have hb : ad.block < w.heap.size := by
    unfold World.cell? at c0'
    split at c0'
    · rename_i hc
      exact (Array.getElem?_eq_some_iff.1 hc).1
    · cases c0'
  have hadd : ∀ j, ad.add j = ⟨ad.block, ad.off + j, none⟩ := fun j => by
    unfold Addr.add
    split
    · rename_i hj; subst hj; rw [Nat.add_zero, ← hs]
    · rfl
  refine .inr ⟨ad.block, ad.off, by rw [e, ← hs], hb, fun j hj => ?_⟩
  obtain ⟨ad2, e2, c2⟩ := Kd.at_string h (j : Int) (by omega) (by omega)
  obtain rfl : ad = ad2 := by rw [e] at e2; exact Option.some.inj e2
  rw [Int.toNat_natCast, hadd] at c2
  rw [c2]
  unfold rdOf
  rw [Int.toNat_natCast]
theorem tk_has {A : Option Addr} {c : Nat} (l : List ByteArray) (x : ByteArray) (W : World) (hC : Kd.C Kd.string W A l.length l) (hl : l.length ≤ 1000) : Calls Tryd.prog 23 #[.slice A l.length c, .string x] W fun e W' => e = .returned (.bool (Lib.containsS l x)) ∧ W' = W := by
  rcases strs_ofC hC with rfl | ⟨b, off, rfl, _, hc⟩
  · exact Tryd.slices_Contains_string_empty A c x W
  · have := Tryd.slices_Contains_string b off l.length c l x W (Nat.le_refl _) (by omega) hc
    rwa [List.take_length] at this
def ckE (own : ByteArray) (l : List ByteArray) (most : Int) : Int := if mayB l = true ∧ Lib.containsS l own = false ∧ (l.length : Int) < most then 0 else 170
theorem tk_Check {A : Option Addr} {c : Nat} (own : ByteArray) (l : List ByteArray) (most : Int) (W : World) (hC : Kd.C Kd.string W A l.length l) (hl : l.length ≤ 1000) (hs : ∀ s ∈ l, s.size ≤ 1000000) : Calls Tryd.prog 9 #[.string own, .slice A l.length c, .int .i64 most] W fun e W' => e = .returned (.int .i64 (ckE own l most)) ∧ Drawn0 W W' := by
  have M := tk_May (c := c) l W hC hl hs
  have HH := Aside0.mk (fun (W1 : World) (d : Drawn0 W W1) => tk_has (c := c) l own W1 (Kd.C_below hC d.below) hl)
  obtain ⟨E, hE⟩ : ∃ E, E = ckE own l most := ⟨_, rfl⟩
  rw [← hE]
  unfold ckE at hE
  clear hC hs
  generalize mayB l = m at M hE
  generalize Lib.containsS l own = k at HH hE
  by_cases h1 : (l.length : Int) < most
  · have p1 : decide (most ≤ (l.length : Int)) = false := decide_eq_false (by omega)
    have HE := Aside0.mk (show E = if m = true ∧ k = false then 0 else 170 by rw [hE]; simp only [h1, and_true])
    clear h1 hE
    cases m <;> cases k <;> (go_enter Tryd.func9, Tryd.ntmps9; go_wp2_with (first | (go_at_call 12; (with_reducible refine M.mono ?_); rintro e w1 ⟨rfl, d1⟩; have H2 := HH.out w1 d1) | (go_at_call 23; (with_reducible refine H2.mono ?_); rintro e w2 ⟨rfl, hw2⟩; obtain rfl := hw2.symm)); go_ret; exact ⟨by rw [HE.out]; rfl, d1⟩)
  · have p1 : decide (most ≤ (l.length : Int)) = true := decide_eq_true (by omega)
    have HE := Aside0.mk (show E = 170 by rw [hE]; exact if_neg (fun q => h1 q.2.2))
    clear h1 hE
    cases m <;> cases k <;> (go_enter Tryd.func9, Tryd.ntmps9; go_wp2_with (first | (go_at_call 12; (with_reducible refine M.mono ?_); rintro e w1 ⟨rfl, d1⟩; have H2 := HH.out w1 d1) | (go_at_call 23; (with_reducible refine H2.mono ?_); rintro e w2 ⟨rfl, hw2⟩; obtain rfl := hw2.symm)); go_ret; exact ⟨by rw [HE.out]; rfl, d1⟩)
end Go.Proofs.YtnndmbhfolgohaaDoor.P
