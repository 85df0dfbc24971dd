import Derived.Test.YtnndmbhfolgohaaDoorSLtokenParse
namespace Go.Proofs.YtnndmbhfolgohaaDoor.P
open Go.RowKit Go.Proofs.YtnndmbhfolgohaaDoorW.PrintWords Go.Proofs.YtnndmbhfolgohaaDoorW.PrintLast Go.Proofs.YtnndmbhfolgohaaDoorW.PrintMore
set_option linter.unusedVariables false
set_option linter.unusedSimpArgs false
set_option linter.unnecessarySimpa false
attribute [local go_sem] max2_int min2_int max_two min_two max_three min_three max_four min_four
set_option linter.unusedVariables false
set_option linter.unusedSimpArgs false
set_option linter.unnecessarySimpa false
/-! ### token.Print -/
def joinT (l : List ByteArray) (c : UInt8) : ByteArray := ⟨(Lib.join (l.map (·.data.toList)) [c]).toArray⟩
def priE (l : List ByteArray) (c : UInt8) : Int := if ltB (c.toNat : Int) = false ∧ mayB l = true then 0 else 2
def priS (l : List ByteArray) (c : UInt8) : ByteArray := if ltB (c.toNat : Int) = false ∧ mayB l = true then joinT l c else ⟨#[]⟩
theorem joinTail_len (c : UInt8) (m : Nat) : ∀ r : List (List UInt8), (∀ x ∈ r, x.length ≤ m) → (Lib.joinTail [c] r).length ≤ r.length * (m + 1)
  | [], _ => by simp [Lib.joinTail]
  | x :: r, h => by
    have h1 := h x (List.mem_cons_self ..)
    have h2 := joinTail_len c m r (fun y hy => h y (List.mem_cons_of_mem _ hy))
    simp only [Lib.joinTail, List.map_cons, List.flatten_cons, List.length_append, List.length_cons, List.length_nil] at h2 ⊢
    rw [Nat.succ_mul]
    omega
theorem join_len (c : UInt8) (m : Nat) (l : List (List UInt8)) (h : ∀ x ∈ l, x.length ≤ m) : (Lib.join l [c]).length ≤ l.length * (m + 1) := by
  cases l with
  | nil => simp [Lib.join_nil]
  | cons x r =>
    have h1 := h x (List.mem_cons_self ..)
    have h2 := joinTail_len c m r (fun y hy => h y (List.mem_cons_of_mem _ hy))
    rw [Lib.join_cons, List.length_append, List.length_cons, Nat.succ_mul]
    omega
theorem tk_Join {A : Option Addr} {q : Nat} (l : List ByteArray) (c : UInt8) (W : World) (hC : Kd.C Kd.string W A l.length l) (hl : l.length ≤ 1000) (hq : l.length ≤ q) (hs : ∀ s ∈ l, s.size ≤ 1000000) : Calls Tryd.prog 27 #[.slice A l.length q, .string ⟨#[c]⟩] W fun e W' => e = .returned (.string (joinT l c)) ∧ Below W.heap.size W W' := by
  rcases strs_ofC hC with rfl | ⟨b, off, rfl, hb, hc⟩
  · refine (Tryd.strings_Join_none A q ⟨#[c]⟩ W).mono ?_
    rintro e w1 ⟨rfl, rfl⟩
    exact ⟨rfl, Below.refl _ _⟩
  · refine Tryd.strings_Join b off q l ⟨#[c]⟩ W (fun j x hj => ?_) hb (by omega) hq ?_
    · have hjl : j < l.length := (List.getElem?_eq_some_iff.1 hj).1
      rw [hc j hjl, List.getD_eq_getElem?_getD, hj]
      rfl
    · refine Nat.le_trans (join_len c 1000000 _ (fun x hx => ?_)) (by rw [List.length_map]; omega)
      obtain ⟨s, hs2, rfl⟩ := List.mem_map.1 hx
      have := hs s hs2
      rwa [data_length]
set_option maxHeartbeats 1000000 in
theorem tk_Print {A : Option Addr} {q : Nat} (l : List ByteArray) (c : UInt8) (W : World) (hC : Kd.C Kd.string W A l.length l) (hl : l.length ≤ 1000) (hq : l.length ≤ q) (hs : ∀ s ∈ l, s.size ≤ 1000000) : Calls Tryd.prog 13 #[.slice A l.length q, .int .u8 (c.toNat : Int)] W fun e W' => e = .returned (.tuple #[.string (priS l c), .int .i64 (priE l c)]) ∧ Below W.heap.size W W' := by
  have LT := tk_letter (c.toNat : Int) W
  have MA := Aside0.mk (fun (W1 : World) (d : Drawn0 W W1) => tk_May (c := q) l W1 (Kd.C_below hC d.below) hl hs)
  have JO := Aside0.mk (fun (W1 : World) (d : Below W.heap.size W W1) => tk_Join l c W1 (Kd.C_below hC d) hl hq hs)
  clear hC hs
  obtain ⟨E, hE⟩ : ∃ E, E = priE l c := ⟨_, rfl⟩
  obtain ⟨S, hS⟩ : ∃ S, S = priS l c := ⟨_, rfl⟩
  rw [← hE, ← hS]
  unfold priE at hE
  unfold priS at hS
  generalize ltB (c.toNat : Int) = lb at LT hE hS
  generalize mayB l = mb at MA hE hS
  cases lb with
  | true =>
    obtain rfl : E = 2 := hE
    obtain rfl : S = ⟨#[]⟩ := hS
    go_enter Tryd.func13, Tryd.ntmps13
    go_wp2_with (go_at_call 22; (with_reducible refine LT.mono ?_); rintro e w1 ⟨rfl, d1⟩)
    go_ret2
    exact ⟨rfl, d1.below⟩
  | false =>
    cases mb with
    | false =>
      obtain rfl : E = 2 := hE
      obtain rfl : S = ⟨#[]⟩ := hS
      go_enter Tryd.func13, Tryd.ntmps13
      go_wp2_with (first | (go_at_call 22; (with_reducible refine LT.mono ?_); rintro e w1 ⟨rfl, d1⟩; have M2 := MA.out w1 d1) | (go_at_call 12; (with_reducible refine M2.mono ?_); rintro e w2 ⟨rfl, d2⟩))
      go_ret2
      exact ⟨rfl, d1.below.trans (d2.below.mono d1.below.size)⟩
    | true =>
      obtain rfl : E = 0 := hE
      rw [if_pos ⟨rfl, rfl⟩] at hS
      subst hS
      generalize joinT l c = S at JO ⊢
      have hcv := fun (W : World) => run_convert_bytes_back (P := Tryd.prog) (W.alloc (.cells #[.int .u8 (c.toNat : Int)] 5)) 48 9 5 ⟨W.heap.size, 0, none⟩ 1 [c] Tryd.underlying48 Tryd.underlying5 Tryd.underlying9 (fun j hj => by
        obtain rfl : j = 0 := by simp at hj; omega
        have := World.cell?_alloc_new W #[.int .u8 (c.toNat : Int)] 5 0
        simpa [Addr.add] using this)
      simp only [List.length_cons, List.length_nil, Nat.zero_add] at hcv
      go_enter Tryd.func13, Tryd.ntmps13
      go_wp2_with (first | (go_at_call 22; (with_reducible refine LT.mono ?_); rintro e w1 ⟨rfl, d1⟩; have M2 := MA.out w1 d1) | (go_at_call 12; (with_reducible refine M2.mono ?_); rintro e w2 ⟨rfl, d2⟩; have hb2 := d1.below.trans (d2.below.mono d1.below.size); have hb3 := hb2.alloc hb2.size (.cells #[.int .u8 (c.toNat : Int)] 5); have J2 := JO.out _ hb3) | (go_at_call 27; (with_reducible refine J2.mono ?_); rintro e w3 ⟨rfl, hb4⟩))
      go_ret2
      exact ⟨rfl, hb3.trans (hb4.mono hb3.size)⟩
end Go.Proofs.YtnndmbhfolgohaaDoor.P
