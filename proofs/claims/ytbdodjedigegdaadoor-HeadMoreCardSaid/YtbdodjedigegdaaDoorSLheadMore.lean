import Derived.Test.YtbdodjedigegdaaDoorSLheadRow
namespace Go.Proofs.YtbdodjedigegdaaDoor.P
open Go.RowKit Go.Proofs.YtbdodjedigegdaaDoorW.PrintWords Go.Proofs.YtbdodjedigegdaaDoorW.PrintLast Go.Proofs.YtbdodjedigegdaaDoorW.PrintMore
set_option linter.unusedVariables false
set_option linter.unusedSimpArgs false
set_option linter.unnecessarySimpa false
attribute [local go_sem] max2_int min2_int max_two min_two max_three min_three max_four min_four
/-! ### HeadMore: a law by hand -/
def endCells : Array Value := #[.string ⟨#[13, 10, 13, 10]⟩, .string ⟨#[10, 13, 10]⟩, .string ⟨#[10]⟩, .string ⟨#[13, 10]⟩, .string ⟨#[65, 13, 10, 13, 10]⟩, .string ⟨#[58, 13, 10, 13, 10]⟩, .string ⟨#[65, 58, 13, 10, 13, 10]⟩]
theorem end_cell (X : World) (j : Nat) (hj : j < 7) : (X.alloc (.cells endCells 9)).cell? ⟨X.heap.size, j, none⟩ = some (.string (endsL.getD j ⟨#[]⟩)) := by
  rw [World.cell?_alloc_new]
  match j, hj with
  | 0, _ => rfl
  | 1, _ => rfl
  | 2, _ => rfl
  | 3, _ => rfl
  | 4, _ => rfl
  | 5, _ => rfl
  | 6, _ => rfl
theorem end_size (j : Nat) : (endsL.getD j ⟨#[]⟩).size ≤ 6 := by
  match j with
  | 0 => decide
  | 1 => decide
  | 2 => decide
  | 3 => decide
  | 4 => decide
  | 5 => decide
  | 6 => decide
  | j + 7 => exact Nat.zero_le _
theorem ne_own {U : World} {H B : Nat} {t e : TypeId} {cs : Array Value} {sz n : Nat} {v : Value} {xs : List Value} (h : U.heap[H]? = some (.cells cs t (0, 0))) (o : U.ownsRow B e sz v n xs) (hne : t ≠ e) : some H ≠ v.ownBlock := fun e2 => by
  obtain ⟨c, hc⟩ := own_typed' o H e2.symm
  rw [h] at hc
  simp at hc
  exact hne hc.2
set_option maxRecDepth 100000 in
set_option maxHeartbeats 16000000 in
theorem hm_more (l : List UInt8) (A : Option Addr) (c : Nat) (W : World) (hl : l.length ≤ 9223372036854775807) (hr : ReadsInt W .u8 A l.length (l.map fun b => (b.toNat : Int))) :
    Calls Tryd.prog 5 #[.slice A l.length c] W fun e W' => e = .returned (.bool true) ∧ Below W.heap.size W W' := by
  have AW := hd_awake W
  have TK := fun W1 (hb : Below W.heap.size W W1) => hd_TakeL l A c W1 hl (hr.below hb)
  by_cases h6 : 600 < l.length ∨ (takeT l).e ≠ 5 ∨ 500 < l.length
  · have q : decide ((600 : Int) < (l.length : Int)) = true ∨ (decide ((600 : Int) < (l.length : Int)) = false ∧ ((takeT l).e != 5) = true) ∨ (decide ((600 : Int) < (l.length : Int)) = false ∧ ((takeT l).e != 5) = false ∧ decide ((500 : Int) < (l.length : Int)) = true) := by
      by_cases h1 : 600 < l.length
      · exact .inl (decide_eq_true (by omega))
      by_cases h2 : (takeT l).e = 5
      · exact .inr (.inr ⟨decide_eq_false (by omega), by rw [h2]; rfl, decide_eq_true (by rcases h6 with h | h | h; omega; exact absurd h2 h; omega)⟩)
      · exact .inr (.inl ⟨decide_eq_false (by omega), by rw [bne_iff_ne]; exact h2⟩)
    clear h6 hl hr
    generalize takeT l = r at *
    rcases q with q1 | ⟨q1, q2⟩ | ⟨q1, q2, q3⟩
    all_goals
      go_enter Tryd.func5, Tryd.ntmps5
      go_wp2_with (first | (go_at_call 22; (with_reducible refine AW.mono ?_); rintro e w1 ⟨rfl, b1⟩) | (go_at_call 20; (with_reducible refine (TK _ b1).mono ?_); rintro e w2 ⟨vf, rfl, ho, b2⟩; obtain ⟨A2, q2, ev, -⟩ := spr_slice ho; subst ev; have b3 := below_then b1 b1.size b2; clear ho))
      go_ret
      exact ⟨rfl, b3.alloc b3.size _⟩
  · have q1 : decide ((600 : Int) < (l.length : Int)) = false := decide_eq_false (by omega)
    have h5 : (takeT l).e = 5 := by
      by_cases h : (takeT l).e = 5
      · exact h
      · exact absurd (.inr (.inl h)) h6
    have q2 : ((takeT l).e != 5) = false := by rw [h5]; rfl
    have q3 : decide ((500 : Int) < (l.length : Int)) = false := decide_eq_false (by omega)
    have hl5 : l.length ≤ 500 := by omega
    have HX := Aside0.mk (ends_ok h5 hl5)
    have HN := Aside0.mk (fun m => more_n (m := m) h5)
    clear h6 h5
    generalize takeT l = r at TK q2
    go_enter Tryd.func5, Tryd.ntmps5
    go_wp2_with (first | (go_at_call 22; (with_reducible refine AW.mono ?_); rintro e w1 ⟨rfl, b1⟩) | (go_at_call 20; (with_reducible refine (TK _ b1).mono ?_); rintro e w2 ⟨vf, rfl, ho, b2⟩; obtain ⟨A2, q2, ev, -⟩ := spr_slice ho; subst ev; have b3 := below_then b1 b1.size b2; clear ho))
    have b4 := b3.alloc b3.size (.cells #[.string r.line, .slice A2 r.fields.length q2] 24)
    have b5 := b4.alloc b4.size (.cells endCells 9)
    have hE : (w2.alloc (.cells #[.string r.line, .slice A2 r.fields.length q2] 24)).heap.size = w2.heap.size + 1 := Array.size_push _
    have hce := fun j hj => end_cell (w2.alloc (.cells #[.string r.line, .slice A2 r.fields.length q2] 24)) j hj
    rw [hE] at hce
    have hlt : w2.heap.size + 1 < ((w2.alloc (.cells #[.string r.line, .slice A2 r.fields.length q2] 24)).alloc (.cells endCells 9)).heap.size := by
      have : ∀ (U : World) (o : Obj), (U.alloc o).heap.size = U.heap.size + 1 := fun U o => Array.size_push _
      rw [this, hE]
      omega
    change Code.wp _ _ _ _ ((w2.alloc (.cells #[.string r.line, .slice A2 r.fields.length q2] 24)).alloc (.cells endCells 9))
    generalize (w2.alloc (.cells #[.string r.line, .slice A2 r.fields.length q2] 24)).alloc (.cells endCells 9) = wl at *
    generalize w2.heap.size + 1 = E at *
    clear hE b4 b3 b2 b1 AW TK
    go_loopw [7] (fun v wr => ∃ i : Nat, v = .int .i64 (i : Int) ∧ i ≤ 7 ∧ Aside0 (Below W.heap.size W wr) ∧ Aside0 (∀ j, j < 7 → wr.cell? ⟨E, j, none⟩ = some (.string (endsL.getD j ⟨#[]⟩))) ∧ Aside0 (E < wr.heap.size) ∧ Aside0 (∀ j, j < i → (takeT (l ++ (endsL.getD j ⟨#[]⟩).data.toList)).e ≠ 0)) (fun v _ => 7 - (intOf v).toNat)
    case atStart => exact ⟨0, rfl, by omega, ⟨b5⟩, ⟨hce⟩, ⟨hlt⟩, ⟨fun j hj => absurd hj (Nat.not_lt_zero _)⟩⟩
    case round =>
      clear b5 hce hlt
      obtain ⟨i, rfl, hi, HB, HC, HE, HJ⟩ := hrel
      by_cases hlt : i < 7
      · have p1 : decide ((i : Int) < 7) = true := decide_eq_true (by omega)
        have hi7 : (i : Int) < 7 := by omega
        have hc := HC.out i hlt
        have hes := end_size i
        have hN2 := HN.out (endsL.getD i ⟨#[]⟩).data.toList
        have hsz := data_length (endsL.getD i ⟨#[]⟩)
        have HJ2 := Aside0.mk (fun (h : (takeT (l ++ (endsL.getD i ⟨#[]⟩).data.toList)).e ≠ 0) => show ∀ j, j < i + 1 → (takeT (l ++ (endsL.getD j ⟨#[]⟩).data.toList)).e ≠ 0 from fun j hj => by
          rcases Nat.lt_or_ge j i with h2 | h2
          · exact HJ.out j h2
          · obtain rfl : j = i := by omega
            exact h)
        have htl : l.length + (endsL.getD i ⟨#[]⟩).data.toList.length ≤ 1000 := by omega
        generalize endsL.getD i ⟨#[]⟩ = s at *
        obtain ⟨LL, hLL⟩ : ∃ LL, LL = (l ++ s.data.toList).length := ⟨_, rfl⟩
        have HEL := Aside0.mk (show l.length + s.size = LL by rw [hLL, List.length_append, hsz])
        have hLb : LL ≤ 1000 := by have := HEL.out; omega
        have drew_sz : ∀ U : World, U.drew.heap.size = U.heap.size := fun _ => rfl
        have TK : ∀ A6 c6 W1, ReadsInt W1 .u8 A6 LL ((l ++ s.data.toList).map fun b => (b.toNat : Int)) → Calls Tryd.prog 20 #[.slice A6 LL c6] W1 _ := fun A6 c6 W1 h => by
          rw [hLL] at h ⊢
          exact hd_Take (l ++ s.data.toList) A6 c6 W1 (by omega) h
        have HLL := Aside0.mk hLL
        have HSZ := Aside0.mk hsz
        have HN2 := Aside0.mk hN2
        clear hLL hsz hN2
        have hrE : ∀ U : World, Below wr.heap.size wr U → U.cell? ⟨E, i, none⟩ = some (.string s) := fun U hU => (hU.cell (p := ⟨E, i, none⟩) HE.out).trans hc
        have hrF : ∀ U : World, Below wr.heap.size wr U → ∀ j, j < 7 → U.cell? ⟨E, j, none⟩ = some (.string (endsL.getD j ⟨#[]⟩)) := fun U hU j hj => (hU.cell (p := ⟨E, j, none⟩) HE.out).trans (HC.out j hj)
        have hls : s.size ≤ 6 := hes
        generalize takeT (l ++ s.data.toList) = r at *
        go_upto_region 10 with fail
        go_cut [9, 10] from 32 to 68 (fun n e wx => n = .int .i64 (r.n : Int) ∧ e = .int .i64 r.e ∧ Below wr.heap.size wr wx)
        case first =>
          refine start_ (n := 17) (S := fun w' => (w'.cell? ⟨E, i, none⟩ = some (.string s)) ∧ (Below wr.heap.size wr w')) (ds := [14]) #[false, false, false, false, false, false, false, false, false, false, false, false, false, false, false, false, false] (by kernel_rfl) rfl rfl ⟨hrE _ (Below.refl _ wr).drew, (Below.refl _ wr).drew⟩ (fun hHeld => ?_)
          refine pure_ (i := 1) (N := some 40) (v := ?_) (a' := ?_) #[false, true, false, false, false, false, false, false, false, false, false, false, false, false, false, false, false] rfl rfl (by kernel_rfl) (fun _ _ _ h => h) (Or.inl ⟨by rfl, ?_⟩) ?_ ?_
          rotate_left
          · intro w'
            go_simp
            with_reducible rfl
          rotate_left
          · simp only [Act.put, List.setIfInBounds_toArray, List.set_cons_zero, List.set_cons_succ, i64_w, i32_w]
            rfl
          refine pure_ (i := 3) (N := some 42) (v := ?_) (a' := ?_) #[false, true, false, true, false, false, false, false, false, false, false, false, false, false, false, false, false] rfl rfl (by kernel_rfl) (fun _ _ _ h => h) (Or.inl ⟨by rfl, ?_⟩) ?_ ?_
          rotate_left
          · intro w'
            go_simp
            with_reducible rfl
          rotate_left
          · simp only [Act.put, List.setIfInBounds_toArray, List.set_cons_zero, List.set_cons_succ, i64_w, i32_w]
            rfl
          refine pure_ (i := 4) (N := some 43) (v := ?_) (a' := ?_) #[false, true, false, true, true, false, false, false, false, false, false, false, false, false, false, false, false] rfl rfl (by kernel_rfl) (fun _ _ _ h => h) (Or.inl ⟨by rfl, ?_⟩) ?_ ?_
          rotate_left
          · intro w'
            go_simp
            with_reducible rfl
          rotate_left
          · simp only [Act.put, List.setIfInBounds_toArray, List.set_cons_zero, List.set_cons_succ, i64_w, i32_w]
            rfl
          refine pure_ (i := 5) (N := some 44) (v := ?_) (a' := ?_) #[false, true, false, true, true, true, false, false, false, false, false, false, false, false, false, false, false] rfl rfl (by kernel_rfl) (fun _ _ _ h => h) (Or.inl ⟨by rfl, ?_⟩) ?_ ?_
          rotate_left
          · intro w'
            go_simp
            with_reducible rfl
          rotate_left
          · simp only [Act.put, List.setIfInBounds_toArray, List.set_cons_zero, List.set_cons_succ, i64_w, i32_w]
            rfl
          refine take_ (i := 6) (N := some 45) (v := ?_) (a' := ?_) #[false, true, false, true, true, true, true, false, false, false, false, false, false, false, false, false, false] rfl rfl (by kernel_rfl) (fun _ _ _ h => h) (Or.inl ⟨by rfl, ?_⟩) hHeld ?_ ?_
          rotate_left
          · rintro w' ⟨s0, s1⟩
            go_simp
            with_reducible rfl
          rotate_left
          · simp only [Act.put, List.setIfInBounds_toArray, List.set_cons_zero, List.set_cons_succ, i64_w, i32_w]
            rfl
          refine two_ (i := 0) (j := 13) (Ni := some 39) (Nj := some 8) #[true, true, false, true, true, true, true, false, false, false, false, false, false, false, false, false, false] #[false, true, false, true, true, true, true, false, false, false, false, false, false, true, false, false, false] rfl rfl rfl rfl (by kernel_rfl) (by decide) (by decide) (fun K hK => ?_) (fun K hK => ?_)
          · skip
            refine value_ (w1 := ?_) (v := ?_) (by rfl) rfl ?_ ?_
            rotate_left 2
            · go_simp
              constructor
              · rfl
              · rfl
            have hB0 := blkNewOf hHeld.2 (.cells #[] 5)
            have bN := hHeld.2.alloc hHeld.2.size (.cells #[] 5)
            try have hH := blk_alloc hH (.cells #[] 5)
            try simp only [alloc_sz, drew_sz] at hB0
            refine hK.out _ _ ⟨hrE _ bN, bN⟩ (fun hHeld => ?_)
            clear hK K
            refine norm_ (a' := ?_) ?_ ?_
            rotate_left
            · show Act.put _ (some 39) _ = _
              simp only [Act.put, List.setIfInBounds_toArray, List.set_cons_zero, List.set_cons_succ, i64_w, i32_w]
              rfl
            refine two_ (i := 2) (j := 13) (Ni := some 41) (Nj := some 8) #[true, true, true, true, true, true, true, false, false, false, false, false, false, false, false, false, false] #[true, true, false, true, true, true, true, false, false, false, false, false, false, true, false, false, false] rfl rfl rfl rfl (by kernel_rfl) (by decide) (by decide) (fun K hK => ?_) (fun K hK => ?_)
            · skip
              obtain ⟨A5, c5, w5, hrun5, own5, gr5⟩ := copy_u8 (c := c) wr.heap.size 26 hB0 (by omega) ((hr.below HB.out).below hHeld.2) (by omega)
              refine appR_ (by rfl) rfl _ _ _ _ rfl _ _ _ rfl rfl hrun5 ?_
              have bN := hHeld.2.grown gr5 hHeld.2.size (fun j hj => by cases hj; omega)
              try have hH := blk_grown hH gr5 (fun e => blk_ne hH hB0 (by decide) (Option.some.inj e))
              refine hK.out _ _ ⟨hrE _ bN, bN⟩ (fun hHeld => ?_)
              clear hK K
              refine norm_ (a' := ?_) ?_ ?_
              rotate_left
              · show Act.put _ (some 41) _ = _
                simp only [Act.put, List.setIfInBounds_toArray, List.set_cons_zero, List.set_cons_succ, i64_w, i32_w]
                rfl
              refine two_ (i := 7) (j := 13) (Ni := some 46) (Nj := some 8) #[true, true, true, true, true, true, true, true, false, false, false, false, false, false, false, false, false] #[true, true, true, true, true, true, true, false, false, false, false, false, false, true, false, false, false] rfl rfl rfl rfl (by kernel_rfl) (by decide) (by decide) (fun K hK => ?_) (fun K hK => ?_)
              · skip
                obtain ⟨A6, c6, w6, hrun6, own6, gr6⟩ := run_app_str wr.heap.size s 26 own5 (by omega) (by omega) hHeld.2.size
                rw [HEL.out] at hrun6
                refine appR_ (by rfl) rfl _ _ _ _ rfl _ _ _ rfl rfl hrun6 ?_
                have bN := hHeld.2.grown gr6 hHeld.2.size (fun j hj => (own5.lt j hj).1)
                rw [HEL.out] at own6
                obtain ⟨-, -, hr6⟩ := u8_new own6 (by rw [← HLL.out]; omega)
                rw [← HLL.out] at hr6
                clear own6
                try have hH := blk_grown hH gr6 (ne_own hH own5 (by decide))
                refine hK.out _ _ ⟨hrE _ bN, bN⟩ (fun hHeld => ?_)
                clear hK K
                refine norm_ (a' := ?_) ?_ ?_
                rotate_left
                · show Act.put _ (some 46) _ = _
                  simp only [Act.put, List.setIfInBounds_toArray, List.set_cons_zero, List.set_cons_succ, i64_w, i32_w]
                  rfl
                refine two_ (i := 8) (j := 13) (Ni := some 47) (Nj := some 8) #[true, true, true, true, true, true, true, true, true, false, false, false, false, false, false, false, false] #[true, true, true, true, true, true, true, true, false, false, false, false, false, true, false, false, false] rfl rfl rfl rfl (by kernel_rfl) (by decide) (by decide) (fun K hK => ?_) (fun K hK => ?_)
                · skip
                  refine goes_ Tryd.func20 (by kernel_rfl) rfl #[.slice A6 LL c6] (by rfl) rfl rfl (by simp only [List.map_toArray, List.map_cons, List.map_nil]; rfl) ?_
                  with_reducible refine (TK _ _ _ hr6).mono ?_
                  rintro e w7 ⟨vf7, rfl, ho7, b7⟩
                  obtain ⟨A7, q7, ev7, -⟩ := spr_slice ho7
                  subst ev7
                  clear ho7
                  have bN := below_then hHeld.2 hHeld.2.size b7
                  have b8 := bN
                  try have hH := blk_below hH b7
                  refine ⟨_, rfl, ?_⟩
                  refine hK.out _ _ ⟨hrE _ bN, bN⟩ (fun hHeld => ?_)
                  clear hK K
                  refine norm_ (a' := ?_) ?_ ?_
                  rotate_left
                  · show Act.put _ (some 47) _ = _
                    simp only [Act.put, List.setIfInBounds_toArray, List.set_cons_zero, List.set_cons_succ, i64_w, i32_w]
                    rfl
                  refine pure_ (i := 9) (N := some 38) (v := ?_) (a' := ?_) #[true, true, true, true, true, true, true, true, true, true, false, false, false, false, false, false, false] rfl rfl (by kernel_rfl) (fun _ _ _ h => h) (Or.inl ⟨by rfl, ?_⟩) ?_ ?_
                  rotate_left
                  · intro w'
                    go_simp
                    with_reducible rfl
                  rotate_left
                  · simp only [Act.put, List.setIfInBounds_toArray, List.set_cons_zero, List.set_cons_succ, i64_w, i32_w]
                    rfl
                  refine pure_ (i := 10) (N := some 48) (v := ?_) (a' := ?_) #[true, true, true, true, true, true, true, true, true, true, true, false, false, false, false, false, false] rfl rfl (by kernel_rfl) (fun _ _ _ h => h) (Or.inl ⟨by rfl, ?_⟩) ?_ ?_
                  rotate_left
                  · intro w'
                    go_simp
                    with_reducible rfl
                  rotate_left
                  · simp only [Act.put, List.setIfInBounds_toArray, List.set_cons_zero, List.set_cons_succ, i64_w, i32_w]
                    rfl
                  refine pure_ (i := 11) (N := some 49) (v := ?_) (a' := ?_) #[true, true, true, true, true, true, true, true, true, true, true, true, false, false, false, false, false] rfl rfl (by kernel_rfl) (fun _ _ _ h => h) (Or.inl ⟨by rfl, ?_⟩) ?_ ?_
                  rotate_left
                  · intro w'
                    go_simp
                    with_reducible rfl
                  rotate_left
                  · simp only [Act.put, List.setIfInBounds_toArray, List.set_cons_zero, List.set_cons_succ, i64_w, i32_w]
                    rfl
                  refine pure_ (i := 12) (N := some 50) (v := ?_) (a' := ?_) #[true, true, true, true, true, true, true, true, true, true, true, true, true, false, false, false, false] rfl rfl (by kernel_rfl) (fun _ _ _ h => h) (Or.inl ⟨by rfl, ?_⟩) ?_ ?_
                  rotate_left
                  · intro w'
                    go_simp
                    with_reducible rfl
                  rotate_left
                  · simp only [Act.put, List.setIfInBounds_toArray, List.set_cons_zero, List.set_cons_succ, i64_w, i32_w]
                    rfl
                  refine one_ (i := 13) (N := some 8) #[true, true, true, true, true, true, true, true, true, true, true, true, true, true, false, false, false] rfl rfl (by kernel_rfl) (by decide) (fun K hK => ?_)
                  refine value_ (w1 := ?_) (v := ?_) (by rfl) rfl ?_ ?_
                  rotate_left 2
                  · go_simp
                    constructor
                    · rfl
                    · rfl
                  have hH := blkNewOf hHeld.2 (.cells #[.string ⟨#[]⟩, .slice none 0 0] 24)
                  have hHle := hHeld.2.size
                  have bN := hHeld.2.alloc hHeld.2.size (.cells #[.string ⟨#[]⟩, .slice none 0 0] 24)
                  try have hB0 := blk_alloc hB0 (.cells #[.string ⟨#[]⟩, .slice none 0 0] 24)
                  try have own5 := own_alloc own5 (.cells #[.string ⟨#[]⟩, .slice none 0 0] 24)
                  try have hr6 := hr6.allocS (.cells #[.string ⟨#[]⟩, .slice none 0 0] 24)
                  try simp only [alloc_sz, drew_sz] at hH
                  try simp only [alloc_sz, drew_sz] at hHle
                  refine hK.out _ _ ⟨hrE _ bN, bN⟩ (fun hHeld => ?_)
                  clear hK K
                  refine norm_ (a' := ?_) ?_ ?_
                  rotate_left
                  · show Act.put _ (some 8) _ = _
                    simp only [Act.put, List.setIfInBounds_toArray, List.set_cons_zero, List.set_cons_succ, i64_w, i32_w]
                    rfl
                  refine last_ (i := 14) (N := none) #[true, true, true, true, true, true, true, true, true, true, true, true, true, true, true, false, false] rfl rfl (by kernel_rfl) (by decide) (fun K hK => ?_)
                  have k0 := (blk_cell hH 0).trans rfl
                  have k1 := (blk_cell hH 1).trans rfl
                  have k2 := blk_frozen hH 0
                  have k3 := blk_frozen hH 1
                  refine skip_ (w1 := ?_) (by rfl) rfl ?_ ?_
                  rotate_left
                  · go_simp
                    rfl
                  refine hK.out _ _ ?_
                  clear hK K
                  refine pure_ (i := 15) (N := some 9) (v := ?_) (a' := ?_) #[true, true, true, true, true, true, true, true, true, true, true, true, true, true, true, true, false] rfl rfl (by kernel_rfl) (fun _ _ _ h => h) (Or.inl ⟨by rfl, ?_⟩) ?_ ?_
                  rotate_left
                  · intro w'
                    go_simp
                    with_reducible rfl
                  rotate_left
                  · simp only [Act.put, List.setIfInBounds_toArray, List.set_cons_zero, List.set_cons_succ, i64_w, i32_w]
                    rfl
                  refine pure_ (i := 16) (N := some 10) (v := ?_) (a' := ?_) #[true, true, true, true, true, true, true, true, true, true, true, true, true, true, true, true, true] rfl rfl (by kernel_rfl) (fun _ _ _ h => h) (Or.inl ⟨by rfl, ?_⟩) ?_ ?_
                  rotate_left
                  · intro w'
                    go_simp
                    with_reducible rfl
                  rotate_left
                  · simp only [Act.put, List.setIfInBounds_toArray, List.set_cons_zero, List.set_cons_succ, i64_w, i32_w]
                    rfl
                  refine done_ (by kernel_rfl) ?_
                  go_wp2_with fail
                  go_meet
                  refine ⟨rfl, rfl, ?_⟩
                  first | exact b8.alloc b8.size _ | exact (b8.setCell hHle _).setCell hHle _ | exact (hHeld.2.setCell hHle _).setCell hHle _
                · skip
                  refine value_ (w1 := ?_) (v := ?_) (by rfl) rfl ?_ ?_
                  rotate_left 2
                  · go_simp
                    constructor
                    · rfl
                    · rfl
                  have hH := blkNewOf hHeld.2 (.cells #[.string ⟨#[]⟩, .slice none 0 0] 24)
                  have hHle := hHeld.2.size
                  have bN := hHeld.2.alloc hHeld.2.size (.cells #[.string ⟨#[]⟩, .slice none 0 0] 24)
                  try have hB0 := blk_alloc hB0 (.cells #[.string ⟨#[]⟩, .slice none 0 0] 24)
                  try have own5 := own_alloc own5 (.cells #[.string ⟨#[]⟩, .slice none 0 0] 24)
                  try have hr6 := hr6.allocS (.cells #[.string ⟨#[]⟩, .slice none 0 0] 24)
                  try simp only [alloc_sz, drew_sz] at hH
                  try simp only [alloc_sz, drew_sz] at hHle
                  refine hK.out _ _ ⟨hrE _ bN, bN⟩ (fun hHeld => ?_)
                  clear hK K
                  refine norm_ (a' := ?_) ?_ ?_
                  rotate_left
                  · show Act.put _ (some 8) _ = _
                    simp only [Act.put, List.setIfInBounds_toArray, List.set_cons_zero, List.set_cons_succ, i64_w, i32_w]
                    rfl
                  refine one_ (i := 8) (N := some 47) #[true, true, true, true, true, true, true, true, true, false, false, false, false, true, false, false, false] rfl rfl (by kernel_rfl) (by decide) (fun K hK => ?_)
                  refine goes_ Tryd.func20 (by kernel_rfl) rfl #[.slice A6 LL c6] (by rfl) rfl rfl (by simp only [List.map_toArray, List.map_cons, List.map_nil]; rfl) ?_
                  with_reducible refine (TK _ _ _ hr6).mono ?_
                  rintro e w7 ⟨vf7, rfl, ho7, b7⟩
                  obtain ⟨A7, q7, ev7, -⟩ := spr_slice ho7
                  subst ev7
                  clear ho7
                  have bN := below_then hHeld.2 hHeld.2.size b7
                  have b8 := bN
                  try have hH := blk_below hH b7
                  refine ⟨_, rfl, ?_⟩
                  refine hK.out _ _ ⟨hrE _ bN, bN⟩ (fun hHeld => ?_)
                  clear hK K
                  refine norm_ (a' := ?_) ?_ ?_
                  rotate_left
                  · show Act.put _ (some 47) _ = _
                    simp only [Act.put, List.setIfInBounds_toArray, List.set_cons_zero, List.set_cons_succ, i64_w, i32_w]
                    rfl
                  refine pure_ (i := 9) (N := some 38) (v := ?_) (a' := ?_) #[true, true, true, true, true, true, true, true, true, true, false, false, false, true, false, false, false] rfl rfl (by kernel_rfl) (fun _ _ _ h => h) (Or.inl ⟨by rfl, ?_⟩) ?_ ?_
                  rotate_left
                  · intro w'
                    go_simp
                    with_reducible rfl
                  rotate_left
                  · simp only [Act.put, List.setIfInBounds_toArray, List.set_cons_zero, List.set_cons_succ, i64_w, i32_w]
                    rfl
                  refine pure_ (i := 10) (N := some 48) (v := ?_) (a' := ?_) #[true, true, true, true, true, true, true, true, true, true, true, false, false, true, false, false, false] rfl rfl (by kernel_rfl) (fun _ _ _ h => h) (Or.inl ⟨by rfl, ?_⟩) ?_ ?_
                  rotate_left
                  · intro w'
                    go_simp
                    with_reducible rfl
                  rotate_left
                  · simp only [Act.put, List.setIfInBounds_toArray, List.set_cons_zero, List.set_cons_succ, i64_w, i32_w]
                    rfl
                  refine pure_ (i := 11) (N := some 49) (v := ?_) (a' := ?_) #[true, true, true, true, true, true, true, true, true, true, true, true, false, true, false, false, false] rfl rfl (by kernel_rfl) (fun _ _ _ h => h) (Or.inl ⟨by rfl, ?_⟩) ?_ ?_
                  rotate_left
                  · intro w'
                    go_simp
                    with_reducible rfl
                  rotate_left
                  · simp only [Act.put, List.setIfInBounds_toArray, List.set_cons_zero, List.set_cons_succ, i64_w, i32_w]
                    rfl
                  refine pure_ (i := 12) (N := some 50) (v := ?_) (a' := ?_) #[true, true, true, true, true, true, true, true, true, true, true, true, true, true, false, false, false] rfl rfl (by kernel_rfl) (fun _ _ _ h => h) (Or.inl ⟨by rfl, ?_⟩) ?_ ?_
                  rotate_left
                  · intro w'
                    go_simp
                    with_reducible rfl
                  rotate_left
                  · simp only [Act.put, List.setIfInBounds_toArray, List.set_cons_zero, List.set_cons_succ, i64_w, i32_w]
                    rfl
                  refine last_ (i := 14) (N := none) #[true, true, true, true, true, true, true, true, true, true, true, true, true, true, true, false, false] rfl rfl (by kernel_rfl) (by decide) (fun K hK => ?_)
                  have k0 := (blk_cell hH 0).trans rfl
                  have k1 := (blk_cell hH 1).trans rfl
                  have k2 := blk_frozen hH 0
                  have k3 := blk_frozen hH 1
                  refine skip_ (w1 := ?_) (by rfl) rfl ?_ ?_
                  rotate_left
                  · go_simp
                    rfl
                  refine hK.out _ _ ?_
                  clear hK K
                  refine pure_ (i := 15) (N := some 9) (v := ?_) (a' := ?_) #[true, true, true, true, true, true, true, true, true, true, true, true, true, true, true, true, false] rfl rfl (by kernel_rfl) (fun _ _ _ h => h) (Or.inl ⟨by rfl, ?_⟩) ?_ ?_
                  rotate_left
                  · intro w'
                    go_simp
                    with_reducible rfl
                  rotate_left
                  · simp only [Act.put, List.setIfInBounds_toArray, List.set_cons_zero, List.set_cons_succ, i64_w, i32_w]
                    rfl
                  refine pure_ (i := 16) (N := some 10) (v := ?_) (a' := ?_) #[true, true, true, true, true, true, true, true, true, true, true, true, true, true, true, true, true] rfl rfl (by kernel_rfl) (fun _ _ _ h => h) (Or.inl ⟨by rfl, ?_⟩) ?_ ?_
                  rotate_left
                  · intro w'
                    go_simp
                    with_reducible rfl
                  rotate_left
                  · simp only [Act.put, List.setIfInBounds_toArray, List.set_cons_zero, List.set_cons_succ, i64_w, i32_w]
                    rfl
                  refine done_ (by kernel_rfl) ?_
                  go_wp2_with fail
                  go_meet
                  refine ⟨rfl, rfl, ?_⟩
                  first | exact b8.alloc b8.size _ | exact (b8.setCell hHle _).setCell hHle _ | exact (hHeld.2.setCell hHle _).setCell hHle _
              · skip
                refine value_ (w1 := ?_) (v := ?_) (by rfl) rfl ?_ ?_
                rotate_left 2
                · go_simp
                  constructor
                  · rfl
                  · rfl
                have hH := blkNewOf hHeld.2 (.cells #[.string ⟨#[]⟩, .slice none 0 0] 24)
                have hHle := hHeld.2.size
                have bN := hHeld.2.alloc hHeld.2.size (.cells #[.string ⟨#[]⟩, .slice none 0 0] 24)
                try have hB0 := blk_alloc hB0 (.cells #[.string ⟨#[]⟩, .slice none 0 0] 24)
                try have own5 := own_alloc own5 (.cells #[.string ⟨#[]⟩, .slice none 0 0] 24)
                try have hr6 := hr6.allocS (.cells #[.string ⟨#[]⟩, .slice none 0 0] 24)
                try simp only [alloc_sz, drew_sz] at hH
                try simp only [alloc_sz, drew_sz] at hHle
                refine hK.out _ _ ⟨hrE _ bN, bN⟩ (fun hHeld => ?_)
                clear hK K
                refine norm_ (a' := ?_) ?_ ?_
                rotate_left
                · show Act.put _ (some 8) _ = _
                  simp only [Act.put, List.setIfInBounds_toArray, List.set_cons_zero, List.set_cons_succ, i64_w, i32_w]
                  rfl
                refine one_ (i := 7) (N := some 46) #[true, true, true, true, true, true, true, true, false, false, false, false, false, true, false, false, false] rfl rfl (by kernel_rfl) (by decide) (fun K hK => ?_)
                obtain ⟨A6, c6, w6, hrun6, own6, gr6⟩ := run_app_str wr.heap.size s 26 own5 (by omega) (by omega) hHeld.2.size
                rw [HEL.out] at hrun6
                refine appR_ (by rfl) rfl _ _ _ _ rfl _ _ _ rfl rfl hrun6 ?_
                have bN := hHeld.2.grown gr6 hHeld.2.size (fun j hj => (own5.lt j hj).1)
                rw [HEL.out] at own6
                obtain ⟨-, -, hr6⟩ := u8_new own6 (by rw [← HLL.out]; omega)
                rw [← HLL.out] at hr6
                clear own6
                try have hH := blk_grown hH gr6 (ne_own hH own5 (by decide))
                refine hK.out _ _ ⟨hrE _ bN, bN⟩ (fun hHeld => ?_)
                clear hK K
                refine norm_ (a' := ?_) ?_ ?_
                rotate_left
                · show Act.put _ (some 46) _ = _
                  simp only [Act.put, List.setIfInBounds_toArray, List.set_cons_zero, List.set_cons_succ, i64_w, i32_w]
                  rfl
                refine one_ (i := 8) (N := some 47) #[true, true, true, true, true, true, true, true, true, false, false, false, false, true, false, false, false] rfl rfl (by kernel_rfl) (by decide) (fun K hK => ?_)
                refine goes_ Tryd.func20 (by kernel_rfl) rfl #[.slice A6 LL c6] (by rfl) rfl rfl (by simp only [List.map_toArray, List.map_cons, List.map_nil]; rfl) ?_
                with_reducible refine (TK _ _ _ hr6).mono ?_
                rintro e w7 ⟨vf7, rfl, ho7, b7⟩
                obtain ⟨A7, q7, ev7, -⟩ := spr_slice ho7
                subst ev7
                clear ho7
                have bN := below_then hHeld.2 hHeld.2.size b7
                have b8 := bN
                try have hH := blk_below hH b7
                refine ⟨_, rfl, ?_⟩
                refine hK.out _ _ ⟨hrE _ bN, bN⟩ (fun hHeld => ?_)
                clear hK K
                refine norm_ (a' := ?_) ?_ ?_
                rotate_left
                · show Act.put _ (some 47) _ = _
                  simp only [Act.put, List.setIfInBounds_toArray, List.set_cons_zero, List.set_cons_succ, i64_w, i32_w]
                  rfl
                refine pure_ (i := 9) (N := some 38) (v := ?_) (a' := ?_) #[true, true, true, true, true, true, true, true, true, true, false, false, false, true, false, false, false] rfl rfl (by kernel_rfl) (fun _ _ _ h => h) (Or.inl ⟨by rfl, ?_⟩) ?_ ?_
                rotate_left
                · intro w'
                  go_simp
                  with_reducible rfl
                rotate_left
                · simp only [Act.put, List.setIfInBounds_toArray, List.set_cons_zero, List.set_cons_succ, i64_w, i32_w]
                  rfl
                refine pure_ (i := 10) (N := some 48) (v := ?_) (a' := ?_) #[true, true, true, true, true, true, true, true, true, true, true, false, false, true, false, false, false] rfl rfl (by kernel_rfl) (fun _ _ _ h => h) (Or.inl ⟨by rfl, ?_⟩) ?_ ?_
                rotate_left
                · intro w'
                  go_simp
                  with_reducible rfl
                rotate_left
                · simp only [Act.put, List.setIfInBounds_toArray, List.set_cons_zero, List.set_cons_succ, i64_w, i32_w]
                  rfl
                refine pure_ (i := 11) (N := some 49) (v := ?_) (a' := ?_) #[true, true, true, true, true, true, true, true, true, true, true, true, false, true, false, false, false] rfl rfl (by kernel_rfl) (fun _ _ _ h => h) (Or.inl ⟨by rfl, ?_⟩) ?_ ?_
                rotate_left
                · intro w'
                  go_simp
                  with_reducible rfl
                rotate_left
                · simp only [Act.put, List.setIfInBounds_toArray, List.set_cons_zero, List.set_cons_succ, i64_w, i32_w]
                  rfl
                refine pure_ (i := 12) (N := some 50) (v := ?_) (a' := ?_) #[true, true, true, true, true, true, true, true, true, true, true, true, true, true, false, false, false] rfl rfl (by kernel_rfl) (fun _ _ _ h => h) (Or.inl ⟨by rfl, ?_⟩) ?_ ?_
                rotate_left
                · intro w'
                  go_simp
                  with_reducible rfl
                rotate_left
                · simp only [Act.put, List.setIfInBounds_toArray, List.set_cons_zero, List.set_cons_succ, i64_w, i32_w]
                  rfl
                refine last_ (i := 14) (N := none) #[true, true, true, true, true, true, true, true, true, true, true, true, true, true, true, false, false] rfl rfl (by kernel_rfl) (by decide) (fun K hK => ?_)
                have k0 := (blk_cell hH 0).trans rfl
                have k1 := (blk_cell hH 1).trans rfl
                have k2 := blk_frozen hH 0
                have k3 := blk_frozen hH 1
                refine skip_ (w1 := ?_) (by rfl) rfl ?_ ?_
                rotate_left
                · go_simp
                  rfl
                refine hK.out _ _ ?_
                clear hK K
                refine pure_ (i := 15) (N := some 9) (v := ?_) (a' := ?_) #[true, true, true, true, true, true, true, true, true, true, true, true, true, true, true, true, false] rfl rfl (by kernel_rfl) (fun _ _ _ h => h) (Or.inl ⟨by rfl, ?_⟩) ?_ ?_
                rotate_left
                · intro w'
                  go_simp
                  with_reducible rfl
                rotate_left
                · simp only [Act.put, List.setIfInBounds_toArray, List.set_cons_zero, List.set_cons_succ, i64_w, i32_w]
                  rfl
                refine pure_ (i := 16) (N := some 10) (v := ?_) (a' := ?_) #[true, true, true, true, true, true, true, true, true, true, true, true, true, true, true, true, true] rfl rfl (by kernel_rfl) (fun _ _ _ h => h) (Or.inl ⟨by rfl, ?_⟩) ?_ ?_
                rotate_left
                · intro w'
                  go_simp
                  with_reducible rfl
                rotate_left
                · simp only [Act.put, List.setIfInBounds_toArray, List.set_cons_zero, List.set_cons_succ, i64_w, i32_w]
                  rfl
                refine done_ (by kernel_rfl) ?_
                go_wp2_with fail
                go_meet
                refine ⟨rfl, rfl, ?_⟩
                first | exact b8.alloc b8.size _ | exact (b8.setCell hHle _).setCell hHle _ | exact (hHeld.2.setCell hHle _).setCell hHle _
            · skip
              refine value_ (w1 := ?_) (v := ?_) (by rfl) rfl ?_ ?_
              rotate_left 2
              · go_simp
                constructor
                · rfl
                · rfl
              have hH := blkNewOf hHeld.2 (.cells #[.string ⟨#[]⟩, .slice none 0 0] 24)
              have hHle := hHeld.2.size
              have bN := hHeld.2.alloc hHeld.2.size (.cells #[.string ⟨#[]⟩, .slice none 0 0] 24)
              try have hB0 := blk_alloc hB0 (.cells #[.string ⟨#[]⟩, .slice none 0 0] 24)
              try have own5 := own_alloc own5 (.cells #[.string ⟨#[]⟩, .slice none 0 0] 24)
              try have hr6 := hr6.allocS (.cells #[.string ⟨#[]⟩, .slice none 0 0] 24)
              try simp only [alloc_sz, drew_sz] at hH
              try simp only [alloc_sz, drew_sz] at hHle
              refine hK.out _ _ ⟨hrE _ bN, bN⟩ (fun hHeld => ?_)
              clear hK K
              refine norm_ (a' := ?_) ?_ ?_
              rotate_left
              · show Act.put _ (some 8) _ = _
                simp only [Act.put, List.setIfInBounds_toArray, List.set_cons_zero, List.set_cons_succ, i64_w, i32_w]
                rfl
              refine one_ (i := 2) (N := some 41) #[true, true, true, true, true, true, true, false, false, false, false, false, false, true, false, false, false] rfl rfl (by kernel_rfl) (by decide) (fun K hK => ?_)
              obtain ⟨A5, c5, w5, hrun5, own5, gr5⟩ := copy_u8 (c := c) wr.heap.size 26 hB0 (by omega) ((hr.below HB.out).below hHeld.2) (by omega)
              refine appR_ (by rfl) rfl _ _ _ _ rfl _ _ _ rfl rfl hrun5 ?_
              have bN := hHeld.2.grown gr5 hHeld.2.size (fun j hj => by cases hj; omega)
              try have hH := blk_grown hH gr5 (fun e => blk_ne hH hB0 (by decide) (Option.some.inj e))
              refine hK.out _ _ ⟨hrE _ bN, bN⟩ (fun hHeld => ?_)
              clear hK K
              refine norm_ (a' := ?_) ?_ ?_
              rotate_left
              · show Act.put _ (some 41) _ = _
                simp only [Act.put, List.setIfInBounds_toArray, List.set_cons_zero, List.set_cons_succ, i64_w, i32_w]
                rfl
              refine one_ (i := 7) (N := some 46) #[true, true, true, true, true, true, true, true, false, false, false, false, false, true, false, false, false] rfl rfl (by kernel_rfl) (by decide) (fun K hK => ?_)
              obtain ⟨A6, c6, w6, hrun6, own6, gr6⟩ := run_app_str wr.heap.size s 26 own5 (by omega) (by omega) hHeld.2.size
              rw [HEL.out] at hrun6
              refine appR_ (by rfl) rfl _ _ _ _ rfl _ _ _ rfl rfl hrun6 ?_
              have bN := hHeld.2.grown gr6 hHeld.2.size (fun j hj => (own5.lt j hj).1)
              rw [HEL.out] at own6
              obtain ⟨-, -, hr6⟩ := u8_new own6 (by rw [← HLL.out]; omega)
              rw [← HLL.out] at hr6
              clear own6
              try have hH := blk_grown hH gr6 (ne_own hH own5 (by decide))
              refine hK.out _ _ ⟨hrE _ bN, bN⟩ (fun hHeld => ?_)
              clear hK K
              refine norm_ (a' := ?_) ?_ ?_
              rotate_left
              · show Act.put _ (some 46) _ = _
                simp only [Act.put, List.setIfInBounds_toArray, List.set_cons_zero, List.set_cons_succ, i64_w, i32_w]
                rfl
              refine one_ (i := 8) (N := some 47) #[true, true, true, true, true, true, true, true, true, false, false, false, false, true, false, false, false] rfl rfl (by kernel_rfl) (by decide) (fun K hK => ?_)
              refine goes_ Tryd.func20 (by kernel_rfl) rfl #[.slice A6 LL c6] (by rfl) rfl rfl (by simp only [List.map_toArray, List.map_cons, List.map_nil]; rfl) ?_
              with_reducible refine (TK _ _ _ hr6).mono ?_
              rintro e w7 ⟨vf7, rfl, ho7, b7⟩
              obtain ⟨A7, q7, ev7, -⟩ := spr_slice ho7
              subst ev7
              clear ho7
              have bN := below_then hHeld.2 hHeld.2.size b7
              have b8 := bN
              try have hH := blk_below hH b7
              refine ⟨_, rfl, ?_⟩
              refine hK.out _ _ ⟨hrE _ bN, bN⟩ (fun hHeld => ?_)
              clear hK K
              refine norm_ (a' := ?_) ?_ ?_
              rotate_left
              · show Act.put _ (some 47) _ = _
                simp only [Act.put, List.setIfInBounds_toArray, List.set_cons_zero, List.set_cons_succ, i64_w, i32_w]
                rfl
              refine pure_ (i := 9) (N := some 38) (v := ?_) (a' := ?_) #[true, true, true, true, true, true, true, true, true, true, false, false, false, true, false, false, false] rfl rfl (by kernel_rfl) (fun _ _ _ h => h) (Or.inl ⟨by rfl, ?_⟩) ?_ ?_
              rotate_left
              · intro w'
                go_simp
                with_reducible rfl
              rotate_left
              · simp only [Act.put, List.setIfInBounds_toArray, List.set_cons_zero, List.set_cons_succ, i64_w, i32_w]
                rfl
              refine pure_ (i := 10) (N := some 48) (v := ?_) (a' := ?_) #[true, true, true, true, true, true, true, true, true, true, true, false, false, true, false, false, false] rfl rfl (by kernel_rfl) (fun _ _ _ h => h) (Or.inl ⟨by rfl, ?_⟩) ?_ ?_
              rotate_left
              · intro w'
                go_simp
                with_reducible rfl
              rotate_left
              · simp only [Act.put, List.setIfInBounds_toArray, List.set_cons_zero, List.set_cons_succ, i64_w, i32_w]
                rfl
              refine pure_ (i := 11) (N := some 49) (v := ?_) (a' := ?_) #[true, true, true, true, true, true, true, true, true, true, true, true, false, true, false, false, false] rfl rfl (by kernel_rfl) (fun _ _ _ h => h) (Or.inl ⟨by rfl, ?_⟩) ?_ ?_
              rotate_left
              · intro w'
                go_simp
                with_reducible rfl
              rotate_left
              · simp only [Act.put, List.setIfInBounds_toArray, List.set_cons_zero, List.set_cons_succ, i64_w, i32_w]
                rfl
              refine pure_ (i := 12) (N := some 50) (v := ?_) (a' := ?_) #[true, true, true, true, true, true, true, true, true, true, true, true, true, true, false, false, false] rfl rfl (by kernel_rfl) (fun _ _ _ h => h) (Or.inl ⟨by rfl, ?_⟩) ?_ ?_
              rotate_left
              · intro w'
                go_simp
                with_reducible rfl
              rotate_left
              · simp only [Act.put, List.setIfInBounds_toArray, List.set_cons_zero, List.set_cons_succ, i64_w, i32_w]
                rfl
              refine last_ (i := 14) (N := none) #[true, true, true, true, true, true, true, true, true, true, true, true, true, true, true, false, false] rfl rfl (by kernel_rfl) (by decide) (fun K hK => ?_)
              have k0 := (blk_cell hH 0).trans rfl
              have k1 := (blk_cell hH 1).trans rfl
              have k2 := blk_frozen hH 0
              have k3 := blk_frozen hH 1
              refine skip_ (w1 := ?_) (by rfl) rfl ?_ ?_
              rotate_left
              · go_simp
                rfl
              refine hK.out _ _ ?_
              clear hK K
              refine pure_ (i := 15) (N := some 9) (v := ?_) (a' := ?_) #[true, true, true, true, true, true, true, true, true, true, true, true, true, true, true, true, false] rfl rfl (by kernel_rfl) (fun _ _ _ h => h) (Or.inl ⟨by rfl, ?_⟩) ?_ ?_
              rotate_left
              · intro w'
                go_simp
                with_reducible rfl
              rotate_left
              · simp only [Act.put, List.setIfInBounds_toArray, List.set_cons_zero, List.set_cons_succ, i64_w, i32_w]
                rfl
              refine pure_ (i := 16) (N := some 10) (v := ?_) (a' := ?_) #[true, true, true, true, true, true, true, true, true, true, true, true, true, true, true, true, true] rfl rfl (by kernel_rfl) (fun _ _ _ h => h) (Or.inl ⟨by rfl, ?_⟩) ?_ ?_
              rotate_left
              · intro w'
                go_simp
                with_reducible rfl
              rotate_left
              · simp only [Act.put, List.setIfInBounds_toArray, List.set_cons_zero, List.set_cons_succ, i64_w, i32_w]
                rfl
              refine done_ (by kernel_rfl) ?_
              go_wp2_with fail
              go_meet
              refine ⟨rfl, rfl, ?_⟩
              first | exact b8.alloc b8.size _ | exact (b8.setCell hHle _).setCell hHle _ | exact (hHeld.2.setCell hHle _).setCell hHle _
          · skip
            refine value_ (w1 := ?_) (v := ?_) (by rfl) rfl ?_ ?_
            rotate_left 2
            · go_simp
              constructor
              · rfl
              · rfl
            have hH := blkNewOf hHeld.2 (.cells #[.string ⟨#[]⟩, .slice none 0 0] 24)
            have hHle := hHeld.2.size
            have bN := hHeld.2.alloc hHeld.2.size (.cells #[.string ⟨#[]⟩, .slice none 0 0] 24)
            try have hB0 := blk_alloc hB0 (.cells #[.string ⟨#[]⟩, .slice none 0 0] 24)
            try have own5 := own_alloc own5 (.cells #[.string ⟨#[]⟩, .slice none 0 0] 24)
            try have hr6 := hr6.allocS (.cells #[.string ⟨#[]⟩, .slice none 0 0] 24)
            try simp only [alloc_sz, drew_sz] at hH
            try simp only [alloc_sz, drew_sz] at hHle
            refine hK.out _ _ ⟨hrE _ bN, bN⟩ (fun hHeld => ?_)
            clear hK K
            refine norm_ (a' := ?_) ?_ ?_
            rotate_left
            · show Act.put _ (some 8) _ = _
              simp only [Act.put, List.setIfInBounds_toArray, List.set_cons_zero, List.set_cons_succ, i64_w, i32_w]
              rfl
            refine one_ (i := 0) (N := some 39) #[true, true, false, true, true, true, true, false, false, false, false, false, false, true, false, false, false] rfl rfl (by kernel_rfl) (by decide) (fun K hK => ?_)
            refine value_ (w1 := ?_) (v := ?_) (by rfl) rfl ?_ ?_
            rotate_left 2
            · go_simp
              constructor
              · rfl
              · rfl
            have hB0 := blkNewOf hHeld.2 (.cells #[] 5)
            have bN := hHeld.2.alloc hHeld.2.size (.cells #[] 5)
            try have hH := blk_alloc hH (.cells #[] 5)
            try simp only [alloc_sz, drew_sz] at hB0
            refine hK.out _ _ ⟨hrE _ bN, bN⟩ (fun hHeld => ?_)
            clear hK K
            refine norm_ (a' := ?_) ?_ ?_
            rotate_left
            · show Act.put _ (some 39) _ = _
              simp only [Act.put, List.setIfInBounds_toArray, List.set_cons_zero, List.set_cons_succ, i64_w, i32_w]
              rfl
            refine one_ (i := 2) (N := some 41) #[true, true, true, true, true, true, true, false, false, false, false, false, false, true, false, false, false] rfl rfl (by kernel_rfl) (by decide) (fun K hK => ?_)
            obtain ⟨A5, c5, w5, hrun5, own5, gr5⟩ := copy_u8 (c := c) wr.heap.size 26 hB0 (by omega) ((hr.below HB.out).below hHeld.2) (by omega)
            refine appR_ (by rfl) rfl _ _ _ _ rfl _ _ _ rfl rfl hrun5 ?_
            have bN := hHeld.2.grown gr5 hHeld.2.size (fun j hj => by cases hj; omega)
            try have hH := blk_grown hH gr5 (fun e => blk_ne hH hB0 (by decide) (Option.some.inj e))
            refine hK.out _ _ ⟨hrE _ bN, bN⟩ (fun hHeld => ?_)
            clear hK K
            refine norm_ (a' := ?_) ?_ ?_
            rotate_left
            · show Act.put _ (some 41) _ = _
              simp only [Act.put, List.setIfInBounds_toArray, List.set_cons_zero, List.set_cons_succ, i64_w, i32_w]
              rfl
            refine one_ (i := 7) (N := some 46) #[true, true, true, true, true, true, true, true, false, false, false, false, false, true, false, false, false] rfl rfl (by kernel_rfl) (by decide) (fun K hK => ?_)
            obtain ⟨A6, c6, w6, hrun6, own6, gr6⟩ := run_app_str wr.heap.size s 26 own5 (by omega) (by omega) hHeld.2.size
            rw [HEL.out] at hrun6
            refine appR_ (by rfl) rfl _ _ _ _ rfl _ _ _ rfl rfl hrun6 ?_
            have bN := hHeld.2.grown gr6 hHeld.2.size (fun j hj => (own5.lt j hj).1)
            rw [HEL.out] at own6
            obtain ⟨-, -, hr6⟩ := u8_new own6 (by rw [← HLL.out]; omega)
            rw [← HLL.out] at hr6
            clear own6
            try have hH := blk_grown hH gr6 (ne_own hH own5 (by decide))
            refine hK.out _ _ ⟨hrE _ bN, bN⟩ (fun hHeld => ?_)
            clear hK K
            refine norm_ (a' := ?_) ?_ ?_
            rotate_left
            · show Act.put _ (some 46) _ = _
              simp only [Act.put, List.setIfInBounds_toArray, List.set_cons_zero, List.set_cons_succ, i64_w, i32_w]
              rfl
            refine one_ (i := 8) (N := some 47) #[true, true, true, true, true, true, true, true, true, false, false, false, false, true, false, false, false] rfl rfl (by kernel_rfl) (by decide) (fun K hK => ?_)
            refine goes_ Tryd.func20 (by kernel_rfl) rfl #[.slice A6 LL c6] (by rfl) rfl rfl (by simp only [List.map_toArray, List.map_cons, List.map_nil]; rfl) ?_
            with_reducible refine (TK _ _ _ hr6).mono ?_
            rintro e w7 ⟨vf7, rfl, ho7, b7⟩
            obtain ⟨A7, q7, ev7, -⟩ := spr_slice ho7
            subst ev7
            clear ho7
            have bN := below_then hHeld.2 hHeld.2.size b7
            have b8 := bN
            try have hH := blk_below hH b7
            refine ⟨_, rfl, ?_⟩
            refine hK.out _ _ ⟨hrE _ bN, bN⟩ (fun hHeld => ?_)
            clear hK K
            refine norm_ (a' := ?_) ?_ ?_
            rotate_left
            · show Act.put _ (some 47) _ = _
              simp only [Act.put, List.setIfInBounds_toArray, List.set_cons_zero, List.set_cons_succ, i64_w, i32_w]
              rfl
            refine pure_ (i := 9) (N := some 38) (v := ?_) (a' := ?_) #[true, true, true, true, true, true, true, true, true, true, false, false, false, true, false, false, false] rfl rfl (by kernel_rfl) (fun _ _ _ h => h) (Or.inl ⟨by rfl, ?_⟩) ?_ ?_
            rotate_left
            · intro w'
              go_simp
              with_reducible rfl
            rotate_left
            · simp only [Act.put, List.setIfInBounds_toArray, List.set_cons_zero, List.set_cons_succ, i64_w, i32_w]
              rfl
            refine pure_ (i := 10) (N := some 48) (v := ?_) (a' := ?_) #[true, true, true, true, true, true, true, true, true, true, true, false, false, true, false, false, false] rfl rfl (by kernel_rfl) (fun _ _ _ h => h) (Or.inl ⟨by rfl, ?_⟩) ?_ ?_
            rotate_left
            · intro w'
              go_simp
              with_reducible rfl
            rotate_left
            · simp only [Act.put, List.setIfInBounds_toArray, List.set_cons_zero, List.set_cons_succ, i64_w, i32_w]
              rfl
            refine pure_ (i := 11) (N := some 49) (v := ?_) (a' := ?_) #[true, true, true, true, true, true, true, true, true, true, true, true, false, true, false, false, false] rfl rfl (by kernel_rfl) (fun _ _ _ h => h) (Or.inl ⟨by rfl, ?_⟩) ?_ ?_
            rotate_left
            · intro w'
              go_simp
              with_reducible rfl
            rotate_left
            · simp only [Act.put, List.setIfInBounds_toArray, List.set_cons_zero, List.set_cons_succ, i64_w, i32_w]
              rfl
            refine pure_ (i := 12) (N := some 50) (v := ?_) (a' := ?_) #[true, true, true, true, true, true, true, true, true, true, true, true, true, true, false, false, false] rfl rfl (by kernel_rfl) (fun _ _ _ h => h) (Or.inl ⟨by rfl, ?_⟩) ?_ ?_
            rotate_left
            · intro w'
              go_simp
              with_reducible rfl
            rotate_left
            · simp only [Act.put, List.setIfInBounds_toArray, List.set_cons_zero, List.set_cons_succ, i64_w, i32_w]
              rfl
            refine last_ (i := 14) (N := none) #[true, true, true, true, true, true, true, true, true, true, true, true, true, true, true, false, false] rfl rfl (by kernel_rfl) (by decide) (fun K hK => ?_)
            have k0 := (blk_cell hH 0).trans rfl
            have k1 := (blk_cell hH 1).trans rfl
            have k2 := blk_frozen hH 0
            have k3 := blk_frozen hH 1
            refine skip_ (w1 := ?_) (by rfl) rfl ?_ ?_
            rotate_left
            · go_simp
              rfl
            refine hK.out _ _ ?_
            clear hK K
            refine pure_ (i := 15) (N := some 9) (v := ?_) (a' := ?_) #[true, true, true, true, true, true, true, true, true, true, true, true, true, true, true, true, false] rfl rfl (by kernel_rfl) (fun _ _ _ h => h) (Or.inl ⟨by rfl, ?_⟩) ?_ ?_
            rotate_left
            · intro w'
              go_simp
              with_reducible rfl
            rotate_left
            · simp only [Act.put, List.setIfInBounds_toArray, List.set_cons_zero, List.set_cons_succ, i64_w, i32_w]
              rfl
            refine pure_ (i := 16) (N := some 10) (v := ?_) (a' := ?_) #[true, true, true, true, true, true, true, true, true, true, true, true, true, true, true, true, true] rfl rfl (by kernel_rfl) (fun _ _ _ h => h) (Or.inl ⟨by rfl, ?_⟩) ?_ ?_
            rotate_left
            · intro w'
              go_simp
              with_reducible rfl
            rotate_left
            · simp only [Act.put, List.setIfInBounds_toArray, List.set_cons_zero, List.set_cons_succ, i64_w, i32_w]
              rfl
            refine done_ (by kernel_rfl) ?_
            go_wp2_with fail
            go_meet
            refine ⟨rfl, rfl, ?_⟩
            first | exact b8.alloc b8.size _ | exact (b8.setCell hHle _).setCell hHle _ | exact (hHeld.2.setCell hHle _).setCell hHle _
        case rest =>
          obtain ⟨rfl, rfl, hb⟩ := hcut
          have hcc := hrE _ hb
          have hF := Aside0.mk (hrF _ hb)
          have hbw := Aside0.mk (below_then HB.out HB.out.size hb)
          have hEl := Aside0.mk (Nat.lt_of_lt_of_le HE.out hb.size)
          by_cases he : r.e = 0
          · have p2 : (r.e == 0) = true := by rw [he]; rfl
            have hn := HN2.out he
            have hsz := HSZ.out
            have n3 : decide (l.length < r.n) = true := decide_eq_true hn.1
            have p3 : decide ((l.length : Int) < (r.n : Int)) = true := decide_eq_true (by omega)
            have n4 : decide (r.n ≤ l.length + s.size) = true := decide_eq_true (by omega)
            have p4 : decide ((r.n : Int) ≤ (l.length : Int) + (s.size : Int)) = true := decide_eq_true (by omega)
            clear hrE hrF TK hn HJ2 hr hsz
            go_wp2
            go_ret
            exact ⟨rfl, hbw.out⟩
          · have p2 : (r.e == 0) = false := by rw [beq_eq_false_iff_ne]; exact he
            have HJ3 := Aside0.mk (HJ2.out he)
            clear hrE hrF TK HJ2 hr
            go_wp2
            go_roundw
            case rel => exact ⟨i + 1, by go_num, by omega, hbw, hF, hEl, HJ3⟩
            case measure => simp only [intOf]; omega
      · obtain rfl : i = 7 := by omega
        obtain ⟨j, hj, hj2⟩ := HX.out
        exact absurd hj2 (HJ.out j hj)
end Go.Proofs.YtbdodjedigegdaaDoor.P
