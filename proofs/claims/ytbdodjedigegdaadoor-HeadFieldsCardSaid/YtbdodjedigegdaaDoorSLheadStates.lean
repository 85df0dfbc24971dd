import Derived.Test.YtbdodjedigegdaaDoorSLheadLower
namespace Go.Proofs.YtbdodjedigegdaaDoor.P
open Go.RowKit Go.Proofs.YtbdodjedigegdaaDoorW.PrintWords Go.Proofs.YtbdodjedigegdaaDoorW.PrintLast Go.Proofs.YtbdodjedigegdaaDoorW.PrintMore
set_option linter.unusedVariables false
set_option linter.unusedSimpArgs false
set_option linter.unnecessarySimpa false
attribute [local go_sem] max2_int min2_int max_two min_two max_three min_three max_four min_four
set_option linter.unusedVariables false
set_option linter.unusedSimpArgs false
set_option linter.unnecessarySimpa false
/-! ### the taker's states -/
/-- What a byte does. -/
def stepF (k : Tk) (c : UInt8) : HSt → Int × Tk
  | .first => if plainB c = true then (0, { k with text := k.text ++ [c] }) else if c = 13 ∧ k.text ≠ [] then (0, { k with line := txtL k.text, text := [], st := .feed }) else (6, k)
  | .feed => if c = 10 then (0, { k with st := .begin }) else (6, k)
  | .begin => if c = 13 then (0, { k with st := .last }) else if signB c = true then (if k.fields.length = 16 then (3, k) else (0, { k with st := .named, text := k.text ++ [c] })) else (6, k)
  | .last => if c = 10 then (0, { k with over := true }) else (6, k)
  | .named => if c = 58 then (0, { k with name := lowT (txtL k.text), text := [], st := .valued }) else if signB c = true then (0, { k with text := k.text ++ [c] }) else (6, k)
  | .valued => if c = 13 then (0, { k with fields := k.fields ++ [(k.name, trimT (txtL k.text))], text := [], st := .feed }) else if valueB c = true then (0, { k with text := k.text ++ [c] }) else (6, k)
def tkStep (k : Tk) (c : UInt8) : Int × Tk := stepF k c k.st
/-- How a state's function ends. -/
def tkPost (B T : Nat) (W : World) (r : Int × Tk) (e : Ending) (W' : World) : Prop := e = .returned (.int .i64 r.1) ∧ ∃ vf' vt', TkRaw B T vf' vt' r.2 W' ∧ Below B W W'
section
variable {B T : Nat} {vf vt : Value} {k : Tk} {W : World}
theorem TkRaw.toB (h : TkRaw B T vf vt k W) {W' : World} (hb : Below W.heap.size W W') : Below B W W' := hb.mono h.hB
theorem stepOf {st : HSt} (hs : k.st = st) (c : UInt8) : tkStep k c = stepF k c st := by
  subst hs
  rfl
theorem tk_nextN (h : TkRaw B T vf vt k W) (st : HSt) (F : Nat) (hF : fnOf st = F) : Calls Tryd.prog 49 #[.pointer (some ⟨T, 0, none⟩), .func (.func F) #[] #[]] W fun e W' => e = .returned (.int .i64 0) ∧ TkRaw B T vf vt { k with st := st } W' ∧ Below B W W' := by
  subst hF
  exact tk_next h st
theorem byte_ne {c d : UInt8} (hc : ¬ c = d) {n : Int} (hn : (d.toNat : Int) = n) : ((c.toNat : Int) == n) = false ∧ ((c.toNat : Int) != n) = true := by
  have e : ¬ (c.toNat : Int) = n := fun e => hc (UInt8.toNat_inj.1 (by omega))
  exact ⟨by rw [beq_eq_false_iff_ne]; exact e, by rw [bne_iff_ne]; exact e⟩
set_option maxHeartbeats 2000000 in
theorem tk_feed (h : TkRaw B T vf vt k W) (hs : k.st = .feed) (c : UInt8) : Calls Tryd.prog 50 #[.pointer (some ⟨T, 0, none⟩), .int .u8 (c.toNat : Int)] W (tkPost B T W (tkStep k c)) := by
  have NX := fun W1 (hd : Drawn0 W W1) => tk_nextN (h.drew0 hd) .begin 57 rfl
  have HH := Aside0.mk h
  have e := stepOf hs c
  by_cases hc : c = 10
  · rw [e.trans (if_pos hc)]
    subst hc
    clear h hs e
    go_enter Tryd.func50, Tryd.ntmps50
    go_wp2_with (go_at_call 49; (with_reducible refine (NX _ (Drawn0.refl _)).mono ?_); rintro e w1 ⟨rfl, h1, h2⟩)
    go_ret
    exact ⟨rfl, _, _, h1, h2⟩
  · rw [e.trans (if_neg hc)]
    obtain ⟨-, p1⟩ := byte_ne hc (n := 10) rfl
    generalize (c.toNat : Int) = cn at p1 ⊢
    clear h hs hc e
    go_enter Tryd.func50, Tryd.ntmps50
    go_wp2_with fail
    go_ret
    exact ⟨rfl, _, _, HH.out, Below.refl _ _⟩
set_option maxHeartbeats 2000000 in
theorem tk_last (h : TkRaw B T vf vt k W) (hs : k.st = .last) (c : UInt8) : Calls Tryd.prog 62 #[.pointer (some ⟨T, 0, none⟩), .int .u8 (c.toNat : Int)] W (tkPost B T W (tkStep k c)) := by
  have HH := Aside0.mk h
  have e := stepOf hs c
  by_cases hc : c = 10
  · rw [e.trans (if_pos hc)]
    subst hc
    have f5 := blk_frozen h.blk 5
    have c5 := blk_cell h.blk 5
    simp at c5
    have hput := Aside0.mk (h.put 5 (.bool true) (vf' := vf) (vt' := vt) (k' := { k with over := true }) rfl h.hf h.ht)
    have hbel := Aside0.mk (h.puts 5 (.bool true))
    clear h hs e
    go_enter Tryd.func62, Tryd.ntmps62
    go_wp2_with fail
    go_ret
    exact ⟨rfl, _, _, hput.out, hbel.out⟩
  · rw [e.trans (if_neg hc)]
    obtain ⟨-, p1⟩ := byte_ne hc (n := 10) rfl
    generalize (c.toNat : Int) = cn at p1 ⊢
    clear h hs hc e
    go_enter Tryd.func62, Tryd.ntmps62
    go_wp2_with fail
    go_ret
    exact ⟨rfl, _, _, HH.out, Below.refl _ _⟩
set_option maxHeartbeats 4000000 in
theorem tk_first (h : TkRaw B T vf vt k W) (hs : k.st = .first) (c : UInt8) (hl : k.text.length ≤ 100000) : Calls Tryd.prog 33 #[.pointer (some ⟨T, 0, none⟩), .int .u8 (c.toNat : Int)] W (tkPost B T W (tkStep k c)) := by
  have e := stepOf hs c
  have PL := hd_plain c W
  have HH := Aside0.mk h
  by_cases hp : plainB c = true
  · rw [e.trans (if_pos hp)]
    rw [hp] at PL
    have KP := fun W1 (hd : Drawn0 W W1) => tk_keep (h.drew0 hd) c hl
    clear h hs e
    generalize (c.toNat : Int) = cn at *
    go_enter Tryd.func33, Tryd.ntmps33
    go_wp2_with (first | (go_at_call 27; (with_reducible refine PL.mono ?_); rintro e w1 ⟨rfl, d1⟩) | (go_at_call 47; (with_reducible refine (KP _ d1).mono ?_); rintro e w2 ⟨rfl, v2, h2, b2⟩))
    go_ret
    exact ⟨rfl, _, _, h2, (HH.out.toB d1.below).trans b2⟩
  · have e := e.trans (if_neg hp)
    rw [Bool.eq_false_iff.2 hp] at PL
    by_cases hc : c = 13
    · subst hc
      clear hp
      rw [show ((13 : UInt8).toNat : Int) = 13 from rfl] at PL ⊢
      by_cases ht : k.text = []
      · rw [e.trans (if_neg (fun h => h.2 ht))]
        have HD := Aside0.mk (fun W1 (hd : Drawn0 W W1) => blk_cell (h.drew0 hd).blk 3)
        obtain ⟨A, q, ev, -, -, -⟩ := own_u8_form h.ht
        subst ev
        have e0 : k.text.length = 0 := by rw [ht]; rfl
        rw [e0] at HD HH
        clear h e hs ht hl e0
        go_enter Tryd.func33, Tryd.ntmps33
        go_wp2_with (first | (go_at_call 27; (with_reducible refine PL.mono ?_); rintro e w1 ⟨rfl, d1⟩; have c3 := HD.out _ d1; simp at c3))
        go_ret
        exact ⟨rfl, _, _, HH.out.drew0 d1, HH.out.toB d1.below⟩
      · rw [e.trans (if_pos ⟨rfl, ht⟩)]
        have HD := Aside0.mk (fun W1 (hd : Drawn0 W W1) => blk_cell (h.drew0 hd).blk 3)
        have KT := fun W1 (hd : Drawn0 W W1) => tk_taken (h.drew0 hd) hl
        obtain ⟨A, q, ev, -, -, -⟩ := own_u8_form h.ht
        subst ev
        have p1 : decide (0 < k.text.length) = true := decide_eq_true (List.length_pos_iff.2 ht)
        have HT := Aside0.mk (fun W2 vt' (h2 : TkRaw B T vf vt' { k with text := [] } W2) => h2.put 0 (.string (txtL k.text)) (vf' := vf) (vt' := vt') (k' := { k with line := txtL k.text, text := [] }) rfl h2.hf h2.ht)
        clear h hs ht hl e
        generalize txtL k.text = LN at *
        go_enter Tryd.func33, Tryd.ntmps33
        go_wp2_with (first | (go_at_call 27; (with_reducible refine PL.mono ?_); rintro e w1 ⟨rfl, d1⟩; have c3 := HD.out _ d1; simp at c3) | (go_at_call 48; (with_reducible refine (KT _ d1).mono ?_); rintro e w2 ⟨rfl, v2, h2, b2⟩; have f0 := blk_frozen h2.blk 0; have c0 := blk_cell h2.blk 0; simp at c0; have h3 := HT.out _ _ h2; have b3 := h2.puts 0 (.string LN); have NX := tk_nextN h3 .feed 50 rfl; clear h2) | (go_at_call 49; (with_reducible refine NX.mono ?_); rintro e w3 ⟨rfl, h4, b4⟩))
        go_ret
        exact ⟨rfl, _, _, h4, (((HH.out.toB d1.below).trans b2).trans b3).trans b4⟩
    · rw [e.trans (if_neg (fun h => hc h.1))]
      obtain ⟨p1, -⟩ := byte_ne hc (n := 13) rfl
      clear h hs e hp hc
      generalize (c.toNat : Int) = cn at *
      go_enter Tryd.func33, Tryd.ntmps33
      go_wp2_with (first | (go_at_call 27; (with_reducible refine PL.mono ?_); rintro e w1 ⟨rfl, d1⟩))
      go_ret
      exact ⟨rfl, _, _, HH.out.drew0 d1, HH.out.toB d1.below⟩
set_option maxHeartbeats 4000000 in
theorem tk_begin (h : TkRaw B T vf vt k W) (hs : k.st = .begin) (c : UInt8) (hl : k.text.length ≤ 100000) (hf : k.fields.length ≤ 1000) : Calls Tryd.prog 57 #[.pointer (some ⟨T, 0, none⟩), .int .u8 (c.toNat : Int)] W (tkPost B T W (tkStep k c)) := by
  have e := stepOf hs c
  have HH := Aside0.mk h
  by_cases hc : c = 13
  · rw [e.trans (if_pos hc)]
    subst hc
    have NX := tk_nextN h .last 62 rfl
    clear h e hs hl hf
    go_enter Tryd.func57, Tryd.ntmps57
    go_wp2_with (go_at_call 49; (with_reducible refine NX.mono ?_); rintro e w1 ⟨rfl, h1, h2⟩)
    go_ret
    exact ⟨rfl, _, _, h1, h2⟩
  · have e := e.trans (if_neg hc)
    have SG := hd_sign c W
    obtain ⟨p0, -⟩ := byte_ne hc (n := 13) rfl
    by_cases hg : signB c = true
    · have e := e.trans (if_pos hg)
      rw [hg] at SG
      have HD := Aside0.mk (fun W1 (hd : Drawn0 W W1) => blk_cell (h.drew0 hd).blk 1)
      obtain ⟨A, q, ev, -⟩ := spr_slice h.hf
      subst ev
      by_cases h16 : k.fields.length = 16
      · rw [e.trans (if_pos h16)]
        rw [h16] at HD HH
        clear h e hs hl hf hg hc h16
        generalize (c.toNat : Int) = cn at *
        go_enter Tryd.func57, Tryd.ntmps57
        go_wp2_with (go_at_call 31; (with_reducible refine SG.mono ?_); rintro e w1 ⟨rfl, d1⟩; have c3 := HD.out _ d1; simp at c3)
        go_ret
        exact ⟨rfl, _, _, HH.out.drew0 d1, HH.out.toB d1.below⟩
      · rw [e.trans (if_neg h16)]
        have p1 : ((k.fields.length : Int) == 16) = false := by rw [beq_eq_false_iff_ne]; omega
        have NX := fun W1 (hd : Drawn0 W W1) => tk_nextN (h.drew0 hd) .named 63 rfl
        have KP := fun W2 (h2 : TkRaw B T (.slice A k.fields.length q) vt { k with st := .named } W2) => tk_keep h2 c hl
        clear h e hs hf hg hc
        generalize (c.toNat : Int) = cn at *
        go_enter Tryd.func57, Tryd.ntmps57
        go_wp2_with (first | (go_at_call 31; (with_reducible refine SG.mono ?_); rintro e w1 ⟨rfl, d1⟩; have c3 := HD.out _ d1; simp at c3) | (go_at_call 49; (with_reducible refine (NX _ d1).mono ?_); rintro e w2 ⟨rfl, h2, b2⟩) | (go_at_call 47; (with_reducible refine (KP _ h2).mono ?_); rintro e w3 ⟨rfl, v3, h3, b3⟩))
        go_ret
        exact ⟨rfl, _, _, h3, ((HH.out.toB d1.below).trans b2).trans b3⟩
    · rw [e.trans (if_neg hg)]
      rw [Bool.eq_false_iff.2 hg] at SG
      clear h e hs hl hf hg hc
      generalize (c.toNat : Int) = cn at *
      go_enter Tryd.func57, Tryd.ntmps57
      go_wp2_with (go_at_call 31; (with_reducible refine SG.mono ?_); rintro e w1 ⟨rfl, d1⟩)
      go_ret
      exact ⟨rfl, _, _, HH.out.drew0 d1, HH.out.toB d1.below⟩
set_option maxHeartbeats 4000000 in
theorem tk_named (h : TkRaw B T vf vt k W) (hs : k.st = .named) (c : UInt8) (hl : k.text.length ≤ 100000) : Calls Tryd.prog 63 #[.pointer (some ⟨T, 0, none⟩), .int .u8 (c.toNat : Int)] W (tkPost B T W (tkStep k c)) := by
  have e := stepOf hs c
  have HH := Aside0.mk h
  by_cases hc : c = 58
  · rw [e.trans (if_pos hc)]
    subst hc
    have KT := tk_taken h hl
    have LW := fun W2 => hd_Lower (txtL k.text) W2 (by unfold txtL; show k.text.toArray.size ≤ 1000000; rw [List.size_toArray]; omega)
    have HT := Aside0.mk (fun W2 vt' (h2 : TkRaw B T vf vt' { k with text := [] } W2) => h2.put 4 (.string (lowT (txtL k.text))) (vf' := vf) (vt' := vt') (k' := { k with name := lowT (txtL k.text), text := [] }) rfl h2.hf h2.ht)
    clear h e hs hl
    generalize lowT (txtL k.text) = NM at *
    generalize txtL k.text = LN at *
    go_enter Tryd.func63, Tryd.ntmps63
    go_wp2_with (first | (go_at_call 48; (with_reducible refine KT.mono ?_); rintro e w2 ⟨rfl, v2, h2, b2⟩) | (go_at_call 18; (with_reducible refine (LW _).mono ?_); rintro e w3 ⟨rfl, d3⟩; have b3 := h2.toB d3; have h3 := h2.below d3; have f4 := blk_frozen h3.blk 4; have c4 := blk_cell h3.blk 4; simp at c4; have h4 := HT.out _ _ h3; have b4 := h3.puts 4 (.string NM); have NX := tk_nextN h4 .valued 67 rfl; clear h2 h3) | (go_at_call 49; (with_reducible refine NX.mono ?_); rintro e w5 ⟨rfl, h5, b5⟩))
    go_ret
    exact ⟨rfl, _, _, h5, ((b2.trans b3).trans b4).trans b5⟩
  · have e := e.trans (if_neg hc)
    have SG := hd_sign c W
    obtain ⟨p0, -⟩ := byte_ne hc (n := 58) rfl
    by_cases hg : signB c = true
    · rw [e.trans (if_pos hg)]
      rw [hg] at SG
      have KP := fun W1 (hd : Drawn0 W W1) => tk_keep (h.drew0 hd) c hl
      clear h e hs hg hc
      generalize (c.toNat : Int) = cn at *
      go_enter Tryd.func63, Tryd.ntmps63
      go_wp2_with (first | (go_at_call 31; (with_reducible refine SG.mono ?_); rintro e w1 ⟨rfl, d1⟩) | (go_at_call 47; (with_reducible refine (KP _ d1).mono ?_); rintro e w3 ⟨rfl, v3, h3, b3⟩))
      go_ret
      exact ⟨rfl, _, _, h3, (HH.out.toB d1.below).trans b3⟩
    · rw [e.trans (if_neg hg)]
      rw [Bool.eq_false_iff.2 hg] at SG
      clear h e hs hl hg hc
      generalize (c.toNat : Int) = cn at *
      go_enter Tryd.func63, Tryd.ntmps63
      go_wp2_with (go_at_call 31; (with_reducible refine SG.mono ?_); rintro e w1 ⟨rfl, d1⟩)
      go_ret
      exact ⟨rfl, _, _, HH.out.drew0 d1, HH.out.toB d1.below⟩
end
end Go.Proofs.YtbdodjedigegdaaDoor.P
