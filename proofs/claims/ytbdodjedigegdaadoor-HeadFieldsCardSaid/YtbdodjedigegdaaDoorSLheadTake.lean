import Derived.Test.YtbdodjedigegdaaDoorSLheadValued
namespace Go.Proofs.YtbdodjedigegdaaDoor.P
open Go.RowKit Go.Proofs.YtbdodjedigegdaaDoorW.PrintWords Go.Proofs.YtbdodjedigegdaaDoorW.PrintLast Go.Proofs.YtbdodjedigegdaaDoorW.PrintMore
set_option linter.unusedVariables false
set_option linter.unusedSimpArgs false
set_option linter.unnecessarySimpa false
attribute [local go_sem] max2_int min2_int max_two min_two max_three min_three max_four min_four
set_option linter.unusedVariables false
set_option linter.unusedSimpArgs false
set_option linter.unnecessarySimpa false
/-! ### head.Take -/
theorem goesV_ {P : Program} {Q : Exit → Act → World → Prop} {ops : Array Oper} {w : World} {rest : List Oper} {oi : Oper} {a : Act} (N : Option Tmp) (hd : oi.dst = N) (hg : oi.guard = none) {f : FuncId} {fn : Func} {o : Operand} {ars : Array Operand} {ts : Array TypeId} (hf : P.funcs[f]? = some fn) (hname : (fn.name == "runtime.NumGoroutine") = false) (hb : fn.body.isSome = true) (args : Array Value)
    (hop : oi.op = .call { callee := .value o, args := ars, argTypes := ts }) (ho : a.eval o = .func (.func f) #[] #[]) (hargs : ars.map a.eval = args)
    (h : Calls P f args w fun e w' => ∃ v, e = .returned v ∧ wpList P ops Q rest (a.put N v) w') : wpList P ops Q (oi :: rest) a w := by
  refine wpList_plain hg fun K hK => ?_
  have he := enters_ hf hname hb args w
  have hrun : (execOp a.eval oi).run P w = .ok (.enter f args) w := by
    unfold execOp
    simp [hop, resolve, Deferred.ofValue, invoke, ho, hargs, he]
  unfold Oper.wp
  rw [hrun, Oper.upon_enter]
  refine h.mono fun e w'' hh => ?_
  obtain ⟨v, rfl, hk⟩ := hh
  subst hd
  exact hK _ _ hk
theorem fnOf_fn (st : HSt) : ∃ fn, Tryd.prog.funcs[fnOf st]? = some fn ∧ (fn.name == "runtime.NumGoroutine") = false ∧ fn.body.isSome = true := by
  cases st
  · exact ⟨_, Tryd.func33, rfl, rfl⟩
  · exact ⟨_, Tryd.func50, rfl, rfl⟩
  · exact ⟨_, Tryd.func57, rfl, rfl⟩
  · exact ⟨_, Tryd.func62, rfl, rfl⟩
  · exact ⟨_, Tryd.func63, rfl, rfl⟩
  · exact ⟨_, Tryd.func67, rfl, rfl⟩
theorem balloc {w W : World} (h : Below w.heap.size w W) (o : Obj) : Below w.heap.size w (W.alloc o) := h.alloc h.size o
theorem tk_step {B T : Nat} {vf vt : Value} {k : Tk} {W : World} (h : TkRaw B T vf vt k W) (c : UInt8) (hl : k.text.length ≤ 100000) (hf : k.fields.length ≤ 1000) : Calls Tryd.prog (fnOf k.st) #[.pointer (some ⟨T, 0, none⟩), .int .u8 (c.toNat : Int)] W (tkPost B T W (tkStep k c)) := by
  cases hs : k.st
  · exact tk_first h hs c hl
  · exact tk_feed h hs c
  · exact tk_begin h hs c hl hf
  · exact tk_last h hs c
  · exact tk_named h hs c hl
  · exact tk_valued h hs c hl hf
theorem step_len (k : Tk) (c : UInt8) : (tkStep k c).2.text.length ≤ k.text.length + 1 ∧ (tkStep k c).2.fields.length ≤ k.fields.length + 1 := by
  unfold tkStep
  cases k.st <;> unfold stepF <;> (repeat' split) <;> simp
/-- What is told of bytes: the error, how many, the line, the fields. -/
structure HdR where
  e : Int
  n : Nat
  line : ByteArray
  fields : List (ByteArray × ByteArray)
def hdErr (e : Int) : HdR := ⟨e, 0, ⟨#[]⟩, []⟩
def takeG (k : Tk) (i : Nat) : List UInt8 → HdR
  | [] => hdErr 5
  | c :: l => if (tkStep k c).1 = 0 then (if (tkStep k c).2.over = true then ⟨0, i + 1, (tkStep k c).2.line, (tkStep k c).2.fields⟩ else if i + 1 = 512 then hdErr 3 else takeG (tkStep k c).2 (i + 1) l) else hdErr (tkStep k c).1
def tk0 : Tk := ⟨⟨#[]⟩, [], .first, [], ⟨#[]⟩, false⟩
def takeT (l : List UInt8) : HdR := takeG tk0 0 l
set_option maxHeartbeats 8000000 in
theorem hd_TakeL (l : List UInt8) (A : Option Addr) (q : Nat) (W : World) (hl : l.length ≤ 9223372036854775807) (hr : ReadsInt W .u8 A l.length (l.map fun b => (b.toNat : Int))) :
    Calls Tryd.prog 20 #[.slice A l.length q] W fun e W' => ∃ vf, e = .returned (.tuple #[.agg #[.string (takeT l).line, vf], .int .i64 ((takeT l).n : Int), .int .i64 (takeT l).e]) ∧ W'.ownsRow W.heap.size 46 2 vf (takeT l).fields.length (spr (takeT l).fields) ∧ Below W.heap.size W W' := by
  obtain ⟨RR, hRR⟩ : ∃ r, r = takeT l := ⟨_, rfl⟩
  rw [← hRR]
  have HR := Aside0.mk hRR
  have HC := Aside0.mk hr
  clear hRR hr
  go_enter Tryd.func20, Tryd.ntmps20
  go_wp2_with fail
  have hR1 : ((W.alloc (.cells #[.string ⟨#[]⟩, .slice none 0 0] 24)).alloc (.cells #[.string ⟨#[]⟩, .slice none 0 0, .func (.func 33) #[] #[], .slice none 0 0, .string ⟨#[]⟩, .bool false] 61)).heap[W.heap.size]? = some (.cells #[.string ⟨#[]⟩, .slice none 0 0] 24 (0, 0)) := blk_alloc (blk_new W _) _
  have hT1 : TkRaw (W.heap.size + 1) (W.heap.size + 1) (.slice none 0 0) (.slice none 0 0) tk0 ((W.alloc (.cells #[.string ⟨#[]⟩, .slice none 0 0] 24)).alloc (.cells #[.string ⟨#[]⟩, .slice none 0 0, .func (.func 33) #[] #[], .slice none 0 0, .string ⟨#[]⟩, .bool false] 61)) := by
    have e : (W.alloc (.cells #[.string ⟨#[]⟩, .slice none 0 0] 24)).heap.size = W.heap.size + 1 := Array.size_push _
    refine ⟨?_, World.ownsRow_nil _ _ _ _, World.ownsRow_nil _ _ _ _, ?_, Nat.le_refl _⟩
    · have := blk_new (W.alloc (.cells #[.string ⟨#[]⟩, .slice none 0 0] 24)) (.cells #[.string ⟨#[]⟩, .slice none 0 0, .func (.func 33) #[] #[], .slice none 0 0, .string ⟨#[]⟩, .bool false] 61)
      rw [e] at this
      exact this
    · have e2 : ∀ (U : World) (o : Obj), (U.alloc o).heap.size = U.heap.size + 1 := fun U o => Array.size_push _
      rw [e2, e]
      omega
  have hB1 : Below W.heap.size W ((W.alloc (.cells #[.string ⟨#[]⟩, .slice none 0 0] 24)).alloc (.cells #[.string ⟨#[]⟩, .slice none 0 0, .func (.func 33) #[] #[], .slice none 0 0, .string ⟨#[]⟩, .bool false] 61)) := balloc ((Below.refl _ W).alloc (Nat.le_refl _) _) _
  generalize (W.alloc (.cells #[.string ⟨#[]⟩, .slice none 0 0] 24)).alloc (.cells #[.string ⟨#[]⟩, .slice none 0 0, .func (.func 33) #[] #[], .slice none 0 0, .string ⟨#[]⟩, .bool false] 61) = W1 at *
  go_loopw [14] (fun v wr => ∃ (i : Nat) (k : Tk) (vf vt : Value), v = .int .i64 (i : Int) ∧ i ≤ l.length ∧ i < 512 ∧ k.text.length ≤ i ∧ k.fields.length ≤ i ∧ Aside0 (TkRaw (W.heap.size + 1) (W.heap.size + 1) vf vt k wr) ∧ Aside0 (wr.heap[W.heap.size]? = some (.cells #[.string ⟨#[]⟩, .slice none 0 0] 24 (0, 0))) ∧ Aside0 (Below W.heap.size W wr) ∧ Aside0 (takeG k i (l.drop i) = RR)) (fun v _ => l.length - (intOf v).toNat)
  case atStart => exact ⟨0, tk0, _, _, rfl, Nat.zero_le _, by omega, Nat.le_refl _, Nat.le_refl _, ⟨hT1⟩, ⟨hR1⟩, ⟨hB1⟩, ⟨HR.out.symm⟩⟩
  case round =>
    clear hR1 hT1 hB1
    obtain ⟨i, k, vf, vt, rfl, hi, h512, hkt, hkf, HT, HRes, HB, HG⟩ := hrel
    have rc0 := (blk_cell HRes.out 0).trans rfl
    have rc1 := (blk_cell HRes.out 1).trans rfl
    have rf0 := blk_frozen HRes.out 0
    have rf1 := blk_frozen HRes.out 1
    by_cases hlt : i < l.length
    · have ec : l.drop i = l[i] :: l.drop (i + 1) := List.drop_eq_getElem_cons hlt
      have HG2 : Aside0 (takeG k i (l[i] :: l.drop (i + 1)) = RR) := ⟨by rw [← ec]; exact HG.out⟩
      unfold takeG at HG2
      generalize hcc : l[i] = c at *
      obtain ⟨ad, hA, hcs⟩ := (HC.out.below HB.out).2.2 (by omega)
      subst hA
      have hcell := hcs i hlt
      have hrd : (l.map fun b => (b.toNat : Int)).getD i 0 = (c.toNat : Int) := by
        rw [List.getD_eq_getElem?_getD, List.getElem?_map, List.getElem?_eq_getElem hlt, hcc]
        rfl
      rw [hrd] at hcell
      have TK := tk_step HT.out c (by omega) (by omega)
      have hsl := step_len k c
      have c2 : wr.cell? ⟨W.heap.size + 1, 2, none⟩ = some (.func (.func (fnOf k.st)) #[] #[]) := (blk_cell HT.out.blk 2).trans rfl
      obtain ⟨fn, hfn, hnm, hbd⟩ := fnOf_fn k.st
      have p1 : decide ((i : Int) < (l.length : Int)) = true := decide_eq_true (by omega)
      generalize tkStep k c = r at *
      generalize fnOf k.st = F at *
      have HFN := Aside0.mk hfn
      clear hrd hcs ec hfn
      by_cases hr0 : r.1 = 0
      · rw [if_pos hr0] at HG2
        have p2 : (r.1 != 0) = false := by rw [hr0]; rfl
        by_cases hov : r.2.over = true
        · rw [if_pos hov] at HG2
          have HE := HG2
          have p3 : r.2.over = true := hov
          clear HG HG2 hov hsl
          go_wp2
          rw [enters_ HFN.out hnm hbd, Oper.upon_enter]
          refine TK.mono ?_
          rintro e w1 ⟨rfl, vf1, vt1, h1, b1⟩
          obtain ⟨A1, q1, ev1, -⟩ := spr_slice h1.hf
          subst ev1
          have c5 : w1.cell? ⟨W.heap.size + 1, 5, none⟩ = some (.bool r.2.over) := (blk_cell h1.blk 5).trans rfl
          have c6 : w1.cell? ⟨W.heap.size + 1, 0, none⟩ = some (.string r.2.line) := (blk_cell h1.blk 0).trans rfl
          have c7 : w1.cell? ⟨W.heap.size + 1, 1, none⟩ = some (.slice A1 r.2.fields.length q1) := (blk_cell h1.blk 1).trans rfl
          have HR3 := (b1.block W.heap.size (Nat.lt_succ_self _)).trans HRes.out
          have qc0 := (blk_cell HR3 0).trans rfl
          have qc1 := (blk_cell HR3 1).trans rfl
          have qf0 := blk_frozen HR3 0
          have qf1 := blk_frozen HR3 1
          have B2 := HB.out.trans (b1.mono (Nat.le_succ _))
          have HR4 := Aside0.mk HR3
          have H1 := Aside0.mk h1
          have B1 := Aside0.mk b1
          clear HR3 h1 b1
          rw [p3] at c5
          go_wp2
          have b1 := blk_put HR4.out 0 (.string r.2.line) (cs' := #[.string r.2.line, .slice none 0 0]) rfl
          have b2 := blk_put b1 1 (.slice A1 r.2.fields.length q1) (cs' := #[.string r.2.line, .slice A1 r.2.fields.length q1]) rfl
          have hb := ((B2.setCell (p := ⟨W.heap.size, 0, none⟩) (Nat.le_refl _) (.string r.2.line)).setCell (p := ⟨W.heap.size, 1, none⟩) (Nat.le_refl _) (.slice A1 r.2.fields.length q1))
          have d0 := (blk_cell b2 0).trans rfl
          have d1 := (blk_cell b2 1).trans rfl
          have HO := Aside0.mk (own_less (own_put (i := 1) (u := .slice A1 r.2.fields.length q1) (own_put (i := 0) (u := .string r.2.line) H1.out.hf HR4.out (by decide)) b1 (by decide)) (Nat.le_succ _))
          generalize (w1.setCell ⟨W.heap.size, 0, none⟩ (.string r.2.line)).setCell ⟨W.heap.size, 1, none⟩ (.slice A1 r.2.fields.length q1) = U at *
          refine bodyPost_ret (by simp [results, Tryd.results20, go_sem, d0, d1]; try rfl) rfl ?_
          rw [← HE.out]
          exact ⟨_, rfl, HO.out, hb⟩
        · rw [if_neg hov] at HG2
          have hov2 : r.2.over = false := Bool.eq_false_iff.2 hov
          by_cases h5 : i + 1 = 512
          · rw [if_pos h5] at HG2
            have HE := HG2
            have p4 : ((i : Int) + 1 == 512) = true := by rw [beq_iff_eq]; omega
            clear HG HG2 hov hsl
            go_wp2
            rw [enters_ HFN.out hnm hbd, Oper.upon_enter]
            refine TK.mono ?_
            rintro e w1 ⟨rfl, vf1, vt1, h1, b1⟩
            have c5 : w1.cell? ⟨W.heap.size + 1, 5, none⟩ = some (.bool r.2.over) := (blk_cell h1.blk 5).trans rfl
            have c6 : w1.cell? ⟨W.heap.size + 1, 0, none⟩ = some (.string r.2.line) := (blk_cell h1.blk 0).trans rfl
            have c7 : w1.cell? ⟨W.heap.size + 1, 1, none⟩ = some vf1 := (blk_cell h1.blk 1).trans rfl
            have HR3 := (b1.block W.heap.size (Nat.lt_succ_self _)).trans HRes.out
            have qc0 := (blk_cell HR3 0).trans rfl
            have qc1 := (blk_cell HR3 1).trans rfl
            have qf0 := blk_frozen HR3 0
            have qf1 := blk_frozen HR3 1
            have B2 := HB.out.trans (b1.mono (Nat.le_succ _))
            have HR4 := Aside0.mk HR3
            have H1 := Aside0.mk h1
            have B1 := Aside0.mk b1
            clear HR3 h1 b1
            rw [hov2] at c5
            go_wp2
            have b1 := blk_put HR4.out 0 (.string ⟨#[]⟩) (cs' := #[.string ⟨#[]⟩, .slice none 0 0]) rfl
            have b2 := blk_put b1 1 (.slice none 0 0) (cs' := #[.string ⟨#[]⟩, .slice none 0 0]) rfl
            have hb := ((B2.setCell (p := ⟨W.heap.size, 0, none⟩) (Nat.le_refl _) (.string ⟨#[]⟩)).setCell (p := ⟨W.heap.size, 1, none⟩) (Nat.le_refl _) (.slice none 0 0))
            have d0 := (blk_cell b2 0).trans rfl
            have d1 := (blk_cell b2 1).trans rfl
            generalize (w1.setCell ⟨W.heap.size, 0, none⟩ (.string ⟨#[]⟩)).setCell ⟨W.heap.size, 1, none⟩ (.slice none 0 0) = U at *
            refine bodyPost_ret (by simp [results, Tryd.results20, go_sem, d0, d1]; try rfl) rfl ?_
            rw [← HE.out]
            exact ⟨_, rfl, World.ownsRow_nil _ _ _ _, hb⟩
          · rw [if_neg h5] at HG2
            have p4 : ((i : Int) + 1 == 512) = false := by rw [beq_eq_false_iff_ne]; omega
            clear hov
            go_wp2
            rw [enters_ HFN.out hnm hbd, Oper.upon_enter]
            refine TK.mono ?_
            rintro e w1 ⟨rfl, vf1, vt1, h1, b1⟩
            have c5 : w1.cell? ⟨W.heap.size + 1, 5, none⟩ = some (.bool r.2.over) := (blk_cell h1.blk 5).trans rfl
            have c6 : w1.cell? ⟨W.heap.size + 1, 0, none⟩ = some (.string r.2.line) := (blk_cell h1.blk 0).trans rfl
            have c7 : w1.cell? ⟨W.heap.size + 1, 1, none⟩ = some vf1 := (blk_cell h1.blk 1).trans rfl
            have HR3 := (b1.block W.heap.size (Nat.lt_succ_self _)).trans HRes.out
            have qc0 := (blk_cell HR3 0).trans rfl
            have qc1 := (blk_cell HR3 1).trans rfl
            have qf0 := blk_frozen HR3 0
            have qf1 := blk_frozen HR3 1
            have B2 := HB.out.trans (b1.mono (Nat.le_succ _))
            have HR4 := Aside0.mk HR3
            have H1 := Aside0.mk h1
            have B1 := Aside0.mk b1
            clear HR3 h1 b1
            rw [hov2] at c5
            go_wp2
            go_roundw
            case rel => exact ⟨i + 1, r.2, vf1, vt1, by go_num, by omega, by omega, by omega, by omega, H1, HR4, ⟨B2⟩, HG2⟩
            case measure => simp only [intOf]; omega
      · rw [if_neg hr0] at HG2
        have HE := HG2
        have p2 : (r.1 != 0) = true := by rw [bne_iff_ne]; exact hr0
        clear HG HG2 hr0 hsl
        go_wp2
        rw [enters_ HFN.out hnm hbd, Oper.upon_enter]
        refine TK.mono ?_
        rintro e w1 ⟨rfl, vf1, vt1, h1, b1⟩
        have c5 : w1.cell? ⟨W.heap.size + 1, 5, none⟩ = some (.bool r.2.over) := (blk_cell h1.blk 5).trans rfl
        have c6 : w1.cell? ⟨W.heap.size + 1, 0, none⟩ = some (.string r.2.line) := (blk_cell h1.blk 0).trans rfl
        have c7 : w1.cell? ⟨W.heap.size + 1, 1, none⟩ = some vf1 := (blk_cell h1.blk 1).trans rfl
        have HR3 := (b1.block W.heap.size (Nat.lt_succ_self _)).trans HRes.out
        have qc0 := (blk_cell HR3 0).trans rfl
        have qc1 := (blk_cell HR3 1).trans rfl
        have qf0 := blk_frozen HR3 0
        have qf1 := blk_frozen HR3 1
        have B2 := HB.out.trans (b1.mono (Nat.le_succ _))
        have HR4 := Aside0.mk HR3
        have H1 := Aside0.mk h1
        have B1 := Aside0.mk b1
        clear HR3 h1 b1
        go_wp2
        have b1 := blk_put HR4.out 0 (.string ⟨#[]⟩) (cs' := #[.string ⟨#[]⟩, .slice none 0 0]) rfl
        have b2 := blk_put b1 1 (.slice none 0 0) (cs' := #[.string ⟨#[]⟩, .slice none 0 0]) rfl
        have hb := ((B2.setCell (p := ⟨W.heap.size, 0, none⟩) (Nat.le_refl _) (.string ⟨#[]⟩)).setCell (p := ⟨W.heap.size, 1, none⟩) (Nat.le_refl _) (.slice none 0 0))
        have d0 := (blk_cell b2 0).trans rfl
        have d1 := (blk_cell b2 1).trans rfl
        generalize (w1.setCell ⟨W.heap.size, 0, none⟩ (.string ⟨#[]⟩)).setCell ⟨W.heap.size, 1, none⟩ (.slice none 0 0) = U at *
        refine bodyPost_ret (by simp [results, Tryd.results20, go_sem, d0, d1]; try rfl) rfl ?_
        rw [← HE.out]
        exact ⟨_, rfl, World.ownsRow_nil _ _ _ _, hb⟩
    · have p1 : decide ((i : Int) < (l.length : Int)) = false := decide_eq_false (by omega)
      have e0 : l.drop i = [] := List.drop_eq_nil_of_le (by omega)
      have HE := Aside0.mk (show hdErr 5 = RR by rw [← HG.out, e0]; rfl)
      go_wp2
      have b1 := blk_put HRes.out 0 (.string ⟨#[]⟩) (cs' := #[.string ⟨#[]⟩, .slice none 0 0]) rfl
      have b2 := blk_put b1 1 (.slice none 0 0) (cs' := #[.string ⟨#[]⟩, .slice none 0 0]) rfl
      have hb := ((HB.out.setCell (p := ⟨W.heap.size, 0, none⟩) (Nat.le_refl _) (.string ⟨#[]⟩)).setCell (p := ⟨W.heap.size, 1, none⟩) (Nat.le_refl _) (.slice none 0 0))
      have d0 := (blk_cell b2 0).trans rfl
      have d1 := (blk_cell b2 1).trans rfl
      generalize (wr.setCell ⟨W.heap.size, 0, none⟩ (.string ⟨#[]⟩)).setCell ⟨W.heap.size, 1, none⟩ (.slice none 0 0) = U at *
      refine bodyPost_ret (by simp [results, Tryd.results20, go_sem, d0, d1]; try rfl) rfl ?_
      rw [← HE.out]
      exact ⟨_, rfl, World.ownsRow_nil _ _ _ _, hb⟩
theorem hd_Take (l : List UInt8) (A : Option Addr) (q : Nat) (W : World) (hl : l.length ≤ 1000000) (hr : ReadsInt W .u8 A l.length (l.map fun b => (b.toNat : Int))) :
    Calls Tryd.prog 20 #[.slice A l.length q] W fun e W' => ∃ vf, e = .returned (.tuple #[.agg #[.string (takeT l).line, vf], .int .i64 ((takeT l).n : Int), .int .i64 (takeT l).e]) ∧ W'.ownsRow W.heap.size 46 2 vf (takeT l).fields.length (spr (takeT l).fields) ∧ Below W.heap.size W W' := hd_TakeL l A q W (by omega) hr
end Go.Proofs.YtbdodjedigegdaaDoor.P
