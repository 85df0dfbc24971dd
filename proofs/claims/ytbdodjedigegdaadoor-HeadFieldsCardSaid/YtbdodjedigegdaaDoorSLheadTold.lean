import Derived.Test.YtbdodjedigegdaaDoorSLheadTake
import Derived.Lib.ConvBytes
import Derived.Lib.SlBytesConst
import Derived.Lib.SmallJoins
import Derived.ChangeKeysEq
namespace Go.Proofs.YtbdodjedigegdaaDoor.P
open Go.RowKit Go.Proofs.YtbdodjedigegdaaDoorW.PrintWords Go.Proofs.YtbdodjedigegdaaDoorW.PrintLast Go.Proofs.YtbdodjedigegdaaDoorW.PrintMore
set_option linter.unusedVariables false
set_option linter.unusedSimpArgs false
set_option linter.unnecessarySimpa false
attribute [local go_sem] max2_int min2_int max_two min_two max_three min_three max_four min_four
set_option linter.unusedVariables false
set_option linter.unusedSimpArgs false
set_option linter.unnecessarySimpa false
/-! ### told, many, awake -/
theorem takeG_err : ∀ (l : List UInt8) (k : Tk) (i : Nat), (takeG k i l).e ≠ 0 → takeG k i l = hdErr (takeG k i l).e
  | [], k, i, _ => rfl
  | c :: l, k, i, h => by
    unfold takeG at h ⊢
    by_cases h1 : (tkStep k c).1 = 0
    · rw [if_pos h1] at h ⊢
      by_cases h2 : (tkStep k c).2.over = true
      · rw [if_pos h2] at h
        exact absurd rfl h
      · rw [if_neg h2] at h ⊢
        by_cases h3 : i + 1 = 512
        · rw [if_pos h3]
          rfl
        · rw [if_neg h3] at h ⊢
          exact takeG_err l _ _ h
    · rw [if_neg h1]
      rfl
theorem takeT_err {l : List UInt8} (h : (takeT l).e ≠ 0) : takeT l = hdErr (takeT l).e := takeG_err l _ _ h
theorem results_alloc_irrel : True := trivial
/-- head.Take of what is refused. -/
theorem hd_TakeErr (l : List UInt8) (A : Option Addr) (q : Nat) (W : World) (hl : l.length ≤ 1000000) (hr : ReadsInt W .u8 A l.length (l.map fun b => (b.toNat : Int))) (he : (takeT l).e ≠ 0) :
    Calls Tryd.prog 20 #[.slice A l.length q] W fun e W' => ∃ A2 q2, e = .returned (.tuple #[.agg #[.string ⟨#[]⟩, .slice A2 0 q2], .int .i64 0, .int .i64 (takeT l).e]) ∧ Below W.heap.size W W' := by
  have TK := hd_Take l A q W hl hr
  rw [takeT_err he] at TK
  refine TK.mono ?_
  rintro e W' ⟨vf, rfl, ho, hb⟩
  obtain ⟨A2, q2, rfl, -⟩ := spr_slice ho
  exact ⟨A2, q2, rfl, hb⟩
/-- A literal's bytes are read. -/
theorem lit_u8 (W : World) (ls : List UInt8) (t : TypeId) (fr : Nat × Nat) (h : ls.length ≤ 1000000) : ReadsInt (W.alloc (.cells (ls.map fun b => Value.int .u8 (b.toNat : Int)).toArray t fr)) .u8 (some ⟨W.heap.size, 0, none⟩) ls.length (ls.map fun b => (b.toNat : Int)) := by
  refine ⟨by simp, by omega, fun _ => ⟨_, rfl, fun j hj => ?_⟩⟩
  rw [Addr.add_lit, Nat.zero_add, World.cell?_alloc_mark]
  simp [List.getD_eq_getElem?_getD, List.getElem?_eq_getElem hj]
theorem bytes_u8 (W : World) (e : TypeId) (s : ByteArray) (hs : s.size ≤ 1000000) : ReadsInt (Lib.bytesWorld W e s) .u8 (some ⟨W.heap.size, 0, none⟩) s.data.toList.length (s.data.toList.map fun b => (b.toNat : Int)) := by
  rw [data_length]
  exact bytes_reads W e s (by omega)
theorem below_bytes (W : World) (e : TypeId) (s : ByteArray) : Below W.heap.size W (Lib.bytesWorld W e s) := ⟨rfl, rfl, rfl, by rw [Lib.bytesWorld_size]; omega, fun j hj => Lib.bytesWorld_at_old W _ s j hj⟩
set_option maxHeartbeats 4000000 in
theorem hd_told (s : ByteArray) (x : Int) (W : World) (hs : s.size ≤ 1000000) (he : (takeT s.data.toList).e ≠ 0) : Calls Tryd.prog 23 #[.int .i64 x, .string s] W fun e W' => e = .returned (.bool ((takeT s.data.toList).e == x)) ∧ Below W.heap.size W W' := by
  have hcv := Lib.run_convert_string_bytes (P := Tryd.prog) W 9 26 5 s Tryd.underlying9 Tryd.underlying26 Tryd.underlying5
  have TK := hd_TakeErr s.data.toList _ (grownCap W s.size 0 5) _ (by rw [data_length]; exact hs) (bytes_u8 W 5 s hs) he
  rw [data_length] at TK
  have hb := below_bytes W 5 s
  generalize Lib.bytesWorld W 5 s = w1 at *
  generalize grownCap W s.size 0 5 = cap at *
  generalize (takeT s.data.toList).e = E at *
  obtain ⟨b, hbb⟩ : ∃ b, (E == x) = b := ⟨_, rfl⟩
  rw [hbb]
  clear he hs
  go_enter Tryd.func23, Tryd.ntmps23
  go_wp2_with (go_at_call 20; (with_reducible refine TK.mono ?_); rintro e w2 ⟨A2, q2, rfl, b2⟩)
  go_ret
  exact ⟨rfl, ((below_then hb hb.size b2).alloc (below_then hb hb.size b2).size _)⟩
theorem many_list (n : Nat) : (List.replicate n (65 : UInt8)).length = n := List.length_replicate
set_option maxHeartbeats 4000000 in
theorem hd_many (n : Nat) (W : World) (hn : n ≤ 100000) : Calls Tryd.prog 35 #[.int .i64 (n : Int)] W fun e W' => e = .returned (.string (txtL (List.replicate n 65))) ∧ Below W.heap.size W W' := by
  obtain ⟨i0, hi, hz0, hz1, hz2⟩ := info_parts infoU8
  obtain ⟨TX, hTX⟩ : ∃ TX, TX = txtL (List.replicate n 65) := ⟨_, rfl⟩
  rw [← hTX]
  have HX := Aside0.mk hTX
  clear hTX
  go_enter Tryd.func35, Tryd.ntmps35
  go_wp2
  go_loopw [3, 4] (fun v u wr => ∃ k : Nat, k ≤ n ∧ u = .int .i64 (k : Int) ∧ wr.ownsRow W.heap.size 5 1 v (List.replicate k (65 : UInt8)).length (u8s (List.replicate k 65)) ∧ Below W.heap.size W wr) (fun _ u _ => n - (intOf u).toNat)
  case atStart => exact ⟨0, Nat.zero_le _, rfl, World.ownsRow_nil _ _ _ _, Below.refl _ _⟩
  case round =>
    obtain ⟨k, hk, rfl, ho, hb⟩ := hrel
    by_cases hlt : k < n
    · have p1 : decide ((k : Int) < (n : Int)) = true := decide_eq_true (by omega)
      obtain ⟨A, q, ev, -, -, -⟩ := own_u8_form ho
      rw [many_list] at ev ho
      subst ev
      have hoA := Aside0.mk (ho.alloc (.cells #[.int .u8 65] 5))
      have hs := hb.size
      have hnews := Aside0.mk (World.news_of_block (cs := #[.int .u8 65]) (blk_new wr (.cells #[.int .u8 65] 5)))
      have hbA := Aside0.mk (hb.alloc hs (.cells #[.int .u8 65] 5))
      have hOr := Aside0.mk (fun j hj => (ho.lt j hj).1)
      clear ho
      go_wp2_with (at_builtin; refine wpList_append_own_at _ rfl _ _ 26 rfl W.heap.size 5 i0 (.int .u8 0) 1 1 Tryd.underlying26 hi hz0 hz1 hz2 rfl (by decide) _ _ _ rfl hoA.out ⟨wr.heap.size, 0, none⟩ 1 1 [.int .u8 65] rfl rfl hnews.out (by simp [Value.oneCell']) (by unfold maxLen; omega) (by omega) hbA.out.size ?_; intro v' w2 hown hgrow _ _; have HO := Aside0.mk hown; have HG := Aside0.mk hgrow; clear hown hgrow)
      go_roundw
      case rel =>
        refine ⟨k + 1, by omega, by go_num, ?_, hbA.out.grown HG.out hbA.out.size (fun j hj => hOr.out j hj)⟩
        have e : u8s (List.replicate (k + 1) 65) = u8s (List.replicate k 65) ++ [.int .u8 65] := by
          unfold u8s
          rw [List.replicate_succ', List.map_append]
          rfl
        rw [many_list, e]
        exact HO.out
      case measure => simp only [intOf]; omega
    · have p1 : decide ((k : Int) < (n : Int)) = false := decide_eq_false (by omega)
      obtain rfl : k = n := by omega
      obtain ⟨A, q, ev, -, -, hr⟩ := own_u8_form ho
      subst ev
      have hst := string_of_reads (P := Tryd.prog) (c := q) Tryd.underlying26 Tryd.underlying5 Tryd.underlying9 (hr (by rw [many_list]; omega))
      rw [strOf_u8, many_list, ← HX.out] at hst
      rw [many_list]
      clear ho hr
      go_wp2
      go_ret
      exact ⟨rfl, hb⟩
def asciiL (l : List Nat) : List UInt8 := l.map Nat.toUInt8
theorem ev1 : takeT [65, 32, 98, 13, 10, 88, 121, 58, 32, 99, 32, 100, 32, 13, 10, 122, 58, 13, 10, 13, 10, 109, 111, 114, 101] = ⟨0, 21, ⟨#[65, 32, 98]⟩, [(⟨#[120, 121]⟩, ⟨#[99, 32, 100]⟩), (⟨#[122]⟩, ⟨#[]⟩)]⟩ := by kernel_rfl
theorem ev2 : (takeT [65, 13, 10]).e = 5 := by kernel_rfl
theorem ev3 : (takeT [65, 13]).e = 5 := by kernel_rfl
theorem ev4 : (takeT [13]).e = 6 := by kernel_rfl
theorem ev5 : (takeT [65, 9]).e = 6 := by kernel_rfl
theorem ev6 : (takeT [65, 10]).e = 6 := by kernel_rfl
theorem ev7 : (takeT [65, 13, 120]).e = 6 := by kernel_rfl
theorem ev8 : (takeT [65, 13, 10, 32, 120]).e = 6 := by kernel_rfl
theorem ev9 : (takeT [65, 13, 10, 120, 32]).e = 6 := by kernel_rfl
theorem ev10 : (takeT [65, 13, 10, 58]).e = 6 := by kernel_rfl
theorem ev11 : (takeT [65, 13, 10, 120, 13]).e = 6 := by kernel_rfl
theorem takeG_go {k k' : Tk} {i : Nat} {c : UInt8} {l : List UInt8} (e : tkStep k c = (0, k')) (ho : k'.over = false) (hi : i + 1 ≠ 512) : takeG k i (c :: l) = takeG k' (i + 1) l := by
  conv => lhs; unfold takeG
  rw [e, if_pos rfl, if_neg (by rw [ho]; decide), if_neg hi]
theorem takeG_long {k k' : Tk} {i : Nat} {c : UInt8} {l : List UInt8} (e : tkStep k c = (0, k')) (ho : k'.over = false) (hi : i + 1 = 512) : takeG k i (c :: l) = hdErr 3 := by
  conv => lhs; unfold takeG
  rw [e, if_pos rfl, if_neg (by rw [ho]; decide), if_pos hi]
theorem takeG_over {k k' : Tk} {i : Nat} {c : UInt8} {l : List UInt8} (e : tkStep k c = (0, k')) (ho : k'.over = true) : takeG k i (c :: l) = ⟨0, i + 1, k'.line, k'.fields⟩ := by
  conv => lhs; unfold takeG
  rw [e, if_pos rfl, if_pos ho]
theorem takeG_bad {k k' : Tk} {i : Nat} {c : UInt8} {l : List UInt8} {x : Int} (e : tkStep k c = (x, k')) (hx : x ≠ 0) : takeG k i (c :: l) = hdErr x := by
  conv => lhs; unfold takeG
  rw [e, if_neg hx]
theorem takeG_A (n : Nat) : ∀ (k : Tk) (i : Nat), k.st = .first → k.over = false → (i + n ≤ 511 → (takeG k i (List.replicate n 65)).e = 5) ∧ (i < 512 → 512 ≤ i + n → (takeG k i (List.replicate n 65)).e = 3) := by
  induction n with
  | zero => exact fun k i _ _ => ⟨fun _ => rfl, fun h1 h2 => by omega⟩
  | succ n ih =>
    intro k i hs ho
    have e : tkStep k 65 = (0, { k with text := k.text ++ [65] }) := by rw [stepOf hs]; rfl
    rw [List.replicate_succ]
    by_cases hi : i + 1 = 512
    · rw [takeG_long e ho hi]
      exact ⟨fun h => by omega, fun _ _ => rfl⟩
    · rw [takeG_go e ho hi]
      obtain ⟨h1, h2⟩ := ih { k with text := k.text ++ [65] } (i + 1) hs ho
      exact ⟨fun h => h1 (by omega), fun h h' => h2 (by omega) (by omega)⟩
theorem ev12 : (takeT (txtL (List.replicate 512 65)).data.toList).e = 3 := (takeG_A 512 tk0 0 rfl rfl).2 (by decide) (by decide)
theorem ev13 : (takeT (txtL (List.replicate 511 65)).data.toList).e = 5 := (takeG_A 511 tk0 0 rfl rfl).1 (by decide)
/-- A row of pairs, laid open. -/
theorem spr_form {W : World} {base : Nat} {e : TypeId} {v : Value} {l : List (ByteArray × ByteArray)} (h : W.ownsRow base e 2 v l.length (spr l)) : (v = .slice none 0 0 ∧ l = []) ∨ ∃ g cap cur, v = .slice (some ⟨g, 0, none⟩) l.length cap ∧ base ≤ g ∧ W.heap[g]? = some (.cells cur e (0, 0)) ∧ l.length ≤ cap ∧ cap ≤ maxLen ∧ cur.size = cap * 2 ∧ cur.toList.take (l.length * 2) = spr l ∧ ∀ j, j < l.length → W.cell? ⟨g, j * 2, none⟩ = some (.string (l.getD j (⟨#[]⟩, ⟨#[]⟩)).1) ∧ W.cell? ⟨g, j * 2 + 1, none⟩ = some (.string (l.getD j (⟨#[]⟩, ⟨#[]⟩)).2) := by
  obtain ⟨hlen, hrest⟩ := h
  rcases hrest with ⟨rfl, h0⟩ | ⟨g, cap, cur, rfl, hg, hh, hnc, hcm, hsz, htk⟩
  · exact .inl ⟨rfl, List.eq_nil_of_length_eq_zero h0⟩
  · refine .inr ⟨g, cap, cur, rfl, hg, hh, hnc, hcm, hsz, htk, fun j hj => ?_⟩
    obtain ⟨h1, h2⟩ := spr_get l j hj
    rw [← htk] at h1 h2
    rw [List.getElem?_take_of_lt (by omega)] at h1 h2
    rw [blk_cell hh, blk_cell hh]
    exact ⟨by simpa using h1, by simpa using h2⟩
theorem un46 : Tryd.prog.underlying 46 = some (.array 2 9) := by kernel_rfl
theorem plainStr : Tryd.prog.plainKey 9 = true := by kernel_rfl
theorem run_eq2 (d : Nat) (a b c e : ByteArray) (w : World) : (Op.equalIn (d + 2) 46 (.agg #[.string a, .string b]) (.agg #[.string c, .string e])).run Tryd.prog w = .ok ((a.toList == c.toList) && (b.toList == e.toList)) w := by
  have h1 : ∀ (x y : ByteArray), (Op.equalIn (d + 1) 9 (.string x) (.string y)).run Tryd.prog w = .ok (x.toList == y.toList) w := fun x y => run_equalIn_string w d 9 x y Tryd.underlying9
  have pa : ∀ x y : ByteArray, (part 9 #[.string x, .string y] 0).run Tryd.prog w = .ok (.string x) w := fun x y => run_part_plain (w := w) plainStr rfl
  have pb : ∀ x y : ByteArray, (part 9 #[.string x, .string y] 1).run Tryd.prog w = .ok (.string y) w := fun x y => run_part_plain (w := w) plainStr rfl
  rw [Op.equalIn]
  simp [run_underlying un46, List.range', pa, pb, h1]
  by_cases h : a.toList = c.toList <;> by_cases h' : b.toList = e.toList <;> simp [h, h']
def tx512 : ByteArray := txtL (List.replicate 512 65)
def tx511 : ByteArray := txtL (List.replicate 511 65)
theorem tl_of (s : ByteArray) (x : Int) (hx : x ≠ 0) (hs : s.size ≤ 1000000) (h : (takeT s.data.toList).e = x) (W : World) : Calls Tryd.prog 23 #[.int .i64 x, .string s] W fun e W' => e = .returned (.bool true) ∧ Below W.heap.size W W' := by
  have H := hd_told s x W hs (by rw [h]; exact hx)
  rw [h, beq_self_eq_true] at H
  exact H
set_option maxHeartbeats 8000000 in
theorem hd_awake (W : World) : Calls Tryd.prog 22 #[] W fun e W' => e = .returned (.bool true) ∧ Below W.heap.size W W' := by
  have kc := fun (w : World) (C : Array Value) (n c : Nat) => Lib.run_convert_bytes_const (P := Tryd.prog) w 26 5 C n c Tryd.underlying26 Tryd.underlying5
  have TK := hd_Take [65, 32, 98, 13, 10, 88, 121, 58, 32, 99, 32, 100, 32, 13, 10, 122, 58, 13, 10, 13, 10, 109, 111, 114, 101] _ 25 _ (by decide) (lit_u8 W [65, 32, 98, 13, 10, 88, 121, 58, 32, 99, 32, 100, 32, 13, 10, 122, 58, 13, 10, 13, 10, 109, 111, 114, 101] 5 (25, 26) (by decide))
  rw [ev1] at TK
  have hb0 : Below W.heap.size W (W.alloc (.cells #[.int .u8 65, .int .u8 32, .int .u8 98, .int .u8 13, .int .u8 10, .int .u8 88, .int .u8 121, .int .u8 58, .int .u8 32, .int .u8 99, .int .u8 32, .int .u8 100, .int .u8 32, .int .u8 13, .int .u8 10, .int .u8 122, .int .u8 58, .int .u8 13, .int .u8 10, .int .u8 13, .int .u8 10, .int .u8 109, .int .u8 111, .int .u8 114, .int .u8 101] 5 (25, 26))) := (Below.refl _ W).alloc (Nat.le_refl _) _
  have EQ := fun (a b c e : ByteArray) (w : World) => run_eq2 9998 a b c e w
  have T2 := fun W1 => tl_of ⟨#[65, 13, 10]⟩ 5 (by decide) (by decide) ev2 W1
  have T3 := fun W1 => tl_of ⟨#[65, 13]⟩ 5 (by decide) (by decide) ev3 W1
  have T4 := fun W1 => tl_of ⟨#[13]⟩ 6 (by decide) (by decide) ev4 W1
  have T5 := fun W1 => tl_of ⟨#[65, 9]⟩ 6 (by decide) (by decide) ev5 W1
  have T6 := fun W1 => tl_of ⟨#[65, 10]⟩ 6 (by decide) (by decide) ev6 W1
  have T7 := fun W1 => tl_of ⟨#[65, 13, 120]⟩ 6 (by decide) (by decide) ev7 W1
  have T8 := fun W1 => tl_of ⟨#[65, 13, 10, 32, 120]⟩ 6 (by decide) (by decide) ev8 W1
  have T9 := fun W1 => tl_of ⟨#[65, 13, 10, 120, 32]⟩ 6 (by decide) (by decide) ev9 W1
  have T10 := fun W1 => tl_of ⟨#[65, 13, 10, 58]⟩ 6 (by decide) (by decide) ev10 W1
  have T11 := fun W1 => tl_of ⟨#[65, 13, 10, 120, 13]⟩ 6 (by decide) (by decide) ev11 W1
  have T12 := fun W1 => tl_of tx512 3 (by decide) (by unfold tx512; rw [txtL_size, many_list]; decide) ev12 W1
  have T13 := fun W1 => tl_of tx511 5 (by decide) (by unfold tx511; rw [txtL_size, many_list]; decide) ev13 W1
  have M12 : ∀ W1, Calls Tryd.prog 35 #[.int .i64 512] W1 fun e W' => e = .returned (.string tx512) ∧ Below W1.heap.size W1 W' := fun W1 => hd_many 512 W1 (by decide)
  have M13 : ∀ W1, Calls Tryd.prog 35 #[.int .i64 511] W1 fun e W' => e = .returned (.string tx511) ∧ Below W1.heap.size W1 W' := fun W1 => hd_many 511 W1 (by decide)
  go_enter Tryd.func22, Tryd.ntmps22
  go_wp2_with (go_at_call 20; refine TK.mono ?_; rintro e w1 ⟨vf, rfl, ho, hb1⟩; have B1 := below_then hb0 hb0.size hb1; rcases spr_form ho with ⟨_, h0⟩ | ⟨g, cap, cur, rfl, -, -, -, -, -, -, hc⟩; exact absurd h0 (by decide); have q0 := hc 0 (by decide); have q1 := hc 1 (by decide); clear hc; obtain ⟨q00, q01⟩ := q0; obtain ⟨q10, q11⟩ := q1; simp only [Nat.zero_mul, Nat.one_mul, Nat.zero_add, Nat.reduceAdd, List.getD_cons_zero, List.getD_cons_succ] at q00 q01 q10 q11; have aq00 : (w1.alloc (.cells #[.string ⟨#[65, 32, 98]⟩, .slice (some ⟨g, 0, none⟩) 2 cap] 24)).cell? ⟨g, 0, none⟩ = some (.string ⟨#[120, 121]⟩) := Lib.cell?_alloc_marked _ q00; have aq01 : (w1.alloc (.cells #[.string ⟨#[65, 32, 98]⟩, .slice (some ⟨g, 0, none⟩) 2 cap] 24)).cell? ⟨g, 1, none⟩ = some (.string ⟨#[99, 32, 100]⟩) := Lib.cell?_alloc_marked _ q01; have aq10 : (w1.alloc (.cells #[.string ⟨#[65, 32, 98]⟩, .slice (some ⟨g, 0, none⟩) 2 cap] 24)).cell? ⟨g, 2, none⟩ = some (.string ⟨#[122]⟩) := Lib.cell?_alloc_marked _ q10; have aq11 : (w1.alloc (.cells #[.string ⟨#[65, 32, 98]⟩, .slice (some ⟨g, 0, none⟩) 2 cap] 24)).cell? ⟨g, 3, none⟩ = some (.string ⟨#[]⟩) := Lib.cell?_alloc_marked _ q11; clear ho hb0 hb1 kc q00 q01 q10 q11)
  have BA := B1.alloc B1.size (.cells #[.string ⟨#[65, 32, 98]⟩, .slice (some ⟨g, 0, none⟩) 2 cap] 24)
  go_wp2_with (first | (go_at_call 23; (with_reducible refine (T2 _).mono ?_); rintro e v2 ⟨rfl, c2⟩; have C2 := below_then BA BA.size c2) | (go_at_call 23; (with_reducible refine (T3 _).mono ?_); rintro e v3 ⟨rfl, c3⟩; have C3 := below_then C2 C2.size c3) | (go_at_call 23; (with_reducible refine (T4 _).mono ?_); rintro e v4 ⟨rfl, c4⟩; have C4 := below_then C3 C3.size c4) | (go_at_call 23; (with_reducible refine (T5 _).mono ?_); rintro e v5 ⟨rfl, c5⟩; have C5 := below_then C4 C4.size c5) | (go_at_call 23; (with_reducible refine (T6 _).mono ?_); rintro e v6 ⟨rfl, c6⟩; have C6 := below_then C5 C5.size c6) | (go_at_call 23; (with_reducible refine (T7 _).mono ?_); rintro e v7 ⟨rfl, c7⟩; have C7 := below_then C6 C6.size c7) | (go_at_call 23; (with_reducible refine (T8 _).mono ?_); rintro e v8 ⟨rfl, c8⟩; have C8 := below_then C7 C7.size c8) | (go_at_call 23; (with_reducible refine (T9 _).mono ?_); rintro e v9 ⟨rfl, c9⟩; have C9 := below_then C8 C8.size c9) | (go_at_call 23; (with_reducible refine (T10 _).mono ?_); rintro e v10 ⟨rfl, c10⟩; have C10 := below_then C9 C9.size c10) | (go_at_call 23; (with_reducible refine (T11 _).mono ?_); rintro e v11 ⟨rfl, c11⟩; have C11 := below_then C10 C10.size c11) | (go_at_call 35; (with_reducible refine (M12 _).mono ?_); rintro e m12 ⟨rfl, d12⟩; have D12 := below_then C11 C11.size d12) | (go_at_call 23; (with_reducible refine (T12 _).mono ?_); rintro e v12 ⟨rfl, c12⟩; have C12 := below_then D12 D12.size c12) | (go_at_call 35; (with_reducible refine (M13 _).mono ?_); rintro e m13 ⟨rfl, d13⟩; have D13 := below_then C12 C12.size d13) | (go_at_call 23; (with_reducible refine (T13 _).mono ?_); rintro e v13 ⟨rfl, c13⟩; have C13 := below_then D13 D13.size c13))
  go_ret
  exact ⟨rfl, C13⟩
end Go.Proofs.YtbdodjedigegdaaDoor.P
