import Derived.Test.YtbdodjedigegdaaDoorSLheadBase
import Derived.Laws.EntriesVeiled
namespace Go.Proofs.YtbdodjedigegdaaDoor.P
open Go.RowKit Go.Proofs.YtbdodjedigegdaaDoorW.PrintWords Go.Proofs.YtbdodjedigegdaaDoorW.PrintLast Go.Proofs.YtbdodjedigegdaaDoorW.PrintMore
set_option linter.unusedVariables false
set_option linter.unusedSimpArgs false
set_option linter.unnecessarySimpa false
attribute [local go_sem] max2_int min2_int max_two min_two max_three min_three max_four min_four
set_option linter.unusedVariables false
set_option linter.unusedSimpArgs false
set_option linter.unnecessarySimpa false
/-! ### rows of pairs of texts; rows of bytes; the taker of a head -/
def spr (l : List (ByteArray × ByteArray)) : List Value := l.flatMap fun p => [.string p.1, .string p.2]
theorem spr_length (l : List (ByteArray × ByteArray)) : (spr l).length = l.length * 2 := by
  induction l with
  | nil => rfl
  | cons a t ih =>
    have : spr (a :: t) = .string a.1 :: .string a.2 :: spr t := rfl
    rw [this]
    simp only [List.length_cons, ih]
    omega
theorem spr_append (a b : List (ByteArray × ByteArray)) : spr (a ++ b) = spr a ++ spr b := List.flatMap_append
theorem spr_get : ∀ (l : List (ByteArray × ByteArray)) (i : Nat), i < l.length → (spr l)[i * 2]? = some (.string (l.getD i (⟨#[]⟩, ⟨#[]⟩)).1) ∧ (spr l)[i * 2 + 1]? = some (.string (l.getD i (⟨#[]⟩, ⟨#[]⟩)).2)
  | [], i, h => absurd h (Nat.not_lt_zero _)
  | a :: t, 0, _ => ⟨rfl, rfl⟩
  | a :: t, i + 1, h => by
    have e : spr (a :: t) = .string a.1 :: .string a.2 :: spr t := rfl
    obtain ⟨h1, h2⟩ := spr_get t i (by simpa using h)
    rw [e, show (i + 1) * 2 = i * 2 + 1 + 1 by omega]
    exact ⟨by simpa using h1, by simpa using h2⟩
def u8s (l : List UInt8) : List Value := l.map fun b => .int .u8 (b.toNat : Int)
theorem u8s_length (l : List UInt8) : (u8s l).length = l.length := by unfold u8s; rw [List.length_map]
def txtL (l : List UInt8) : ByteArray := ⟨l.toArray⟩
theorem strOf_u8 (l : List UInt8) : strOfNums (l.map fun b => (b.toNat : Int)) = txtL l := by
  unfold strOfNums txtL
  simp [Function.comp_def]
/-- A row of bytes, laid open. -/
theorem own_u8_form {W : World} {base : Nat} {v : Value} {l : List UInt8} (h : W.ownsRow base 5 1 v l.length (u8s l)) : ∃ A q, v = .slice A l.length q ∧ l.length ≤ q ∧ W.ownsRow base 5 1 (.slice A 0 q) 0 [] ∧ (l.length ≤ 1000000 → ReadsInt W .u8 A l.length (l.map fun b => (b.toNat : Int))) := by
  obtain ⟨hlen, hrest⟩ := h
  rcases hrest with ⟨rfl, h0⟩ | ⟨g, cap, cur, rfl, hg, hh, hnc, hcm, hsz, htk⟩
  · obtain rfl : l = [] := List.eq_nil_of_length_eq_zero h0
    exact ⟨none, 0, rfl, Nat.le_refl _, World.ownsRow_nil _ _ _ _, fun _ => ⟨rfl, by simp, fun h => absurd h (Nat.lt_irrefl _)⟩⟩
  · refine ⟨_, cap, rfl, hnc, ⟨rfl, .inr ⟨g, cap, cur, rfl, hg, hh, Nat.zero_le _, hcm, hsz, by simp⟩⟩, fun hl => ?_⟩
    rw [Nat.mul_one] at hsz htk
    refine ⟨by simp, by omega, fun _ => ⟨⟨g, 0, none⟩, rfl, fun j hj => ?_⟩⟩
    have h1 : (u8s l)[j]? = some (.int .u8 (rd (l.map fun b => (b.toNat : Int)) j)) := by
      unfold u8s rd
      rw [List.getElem?_map, List.getElem?_eq_getElem hj, Int.toNat_natCast, List.getD_eq_getElem?_getD, List.getElem?_map, List.getElem?_eq_getElem hj]
      rfl
    rw [← htk, List.getElem?_take_of_lt hj] at h1
    rw [Addr.add_lit, Nat.zero_add, Lib.cell_of_heap hh]
    rw [Array.getElem?_toList] at h1
    exact h1
theorem spr_slice {W : World} {base : Nat} {e : TypeId} {v : Value} {l : List (ByteArray × ByteArray)} (h : W.ownsRow base e 2 v l.length (spr l)) : ∃ A c, v = .slice A l.length c ∧ l.length ≤ c := by
  obtain ⟨hlen, hrest⟩ := h
  rcases hrest with ⟨rfl, h0⟩ | ⟨g, cap, cur, rfl, hg, hh, hnc, hcm, hsz, htk⟩
  · exact ⟨none, 0, by rw [h0], by omega⟩
  · exact ⟨_, _, rfl, hnc⟩
inductive HSt | first | feed | begin | last | named | valued
def fnOf : HSt → Nat
  | .first => 33
  | .feed => 50
  | .begin => 57
  | .last => 62
  | .named => 63
  | .valued => 67
structure Tk where
  line : ByteArray
  fields : List (ByteArray × ByteArray)
  st : HSt
  text : List UInt8
  name : ByteArray
  over : Bool
/-- The taker in memory. -/
structure TkRaw (B T : Nat) (vf vt : Value) (k : Tk) (W : World) : Prop where
  blk : W.heap[T]? = some (.cells #[.string k.line, vf, .func (.func (fnOf k.st)) #[] #[], vt, .string k.name, .bool k.over] 61 (0, 0))
  hf : W.ownsRow B 46 2 vf k.fields.length (spr k.fields)
  ht : W.ownsRow B 5 1 vt k.text.length (u8s k.text)
  hB : B ≤ W.heap.size
  le : B ≤ T
theorem own_typed' {W : World} {b : Nat} {e : TypeId} {sz n : Nat} {v : Value} {xs : List Value} (h : W.ownsRow b e sz v n xs) (k : Nat) (hk : v.ownBlock = some k) : ∃ c, W.heap[k]? = some (.cells c e (0, 0)) := by
  rcases h.2 with ⟨rfl, _⟩ | ⟨g, cap, cur, rfl, hg, hh, _⟩
  · cases hk
  · cases hk
    exact ⟨cur, hh⟩
theorem TkRaw.nef {B T : Nat} {vf vt : Value} {k : Tk} {W : World} (h : TkRaw B T vf vt k W) : some T ≠ vf.ownBlock := fun e => by
  obtain ⟨c, hc⟩ := own_typed' h.hf T e.symm
  rw [h.blk] at hc
  simp at hc
theorem TkRaw.net {B T : Nat} {vf vt : Value} {k : Tk} {W : World} (h : TkRaw B T vf vt k W) : some T ≠ vt.ownBlock := fun e => by
  obtain ⟨c, hc⟩ := own_typed' h.ht T e.symm
  rw [h.blk] at hc
  simp at hc
theorem TkRaw.nft {B T : Nat} {vf vt : Value} {k : Tk} {W : World} (h : TkRaw B T vf vt k W) : vf.ownBlock = none ∨ vf.ownBlock ≠ vt.ownBlock := by
  cases hv : vf.ownBlock with
  | none => exact .inl rfl
  | some j =>
    refine .inr fun e2 => ?_
    obtain ⟨c1, h1⟩ := own_typed' h.hf j hv
    obtain ⟨c2, h2⟩ := own_typed' h.ht j e2.symm
    rw [h1] at h2
    simp at h2
theorem TkRaw.ntf {B T : Nat} {vf vt : Value} {k : Tk} {W : World} (h : TkRaw B T vf vt k W) : vt.ownBlock = none ∨ vt.ownBlock ≠ vf.ownBlock := by
  rcases h.nft with e | e
  · cases hv : vt.ownBlock with
    | none => exact .inl rfl
    | some j => exact .inr (by rw [e]; exact fun e => by cases e)
  · exact .inr (fun e2 => e e2.symm)
theorem TkRaw.below {B T : Nat} {vf vt : Value} {k : Tk} {W W' : World} (h : TkRaw B T vf vt k W) (hb : Below W.heap.size W W') : TkRaw B T vf vt k W' :=
  ⟨blk_below h.blk hb, pw_own_below h.hf hb, pw_own_below h.ht hb, Nat.le_trans h.hB hb.size, h.le⟩
theorem TkRaw.drew0 {B T : Nat} {vf vt : Value} {k : Tk} {W W' : World} (h : TkRaw B T vf vt k W) (hd : Drawn0 W W') : TkRaw B T vf vt k W' := h.below hd.below
theorem grown_at (W : World) (b i : Nat) (v : Value) : W.grownBy (W.setCell ⟨b, i, none⟩ v) (some b) :=
  ⟨rfl, rfl, rfl, (KeepsWalks.setCell W _ v).size, fun k _ hk => Below.heap_setCell _ _ _ k (fun e => hk (by rw [e]))⟩
theorem own_put {W : World} {B T i : Nat} {e t : TypeId} {sz n : Nat} {v u : Value} {xs : List Value} {cs : Array Value} (h : W.ownsRow B e sz v n xs) (hb : W.heap[T]? = some (.cells cs t (0, 0))) (hne : t ≠ e) : (W.setCell ⟨T, i, none⟩ u).ownsRow B e sz v n xs := by
  refine h.kept (grown_at W T i u) (.inr fun e2 => ?_)
  obtain ⟨c, hc⟩ := own_typed' h T e2
  rw [hb] at hc
  simp at hc
  exact hne hc.2
/-- A store into the taker. -/
theorem TkRaw.put {B T : Nat} {vf vt : Value} {k : Tk} {W : World} (h : TkRaw B T vf vt k W) (i : Nat) (u : Value) {vf' vt' : Value} {k' : Tk}
    (e : (#[.string k.line, vf, .func (.func (fnOf k.st)) #[] #[], vt, .string k.name, .bool k.over] : Array Value).setIfInBounds i u = #[.string k'.line, vf', .func (.func (fnOf k'.st)) #[] #[], vt', .string k'.name, .bool k'.over])
    (hf : W.ownsRow B 46 2 vf' k'.fields.length (spr k'.fields)) (ht : W.ownsRow B 5 1 vt' k'.text.length (u8s k'.text)) : TkRaw B T vf' vt' k' (W.setCell ⟨T, i, none⟩ u) :=
  ⟨blk_put h.blk i u e, own_put hf h.blk (by decide), own_put ht h.blk (by decide), by simpa [World.setCell] using h.hB, h.le⟩
theorem TkRaw.puts {B T : Nat} {vf vt : Value} {k : Tk} {W : World} (h : TkRaw B T vf vt k W) (i : Nat) (u : Value) : Below B W (W.setCell ⟨T, i, none⟩ u) := (Below.refl B W).setCell (p := ⟨T, i, none⟩) h.le _
theorem infoU8 : (Tryd.prog.info? 5).map (fun i => (i.zero, i.size, i.bytes)) = some (some (.int .u8 0), 1, 1) := by kernel_rfl
theorem infoPr : (Tryd.prog.info? 46).map (fun i => (i.zero, i.size, i.bytes)) = some (some (.agg #[.string ⟨#[]⟩, .string ⟨#[]⟩]), 2, 32) := by kernel_rfl
/-- What is known behind an append to the text. -/
def AppT (B T : Nat) (vf vt : Value) (k : Tk) (W X : World) (b : Nat) (c : UInt8) (cn : Int) : Prop :=
  X.ownsRow B 5 1 vt k.text.length (u8s k.text) ∧ B ≤ X.heap.size ∧
  (∀ j u, [Value.int .u8 cn][j]? = some u → X.cell? ((⟨b, 0, none⟩ : Addr).add j) = some u) ∧
  ∀ (v' : Value) (w2 : World), w2.ownsRow B 5 1 v' (k.text.length + 1) (u8s k.text ++ [.int .u8 cn]) → X.grownBy w2 vt.ownBlock →
    (∃ A' c', v' = .slice A' (k.text.length + 1) c') ∧ (w2.cell? ⟨T, 0, none⟩ = some (.string k.line) ∧ w2.cell? ⟨T, 3, none⟩ = some vt ∧ w2.frozen? ⟨T, 3, none⟩ = false) ∧
    TkRaw B T vf v' { k with text := k.text ++ [c] } (w2.setCell ⟨T, 3, none⟩ v') ∧ Below B W (w2.setCell ⟨T, 3, none⟩ v')
theorem app_t {B T : Nat} {vf vt : Value} {k : Tk} {W X : World} {b : Nat} {c : UInt8} {cn : Int} (hcn : (c.toNat : Int) = cn) (h : TkRaw B T vf vt k W) (hb : Below W.heap.size W X) (hx : X.heap[b]? = some (.cells #[.int .u8 cn] 5 (0, 0))) : AppT B T vf vt k W X b c cn := by
  subst hcn
  have h2 := h.below hb
  refine ⟨h2.ht, h2.hB, World.news_of_block (cs := #[.int .u8 (c.toNat : Int)]) hx, fun v' w2 own gr => ?_⟩
  have b2 := blk_grown h2.blk gr h2.net
  have f2 := h2.hf.kept gr h2.nft
  have hs : B ≤ w2.heap.size := Nat.le_trans h2.hB gr.size
  have own2 : w2.ownsRow B 5 1 v' (k.text ++ [c]).length (u8s (k.text ++ [c])) := by
    have e : u8s (k.text ++ [c]) = u8s k.text ++ [.int .u8 (c.toNat : Int)] := by unfold u8s; rw [List.map_append]; rfl
    rw [e, List.length_append]
    exact own
  have r0 : TkRaw B T vf vt { k with text := [] } w2 → True := fun _ => trivial
  have bl : Below B W w2 := (hb.mono h.hB).grown gr h2.hB (fun j hj => (h2.ht.lt j hj).1)
  refine ⟨?_, ⟨(blk_cell b2 0).trans rfl, (blk_cell b2 3).trans rfl, blk_frozen b2 _⟩, ?_, bl.setCell (p := ⟨T, 3, none⟩) h.le _⟩
  · obtain ⟨A', q', e, _⟩ := own_u8_form own2
    rw [List.length_append] at e
    exact ⟨A', q', e⟩
  · exact ⟨blk_put b2 3 v' rfl, own_put f2 b2 (by decide), own_put own2 b2 (by decide), by simpa [World.setCell] using hs, h.le⟩
/-- What is known behind an append to the fields. -/
def AppF (B T : Nat) (vf vt : Value) (k : Tk) (W X : World) (b : Nat) (x y : ByteArray) : Prop :=
  X.ownsRow B 46 2 vf k.fields.length (spr k.fields) ∧ B ≤ X.heap.size ∧
  (∀ j u, [Value.string x, Value.string y][j]? = some u → X.cell? ((⟨b, 0, none⟩ : Addr).add j) = some u) ∧
  ∀ (v' : Value) (w2 : World), w2.ownsRow B 46 2 v' (k.fields.length + 1) (spr k.fields ++ [.string x, .string y]) → X.grownBy w2 vf.ownBlock →
    (∃ A' c', v' = .slice A' (k.fields.length + 1) c') ∧ (w2.cell? ⟨T, 0, none⟩ = some (.string k.line) ∧ w2.cell? ⟨T, 1, none⟩ = some vf ∧ w2.frozen? ⟨T, 1, none⟩ = false) ∧
    TkRaw B T v' vt { k with fields := k.fields ++ [(x, y)] } (w2.setCell ⟨T, 1, none⟩ v') ∧ Below B W (w2.setCell ⟨T, 1, none⟩ v')
theorem app_f {B T : Nat} {vf vt : Value} {k : Tk} {W X : World} {b : Nat} {x y : ByteArray} (h : TkRaw B T vf vt k W) (hb : Below W.heap.size W X) (hx : X.heap[b]? = some (.cells #[.string x, .string y] 46 (0, 0))) : AppF B T vf vt k W X b x y := by
  have h2 := h.below hb
  refine ⟨h2.hf, h2.hB, World.news_of_block (cs := #[.string x, .string y]) hx, fun v' w2 own gr => ?_⟩
  have b2 := blk_grown h2.blk gr h2.nef
  have t2 := h2.ht.kept gr h2.ntf
  have hs : B ≤ w2.heap.size := Nat.le_trans h2.hB gr.size
  have own2 : w2.ownsRow B 46 2 v' (k.fields ++ [(x, y)]).length (spr (k.fields ++ [(x, y)])) := by
    rw [spr_append, List.length_append]
    exact own
  have bl : Below B W w2 := (hb.mono h.hB).grown gr h2.hB (fun j hj => (h2.hf.lt j hj).1)
  refine ⟨?_, ⟨(blk_cell b2 0).trans rfl, (blk_cell b2 1).trans rfl, blk_frozen b2 _⟩, ?_, bl.setCell (p := ⟨T, 1, none⟩) h.le _⟩
  · obtain ⟨A', q', e, _⟩ := spr_slice own2
    rw [List.length_append] at e
    exact ⟨A', q', e⟩
  · exact ⟨blk_put b2 1 v' rfl, own_put own2 b2 (by decide), own_put t2 b2 (by decide), by simpa [World.setCell] using hs, h.le⟩
section
variable {B T : Nat} {vf vt : Value} {k : Tk} {W : World}
set_option maxHeartbeats 2000000 in
theorem tk_keep (h : TkRaw B T vf vt k W) (c : UInt8) (hl : k.text.length ≤ 100000) : Calls Tryd.prog 47 #[.pointer (some ⟨T, 0, none⟩), .int .u8 (c.toNat : Int)] W fun e W' => e = .returned (.int .i64 0) ∧ ∃ vt', TkRaw B T vf vt' { k with text := k.text ++ [c] } W' ∧ Below B W W' := by
  obtain ⟨A, q, ev, -, -, -⟩ := own_u8_form h.ht
  subst ev
  have c3 := blk_cell h.blk 3
  simp at c3
  obtain ⟨i0, hi, hz0, hz1, hz2⟩ := info_parts infoU8
  obtain ⟨cn, hn⟩ : ∃ cn : Int, (c.toNat : Int) = cn := ⟨_, rfl⟩
  have HA := Aside0.mk (app_t (c := c) hn h ((Below.refl _ W).alloc (Nat.le_refl _) _) (blk_new W _))
  rw [hn]
  clear h hn
  go_enter Tryd.func47, Tryd.ntmps47
  go_wp2_with (at_builtin; refine wpList_append_own_at _ rfl _ _ 26 rfl B 5 i0 (.int .u8 0) 1 1 Tryd.underlying26 hi hz0 hz1 hz2 rfl (by decide) _ _ _ rfl HA.out.1 ⟨W.heap.size, 0, none⟩ 1 1 [.int .u8 cn] rfl rfl HA.out.2.2.1 (by simp [Value.oneCell']) (by unfold maxLen; omega) (by omega) HA.out.2.1 ?_; intro v' w2 hown hgrow _ _; obtain ⟨⟨A2, c2, ev⟩, ⟨e0, e3, e4⟩, r1, r2⟩ := HA.out.2.2.2 v' w2 hown hgrow; subst ev; have RR := Aside0.mk (And.intro r1 r2); clear hown hgrow r1 r2)
  go_ret
  exact ⟨rfl, _, RR.out.1, RR.out.2⟩
set_option maxHeartbeats 2000000 in
theorem tk_taken (h : TkRaw B T vf vt k W) (hl : k.text.length ≤ 100000) : Calls Tryd.prog 48 #[.pointer (some ⟨T, 0, none⟩)] W fun e W' => e = .returned (.string (txtL k.text)) ∧ ∃ vt', TkRaw B T vf vt' { k with text := [] } W' ∧ Below B W W' := by
  obtain ⟨A, q, ev, hq, hown, hrd⟩ := own_u8_form h.ht
  subst ev
  have c3 := blk_cell h.blk 3
  simp at c3
  have f3 := blk_frozen h.blk 3
  have hst := string_of_reads (P := Tryd.prog) (c := q) Tryd.underlying26 Tryd.underlying5 Tryd.underlying9 (hrd (by omega))
  rw [strOf_u8] at hst
  have hput := Aside0.mk (h.put 3 (.slice A 0 q) (vf' := vf) (vt' := .slice A 0 q) (k' := { k with text := [] }) rfl h.hf hown)
  have hbel := Aside0.mk (h.puts 3 (.slice A 0 q))
  clear h hown hrd
  have HQ := Aside0.mk hq
  have hq0 : (0 : Int) ≤ (q : Int) := by omega
  go_enter Tryd.func48, Tryd.ntmps48
  go_wp2
  go_ret
  exact ⟨rfl, _, hput.out, hbel.out⟩
theorem tk_next (h : TkRaw B T vf vt k W) (st : HSt) : Calls Tryd.prog 49 #[.pointer (some ⟨T, 0, none⟩), .func (.func (fnOf st)) #[] #[]] W fun e W' => e = .returned (.int .i64 0) ∧ TkRaw B T vf vt { k with st := st } W' ∧ Below B W W' := by
  have f2 := blk_frozen h.blk 2
  have c2 := blk_cell h.blk 2
  simp at c2
  have hput := Aside0.mk (h.put 2 (.func (.func (fnOf st)) #[] #[]) (vf' := vf) (vt' := vt) (k' := { k with st := st }) rfl h.hf h.ht)
  have hbel := Aside0.mk (h.puts 2 (.func (.func (fnOf st)) #[] #[]))
  clear h
  generalize fnOf st = F at *
  generalize fnOf k.st = F0 at *
  go_enter Tryd.func49, Tryd.ntmps49
  go_wp2
  go_ret
  exact ⟨rfl, hput.out, hbel.out⟩
end
end Go.Proofs.YtbdodjedigegdaaDoor.P
