import Derived.RangeFuncBox
import Derived.RangeFuncLeaves
import Derived.RangeFuncNested
import Derived.OwnWalkIn
import Derived.TacticsInMore
import Derived.LoopNIn
import Derived.LoopIn
import Derived.Test.YtpllckhmnjgohaaDoorWWords
import Derived.Test.YtpllckhmnjgohaaDoorWLast
import Derived.Test.YtpllckhmnjgohaaDoorWMore
namespace Go.Proofs.YtpllckhmnjgohaaDoor.P
open Go Go.RowKit
set_option linter.unusedVariables false
/-! ### A range over an iterator that gives a known row of texts, and that may turn cells of its own between rounds -/
/-- How the body of round k is left. -/
def brPost (B : Nat) (Kp : World → World → Prop) (I : Nat → World → Prop) (Ix : Code → Nat → World → Prop) (k : Nat) (W : World) : Exit → Act → World → Prop
  | .normal, _, W' => KeepsFrom B W W' ∧ Kp W W' ∧ I (k + 1) W'
  | .ret, _, W' => KeepsFrom B W W' ∧ Ix .ret k W'
  | .exit id, _, W' => KeepsFrom B W W' ∧ Ix (.exit id) k W'
  | .goto _, _, _ => False
  | .panic _, _, _ => False
  | .outgrown, _, _ => False
/-- The iterator's word: the texts ps, one behind the other; Kp: what a round keeps for it; Tn: what it does itself between two rounds. -/
def SeqN (n : Nat) (P : Program) (g : Nat) (lb : Array Value) (ps : List ByteArray) (Kp Tn : World → World → Prop) (w : World) : Prop :=
  ∀ (l : Nat) (J Jx : Nat → World → Prop) (W : World), Below w.heap.size w W → (∀ k A B, Tn A B → J k A → J k B) →
    (∀ k A, J k A → k < ps.length → YieldAt Fence.wide (n - 1) P l #[.string (ps.getD k ByteArray.empty)] A fun e B =>
      (e = .returned (.bool true) ∧ J (k + 1) B ∧ Kp A B) ∨ (e = .returned (.bool false) ∧ Jx k B)) →
    J 0 W →
    CallsIn Fence.wide n P g (#[.func (.yield l) #[] #[]] ++ lb) W fun e B => (∃ v, e = .returned v) ∧ (J ps.length B ∨ ∃ k, k < ps.length ∧ Jx k B)
theorem SeqN.later {n : Nat} {P : Program} {g : Nat} {lb : Array Value} {ps : List ByteArray} {Kp Tn : World → World → Prop} {w w' : World} (h : SeqN n P g lb ps Kp Tn w) (hb : Below w.heap.size w w') : SeqN n P g lb ps Kp Tn w' :=
  fun l J Jx W hW hT hY h0 => h l J Jx W (hb.trans (hW.mono hb.size)) hT hY h0
theorem wpIn_rangeN {n : Nat} {P : Program} {g : Operand} {tp : Array Tmp} {assign body : Code} {Q : Exit → Act → World → Prop} {a : Act} {w : World}
    (h1 : 1 ≤ n) {gf : Nat} {lb : Array Value} (hg : a.eval g = .func (.func gf) #[] lb) (eg : ∀ args w, (callFunc gf args).run P w = .ok (.enter gf args) w)
    {ps : List ByteArray} {Kp Tn : World → World → Prop} {w0 : World} (hseq : SeqN (n - 1) P gf lb ps Kp Tn w0) (hb0 : Below w0.heap.size w0 w) (htp : tp.size = 1)
    (hKt : ∀ {A B C : World}, Kp A B → Kp B C → Kp A C) (hKb : ∀ (W : World) (l : Nat) (o o' : Obj), w.heap.size ≤ l → W.heap[l]? = some o → o.isCells = false → Kp W (W.putObj l o'))
    (hTn : ∀ A B, Tn A B → ∀ (j : Nat) (o : Obj), w.heap.size ≤ j → A.heap[j]? = some o → o.isCells = false → B.heap[j]? = some o)
    (I : Nat → World → Prop) (Ix : Code → Nat → World → Prop) (hI : OwnFrom w.heap.size I) (hIx : ∀ c, OwnFrom w.heap.size (Ix c)) (hIT : ∀ k A B, Tn A B → I k A → I k B) (h0 : I 0 w) (a₁ : ByteArray → Act)
    (hassign : ∀ (l : Nat) (x : ByteArray) (W : World) (K : Act → World → Prop), K (a₁ x) W →
      assign.wpIn (Fence.wide.inRound l) (n - 1 - 1) P (Exit.then K (fun _ _ _ => False)) { tmps := (tp.zip #[.string x]).foldl (fun t (p, v) => t.setIfInBounds p v) a.tmps, defers := [] } W)
    (hbody : ∀ (l : Nat) (k : Nat) (W : World), w.heap.size ≤ l → (∃ r, W.heap[l]? = some (.loop r)) → I k W → k < ps.length → body.wpIn (Fence.wide.inRound l) (n - 1 - 1) P (brPost w.heap.size Kp I Ix k W) (a₁ (ps.getD k ByteArray.empty)) W)
    (hdone : ∀ (D : Nat) (W : World), w.heap.size ≤ D → I ps.length W → W.heap[D]? = some (.deferred (some [])) → Q .normal { a with defers := { target := .collected D, args := #[] } :: a.defers } W)
    (hstop : ∀ (D : Nat) (c : Code) (k : Nat) (W : World), w.heap.size ≤ D → k < ps.length → Ix c k W → W.heap[D]? = some (.deferred (some [])) → c.wpIn Fence.wide n P Q { a with defers := { target := .collected D, args := #[] } :: a.defers } W) :
    (Code.rangeFunc g tp assign body).wpIn Fence.wide n P Q a w := by
  refine wpIn_rangeFunc fun fn hfn => ?_
  obtain ⟨S, hS⟩ : ∃ S, S = w.heap.size := ⟨_, rfl⟩
  obtain ⟨rec, hrec⟩ : ∃ rec : LoopState → Option Code → Loop, rec = fun st pe => { state := st, pending := pe, fn, tmps := a.tmps, params := tp, assign, body, defers := S } := ⟨_, rfl⟩
  obtain ⟨W1, hW1⟩ : ∃ W1, W1 = (w.alloc (.deferred (some []))).alloc (.loop (rec .ready none)) := ⟨_, rfl⟩
  have hD1 : W1.heap[S]? = some (.deferred (some [])) := by
    rw [hW1, hS]; exact (Below.heap_alloc _ _ _ (by simp)).trans (World.alloc_heap_new w _)
  have hL1 : W1.heap[S + 1]? = some (.loop (rec .ready none)) := by
    have := World.alloc_heap_new (w.alloc (.deferred (some []))) (.loop (rec .ready none))
    rwa [World.size_alloc, ← hS, ← hW1] at this
  have hI1 : I 0 W1 := by rw [hW1]; exact hI.alloc _ (hI.alloc _ h0)
  have hb1 : Below w0.heap.size w0 W1 := by
    rw [hW1]; exact hb0.trans ((((Below.refl _ w).alloc (Nat.le_refl _) _).alloc (by simp) _).mono hb0.size)
  refine ⟨S + 1, [{ target := .collected S, args := #[] }], W1, { target := .fn (.func gf) lb, args := #[.func (.yield (S + 1)) #[] #[]] }, W1, gf, #[.func (.yield (S + 1)) #[] #[]] ++ lb, W1, ?enter, ?_, ?_, ?_, fun _ => h1, ?calls⟩
  case enter =>
    rw [hW1, hrec, hS]
    exact run_enterLoop_outer _ _ _ _ _
  · simp only [resolve, hg]
    simp [go_sem]
  · intro f' _; trivial
  · simp [invoke, go_sem, eg]
  case calls =>
  -- the loop's two blocks: the record and the block for the rounds' deferred calls
  have hd1 : (Obj.deferred (some [])).isCells = false := rfl
  have hl1 : ∀ r : Loop, (Obj.loop r).isCells = false := fun _ => rfl
  have turned : ∀ {k : Nat} {W : World} {r r' : Loop}, I k W → W.heap[S + 1]? = some (.loop r) → W.heap[S]? = some (.deferred (some [])) →
      I k (W.putObj (S + 1) (.loop r')) ∧ (W.putObj (S + 1) (.loop r')).heap[S + 1]? = some (.loop r') ∧ (W.putObj (S + 1) (.loop r')).heap[S]? = some (.deferred (some [])) :=
    fun hi hl hd => ⟨hI.putObj _ hi (by omega) hl rfl, World.putObj_heap_same (Array.getElem?_eq_some_iff.1 hl).1, (World.putObj_heap_other (by omega)).trans hd⟩
  have turnedx : ∀ {c : Code} {k : Nat} {W : World} {r r' : Loop}, Ix c k W → W.heap[S + 1]? = some (.loop r) → W.heap[S]? = some (.deferred (some [])) →
      Ix c k (W.putObj (S + 1) (.loop r')) ∧ (W.putObj (S + 1) (.loop r')).heap[S + 1]? = some (.loop r') ∧ (W.putObj (S + 1) (.loop r')).heap[S]? = some (.deferred (some [])) :=
    fun hi hl hd => ⟨(hIx _).putObj _ hi (by omega) hl rfl, World.putObj_heap_same (Array.getElem?_eq_some_iff.1 hl).1, (World.putObj_heap_other (by omega)).trans hd⟩
  refine (hseq (S + 1) (fun k W => I k W ∧ W.heap[S + 1]? = some (.loop (rec .ready none)) ∧ W.heap[S]? = some (.deferred (some [])))
    (fun k W => ∃ c, Ix c k W ∧ W.heap[S + 1]? = some (.loop (rec .done (some c))) ∧ W.heap[S]? = some (.deferred (some []))) W1 hb1 ?turn ?round ⟨hI1, hL1, hD1⟩).mono ?behind
  case turn =>
    rintro k A B ht ⟨hi, hl, hd⟩
    exact ⟨hIT k A B ht hi, hTn A B ht _ _ (by omega) hl rfl, hTn A B ht _ _ (by omega) hd rfl⟩
  case round =>
    rintro k W ⟨hi, hl, hd⟩ hk
    have hy := run_yield (P := P) (args := #[.string (ps.getD k ByteArray.empty)]) hl (by rw [hrec]; simp [htp])
    rw [hrec] at hy
    refine ⟨fn, _, assign, body, hy, roundIn_of_wpIn trivial (hassign _ _ W _ ⟨_, run_beginRound hl (by rw [hrec]), ?_⟩)⟩
    obtain ⟨hi2, hl2, hd2⟩ := turned (r' := { rec .ready none with state := .busy }) hi hl hd
    have hkp2 := hKb W (S + 1) _ (.loop { rec .ready none with state := .busy }) (by omega) hl rfl
    generalize W.putObj (S + 1) (.loop { rec .ready none with state := .busy }) = W2 at hi2 hl2 hd2 hkp2
    refine wpIn_mono (hbody _ k W2 (by omega) ⟨_, hl2⟩ hi2 hk) ?_
    have ends : ∀ (jump : Option Code) (W3 : World), KeepsFrom w.heap.size W2 W3 →
        (Instr.endRound (S + 1) jump).run P W3 = .ok (.bool jump.isNone) (W3.putObj (S + 1) (.loop (rec (if jump.isNone then .ready else .done) jump))) ∧ W3.heap[S + 1]? = some (.loop { rec .ready none with state := .busy }) ∧ W3.heap[S]? = some (.deferred (some [])) := fun jump W3 hk3 => by
      have hl3 := hk3.same _ _ (by omega) hl2 rfl
      have hr := run_endRound (P := P) jump hl3
      refine ⟨?_, hl3, hk3.same _ _ (by omega) hd2 rfl⟩
      rw [hrec] at hr ⊢
      exact hr
    rintro e a3 W3 hp
    cases e with
    | normal =>
      obtain ⟨hk3, hkp3, hi3⟩ := hp
      obtain ⟨hr, hl3, hd3⟩ := ends none W3 hk3
      exact ⟨_, _, hr, .inl ⟨rfl, turned hi3 hl3 hd3, hKt (hKt hkp2 hkp3) (hKb _ _ _ _ (by omega) hl3 rfl)⟩⟩
    | ret =>
      obtain ⟨hk3, hi3⟩ := hp
      obtain ⟨hr, hl3, hd3⟩ := ends (some .ret) W3 hk3
      exact ⟨_, _, hr, .inr ⟨rfl, .ret, turnedx hi3 hl3 hd3⟩⟩
    | exit id =>
      obtain ⟨hk3, hi3⟩ := hp
      obtain ⟨hr, hl3, hd3⟩ := ends (some (.exit id)) W3 hk3
      exact ⟨_, _, hr, .inr ⟨rfl, .exit id, turnedx hi3 hl3 hd3⟩⟩
    | goto t => exact hp.elim
    | panic ch => exact hp.elim
    | outgrown => exact hp.elim
  case behind =>
    rintro e W2 ⟨⟨v, rfl⟩, (⟨hi, hl, hd⟩ | ⟨k, hk, c, hi, hl, hd⟩)⟩
    · have hr := run_endLoop (P := P) hl (by rw [hrec]; simp)
      obtain ⟨hi2, _, hd2⟩ := turned (r' := { rec .ready none with state := .exhausted }) hi hl hd
      refine ⟨none, _, by rw [hrec] at hr; exact hr, ?_⟩
      rw [hrec] at hi2 hd2
      exact hdone _ _ (by omega) hi2 hd2
    · have hr := run_endLoop (P := P) hl (by rw [hrec]; simp)
      obtain ⟨hi2, _, hd2⟩ := turnedx (r' := { rec .done (some c) with state := .exhausted }) hi hl hd
      refine ⟨some c, _, by rw [hrec] at hr; exact hr, ?_⟩
      rw [hrec] at hi2 hd2
      exact hstop _ c k _ (by omega) hk hi2 hd2
end Go.Proofs.YtpllckhmnjgohaaDoor.P
