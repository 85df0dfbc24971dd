import Derived.Test.YtnlckandbgpncaaSLref03
namespace Go.Proofs.Ytnlckandbgpncaa.P
open Go.RowKit Go.Proofs.YtnlckandbgpncaaW.PrintWords Go.Proofs.YtnlckandbgpncaaW.PrintLast Go.Proofs.YtnlckandbgpncaaW.PrintMore
set_option linter.unusedVariables false
set_option linter.unusedSimpArgs false
set_option linter.unnecessarySimpa false
attribute [local go_sem] max2_int min2_int max_two min_two max_three min_three max_four min_four
/-! ### the rack and the document's rack hold the same -/
theorem give_facts {ks : List Int} {step : Int} (hst : 1 ≤ step) : ∀ (n : Nat) (nx : Int), (∀ x, giveAt ks step n nx = some x → nx ≤ x ∧ x ≤ 1099511627775 ∧ ks.contains x = false ∧ giveNx ks step n nx = x + step) ∧ (giveAt ks step n nx = none → nx ≤ giveNx ks step n nx ∧ (giveNx ks step n nx = nx ∨ giveNx ks step n nx ≤ 1099511627775 + step))
  | 0, nx => ⟨fun x h => (by cases h), fun _ => ⟨Int.le_refl _, .inl rfl⟩⟩
  | n + 1, nx => by
    unfold giveAt giveNx
    by_cases h : 1099511627775 < nx
    · rw [if_pos h, if_pos h]
      exact ⟨fun x h => (by cases h), fun _ => ⟨Int.le_refl _, .inl rfl⟩⟩
    · rw [if_neg h, if_neg h]
      cases hc : ks.contains nx with
      | true =>
        rw [if_pos rfl, if_pos rfl]
        obtain ⟨h1, h2⟩ := give_facts (ks := ks) hst n (nx + step)
        refine ⟨fun x hx => ?_, fun hx => ?_⟩
        · obtain ⟨g1, g2, g3, g4⟩ := h1 x hx
          exact ⟨by omega, g2, g3, g4⟩
        · obtain ⟨g1, g2⟩ := h2 hx
          exact ⟨by omega, .inr (by omega)⟩
      | false =>
        rw [if_neg (by decide), if_neg (by decide)]
        refine ⟨fun x hx => ?_, fun hx => (by cases hx)⟩
        obtain rfl := Option.some.inj hx
        exact ⟨Int.le_refl _, by omega, hc, rfl⟩
theorem gv_facts {ks : List Int} {size next step : Int} (hst : 1 ≤ step) (hst2 : step ≤ 1000) (h1 : 1 ≤ next) (h2 : next ≤ 1099511629000) :
    (gvId ks size next step = none ∧ 1 ≤ gvNx ks size next step ∧ gvNx ks size next step ≤ 1099511629000) ∨ ∃ x, gvId ks size next step = some x ∧ 1 ≤ x ∧ ks.contains x = false ∧ (ks.length : Int) < size ∧ 1 ≤ gvNx ks size next step ∧ gvNx ks size next step ≤ 1099511629000 := by
  unfold gvId gvNx
  by_cases hf : size ≤ (ks.length : Int)
  · rw [if_pos hf, if_pos hf]
    exact .inl ⟨rfl, h1, h2⟩
  · rw [if_neg hf, if_neg hf]
    obtain ⟨g1, g2⟩ := give_facts (ks := ks) hst (1099511627776 - next).toNat next
    cases ho : giveAt ks step (1099511627776 - next).toNat next with
    | none =>
      obtain ⟨q1, q2⟩ := g2 ho
      exact .inl ⟨rfl, by omega, by omega⟩
    | some x =>
      obtain ⟨q1, q2, q3, q4⟩ := g1 x ho
      exact .inr ⟨x, rfl, by omega, q3, by omega, by omega, by omega⟩
/-- The same under the same ids. -/
structure Sim (ks vs : List Int) (l : List (Int × Int)) : Prop where
  len : l.length = ks.length
  nod : (l.map Prod.fst).Nodup
  mem : ∀ x y, (x, y) ∈ l ↔ ks.contains x = true ∧ y = getV ks vs x
theorem hasR_iff {l : List (Int × Int)} {x : Int} : hasR l x = true ↔ ∃ y, (x, y) ∈ l := by
  unfold hasR
  rw [decide_eq_true_eq]
  constructor
  · intro h
    have h1 := atN_get l x h
    refine ⟨(l.getD (atN l x) (0, 0)).2, ?_⟩
    have e : l.getD (atN l x) (0, 0) = l[atN l x] := by rw [List.getD_eq_getElem?_getD, List.getElem?_eq_getElem h]; rfl
    rw [e] at h1 ⊢
    have : l[atN l x] ∈ l := List.getElem_mem h
    rwa [show l[atN l x] = (x, l[atN l x].2) from Prod.ext h1 rfl] at this
  · rintro ⟨y, hy⟩
    obtain ⟨j, hj, e⟩ := List.mem_iff_getElem.1 hy
    have e2 : l.getD j (0, 0) = (x, y) := by rw [List.getD_eq_getElem?_getD, List.getElem?_eq_getElem hj, e]; rfl
    have := atN_has l j hj
    rw [e2] at this
    exact Nat.lt_of_le_of_lt this hj
theorem getR_mem {l : List (Int × Int)} {x : Int} (h : hasR l x = true) : (x, getR l x) ∈ l := by
  have hlt := (atI_yes h).2
  have h1 := atN_get l x hlt
  have e : l.getD (atN l x) (0, 0) = l[atN l x] := by rw [List.getD_eq_getElem?_getD, List.getElem?_eq_getElem hlt]; rfl
  unfold getR
  rw [if_pos h, e]
  rw [e] at h1
  have : l[atN l x] ∈ l := List.getElem_mem hlt
  rwa [show l[atN l x] = (x, l[atN l x].2) from Prod.ext h1 rfl] at this
section
variable {ks vs : List Int} {l : List (Int × Int)}
theorem Sim.has (h : Sim ks vs l) (x : Int) : hasR l x = ks.contains x := by
  rw [Bool.eq_iff_iff, hasR_iff]
  constructor
  · rintro ⟨y, hy⟩
    exact ((h.mem x y).1 hy).1
  · intro hc
    exact ⟨_, (h.mem x _).2 ⟨hc, rfl⟩⟩
theorem Sim.get (h : Sim ks vs l) (x : Int) : getR l x = getV ks vs x := by
  cases hc : hasR l x with
  | true => exact ((h.mem x _).1 (getR_mem hc)).2
  | false =>
    have hk := (h.has x).symm.trans hc
    unfold getR getV
    rw [if_neg (by rw [hc]; decide), if_neg (by rw [hk]; decide)]
theorem Sim.er (h : Sim ks vs l) (x : Int) : erR l x = erK ks x := by
  unfold erR erK
  rw [h.has]
theorem Sim.nil : Sim [] [] [] := ⟨rfl, List.nodup_nil, fun x y => by simp⟩
theorem Sim.more (h : Sim ks vs l) (ok : TbOk ks vs) {k v : Int} (hl : ks.length ≤ 99) (hc : ks.contains k = false) : Sim (putK ks k) (putV ks vs k v) (l ++ [(k, v)]) := by
  have hn : ∀ y, (k, y) ∉ l := fun y hy => by
    have := ((h.mem k y).1 hy).1
    rw [hc] at this
    cases this
  refine ⟨?_, ?_, fun x y => ?_⟩
  · rw [putK_length, if_neg (by rw [hc]; decide), List.length_append, h.len]
    rfl
  · rw [List.map_append, List.nodup_append]
    refine ⟨h.nod, by simp, fun a ha b hb => ?_⟩
    obtain ⟨p, hp, rfl⟩ := List.mem_map.1 ha
    have hb2 : b = k := by simpa using hb
    rw [hb2]
    intro e
    exact hn p.2 (by rw [← e]; exact hp)
  · rw [List.mem_append, List.mem_singleton, contains_putK]
    by_cases hx : x = k
    · subst hx
      rw [getV_put ok x v x hl (by rw [contains_putK]; simp), if_pos rfl]
      simp [hn]
    · constructor
      · rintro (h1 | h1)
        · obtain ⟨h2, h3⟩ := (h.mem x y).1 h1
          refine ⟨by rw [h2]; simp, ?_⟩
          rw [getV_put ok k v x hl (by rw [contains_putK, h2]; simp), if_neg hx]
          exact h3
        · exact absurd (Prod.mk.inj h1).1 hx
      · rintro ⟨h1, h2⟩
        have h1' : ks.contains x = true := by simpa [hx] using h1
        rw [getV_put ok k v x hl (by rw [contains_putK, h1']; simp), if_neg hx] at h2
        exact .inl ((h.mem x y).2 ⟨h1', h2⟩)
theorem Sim.other (h : Sim ks vs l) (ok : TbOk ks vs) {k v : Int} (hl : ks.length ≤ 99) (hc : ks.contains k = true) : Sim ks (putV ks vs k v) (setR l k v) := by
  have hh : hasR l k = true := (h.has k).trans hc
  have hlt := (atI_yes hh).2
  have h1 := atN_get l k hlt
  have ek : putK ks k = ks := by unfold putK; rw [if_pos hc]
  have hg : ∀ x, ks.contains x = true → getV ks (putV ks vs k v) x = if x = k then v else getV ks vs x := fun x hx => by
    have := getV_put ok k v x hl (by rw [ek]; exact hx)
    rwa [ek] at this
  have es : setR l k v = l.set (atN l k) (k, v) := by unfold setR; rw [if_pos hh, h1]
  have e : l.getD (atN l k) (0, 0) = l[atN l k] := by rw [List.getD_eq_getElem?_getD, List.getElem?_eq_getElem hlt]; rfl
  rw [e] at h1
  rw [es]
  have em : (l.set (atN l k) (k, v)).map Prod.fst = l.map Prod.fst := by
    rw [List.map_set]
    refine List.ext_getElem (by simp) (fun n q1 q2 => ?_)
    rw [List.getElem_set]
    split
    · rename_i hn
      subst hn
      rw [List.getElem_map]
      exact h1.symm
    · rfl
  have huniq : ∀ j (hj : j < l.length), l[j].1 = k → j = atN l k := fun j hj hjk => by
    have hnd := h.nod
    refine (List.getElem_inj (xs := l.map Prod.fst) (h₀ := by simpa using hj) (h₁ := by simpa using hlt) hnd).1 ?_
    rw [List.getElem_map, List.getElem_map, hjk, h1]
  refine ⟨by rw [List.length_set]; exact h.len, by rw [em]; exact h.nod, fun x y => ?_⟩
  constructor
  · intro hm
    obtain ⟨j, hj, ej⟩ := List.mem_iff_getElem.1 hm
    rw [List.getElem_set] at ej
    have hj2 : j < l.length := by simpa using hj
    split at ej
    · obtain ⟨rfl, rfl⟩ := Prod.mk.inj ej
      exact ⟨hc, by rw [hg k hc, if_pos rfl]⟩
    · rename_i hn
      have hml : (x, y) ∈ l := by rw [← ej]; exact List.getElem_mem hj2
      obtain ⟨q1, q2⟩ := (h.mem x y).1 hml
      refine ⟨q1, ?_⟩
      rw [hg x q1, if_neg (fun e => hn ?_)]
      · exact q2
      · exact (huniq j hj2 (by rw [ej]; exact e)).symm
  · rintro ⟨q1, q2⟩
    rw [hg x q1] at q2
    by_cases hx : x = k
    · rw [if_pos hx] at q2
      subst q2 hx
      exact List.mem_iff_getElem.2 ⟨atN l x, by simpa using hlt, by rw [List.getElem_set_self]⟩
    · rw [if_neg hx] at q2
      obtain ⟨j, hj, ej⟩ := List.mem_iff_getElem.1 ((h.mem x y).2 ⟨q1, q2⟩)
      refine List.mem_iff_getElem.2 ⟨j, by simpa using hj, ?_⟩
      rw [List.getElem_set_ne]
      · exact ej
      · intro e2
        subst e2
        rw [ej] at h1
        exact hx h1
theorem Sim.less (h : Sim ks vs l) (ok : TbOk ks vs) (k : Int) : Sim (dropK ks k) (dropV ks vs k) (delR l k) := by
  cases hh : hasR l k with
  | false =>
    have hc := (h.has k).symm.trans hh
    have e1 : delR l k = l := by unfold delR; rw [if_neg (by rw [hh]; decide)]
    have e2 : dropK ks k = ks := by unfold dropK; rw [if_neg (by rw [hc]; decide)]
    have e3 : dropV ks vs k = vs := by unfold dropV; rw [if_neg (by rw [hc]; decide)]
    rw [e1, e2, e3]
    exact h
  | true =>
    have hc := (h.has k).symm.trans hh
    have hlt := (atI_yes hh).2
    have h1 := atN_get l k hlt
    have e : l.getD (atN l k) (0, 0) = l[atN l k] := by rw [List.getD_eq_getElem?_getD, List.getElem?_eq_getElem hlt]; rfl
    rw [e] at h1
    have es : delR l k = l.eraseIdx (atN l k) := by unfold delR; rw [if_pos hh]
    rw [es]
    have huniq : ∀ j (hj : j < l.length), l[j].1 = k → j = atN l k := fun j hj hjk => by
      have hnd := h.nod
      refine (List.getElem_inj (xs := l.map Prod.fst) (h₀ := by simpa using hj) (h₁ := by simpa using hlt) hnd).1 ?_
      rw [List.getElem_map, List.getElem_map, hjk, h1]
    refine ⟨?_, ?_, fun x y => ?_⟩
    · rw [List.length_eraseIdx, if_pos hlt, dropK_length, if_pos hc, h.len]
    · exact h.nod.sublist ((List.eraseIdx_sublist _ _).map _)
    · rw [List.mem_eraseIdx_iff_getElem, contains_dropK ok.sorted]
      constructor
      · rintro ⟨j, hj, hne, ej⟩
        have hml : (x, y) ∈ l := by rw [← ej]; exact List.getElem_mem hj
        obtain ⟨q1, q2⟩ := (h.mem x y).1 hml
        have hxk : x ≠ k := fun e => hne (huniq j hj (by rw [ej]; exact e))
        have hd : (dropK ks k).contains x = true := by rw [contains_dropK ok.sorted, q1]; simp [hxk]
        refine ⟨by rw [q1]; simp [hxk], ?_⟩
        rw [getV_drop ok k x hd]
        exact q2
      · rintro ⟨q1, q2⟩
        have hxk : x ≠ k := fun e => by simp [e] at q1
        have q3 : ks.contains x = true := by simpa [hxk] using q1
        have hd : (dropK ks k).contains x = true := by rw [contains_dropK ok.sorted, q3]; simp [hxk]
        rw [getV_drop ok k x hd] at q2
        obtain ⟨j, hj, ej⟩ := List.mem_iff_getElem.1 ((h.mem x y).2 ⟨q3, q2⟩)
        refine ⟨j, hj, fun e2 => ?_, ej⟩
        subst e2
        rw [ej] at h1
        exact hxk h1
theorem Sim.hold (h : Sim ks vs l) {size k : Int} (hsz : (ks.length : Int) ≤ size) : erHR l size k = erH ks size k := by
  unfold erHR erH
  rw [h.has]
  by_cases h1 : ks.contains k = true ∨ k < 1 ∨ 1099511627775 < k
  · rw [if_pos h1, if_pos]
    rcases h1 with h1 | h1 | h1
    · exact .inr (.inr h1)
    · exact .inl h1
    · exact .inr (.inl h1)
  · rw [if_neg h1, if_neg]
    · have := h.len
      by_cases h2 : size ≤ (ks.length : Int)
      · rw [if_pos h2, if_pos (by omega)]
      · rw [if_neg h2, if_neg (by omega)]
    · rintro (h2 | h2 | h2)
      · exact h1 (.inr (.inl h2))
      · exact h1 (.inr (.inr h2))
      · exact h1 (.inl h2)
end
end Go.Proofs.Ytnlckandbgpncaa.P
