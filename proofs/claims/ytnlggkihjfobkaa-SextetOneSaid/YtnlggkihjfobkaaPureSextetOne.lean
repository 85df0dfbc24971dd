import Derived.Test.YtnlggkihjfobkaaStsextetOne
import Derived.Test.YtnlggkihjfobkaaSextetLem3
namespace Go.Proofs.Ytnlggkihjfobkaa.Pure
open Go.RowKit Go.Proofs.Ytnlggkihjfobkaa.P Go.Proofs.YtnlggkihjfobkaaW.PrintWords Go.Proofs.YtnlggkihjfobkaaW.PrintLast

theorem mk_size (l : List UInt8) : (⟨l.toArray⟩ : ByteArray).size = l.length := by simp [ByteArray.size]
theorem str_up_inj {a b : List Nat} (ha : Small a) (hb : Small b) (h : (strOfNums (up a)).toList = (strOfNums (up b)).toList) : a = b := by
  have e : ∀ l : List Nat, Small l → ((strOfNums (up l)).toList).map UInt8.toNat = l := fun l hl => by
    rw [ByteArray.toList_eq]
    unfold strOfNums up
    simp only [List.map_map]
    conv => rhs; rw [← List.map_id l]
    refine List.map_congr_left fun n hn => ?_
    have := hl n hn
    simp
    omega
  rw [← e a ha, ← e b hb, h]
theorem bytesOf_mk (l : List UInt8) : bytesOf ⟨l.toArray⟩ = cd l := rfl
theorem set_str (l : List UInt8) (k : Nat) (c : Int) : (strOfNums ((cd l).set k c)).data.toList = l.set k (UInt8.ofNat c.toNat) := by
  unfold strOfNums
  rw [List.map_set]
  show (List.map (fun n : Int => UInt8.ofNat n.toNat) (cd l)).set k _ = _
  have : (cd l).map (fun n : Int => UInt8.ofNat n.toNat) = l := by
    unfold cd
    rw [List.map_map]
    conv => rhs; rw [← List.map_id l]
    exact List.map_congr_left fun b _ => by simp
  rw [this]
theorem SextetOne : postilionlaw05_SextetOne.Pure := by
  intro l0 a1 a2 _ _ hw _ hc
  obtain ⟨ns, rfl, hs⟩ := of_wf hw
  simp only [Lit.wf, Bool.and_eq_true, decide_eq_true_eq] at hc
  have c0 : 0 ≤ a2 := hc.1
  have c1 : a2 ≤ 255 := hc.2
  unfold postilionlaw05_SextetOne.f
  rw [up_length]
  by_cases z : ns.length = 0 ∨ 3000 < ns.length
  · rw [if_pos z]
  · have hl := encS_len ns
    rw [if_neg z, encF hs (by omega), Option.bind_some, mk_size]
    rw [if_neg (by omega), bytesOf_mk]
    have hk : sxPlace a1 (encS ns).length < (encS ns).length := by
      have h1 := Int.emod_lt_of_pos (a1 % 18446744073709551616) (show (0 : Int) < ((encS ns).length : Int) by omega)
      have h2 := Int.emod_nonneg (a1 % 18446744073709551616) (show ((encS ns).length : Int) ≠ 0 by omega)
      unfold sxPlace
      omega
    generalize sxPlace a1 (encS ns).length = k at hk ⊢
    have hset := set_str (encS ns) k a2
    have hrd : rd (cd (encS ns)) (k : Int) = (((encS ns)[k].toNat : Nat) : Int) := by
      unfold rd cd
      rw [Int.toNat_natCast, List.getD_eq_getElem?_getD, List.getElem?_map, List.getElem?_eq_getElem hk]
      rfl
    have hsame : ((((encS ns)[k].toNat : Nat) : Int) = a2) ↔ (encS ns)[k] = UInt8.ofNat a2.toNat := by
      constructor
      · intro h
        rw [← h]
        simp
      · intro h
        rw [h]
        simp
        omega
    have hsz : (strOfNums ((cd (encS ns)).set k a2)).size ≤ 10000 := by
      rw [← data_length, hset, List.length_set]
      omega
    obtain ⟨p1, p2⟩ := decF hsz
    rw [hset] at p1 p2
    have hset2 : (encS ns)[k] = UInt8.ofNat a2.toNat ↔ (encS ns).set k (UInt8.ofNat a2.toNat) = encS ns := by
      constructor
      · intro h
        rw [← h]
        exact List.set_getElem_self hk
      · intro h
        have e := List.getElem_set_self (l := encS ns) (i := k) (a := UInt8.ofNat a2.toNat) (by rw [List.length_set]; exact hk)
        rw [← e]
        exact (List.getElem_of_eq h (by rw [List.length_set]; exact hk)).symm
    rw [hrd]
    by_cases h : ∃ ms, Small ms ∧ (encS ns).set k (UInt8.ofNat a2.toNat) = encS ms
    · obtain ⟨ms, hm, he⟩ := h
      rw [p1 ms hm he, Option.bind_some]
      rw [if_pos rfl]
      by_cases hx : (encS ns)[k] = UInt8.ofNat a2.toNat
      · have e1 : ms = ns := encS_inj hm hs (by rw [← he]; exact hset2.1 hx)
        have e2 := hsame.2 hx
        rw [e1, e2]
        simp
      · have e1 : ¬ (strOfNums (up ms)).toList = (strOfNums (up ns)).toList := fun h => hx (hset2.2 (by rw [he, str_up_inj hm hs h]))
        have e2 : ¬ ((((encS ns)[k].toNat : Nat) : Int) = a2) := fun h => hx (hsame.1 h)
        rw [beq_eq_false_iff_ne.mpr e1, beq_eq_false_iff_ne.mpr e2]
        rfl
    · have hn : ∀ ms, Small ms → (encS ns).set k (UInt8.ofNat a2.toNat) ≠ encS ms := fun ms hm he => h ⟨ms, hm, he⟩
      have e2 : ¬ ((((encS ns)[k].toNat : Nat) : Int) = a2) := fun h => hn ns hs (hset2.1 (hsame.1 h))
      rw [p2 hn, Option.bind_some, if_neg (by decide), beq_eq_false_iff_ne.mpr e2]
      rfl
end Go.Proofs.Ytnlggkihjfobkaa.Pure
