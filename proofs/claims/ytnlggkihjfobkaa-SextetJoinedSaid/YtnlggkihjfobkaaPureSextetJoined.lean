import Derived.Test.YtnlggkihjfobkaaPx10
import Derived.Test.YtnlggkihjfobkaaSextetLem3
namespace Go.Proofs.Ytnlggkihjfobkaa.Pure
open Go.RowKit Go.Proofs.Ytnlggkihjfobkaa.P Go.Proofs.YtnlggkihjfobkaaW.PrintWords Go.Proofs.YtnlggkihjfobkaaW.PrintLast

theorem mk_size (l : List UInt8) : (⟨l.toArray⟩ : ByteArray).size = l.length := by simp [ByteArray.size]
theorem up_take (ns : List Nat) (n : Nat) : (up ns).take n = up (ns.take n) := by unfold up; rw [List.map_take]
theorem SextetJoined : postilionlaw05_SextetJoined.Pure := by
  intro l0 l1 _ _ hw _ _ hw1
  obtain ⟨ns, rfl, hs⟩ := of_wf hw
  obtain ⟨ms, rfl, hm⟩ := of_wf hw1
  refine ⟨1, ?_⟩
  unfold postilionlaw05_SextetJoined.f postilionlaw05_awake.f
  rw [Option.bind_some, if_pos rfl]
  by_cases c1 : ((up ns).length : Int) > 3000
  · rw [if_pos c1]
    rfl
  · rw [if_neg c1]
    by_cases c2 : ((up ms).length : Int) > 3000
    · rw [decide_eq_true c2]
      rfl
    · rw [decide_eq_false c2]
      have hn : ns.length ≤ 3000 := by rw [up_length] at c1; omega
      have hm2 : ms.length ≤ 3000 := by rw [up_length] at c2; omega
      have w1 : wrap64 (((up ns).length : Int) - (((up ns).length : Int) % 3)) = ((ns.length - ns.length % 3 : Nat) : Int) := by rw [up_length, wrap_id (by omega) (by omega)]; omega
      have hts : Small (ns.take (ns.length - ns.length % 3)) := fun x hx => hs x (List.mem_of_mem_take hx)
      have htl : (ns.take (ns.length - ns.length % 3)).length = ns.length - ns.length % 3 := by rw [List.length_take]; omega
      have hjs : Small (ns.take (ns.length - ns.length % 3) ++ ms) := fun x hx => by
        rcases List.mem_append.1 hx with hx | hx
        · exact hts x hx
        · exact hm x hx
      have hj := encS_join (ns.take (ns.length - ns.length % 3)) ms (by rw [htl]; omega)
      simp only [postilionlaw05_SextetJoined.j0, w1]
      rw [if_neg (by decide), if_pos (Int.natCast_nonneg _), if_pos (by rw [up_length]; omega), Option.bind_some, Int.toNat_natCast, up_take, List.nil_append]
      generalize ns.take (ns.length - ns.length % 3) = t at *
      have htl2 : t.length ≤ 3000 := by omega
      have hl1 := encS_len t
      have hl2 := encS_len ms
      rw [if_pos (by rw [up_length]; simp only [List.length_nil]; omega), Option.bind_some, if_pos (by rw [up_length, up_length]; omega), ← up_append, encF hjs (by rw [List.length_append]; omega), Option.bind_some, encF hts (by omega), Option.bind_some, encF hm (by omega), Option.bind_some, if_pos (by rw [mk_size, mk_size]; omega), hj]
      have e : (⟨(encS t ++ encS ms).toArray⟩ : ByteArray) = (⟨(encS t).toArray⟩ ++ ⟨(encS ms).toArray⟩ : ByteArray) := by
        apply ByteArray.ext
        simp
      rw [e]
      simp
end Go.Proofs.Ytnlggkihjfobkaa.Pure
