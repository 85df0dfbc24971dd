import Derived.Test.YtnlggkihjfobkaaPx9
import Derived.Test.YtnlggkihjfobkaaSextetLem3
namespace Go.Proofs.Ytnlggkihjfobkaa.Pure
open Go.RowKit Go.Proofs.Ytnlggkihjfobkaa.P Go.Proofs.YtnlggkihjfobkaaW.PrintWords Go.Proofs.YtnlggkihjfobkaaW.PrintLast

theorem mk_size (l : List UInt8) : (⟨l.toArray⟩ : ByteArray).size = l.length := by simp [ByteArray.size]
theorem SextetBack : postilionlaw05_SextetBack.Pure := by
  intro l0 a1 _ _ hw _
  obtain ⟨ns, rfl, hs⟩ := of_wf hw
  refine ⟨2, ?_⟩
  unfold postilionlaw05_SextetBack.f postilionlaw05_awake.f
  rw [Option.bind_some, if_pos rfl]
  by_cases c1 : ((up ns).length : Int) > 3000
  · rw [if_pos c1]
    rfl
  · rw [if_neg c1]
    by_cases c2 : (a1.size : Int) > 3000
    · rw [decide_eq_true c2]
      rfl
    · rw [decide_eq_false c2]
      have hn : ns.length ≤ 3000 := by rw [up_length] at c1; omega
      have hl := encS_len ns
      have hsz : (⟨(encS ns).toArray⟩ : ByteArray).size ≤ 10000 := by rw [mk_size]; omega
      simp only [postilionlaw05_SextetBack.j0]
      rw [if_neg (by decide), encF hs (by omega), Option.bind_some, (decF hsz).1 ns hs rfl, Option.bind_some, if_pos rfl, if_pos rfl, sizeF _ (by rw [up_length]; omega), Option.bind_some, up_length, Int.toNat_natCast]
      have e : (((⟨(encS ns).toArray⟩ : ByteArray).size : Int) != (((ns.length + 2) / 3 * 4 : Nat) : Int)) = false := by
        rw [mk_size, hl]
        simp
      rw [e]
      simp only [postilionlaw05_SextetBack.j1]
      rw [if_neg (by decide)]
      obtain ⟨p1, p2⟩ := decF (s := a1) (by omega)
      by_cases h : ∃ ms, Small ms ∧ a1.data.toList = encS ms
      · obtain ⟨ms, hm, he⟩ := h
        have hml : ms.length ≤ 100000 := by
          have := encS_len ms
          rw [← he, data_length] at this
          omega
        rw [p1 ms hm he, Option.bind_some, if_pos rfl, encF hm hml, Option.bind_some, ByteArray.toList_eq, ByteArray.toList_eq, he]
        simp
      · have hn : ∀ ns, Small ns → a1.data.toList ≠ encS ns := fun ns hs he => h ⟨ns, hs, he⟩
        rw [p2 hn, Option.bind_some, if_neg (by decide), if_pos rfl]
        rfl
end Go.Proofs.Ytnlggkihjfobkaa.Pure
