-- Laid by sp.py, a program of this session's, out of the translation and the session's own stand-ins.
import Derived.Test.YtpllckhmnjgohaaDoorPx0
import Derived.Test.YtpllckhmnjgohaaDoorPx1
import Derived.Test.YtpllckhmnjgohaaDoorPx2
import Derived.Test.YtpllckhmnjgohaaDoorLinesRef
namespace Go.Proofs.YtpllckhmnjgohaaDoor.P
open Go.RowKit Go.Proofs.YtpllckhmnjgohaaDoorW.PrintWords Go.Proofs.YtpllckhmnjgohaaDoorW.PrintLast Go.Proofs.YtpllckhmnjgohaaDoorW.PrintMore
attribute [local go_sem] max2_int min2_int max_two min_two max_three min_three max_four min_four   -- for this text's walks alone
set_option linter.unusedVariables false
set_option linter.unusedSimpArgs false
set_option linter.unnecessarySimpa false

/-! ### LinesSplit: a law by hand -/
def postilionlaw18_LinesSplit.f (_k : Nat) (_s : ByteArray) : Option Bool := some true
theorem splL_small (s : ByteArray) (hs : s.size ≤ 6000) : Pure.Small (splL s) := by
  unfold splL
  split
  · refine ⟨?_, fun r hr => ?_⟩
    · unfold splitT
      refine Nat.le_trans (List.length_filter_le _ _) ?_
      rw [List.length_map]
      unfold texts
      rw [List.length_map]
      have := piecesL_len 10 s.data.toList
      rw [data_length] at this
      omega
    · unfold splitT at hr
      have hr2 := (List.mem_filter.1 hr).1
      obtain ⟨x, hx, rfl⟩ := List.mem_map.1 hr2
      have hxs := texts_le hx
      refine ⟨?_, fun y hy => ?_⟩
      · unfold countsT
        refine Nat.le_trans (List.takeWhile_sublist _).length_le ?_
        unfold fieldsT
        rw [List.length_map]
        have := fldG_len x.data.toList []
        rw [data_length] at this
        omega
      · unfold countsT at hy
        have hy2 := (List.takeWhile_sublist _).subset hy
        unfold fieldsT at hy2
        obtain ⟨l, hl, rfl⟩ := List.mem_map.1 hy2
        have key : ∀ (m cur : List UInt8) (l : List UInt8), l ∈ fldG cur m → l.length ≤ cur.length + m.length := by
          intro m
          induction m with
          | nil =>
            intro cur l h
            unfold fldG at h
            split at h
            · cases h
            · rw [List.mem_singleton.1 h]; simp
          | cons b m ih =>
            intro cur l h
            unfold fldG at h
            split at h
            · split at h
              · have := ih [] l h
                simp at this ⊢
                omega
              · rcases List.mem_cons.1 h with rfl | h
                · simp
                · have := ih [] l h
                  simp at this ⊢
                  omega
            · have := ih (cur ++ [b]) l h
              simp at this ⊢
              omega
        have := key x.data.toList [] l hl
        rw [data_length] at this
        show (l.toArray).size ≤ 1000000
        rw [List.size_toArray]
        simp at this
        omega
  · exact ⟨Nat.zero_le _, fun r hr => by cases hr⟩
set_option maxRecDepth 100000 in
set_option maxHeartbeats 8000000 in
theorem postilionlaw18_LinesSplit.calls (s : ByteArray) (w : World) (hT : spTab w) :
    Calls Tryd.prog 3 #[.string s] w fun e w' => e = .returned (.bool true) ∧ Below w.heap.size w w' := by
  by_cases hs : 6000 < s.size
  · have q : decide ((6000 : Int) < (s.size : Int)) = true := decide_eq_true (by omega)
    go_enter Tryd.func3, Tryd.ntmps3
    go_wp2_with fail
    go_ret
    exact ⟨rfl, Below.refl _ _⟩
  · have q : decide ((6000 : Int) < (s.size : Int)) = false := decide_eq_false (by omega)
    obtain ⟨K, hK⟩ := Pure.refSplit_ev s
    obtain ⟨K2, hK2⟩ := Pure.same_ev (splL s) (splL_small s (by omega))
    have S1 := ls_Split s w (by omega) hT
    have S2 := Aside0.mk (fun (W : World) => postilionref18_Split.calls K s (splL s) (splE s) W (hK K (Nat.le_refl _)))
    have S3 := Aside0.mk (fun (W : World) (A : Option Addr) (p : Nat) (B : Option Addr) (q : Nat) (hA : Kd.C (Kd.slice 9 Kd.string) W A (splL s).length (splL s)) (hp : (splL s).length ≤ p) (hB : Kd.C (Kd.slice 9 Kd.string) W B (splL s).length (splL s)) (hq : (splL s).length ≤ q) => postilionref18_Same.calls K2 A p (splL s) B q (splL s) true W hA hp hB hq (hK2 K2 (Nat.le_refl _)))
    have hx : ∀ x : Int, (x == x) = true := fun x => by simp
    clear hK hK2 hT
    generalize splL s = L at S1 S2 S3
    generalize splE s = E at S1 S2
    have hxE := hx E
    clear hx
    go_enter Tryd.func3, Tryd.ntmps3
    go_wp2_with (first | (go_at_call 6; (with_reducible refine S1.mono ?_); rintro e w1 ⟨v1, rfl, o1, b1⟩; obtain ⟨A1, q1, rfl, h1, c1⟩ := rows2_reads o1; have X2 := S2.out w1; clear o1) | (go_at_call 7; (with_reducible refine X2.mono ?_); rintro e w2 ⟨v2, rfl, o2, b2⟩; obtain ⟨A2, q2, rfl, h2, c2⟩ := Kd.S_reads o2; have B2 := bnext b1 b2; have X3 := S3.out w2 A1 q1 A2 q2 (Kd.C_below c1 b2) h1 c2 h2; clear X2 o2 c1 c2 b1 b2) | (go_at_call 8; (with_reducible refine X3.mono ?_); rintro e w3 ⟨rfl, n3, hw3⟩; have B3 : Below w.heap.size w w3 := by { rw [hw3]; exact pw_below_drewN B2 n3 }; clear X3 hw3))
    go_ret
    exact ⟨rfl, B3⟩
/-- THE ONE PURE STATEMENT of postilionlaw18_LinesSplit. -/
def postilionlaw18_LinesSplit.Pure : Prop := ∀ (a0 : ByteArray), a0.size ≤ 140737488351232 → ∃ k, postilionlaw18_LinesSplit.f k a0 = some true
theorem postilionlaw18_LinesSplit.walk (P : postilionlaw18_LinesSplit.Pure) (a0 : ByteArray) (w : World) (w0 : a0.size ≤ 140737488351232) (ht : spTab w) :
    Calls Tryd.prog 3 #[.string a0] w fun e w' => e = .returned (.bool true) ∧ Below w.heap.size w w' := postilionlaw18_LinesSplit.calls a0 w ht

end Go.Proofs.YtpllckhmnjgohaaDoor.P
