/- The statement WindowTells (postilionlaw08): the five methods of every Window, and one outcome added to it, are the reckoning of postilionref08; for every one of 65536 windows and either outcome; no condition. -/
import Derived.Test.YtmcbpoejdgobnaaPx10
import Derived.Test.YtmcbpoejdgobnaaWindowLem
import Derived.Test.YtmcbpoejdgobnaaWindowLem2
namespace Go.Proofs.Ytmcbpoejdgobnaa.Pure
open Go.RowKit Go.Proofs.Ytmcbpoejdgobnaa.P Go.Proofs.YtmcbpoejdgobnaaW.PrintWords Go.Proofs.YtmcbpoejdgobnaaW.PrintLast

theorem tells_great (x : Int) (b : Bool) (h : 2304 ≤ x) (h2 : x ≤ 65535) : postilionlaw08_WindowTells.f 40 x b = some true := by
  have hm := may_great x h h2
  have e : wrap64 (IntKind.u16.wrap (Int.tdiv x 256)) = x / 256 := by
    rw [Int.tdiv_eq_ediv_of_nonneg (by omega)]
    have : IntKind.u16.wrap (x / 256) = x / 256 := by
      simp [IntKind.wrap, IntKind.bits, IntKind.signed]
      omega
    rw [this, wrap_id (by omega) (by omega)]
  have hl : postilionref08_List.f 40 x = some ([], false) := by
    unfold postilionref08_List.f
    rw [e, if_pos (by omega)]
  have ho : window_Window_own.f x = some 0 := by
    unfold window_Window_own.f
    rw [hm]
    rfl
  have hn : window_Window_Len.f x = some 0 := by
    unfold window_Window_Len.f
    rw [ho]
    decide +kernel
  have hw : window_Window_List.f x = some [] := by
    unfold window_Window_List.f
    rw [hn]
    simp only [Option.bind_some]
    rw [if_pos (by omega)]
    rfl
  have hb : window_Window_Bad.f x = some 0 := by
    unfold window_Window_Bad.f
    rw [ho]
    decide +kernel
  have hrb : postilionref08_Bad.f 40 x = some 0 := by
    unfold postilionref08_Bad.f
    rw [hl]
    decide +kernel
  have ha : window_Window_Add.f x b = window_Window_Add.f 0 b := by
    unfold window_Window_Add.f
    rw [ho, show window_Window_own.f 0 = some 0 from by decide +kernel]
  have hra : postilionref08_Add.f 40 x b = postilionref08_Add.f 40 0 b := by
    unfold postilionref08_Add.f
    rw [hl, show postilionref08_List.f 40 0 = some ([], true) from by decide +kernel]
    rfl
  unfold postilionlaw08_WindowTells.f
  rw [hl, hm, hn, hb, hrb, hw, ha, hra]
  cases b <;> decide +kernel
theorem WindowTells : postilionlaw08_WindowTells.Pure := by
  intro x b w
  simp only [Lit.wf, Bool.and_eq_true, decide_eq_true_eq] at w
  have h0 : 0 ≤ x := w.1
  have h1 : x ≤ 65535 := w.2
  refine ⟨40, ?_⟩
  by_cases h : 2304 ≤ x
  · exact tells_great x b h h1
  · have := tells_small ⟨x.toNat, by omega⟩ b
    simp only [Int.toNat_of_nonneg h0] at this
    exact this
end Go.Proofs.Ytmcbpoejdgobnaa.Pure
