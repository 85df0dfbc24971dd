-- Laid by sp.py, a program of this session's, out of the translation and the session's own stand-ins.
import Derived.Test.YtlpibchjcmndjaaPx0
import Derived.Test.YtlpibchjcmndjaaPx7
import Derived.Test.YtlpibchjcmndjaaStasciiAwake
import Derived.Test.YtlpibchjcmndjaaStasciiReader
import Derived.Test.YtlpibchjcmndjaaStasciiBytes
import Derived.Test.YtlpibchjcmndjaaStreaderMore
import Derived.Test.YtlpibchjcmndjaaShelf
import Derived.Test.YtlpibchjcmndjaaStreaderMore
namespace Go.Proofs.Ytlpibchjcmndjaa.P
open Go.RowKit Go.Proofs.YtlpibchjcmndjaaW.PrintWords Go.Proofs.YtlpibchjcmndjaaW.PrintLast Go.Proofs.YtlpibchjcmndjaaW.PrintMore
attribute [local go_sem] max2_int min2_int max_two min_two max_three min_three max_four min_four   -- for this text's walks alone
set_option linter.unusedVariables false
set_option linter.unusedSimpArgs false
set_option linter.unnecessarySimpa false

/-! ### reads of 02: a stand-in: two readers at once -/
theorem MdIn.otherR {w0 : World} {R M : Nat} {v u : Value} {l l2 : List Int} {n n2 m : Nat} {W W' : World} (h : MdIn w0 M u l2 m W) (h2 : RdIn w0 R v l n W) (h3 : RdIn w0 R v l n2 W') (fr : Fr R W W') : MdIn w0 M u l2 m W' :=
  ⟨h.le, (fr.keep M (Array.getElem?_eq_some_iff.1 h.blk).1 (blk_ne h.blk h2.blk (by decide))).trans h.blk, Kd.R_mono (Kd.R_step (Kd.R_types h.hR h2.blk (by intro q hq; simp [Kd.int, Kd.scalar] at hq; subst hq; decide)) (fun k hk hlt => fr.keep k hlt hk.2)) (fun _ hk => hk.1), h3.hB⟩
theorem RdIn.otherM {w0 : World} {R M : Nat} {v u : Value} {l l2 : List Int} {n n2 m : Nat} {W W' : World} (h : RdIn w0 M u l2 m W) (h2 : MdIn w0 R v l n W) (h3 : MdIn w0 R v l n2 W') (fr : Fr R W W') : RdIn w0 M u l2 m W' :=
  ⟨h.le, (fr.keep M (Array.getElem?_eq_some_iff.1 h.blk).1 (blk_ne h.blk h2.blk (by decide))).trans h.blk, Kd.R_mono (Kd.R_step (Kd.R_types h.hR h2.blk (by intro q hq; simp [Kd.int, Kd.scalar] at hq; subst hq; decide)) (fun k hk hlt => fr.keep k hlt hk.2)) (fun _ hk => hk.1), h3.hB⟩
theorem own_frM {W W' : World} {base R : Nat} {v : Value} {l : List Int} {w0 : World} {v2 : Value} {l2 : List Int} {n2 : Nat} (h : Kd.R (Kd.int .u8) 5 W base (fun _ => True) v l) (h2 : MdIn w0 R v2 l2 n2 W) (fr : Fr R W W') : Kd.R (Kd.int .u8) 5 W' base (fun _ => True) v l :=
  Kd.R_mono (Kd.R_step (Kd.R_types h h2.blk (by intro q hq; simp [Kd.int, Kd.scalar] at hq; subst hq; decide)) (fun k hk hlt => fr.keep k hlt hk.2)) (fun _ hk => hk.1)
/-- A row of the call's own is read. -/
theorem own_C {W : World} {base : Nat} {A : Option Addr} {c : Nat} {l : List Int} (h : Kd.R (Kd.int .u8) 5 W base (fun _ => True) (.slice A l.length c) l) : Kd.C (Kd.int .u8) W A l.length l ∧ l.length ≤ c := by
  obtain ⟨A2, c2, e, hc, hC⟩ := Kd.R_reads h
  injection e with e1 e2 e3
  subst e1
  subst e3
  exact ⟨hC, hc⟩
theorem lineS_le {l : List Int} {n : Nat} {most : Int} (hn : n ≤ l.length) : (lineS l n most).2.2 ≤ l.length := by
  unfold lineS
  have hd : (l.drop n).length = l.length - n := List.length_drop
  split
  · exact hn
  · split
    · exact hn
    · split
      · exact hn
      · have := endOf_room (l := l.drop n) (by omega)
        simp only
        omega
theorem rd_Left (w0 : World) (R : Nat) (v : Value) (l : List Int) (n : Nat) (W : World) (h : RdIn w0 R v l n W) (hn : n ≤ l.length) (hl : l.length ≤ 1000000) :
    Calls Try.prog 18 #[.pointer (some ⟨R, 0, none⟩)] W fun e W' => e = .returned (.int .i64 ((l.length : Int) - (n : Int))) ∧ Drawn0 W W' := by
  obtain ⟨A, c, ev, hc, hC⟩ := Kd.R_reads h.hR
  subst ev
  have c0 := rd_cell h.blk 0
  have c1 := rd_cell h.blk 1
  simp at c0 c1
  go_enter Try.func18, Try.ntmps18
  go_wp2_with fail
  go_region
  go_wp2_with fail
  go_ret
  exact ⟨rfl, 1, rfl⟩
theorem md_One (w0 : World) (M : Nat) (u : Value) (l : List Int) (n : Nat) (W : World) (h : MdIn w0 M u l n W) (hn : (n : Int) + 1 ≤ l.length) (hl : l.length ≤ 1000000) :
    Calls Try.prog 34 #[.pointer (some ⟨M, 0, none⟩), .int .i64 1] W fun e W' => ∃ b o c, e = .returned (.tuple #[.slice (some ⟨b, o, none⟩) 1 c, .int .i64 0]) ∧ W'.cell? ⟨b, o, none⟩ = some (.int .u8 (rd l (n : Int))) ∧ MdIn w0 M u l (n + 1) W' ∧ Fr M W W' := by
  refine (md_Bytes1 w0 M u l n W h 1 (by decide) hn hl).mono ?_
  rintro e W' ⟨v2, rfl, h2, o2, f2⟩
  rw [show (1 : Int).toNat = 1 from rfl] at h2 o2
  have hL : ((l.take (n + 1)).drop n).length = 1 := by rw [List.length_drop, List.length_take]; omega
  obtain ⟨A3, c3, ev⟩ := Kd.R_slice o2
  subst ev
  obtain ⟨b, o, rfl, hcs⟩ := bytesIn_of_C (own_C o2).1 (by omega)
  have h0 := hcs 0 (by omega)
  rw [show ((l.take (n + 1)).drop n).getD 0 0 = rd l (n : Int) from rd_mid l n 1 0 (by omega) (by omega)] at h0
  rw [hL]
  exact ⟨b, o, c3, rfl, h0, h2, f2⟩
theorem md_Two (w0 : World) (M : Nat) (u : Value) (l : List Int) (n : Nat) (W : World) (h : MdIn w0 M u l n W) (hn : (n : Int) + 2 ≤ l.length) (hl : l.length ≤ 1000000) :
    Calls Try.prog 34 #[.pointer (some ⟨M, 0, none⟩), .int .i64 2] W fun e W' => ∃ b o c, e = .returned (.tuple #[.slice (some ⟨b, o, none⟩) 2 c, .int .i64 0]) ∧ W'.cell? ⟨b, o, none⟩ = some (.int .u8 (rd l (n : Int))) ∧ W'.cell? ⟨b, o + 1, none⟩ = some (.int .u8 (rd l ((n + 1 : Nat) : Int))) ∧ MdIn w0 M u l (n + 2) W' ∧ Fr M W W' := by
  refine (md_Bytes1 w0 M u l n W h 2 (by decide) hn hl).mono ?_
  rintro e W' ⟨v2, rfl, h2, o2, f2⟩
  rw [show (2 : Int).toNat = 2 from rfl] at h2 o2
  have hL : ((l.take (n + 2)).drop n).length = 2 := by rw [List.length_drop, List.length_take]; omega
  obtain ⟨A3, c3, ev⟩ := Kd.R_slice o2
  subst ev
  obtain ⟨b, o, rfl, hcs⟩ := bytesIn_of_C (own_C o2).1 (by omega)
  have h0 := hcs 0 (by omega)
  have h1 := hcs 1 (by omega)
  rw [show ((l.take (n + 2)).drop n).getD 0 0 = rd l (n : Int) from rd_mid l n 2 0 (by omega) (by omega)] at h0
  rw [show ((l.take (n + 2)).drop n).getD 1 0 = rd l ((n + 1 : Nat) : Int) from rd_mid l n 2 1 (by omega) (by omega)] at h1
  rw [hL]
  exact ⟨b, o, c3, rfl, h0, h1, h2, f2⟩
set_option maxRecDepth 100000 in
set_option maxHeartbeats 32000000 in
theorem rd_reads (w0 : World) (R M : Nat) (v u : Value) (l : List Int) (n : Nat) (W : World) (hr : RdIn w0 R v l n W) (hm : MdIn w0 M u l n W) (hmx : hasMax W) (kd N : Int) (hk0 : 0 ≤ kd) (hk1 : kd < 256) (hn : n ≤ l.length) (hl : l.length ≤ 600) (hb : ∀ x ∈ l, 0 ≤ x ∧ x < 256) (hsame : ∀ q : List Int, q.length ≤ 600 → postilionref01_Same.f 1000 q q = some true) :
    Calls Try.prog 22 #[.pointer (some ⟨R, 0, none⟩), .pointer (some ⟨M, 0, none⟩), .agg #[.int .u8 kd, .int .i64 N]] W fun e W' => e = .returned (.bool true) ∧ ∃ n2, n2 ≤ l.length ∧ RdIn w0 R v l n2 W' ∧ MdIn w0 M u l n2 W' := by
  have hba : Below W.heap.size W (W.alloc (.cells #[.int .u8 kd, .int .i64 N] 47)) := below_alloc (Below.refl _ _) _
  have hr1 := hr.below hba
  have hm1 := hm.below hba
  have hx1 := hmx.below hba
  have bk := heap_alloc_new W (.cells #[.int .u8 kd, .int .i64 N] 47)
  have bf0 := rd_free bk 0
  have bf1 := rd_free bk 1
  have hl2 : l.length ≤ 1000000 := by omega
  have HR := Aside0.mk hr
  have HM := Aside0.mk hm
  have HX := Aside0.mk hmx
  have HB := Aside0.mk hb
  have SAME := Aside0.mk hsame
  clear hr hm hmx hb hsame
  have h4 : kd % 4 = 0 ∨ kd % 4 = 1 ∨ kd % 4 = 2 ∨ kd % 4 = 3 := by omega
  rcases h4 with h4 | h4 | h4 | h4
  · have k0 : (kd % 4 == 0) = true := by rw [h4]; decide
    clear h4
    by_cases hfit : (n : Int) + 1 ≤ l.length
    · have HLL := Aside0.mk hn
      go_enter Try.func22, Try.ntmps22
      go_wp2_with (first | (go_at_call 13; refine (rd_Byte1 w0 R v l n _ hr1 hfit hl2 HB.out).mono ?_; rintro e w2 ⟨rfl, hr2, f2⟩; have hm2 := hm1.otherR hr1 hr2 f2) | (go_at_call 34; refine (md_One w0 M u l n _ hm2 hfit hl2).mono ?_; rintro e w3 ⟨b3, o3, c3, rfl, hcs0, hm3, f3⟩; have hr3 := hr2.otherM hm2 hm3 f3))
      go_ret
      exact ⟨rfl, n + 1, by omega, hr3, hm3⟩
    · have hfit : (l.length : Int) - (n : Int) < 1 := by omega
      go_enter Try.func22, Try.ntmps22
      go_wp2_with (first | (go_at_call 13; refine (rd_Byte0 w0 R v l n _ hr1 hn hl2 (by omega)).mono ?_; rintro e w2 ⟨rfl, hr2, f2⟩; have hm2 := hm1.otherR hr1 hr2 f2) | (go_at_call 34; refine (md_Bytes0 w0 M u l n _ hm2 1 hn hl2 (.inr (by omega)) 5 (by rw [if_neg (by decide)])).mono ?_; rintro e w3 ⟨rfl, hd3⟩; have hm3 := hm2.below hd3.below; have hr3 := hr2.below hd3.below))
      go_ret
      exact ⟨rfl, n, hn, hr3, hm3⟩
  · have k0 : (kd % 4 == 0) = false := by rw [h4]; decide
    have k1 : (kd % 4 == 1) = true := by rw [h4]; decide
    clear h4
    by_cases hfit : (n : Int) + 2 ≤ l.length
    · have HLL := Aside0.mk hn
      have g0 := HB.out _ (rd_mem l n (by omega))
      have g1 := HB.out _ (rd_mem l (n + 1) (by omega))
      have ec : ((n + 1 : Nat) : Int) = (n : Int) + 1 := by omega
      have rP := rd_Pair1 w0 R v l n _ hr1 hfit hl2 HB.out
      have mP := fun W2 h => md_Two w0 M u l n W2 h hfit hl2
      rw [ec] at g1 rP
      simp only [ec] at mP
      clear ec
      generalize rd l (n : Int) = x at *
      generalize rd l ((n : Int) + 1) = y at *
      have kk : (x * 256 + y == 256 * x + y) = true := beq_iff_eq.mpr (by omega)
      go_enter Try.func22, Try.ntmps22
      go_wp2_with (first | (go_at_call 14; refine (rP).mono ?_; rintro e w2 ⟨rfl, hr2, f2⟩; have hm2 := hm1.otherR hr1 hr2 f2) | (go_at_call 34; refine (mP _ hm2).mono ?_; rintro e w3 ⟨b3, o3, c3, rfl, hcs0, hcs1, hm3, f3⟩; have hr3 := hr2.otherM hm2 hm3 f3))
      go_region
      go_wp2_with fail
      go_ret
      exact ⟨rfl, n + 2, by omega, hr3.below (Below.refl _ _).drew, hm3.below (Below.refl _ _).drew⟩
    · have hfit : (l.length : Int) - (n : Int) < 2 := by omega
      go_enter Try.func22, Try.ntmps22
      go_wp2_with (first | (go_at_call 14; refine (rd_Pair0 w0 R v l n _ hr1 hn hl2 (by omega)).mono ?_; rintro e w2 ⟨rfl, hr2, f2⟩; have hm2 := hm1.otherR hr1 hr2 f2) | (go_at_call 34; refine (md_Bytes0 w0 M u l n _ hm2 2 hn hl2 (.inr (by omega)) 5 (by rw [if_neg (by decide)])).mono ?_; rintro e w3 ⟨rfl, hd3⟩; have hm3 := hm2.below hd3.below; have hr3 := hr2.below hd3.below))
      go_region
      go_wp2_with fail
      go_ret
      exact ⟨rfl, n, hn, hr3.below (Below.refl _ _).drew, hm3.below (Below.refl _ _).drew⟩
  · have k0 : (kd % 4 == 0) = false := by rw [h4]; decide
    have k1 : (kd % 4 == 1) = false := by rw [h4]; decide
    have k2 : (kd % 4 == 2) = true := by rw [h4]; decide
    clear h4
    by_cases hfit : N < 0 ∨ (l.length : Int) - (n : Int) < N
    · obtain ⟨E, hE⟩ : ∃ E : Int, E = if N < 0 then 2 else 5 := ⟨_, rfl⟩
      have B1 := fun (W1 : World) (h : RdIn w0 R v l n W1) => rd_Bytes0 w0 R v l n W1 h N hn hl2 hfit E hE
      have B2 := fun (W1 : World) (h : MdIn w0 M u l n W1) => md_Bytes0 w0 M u l n W1 h N hn hl2 hfit E hE
      clear hE hfit
      have sm := fun W1 => postilionref01_Same.calls 1000 none 0 [] none 0 [] true W1 (Kd.C_nil _ _) (Nat.le_refl _) (Kd.C_nil _ _) (Nat.le_refl _) (SAME.out _ (by decide))
      go_enter Try.func22, Try.ntmps22
      go_wp2_with (first | (go_at_call 15; refine (B1 _ hr1).mono ?_; rintro e w2 ⟨rfl, hr2, f2⟩; have hm2 := hm1.otherR hr1 hr2 f2; have bk2 := (f2.keep _ (Array.getElem?_eq_some_iff.1 bk).1 (by have := (Array.getElem?_eq_some_iff.1 HR.out.blk).1; omega)).trans bk; have bc2 := rd_cell bk2 1; simp at bc2) | (go_at_call 34; refine (B2 _ hm2).mono ?_; rintro e w3 ⟨rfl, hd3⟩; have hm3 := hm2.below hd3.below; have hr3 := hr2.below hd3.below) | (go_at_call 21; refine (sm _).mono ?_; rintro e w4 ⟨rfl, hd4⟩; have hm4 := hm3.below hd4.below; have hr4 := hr3.below hd4.below))
      go_loop [20] (fun i => i = .int .i64 0) (fun _ => 0)
      case atStart => exact rfl
      case round =>
        subst hrel
        go_wp2_with fail
        go_ret
        exact ⟨rfl, n, hn, hr4, hm4⟩
    · have hN0 : 0 ≤ N := by omega
      have hN1 : (n : Int) + N ≤ l.length := by omega
      clear hfit
      have B1 := fun (W1 : World) (h : RdIn w0 R v l n W1) => rd_Bytes1 w0 R v l n W1 h N hN1 hl2 hN0
      have B2 := fun (W1 : World) (h : MdIn w0 M u l n W1) => md_Bytes1 w0 M u l n W1 h N hN0 hN1 hl2
      have hLl : ((l.take (n + N.toNat)).drop n).length ≤ 600 := by rw [List.length_drop, List.length_take]; omega
      have HN2 := Aside0.mk (show n + N.toNat ≤ l.length by omega)
      generalize (l.take (n + N.toNat)).drop n = L at *
      generalize n + N.toNat = n2 at *
      have sm := fun A c A2 c2 W1 h1 h2 h3 h4 => postilionref01_Same.calls 1000 A c L A2 c2 L true W1 h1 h2 h3 h4 (SAME.out _ hLl)
      have hRW := (Array.getElem?_eq_some_iff.1 HR.out.blk).1
      have hMW := (Array.getElem?_eq_some_iff.1 HM.out.blk).1
      have hvW := Kd.R_lt HR.out.hR
      have huW := Kd.R_lt HM.out.hR
      have hwW := HR.out.hB.size
      go_enter Try.func22, Try.ntmps22
      go_wp2_with (first | (go_at_call 15; refine (B1 _ hr1).mono ?_; rintro e w2 ⟨v2, rfl, hr2, o2, f2⟩; have hm2 := hm1.otherR hr1 hr2 f2; have bk2 := (f2.keep _ (Array.getElem?_eq_some_iff.1 bk).1 (by have := (Array.getElem?_eq_some_iff.1 HR.out.blk).1; omega)).trans bk; have bc2 := rd_cell bk2 1; simp at bc2; obtain ⟨A2, c2, ev⟩ := Kd.R_slice o2; subst ev) | (go_at_call 34; refine (B2 _ hm2).mono ?_; rintro e w3 ⟨v3, rfl, hm3, o3, f3⟩; have hr3 := hr2.otherM hm2 hm3 f3; have o2 := own_frM o2 hm2 f3; obtain ⟨A3, c3, ev⟩ := Kd.R_slice o3; subst ev; have sm1 := sm A2 c2 A3 c3 w3 (own_C o2).1 (own_C o2).2 (own_C o3).1 (own_C o3).2) | (go_at_call 21; refine sm1.mono ?_; rintro e w4 ⟨rfl, hd4⟩; have hm4 := hm3.below hd4.below; have hr4 := hr3.below hd4.below; have o4 := Kd.R_below o2 hd4.below))
      have o5 := Kd.R_lower o4 hba.size
      go_loopw [20] (fun i wr => ∃ (k : Nat) (xs : List Int), k ≤ L.length ∧ xs.length = L.length ∧ i = .int .i64 (k : Int) ∧ Kd.R (Kd.int .u8) 5 wr W.heap.size (fun _ => True) (.slice A2 L.length c2) xs ∧ RdIn w0 R v l n2 wr ∧ MdIn w0 M u l n2 wr) (fun i _ => L.length - (intOf i).toNat)
      case atStart => exact ⟨0, L, Nat.zero_le _, rfl, rfl, o5, hr4, hm4⟩
      case round =>
        obtain ⟨k, xs, hk, hxl, rfl, ho, hrr, hmm⟩ := hrel
        by_cases hlt : k < L.length
        · have s1 : decide ((k : Int) < (L.length : Int)) = true := decide_eq_true (by omega)
          have p1 : (k < L.length) = True := eq_true hlt
          obtain ⟨g, cap, ev, hg0, hg1, cells, hcl⟩ := Kd.R_form ho (by omega)
          rw [hxl] at ev
          injection ev with e1 e2 e3
          subst e1
          subst e3
          have hcell := Kd.R_celln 0 ho (k : Int) (by omega) (by omega)
          rw [Int.toNat_natCast] at hcell
          obtain ⟨hc1, hf1⟩ := hcell
          have hput := fun x => Kd.R_putn ho (k : Int) x
          simp only [Int.toNat_natCast] at hput
          have hgR : g ≠ R := by omega
          have hgM : g ≠ M := by omega
          have hgv : some g ≠ v.ownBlock := fun e => by have := hvW _ e.symm; omega
          have hgu : some g ≠ u.ownBlock := fun e => by have := huW _ e.symm; omega
          have hrr2 := fun x => hrr.far hgR hgv (by omega) k x
          have hmm2 := fun x => hmm.far hgM hgu (by omega) k x
          have HP := Aside0.mk hput
          have HR2 := Aside0.mk hrr2
          have HM2 := Aside0.mk hmm2
          clear hput hrr2 hmm2
          generalize rdOf 0 xs (k : Int) = x at hc1
          go_wp2_with fail
          go_roundw
          case rel => exact ⟨k + 1, _, by omega, by rw [List.length_set]; exact hxl, by go_num, HP.out _, HR2.out _, HM2.out _⟩
          case measure => simp only [intOf]; omega
        · have s1 : decide ((k : Int) < (L.length : Int)) = false := decide_eq_false (by omega)
          go_wp2_with fail
          go_ret
          exact ⟨rfl, n2, HN2.out, hrr, hmm⟩
  · have k0 : (kd % 4 == 0) = false := by rw [h4]; decide
    have k1 : (kd % 4 == 1) = false := by rw [h4]; decide
    have k2 : (kd % 4 == 2) = false := by rw [h4]; decide
    clear h4
    obtain ⟨S, hS⟩ : ∃ S, S = lineS l n N := ⟨_, rfl⟩
    have hle := lineS_le (most := N) hn
    have LN1 := fun (W1 : World) (h : RdIn w0 R v l n W1) (hx : hasMax W1) => rf_Line w0 R v l n W1 h hx N hn hl2 HB.out
    have LN2 := fun (W1 : World) (h : MdIn w0 M u l n W1) => md_Line w0 M u l n W1 h N hn hl2 HB.out S.1 S.2.1 S.2.2 hS.symm
    rw [← hS] at LN1 hle
    clear hS
    obtain ⟨s1, s2, s3⟩ := S
    simp only at LN1 LN2 hle
    go_enter Try.func22, Try.ntmps22
    go_wp2_with (first | (go_at_call 16; refine (LN1 _ hr1 hx1).mono ?_; rintro e w2 ⟨rfl, hr2, f2⟩; have hm2 := hm1.otherR hr1 hr2 f2; have bk2 := (f2.keep _ (Array.getElem?_eq_some_iff.1 bk).1 (by have := (Array.getElem?_eq_some_iff.1 HR.out.blk).1; omega)).trans bk; have bc2 := rd_cell bk2 1; simp at bc2) | (go_at_call 35; refine (LN2 _ hm2).mono ?_; rintro e w3 ⟨rfl, hm3, f3⟩; have hr3 := hr2.otherM hm2 hm3 f3))
    go_ret
    exact ⟨rfl, s3, hle, hr3, hm3⟩


end Go.Proofs.Ytlpibchjcmndjaa.P
