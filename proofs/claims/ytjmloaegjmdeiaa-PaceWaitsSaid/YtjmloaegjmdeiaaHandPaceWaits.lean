/- The law PaceWaits walked. -/
import Derived.Test.YtjmloaegjmdeiaaPaceBounds
import Derived.Test.YtjmloaegjmdeiaaOpen
import Derived.Test.YtjmloaegjmdeiaaQOpen
namespace Go.Proofs.Ytjmloaegjmdeiaa.HandPaceWaits
open Go.RowKit Go.Proofs.YtjmloaegjmdeiaaW.PrintWords Go.Proofs.YtjmloaegjmdeiaaW.PrintMore Go.Proofs.Ytjmloaegjmdeiaa.State Go.Proofs.Ytjmloaegjmdeiaa.Pace Go.Proofs.Ytjmloaegjmdeiaa.PaceWorks Go.Proofs.Ytjmloaegjmdeiaa.PaceBounds Go.Proofs.Ytjmloaegjmdeiaa.Open
attribute [local go_sem] min2_mn min_two
set_option linter.unusedVariables false
set_option linter.unusedSimpArgs false
/-- The state in view i + 1, j ticks of it over. -/
def st (M : Int) (i j : Nat) : PaceS := ⟨i, j, M, 4, i + 1⟩
abbrev W (M : Int) (i : Nat) : Int := mn (4 * 2 ^ i) M
theorem W_pos {M : Int} {i : Nat} (h : 1 ≤ M) : 1 ≤ W M i := by have := pow_pos' i; unfold W mn; split <;> omega
theorem W_le {M : Int} {i : Nat} : W M i ≤ M := by unfold W mn; split <;> omega
theorem st_ok (M : Int) (i j : Nat) (h1 : 1 ≤ M) (h2 : M ≤ 200) (hi : i ≤ 7) (hj : (j : Int) < M) : Ok (st M i j) := by constructor <;> simp only [st] <;> omega
theorem st_wait (M : Int) (i j : Nat) (hi : i ≤ 7) : waitP (st M i j).fails (st M i j).most = W M i := by
  simp only [st, waitP, W]
  rw [show (min (i : Int) 16).toNat = i from by omega]
theorem st_tick (M : Int) (i j : Nat) (hi : i ≤ 7) (hj : (j : Int) + 1 < W M i) : tickP (st M i j) = (false, st M i (j + 1)) := by
  have h := st_wait M i j hi
  rw [tickP, if_neg (by simp only [st]; omega), if_neg (by rw [over, h, show (st M i j).ticks = j from rfl, decide_eq_true_eq]; omega)]
  simp only [countP, st]; congr
theorem st_over (M : Int) (i j : Nat) (hi : i ≤ 7) (hj : (j : Int) + 1 = W M i) : tickP (st M i j) = (true, st M (i + 1) 0) := by
  have h := st_wait M i j hi
  rw [tickP, if_neg (by simp only [st]; omega), if_pos (by rw [over, h, show (st M i j).ticks = j from rfl, decide_eq_true_eq]; omega)]
  simp only [st]; congr
theorem st_start (M : Int) : startP 4 M = st M 0 0 := by simp [startP, st]
theorem jwait {w wr : World} {g i j : Nat} {M : Int} (h : J w g (st M i j) wr) (h1 : 1 ≤ M) (h2 : M ≤ 200) (hi : i ≤ 7) (hj : (j : Int) < M) :
    Calls Try.prog 15 #[.pointer (some ⟨g, 0, none⟩)] wr fun e w' => e = .returned (.tuple #[.int .i64 (W M i), .int .i64 j]) ∧ J w g (st M i j) w' := by
  refine (Pace.wait g (st M i j) wr h.1 (st_ok M i j h1 h2 hi hj)).mono ?_
  rintro e w' ⟨rfl, hd⟩
  rw [st_wait M i j hi]
  exact ⟨rfl, h.drawn hd⟩
theorem jtick {w wr : World} {g i j : Nat} {M : Int} (h : J w g (st M i j) wr) (hg : w.heap.size ≤ g) (h1 : 1 ≤ M) (h2 : M ≤ 200) (hi : i ≤ 7) (hj : (j : Int) + 1 < W M i) :
    Calls Try.prog 9 #[.pointer (some ⟨g, 0, none⟩)] wr fun e w' => e = .returned (.bool false) ∧ J w g (st M i (j + 1)) w' := by
  have := @W_le M i
  refine (Pace.tick g (st M i j) wr h.1 (st_ok M i j h1 h2 hi (by omega)) (by simp only [st]; omega)).mono ?_
  rintro e w' ⟨rfl, hu⟩
  rw [st_tick M i j hi hj] at hu ⊢
  exact ⟨rfl, h.on hg hu⟩
theorem jover {w wr : World} {g i j : Nat} {M : Int} (h : J w g (st M i j) wr) (hg : w.heap.size ≤ g) (h1 : 1 ≤ M) (h2 : M ≤ 200) (hi : i ≤ 7) (hj : (j : Int) + 1 = W M i) :
    Calls Try.prog 9 #[.pointer (some ⟨g, 0, none⟩)] wr fun e w' => e = .returned (.bool true) ∧ J w g (st M (i + 1) 0) w' := by
  have := @W_le M i
  refine (Pace.tick g (st M i j) wr h.1 (st_ok M i j h1 h2 hi (by omega)) (by simp only [st]; omega)).mono ?_
  rintro e w' ⟨rfl, hu⟩
  rw [st_over M i j hi hj] at hu ⊢
  exact ⟨rfl, h.on hg hu⟩
set_option maxHeartbeats 2000000 in
theorem walk (a0 : Int) (a1 : Int) (w : World) (hg0_ : (gInt .i64) a0) (hg1_ : (gInt .i64) a1)  :
    Calls Try.prog 6 #[.int .i64 a0, .int .i64 a1] w fun e w' => e = .returned (.bool true) ∧ Below w.heap.size w w' := by
  obtain ⟨m, hm, em⟩ : ∃ m : Nat, m < 200 ∧ wrap64 ((IntKind.u64.wrap a0).tmod 200) = m := cut a0 200 (by omega) (by omega)
  obtain ⟨n, hn, en⟩ : ∃ m : Nat, m < 8 ∧ wrap64 ((IntKind.u64.wrap a1).tmod 8) = m := cut a1 8 (by omega) (by omega)
  go_enter Try.func6, Try.ntmps6
  go_wp2_with fail
  refine (works w).mono ?_
  rintro e w1 ⟨rfl, hb⟩
  have HB := Aside0.mk hb
  clear hb
  go_wp2_with fail
  try rw [em]
  try rw [en]
  refine (new 4 (1 + (m : Int)) w1).mono ?_
  rintro e w2 (⟨h, _⟩ | ⟨_, rfl, hh, hb⟩)
  · exact absurd h (by simp only [newP, decide_eq_false_iff_not]; omega)
  rw [st_start] at hh
  have hB := HB.out.trans (hb.mono HB.out.size)
  have HJ := Aside0.mk (J.mk hh hB)
  clear hB
  have hgl : w.heap.size ≤ w1.heap.size := HB.out.size
  clear hh hb
  have hM1 : (1 : Int) ≤ (1 + (m : Int)) := by omega
  have hM2 : (1 + (m : Int)) ≤ 200 := by omega
  generalize (1 + (m : Int)) = M at *
  generalize w1.heap.size = g at *
  clear HB em en hm
  go_wp2_with fail
  have hpn := fun i : Nat => Aside0.mk (pow_pos' i)
  go_loopw [7, 8] (fun v7 v8 wr => ∃ i : Nat, i ≤ n ∧ v7 = .int .i64 (4 * 2 ^ i) ∧ v8 = .int .i64 i ∧ Aside0 (J w g (st M i 0) wr)) (fun _ i _ => n - (intOf i).toNat)
  case atStart => exact ⟨0, by omega, rfl, rfl, HJ⟩
  case round =>
    clear HJ
    obtain ⟨i, hi, rfl, rfl, HJ⟩ := hrel
    by_cases hlt : i < n
    · have hp16 := Aside0.mk (pow16 i (by omega))
      go_wp2_with fail
      refine (jwait HJ.out hM1 hM2 (by omega) (by omega)).mono ?_
      rintro e w3 ⟨rfl, hj3⟩
      have HJ3 := Aside0.mk hj3
      clear hj3 HJ
      go_wp2_with fail
      have hW1 : 1 ≤ mn (4 * 2 ^ i) M := W_pos hM1
      have hW2 : mn (4 * 2 ^ i) M ≤ M := W_le
      go_loopw [11] (fun v11 wr => ∃ j : Nat, (j : Int) + 1 ≤ mn (4 * 2 ^ i) M ∧ v11 = .int .i64 ((j : Int) + 1) ∧ Aside0 (J w g (st M i j) wr)) (fun j _ => 300 - (intOf j).toNat)
      case atStart => exact ⟨0, by omega, rfl, HJ3⟩
      case round =>
        clear HJ3
        obtain ⟨j, hj, rfl, HJ⟩ := hrel
        by_cases hlj : (j : Int) + 1 < mn (4 * 2 ^ i) M
        · go_wp2_with fail
          refine (jtick HJ.out hgl hM1 hM2 (by omega) hlj).mono ?_
          rintro e w4 ⟨rfl, hj4⟩
          have HJ4 := Aside0.mk hj4
          clear hj4 HJ
          go_wp2_with fail
          go_roundw
          case rel => exact ⟨j + 1, by omega, by go_num, HJ4⟩
          case measure => simp [intOf]; omega
        · have hje : (j : Int) + 1 = mn (4 * 2 ^ i) M := by omega
          go_wp2_with fail
          refine (jover HJ.out hgl hM1 hM2 (by omega) hje).mono ?_
          rintro e w4 ⟨rfl, hj4⟩
          have HJ4 := Aside0.mk hj4
          clear hj4 HJ
          have hsucc : (2 : Int) ^ (i + 1) = 2 * 2 ^ i := by rw [Int.pow_succ]; omega
          have hb2 := hp16.out
          have hb1 := (hpn i).out
          simp only [Int.toNat_natCast] at hb2
          have hb3 := pow16 (i + 1 : Nat) (by omega)
          simp only [Int.toNat_natCast] at hb3
          rw [hsucc] at hb3
          have HS := Aside0.mk hsucc
          clear hsucc
          go_wp2_with fail
          go_roundw
          case rel => exact ⟨i + 1, by omega, by rw [HS.out, Int.mul_left_comm], by go_num, HJ4⟩
          case measure => simp [intOf]; omega
    · obtain rfl : i = n := by omega
      go_wp2_with fail
      refine HJ.out.viewG.mono ?_
      rintro e w3 ⟨rfl, hw3⟩
      subst w3
      rw [show (st M i 0).view = (i : Int) + 1 from rfl]
      go_wp2_with fail
      refine (jwait HJ.out hM1 hM2 (by omega) (by omega)).mono ?_
      rintro e w3 ⟨rfl, hj3⟩
      have HJ3 := Aside0.mk hj3
      clear hj3 HJ
      go_wp2_with fail
      refine (HJ3.out.followG hgl (i + 1 + 1)).mono ?_
      rintro e w4 ⟨rfl, hj4⟩
      rw [show followP (st M i 0) (i + 1 + 1) = (true, ⟨i, 0, M, 4, i + 1 + 1⟩) from followP_on (by simp only [st]; omega) (by omega)] at hj4 ⊢
      have HJ4 := Aside0.mk hj4
      clear hj4 HJ3
      go_wp2_with fail
      refine (HJ4.out.waitG (by constructor <;> simp only <;> omega)).mono ?_
      rintro e w5 ⟨rfl, hj5⟩
      have HJ5 := Aside0.mk hj5
      clear hj5 HJ4
      rw [show waitP (⟨i, 0, M, 4, i + 1 + 1⟩ : PaceS).fails (⟨i, 0, M, 4, i + 1 + 1⟩ : PaceS).most = mn (4 * 2 ^ i) M from st_wait M i 0 (by omega)]
      go_wp2_with fail
      refine (HJ5.out.enterG hgl (i + 1 + 2)).mono ?_
      rintro e w6 ⟨rfl, hj6⟩
      rw [show enterP (⟨i, 0, M, 4, i + 1 + 1⟩ : PaceS) (i + 1 + 2) = (true, ⟨0, 0, M, 4, i + 1 + 2⟩) from enterP_on (by simp only; omega) (by omega)] at hj6 ⊢
      have HJ6 := Aside0.mk hj6
      clear hj6 HJ5
      go_wp2_with fail
      refine (HJ6.out.waitG (by constructor <;> simp only <;> omega)).mono ?_
      rintro e w7 ⟨rfl, hj7⟩
      have HJ7 := Aside0.mk hj7
      clear hj7 HJ6
      rw [show waitP (⟨0, 0, M, 4, i + 1 + 2⟩ : PaceS).fails (⟨0, 0, M, 4, i + 1 + 2⟩ : PaceS).most = mn 4 M from rfl]
      go_wp2_with fail
      go_ret
      exact ⟨rfl, HJ7.out.2⟩
end Go.Proofs.Ytjmloaegjmdeiaa.HandPaceWaits
