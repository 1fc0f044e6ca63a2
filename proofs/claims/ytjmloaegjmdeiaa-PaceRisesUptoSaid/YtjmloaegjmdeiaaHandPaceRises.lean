/- The law PaceRises walked. -/
import Derived.Test.YtjmloaegjmdeiaaPaceInv
import Derived.Test.YtjmloaegjmdeiaaOpen
import Derived.Test.YtjmloaegjmdeiaaQOpen
namespace Go.Proofs.Ytjmloaegjmdeiaa.HandPaceRises
open Go.RowKit Go.Proofs.YtjmloaegjmdeiaaW.PrintWords Go.Proofs.YtjmloaegjmdeiaaW.PrintMore Go.Proofs.Ytjmloaegjmdeiaa.State Go.Proofs.Ytjmloaegjmdeiaa.Pace Go.Proofs.Ytjmloaegjmdeiaa.PaceWorks Go.Proofs.Ytjmloaegjmdeiaa.PaceBounds Go.Proofs.Ytjmloaegjmdeiaa.PaceInv Go.Proofs.Ytjmloaegjmdeiaa.Open Go.Proofs.Ytjmloaegjmdeiaa.QKinds Go.Proofs.Ytjmloaegjmdeiaa.QOpen
attribute [local go_sem] min2_mn min_two
set_option linter.unusedVariables false
set_option linter.unusedSimpArgs false
set_option maxHeartbeats 2000000 in
theorem walk (a0 : Int) (a1 : Int) (l2 : List (S31)) (w : World) (hg0_ : (gInt .i64) a0) (hg1_ : (gInt .i64) a1) (hg2_ : (gList g31) l2) (A2 : Option Addr) (c2 : Nat) (hr2 : Kd.C k31 w A2 l2.length l2) (hc2 : l2.length ≤ c2) (hb : mOne a0 + mOne a1 + (mList m31) l2 ≤ 1048576) :
    Calls Try.prog 4 #[.int .i64 a0, .int .i64 a1, .slice A2 l2.length c2] w fun e w' => e = .returned (.bool true) ∧ Below w.heap.size w w' := by
  obtain ⟨n, hn, en⟩ : ∃ m : Nat, m < 7 ∧ wrap64 ((IntKind.u64.wrap a0).tmod 7) = m := cut a0 7 (by omega) (by omega)
  obtain ⟨m, hm, em⟩ : ∃ m : Nat, m < 300 ∧ wrap64 ((IntKind.u64.wrap a1).tmod 300) = m := cut a1 300 (by omega) (by omega)
  have hlen : l2.length ≤ 1048576 := by
    have := len_le m31 (fun x => by unfold m31; omega) l2
    omega
  clear hb
  have HR := Aside0.mk hr2
  clear hr2
  go_enter Try.func4, Try.ntmps4
  go_wp2_with fail
  refine (works w).mono ?_
  rintro e w1 ⟨rfl, hb⟩
  have HB := Aside0.mk hb
  clear hb
  go_wp2_with fail
  try rw [em]
  try rw [en]
  refine (new (1 + (n : Int)) (1 + (m : Int)) w1).mono ?_
  rintro e w2 (⟨h, _⟩ | ⟨_, rfl, hh, hb⟩)
  · exact absurd h (by simp only [newP, decide_eq_false_iff_not]; omega)
  have hB := HB.out.trans (hb.mono HB.out.size)
  have HJ := Aside0.mk (J.mk hh hB)
  clear hB
  have hgl : w.heap.size ≤ w1.heap.size := HB.out.size
  clear hh hb
  have hM1 : (1 : Int) ≤ (1 + (m : Int)) := by omega
  have hM2 : (1 + (m : Int)) ≤ 300 := by omega
  have HI := Aside0.mk (PaceInv.start (n := 1 + (n : Int)) (by omega) (by omega) hM1 (by omega))
  generalize (1 + (m : Int)) = M at *
  generalize (1 + (n : Int)) = N at *
  generalize w1.heap.size = g at *
  clear HB em en hm
  go_wp2_with fail
  go_loopw [9] (fun v9 wr => ∃ (i : Nat) (s : PaceS), i ≤ l2.length ∧ v9 = .int .i64 i ∧ Aside0 (J w g s wr) ∧ Aside0 (Inv N M s)) (fun i _ => l2.length - (intOf i).toNat)
  case atStart => exact ⟨0, _, by omega, rfl, HJ, HI⟩
  case round =>
    clear HJ HI
    obtain ⟨i, s, hi, rfl, HJ, HI⟩ := hrel
    by_cases hlt : i < l2.length ∧ i < 40
    · obtain ⟨hl1, hl2⟩ := hlt
      obtain ⟨ad, rfl, hc0, hc1⟩ := at_T31 HR.out i (by omega) (by omega)
      have hr0 := pw_cell_below HJ.out.2 hc0
      have hr1 := pw_cell_below HJ.out.2 hc1
      simp only [Int.toNat_natCast] at hr0 hr1
      clear hc0 hc1
      generalize hx : rd_T31 l2 i = x at hr0 hr1
      go_wp2_with fail
      refine HJ.out.viewG.mono ?_
      rintro e w3 ⟨rfl, hw3⟩
      subst w3
      go_wp2_with fail
      · refine (HJ.out.tickG hgl HI.out.ok HI.out.lt).mono ?_
        rintro e w4 ⟨rfl, hj4⟩
        have HJ4 := Aside0.mk hj4
        have hv := (tick_inv HI.out).2
        have HI4 := Aside0.mk (tick_inv HI.out).1
        clear hj4 HJ HI
        go_wp2_with fail
        refine HJ4.out.viewG.mono ?_
        rintro e w5 ⟨rfl, hw5⟩
        subst w5
        go_wp2_with fail
        go_roundw
        case rel => exact ⟨i + 1, _, by omega, by go_num, HJ4, HI4⟩
        case measure => simp [intOf]; omega
      · refine (HJ.out.enterG hgl x.f1).mono ?_
        rintro e w4 ⟨rfl, hj4⟩
        have HJ4 := Aside0.mk hj4
        have hv := (enter_inv HI.out x.f1).2
        have HI4 := Aside0.mk (enter_inv HI.out x.f1).1
        clear hj4 HJ HI
        go_wp2_with fail
        refine HJ4.out.viewG.mono ?_
        rintro e w5 ⟨rfl, hw5⟩
        subst w5
        go_wp2_with fail
        go_roundw
        case rel => exact ⟨i + 1, _, by omega, by go_num, HJ4, HI4⟩
        case measure => simp [intOf]; omega
      · refine (HJ.out.followG hgl x.f1).mono ?_
        rintro e w4 ⟨rfl, hj4⟩
        have HJ4 := Aside0.mk hj4
        have hv := (follow_inv HI.out x.f1).2
        have HI4 := Aside0.mk (follow_inv HI.out x.f1).1
        clear hj4 HJ HI
        go_wp2_with fail
        refine HJ4.out.viewG.mono ?_
        rintro e w5 ⟨rfl, hw5⟩
        subst w5
        go_wp2_with fail
        go_roundw
        case rel => exact ⟨i + 1, _, by omega, by go_num, HJ4, HI4⟩
        case measure => simp [intOf]; omega
      · refine HJ.out.viewG.mono ?_
        rintro e w5 ⟨rfl, hw5⟩
        subst w5
        go_wp2_with fail
        go_roundw
        case rel => exact ⟨i + 1, _, by omega, by go_num, HJ, HI⟩
        case measure => simp [intOf]; omega
    · have hor : l2.length ≤ i ∨ (i < l2.length ∧ 40 ≤ i) := by omega
      clear hlt
      have hv1 := HI.out.ok.v1
      have hv0 := HI.out.ok.v0
      rcases hor with h1 | ⟨h1, h2⟩
      all_goals (
        go_wp2_with fail
        refine HJ.out.viewG.mono ?_
        rintro e w3 ⟨rfl, hw3⟩
        subst w3
        by_cases hbig : 1152921504606846976 < s.view
        · go_wp2_with fail
          go_ret
          exact ⟨rfl, HJ.out.2⟩
        · go_wp2_with fail
          have hw := @waitP_le s.fails s.most
          rw [HI.out.m] at hw
          have ht0 := HI.out.ok.t0
          have ht := HI.out.t
          rw [HI.out.m] at ht
          have hvl : s.view < 4611686018427387903 := by omega
          have HJ0 : Aside0 (J w g (later s 0) wr) := ⟨by rw [later_zero]; exact HJ.out⟩
          clear HJ
          generalize hW : waitP s.fails M = W at hw ht
          have HW : Aside0 (waitP s.fails s.most = W) := ⟨by rw [HI.out.m, hW]⟩
          clear hW h1 hbig hv1
          try clear h2
          go_loopw [12] (fun v12 wr => ∃ k : Nat, s.ticks + k < W ∧ v12 = .int .i64 k ∧ Aside0 (J w g (later s k) wr)) (fun k _ => 1000 - (intOf k).toNat)
          case atStart => exact ⟨0, by omega, rfl, HJ0⟩
          case round =>
            clear HJ0
            obtain ⟨k, hk, rfl, HJ⟩ := hrel
            have HK := Aside0.mk (later_inv HI.out k (by rw [HW.out]; exact hk))
            by_cases hkk : s.ticks + k + 1 < W
            · have HT := Aside0.mk (later_tick k (by rw [HW.out]; exact hkk) hvl)
              go_wp2_with fail
              refine (HJ.out.tickG hgl HK.out.ok HK.out.lt).mono ?_
              rintro e w4 ⟨rfl, hj4⟩
              rw [HT.out] at hj4 ⊢
              have HJ4 := Aside0.mk hj4
              clear hj4 HJ HT
              go_wp2_with fail
              go_roundw
              case rel => exact ⟨k + 1, by omega, by go_num, HJ4⟩
              case measure => simp [intOf]; omega
            · have HT := Aside0.mk (later_over k (by rw [HW.out]; omega) hvl)
              go_wp2_with fail
              refine (HJ.out.tickG hgl HK.out.ok HK.out.lt).mono ?_
              rintro e w4 ⟨rfl, hj4⟩
              rw [HT.out.1] at ⊢
              have HJ4 := Aside0.mk hj4
              clear hj4 HJ
              go_wp2_with fail
              refine HJ4.out.viewG.mono ?_
              rintro e w5 ⟨rfl, hw5⟩
              subst w5
              rw [HT.out.2]
              go_wp2_with fail
              go_ret
              exact ⟨rfl, HJ4.out.2⟩)
end Go.Proofs.Ytjmloaegjmdeiaa.HandPaceRises
