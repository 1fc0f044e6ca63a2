/- The law PaceDoes walked. -/
import Derived.Test.YtjmloaegjmdeiaaPacePair
import Derived.Test.YtjmloaegjmdeiaaOpen
import Derived.Deep.RegionHeld3
import Derived.Deep.QuietTactic
import Derived.Sort.AtCall
import Derived.Test.YtjmloaegjmdeiaaQOpen
namespace Go.Proofs.Ytjmloaegjmdeiaa.HandPaceDoes
open Go.RowKit Go.Proofs.YtjmloaegjmdeiaaW.PrintWords Go.Proofs.YtjmloaegjmdeiaaW.PrintMore Go.Proofs.Ytjmloaegjmdeiaa.State Go.Proofs.Ytjmloaegjmdeiaa.Pace Go.Proofs.Ytjmloaegjmdeiaa.PaceBounds Go.Proofs.Ytjmloaegjmdeiaa.PaceInv Go.Proofs.Ytjmloaegjmdeiaa.PacePair Go.Proofs.Ytjmloaegjmdeiaa.Open Go.Proofs.Ytjmloaegjmdeiaa.QKinds Go.Proofs.Ytjmloaegjmdeiaa.QOpen
attribute [local go_sem] min2_mn min_two
set_option linter.unusedVariables false
set_option linter.unusedSimpArgs false
set_option maxHeartbeats 8000000 in
set_option maxRecDepth 100000 in
theorem walk (a0 : Int) (a1 : Int) (l2 : List (S31)) (a3 : Int) (w : World) (hg0_ : (gInt .i64) a0) (hg1_ : (gInt .i64) a1) (hg2_ : (gList g31) l2) (hg3_ : (gInt .i64) a3) (A2 : Option Addr) (c2 : Nat) (hr2 : Kd.C k31 w A2 l2.length l2) (hc2 : l2.length ≤ c2) (hb : mOne a0 + mOne a1 + (mList m31) l2 + mOne a3 ≤ 1048576) :
    Calls Try.prog 3 #[.int .i64 a0, .int .i64 a1, .slice A2 l2.length c2, .int .i64 a3] w fun e w' => e = .returned (.bool true) ∧ Below w.heap.size w w' := by
  have hlen : l2.length ≤ 1048576 := by
    have := len_le m31 (fun x => by unfold m31; omega) l2
    omega
  clear hb
  have HR := Aside0.mk hr2
  clear hr2
  by_cases hnew : newP a0 a1 = true
  · have hq : 1 ≤ a0 ∧ a0 ≤ 7 ∧ 1 ≤ a1 ∧ a1 ≤ 1000 := by simpa [newP] using hnew
    go_enter Try.func3, Try.ntmps3
    go_wp2_with fail
    refine (new a0 a1 w).mono ?_
    rintro e w1 (⟨h, _⟩ | ⟨_, rfl, hh, hb⟩)
    · rw [hnew] at h; cases h
    have HH := Aside0.mk hh
    have HB := Aside0.mk hb
    clear hh hb
    go_wp2_with fail
    refine (rnew a0 a1 w1).mono ?_
    rintro e w2 (⟨h, _⟩ | ⟨_, rfl, hh, hb⟩)
    · rw [hnew] at h; cases h
    have HJ : Aside0 (JJ w w.heap.size w1.heap.size (startP a0 a1) (startP a0 a1) w2) := ⟨⟨State.blk_below HH.out hb, hh, HB.out.trans (hb.mono HB.out.size)⟩⟩
    have HS : Two w w.heap.size w1.heap.size := ⟨Nat.le_refl _, HB.out.size, Nat.ne_of_lt (lt_of_blk HH.out)⟩
    have HI := Aside0.mk (PaceInv.start hq.1 hq.2.1 hq.2.2.1 hq.2.2.2)
    clear hh hb HH HB
    generalize hgg : w.heap.size = g at HJ HS ⊢
    generalize w1.heap.size = h at *
    go_wp2_with fail
    go_loopw [13] (fun v13 wr => ∃ (i : Nat) (s : PaceS), i ≤ l2.length ∧ v13 = .int .i64 i ∧ Aside0 (JJ w g h s s wr) ∧ Aside0 (Inv a0 a1 s)) (fun i _ => l2.length - (intOf i).toNat)
    case atStart => exact ⟨0, _, by omega, rfl, HJ, HI⟩
    case round =>
      clear HJ HI
      obtain ⟨i, s, hi, rfl, HJ, HI⟩ := hrel
      by_cases hlt : i < l2.length ∧ i < 60
      · obtain ⟨hl1, hl2⟩ := hlt
        obtain ⟨ad, rfl, hc0, hc1⟩ := at_T31 HR.out i (by omega) (by omega)
        simp only [Int.toNat_natCast] at hc0 hc1
        have hr0 := pw_cell_below HJ.out.below hc0
        have hr1 := pw_cell_below HJ.out.below hc1
        generalize hx : rd_T31 l2 i = x at hr0 hr1 hc0 hc1
        have HC0 := Aside0.mk hc0
        have HC1 := Aside0.mk hc1
        clear hc0 hc1
        have hd : decide ((i : Int) < 60) = true := decide_eq_true (by omega)
        clear hl2
        go_wp2_with fail
        · obtain ⟨q, hq, eq⟩ : ∃ m : Nat, m < 100 ∧ wrap64 ((IntKind.u64.wrap x.f1).tmod 100) = m := cut x.f1 100 (by omega) (by omega)
          have hk0 : (x.f0 == 0) = true := by assumption
          rw [hk0]
          go_loopw [14] (fun v14 wr => ∃ (k : Nat) (s : PaceS), v14 = .int .i64 k ∧ k ≤ q ∧ Aside0 (JJ w g h s s wr) ∧ Aside0 (Inv a0 a1 s)) (fun k _ => 1000 - (intOf k).toNat)
          case atStart => exact ⟨0, s, rfl, by omega, HJ, HI⟩
          case round =>
            clear HJ HI hr0 hr1
            obtain ⟨k, s, rfl, hk, HJ, HI⟩ := hrel
            have hr1 := pw_cell_below HJ.out.below HC1.out
            by_cases hkq : k < q
            · go_wp2_with fail
              refine (HJ.out.ptick HS HI.out.ok HI.out.lt).mono ?_
              rintro e w3 ⟨rfl, hj3⟩
              have HJ3 := Aside0.mk hj3
              clear hj3 HJ
              go_wp2_with fail
              refine (HJ3.out.rtick HS HI.out.ok HI.out.lt).mono ?_
              rintro e w4 ⟨rfl, hj4⟩
              have HJ4 := Aside0.mk hj4
              have HI4 := Aside0.mk (tick_inv HI.out).1
              clear hj4 HJ3
              go_wp2_with fail
              go_roundw
              case rel => exact ⟨k + 1, _, by go_num, by omega, HJ4, HI4⟩
              case measure => simp [intOf]; omega
            · obtain rfl : k = q := by omega
              go_wp2_with fail
              refine (HJ.out.pwait HI.out.ok).mono ?_
              rintro e w5 ⟨rfl, hj5⟩
              have HJ5 := Aside0.mk hj5
              clear hj5 HJ
              have d2 : w5.cell? ⟨h, 2, none⟩ = some (.int .i64 s.view) := cell_blk HJ5.out.r
              have d4 : w5.cell? ⟨h, 4, none⟩ = some (.int .i64 s.ticks) := cell_blk HJ5.out.r
              have Q1 := Aside0.mk HJ5.out.qview
              have Q2 := Aside0.mk (HJ5.out.qwait HI.out.ok)
              have Q3 := Aside0.mk (HJ5.out.qleader HI.out.ok a3)
              have Q4 := Aside0.mk (HJ5.out.qrleader HI.out.ok a3)
              have Q5 := Aside0.mk (HJ5.out.qleader HI.out.ok s.view)
              have Q6 := Aside0.mk (HJ5.out.qrleader HI.out.ok s.view)
              go_wp2_with fail
              go_quiet (first | (go_at_call 16; exact Q1.out _) | (go_at_call 17; exact Q2.out _) | (go_at_call_has 18 a3; exact Q3.out _) | (go_at_call_has 19 a3; exact Q4.out _) | (go_at_call_has 18 (s.view); exact Q5.out _) | (go_at_call_has 19 (s.view); exact Q6.out _))
              go_wp2_with fail
              go_roundw
              case rel => exact ⟨i + 1, _, by omega, by go_num, ⟨HJ5.out.drewN _⟩, HI⟩
              case measure => simp [intOf]; omega
        · go_region_held3 (fun w' => w'.cell? ⟨(ad.add (i * 2)).block, (ad.add (i * 2)).off + 1, none⟩ = some (.int .i64 x.f1)) (assumption)
            (first
              | (go_at_call 11; refine (HJ.out.drew.penter HS x.f1).mono ?_; rintro e w3 ⟨rfl, hj3⟩; have HJ3 := Aside0.mk hj3; have hr3 := pw_cell_below hj3.below HC1.out; clear hj3)
              | (go_at_call 12; refine (HJ3.out.renter HS x.f1).mono ?_; rintro e w4 ⟨rfl, hj4⟩; have HJ4 := Aside0.mk hj4; have hr4 := pw_cell_below hj4.below HC1.out; clear hj4))
          have HI4 := Aside0.mk (enter_inv HI.out x.f1).1
          generalize (enterP s x.f1).2 = s' at HJ4 HI4
          clear HJ HJ3 HI
          go_wp2_with fail
          refine (HJ4.out.pwait HI4.out.ok).mono ?_
          rintro e w5 ⟨rfl, hj5⟩
          have HJ5 := Aside0.mk hj5
          clear hj5 HJ4
          have d2 : w5.cell? ⟨h, 2, none⟩ = some (.int .i64 s'.view) := cell_blk HJ5.out.r
          have d4 : w5.cell? ⟨h, 4, none⟩ = some (.int .i64 s'.ticks) := cell_blk HJ5.out.r
          have Q1 := Aside0.mk HJ5.out.qview
          have Q2 := Aside0.mk (HJ5.out.qwait HI4.out.ok)
          have Q3 := Aside0.mk (HJ5.out.qleader HI4.out.ok a3)
          have Q4 := Aside0.mk (HJ5.out.qrleader HI4.out.ok a3)
          have Q5 := Aside0.mk (HJ5.out.qleader HI4.out.ok s'.view)
          have Q6 := Aside0.mk (HJ5.out.qrleader HI4.out.ok s'.view)
          go_wp2_with fail
          go_quiet (first | (go_at_call 16; exact Q1.out _) | (go_at_call 17; exact Q2.out _) | (go_at_call_has 18 a3; exact Q3.out _) | (go_at_call_has 19 a3; exact Q4.out _) | (go_at_call_has 18 (s'.view); exact Q5.out _) | (go_at_call_has 19 (s'.view); exact Q6.out _))
          go_wp2_with fail
          go_roundw
          case rel => exact ⟨i + 1, _, by omega, by go_num, ⟨HJ5.out.drewN _⟩, HI4⟩
          case measure => simp [intOf]; omega
        · go_region_held3 (fun w' => w'.cell? ⟨(ad.add (i * 2)).block, (ad.add (i * 2)).off + 1, none⟩ = some (.int .i64 x.f1)) (assumption)
            (first
              | (go_at_call 13; refine (HJ.out.drew.pfollow HS x.f1).mono ?_; rintro e w3 ⟨rfl, hj3⟩; have HJ3 := Aside0.mk hj3; have hr3 := pw_cell_below hj3.below HC1.out; clear hj3)
              | (go_at_call 14; refine (HJ3.out.rfollow HS x.f1).mono ?_; rintro e w4 ⟨rfl, hj4⟩; have HJ4 := Aside0.mk hj4; have hr4 := pw_cell_below hj4.below HC1.out; clear hj4))
          have HI4 := Aside0.mk (follow_inv HI.out x.f1).1
          generalize (followP s x.f1).2 = s' at HJ4 HI4
          clear HJ HJ3 HI
          go_wp2_with fail
          refine (HJ4.out.pwait HI4.out.ok).mono ?_
          rintro e w5 ⟨rfl, hj5⟩
          have HJ5 := Aside0.mk hj5
          clear hj5 HJ4
          have d2 : w5.cell? ⟨h, 2, none⟩ = some (.int .i64 s'.view) := cell_blk HJ5.out.r
          have d4 : w5.cell? ⟨h, 4, none⟩ = some (.int .i64 s'.ticks) := cell_blk HJ5.out.r
          have Q1 := Aside0.mk HJ5.out.qview
          have Q2 := Aside0.mk (HJ5.out.qwait HI4.out.ok)
          have Q3 := Aside0.mk (HJ5.out.qleader HI4.out.ok a3)
          have Q4 := Aside0.mk (HJ5.out.qrleader HI4.out.ok a3)
          have Q5 := Aside0.mk (HJ5.out.qleader HI4.out.ok s'.view)
          have Q6 := Aside0.mk (HJ5.out.qrleader HI4.out.ok s'.view)
          go_wp2_with fail
          go_quiet (first | (go_at_call 16; exact Q1.out _) | (go_at_call 17; exact Q2.out _) | (go_at_call_has 18 a3; exact Q3.out _) | (go_at_call_has 19 a3; exact Q4.out _) | (go_at_call_has 18 (s'.view); exact Q5.out _) | (go_at_call_has 19 (s'.view); exact Q6.out _))
          go_wp2_with fail
          go_roundw
          case rel => exact ⟨i + 1, _, by omega, by go_num, ⟨HJ5.out.drewN _⟩, HI4⟩
          case measure => simp [intOf]; omega
        · have HJ4 := HJ
          have HI4 := HI
          clear HJ HI
          go_wp2_with fail
          refine (HJ4.out.pwait HI4.out.ok).mono ?_
          rintro e w5 ⟨rfl, hj5⟩
          have HJ5 := Aside0.mk hj5
          clear hj5 HJ4
          have d2 : w5.cell? ⟨h, 2, none⟩ = some (.int .i64 s.view) := cell_blk HJ5.out.r
          have d4 : w5.cell? ⟨h, 4, none⟩ = some (.int .i64 s.ticks) := cell_blk HJ5.out.r
          have Q1 := Aside0.mk HJ5.out.qview
          have Q2 := Aside0.mk (HJ5.out.qwait HI4.out.ok)
          have Q3 := Aside0.mk (HJ5.out.qleader HI4.out.ok a3)
          have Q4 := Aside0.mk (HJ5.out.qrleader HI4.out.ok a3)
          have Q5 := Aside0.mk (HJ5.out.qleader HI4.out.ok s.view)
          have Q6 := Aside0.mk (HJ5.out.qrleader HI4.out.ok s.view)
          go_wp2_with fail
          go_quiet (first | (go_at_call 16; exact Q1.out _) | (go_at_call 17; exact Q2.out _) | (go_at_call_has 18 a3; exact Q3.out _) | (go_at_call_has 19 a3; exact Q4.out _) | (go_at_call_has 18 (s.view); exact Q5.out _) | (go_at_call_has 19 (s.view); exact Q6.out _))
          go_wp2_with fail
          go_roundw
          case rel => exact ⟨i + 1, _, by omega, by go_num, ⟨HJ5.out.drewN _⟩, HI4⟩
          case measure => simp [intOf]; omega
      · have hor : l2.length ≤ i ∨ (i < l2.length ∧ 60 ≤ i) := by omega
        clear hlt
        rcases hor with h1 | ⟨h1, h2⟩
        all_goals (
          go_wp2_with fail
          go_ret
          exact ⟨rfl, HJ.out.below⟩)
  · go_enter Try.func3, Try.ntmps3
    go_wp2_with fail
    refine (new a0 a1 w).mono ?_
    rintro e w1 (⟨_, rfl, hb⟩ | ⟨h, _⟩)
    rotate_left
    · exact absurd h hnew
    have HB := Aside0.mk hb
    clear hb
    go_wp2_with fail
    refine (rnew a0 a1 w1).mono ?_
    rintro e w2 (⟨_, rfl, hb⟩ | ⟨h, _⟩)
    rotate_left
    · exact absurd h hnew
    have HB2 := Aside0.mk (HB.out.trans (hb.mono HB.out.size))
    clear hb
    go_wp2_with fail
    go_ret
    exact ⟨rfl, HB2.out⟩
end Go.Proofs.Ytjmloaegjmdeiaa.HandPaceDoes
