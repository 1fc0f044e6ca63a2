/- The law WavesRight walked. -/
import Derived.Test.YtkfhajdkpbpkdaaWorks21
import Derived.Test.YtkfhajdkpbpkdaaPlanRight21
namespace Go.Proofs.Ytkfhajdkpbpkdaa.HandWavesRight
open Go.RowKit Go.Proofs.YtkfhajdkpbpkdaaW.PrintWords Go.Proofs.YtkfhajdkpbpkdaaW.PrintMore Go.Proofs.Ytkfhajdkpbpkdaa.QKinds Go.Proofs.Ytkfhajdkpbpkdaa.QBase21 Go.Proofs.Ytkfhajdkpbpkdaa.Edges21 Go.Proofs.Ytkfhajdkpbpkdaa.Contracts21 Go.Proofs.Ytkfhajdkpbpkdaa.Plain21 Go.Proofs.Ytkfhajdkpbpkdaa.Plan21 Go.Proofs.Ytkfhajdkpbpkdaa.Pure21 Go.Proofs.Ytkfhajdkpbpkdaa.Law21 Go.Proofs.Ytkfhajdkpbpkdaa.Open Go.Proofs.Ytkfhajdkpbpkdaa.QOpen Go.Proofs.Ytkfhajdkpbpkdaa.CheckP Go.Proofs.Ytkfhajdkpbpkdaa.Check21 Go.Proofs.Ytkfhajdkpbpkdaa.CheckR21 Go.Proofs.Ytkfhajdkpbpkdaa.PlanRight21
set_option linter.unusedVariables false
set_option linter.unusedSimpArgs false
theorem fits_small {l : List S38} (hs : ∀ x, x ∈ l → Small x) (hl : l.length ≤ 500) : FitsAll l :=
  ⟨by omega, fun x hx => ⟨Nat.le_trans (hs x hx).h7 (by decide), Nat.le_trans (hs x hx).h8 (by decide)⟩⟩
theorem plan_wf {ws : List Int} {n : Nat} (hn : n ≤ 500) : ∀ row, row ∈ planN ws n → ∀ x, x ∈ row → (Lit.int .i64 x).wf = true := by
  intro row hr x hx
  obtain ⟨w, hw, rfl⟩ := List.getElem_of_mem hr
  have : x ∈ (planN ws n).getD w [] := by rw [List.getD_eq_getElem?_getD, List.getElem?_eq_getElem hw]; exact hx
  obtain ⟨j, rfl, hj, _⟩ := mem_plan this
  exact WalkArith.wf_i64 (by omega)
set_option maxHeartbeats 4000000 in
theorem walk (l0 : List (S38)) (w : World) (hg0_ : (gList g38) l0) (A0 : Option Addr) (c0 : Nat) (hr0 : Kd.C k38 w A0 l0.length l0) (hc0 : l0.length ≤ c0) (hb : (mList m38) l0 ≤ 1048576) :
    Calls Try.prog 5 #[.slice A0 l0.length c0] w fun e w' => e = .returned (.bool true) ∧ Below w.heap.size w w' := by
  obtain ⟨hs, hlen, k, b, hg1, hg2⟩ := start21 hb
  have HS := Aside0.mk hs
  have HG := Aside0.mk hg1
  have HL := Aside0.mk hg2
  have HR := Aside0.mk hr0
  clear hs hg1 hg2 hr0 hb hg0_
  go_enter Try.func5, Try.ntmps5
  go_wp2_with fail
  refine (Works21.works _).mono ?_
  rintro e w0 ⟨rfl, hb0⟩
  have HB0 := Aside0.mk hb0
  clear hb0
  go_wp2_with fail
  refine (greatC HG.out (Kd.C_below HR.out HB0.out) hc0).mono ?_
  rintro e w1 ⟨rfl, hb1⟩
  have HB1 := Aside0.mk (below_step HB0.out hb1)
  clear hb1 HG HB0
  cases b
  · have hl5 := HL.out (by simp)
    clear HL
    go_wp2_with fail
    refine (ownList HS.out hlen (Kd.C_below HR.out HB1.out) hc0).mono ?_
    rintro e w2 ⟨A2, c2, rfl, hc2, hr2, hb2⟩
    have HB2 := Aside0.mk (below_step HB1.out hb2)
    have HR2 := Aside0.mk hr2
    clear hb2 hr2 HB1
    go_wp2_with fail
    refine (planK HS.out hl5 HR2.out hc2).mono ?_
    rintro e w3 ⟨A3, c3, rfl, hc3, hr3, hb3⟩
    have HB3 := Aside0.mk (below_step HB2.out hb3)
    have HR3 := Aside0.mk hr3
    clear hb3 hr3 HB2 HR2
    go_wp2_with fail
    refine (ownList HS.out hlen (Kd.C_below HR.out HB3.out) hc0).mono ?_
    rintro e w4 ⟨A4, c4, rfl, hc4, hr4, hb4⟩
    have HB4 := Aside0.mk (below_step HB3.out hb4)
    have HR4 := Aside0.mk hr4
    have HR34 := Aside0.mk (Kd.C_below HR3.out hb4)
    clear hb4 hr4 HB3 HR3
    go_wp2_with fail
    have hpl : (pl (planN (waves l0) l0.length) (planN (waves l0) l0.length).length).length ≤ 1048576 := by
      have := plan_pl (waves l0) l0.length; omega
    have hP : (planN (waves l0) l0.length).length ≤ 1048576 := by
      have := plan_len_le hl5; omega
    refine (check_calls l0 (planN (waves l0) l0.length) A4 c4 A3 c3 _ HR4.out hc4 HR34.out hc3 (fits_small HS.out hl5) (plan_wf hl5) hpl (by omega) hP).mono ?_
    rintro e w5 ⟨r, hres, rfl, hb5⟩
    obtain rfl := plan_right l0 hres
    have HB5 := Aside0.mk (below_step HB4.out hb5)
    have HR35 := Aside0.mk (Kd.C_below HR34.out hb5)
    clear hb5 hres HB4 HR4 HR34 hpl
    go_wp2_with fail
    refine (rofK HS.out hl5 (Kd.C_below HR.out HB5.out) hc0).mono ?_
    rintro e w6 ⟨A6, c6, rfl, hc6, hr6, hb6⟩
    have HB6 := Aside0.mk (below_step HB5.out hb6)
    have HR36 := Aside0.mk (Kd.C_below HR35.out hb6)
    have HR6 := Aside0.mk hr6
    clear hb6 hr6 HB5 HR35
    have HNE : Aside0 (∀ w, w < (planN (waves l0) l0.length).length → 0 < ((planN (waves l0) l0.length).getD w []).length) := ⟨plan_nonempty l0⟩
    have HIN : Aside0 (∀ w x, x ∈ (planN (waves l0) l0.length).getD w [] → 0 ≤ x ∧ x < (l0.length : Int) ∧ rd (waves l0) x = (w : Int)) := ⟨fun w x hx => by
      obtain ⟨j, rfl, hj, e⟩ := mem_plan hx
      have hf := (waves_fit hl5).2 j (by rw [waves_length]; exact hj)
      refine ⟨by omega, by omega, ?_⟩
      show (waves l0).getD (j : Int).toNat 0 = _
      rw [Int.toNat_natCast]; omega⟩
    have hPP : (planN (waves l0) l0.length).length ≤ 1048576 := hP
    have HRL : Aside0 (∀ r, r ∈ planN (waves l0) l0.length → r.length ≤ 1048576) := ⟨(plan_small hl5).2⟩
    have HWL : Aside0 ((waves l0).length = l0.length) := ⟨waves_length l0⟩
    generalize planN (waves l0) l0.length = P at *
    generalize waves l0 = ws at *
    clear hP
    go_wp2_with fail
    go_loop [5] (fun s => ∃ k : Nat, k ≤ P.length ∧ s = .int .i64 k) (fun s => P.length - (intOf s).toNat)
    case atStart => exact ⟨0, by omega, rfl⟩
    case round =>
      obtain ⟨k, hk, rfl⟩ := hrel
      by_cases hlt : k < P.length
      · obtain ⟨ad, A9, c9, rfl, hx0, hl2, hi2⟩ := at_L6 HR36.out k (by omega) (by omega)
        simp only [Int.toNat_natCast] at hx0
        have HROW : Aside0 (rd_L6 P k = P.getD k []) := ⟨by simp [rd_L6]⟩
        have HMEM : Aside0 (rd_L6 P k ∈ P) := ⟨by rw [HROW.out, List.getD_eq_getElem?_getD, List.getElem?_eq_getElem hlt]; exact List.getElem_mem hlt⟩
        have hrl := HRL.out _ HMEM.out
        have hpos := HNE.out k hlt
        rw [← HROW.out] at hpos
        have HINK : Aside0 (∀ x, x ∈ rd_L6 P k → 0 ≤ x ∧ x < (l0.length : Int) ∧ rd ws x = (k : Int)) := ⟨fun x hx => HIN.out k x (by rw [← HROW.out]; exact hx)⟩
        generalize rd_L6 P k = row at *
        have HI2 := Aside0.mk hi2
        have hne : ((row.length : Int) == 0) = false := beq_eq_false_iff_ne.2 (by omega)
        clear hi2
        go_wp2_with fail
        go_loop [6] (fun s => ∃ j : Nat, j ≤ row.length ∧ s = .int .i64 j) (fun s => row.length - (intOf s).toNat)
        case atStart => exact ⟨0, by omega, rfl⟩
        case round =>
          obtain ⟨j, hj, rfl⟩ := hrel
          by_cases hltj : j < row.length
          · obtain ⟨ad3, rfl, hx1⟩ := Kd.at_int HI2.out j (by omega) (by omega)
            simp only [Int.toNat_natCast] at hx1
            have HX : Aside0 (rd row j ∈ row) := ⟨by rw [rd, Int.toNat_natCast, List.getD_eq_getElem?_getD, List.getElem?_eq_getElem hltj]; exact List.getElem_mem hltj⟩
            obtain ⟨h1, h2, h3⟩ := HINK.out _ HX.out
            have H3 := Aside0.mk h3
            generalize rd row j = x at *
            obtain ⟨ad4, rfl, hx4⟩ := Kd.at_int HR6.out x h1 (by have := HWL.out; omega)
            rw [h3] at hx4
            clear h3
            go_wp2_with fail
            go_round
            case rel => exact ⟨j + 1, by omega, by go_num⟩
            case measure => simp [intOf]; omega
          · go_wp2_with fail
            go_round
            case rel => exact ⟨k + 1, by omega, by go_num⟩
            case measure => simp [intOf]; omega
      · obtain rfl : k = P.length := by omega
        go_wp2_with fail
        go_ret
        exact ⟨rfl, HB6.out⟩
  · go_wp2_with fail
    go_ret
    exact ⟨rfl, HB1.out⟩
end Go.Proofs.Ytkfhajdkpbpkdaa.HandWavesRight
