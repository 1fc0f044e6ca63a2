/- The law WavesPlans walked. -/
import Derived.Test.YtkfhajdkpbpkdaaLaw21
namespace Go.Proofs.Ytkfhajdkpbpkdaa.HandWavesPlans
open Go.RowKit Go.Proofs.YtkfhajdkpbpkdaaW.PrintWords Go.Proofs.YtkfhajdkpbpkdaaW.PrintMore Go.Proofs.Ytkfhajdkpbpkdaa.QKinds Go.Proofs.Ytkfhajdkpbpkdaa.QBase21 Go.Proofs.Ytkfhajdkpbpkdaa.Contracts21 Go.Proofs.Ytkfhajdkpbpkdaa.Plain21 Go.Proofs.Ytkfhajdkpbpkdaa.Plan21 Go.Proofs.Ytkfhajdkpbpkdaa.Pure21 Go.Proofs.Ytkfhajdkpbpkdaa.Law21 Go.Proofs.Ytkfhajdkpbpkdaa.Open Go.Proofs.Ytkfhajdkpbpkdaa.QOpen
set_option linter.unusedVariables false
set_option linter.unusedSimpArgs false
set_option maxHeartbeats 2000000 in
theorem walk (l0 : List (S38)) (w : World) (hg0_ : (gList g38) l0) (A0 : Option Addr) (c0 : Nat) (hr0 : Kd.C k38 w A0 l0.length l0) (hc0 : l0.length ≤ c0) (hb : (mList m38) l0 ≤ 1048576) :
    Calls Try.prog 3 #[.slice A0 l0.length c0] w fun e w' => e = .returned (.bool true) ∧ Below w.heap.size w w' := by
  obtain ⟨hs, hlen, k, b, hg1, hg2⟩ := start21 hb
  have HS := Aside0.mk hs
  have HG := Aside0.mk hg1
  have HL := Aside0.mk hg2
  have HR := Aside0.mk hr0
  clear hs hg1 hg2 hr0 hb hg0_
  go_enter Try.func3, Try.ntmps3
  go_wp2_with fail
  refine (greatC HG.out HR.out hc0).mono ?_
  rintro e w1 ⟨rfl, hb1⟩
  have HB1 := Aside0.mk hb1
  clear hb1 HG
  cases b
  · have hl5 := HL.out (by simp)
    clear HL
    have hwl : Aside0 ((waves l0).length = l0.length) := ⟨waves_length l0⟩
    go_wp2_with fail
    refine (ownList HS.out hlen (Kd.C_below HR.out HB1.out) hc0).mono ?_
    rintro e w2 ⟨A2, c2, rfl, hc2, hr2, hb2⟩
    have HB2 := Aside0.mk (below_step HB1.out hb2)
    have HR2 := Aside0.mk hr2
    clear hb2 hr2 HB1
    go_wp2_with fail
    refine (ofK HS.out hl5 HR2.out hc2).mono ?_
    rintro e w3 ⟨A3, c3, rfl, hc3, hr3, hb3⟩
    have HB3 := Aside0.mk (below_step HB2.out hb3)
    have HR3 := Aside0.mk hr3
    clear hb3 hr3 HB2 HR2
    go_wp2_with fail
    refine (rofK HS.out hl5 (Kd.C_below HR.out HB3.out) hc0).mono ?_
    rintro e w4 ⟨A4, c4, rfl, hc4, hr4, hb4⟩
    have HB4 := Aside0.mk (below_step HB3.out hb4)
    have HR34 := Aside0.mk (Kd.C_below HR3.out hb4)
    have HR4 := Aside0.mk hr4
    clear hb4 hr4 HB3 HR3
    go_wp2_with fail
    refine (sameLit hl5 HR34.out hc3 HR4.out hc4).mono ?_
    rintro e w5 ⟨rfl, hb5⟩
    have HB5 := Aside0.mk (below_step HB4.out hb5)
    clear hb5 HB4 HR34 HR4
    go_wp2_with fail
    refine (ownList HS.out hlen (Kd.C_below HR.out HB5.out) hc0).mono ?_
    rintro e w6 ⟨A6, c6, rfl, hc6, hr6, hb6⟩
    have HB6 := Aside0.mk (below_step HB5.out hb6)
    have HR6 := Aside0.mk hr6
    clear hb6 hr6 HB5
    go_wp2_with fail
    refine (planK HS.out hl5 HR6.out hc6).mono ?_
    rintro e w7 ⟨A7, c7, rfl, hc7, hr7, hb7⟩
    have HB7 := Aside0.mk (below_step HB6.out hb7)
    have HR7 := Aside0.mk hr7
    clear hb7 hr7 HB6 HR6
    go_wp2_with fail
    refine (rplanK HS.out hl5 (Kd.C_below HR.out HB7.out) hc0).mono ?_
    rintro e w8 ⟨A8, c8, rfl, hc8, hr8, hb8⟩
    have HB8 := Aside0.mk (below_step HB7.out hb8)
    have HR78 := Aside0.mk (Kd.C_below HR7.out hb8)
    have HR8 := Aside0.mk hr8
    clear hb8 hr8 HB7 HR7
    obtain ⟨hp1, hp2⟩ := plan_small hl5
    have HP1 := Aside0.mk hp1
    have HP2 := Aside0.mk hp2
    clear hp1 hp2
    go_wp2_with fail
    refine (sameK HP1.out HP2.out HR78.out hc7 HR8.out hc8).mono ?_
    rintro e w9 ⟨rfl, hb9⟩
    have HB9 := Aside0.mk (below_step HB8.out hb9)
    clear hb9
    go_wp2_with fail
    go_ret
    exact ⟨rfl, HB9.out⟩
  · go_wp2_with fail
    go_ret
    exact ⟨rfl, HB1.out⟩
end Go.Proofs.Ytkfhajdkpbpkdaa.HandWavesPlans
