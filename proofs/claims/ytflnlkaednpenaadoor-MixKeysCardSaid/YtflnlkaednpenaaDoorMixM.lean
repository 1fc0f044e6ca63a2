/- works, MixBare, MixFront walked. -/
import Derived.Test.YtflnlkaednpenaaDoorMixWk
namespace Go.Proofs.YtflnlkaednpenaaDoor.MixM
open Go.RowKit Go.Proofs.YtflnlkaednpenaaDoorW.PrintWords Go.Proofs.YtflnlkaednpenaaDoor.State Go.Proofs.YtflnlkaednpenaaDoor.MixV Go.Proofs.YtflnlkaednpenaaDoor.MixS Go.Proofs.YtflnlkaednpenaaDoor.MixK Go.Proofs.YtflnlkaednpenaaDoor.MixWk
set_option linter.unusedVariables false
set_option linter.unusedSimpArgs false
set_option maxHeartbeats 1000000 in
set_option maxRecDepth 100000 in
theorem works (w : World) (hV : Vars w) : Calls Tryd.prog 13 #[] w fun e w' => e = .returned (.bool true) ∧ Below w.heap.size w w' := by
  have HS := Aside0.mk (sum abcB w hV (by decide))
  have HK := Aside0.mk (fun (W : World) (h : Vars W) => keyed keyB textB W h (by decide) (by decide))
  rw [abc_sum] at HS
  simp only [key_text] at HK
  have HV := Aside0.mk hV
  clear hV
  go_enter Tryd.func13, Tryd.ntmps13
  go_wp2_with fail
  refine HS.out.mono ?_
  rintro e w1 ⟨rfl, hB1⟩
  have HV1 := Aside0.mk (HV.out.below' hB1)
  have HB1 := Aside0.mk hB1
  clear hB1
  rw [abcD]
  go_wp2_with fail
  refine (HK.out w1 HV1.out).mono ?_
  rintro e w2 ⟨rfl, hB2⟩
  have HB2 := Aside0.mk (bt HB1.out hB2)
  clear hB2
  rw [keyD]
  go_wp2_with fail
  go_ret
  exact ⟨rfl, HB2.out⟩
theorem keyed_nil (s : ByteArray) : keyedP ⟨#[]⟩ s = sumP s := by
  have h : shortK ⟨#[]⟩ = ⟨#[]⟩ := by rw [shortK, if_neg (by decide)]
  rw [keyedP, h, ksumP, if_pos (show (⟨#[]⟩ : ByteArray).size = 0 from rfl)]
theorem keyed_sum (key s : ByteArray) (h : 32 < key.size) : keyedP (sumP key) s = keyedP key s := by
  have h1 : shortK key = sumP key := by rw [shortK, if_pos h]
  have h2 : shortK (sumP key) = sumP key := by rw [shortK, if_neg (by rw [sumP_size]; omega)]
  rw [keyedP, keyedP, h1, h2]
theorem shortP_size (key s : ByteArray) : (shortP key s).size = 16 := by
  rw [shortP, ByteArray.size_extract, keyedP_size]; rfl
set_option maxHeartbeats 1000000 in
set_option maxRecDepth 100000 in
theorem bare (key s : ByteArray) (w : World) (hV : Vars w) : Calls Tryd.prog 5 #[.string key, .string s] w fun e w' => e = .returned (.bool true) ∧ Below w.heap.size w w' := by
  have HW := Aside0.mk (works w hV)
  have HV := Aside0.mk hV
  clear hV
  go_enter Tryd.func5, Tryd.ntmps5
  go_wp2_with fail
  refine HW.out.mono ?_
  rintro e w1 ⟨rfl, hB1⟩
  have HV1 := Aside0.mk (HV.out.below' hB1)
  have HB1 := Aside0.mk hB1
  clear hB1
  by_cases h1 : 2000 < s.size
  · have hb1 : decide ((2000 : Int) < (s.size : Int)) = true := decide_eq_true (by omega)
    go_wp2_with fail
    go_ret
    exact ⟨rfl, HB1.out⟩
  · have hb1 : decide ((2000 : Int) < (s.size : Int)) = false := decide_eq_false (by omega)
    by_cases h2 : 2000 < key.size
    · have hb2 : decide ((2000 : Int) < (key.size : Int)) = true := decide_eq_true (by omega)
      go_wp2_with fail
      go_ret
      exact ⟨rfl, HB1.out⟩
    · have hb2 : decide ((2000 : Int) < (key.size : Int)) = false := decide_eq_false (by omega)
      go_wp2_with fail
      refine (keyed ⟨#[]⟩ s w1 HV1.out (by decide) (by omega)).mono ?_
      rintro e w2 ⟨rfl, hB2⟩
      have HB2 := Aside0.mk (bt HB1.out hB2)
      clear hB2 HB1 HV1
      rw [keyed_nil]
      go_wp2_with fail
      refine (sum s w2 (HV.out.below' HB2.out) (by omega)).mono ?_
      rintro e w3 ⟨rfl, hB3⟩
      have HB3 := Aside0.mk (bt HB2.out hB3)
      clear hB3 HB2
      have hz := sumP_size s
      go_wp2_with fail
      refine (sum s w3 (HV.out.below' HB3.out) (by omega)).mono ?_
      rintro e w4 ⟨rfl, hB4⟩
      have HB4 := Aside0.mk (bt HB3.out hB4)
      clear hB4 HB3
      go_wp2_with fail
      refine (short key s w4 (HV.out.below' HB4.out) (by omega) (by omega)).mono ?_
      rintro e w5 ⟨rfl, hB5⟩
      have HB5 := Aside0.mk (bt HB4.out hB5)
      clear hB5 HB4
      have hz2 := shortP_size key s
      by_cases h3 : key.size ≤ 32
      · have hb3 : decide ((key.size : Int) ≤ 32) = true := decide_eq_true (by omega)
        go_wp2_with fail
        go_ret
        exact ⟨rfl, HB5.out⟩
      · have hb3 : decide ((key.size : Int) ≤ 32) = false := decide_eq_false (by omega)
        go_wp2_with fail
        refine (keyed key s w5 (HV.out.below' HB5.out) (by omega) (by omega)).mono ?_
        rintro e w6 ⟨rfl, hB6⟩
        have HB6 := Aside0.mk (bt HB5.out hB6)
        clear hB6 HB5
        go_wp2_with fail
        refine (sum key w6 (HV.out.below' HB6.out) (by omega)).mono ?_
        rintro e w7 ⟨rfl, hB7⟩
        have HB7 := Aside0.mk (bt HB6.out hB7)
        clear hB7 HB6
        go_wp2_with fail
        refine (keyed (sumP key) s w7 (HV.out.below' HB7.out) (by rw [sumP_size]; omega) (by omega)).mono ?_
        rintro e w8 ⟨rfl, hB8⟩
        have HB8 := Aside0.mk (bt HB7.out hB8)
        clear hB8 HB7
        rw [keyed_sum key s (by omega)]
        go_wp2_with fail
        go_ret
        exact ⟨rfl, HB8.out⟩
end Go.Proofs.YtflnlkaednpenaaDoor.MixM
