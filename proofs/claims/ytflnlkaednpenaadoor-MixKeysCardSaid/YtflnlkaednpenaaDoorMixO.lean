/- MixSums, MixKeys walked. -/
import Derived.Test.YtflnlkaednpenaaDoorMixM
import Derived.Test.YtflnlkaednpenaaDoorRefK
namespace Go.Proofs.YtflnlkaednpenaaDoor.MixO
open Go.RowKit Go.Proofs.YtflnlkaednpenaaDoorW.PrintWords Go.Proofs.YtflnlkaednpenaaDoor.State Go.Proofs.YtflnlkaednpenaaDoor.MixV Go.Proofs.YtflnlkaednpenaaDoor.MixS Go.Proofs.YtflnlkaednpenaaDoor.MixK Go.Proofs.YtflnlkaednpenaaDoor.MixM Go.Proofs.YtflnlkaednpenaaDoor.QBaseD Go.Proofs.YtflnlkaednpenaaDoor.RefK
set_option linter.unusedVariables false
set_option linter.unusedSimpArgs false
set_option maxHeartbeats 1000000 in
set_option maxRecDepth 100000 in
theorem sums (s : ByteArray) (w : World) (hV : Vars w) : Calls Tryd.prog 3 #[.string s] w fun e w' => e = .returned (.bool true) ∧ Below w.heap.size w w' := by
  have HV := Aside0.mk hV
  clear hV
  by_cases h1 : 2000 < s.size
  · have hb1 : decide ((2000 : Int) < (s.size : Int)) = true := decide_eq_true (by omega)
    go_enter Tryd.func3, Tryd.ntmps3
    go_wp2_with fail
    go_ret
    exact ⟨rfl, Below.refl _ _⟩
  · have hb1 : decide ((2000 : Int) < (s.size : Int)) = false := decide_eq_false (by omega)
    have HS := Aside0.mk (sum s w HV.out (by omega))
    have HR : Aside0 (∀ W : World, Calls Tryd.prog 8 #[.string s] W fun e w' => e = .returned (.string (sumP s)) ∧ Below W.heap.size W w') := ⟨fun W => tuskref02_Sum.calls 300 s _ W (sum_any s (by omega) 300 (Nat.le_refl _))⟩
    generalize sumP s = x at *
    go_enter Tryd.func3, Tryd.ntmps3
    go_wp2_with fail
    refine HS.out.mono ?_
    rintro e w1 ⟨rfl, hB1⟩
    have HB1 := Aside0.mk hB1
    clear hB1
    go_wp2_with fail
    refine (HR.out w1).mono ?_
    rintro e w2 ⟨rfl, hB2⟩
    have HB2 := Aside0.mk (bt HB1.out hB2)
    clear hB2
    go_wp2_with fail
    go_ret
    exact ⟨rfl, HB2.out⟩
set_option maxHeartbeats 1000000 in
set_option maxRecDepth 100000 in
theorem keys (key s : ByteArray) (w : World) (hV : Vars w) : Calls Tryd.prog 4 #[.string key, .string s] w fun e w' => e = .returned (.bool true) ∧ Below w.heap.size w w' := by
  have HV := Aside0.mk hV
  clear hV
  by_cases h1 : 2000 < s.size
  · have hb1 : decide ((2000 : Int) < (s.size : Int)) = true := decide_eq_true (by omega)
    go_enter Tryd.func4, Tryd.ntmps4
    go_wp2_with fail
    go_ret
    exact ⟨rfl, Below.refl _ _⟩
  · have hb1 : decide ((2000 : Int) < (s.size : Int)) = false := decide_eq_false (by omega)
    by_cases h2 : 2000 < key.size
    · have hb2 : decide ((2000 : Int) < (key.size : Int)) = true := decide_eq_true (by omega)
      go_enter Tryd.func4, Tryd.ntmps4
      go_wp2_with fail
      go_ret
      exact ⟨rfl, Below.refl _ _⟩
    · have hb2 : decide ((2000 : Int) < (key.size : Int)) = false := decide_eq_false (by omega)
      have HK : Aside0 (∀ W, Vars W → Calls Tryd.prog 9 #[.string key, .string s] W fun e w' => e = .returned (.string (keyedP key s)) ∧ Below W.heap.size W w') := ⟨fun W h => keyed key s W h (by omega) (by omega)⟩
      have HS : Aside0 (∀ W, Vars W → Calls Tryd.prog 11 #[.string key, .string s] W fun e w' => e = .returned (.string (shortP key s)) ∧ Below W.heap.size W w') := ⟨fun W h => short key s W h (by omega) (by omega)⟩
      have HRK : Aside0 (∀ W : World, Calls Tryd.prog 10 #[.string key, .string s] W fun e w' => e = .returned (.string (keyedP key s)) ∧ Below W.heap.size W w') := ⟨fun W => tuskref02_Keyed.calls 301 key s _ W (keyed_any key s (by omega) (by omega) 301 (Nat.le_refl _))⟩
      have HRS : Aside0 (∀ W : World, Calls Tryd.prog 12 #[.string key, .string s] W fun e w' => e = .returned (.string (shortP key s)) ∧ Below W.heap.size W w') := ⟨fun W => tuskref02_Short.calls 301 key s _ W (short_any key s (by omega) (by omega) 301 (Nat.le_refl _))⟩
      generalize shortP key s = y at *
      generalize keyedP key s = x at *
      go_enter Tryd.func4, Tryd.ntmps4
      go_wp2_with fail
      refine (HK.out w HV.out).mono ?_
      rintro e w1 ⟨rfl, hB1⟩
      have HB1 := Aside0.mk hB1
      clear hB1
      go_wp2_with fail
      refine (HRK.out w1).mono ?_
      rintro e w2 ⟨rfl, hB2⟩
      have HB2 := Aside0.mk (bt HB1.out hB2)
      clear hB2
      go_wp2_with fail
      refine (HS.out w2 (HV.out.below' HB2.out)).mono ?_
      rintro e w3 ⟨rfl, hB3⟩
      have HB3 := Aside0.mk (bt HB2.out hB3)
      clear hB3
      go_wp2_with fail
      refine (HRS.out w3).mono ?_
      rintro e w4 ⟨rfl, hB4⟩
      have HB4 := Aside0.mk (bt HB3.out hB4)
      clear hB4
      go_wp2_with fail
      go_ret
      exact ⟨rfl, HB4.out⟩
end Go.Proofs.YtflnlkaednpenaaDoor.MixO
