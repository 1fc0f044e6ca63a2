/- MixFront walked. -/
import Derived.Test.YtflnlkaednpenaaDoorMixM
import Derived.Test.YtflnlkaednpenaaDoorMixG
namespace Go.Proofs.YtflnlkaednpenaaDoor.MixN
open Go.RowKit Go.Proofs.YtflnlkaednpenaaDoorW.PrintWords Go.Proofs.YtflnlkaednpenaaDoor.State Go.Proofs.YtflnlkaednpenaaDoor.MixV Go.Proofs.YtflnlkaednpenaaDoor.MixS Go.Proofs.YtflnlkaednpenaaDoor.MixK Go.Proofs.YtflnlkaednpenaaDoor.MixM
set_option linter.unusedVariables false
set_option linter.unusedSimpArgs false
theorem cut_join (s : ByteArray) (k : Nat) (h : k ≤ s.size) : s.extract 0 k ++ s.extract k s.size = s := by
  rw [ByteArray.extract_append_extract, show min 0 k = 0 by omega, show max k s.size = s.size by omega, ByteArray.extract_zero_size]
theorem cut_ok (x : Int) (n : Nat) (h : n ≤ 2000) : ∃ k : Nat, k ≤ n ∧ wrap64 ((IntKind.u64.wrap x).tmod ((n : Int) + 1)) = (k : Int) := by
  have h0 : 0 ≤ IntKind.u64.wrap x := by rw [IntKind.wrap_u64]; omega
  have h1 := Int.tmod_nonneg ((n : Int) + 1) h0
  have h2 := Int.tmod_lt_of_pos (IntKind.u64.wrap x) (show (0 : Int) < (n : Int) + 1 by omega)
  generalize (IntKind.u64.wrap x).tmod ((n : Int) + 1) = y at *
  refine ⟨y.toNat, by omega, ?_⟩
  rw [IntWalk.wrap64_in _ ⟨by omega, by omega⟩]
  omega
set_option maxHeartbeats 1000000 in
set_option maxRecDepth 100000 in
theorem front (key a b : ByteArray) (at_ : Int) (w : World) (hV : Vars w) : Calls Tryd.prog 6 #[.string key, .string a, .string b, .int .i64 at_] w fun e w' => e = .returned (.bool true) ∧ Below w.heap.size w w' := by
  have HW := Aside0.mk (works w hV)
  have HV := Aside0.mk hV
  clear hV
  go_enter Tryd.func6, Tryd.ntmps6
  go_wp2_with fail
  refine HW.out.mono ?_
  rintro e w1 ⟨rfl, hB1⟩
  have HV1 := Aside0.mk (HV.out.below' hB1)
  have HB1 := Aside0.mk hB1
  clear hB1
  by_cases h1 : 500 < key.size
  · have hb1 : decide ((500 : Int) < (key.size : Int)) = true := decide_eq_true (by omega)
    go_wp2_with fail
    go_ret
    exact ⟨rfl, HB1.out⟩
  · have hb1 : decide ((500 : Int) < (key.size : Int)) = false := decide_eq_false (by omega)
    by_cases h2 : 1000 < a.size
    · have hb2 : decide ((1000 : Int) < (a.size : Int)) = true := decide_eq_true (by omega)
      go_wp2_with fail
      go_ret
      exact ⟨rfl, HB1.out⟩
    · have hb2 : decide ((1000 : Int) < (a.size : Int)) = false := decide_eq_false (by omega)
      by_cases h3 : 1000 < b.size
      · have hb3 : decide ((1000 : Int) < (b.size : Int)) = true := decide_eq_true (by omega)
        go_wp2_with fail
        go_ret
        exact ⟨rfl, HB1.out⟩
      · have hb3 : decide ((1000 : Int) < (b.size : Int)) = false := decide_eq_false (by omega)
        have hsz : (a ++ b).size = a.size + b.size := ByteArray.size_append
        obtain ⟨k, hk, hke⟩ := cut_ok at_ (a.size + b.size) (by omega)
        rw [Int.natCast_add] at hke
        have hj := cut_join (a ++ b) k (by omega)
        rw [hsz] at hj
        have HJ := Aside0.mk hj
        clear hj
        go_upto_region 7 with fail
        rw [hke]
        have hk1 : (k : Int) ≤ (a.size : Int) + (b.size : Int) := by omega
        have hk2 : k ≤ (a ++ b).size := by omega
        generalize hs : a ++ b = s at *
        have HX : Aside0 (s.extract 0 (a.size + b.size) = s) := ⟨by rw [← hsz, ByteArray.extract_zero_size]⟩
        have HKY : Aside0 (∀ W, Vars W → Calls Tryd.prog 9 #[.string key, .string s] W fun e w' => e = .returned (.string (keyedP key s)) ∧ Below W.heap.size W w') := ⟨fun W h => keyed key s W h (by omega) (by omega)⟩
        have HSH : Aside0 (∀ W, Vars W → Calls Tryd.prog 11 #[.string key, .string s] W fun e w' => e = .returned (.string ((keyedP key s).extract 0 16)) ∧ Below W.heap.size W w') := ⟨fun W h => short key s W h (by omega) (by omega)⟩
        have hz := keyedP_size key s
        generalize keyedP key s = x at *
        go_region_with (go_at_call 9; rw [HX.out]; refine (HKY.out _ HV1.out.drew).mono ?_; rintro e w2 ⟨rfl, hB2⟩; have HB2 := Aside0.mk (bt (below_drew1 HB1.out) hB2); clear hB2)
        have HV2 := Aside0.mk (HV.out.below' HB2.out)
        go_upto_region 8 with fail
        subst hs
        refine MixG.step_f key a b x (fun W => Below w.heap.size w W) ⟨rfl, rfl, rfl, rfl⟩ hz (by omega) (fun W h => (HKY.out W (HV.out.below' h)).mono fun e w3 hh => ⟨hh.1, bt h hh.2⟩) (fun W h => (HSH.out W (HV.out.below' h)).mono fun e w3 hh => ⟨hh.1, bt h hh.2⟩) ⟨rfl, rfl, rfl, rfl, rfl, rfl⟩ (below_drew1 HB2.out) ?_
        intro a9 w9 hd9 h89 hB9
        refine (‹∀ (a : Act) (w : World), Code.wp Tryd.prog Code.ret _ a w → _› a9 w9 ?_)
        refine wp_ret ?_
        (try simp only [Exit.inBlock, Exit.then])
        refine bodyPost_ret (results_tmp rfl _ _ _) hd9 ⟨?_, hB9⟩
        rw [h89]
end Go.Proofs.YtflnlkaednpenaaDoor.MixN
