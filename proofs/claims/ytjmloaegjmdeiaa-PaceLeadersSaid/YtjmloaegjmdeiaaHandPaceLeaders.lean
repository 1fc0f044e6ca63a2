/- The law PaceLeaders walked. -/
import Derived.Test.YtjmloaegjmdeiaaPaceBounds
import Derived.Test.YtjmloaegjmdeiaaOpen
import Derived.Test.YtjmloaegjmdeiaaMapBool
import Derived.Maps.Views
import Derived.WalkKit
import Derived.Test.YtjmloaegjmdeiaaQOpen
namespace Go.Proofs.Ytjmloaegjmdeiaa.HandPaceLeaders
open Go Go.Maps Go.RowKit Go.Proofs.YtjmloaegjmdeiaaW.PrintWords Go.Proofs.YtjmloaegjmdeiaaW.PrintMore Go.Proofs.Ytjmloaegjmdeiaa.State Go.Proofs.Ytjmloaegjmdeiaa.Pace Go.Proofs.Ytjmloaegjmdeiaa.PaceWorks Go.Proofs.Ytjmloaegjmdeiaa.PaceBounds Go.Proofs.Ytjmloaegjmdeiaa.Open Go.Proofs.Ytjmloaegjmdeiaa.MapBool
set_option linter.unusedVariables false
set_option linter.unusedSimpArgs false
theorem law3 : Keyed Try.prog 3 := int_keyed Try.underlying3
theorem zero4 (w : World) : (zeroValue 4).run Try.prog w = .ok (.bool false) w := by kernel_rfl
def Dm (N m : Int) : Nat → DataW Unit
  | 0 => .map []
  | i + 1 => (Dm N m i).put (.int .i64 (leaderP N (m + i))) (.lit (.bool true))
theorem Dm_new (N m K : Int) (i : Nat) (h : ∀ j : Nat, j < i → leaderP N (m + j) ≠ K) : (Dm N m i).atKey (.int .i64 K) (.lit (.bool false)) = .lit (.bool false) := by
  induction i with
  | zero => rfl
  | succ i ih =>
    rw [Dm, atKey_put_other]
    · exact ih fun j hj => h j (by omega)
    · intro e
      injection e with _ e
      exact h i (by omega) e.symm
theorem lead_eq {N m : Int} (hm : 0 ≤ m) : leaderP N m = m % N := by rw [leaderP, if_neg (by omega)]
theorem lead_ne {N m : Int} (hm : 0 ≤ m) {i j : Nat} (hi : (i : Int) < N) (hj : j < i) : leaderP N (m + j) ≠ leaderP N (m + i) := by
  rw [lead_eq (by omega), lead_eq (by omega)]
  intro e
  have h2 : (m + i - (m + j)) % N = 0 := Int.emod_eq_emod_iff_emod_sub_eq_zero.1 e.symm
  have h3 : (m + i - (m + j)) = (i : Int) - j := by omega
  rw [h3, Int.emod_eq_of_lt (by omega) (by omega)] at h2
  omega
structure JL (w : World) (g b : Nat) (N m : Int) (i : Nat) (wr : World) : Prop where
  p : wr.heap[g]? = some (obj (startP N 10))
  own : wr.ownsMap Try.prog 3 (plainElem Try.prog 4) b i (Dm N m i)
  below : Below w.heap.size w wr
set_option maxHeartbeats 2000000 in
set_option maxRecDepth 100000 in
theorem walk (a0 : Int) (a1 : Int) (w : World) (hg0_ : (gInt .i64) a0) (hg1_ : (gInt .i64) a1)  :
    Calls Try.prog 5 #[.int .i64 a0, .int .i64 a1] w fun e w' => e = .returned (.bool true) ∧ Below w.heap.size w w' := by
  obtain ⟨n, hn, en⟩ : ∃ m : Nat, m < 7 ∧ wrap64 ((IntKind.u64.wrap a0).tmod 7) = m := cut a0 7 (by omega) (by omega)
  obtain ⟨m, hm, em⟩ : ∃ m : Nat, m < 1152921504606846976 ∧ wrap64 ((IntKind.u64.wrap a1).tmod 1152921504606846976) = m := cut a1 1152921504606846976 (by omega) (by omega)
  have hmm := @run_makeMap Try.prog
  go_enter Try.func5, Try.ntmps5
  go_wp2_with fail
  refine (works w).mono ?_
  rintro e w1 ⟨rfl, hb⟩
  have HB := Aside0.mk hb
  clear hb
  go_wp2_with fail
  try rw [en]
  refine (new (1 + (n : Int)) 10 w1).mono ?_
  rintro e w2 (⟨h, _⟩ | ⟨_, rfl, hh, hb⟩)
  · exact absurd h (by simp only [newP, decide_eq_false_iff_not]; omega)
  have hB := HB.out.trans (hb.mono HB.out.size)
  have HJ := Aside0.mk (J.mk hh hB)
  clear hB
  have hgl : w.heap.size ≤ w1.heap.size := HB.out.size
  clear hh hb
  go_wp2_with fail
  try rw [em]
  have HW : Aside0 (JL w w1.heap.size w2.heap.size (1 + (n : Int)) m 0 (w2.alloc (.map #[] 0))) := ⟨⟨(Below.heap_alloc _ _ _ (lt_of_blk HJ.out.1)).trans HJ.out.1, World.ownsMap_made _ _ _ _, HJ.out.2.alloc HJ.out.2.size _⟩⟩
  have hlb : w.heap.size ≤ w2.heap.size := HJ.out.2.size
  have hne : w1.heap.size ≠ w2.heap.size := Nat.ne_of_lt (lt_of_blk HJ.out.1)
  clear HJ
  generalize w2.heap.size = b at *
  generalize w1.heap.size = g at *
  have hN1 : (1 : Int) ≤ 1 + (n : Int) := by omega
  have hN2 : 1 + (n : Int) ≤ 7 := by omega
  generalize 1 + (n : Int) = N at *
  go_wp2_with fail
  go_loopw [8] (fun v8 wr => ∃ i : Nat, (i : Int) ≤ N ∧ v8 = .int .i64 i ∧ Aside0 (JL w g b N m i wr)) (fun i _ => 100 - (intOf i).toNat)
  case atStart => exact ⟨0, by omega, rfl, HW⟩
  case round =>
    clear HW
    obtain ⟨i, hi, rfl, HJ⟩ := hrel
    by_cases hlt : (i : Int) < N
    · have HL := Aside0.mk (leader g (startP N 10) (m + i) wr HJ.out.p hN1 hN2)
      have hK : leaderP N (m + i) = (m + i) % N := lead_eq (by omega)
      have hK0 : 0 ≤ leaderP N (m + i) := by rw [hK]; exact Int.emod_nonneg _ (by omega)
      have hK1 : leaderP N (m + i) < N := by rw [hK]; exact Int.emod_lt_of_pos _ (by omega)
      have HD := Aside0.mk (Dm_new N m (leaderP N (m + i)) i fun j hj => lead_ne (by omega) hlt hj)
      have HS : Aside0 (Dm N m (i + 1) = (Dm N m i).put (.int .i64 (leaderP N (m + i))) (.lit (.bool true))) := ⟨rfl⟩
      clear hK
      have HL : Aside0 (Calls Try.prog 18 #[.pointer (some ⟨g, 0, none⟩), .int .i64 (m + i)] wr fun e w' => e = .returned (.int .i64 (leaderP N (m + i))) ∧ w' = wr) := HL
      generalize leaderP N (m + i) = K at *
      have hkey : keyOf Try.prog 3 (.int .i64 K) = some (.int .i64 K) := keyOf_int_mk Try.underlying3 (WalkArith.wf_i64 (by omega))
      obtain ⟨c, hrun, hat⟩ := lookup_bool HJ.out.own law3 Try.underlying47 Try.underlying4 (zero4 _) hkey
      obtain rfl : c = false := by rw [HD.out] at hat; simpa using hat.symm
      clear hat HD
      have hown := HJ.out.own
      have HK := Aside0.mk hkey
      clear hkey
      go_wp2_with fail
      refine HL.out.mono ?_
      rintro e w3 ⟨rfl, hw3⟩
      subst w3
      go_wp2_with (first
        | (at_mapUpdate; refine wpList_mapUpdate_own _ rfl _ _ _ 47 rfl 3 4 law3 Try.underlying47 _ b i _ rfl hown (by unfold maxLen; omega) _ _ _ rfl rfl HK.out _ [] (plainElem_bool Try.underlying4 true) ?_; intro w4 hown4 hgrow4)
        | go_in)
      have HJ4 : Aside0 (JL w g b N m (i + 1) w4) := ⟨⟨(hgrow4.block g (lt_of_blk HJ.out.p) (by intro e; cases e; exact hne rfl)).trans HJ.out.p, by rw [HS.out]; exact hown4, HJ.out.below.grown hgrow4 HJ.out.below.size (fun k hk => by cases hk; exact hlb)⟩⟩
      exact ⟨⟨i + 1, by omega, by go_num, HJ4⟩, by simp [intOf]; omega⟩
    · have HL := Aside0.mk (leader g (startP N 10) m wr HJ.out.p hN1 hN2)
      have HL2 : Aside0 (Calls Try.prog 18 #[.pointer (some ⟨g, 0, none⟩), .int .i64 (m + N)] wr fun e w' => e = .returned (.int .i64 (leaderP N m)) ∧ w' = wr) := ⟨by
        have h := leader g (startP N 10) (m + N) wr HJ.out.p hN1 hN2
        have e : leaderP (startP N 10).n (m + N) = leaderP N m := by
          show leaderP N (m + N) = _
          rw [lead_eq (by omega), lead_eq (by omega), Int.add_emod_right]
        rwa [e] at h⟩
      go_wp2_with fail
      refine HL.out.mono ?_
      rintro e w3 ⟨rfl, hw3⟩
      subst w3
      go_wp2_with fail
      refine HL2.out.mono ?_
      rintro e w3 ⟨rfl, hw3⟩
      subst w3
      rw [show leaderP (startP N 10).n m = leaderP N m from rfl]
      go_wp2_with fail
      go_ret
      exact ⟨rfl, HJ.out.below⟩
end Go.Proofs.Ytjmloaegjmdeiaa.HandPaceLeaders
