/- The works of tusklaw18. -/
import Derived.Test.YtjmloaegjmdeiaaPace
namespace Go.Proofs.Ytjmloaegjmdeiaa.PaceWorks
open Go.RowKit Go.Proofs.YtjmloaegjmdeiaaW.PrintWords Go.Proofs.YtjmloaegjmdeiaaW.PrintMore Go.Proofs.Ytjmloaegjmdeiaa.State Go.Proofs.Ytjmloaegjmdeiaa.Pace
set_option linter.unusedVariables false
set_option linter.unusedSimpArgs false
/-- The state behind so many ticks. -/
def ws (k : Nat) : PaceS := if k = 4 then ⟨1, 0, 10, 4, 2⟩ else ⟨0, k, 10, 4, 1⟩
def wn (k : Nat) : Int := if k = 4 then 1 else 0
def wt (k : Nat) : Bool := decide (k = 3)
theorem ws_tick (k : Nat) (h : k < 4) : tickP (ws k) = (wt k, ws (k + 1)) ∧ wn (k + 1) = wn k + (if wt k then 1 else 0) := by
  match k, h with
  | 0, _ => decide
  | 1, _ => decide
  | 2, _ => decide
  | 3, _ => decide
theorem ws_ok (k : Nat) (h : k ≤ 4) : Ok (ws k) := by
  unfold ws
  split
  · constructor <;> decide
  · constructor <;> simp <;> omega
theorem ws_ticks (k : Nat) (h : k ≤ 4) : (ws k).ticks < 1000 := by unfold ws; split <;> simp <;> omega
def J (w : World) (g k : Nat) (wr : World) : Prop := wr.heap[g]? = some (obj (ws k)) ∧ Below w.heap.size w wr
theorem J.tick {w wr : World} {g k : Nat} (h : J w g k wr) (hg : w.heap.size = g) (hk : k < 4) :
    Calls Try.prog 9 #[.pointer (some ⟨g, 0, none⟩)] wr fun e w' => e = .returned (.bool (wt k)) ∧ J w g (k + 1) w' := by
  refine (Pace.tick g (ws k) wr h.1 (ws_ok k (by omega)) (ws_ticks k (by omega))).mono ?_
  rintro e w' ⟨rfl, hu⟩
  rw [(ws_tick k hk).1] at hu ⊢
  exact ⟨rfl, hu.here, h.2.trans (hu.below (by omega) h.2.size)⟩
set_option maxHeartbeats 1000000 in
theorem works (w : World) : Calls Try.prog 20 #[] w fun e w' => e = .returned (.bool true) ∧ Below w.heap.size w w' := by
  have HN := Aside0.mk (new 4 10 w)
  go_enter Try.func20, Try.ntmps20
  go_wp2_with fail
  refine HN.out.mono ?_
  rintro e w1 (⟨h, _⟩ | ⟨_, rfl, hh, hb⟩)
  · exact absurd h (by decide)
  have HJ : Aside0 (J w w.heap.size 0 w1) := ⟨hh, hb⟩
  have HB := Aside0.mk hb
  clear hh hb
  generalize hg : w.heap.size = g at HJ
  go_wp2_with fail
  go_loopw [3, 4] (fun v3 v4 wr => ∃ k : Nat, k ≤ 4 ∧ v3 = .int .i64 (wn k) ∧ v4 = .int .i64 k ∧ Aside0 (J w g k wr)) (fun _ i _ => 4 - (intOf i).toNat)
  case atStart => exact ⟨0, by omega, rfl, rfl, HJ⟩
  case round =>
    clear HJ
    obtain ⟨k, hk, rfl, rfl, HJ⟩ := hrel
    by_cases hlt : k < 4
    · have HT := Aside0.mk (HJ.out.tick hg hlt)
      by_cases h3 : k = 3
      · subst h3
        go_wp2_with fail
        refine HT.out.mono ?_
        rintro e w2 ⟨rfl, hj⟩
        have HJ2 := Aside0.mk hj
        clear hj
        go_wp2_with fail
        go_roundw
        case rel => exact ⟨4, by omega, by rw [show wrap64 (wn 3 + 1) = wn 4 from by simp [wn, wrap64]], rfl, HJ2⟩
        case measure => simp [intOf]
      · have hwt : wt k = false := by simp [wt, h3]
        rw [hwt] at HT
        have hwn : wn k = wn (k + 1) := by unfold wn; rw [if_neg (by omega), if_neg (by omega)]
        go_wp2_with fail
        refine HT.out.mono ?_
        rintro e w2 ⟨rfl, hj⟩
        have HJ2 := Aside0.mk hj
        clear hj
        go_wp2_with fail
        go_roundw
        case rel => exact ⟨k + 1, by omega, by first | rfl | rw [hwn], by go_num, HJ2⟩
        case measure => simp [intOf]; omega
    · obtain rfl : k = 4 := by omega
      rw [show wn 4 = 1 from rfl]
      have HW := Aside0.mk (wait g (ws 4) wr HJ.out.1 (ws_ok 4 (by omega)))
      go_wp2_with fail
      refine HW.out.mono ?_
      rintro e w2 ⟨rfl, hd⟩
      have HJ2 : Aside0 (J w g 4 w2) := ⟨blk_drawn HJ.out.1 hd, HJ.out.2.trans (drawn_below hd _)⟩
      have HV := Aside0.mk (view g (ws 4) w2 HJ2.out.1)
      have hwa : waitP (ws 4).fails (ws 4).most = 8 := by decide
      rw [hwa]
      clear hd hwa
      go_wp2_with fail
      refine HV.out.mono ?_
      rintro e w3 ⟨rfl, hw3⟩
      subst w3
      rw [show (ws 4).view = 2 from rfl]
      have HE := Aside0.mk (enter g (ws 4) 5 w2 HJ2.out.1)
      clear HV HW HJ
      go_wp2_with fail
      refine HE.out.mono ?_
      rintro e w4 ⟨rfl, hu⟩
      rw [show (enterP (ws 4) 5) = (true, ⟨0, 0, 10, 4, 5⟩) from by decide] at hu ⊢
      have HB4 : Aside0 (Below w.heap.size w w4) := ⟨HJ2.out.2.trans (hu.below (by omega) HJ2.out.2.size)⟩
      have HV := Aside0.mk (view g _ w4 hu.here)
      have HL := Aside0.mk (leader g _ 5 w4 hu.here (by decide) (by decide))
      clear hu HE HJ2
      go_wp2_with fail
      refine HV.out.mono ?_
      rintro e w5 ⟨rfl, hw5⟩
      subst w5
      go_wp2_with fail
      refine HL.out.mono ?_
      rintro e w5 ⟨rfl, hw5⟩
      subst w5
      rw [show leaderP 4 5 = 1 from rfl]
      go_wp2_with fail
      go_ret
      exact ⟨rfl, HB4.out⟩
end Go.Proofs.Ytjmloaegjmdeiaa.PaceWorks
