/- mix.columns walked (printed by wip/tools/mixc_gen.py). -/
import Derived.Test.YtflnlkaednpenaaDoorMixJ
namespace Go.Proofs.YtflnlkaednpenaaDoor.MixCol
open Go.RowKit Go.Proofs.YtflnlkaednpenaaDoorW.PrintWords Go.Proofs.YtflnlkaednpenaaDoor.State Go.Proofs.YtflnlkaednpenaaDoor.MixW Go.Proofs.YtflnlkaednpenaaDoor.MixI Go.Proofs.YtflnlkaednpenaaDoor.MixJ
set_option linter.unusedVariables false
set_option linter.unusedSimpArgs false
theorem upd_step {w W : World} {g : Nat} {xs : List Int} (h : Upd w W g (.cells (wc xs) 49 (0, 0))) (d : Nat) (v : Int) (ys : List Int) {W2 : World} (hW : W2 = W.drew.setCell ⟨g, d, none⟩ (.int .u32 v)) (hy : ys = xs.set d v) : Upd w W2 g (.cells (wc ys) 49 (0, 0)) := by
  subst hy; subst hW; exact storew (updrew h) d v
def columnsP (xs ms rs : List Int) : List Int :=
  let x1 := sAdd xs ms rs 0 4 0
  let x2 := sRot x1 12 0 16
  let x3 := sSum x2 8 12
  let x4 := sRot x3 4 8 20
  let x5 := sAdd x4 ms rs 0 4 1
  let x6 := sRot x5 12 0 24
  let x7 := sSum x6 8 12
  let x8 := sRot x7 4 8 25
  let x9 := sAdd x8 ms rs 1 5 2
  let x10 := sRot x9 13 1 16
  let x11 := sSum x10 9 13
  let x12 := sRot x11 5 9 20
  let x13 := sAdd x12 ms rs 1 5 3
  let x14 := sRot x13 13 1 24
  let x15 := sSum x14 9 13
  let x16 := sRot x15 5 9 25
  let x17 := sAdd x16 ms rs 2 6 4
  let x18 := sRot x17 14 2 16
  let x19 := sSum x18 10 14
  let x20 := sRot x19 6 10 20
  let x21 := sAdd x20 ms rs 2 6 5
  let x22 := sRot x21 14 2 24
  let x23 := sSum x22 10 14
  let x24 := sRot x23 6 10 25
  let x25 := sAdd x24 ms rs 3 7 6
  let x26 := sRot x25 15 3 16
  let x27 := sSum x26 11 15
  let x28 := sRot x27 7 11 20
  let x29 := sAdd x28 ms rs 3 7 7
  let x30 := sRot x29 15 3 24
  let x31 := sSum x30 11 15
  let x32 := sRot x31 7 11 25
  x32
set_option maxHeartbeats 4000000 in
set_option maxRecDepth 100000 in
theorem columns (gw gm gr : Nat) (x0 ms rs : List Int) (w : World) (hw : w.heap[gw]? = some (.cells (wc x0) 49 (0, 0))) (hm : w.heap[gm]? = some (.cells (wc ms) 49 (0, 0))) (hr : w.heap[gr]? = some (.cells (rc rs) 50 (0, 0))) (hx : x0.length = 16) (hy : ms.length = 16) (hz : rs.length = 16) (hq : ∀ i, 0 ≤ rs.getD i 0 ∧ rs.getD i 0 < 16) (n1 : gw ≠ gm) (n2 : gw ≠ gr) :
    Calls Tryd.prog 25 #[.pointer (some ⟨gw, 0, none⟩), .pointer (some ⟨gm, 0, none⟩), .pointer (some ⟨gr, 0, none⟩)] w fun e w' => e = .returned (.tuple #[]) ∧ Upd w w' gw (.cells (wc (columnsP x0 ms rs)) 49 (0, 0)) := by
  have U0 := Upd.refl hw
  have L0 := hx
  go_enter Tryd.func25, Tryd.ntmps25
  refine (fun (key : ∀ a0 : Act, Fr 462 (.pointer (some ⟨gw, 0, none⟩)) (.pointer (some ⟨gm, 0, none⟩)) (.pointer (some ⟨gr, 0, none⟩)) a0 → Code.wp _ _ _ a0 w) => key _ ⟨rfl, rfl, rfl, rfl, rfl⟩) ?_
  intro a0 hF0
  obtain ⟨x1, X1⟩ : ∃ l, l = sAdd x0 ms rs 0 4 0 := ⟨_, rfl⟩
  have L1 : x1.length = 16 := by rw [X1]; simp only [sAdd, sRot, sSum, List.length_set]; exact L0
  refine wp_seq ?_
  refine step_add (N := 462) (gw := gw) (gm := gm) (gr := gr) 6 0 4 0 (by decide) (by decide) ⟨rfl, rfl, rfl, rfl⟩ (by decide) (by decide) (by decide) (by decide) (by decide) (by decide) (cellw U0.here 0 (by omega)) (cellw U0.here 4 (by omega)) (free_blk U0.here) (cellr (U0.other hr n2.symm) 0 (by omega)) (hq 0).1 (hq 0).2 (cellw (U0.other hm n1.symm) (rs.getD 0 0).toNat (by have := hq 0; omega)) hF0 ?_
  intro a1 W1 hF1 hW1
  have U1 := upd_step U0 0 _ x1 hW1 (X1.trans (congrArg (fun v => x0.set 0 v) (by omega)))
  clear hW1
  show Code.wp _ _ _ _ _
  obtain ⟨x2, X2⟩ : ∃ l, l = sRot x1 12 0 16 := ⟨_, rfl⟩
  have L2 : x2.length = 16 := by rw [X2]; simp only [sAdd, sRot, sSum, List.length_set]; exact L1
  refine wp_seq ?_
  refine step_rot (N := 462) (gw := gw) 26 12 0 (-16) 16 (Go.Proofs.YtflnlkaednpenaaDoor.MixR.rotc16) ⟨rfl, rfl, rfl, rfl⟩ (by decide) (by decide) (by decide) (by decide) (by decide) (by decide) (cellw U1.here 12 (by omega)) (cellw U1.here 0 (by omega)) (free_blk U1.here) hF1 ?_
  intro a2 W2 hF2 hW2
  have U2 := upd_step U1 12 _ x2 hW2 (X2.trans rfl)
  clear hW2
  show Code.wp _ _ _ _ _
  obtain ⟨x3, X3⟩ : ∃ l, l = sSum x2 8 12 := ⟨_, rfl⟩
  have L3 : x3.length = 16 := by rw [X3]; simp only [sAdd, sRot, sSum, List.length_set]; exact L2
  refine wp_seq ?_
  refine step_sum (N := 462) (gw := gw) 39 8 12 ⟨rfl, rfl, rfl, rfl⟩ (by decide) (by decide) (by decide) (by decide) (by decide) (by decide) (cellw U2.here 8 (by omega)) (cellw U2.here 12 (by omega)) (free_blk U2.here) hF2 ?_
  intro a3 W3 hF3 hW3
  have U3 := upd_step U2 8 _ x3 hW3 (X3.trans rfl)
  clear hW3
  show Code.wp _ _ _ _ _
  obtain ⟨x4, X4⟩ : ∃ l, l = sRot x3 4 8 20 := ⟨_, rfl⟩
  have L4 : x4.length = 16 := by rw [X4]; simp only [sAdd, sRot, sSum, List.length_set]; exact L3
  refine wp_seq ?_
  refine step_rot (N := 462) (gw := gw) 50 4 8 (-12) 20 (Go.Proofs.YtflnlkaednpenaaDoor.MixR.rotc12) ⟨rfl, rfl, rfl, rfl⟩ (by decide) (by decide) (by decide) (by decide) (by decide) (by decide) (cellw U3.here 4 (by omega)) (cellw U3.here 8 (by omega)) (free_blk U3.here) hF3 ?_
  intro a4 W4 hF4 hW4
  have U4 := upd_step U3 4 _ x4 hW4 (X4.trans rfl)
  clear hW4
  show Code.wp _ _ _ _ _
  obtain ⟨x5, X5⟩ : ∃ l, l = sAdd x4 ms rs 0 4 1 := ⟨_, rfl⟩
  have L5 : x5.length = 16 := by rw [X5]; simp only [sAdd, sRot, sSum, List.length_set]; exact L4
  refine wp_seq ?_
  refine step_add (N := 462) (gw := gw) (gm := gm) (gr := gr) 63 0 4 1 (by decide) (by decide) ⟨rfl, rfl, rfl, rfl⟩ (by decide) (by decide) (by decide) (by decide) (by decide) (by decide) (cellw U4.here 0 (by omega)) (cellw U4.here 4 (by omega)) (free_blk U4.here) (cellr (U4.other hr n2.symm) 1 (by omega)) (hq 1).1 (hq 1).2 (cellw (U4.other hm n1.symm) (rs.getD 1 0).toNat (by have := hq 1; omega)) hF4 ?_
  intro a5 W5 hF5 hW5
  have U5 := upd_step U4 0 _ x5 hW5 (X5.trans (congrArg (fun v => x4.set 0 v) (by omega)))
  clear hW5
  show Code.wp _ _ _ _ _
  obtain ⟨x6, X6⟩ : ∃ l, l = sRot x5 12 0 24 := ⟨_, rfl⟩
  have L6 : x6.length = 16 := by rw [X6]; simp only [sAdd, sRot, sSum, List.length_set]; exact L5
  refine wp_seq ?_
  refine step_rot (N := 462) (gw := gw) 83 12 0 (-8) 24 (Go.Proofs.YtflnlkaednpenaaDoor.MixR.rotc8) ⟨rfl, rfl, rfl, rfl⟩ (by decide) (by decide) (by decide) (by decide) (by decide) (by decide) (cellw U5.here 12 (by omega)) (cellw U5.here 0 (by omega)) (free_blk U5.here) hF5 ?_
  intro a6 W6 hF6 hW6
  have U6 := upd_step U5 12 _ x6 hW6 (X6.trans rfl)
  clear hW6
  show Code.wp _ _ _ _ _
  obtain ⟨x7, X7⟩ : ∃ l, l = sSum x6 8 12 := ⟨_, rfl⟩
  have L7 : x7.length = 16 := by rw [X7]; simp only [sAdd, sRot, sSum, List.length_set]; exact L6
  refine wp_seq ?_
  refine step_sum (N := 462) (gw := gw) 96 8 12 ⟨rfl, rfl, rfl, rfl⟩ (by decide) (by decide) (by decide) (by decide) (by decide) (by decide) (cellw U6.here 8 (by omega)) (cellw U6.here 12 (by omega)) (free_blk U6.here) hF6 ?_
  intro a7 W7 hF7 hW7
  have U7 := upd_step U6 8 _ x7 hW7 (X7.trans rfl)
  clear hW7
  show Code.wp _ _ _ _ _
  obtain ⟨x8, X8⟩ : ∃ l, l = sRot x7 4 8 25 := ⟨_, rfl⟩
  have L8 : x8.length = 16 := by rw [X8]; simp only [sAdd, sRot, sSum, List.length_set]; exact L7
  refine wp_seq ?_
  refine step_rot (N := 462) (gw := gw) 107 4 8 (-7) 25 (Go.Proofs.YtflnlkaednpenaaDoor.MixR.rotc7) ⟨rfl, rfl, rfl, rfl⟩ (by decide) (by decide) (by decide) (by decide) (by decide) (by decide) (cellw U7.here 4 (by omega)) (cellw U7.here 8 (by omega)) (free_blk U7.here) hF7 ?_
  intro a8 W8 hF8 hW8
  have U8 := upd_step U7 4 _ x8 hW8 (X8.trans rfl)
  clear hW8
  show Code.wp _ _ _ _ _
  obtain ⟨x9, X9⟩ : ∃ l, l = sAdd x8 ms rs 1 5 2 := ⟨_, rfl⟩
  have L9 : x9.length = 16 := by rw [X9]; simp only [sAdd, sRot, sSum, List.length_set]; exact L8
  refine wp_seq ?_
  refine step_add (N := 462) (gw := gw) (gm := gm) (gr := gr) 120 1 5 2 (by decide) (by decide) ⟨rfl, rfl, rfl, rfl⟩ (by decide) (by decide) (by decide) (by decide) (by decide) (by decide) (cellw U8.here 1 (by omega)) (cellw U8.here 5 (by omega)) (free_blk U8.here) (cellr (U8.other hr n2.symm) 2 (by omega)) (hq 2).1 (hq 2).2 (cellw (U8.other hm n1.symm) (rs.getD 2 0).toNat (by have := hq 2; omega)) hF8 ?_
  intro a9 W9 hF9 hW9
  have U9 := upd_step U8 1 _ x9 hW9 (X9.trans (congrArg (fun v => x8.set 1 v) (by omega)))
  clear hW9
  show Code.wp _ _ _ _ _
  obtain ⟨x10, X10⟩ : ∃ l, l = sRot x9 13 1 16 := ⟨_, rfl⟩
  have L10 : x10.length = 16 := by rw [X10]; simp only [sAdd, sRot, sSum, List.length_set]; exact L9
  refine wp_seq ?_
  refine step_rot (N := 462) (gw := gw) 140 13 1 (-16) 16 (Go.Proofs.YtflnlkaednpenaaDoor.MixR.rotc16) ⟨rfl, rfl, rfl, rfl⟩ (by decide) (by decide) (by decide) (by decide) (by decide) (by decide) (cellw U9.here 13 (by omega)) (cellw U9.here 1 (by omega)) (free_blk U9.here) hF9 ?_
  intro a10 W10 hF10 hW10
  have U10 := upd_step U9 13 _ x10 hW10 (X10.trans rfl)
  clear hW10
  show Code.wp _ _ _ _ _
  obtain ⟨x11, X11⟩ : ∃ l, l = sSum x10 9 13 := ⟨_, rfl⟩
  have L11 : x11.length = 16 := by rw [X11]; simp only [sAdd, sRot, sSum, List.length_set]; exact L10
  refine wp_seq ?_
  refine step_sum (N := 462) (gw := gw) 153 9 13 ⟨rfl, rfl, rfl, rfl⟩ (by decide) (by decide) (by decide) (by decide) (by decide) (by decide) (cellw U10.here 9 (by omega)) (cellw U10.here 13 (by omega)) (free_blk U10.here) hF10 ?_
  intro a11 W11 hF11 hW11
  have U11 := upd_step U10 9 _ x11 hW11 (X11.trans rfl)
  clear hW11
  show Code.wp _ _ _ _ _
  obtain ⟨x12, X12⟩ : ∃ l, l = sRot x11 5 9 20 := ⟨_, rfl⟩
  have L12 : x12.length = 16 := by rw [X12]; simp only [sAdd, sRot, sSum, List.length_set]; exact L11
  refine wp_seq ?_
  refine step_rot (N := 462) (gw := gw) 164 5 9 (-12) 20 (Go.Proofs.YtflnlkaednpenaaDoor.MixR.rotc12) ⟨rfl, rfl, rfl, rfl⟩ (by decide) (by decide) (by decide) (by decide) (by decide) (by decide) (cellw U11.here 5 (by omega)) (cellw U11.here 9 (by omega)) (free_blk U11.here) hF11 ?_
  intro a12 W12 hF12 hW12
  have U12 := upd_step U11 5 _ x12 hW12 (X12.trans rfl)
  clear hW12
  show Code.wp _ _ _ _ _
  obtain ⟨x13, X13⟩ : ∃ l, l = sAdd x12 ms rs 1 5 3 := ⟨_, rfl⟩
  have L13 : x13.length = 16 := by rw [X13]; simp only [sAdd, sRot, sSum, List.length_set]; exact L12
  refine wp_seq ?_
  refine step_add (N := 462) (gw := gw) (gm := gm) (gr := gr) 177 1 5 3 (by decide) (by decide) ⟨rfl, rfl, rfl, rfl⟩ (by decide) (by decide) (by decide) (by decide) (by decide) (by decide) (cellw U12.here 1 (by omega)) (cellw U12.here 5 (by omega)) (free_blk U12.here) (cellr (U12.other hr n2.symm) 3 (by omega)) (hq 3).1 (hq 3).2 (cellw (U12.other hm n1.symm) (rs.getD 3 0).toNat (by have := hq 3; omega)) hF12 ?_
  intro a13 W13 hF13 hW13
  have U13 := upd_step U12 1 _ x13 hW13 (X13.trans (congrArg (fun v => x12.set 1 v) (by omega)))
  clear hW13
  show Code.wp _ _ _ _ _
  obtain ⟨x14, X14⟩ : ∃ l, l = sRot x13 13 1 24 := ⟨_, rfl⟩
  have L14 : x14.length = 16 := by rw [X14]; simp only [sAdd, sRot, sSum, List.length_set]; exact L13
  refine wp_seq ?_
  refine step_rot (N := 462) (gw := gw) 197 13 1 (-8) 24 (Go.Proofs.YtflnlkaednpenaaDoor.MixR.rotc8) ⟨rfl, rfl, rfl, rfl⟩ (by decide) (by decide) (by decide) (by decide) (by decide) (by decide) (cellw U13.here 13 (by omega)) (cellw U13.here 1 (by omega)) (free_blk U13.here) hF13 ?_
  intro a14 W14 hF14 hW14
  have U14 := upd_step U13 13 _ x14 hW14 (X14.trans rfl)
  clear hW14
  show Code.wp _ _ _ _ _
  obtain ⟨x15, X15⟩ : ∃ l, l = sSum x14 9 13 := ⟨_, rfl⟩
  have L15 : x15.length = 16 := by rw [X15]; simp only [sAdd, sRot, sSum, List.length_set]; exact L14
  refine wp_seq ?_
  refine step_sum (N := 462) (gw := gw) 210 9 13 ⟨rfl, rfl, rfl, rfl⟩ (by decide) (by decide) (by decide) (by decide) (by decide) (by decide) (cellw U14.here 9 (by omega)) (cellw U14.here 13 (by omega)) (free_blk U14.here) hF14 ?_
  intro a15 W15 hF15 hW15
  have U15 := upd_step U14 9 _ x15 hW15 (X15.trans rfl)
  clear hW15
  show Code.wp _ _ _ _ _
  obtain ⟨x16, X16⟩ : ∃ l, l = sRot x15 5 9 25 := ⟨_, rfl⟩
  have L16 : x16.length = 16 := by rw [X16]; simp only [sAdd, sRot, sSum, List.length_set]; exact L15
  refine wp_seq ?_
  refine step_rot (N := 462) (gw := gw) 221 5 9 (-7) 25 (Go.Proofs.YtflnlkaednpenaaDoor.MixR.rotc7) ⟨rfl, rfl, rfl, rfl⟩ (by decide) (by decide) (by decide) (by decide) (by decide) (by decide) (cellw U15.here 5 (by omega)) (cellw U15.here 9 (by omega)) (free_blk U15.here) hF15 ?_
  intro a16 W16 hF16 hW16
  have U16 := upd_step U15 5 _ x16 hW16 (X16.trans rfl)
  clear hW16
  show Code.wp _ _ _ _ _
  obtain ⟨x17, X17⟩ : ∃ l, l = sAdd x16 ms rs 2 6 4 := ⟨_, rfl⟩
  have L17 : x17.length = 16 := by rw [X17]; simp only [sAdd, sRot, sSum, List.length_set]; exact L16
  refine wp_seq ?_
  refine step_add (N := 462) (gw := gw) (gm := gm) (gr := gr) 234 2 6 4 (by decide) (by decide) ⟨rfl, rfl, rfl, rfl⟩ (by decide) (by decide) (by decide) (by decide) (by decide) (by decide) (cellw U16.here 2 (by omega)) (cellw U16.here 6 (by omega)) (free_blk U16.here) (cellr (U16.other hr n2.symm) 4 (by omega)) (hq 4).1 (hq 4).2 (cellw (U16.other hm n1.symm) (rs.getD 4 0).toNat (by have := hq 4; omega)) hF16 ?_
  intro a17 W17 hF17 hW17
  have U17 := upd_step U16 2 _ x17 hW17 (X17.trans (congrArg (fun v => x16.set 2 v) (by omega)))
  clear hW17
  show Code.wp _ _ _ _ _
  obtain ⟨x18, X18⟩ : ∃ l, l = sRot x17 14 2 16 := ⟨_, rfl⟩
  have L18 : x18.length = 16 := by rw [X18]; simp only [sAdd, sRot, sSum, List.length_set]; exact L17
  refine wp_seq ?_
  refine step_rot (N := 462) (gw := gw) 254 14 2 (-16) 16 (Go.Proofs.YtflnlkaednpenaaDoor.MixR.rotc16) ⟨rfl, rfl, rfl, rfl⟩ (by decide) (by decide) (by decide) (by decide) (by decide) (by decide) (cellw U17.here 14 (by omega)) (cellw U17.here 2 (by omega)) (free_blk U17.here) hF17 ?_
  intro a18 W18 hF18 hW18
  have U18 := upd_step U17 14 _ x18 hW18 (X18.trans rfl)
  clear hW18
  show Code.wp _ _ _ _ _
  obtain ⟨x19, X19⟩ : ∃ l, l = sSum x18 10 14 := ⟨_, rfl⟩
  have L19 : x19.length = 16 := by rw [X19]; simp only [sAdd, sRot, sSum, List.length_set]; exact L18
  refine wp_seq ?_
  refine step_sum (N := 462) (gw := gw) 267 10 14 ⟨rfl, rfl, rfl, rfl⟩ (by decide) (by decide) (by decide) (by decide) (by decide) (by decide) (cellw U18.here 10 (by omega)) (cellw U18.here 14 (by omega)) (free_blk U18.here) hF18 ?_
  intro a19 W19 hF19 hW19
  have U19 := upd_step U18 10 _ x19 hW19 (X19.trans rfl)
  clear hW19
  show Code.wp _ _ _ _ _
  obtain ⟨x20, X20⟩ : ∃ l, l = sRot x19 6 10 20 := ⟨_, rfl⟩
  have L20 : x20.length = 16 := by rw [X20]; simp only [sAdd, sRot, sSum, List.length_set]; exact L19
  refine wp_seq ?_
  refine step_rot (N := 462) (gw := gw) 278 6 10 (-12) 20 (Go.Proofs.YtflnlkaednpenaaDoor.MixR.rotc12) ⟨rfl, rfl, rfl, rfl⟩ (by decide) (by decide) (by decide) (by decide) (by decide) (by decide) (cellw U19.here 6 (by omega)) (cellw U19.here 10 (by omega)) (free_blk U19.here) hF19 ?_
  intro a20 W20 hF20 hW20
  have U20 := upd_step U19 6 _ x20 hW20 (X20.trans rfl)
  clear hW20
  show Code.wp _ _ _ _ _
  obtain ⟨x21, X21⟩ : ∃ l, l = sAdd x20 ms rs 2 6 5 := ⟨_, rfl⟩
  have L21 : x21.length = 16 := by rw [X21]; simp only [sAdd, sRot, sSum, List.length_set]; exact L20
  refine wp_seq ?_
  refine step_add (N := 462) (gw := gw) (gm := gm) (gr := gr) 291 2 6 5 (by decide) (by decide) ⟨rfl, rfl, rfl, rfl⟩ (by decide) (by decide) (by decide) (by decide) (by decide) (by decide) (cellw U20.here 2 (by omega)) (cellw U20.here 6 (by omega)) (free_blk U20.here) (cellr (U20.other hr n2.symm) 5 (by omega)) (hq 5).1 (hq 5).2 (cellw (U20.other hm n1.symm) (rs.getD 5 0).toNat (by have := hq 5; omega)) hF20 ?_
  intro a21 W21 hF21 hW21
  have U21 := upd_step U20 2 _ x21 hW21 (X21.trans (congrArg (fun v => x20.set 2 v) (by omega)))
  clear hW21
  show Code.wp _ _ _ _ _
  obtain ⟨x22, X22⟩ : ∃ l, l = sRot x21 14 2 24 := ⟨_, rfl⟩
  have L22 : x22.length = 16 := by rw [X22]; simp only [sAdd, sRot, sSum, List.length_set]; exact L21
  refine wp_seq ?_
  refine step_rot (N := 462) (gw := gw) 311 14 2 (-8) 24 (Go.Proofs.YtflnlkaednpenaaDoor.MixR.rotc8) ⟨rfl, rfl, rfl, rfl⟩ (by decide) (by decide) (by decide) (by decide) (by decide) (by decide) (cellw U21.here 14 (by omega)) (cellw U21.here 2 (by omega)) (free_blk U21.here) hF21 ?_
  intro a22 W22 hF22 hW22
  have U22 := upd_step U21 14 _ x22 hW22 (X22.trans rfl)
  clear hW22
  show Code.wp _ _ _ _ _
  obtain ⟨x23, X23⟩ : ∃ l, l = sSum x22 10 14 := ⟨_, rfl⟩
  have L23 : x23.length = 16 := by rw [X23]; simp only [sAdd, sRot, sSum, List.length_set]; exact L22
  refine wp_seq ?_
  refine step_sum (N := 462) (gw := gw) 324 10 14 ⟨rfl, rfl, rfl, rfl⟩ (by decide) (by decide) (by decide) (by decide) (by decide) (by decide) (cellw U22.here 10 (by omega)) (cellw U22.here 14 (by omega)) (free_blk U22.here) hF22 ?_
  intro a23 W23 hF23 hW23
  have U23 := upd_step U22 10 _ x23 hW23 (X23.trans rfl)
  clear hW23
  show Code.wp _ _ _ _ _
  obtain ⟨x24, X24⟩ : ∃ l, l = sRot x23 6 10 25 := ⟨_, rfl⟩
  have L24 : x24.length = 16 := by rw [X24]; simp only [sAdd, sRot, sSum, List.length_set]; exact L23
  refine wp_seq ?_
  refine step_rot (N := 462) (gw := gw) 335 6 10 (-7) 25 (Go.Proofs.YtflnlkaednpenaaDoor.MixR.rotc7) ⟨rfl, rfl, rfl, rfl⟩ (by decide) (by decide) (by decide) (by decide) (by decide) (by decide) (cellw U23.here 6 (by omega)) (cellw U23.here 10 (by omega)) (free_blk U23.here) hF23 ?_
  intro a24 W24 hF24 hW24
  have U24 := upd_step U23 6 _ x24 hW24 (X24.trans rfl)
  clear hW24
  show Code.wp _ _ _ _ _
  obtain ⟨x25, X25⟩ : ∃ l, l = sAdd x24 ms rs 3 7 6 := ⟨_, rfl⟩
  have L25 : x25.length = 16 := by rw [X25]; simp only [sAdd, sRot, sSum, List.length_set]; exact L24
  refine wp_seq ?_
  refine step_add (N := 462) (gw := gw) (gm := gm) (gr := gr) 348 3 7 6 (by decide) (by decide) ⟨rfl, rfl, rfl, rfl⟩ (by decide) (by decide) (by decide) (by decide) (by decide) (by decide) (cellw U24.here 3 (by omega)) (cellw U24.here 7 (by omega)) (free_blk U24.here) (cellr (U24.other hr n2.symm) 6 (by omega)) (hq 6).1 (hq 6).2 (cellw (U24.other hm n1.symm) (rs.getD 6 0).toNat (by have := hq 6; omega)) hF24 ?_
  intro a25 W25 hF25 hW25
  have U25 := upd_step U24 3 _ x25 hW25 (X25.trans (congrArg (fun v => x24.set 3 v) (by omega)))
  clear hW25
  show Code.wp _ _ _ _ _
  obtain ⟨x26, X26⟩ : ∃ l, l = sRot x25 15 3 16 := ⟨_, rfl⟩
  have L26 : x26.length = 16 := by rw [X26]; simp only [sAdd, sRot, sSum, List.length_set]; exact L25
  refine wp_seq ?_
  refine step_rot (N := 462) (gw := gw) 368 15 3 (-16) 16 (Go.Proofs.YtflnlkaednpenaaDoor.MixR.rotc16) ⟨rfl, rfl, rfl, rfl⟩ (by decide) (by decide) (by decide) (by decide) (by decide) (by decide) (cellw U25.here 15 (by omega)) (cellw U25.here 3 (by omega)) (free_blk U25.here) hF25 ?_
  intro a26 W26 hF26 hW26
  have U26 := upd_step U25 15 _ x26 hW26 (X26.trans rfl)
  clear hW26
  show Code.wp _ _ _ _ _
  obtain ⟨x27, X27⟩ : ∃ l, l = sSum x26 11 15 := ⟨_, rfl⟩
  have L27 : x27.length = 16 := by rw [X27]; simp only [sAdd, sRot, sSum, List.length_set]; exact L26
  refine wp_seq ?_
  refine step_sum (N := 462) (gw := gw) 381 11 15 ⟨rfl, rfl, rfl, rfl⟩ (by decide) (by decide) (by decide) (by decide) (by decide) (by decide) (cellw U26.here 11 (by omega)) (cellw U26.here 15 (by omega)) (free_blk U26.here) hF26 ?_
  intro a27 W27 hF27 hW27
  have U27 := upd_step U26 11 _ x27 hW27 (X27.trans rfl)
  clear hW27
  show Code.wp _ _ _ _ _
  obtain ⟨x28, X28⟩ : ∃ l, l = sRot x27 7 11 20 := ⟨_, rfl⟩
  have L28 : x28.length = 16 := by rw [X28]; simp only [sAdd, sRot, sSum, List.length_set]; exact L27
  refine wp_seq ?_
  refine step_rot (N := 462) (gw := gw) 392 7 11 (-12) 20 (Go.Proofs.YtflnlkaednpenaaDoor.MixR.rotc12) ⟨rfl, rfl, rfl, rfl⟩ (by decide) (by decide) (by decide) (by decide) (by decide) (by decide) (cellw U27.here 7 (by omega)) (cellw U27.here 11 (by omega)) (free_blk U27.here) hF27 ?_
  intro a28 W28 hF28 hW28
  have U28 := upd_step U27 7 _ x28 hW28 (X28.trans rfl)
  clear hW28
  show Code.wp _ _ _ _ _
  obtain ⟨x29, X29⟩ : ∃ l, l = sAdd x28 ms rs 3 7 7 := ⟨_, rfl⟩
  have L29 : x29.length = 16 := by rw [X29]; simp only [sAdd, sRot, sSum, List.length_set]; exact L28
  refine wp_seq ?_
  refine step_add (N := 462) (gw := gw) (gm := gm) (gr := gr) 405 3 7 7 (by decide) (by decide) ⟨rfl, rfl, rfl, rfl⟩ (by decide) (by decide) (by decide) (by decide) (by decide) (by decide) (cellw U28.here 3 (by omega)) (cellw U28.here 7 (by omega)) (free_blk U28.here) (cellr (U28.other hr n2.symm) 7 (by omega)) (hq 7).1 (hq 7).2 (cellw (U28.other hm n1.symm) (rs.getD 7 0).toNat (by have := hq 7; omega)) hF28 ?_
  intro a29 W29 hF29 hW29
  have U29 := upd_step U28 3 _ x29 hW29 (X29.trans (congrArg (fun v => x28.set 3 v) (by omega)))
  clear hW29
  show Code.wp _ _ _ _ _
  obtain ⟨x30, X30⟩ : ∃ l, l = sRot x29 15 3 24 := ⟨_, rfl⟩
  have L30 : x30.length = 16 := by rw [X30]; simp only [sAdd, sRot, sSum, List.length_set]; exact L29
  refine wp_seq ?_
  refine step_rot (N := 462) (gw := gw) 425 15 3 (-8) 24 (Go.Proofs.YtflnlkaednpenaaDoor.MixR.rotc8) ⟨rfl, rfl, rfl, rfl⟩ (by decide) (by decide) (by decide) (by decide) (by decide) (by decide) (cellw U29.here 15 (by omega)) (cellw U29.here 3 (by omega)) (free_blk U29.here) hF29 ?_
  intro a30 W30 hF30 hW30
  have U30 := upd_step U29 15 _ x30 hW30 (X30.trans rfl)
  clear hW30
  show Code.wp _ _ _ _ _
  obtain ⟨x31, X31⟩ : ∃ l, l = sSum x30 11 15 := ⟨_, rfl⟩
  have L31 : x31.length = 16 := by rw [X31]; simp only [sAdd, sRot, sSum, List.length_set]; exact L30
  refine wp_seq ?_
  refine step_sum (N := 462) (gw := gw) 438 11 15 ⟨rfl, rfl, rfl, rfl⟩ (by decide) (by decide) (by decide) (by decide) (by decide) (by decide) (cellw U30.here 11 (by omega)) (cellw U30.here 15 (by omega)) (free_blk U30.here) hF30 ?_
  intro a31 W31 hF31 hW31
  have U31 := upd_step U30 11 _ x31 hW31 (X31.trans rfl)
  clear hW31
  show Code.wp _ _ _ _ _
  obtain ⟨x32, X32⟩ : ∃ l, l = sRot x31 7 11 25 := ⟨_, rfl⟩
  have L32 : x32.length = 16 := by rw [X32]; simp only [sAdd, sRot, sSum, List.length_set]; exact L31
  refine step_rot (N := 462) (gw := gw) 449 7 11 (-7) 25 (Go.Proofs.YtflnlkaednpenaaDoor.MixR.rotc7) ⟨rfl, rfl, rfl, rfl⟩ (by decide) (by decide) (by decide) (by decide) (by decide) (by decide) (cellw U31.here 7 (by omega)) (cellw U31.here 11 (by omega)) (free_blk U31.here) hF31 ?_
  intro a32 W32 hF32 hW32
  have U32 := upd_step U31 7 _ x32 hW32 (X32.trans rfl)
  clear hW32
  refine bodyPost_end (results_none rfl _ _ _) hF32.defers ⟨rfl, ?_⟩
  have e : columnsP x0 ms rs = x32 := by rw [X32, X31, X30, X29, X28, X27, X26, X25, X24, X23, X22, X21, X20, X19, X18, X17, X16, X15, X14, X13, X12, X11, X10, X9, X8, X7, X6, X5, X4, X3, X2, X1]; rfl
  rw [e]; exact U32
end Go.Proofs.YtflnlkaednpenaaDoor.MixCol
