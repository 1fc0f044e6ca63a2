-- Laid by the session's own driver of the kit's print (wip/tools/pr.py). Lean checks it.
import Derived.Test.YtflnlkaednpenaaDoorQBaseDx0
import Derived.Test.YtflnlkaednpenaaDoorQBaseDx1
namespace Go.Proofs.YtflnlkaednpenaaDoor.QBaseD
open Go.RowKit Go.Proofs.YtflnlkaednpenaaDoor.QKinds Go.Proofs.YtflnlkaednpenaaDoor.MixX Go.Proofs.YtflnlkaednpenaaDoorW.PrintWords Go.Proofs.YtflnlkaednpenaaDoorW.PrintLast Go.Proofs.YtflnlkaednpenaaDoorW.PrintMore
attribute [local go_sem] max2_int min2_int max_two min_two max_three min_three max_four min_four   -- for this text's walks alone
set_option linter.unusedVariables false
set_option linter.unusedSimpArgs false

/-! ### tuskref02_block: function 23 -/
mutual
def tuskref02_block.l0 : Nat → List Int → List (List Int) → List Int → ByteArray → Int → Bool → List Int → Int → Option (List Int)
  | 0, _, _, _, _, _, _, _, _ => none
  | k + 1, x0, x1, x2, x3, x4, x5, x13, x14 => if x14 < 16 then (if 0 ≤ (wrap64 (4 * x14)) then (if (wrap64 (4 * x14)) ≤ (wrap64 ((wrap64 (4 * x14)) + 4)) then (if (wrap64 ((wrap64 (4 * x14)) + 4)) ≤ (x3.size : Int) then ((tuskref02_number.f (x3.extract ((wrap64 (4 * x14)) : Int).toNat ((wrap64 ((wrap64 (4 * x14)) + 4)) : Int).toNat)).bind fun t107 => (if 0 ≤ x14 then (if x14 < (x13.length : Int) then (tuskref02_block.l0 k x0 x1 x2 x3 x4 x5 (x13.set (x14 : Int).toNat t107) (wrap64 (x14 + 1))) else (none)) else (none))) else (none)) else (none)) else (none)) else ((some (([] : List Int) : List Int)).bind fun y109 => (if y109.length + x0.length < 35184372088832 then ((some (y109 ++ x0 : List Int)).bind fun y112 => ((tuskref02_firsts.f).bind fun t115 => (if y112.length + t115.length < 35184372088832 then ((some (y112 ++ t115 : List Int)).bind fun y118 => (if 12 < (y118.length : Int) then ((some (y118.set (12 : Int).toNat (Go.bits .xor .u32 (rd y118 12) ((x4) % 4294967296)) : List Int)).bind fun y122 => (if x5 = true then (if 14 < (y118.length : Int) then (tuskref02_block.j1 k x0 x1 x2 x13 (y122.set (14 : Int).toNat (Go.bits .xor .u32 (rd y122 14) 4294967295))) else (none)) else (tuskref02_block.j1 k x0 x1 x2 x13 y122))) else (none))) else (none)))) else (none)))
def tuskref02_block.j1 : Nat → List Int → List (List Int) → List Int → List Int → List Int → Option (List Int)
  | 0, _, _, _, _, _ => none
  | k + 1, x0, x1, x2, x13, x15 => tuskref02_block.l1 k x0 x1 x2 x13 x15 0
def tuskref02_block.l1 : Nat → List Int → List (List Int) → List Int → List Int → List Int → Int → Option (List Int)
  | 0, _, _, _, _, _, _ => none
  | k + 1, x0, x1, x2, x13, x15, x16 => if x16 < 10 then (if 0 ≤ x16 then (if x16 < (x1.length : Int) then (tuskref02_block.l2 k x0 x1 x2 x13 x15 x16 (rd_L5 x1 x16) 0) else (none)) else (none)) else (if 8 ≤ 70368744177664 then (tuskref02_block.l3 k x0 x15 (List.replicate 8 0) 0) else (none))
def tuskref02_block.l2 : Nat → List Int → List (List Int) → List Int → List Int → List Int → Int → List Int → Int → Option (List Int)
  | 0, _, _, _, _, _, _, _, _ => none
  | k + 1, x0, x1, x2, x13, x15, x16, x17, x18 => if x18 < 8 then (if 0 ≤ (wrap64 (4 * x18)) then (if (wrap64 (4 * x18)) < (x2.length : Int) then (if 0 ≤ (wrap64 ((wrap64 (4 * x18)) + 1)) then (if (wrap64 ((wrap64 (4 * x18)) + 1)) < (x2.length : Int) then (if 0 ≤ (wrap64 ((wrap64 (4 * x18)) + 2)) then (if (wrap64 ((wrap64 (4 * x18)) + 2)) < (x2.length : Int) then (if 0 ≤ (wrap64 ((wrap64 (4 * x18)) + 3)) then (if (wrap64 ((wrap64 (4 * x18)) + 3)) < (x2.length : Int) then (if 0 ≤ (rd x2 (wrap64 (4 * x18))) then (if (rd x2 (wrap64 (4 * x18))) < (x15.length : Int) then (if 0 ≤ (rd x2 (wrap64 ((wrap64 (4 * x18)) + 1))) then (if (rd x2 (wrap64 ((wrap64 (4 * x18)) + 1))) < (x15.length : Int) then (if 0 ≤ (rd x2 (wrap64 ((wrap64 (4 * x18)) + 2))) then (if (rd x2 (wrap64 ((wrap64 (4 * x18)) + 2))) < (x15.length : Int) then (if 0 ≤ (rd x2 (wrap64 ((wrap64 (4 * x18)) + 3))) then (if (rd x2 (wrap64 ((wrap64 (4 * x18)) + 3))) < (x15.length : Int) then (if 0 ≤ (wrap64 (2 * x18)) then (if (wrap64 (2 * x18)) < (x17.length : Int) then (if 0 ≤ (rd x17 (wrap64 (2 * x18))) then (if (rd x17 (wrap64 (2 * x18))) < (x13.length : Int) then (if 0 ≤ (wrap64 ((wrap64 (2 * x18)) + 1)) then (if (wrap64 ((wrap64 (2 * x18)) + 1)) < (x17.length : Int) then (if 0 ≤ (rd x17 (wrap64 ((wrap64 (2 * x18)) + 1))) then (if (rd x17 (wrap64 ((wrap64 (2 * x18)) + 1))) < (x13.length : Int) then ((tuskref02_mixed.f (rd x15 (rd x2 (wrap64 (4 * x18)))) (rd x15 (rd x2 (wrap64 ((wrap64 (4 * x18)) + 1)))) (rd x15 (rd x2 (wrap64 ((wrap64 (4 * x18)) + 2)))) (rd x15 (rd x2 (wrap64 ((wrap64 (4 * x18)) + 3)))) (rd x13 (rd x17 (wrap64 (2 * x18)))) (rd x13 (rd x17 (wrap64 ((wrap64 (2 * x18)) + 1))))).bind fun bt138 => (tuskref02_block.l2 k x0 x1 x2 x13 ((((x15.set ((rd x2 (wrap64 (4 * x18))) : Int).toNat bt138.1).set ((rd x2 (wrap64 ((wrap64 (4 * x18)) + 1))) : Int).toNat bt138.2.1).set ((rd x2 (wrap64 ((wrap64 (4 * x18)) + 2))) : Int).toNat bt138.2.2.1).set ((rd x2 (wrap64 ((wrap64 (4 * x18)) + 3))) : Int).toNat bt138.2.2.2) x16 x17 (wrap64 (x18 + 1)))) else (none)) else (none)) else (none)) else (none)) else (none)) else (none)) else (none)) else (none)) else (none)) else (none)) else (none)) else (none)) else (none)) else (none)) else (none)) else (none)) else (none)) else (none)) else (none)) else (none)) else (none)) else (none)) else (none)) else (none)) else (tuskref02_block.l1 k x0 x1 x2 x13 x15 (wrap64 (x16 + 1)))
def tuskref02_block.l3 : Nat → List Int → List Int → List Int → Int → Option (List Int)
  | 0, _, _, _, _ => none
  | k + 1, x0, x15, x27, x28 => if x28 < 8 then (if 0 ≤ x28 then (if x28 < (x0.length : Int) then (if x28 < (x15.length : Int) then (if 0 ≤ (wrap64 (x28 + 8)) then (if (wrap64 (x28 + 8)) < (x15.length : Int) then (if x28 < (x27.length : Int) then (tuskref02_block.l3 k x0 x15 (x27.set (x28 : Int).toNat (Go.bits .xor .u32 (Go.bits .xor .u32 (rd x0 x28) (rd x15 x28)) (rd x15 (wrap64 (x28 + 8))))) (wrap64 (x28 + 1))) else (none)) else (none)) else (none)) else (none)) else (none)) else (none)) else (some x27)
end
def tuskref02_block.f (k : Nat) (l0 : List Int) (l1 : List (List Int)) (l2 : List Int) (a3 : ByteArray) (a4 : Int) (a5 : Bool) : Option (List Int) := if 16 ≤ 70368744177664 then (tuskref02_block.l0 k l0 l1 l2 a3 a4 a5 (List.replicate 16 0) 0) else (none)
theorem tuskref02_block.mono_l : ∀ k, (∀ y0 y1 y2 y3 y4 y5 y6 y7, LeO (tuskref02_block.l0 k y0 y1 y2 y3 y4 y5 y6 y7) (tuskref02_block.l0 (k + 1) y0 y1 y2 y3 y4 y5 y6 y7)) ∧ (∀ y0 y1 y2 y3 y4, LeO (tuskref02_block.j1 k y0 y1 y2 y3 y4) (tuskref02_block.j1 (k + 1) y0 y1 y2 y3 y4)) ∧ (∀ y0 y1 y2 y3 y4 y5, LeO (tuskref02_block.l1 k y0 y1 y2 y3 y4 y5) (tuskref02_block.l1 (k + 1) y0 y1 y2 y3 y4 y5)) ∧ (∀ y0 y1 y2 y3 y4 y5 y6 y7, LeO (tuskref02_block.l2 k y0 y1 y2 y3 y4 y5 y6 y7) (tuskref02_block.l2 (k + 1) y0 y1 y2 y3 y4 y5 y6 y7)) ∧ (∀ y0 y1 y2 y3, LeO (tuskref02_block.l3 k y0 y1 y2 y3) (tuskref02_block.l3 (k + 1) y0 y1 y2 y3))
  | 0 => ⟨fun _ _ _ _ _ _ _ _ r h => by simp [tuskref02_block.l0] at h, fun _ _ _ _ _ r h => by simp [tuskref02_block.j1] at h, fun _ _ _ _ _ _ r h => by simp [tuskref02_block.l1] at h, fun _ _ _ _ _ _ _ _ r h => by simp [tuskref02_block.l2] at h, fun _ _ _ _ r h => by simp [tuskref02_block.l3] at h⟩
  | k + 1 => by
    obtain ⟨ih0, ih1, ih2, ih3, ih4⟩ := tuskref02_block.mono_l k
    refine ⟨?_, ?_, ?_, ?_, ?_⟩
    · intro y0 y1 y2 y3 y4 y5 y6 y7
      unfold tuskref02_block.l0
      repeat' first
      | (with_reducible exact ih0 _ _ _ _ _ _ _ _)
      | (with_reducible exact ih1 _ _ _ _ _)
      | (with_reducible exact ih2 _ _ _ _ _ _)
      | (with_reducible exact ih3 _ _ _ _ _ _ _ _)
      | (with_reducible exact ih4 _ _ _ _)
      | (with_reducible exact LeO.refl _)
      | (with_reducible exact LeO.none _)
      | (with_reducible refine LeO.ite ?_ ?_)
      | (with_reducible refine LeO.bind ?_ (fun _ => ?_))
      | exact ih0 _ _ _ _ _ _ _ _
      | exact ih1 _ _ _ _ _
      | exact ih2 _ _ _ _ _ _
      | exact ih3 _ _ _ _ _ _ _ _
      | exact ih4 _ _ _ _
      | exact LeO.none _
      | refine LeO.ite ?_ ?_
      | refine LeO.bind ?_ (fun _ => ?_)
    · intro y0 y1 y2 y3 y4
      unfold tuskref02_block.j1
      repeat' first
      | (with_reducible exact ih0 _ _ _ _ _ _ _ _)
      | (with_reducible exact ih1 _ _ _ _ _)
      | (with_reducible exact ih2 _ _ _ _ _ _)
      | (with_reducible exact ih3 _ _ _ _ _ _ _ _)
      | (with_reducible exact ih4 _ _ _ _)
      | (with_reducible exact LeO.refl _)
      | (with_reducible exact LeO.none _)
      | (with_reducible refine LeO.ite ?_ ?_)
      | (with_reducible refine LeO.bind ?_ (fun _ => ?_))
      | exact ih0 _ _ _ _ _ _ _ _
      | exact ih1 _ _ _ _ _
      | exact ih2 _ _ _ _ _ _
      | exact ih3 _ _ _ _ _ _ _ _
      | exact ih4 _ _ _ _
      | exact LeO.none _
      | refine LeO.ite ?_ ?_
      | refine LeO.bind ?_ (fun _ => ?_)
    · intro y0 y1 y2 y3 y4 y5
      unfold tuskref02_block.l1
      repeat' first
      | (with_reducible exact ih0 _ _ _ _ _ _ _ _)
      | (with_reducible exact ih1 _ _ _ _ _)
      | (with_reducible exact ih2 _ _ _ _ _ _)
      | (with_reducible exact ih3 _ _ _ _ _ _ _ _)
      | (with_reducible exact ih4 _ _ _ _)
      | (with_reducible exact LeO.refl _)
      | (with_reducible exact LeO.none _)
      | (with_reducible refine LeO.ite ?_ ?_)
      | (with_reducible refine LeO.bind ?_ (fun _ => ?_))
      | exact ih0 _ _ _ _ _ _ _ _
      | exact ih1 _ _ _ _ _
      | exact ih2 _ _ _ _ _ _
      | exact ih3 _ _ _ _ _ _ _ _
      | exact ih4 _ _ _ _
      | exact LeO.none _
      | refine LeO.ite ?_ ?_
      | refine LeO.bind ?_ (fun _ => ?_)
    · intro y0 y1 y2 y3 y4 y5 y6 y7
      unfold tuskref02_block.l2
      repeat' first
      | (with_reducible exact ih0 _ _ _ _ _ _ _ _)
      | (with_reducible exact ih1 _ _ _ _ _)
      | (with_reducible exact ih2 _ _ _ _ _ _)
      | (with_reducible exact ih3 _ _ _ _ _ _ _ _)
      | (with_reducible exact ih4 _ _ _ _)
      | (with_reducible exact LeO.refl _)
      | (with_reducible exact LeO.none _)
      | (with_reducible refine LeO.ite ?_ ?_)
      | (with_reducible refine LeO.bind ?_ (fun _ => ?_))
      | exact ih0 _ _ _ _ _ _ _ _
      | exact ih1 _ _ _ _ _
      | exact ih2 _ _ _ _ _ _
      | exact ih3 _ _ _ _ _ _ _ _
      | exact ih4 _ _ _ _
      | exact LeO.none _
      | refine LeO.ite ?_ ?_
      | refine LeO.bind ?_ (fun _ => ?_)
    · intro y0 y1 y2 y3
      unfold tuskref02_block.l3
      repeat' first
      | (with_reducible exact ih0 _ _ _ _ _ _ _ _)
      | (with_reducible exact ih1 _ _ _ _ _)
      | (with_reducible exact ih2 _ _ _ _ _ _)
      | (with_reducible exact ih3 _ _ _ _ _ _ _ _)
      | (with_reducible exact ih4 _ _ _ _)
      | (with_reducible exact LeO.refl _)
      | (with_reducible exact LeO.none _)
      | (with_reducible refine LeO.ite ?_ ?_)
      | (with_reducible refine LeO.bind ?_ (fun _ => ?_))
      | exact ih0 _ _ _ _ _ _ _ _
      | exact ih1 _ _ _ _ _
      | exact ih2 _ _ _ _ _ _
      | exact ih3 _ _ _ _ _ _ _ _
      | exact ih4 _ _ _ _
      | exact LeO.none _
      | refine LeO.ite ?_ ?_
      | refine LeO.bind ?_ (fun _ => ?_)
theorem tuskref02_block.mono : ∀ a0 a1 a2 a3 a4 a5 k, LeO (tuskref02_block.f k a0 a1 a2 a3 a4 a5) (tuskref02_block.f (k + 1) a0 a1 a2 a3 a4 a5) := by
  intro a0 a1 a2 a3 a4 a5 k
  obtain ⟨ih0, ih1, ih2, ih3, ih4⟩ := tuskref02_block.mono_l k
  unfold tuskref02_block.f
  repeat' first
      | (with_reducible exact ih0 _ _ _ _ _ _ _ _)
      | (with_reducible exact ih1 _ _ _ _ _)
      | (with_reducible exact ih2 _ _ _ _ _ _)
      | (with_reducible exact ih3 _ _ _ _ _ _ _ _)
      | (with_reducible exact ih4 _ _ _ _)
      | (with_reducible exact LeO.refl _)
      | (with_reducible exact LeO.none _)
      | (with_reducible refine LeO.ite ?_ ?_)
      | (with_reducible refine LeO.bind ?_ (fun _ => ?_))
      | exact ih0 _ _ _ _ _ _ _ _
      | exact ih1 _ _ _ _ _
      | exact ih2 _ _ _ _ _ _
      | exact ih3 _ _ _ _ _ _ _ _
      | exact ih4 _ _ _ _
      | exact LeO.none _
      | refine LeO.ite ?_ ?_
      | refine LeO.bind ?_ (fun _ => ?_)
def tuskref02_block.T17 : Bool × List (List Nat × List Nat) := (true, [([], []), ([], []), ([1], [1]), ([0, 2], [0, 2]), ([3], [3]), ([], []), ([], []), ([6], [6]), ([7], [7]), ([5, 8], [5, 8]), ([9], [9]), ([], []), ([], []), ([12], [12]), ([13], [13]), ([11, 14], [11, 14]), ([15], [15]), ([], []), ([], []), ([18], [18]), ([19], [19]), ([17, 20], [17, 20]), ([21], [21]), ([4, 0, 1, 2, 3, 4], [4]), ([10, 23, 0, 1, 2, 3, 4, 5, 6, 7, 8, 9, 10, 23], [10]), ([16, 24, 0, 1, 2, 3, 4, 5, 6, 7, 8, 9, 10, 11, 12, 13, 14, 15, 16, 23, 24], [16]), ([22, 25, 0, 1, 2, 3, 4, 5, 6, 7, 8, 9, 10, 11, 12, 13, 14, 15, 16, 17, 18, 19, 20, 21, 22, 23, 24, 25], [22])])
def tuskref02_block.B17 : List Nat := [0, 0, 2, 7, 15, 0, 0, 64, 192, 480, 992, 0, 0, 4096, 12288, 30720, 63488, 0, 0, 262144, 786432, 1966080, 4063232, 31, 8390655, 25296895, 67108863]
theorem tuskref02_block.tab17 : rtab .any (opsOf Tryd.f23 17) = tuskref02_block.T17 := by kernel_rfl
theorem tuskref02_block.bits17 : waitsOk tuskref02_block.T17.2 tuskref02_block.B17 = true := by kernel_rfl
def tuskref02_block.T18 : Bool × List (List Nat × List Nat) := (true, [([], []), ([], []), ([0, 1], [0, 1]), ([2], [2]), ([], []), ([], []), ([4, 5], [4, 5]), ([6], [6]), ([], []), ([], []), ([8, 9], [8, 9]), ([10], [10]), ([], []), ([], []), ([12, 13], [12, 13]), ([14], [14]), ([], []), ([], []), ([], []), ([18], [18]), ([17, 19], [17, 19]), ([20], [20]), ([16, 21], [16, 21]), ([22], [22]), ([], []), ([], []), ([], []), ([26], [26]), ([27], [27]), ([25, 28], [25, 28]), ([29], [29]), ([24, 30], [24, 30]), ([31], [31]), ([3, 7, 11, 15, 23, 32], [3, 7, 11, 15, 23, 32]), ([33], [33]), ([34], [34]), ([34], [34]), ([34], [34]), ([34], [34]), ([35, 33, 0, 1, 2, 3, 4, 5, 6, 7, 8, 9, 10, 11, 12, 13, 14, 15, 16, 17, 18, 19, 20, 21, 22, 23, 24, 25, 26, 27, 28, 29, 30, 31, 32, 33, 34, 35], [35]), ([36, 39, 0, 1, 2, 3, 4, 5, 6, 7, 8, 9, 10, 11, 12, 13, 14, 15, 16, 17, 18, 19, 20, 21, 22, 23, 24, 25, 26, 27, 28, 29, 30, 31, 32, 33, 34, 35, 36, 39], [36]), ([37, 40, 0, 1, 2, 3, 4, 5, 6, 7, 8, 9, 10, 11, 12, 13, 14, 15, 16, 17, 18, 19, 20, 21, 22, 23, 24, 25, 26, 27, 28, 29, 30, 31, 32, 33, 34, 35, 36, 37, 39, 40], [37]), ([38, 41, 0, 1, 2, 3, 4, 5, 6, 7, 8, 9, 10, 11, 12, 13, 14, 15, 16, 17, 18, 19, 20, 21, 22, 23, 24, 25, 26, 27, 28, 29, 30, 31, 32, 33, 34, 35, 36, 37, 38, 39, 40, 41], [38])])
def tuskref02_block.B18 : List Nat := [0, 0, 3, 7, 0, 0, 48, 112, 0, 0, 768, 1792, 0, 0, 12288, 28672, 0, 0, 0, 262144, 917504, 1966080, 4128768, 8323072, 0, 0, 0, 67108864, 201326592, 503316480, 1040187392, 2130706432, 4278190080, 8589934591, 17179869183, 34359738367, 34359738367, 34359738367, 34359738367, 68719476735, 687194767359, 1924145348607, 4398046511103]
theorem tuskref02_block.tab18 : rtab .any (opsOf Tryd.f23 18) = tuskref02_block.T18 := by kernel_rfl
theorem tuskref02_block.bits18 : waitsOk tuskref02_block.T18.2 tuskref02_block.B18 = true := by kernel_rfl
def tuskref02_block.T27 : Bool × List (List Nat × List Nat) := (true, [([], []), ([], []), ([], []), ([], []), ([2, 3], [2, 3]), ([4], [4]), ([], []), ([], []), ([6, 7], [6, 7]), ([8], [8]), ([5, 9], [5, 9]), ([], []), ([], []), ([12], [12]), ([11, 13], [11, 13]), ([14], [14]), ([10, 15], [10, 15]), ([0, 1, 0, 1, 2, 3, 4, 5, 6, 7, 8, 9, 10, 11, 12, 13, 14, 15, 16], [0, 1]), ([17, 16, 0, 1, 2, 3, 4, 5, 6, 7, 8, 9, 10, 11, 12, 13, 14, 15, 16], [16, 17])])
def tuskref02_block.B27 : List Nat := [0, 0, 0, 0, 12, 28, 0, 0, 192, 448, 1020, 0, 0, 4096, 14336, 30720, 65532, 131071, 262143]
theorem tuskref02_block.tab27 : rtab .any (opsOf Tryd.f23 27) = tuskref02_block.T27 := by kernel_rfl
theorem tuskref02_block.bits27 : waitsOk tuskref02_block.T27.2 tuskref02_block.B27 = true := by kernel_rfl
set_option maxHeartbeats 8000000 in
set_option maxRecDepth 100000 in
theorem tuskref02_block.calls (k : Nat) (A0 : Option Addr) (c0 : Nat) (l0 : List Int) (A1 : Option Addr) (c1 : Nat) (l1 : List (List Int)) (A2 : Option Addr) (c2 : Nat) (l2 : List Int) (a3 : ByteArray) (a4 : Int) (a5 : Bool) (r : List Int) (w : World) (hr0 : Kd.C (Kd.int .u32) w A0 l0.length l0) (hc0 : l0.length ≤ c0) (hr1 : Kd.C (Kd.slice 3 (Kd.int .i64)) w A1 l1.length l1) (hc1 : l1.length ≤ c1) (hr2 : Kd.C (Kd.int .i64) w A2 l2.length l2) (hc2 : l2.length ≤ c2) (h : tuskref02_block.f k l0 l1 l2 a3 a4 a5 = some r) :
    Calls Tryd.prog 23 #[.slice A0 l0.length c0, .slice A1 l1.length c1, .slice A2 l2.length c2, .string a3, .int .i64 a4, .bool a5] w fun e w' => ∃ v0_ : Value, e = .returned (v0_) ∧ Kd.R (Kd.int .u32) 29 w' w.heap.size (fun _ => True) v0_ r ∧ Below w.heap.size w w' := by
  have HR0 := Aside0.mk hr0
  have HC0 := Aside0.mk hc0
  clear hr0 hc0
  have HR1 := Aside0.mk hr1
  have HC1 := Aside0.mk hc1
  clear hr1 hc1
  have HR2 := Aside0.mk hr2
  have HC2 := Aside0.mk hc2
  clear hr2 hc2
  have HB := Aside0.mk (Below.refl w.heap.size w)
  have H : (if 16 ≤ 70368744177664 then (tuskref02_block.l0 k l0 l1 l2 a3 a4 a5 (List.replicate 16 0) 0) else (none)) = some r := h
  clear h
  by_cases c7 : 16 ≤ 70368744177664
  · rw [if_pos c7] at H
    have c7b0 := eq_true c7
    have c7b1 : decide (16 ≤ 70368744177664) = true := decide_eq_true c7
    clear c7
    obtain ⟨y104, hy104⟩ : ∃ y_ : List Int, y_ = (List.replicate 16 0) := ⟨_, rfl⟩
    replace H : (tuskref02_block.l0 k l0 l1 l2 a3 a4 a5 y104 0) = some r := by first | (rw [hy104]; with_reducible exact H) | (have H2_ := (Option.bind_some _ _).symm.trans H; rw [hy104]; with_reducible exact H2_) | (have H2_ := (Option.bind_some _ _).symm.trans H; with_reducible exact H2_) | with_reducible exact H | (rw [hy104]; exact H) | exact H
    have Ny104 := Aside0.mk hy104
    clear hy104
    have H' := Aside0.mk H
    clear H
    go_enter Tryd.func23, Tryd.ntmps23
    go_wp2_with (first | ((with_reducible refine gate_dst (N := 29) rfl ?_); refine Kd.R_make (Kd.int .u32) _ 29 rfl (N := 29) rfl 41 _ _ rfl 16 rfl rfl Tryd.underlying41 (.int .u32 0) 4 info29 rfl (by decide) (by omega) 0 (ok := fun _ => True) (okp := fun _ => True) rfl (fun _ hk => hk) trivial (by omega) (by omega) (Below.refl _ _) (Nat.le_refl _) ?_; intro v105 w8 ho9 hb hg_ hnew_; clear hg_ hnew_; (first | rw [← Ny104.out] at ho9 | (simp only [Int.reduceToNat] at ho9; rw [← Ny104.out] at ho9)); have n0_ := Aside0.mk (Kd.R_lower ho9 (below_size (by repeat (first | (with_reducible first | exact HB.out | apply below_alloc | apply pw_below_drewN | apply below_drew1) | exact HB.out)))); have n1_ := Aside0.mk (below_step (by repeat (first | (with_reducible first | exact HB.out | apply below_alloc | apply pw_below_drewN | apply below_drew1) | exact HB.out)) hb); clear HB; have HO106 := n0_; have HB := n1_; clear n0_ n1_; clear hb ho9))
    go_loopg [14] k (fun kq v14 w' => ∃ (x13_1 : List Int) (x14_1 : Int), v14 = .int .i64 x14_1 ∧ Aside0 (tuskref02_block.l0 kq l0 l1 l2 a3 a4 a5 x13_1 x14_1 = some r) ∧ Aside0 (kq ≤ k) ∧ Aside0 (Kd.R (Kd.int .u32) 29 w' w.heap.size (fun _ => True) v105 x13_1) ∧ Aside0 (Below w.heap.size w w'))
    case atStart => exact ⟨(y104), (0), (by first | rfl | (simp; done) | (simp [*]; done)), H', ⟨Nat.le_refl _⟩, ⟨by (with_reducible repeat (first | apply Kd.R_alloc | apply Kd.R_drewN | apply Kd.R_drew)); exact HO106.out⟩, ⟨by repeat (first | (with_reducible first | exact HB.out | apply below_alloc | apply pw_below_drewN | apply below_drew1) | exact HB.out)⟩⟩
    case round =>
      clear H'
      try clear c1
      try clear c2
      try clear p2
      try clear c7
      try clear c7b0
      try clear c7b1
      obtain ⟨x13_1, x14_1, rfl, HA, HK1, HO_13, HB⟩ := hrel
      cases gk with
      | zero => exact absurd HA.out (by simp [tuskref02_block.l0])
      | succ k1 =>
        have H := HA.out
        clear HA
        simp only [tuskref02_block.l0] at H
        by_cases c10 : x14_1 < 16
        · rw [if_pos c10] at H
          have c10b0 : decide (x14_1 < 16) = true := decide_eq_true c10
          clear c10
          obtain ⟨ji11, hji11⟩ : ∃ j_ : Int, (wrap64 (4 * x14_1)) = j_ := ⟨_, rfl⟩
          replace H : (if 0 ≤ (ji11) then (if (ji11) ≤ (wrap64 ((ji11) + 4)) then (if (wrap64 ((ji11) + 4)) ≤ (a3.size : Int) then ((tuskref02_number.f (a3.extract ((ji11) : Int).toNat ((wrap64 ((ji11) + 4)) : Int).toNat)).bind fun t107 => (if 0 ≤ x14_1 then (if x14_1 < (x13_1.length : Int) then (tuskref02_block.l0 k1 l0 l1 l2 a3 a4 a5 (x13_1.set (x14_1 : Int).toNat t107) (wrap64 (x14_1 + 1))) else (none)) else (none))) else (none)) else (none)) else (none)) = some r := by first | (rw [hji11] at H; exact H) | (simp only [hji11] at H ⊢; exact H)
          have hji11w : (IntKind.i64.wrap (4 * x14_1)) = ji11 := (i64_w _).trans hji11
          by_cases c12 : 0 ≤ (ji11)
          · rw [if_pos c12] at H
            have c12b0 := eq_true c12
            have c12b1 : decide (0 ≤ (ji11)) = true := decide_eq_true c12
            clear c12
            by_cases c13 : (ji11) ≤ (wrap64 ((ji11) + 4))
            · rw [if_pos c13] at H
              have c13b0 := eq_true c13
              have c13b1 : decide ((ji11) ≤ (wrap64 ((ji11) + 4))) = true := decide_eq_true c13
              by_cases c14 : (wrap64 ((ji11) + 4)) ≤ (a3.size : Int)
              · rw [if_pos c14] at H
                have c14b0 := eq_true c14
                have c14b1 : decide ((wrap64 ((ji11) + 4)) ≤ (a3.size : Int)) = true := decide_eq_true c14
                replace H := Option.bind_eq_some_iff.mp H
                obtain ⟨t107, A150, H⟩ := H
                replace H : (if 0 ≤ x14_1 then (if x14_1 < (x13_1.length : Int) then (tuskref02_block.l0 k1 l0 l1 l2 a3 a4 a5 (x13_1.set (x14_1 : Int).toNat t107) (wrap64 (x14_1 + 1))) else (none)) else (none)) = some r := H
                have A15 := Aside0.mk A150
                clear A150
                by_cases c16 : 0 ≤ x14_1
                · rw [if_pos c16] at H
                  have c16b0 : decide (0 ≤ x14_1) = true := decide_eq_true c16
                  clear c16
                  by_cases c17 : x14_1 < (x13_1.length : Int)
                  · rw [if_pos c17] at H
                    have c17b0 : decide (x14_1 < (x13_1.length : Int)) = true := decide_eq_true c17
                    clear c17
                    obtain ⟨y108, hy108⟩ : ∃ y_ : List Int, y_ = (x13_1.set (x14_1 : Int).toNat t107) := ⟨_, rfl⟩
                    replace H : (tuskref02_block.l0 k1 l0 l1 l2 a3 a4 a5 y108 (wrap64 (x14_1 + 1))) = some r := by first | (rw [hy108]; with_reducible exact H) | (have H2_ := (Option.bind_some _ _).symm.trans H; rw [hy108]; with_reducible exact H2_) | (have H2_ := (Option.bind_some _ _).symm.trans H; with_reducible exact H2_) | with_reducible exact H | (rw [hy108]; exact H) | exact H
                    have Ny108 := Aside0.mk hy108
                    clear hy108
                    have H' := Aside0.mk H
                    clear H
                    go_wp2_with (first | ((with_reducible refine gate_callee (f := 27) rfl ?_); refine goesL_ (some 43) rfl rfl Tryd.func27 (by kernel_rfl) rfl #[.string (a3.extract ((ji11) : Int).toNat ((wrap64 ((ji11) + 4)) : Int).toNat)] rfl (by (try simp only [List.map_toArray, List.map_cons, List.map_nil]); first | done | (simp only [hji11]; rfl) | rfl | (simp only [List.length_drop, List.length_take]; rfl)) ?_; (with_reducible refine (tuskref02_number.calls (a3.extract ((ji11) : Int).toNat ((wrap64 ((ji11) + 4)) : Int).toNat) t107 _ A15.out).mono ?_); rintro e w' ⟨rfl, ⟨nd, rfl⟩⟩; refine ⟨_, rfl, ?_⟩; (try (rw [drewN_self wr]; generalize hq_ : World.drewN wr _ = wr; have n0_ : Aside0 (Kd.R (Kd.int .u32) 29 wr w.heap.size (fun _ => True) v105 x13_1) := ⟨by rw [← hq_]; exact (by (with_reducible repeat (first | apply Kd.R_alloc | apply Kd.R_drewN | apply Kd.R_drew)); exact HO_13.out)⟩; have n1_ : Aside0 (Below w.heap.size w wr) := ⟨by rw [← hq_]; exact (by repeat (first | (with_reducible first | exact HB.out | apply below_alloc | apply pw_below_drewN | apply below_drew1) | exact HB.out))⟩; clear HO_13 HB hq_; have HO_13 := n0_; have HB := n1_; clear n0_ n1_)); have p18 : 0 ≤ (x14_1 : Int) := of_decide_eq_true (by first | (with_reducible assumption) | assumption); have q18 : (x14_1 : Int) < ((x13_1.length : Int) : Int) := of_decide_eq_true (by first | (with_reducible assumption) | assumption); obtain ⟨go18, co18, eo18, gb18, gl18, cl18, HG18⟩ := Kd.R_form HO_13.out (by omega); (first | cases eo18 | (injection eo18 with ea_ en_ ec_; (first | subst ea_ | (injection ea_ with ea_; subst ea_)); subst ec_; clear en_)); have GB18 := Aside0.mk gb18; have GG18 := Aside0.mk HG18; clear gb18 gl18 HG18; obtain ⟨hx18_0, hf18_0⟩ := Kd.R_celln 0 HO_13.out (x14_1 : Int) p18 q18; replace p18 := eq_true p18; replace q18 := eq_true q18; obtain ⟨hy19_, hz19_⟩ := Kd.R_celln 0 HO_13.out (x14_1 : Int) (of_decide_eq_true (by first | (with_reducible assumption) | assumption)) (of_decide_eq_true (by first | (with_reducible assumption) | assumption)); have HP19 := Kd.R_putg HO_13.out (x14_1 : Int) t107) | ((with_reducible refine gate_store (t := 29) (p := 44) rfl ?_); refine store_event (t := 29) (p := 44) (v := ?vo_w20) (w1 := (wr.setCell ⟨go18, (x14_1 : Int).toNat, none⟩ (.int .u32 t107))) ?hg ?ho ?hn ?hr ?_; (case ho => rfl); (case hg => rfl); (case hn => rfl); (case hr => first | (go_simp; done) | (go_simp; rfl)); intro w20 hw; have hg : wr.grownBy w20 (some go18) := (by rw [hw]; exact HP19.2); have hp_ : Kd.R (Kd.int .u32) 29 w20 w.heap.size (fun _ => True) (.slice (some ⟨go18, 0, none⟩) x13_1.length co18) y108 := (by rw [hw, Ny108.out]; exact HP19.1); clear HP19; have n0_ := Aside0.mk (hp_); have n1_ := Aside0.mk ((by rw [hw]; exact below_set (HB.out) GB18.out : Below w.heap.size w w20)); clear HO_13; clear HB; have HO_13 := n0_; have HB := n1_; clear n0_ n1_; clear hg hw hp_))
                    go_roundg k1
                    case measure => have := HK1.out; omega
                    case rel => exact ⟨(y108), (wrap64 (x14_1 + 1)), (by first | rfl | (simp; done) | (simp [*]; done)), H', ⟨by have := HK1.out; omega⟩, ⟨by (with_reducible repeat (first | apply Kd.R_alloc | apply Kd.R_drewN | apply Kd.R_drew)); exact HO_13.out⟩, ⟨by repeat (first | (with_reducible first | exact HB.out | apply below_alloc | apply pw_below_drewN | apply below_drew1) | exact HB.out)⟩⟩
                  · rw [if_neg c17] at H
                    exact absurd H (by simp)
                · rw [if_neg c16] at H
                  exact absurd H (by simp)
              · rw [if_neg c14] at H
                exact absurd H (by simp)
            · rw [if_neg c13] at H
              exact absurd H (by simp)
          · rw [if_neg c12] at H
            exact absurd H (by simp)
        · rw [if_neg c10] at H
          have c10b0 : decide (x14_1 < 16) = false := decide_eq_false c10
          clear c10
          obtain ⟨y109, hy109⟩ : ∃ y_ : List Int, y_ = (([] : List Int)) := ⟨_, rfl⟩
          replace H : (if y109.length + l0.length < 35184372088832 then ((some (y109 ++ l0 : List Int)).bind fun y112 => ((tuskref02_firsts.f).bind fun t115 => (if y112.length + t115.length < 35184372088832 then ((some (y112 ++ t115 : List Int)).bind fun y118 => (if 12 < (y118.length : Int) then ((some (y118.set (12 : Int).toNat (Go.bits .xor .u32 (rd y118 12) ((a4) % 4294967296)) : List Int)).bind fun y122 => (if a5 = true then (if 14 < (y118.length : Int) then (tuskref02_block.j1 k1 l0 l1 l2 x13_1 (y122.set (14 : Int).toNat (Go.bits .xor .u32 (rd y122 14) 4294967295))) else (none)) else (tuskref02_block.j1 k1 l0 l1 l2 x13_1 y122))) else (none))) else (none)))) else (none)) = some r := by first | (rw [hy109]; with_reducible exact H) | (have H2_ := (Option.bind_some _ _).symm.trans H; rw [hy109]; with_reducible exact H2_) | (have H2_ := (Option.bind_some _ _).symm.trans H; with_reducible exact H2_) | with_reducible exact H | (rw [hy109]; exact H) | exact H
          have Ny109 := Aside0.mk hy109
          clear hy109
          by_cases c21 : y109.length + l0.length < 35184372088832
          · rw [if_pos c21] at H
            have LMc21 := Aside0.mk c21
            clear c21
            obtain ⟨y112, hy112⟩ : ∃ y_ : List Int, y_ = (y109 ++ l0) := ⟨_, rfl⟩
            replace H : ((tuskref02_firsts.f).bind fun t115 => (if y112.length + t115.length < 35184372088832 then ((some (y112 ++ t115 : List Int)).bind fun y118 => (if 12 < (y118.length : Int) then ((some (y118.set (12 : Int).toNat (Go.bits .xor .u32 (rd y118 12) ((a4) % 4294967296)) : List Int)).bind fun y122 => (if a5 = true then (if 14 < (y118.length : Int) then (tuskref02_block.j1 k1 l0 l1 l2 x13_1 (y122.set (14 : Int).toNat (Go.bits .xor .u32 (rd y122 14) 4294967295))) else (none)) else (tuskref02_block.j1 k1 l0 l1 l2 x13_1 y122))) else (none))) else (none))) = some r := by first | (rw [hy112]; with_reducible exact H) | (have H2_ := (Option.bind_some _ _).symm.trans H; rw [hy112]; with_reducible exact H2_) | (have H2_ := (Option.bind_some _ _).symm.trans H; with_reducible exact H2_) | with_reducible exact H | (rw [hy112]; exact H) | exact H
            have Ny112 := Aside0.mk hy112
            clear hy112
            replace H := Option.bind_eq_some_iff.mp H
            obtain ⟨t115, A220, H⟩ := H
            replace H : (if y112.length + t115.length < 35184372088832 then ((some (y112 ++ t115 : List Int)).bind fun y118 => (if 12 < (y118.length : Int) then ((some (y118.set (12 : Int).toNat (Go.bits .xor .u32 (rd y118 12) ((a4) % 4294967296)) : List Int)).bind fun y122 => (if a5 = true then (if 14 < (y118.length : Int) then (tuskref02_block.j1 k1 l0 l1 l2 x13_1 (y122.set (14 : Int).toNat (Go.bits .xor .u32 (rd y122 14) 4294967295))) else (none)) else (tuskref02_block.j1 k1 l0 l1 l2 x13_1 y122))) else (none))) else (none)) = some r := H
            have A22 := Aside0.mk A220
            clear A220
            by_cases c23 : y112.length + t115.length < 35184372088832
            · rw [if_pos c23] at H
              have LMc23 := Aside0.mk c23
              clear c23
              obtain ⟨y118, hy118⟩ : ∃ y_ : List Int, y_ = (y112 ++ t115) := ⟨_, rfl⟩
              replace H : (if 12 < (y118.length : Int) then ((some (y118.set (12 : Int).toNat (Go.bits .xor .u32 (rd y118 12) ((a4) % 4294967296)) : List Int)).bind fun y122 => (if a5 = true then (if 14 < (y118.length : Int) then (tuskref02_block.j1 k1 l0 l1 l2 x13_1 (y122.set (14 : Int).toNat (Go.bits .xor .u32 (rd y122 14) 4294967295))) else (none)) else (tuskref02_block.j1 k1 l0 l1 l2 x13_1 y122))) else (none)) = some r := by first | (rw [hy118]; with_reducible exact H) | (have H2_ := (Option.bind_some _ _).symm.trans H; rw [hy118]; with_reducible exact H2_) | (have H2_ := (Option.bind_some _ _).symm.trans H; with_reducible exact H2_) | with_reducible exact H | (rw [hy118]; exact H) | exact H
              have Ny118 := Aside0.mk hy118
              clear hy118
              by_cases c24 : 12 < (y118.length : Int)
              · rw [if_pos c24] at H
                have c24b0 : decide (12 < (y118.length : Int)) = true := decide_eq_true c24
                have c24b1 : decide (12 < y118.length) = true := decide_eq_true (by omega)
                clear c24
                obtain ⟨y122, hy122⟩ : ∃ y_ : List Int, y_ = (y118.set (12 : Int).toNat (Go.bits .xor .u32 (rd y118 12) ((a4) % 4294967296))) := ⟨_, rfl⟩
                replace H : (if a5 = true then (if 14 < (y118.length : Int) then (tuskref02_block.j1 k1 l0 l1 l2 x13_1 (y122.set (14 : Int).toNat (Go.bits .xor .u32 (rd y122 14) 4294967295))) else (none)) else (tuskref02_block.j1 k1 l0 l1 l2 x13_1 y122)) = some r := by first | (rw [hy122]; with_reducible exact H) | (have H2_ := (Option.bind_some _ _).symm.trans H; rw [hy122]; with_reducible exact H2_) | (have H2_ := (Option.bind_some _ _).symm.trans H; with_reducible exact H2_) | with_reducible exact H | (rw [hy122]; exact H) | exact H
                have Ny122 := Aside0.mk hy122
                clear hy122
                have HC26 := Aside0.mk H
                clear H
                go_upto_if 58 with (first | ((with_reducible refine gate_dst (N := 45) rfl ?_); refine Kd.R_lit (Kd.int .u32) _ 29 ?hg (N := 45) ?hd (xs := ([] : List Int)) (inner := []) (ok := fun _ => True) (okp := fun _ => True) ?hr ?hp (fun _ hk => hk) trivial (Below.refl _ _) (Nat.le_refl _) (by simp) ?_; (case hd => rfl); (case hg => rfl); (case hr => first | (go_simp; done) | (go_simp; rfl)); (case hp => exact (Reps.none _ _)); intro v110 w27 ho28 hb hg_ hnew_; clear hg_ hnew_; (first | rw [← Ny109.out] at ho28 | (simp only [Int.reduceToNat] at ho28; rw [← Ny109.out] at ho28)); have n0_ := Aside0.mk (Kd.R_elder' (by (with_reducible repeat (first | apply Kd.R_alloc | apply Kd.R_drewN | apply Kd.R_drew)); exact HO_13.out) (Kd.R_base ho28) hb); have n1_ := Aside0.mk (Kd.R_lower (Kd.R_new' ho28 (Kd.R_lt (by (with_reducible repeat (first | apply Kd.R_alloc | apply Kd.R_drewN | apply Kd.R_drew)); exact HO_13.out))) (below_size (by repeat (first | (with_reducible first | exact HB.out | apply below_alloc | apply pw_below_drewN | apply below_drew1) | exact HB.out)))); have n2_ := Aside0.mk (below_step (by repeat (first | (with_reducible first | exact HB.out | apply below_alloc | apply pw_below_drewN | apply below_drew1) | exact HB.out)) hb); clear HO_13; clear HB; have HO_13 := n0_; have HO111 := n1_; have HB := n2_; clear n0_ n1_ n2_; clear hb ho28) | ((with_reducible refine gate_builtin (b := .append) (xs := #[.tmp 45, .tmp 46]) rfl ?_); at_builtin; refine Kd.R_append_rows (Kd.int .u32) (w0 := w) w.heap.size rfl (.tmp 45) (.tmp 46) 41 29 (.int .u32 0) 4 rfl Tryd.underlying41 info29 rfl (by decide) (by omega) v110 y109 l0 _ _ _ (fun k_ => some k_ ≠ (v105 : Value).ownBlock) (fun _ => False) rfl rfl ?aO ?aR (fun _ _ h => h) (fun _ h => h.elim) ?aF ?aB ?aS ?aL ?_; (case aR => repeat (first | exact (Kd.C_below HR0.out HB.out) | (with_reducible refine Kd.C_alloc ?_ _) | (with_reducible refine Kd.C_drewN ?_ _) | (with_reducible refine Kd.C_drew ?_))); (case aB => exact (by repeat (first | (with_reducible first | exact HB.out | apply below_alloc | apply pw_below_drewN | apply below_drew1) | exact HB.out))); (case aF => exact (fun k_ hk => Kd.fresh' (Kd.R_lt (by (with_reducible repeat (first | apply Kd.R_alloc | apply Kd.R_drewN | apply Kd.R_drew)); exact HO_13.out)) k_ hk)); (case aO => exact (by (with_reducible repeat (first | apply Kd.R_alloc | apply Kd.R_drewN | apply Kd.R_drew)); exact Kd.R_mono HO111.out (fun _ hk => hk.2))); (case aS => exact (below_size (by repeat (first | (with_reducible first | exact HB.out | apply below_alloc | apply pw_below_drewN | apply below_drew1) | exact HB.out)))); (case aL => have := LMc21.out; omega); intro v113 w29 ho hb hg hat; rw [← Ny112.out] at ho; have n0_ := Aside0.mk (Kd.R_after (ok := (fun _ => True)) (by (with_reducible repeat (first | apply Kd.R_alloc | apply Kd.R_drewN | apply Kd.R_drew)); exact HO_13.out) hg hat); have n1_ := Aside0.mk (hb); have n2_ := Aside0.mk (ho); clear HO_13; clear HB; clear HO111; have HO_13 := n0_; have HB := n1_; have HO114 := n2_; clear n0_ n1_ n2_; clear ho hb hg hat) | ((with_reducible refine gate_callee (f := 20) rfl ?_); refine goesL_ (some 48) rfl rfl Tryd.func20 (by kernel_rfl) rfl #[] rfl (by (try simp only [List.map_toArray, List.map_cons, List.map_nil]); first | done | rfl | (simp only [List.length_drop, List.length_take]; rfl)) ?_; (with_reducible refine (tuskref02_firsts.calls  t115 _ A22.out).mono ?_); rintro e w30 ⟨v116, rfl, ho0, hb⟩; refine ⟨_, rfl, ?_⟩; have n0_ := Aside0.mk (Kd.R_elder' (by (with_reducible repeat (first | apply Kd.R_alloc | apply Kd.R_drewN | apply Kd.R_drew)); exact HO_13.out) (Kd.R_base ho0) hb); have n1_ := Aside0.mk (Kd.R_elder' (by (with_reducible repeat (first | apply Kd.R_alloc | apply Kd.R_drewN | apply Kd.R_drew)); exact HO114.out) (Kd.R_base ho0) hb); have n2_ := Aside0.mk (Kd.R_lower (Kd.R_new' (Kd.R_new' ho0 (Kd.R_lt (by (with_reducible repeat (first | apply Kd.R_alloc | apply Kd.R_drewN | apply Kd.R_drew)); exact HO_13.out))) (Kd.R_lt (by (with_reducible repeat (first | apply Kd.R_alloc | apply Kd.R_drewN | apply Kd.R_drew)); exact HO114.out))) (below_size (by repeat (first | (with_reducible first | exact HB.out | apply below_alloc | apply pw_below_drewN | apply below_drew1) | exact HB.out)))); have n3_ := Aside0.mk (below_step (by repeat (first | (with_reducible first | exact HB.out | apply below_alloc | apply pw_below_drewN | apply below_drew1) | exact HB.out)) hb); clear HO_13; clear HO114; clear HB; have HO_13 := n0_; have HO114 := n1_; have HO117 := n2_; have HB := n3_; clear n0_ n1_ n2_ n3_; (try clear hb); (try clear hb2); (try clear hk); (try clear hi); (try clear ho0); obtain ⟨Ao32, co32, eo32⟩ := Kd.R_slice HO117.out; subst eo32) | ((with_reducible refine gate_builtin (b := .append) (xs := #[.tmp 47, .tmp 48]) rfl ?_); at_builtin; refine Kd.R_append_rows (Kd.int .u32) (w0 := w) w.heap.size rfl (.tmp 47) (.tmp 48) 41 29 (.int .u32 0) 4 rfl Tryd.underlying41 info29 rfl (by decide) (by omega) v113 y112 t115 _ _ _ (fun k_ => some k_ ≠ (v105 : Value).ownBlock ∧ some k_ ≠ (.slice Ao32 t115.length co32 : Value).ownBlock) (fun _ => False) rfl rfl ?aO ?aR (fun _ _ h => h) (fun _ h => h.elim) ?aF ?aB ?aS ?aL ?_; (case aR => repeat (first | exact (Kd.R_reads' HO117.out).2.2 | (with_reducible refine Kd.C_alloc ?_ _) | (with_reducible refine Kd.C_drewN ?_ _) | (with_reducible refine Kd.C_drew ?_))); (case aB => exact (by repeat (first | (with_reducible first | exact HB.out | apply below_alloc | apply pw_below_drewN | apply below_drew1) | exact HB.out))); (case aF => exact (fun k_ hk => ⟨Kd.fresh' (Kd.R_lt (by (with_reducible repeat (first | apply Kd.R_alloc | apply Kd.R_drewN | apply Kd.R_drew)); exact HO_13.out)) k_ hk, Kd.fresh' (Kd.R_lt (by (with_reducible repeat (first | apply Kd.R_alloc | apply Kd.R_drewN | apply Kd.R_drew)); exact HO117.out)) k_ hk⟩)); (case aO => exact (by (with_reducible repeat (first | apply Kd.R_alloc | apply Kd.R_drewN | apply Kd.R_drew)); exact HO114.out)); (case aS => exact (below_size (by repeat (first | (with_reducible first | exact HB.out | apply below_alloc | apply pw_below_drewN | apply below_drew1) | exact HB.out)))); (case aL => have := LMc23.out; omega); intro v119 w31 ho hb hg hat; rw [← Ny118.out] at ho; have n0_ := Aside0.mk (Kd.R_after (ok := (fun k_ => some k_ ≠ (.slice Ao32 t115.length co32 : Value).ownBlock)) (by (with_reducible repeat (first | apply Kd.R_alloc | apply Kd.R_drewN | apply Kd.R_drew)); exact Kd.R_mono HO_13.out (fun _ hk => ⟨hk.2, hk.1.2⟩)) hg hat); have n1_ := Aside0.mk (Kd.R_after (ok := (fun k_ => some k_ ≠ (v105 : Value).ownBlock)) (by (with_reducible repeat (first | apply Kd.R_alloc | apply Kd.R_drewN | apply Kd.R_drew)); exact Kd.R_mono HO117.out (fun _ hk => ⟨hk.1.2, hk.2⟩)) hg hat); have n2_ := Aside0.mk (hb); have n3_ := Aside0.mk (ho); clear HO_13; clear HO117; clear HB; clear HO114; have HO_13 := n0_; have HO117 := n1_; have HB := n2_; have HO120 := n3_; clear n0_ n1_ n2_ n3_; clear ho hb hg hat; obtain ⟨Ao33, co33, eo33⟩ := Kd.R_slice HO120.out; subst eo33; have p121 : 0 ≤ (12 : Int) := (by omega); have q121 : 12 < (y118.length : Int) := of_decide_eq_true (by first | (with_reducible assumption) | assumption); obtain ⟨ad121, e121, hx121_0⟩ := Kd.at_int (Kd.R_reads' HO120.out).2.2 12 p121 q121; cases e121; (try simp only [show (12 : Int).toNat = 12 from rfl, Nat.reduceMul, Nat.reduceEqDiff, Go.Addr.add, ↓reduceIte] at hx121_0); have qi121 : (12 < y118.length) = True := eq_true (by omega); (try rw [show ((12 : Int)).toNat = 12 from rfl] at hx121_0); replace p121 := eq_true p121; replace q121 := eq_true q121; have p25 : 0 ≤ (12 : Int) := (by omega); have q25 : (12 : Int) < ((y118.length : Int) : Int) := of_decide_eq_true (by first | (with_reducible assumption) | assumption); have qi25 : (12 < y118.length) = True := eq_true (by omega); obtain ⟨go25, co25, eo25, gb25, gl25, cl25, HG25⟩ := Kd.R_form HO120.out (by omega); (first | cases eo25 | (injection eo25 with ea_ en_ ec_; (first | subst ea_ | (injection ea_ with ea_; subst ea_)); subst ec_; clear en_)); have GB25 := Aside0.mk gb25; have GG25 := Aside0.mk HG25; clear gb25 gl25 HG25; (first | simp only [add_plain] at hx121_0 | skip); obtain ⟨hx25_0, hf25_0⟩ := Kd.R_celln 0 HO120.out (12 : Int) p25 q25; (try rw [show ((12 : Int)).toNat = 12 from rfl] at hx25_0); (try simp only [Nat.reduceMul, Nat.zero_mul, Nat.zero_add, Nat.reduceAdd] at hx25_0); (try rw [show ((12 : Int)).toNat = 12 from rfl] at hf25_0); (try simp only [Nat.reduceMul, Nat.zero_mul, Nat.zero_add, Nat.reduceAdd] at hf25_0); replace p25 := eq_true p25; replace q25 := eq_true q25; obtain ⟨hy34_, hz34_⟩ := Kd.R_celln 0 HO120.out (12 : Int) (by omega) (of_decide_eq_true (by first | (with_reducible assumption) | assumption)); (try simp only [Int.reduceToNat, Int.toNat_zero, Int.toNat_ofNat, Nat.reduceMul, Nat.zero_mul, Nat.zero_add] at hy34_ hz34_); (try rw [show ((12 : Int)).toNat = 12 from rfl] at hy34_); (try rw [show ((12 : Int)).toNat = 12 from rfl] at hz34_); have HP34 := Kd.R_putg HO120.out (12 : Int) (Go.bits .xor .u32 (rd y118 12) ((a4) % 4294967296))) | ((with_reducible refine gate_store (t := 29) (p := 57) rfl ?_); refine store_event (t := 29) (p := 57) (v := ?vo_w35) (w1 := (w31.setCell ⟨go25, (12 : Int).toNat, none⟩ (.int .u32 (Go.bits .xor .u32 (rd y118 12) ((a4) % 4294967296))))) ?hg ?ho ?hn ?hr ?_; (case ho => rfl); (case hg => rfl); (case hn => rfl); (case hr => first | (go_simp; done) | (go_simp; rfl)); intro w35 hw; have hg : w31.grownBy w35 (some go25) := (by rw [hw]; exact HP34.2); have hp_ : Kd.R (Kd.int .u32) 29 w35 w.heap.size (fun k_ => some k_ ≠ (v105 : Value).ownBlock ∧ some k_ ≠ (.slice Ao32 t115.length co32 : Value).ownBlock) (.slice (some ⟨go25, 0, none⟩) y118.length co33) y122 := (by rw [hw, Ny122.out]; exact HP34.1); clear HP34; have n0_ := Aside0.mk (Kd.R_after (v := (.slice (some ⟨go25, 0, none⟩) y118.length co33)) (v1 := (.slice (some ⟨go25, 0, none⟩) y118.length co33)) (ok := (fun k_ => some k_ ≠ (.slice Ao32 t115.length co32 : Value).ownBlock)) (by (with_reducible repeat (first | apply Kd.R_alloc | apply Kd.R_drewN | apply Kd.R_drew)); exact HO_13.out) hg (.inl rfl)); have n1_ := Aside0.mk (Kd.R_after (v := (.slice (some ⟨go25, 0, none⟩) y118.length co33)) (v1 := (.slice (some ⟨go25, 0, none⟩) y118.length co33)) (ok := (fun k_ => some k_ ≠ (v105 : Value).ownBlock)) (by (with_reducible repeat (first | apply Kd.R_alloc | apply Kd.R_drewN | apply Kd.R_drew)); exact HO117.out) hg (.inl rfl)); have n2_ := Aside0.mk (hp_); have n3_ := Aside0.mk ((by rw [hw]; exact below_set (HB.out) GB25.out : Below w.heap.size w w35)); clear HO_13; clear HO117; clear HO120; clear HB; have HO_13 := n0_; have HO117 := n1_; have HO120 := n2_; have HB := n3_; clear n0_ n1_ n2_ n3_; clear hg hw hp_))
                (try simp only [Act.put, List.setIfInBounds_toArray, List.set_cons_zero, List.set_cons_succ])
                go_cut [] (fun wc => ∃ (kq : Nat) (x15_25 : List Int), Aside0 (tuskref02_block.j1 kq l0 l1 l2 x13_1 x15_25 = some r) ∧ Aside0 (kq ≤ k1) ∧ Aside0 (Kd.R (Kd.int .u32) 29 wc w.heap.size (fun k_ => some k_ ≠ ((.slice (some ⟨go25, 0, none⟩) y118.length co33) : Value).ownBlock) v105 x13_1) ∧ Aside0 (Kd.R (Kd.int .u32) 29 wc w.heap.size (fun k_ => some k_ ≠ (v105 : Value).ownBlock) (.slice (some ⟨go25, 0, none⟩) y118.length co33) x15_25) ∧ Aside0 (Below w.heap.size w wc))
                case first =>
                  have H := HC26.out
                  clear HC26
                  by_cases c36 : a5 = true
                  · subst c36
                    have H1 : (if 14 < (y118.length : Int) then (tuskref02_block.j1 k1 l0 l1 l2 x13_1 (y122.set (14 : Int).toNat (Go.bits .xor .u32 (rd y122 14) 4294967295))) else (none)) = some r := by rw [if_pos rfl] at H; exact H
                    clear H
                    have H := H1
                    clear H1
                    by_cases c37 : 14 < (y118.length : Int)
                    · rw [if_pos c37] at H
                      have c37b0 : decide (14 < (y118.length : Int)) = true := decide_eq_true c37
                      have c37b1 : decide (14 < y118.length) = true := decide_eq_true (by omega)
                      clear c37
                      (first | rw [c37b0] | (simp only [i64_w, i32_w]; rw [c37b0]) | skip)
                      obtain ⟨y124, hy124⟩ : ∃ y_ : List Int, y_ = (y122.set (14 : Int).toNat (Go.bits .xor .u32 (rd y122 14) 4294967295)) := ⟨_, rfl⟩
                      replace H : (tuskref02_block.j1 k1 l0 l1 l2 x13_1 y124) = some r := by first | (rw [hy124]; with_reducible exact H) | (have H2_ := (Option.bind_some _ _).symm.trans H; rw [hy124]; with_reducible exact H2_) | (have H2_ := (Option.bind_some _ _).symm.trans H; with_reducible exact H2_) | with_reducible exact H | (rw [hy124]; exact H) | exact H
                      have Ny124 := Aside0.mk hy124
                      clear hy124
                      have H' := Aside0.mk H
                      clear H
                      have p123 : 0 ≤ (14 : Int) := (by omega)
                      have q123 : 14 < (y122.length : Int) := (by have h_ : (14 : Int) < ((y118.length : Int) : Int) := of_decide_eq_true (by first | (with_reducible assumption) | assumption); first | (have e_ := (Kd.R_reads' HO120.out).1; omega) | simpa only [Ny122.out, List.length_set] using h_)
                      have ql123 : ((14 : Int) < ((y118.length : Int) : Int)) = True := eq_true (of_decide_eq_true (by first | (with_reducible assumption) | assumption))
                      (try have qn123 : (14 < y118.length) = True := eq_true (by have h_ : (14 : Int) < ((y118.length : Int) : Int) := of_decide_eq_true (by first | (with_reducible assumption) | assumption); omega))
                      obtain ⟨ad123, e123, hx123_0⟩ := Kd.at_int (Kd.R_reads' HO120.out).2.2 14 p123 q123
                      obtain rfl : (⟨go25, 0, none⟩ : Addr) = ad123 := (by injection e123)
                      (first | simp only [add_plain] at hx123_0 | simp only [add_at] at hx123_0 | simp only [Addr.add, Nat.zero_add] at hx123_0 | skip)
                      have qi123 : (14 < y122.length) = True := eq_true (by omega)
                      (try rw [show ((14 : Int)).toNat = 14 from rfl] at hx123_0)
                      replace p123 := eq_true p123
                      replace q123 := eq_true q123
                      have p38 : 0 ≤ (14 : Int) := (by omega)
                      have q38 : (14 : Int) < ((y118.length : Int) : Int) := of_decide_eq_true (by first | (with_reducible assumption) | assumption)
                      have qi38 : (14 < y118.length) = True := eq_true (by omega)
                      obtain ⟨hx38_0, hf38_0⟩ := Kd.R_celln 0 HO120.out (14 : Int) p38 q38
                      (try rw [show ((14 : Int)).toNat = 14 from rfl] at hx38_0)
                      (try simp only [Nat.reduceMul, Nat.zero_mul, Nat.zero_add, Nat.reduceAdd] at hx38_0)
                      (try rw [show ((14 : Int)).toNat = 14 from rfl] at hf38_0)
                      (try simp only [Nat.reduceMul, Nat.zero_mul, Nat.zero_add, Nat.reduceAdd] at hf38_0)
                      replace p38 := eq_true p38
                      replace q38 := eq_true q38
                      have HP39 := Kd.R_putg HO120.out (14 : Int) (Go.bits .xor .u32 (rd y122 14) 4294967295)
                      go_wp2_with (first | ((with_reducible refine gate_store (t := 29) (p := 64) rfl ?_); refine store_event (t := 29) (p := 64) (v := ?vo_w40) (w1 := (w35.setCell ⟨go25, (14 : Int).toNat, none⟩ (.int .u32 (Go.bits .xor .u32 (rd y122 14) 4294967295)))) ?hg ?ho ?hn ?hr ?_; (case ho => rfl); (case hg => rfl); (case hn => rfl); (case hr => first | (go_simp; done) | (go_simp; rfl)); intro w40 hw; have hg : w35.grownBy w40 (some go25) := (by rw [hw]; exact HP39.2); have hp_ : Kd.R (Kd.int .u32) 29 w40 w.heap.size (fun k_ => some k_ ≠ (v105 : Value).ownBlock ∧ some k_ ≠ (.slice Ao32 t115.length co32 : Value).ownBlock) (.slice (some ⟨go25, 0, none⟩) y118.length co33) y124 := (by rw [hw, Ny124.out]; exact HP39.1); clear HP39; have n0_ := Aside0.mk (Kd.R_after (v := (.slice (some ⟨go25, 0, none⟩) y118.length co33)) (v1 := (.slice (some ⟨go25, 0, none⟩) y118.length co33)) (ok := (fun k_ => some k_ ≠ (.slice Ao32 t115.length co32 : Value).ownBlock)) (by (with_reducible repeat (first | apply Kd.R_alloc | apply Kd.R_drewN | apply Kd.R_drew)); exact HO_13.out) hg (.inl rfl)); have n1_ := Aside0.mk (Kd.R_after (v := (.slice (some ⟨go25, 0, none⟩) y118.length co33)) (v1 := (.slice (some ⟨go25, 0, none⟩) y118.length co33)) (ok := (fun k_ => some k_ ≠ (v105 : Value).ownBlock)) (by (with_reducible repeat (first | apply Kd.R_alloc | apply Kd.R_drewN | apply Kd.R_drew)); exact HO117.out) hg (.inl rfl)); have n2_ := Aside0.mk (hp_); have n3_ := Aside0.mk ((by rw [hw]; exact below_set (HB.out) GB25.out : Below w.heap.size w w40)); clear HO_13; clear HO117; clear HO120; clear HB; have HO_13 := n0_; have HO117 := n1_; have HO120 := n2_; have HB := n3_; clear n0_ n1_ n2_ n3_; clear hg hw hp_))
                      go_meet
                      case rel => exact ⟨_, (y124), H', ⟨by have := HK1.out; first | omega | exact Nat.le_refl _⟩, ⟨by (with_reducible repeat (first | apply Kd.R_alloc | apply Kd.R_drewN | apply Kd.R_drew)); exact Kd.R_mono HO_13.out (fun _ hk => hk.2)⟩, ⟨by (with_reducible repeat (first | apply Kd.R_alloc | apply Kd.R_drewN | apply Kd.R_drew)); exact Kd.R_mono HO120.out (fun _ hk => hk.1)⟩, ⟨by repeat (first | (with_reducible first | exact HB.out | apply below_alloc | apply pw_below_drewN | apply below_drew1) | exact HB.out)⟩⟩
                    · rw [if_neg c37] at H
                      exact absurd H (by simp)
                  · replace c36 := Bool.eq_false_iff.mpr c36
                    subst c36
                    have H1 : (tuskref02_block.j1 k1 l0 l1 l2 x13_1 y122) = some r := by rw [if_neg (show ¬ (false = true) by decide)] at H; exact H
                    clear H
                    have H := H1
                    clear H1
                    have H' := Aside0.mk H
                    clear H
                    go_wp2
                    go_meet
                    case rel => exact ⟨_, (y122), H', ⟨by have := HK1.out; first | omega | exact Nat.le_refl _⟩, ⟨by (with_reducible repeat (first | apply Kd.R_alloc | apply Kd.R_drewN | apply Kd.R_drew)); exact Kd.R_mono HO_13.out (fun _ hk => hk.2)⟩, ⟨by (with_reducible repeat (first | apply Kd.R_alloc | apply Kd.R_drewN | apply Kd.R_drew)); exact Kd.R_mono HO120.out (fun _ hk => hk.1)⟩, ⟨by repeat (first | (with_reducible first | exact HB.out | apply below_alloc | apply pw_below_drewN | apply below_drew1) | exact HB.out)⟩⟩
                case rest =>
                  clear HC26
                  try clear c1
                  try clear p1
                  try clear q1
                  try clear hx1
                  try clear qi1
                  try clear c2
                  try clear p2
                  try clear q2
                  try clear hx2
                  try clear qi2
                  try clear c3
                  try clear p3
                  try clear q3
                  try clear hx3
                  try clear qi3
                  try clear p6
                  try clear c7
                  try clear c7b0
                  try clear c7b1
                  try clear c10
                  try clear c10b0
                  try clear c12
                  try clear c12b0
                  try clear c12b1
                  try clear p12
                  try clear q12
                  try clear hx12
                  try clear qi12
                  try clear c13
                  try clear c13b0
                  try clear c13b1
                  try clear c14
                  try clear c14b0
                  try clear c14b1
                  try clear c16
                  try clear c16b0
                  try clear c17
                  try clear c17b0
                  try clear p18
                  try clear q18
                  try clear hx18
                  try clear hf18
                  try clear c20
                  try clear c21
                  try clear c23
                  try clear c24
                  try clear c24b0
                  try clear c24b1
                  try clear p25
                  try clear q25
                  try clear hx25
                  try clear qi25
                  try clear hf25
                  try clear c27
                  try clear c36
                  try clear c37
                  try clear c37b0
                  try clear c37b1
                  try clear p38
                  try clear q38
                  try clear hx38
                  try clear qi38
                  try clear hf38
                  try clear hx121_0
                  try clear hx123_0
                  try clear hx18_0
                  try clear hx25_0
                  try clear hx38_0
                  try clear p121
                  try clear p123
                  try clear p18
                  try clear p2
                  try clear p25
                  try clear p38
                  try clear q121
                  try clear q123
                  try clear q18
                  try clear q25
                  try clear q38
                  obtain ⟨kq, x15_25, HA, HJ25, HO_13, HO_15, HB⟩ := hcut
                  have hl15_25 := (Kd.R_reads' HO_15.out).1
                  rw [hl15_25] at HO_15
                  (try simp only [hl15_25])
                  (try simp only [hl15_25] at HO_13)
                  cases kq with
                  | zero => exact absurd HA.out (by simp [tuskref02_block.j1])
                  | succ kj25 =>
                    have H := HA.out
                    clear HA
                    simp only [tuskref02_block.j1] at H
                    have H' := Aside0.mk H
                    clear H
                    go_wp2
                    go_loopg [16] kj25 (fun kq v16 w' => ∃ (x15_3 : List Int) (x16_3 : Int), v16 = .int .i64 x16_3 ∧ Aside0 (tuskref02_block.l1 kq l0 l1 l2 x13_1 x15_3 x16_3 = some r) ∧ Aside0 (kq ≤ kj25) ∧ Aside0 (Kd.R (Kd.int .u32) 29 w' w.heap.size (fun k_ => some k_ ≠ ((.slice (some ⟨go25, 0, none⟩) x15_25.length co33) : Value).ownBlock) v105 x13_1) ∧ Aside0 (Kd.R (Kd.int .u32) 29 w' w.heap.size (fun k_ => some k_ ≠ (v105 : Value).ownBlock) (.slice (some ⟨go25, 0, none⟩) x15_25.length co33) x15_3) ∧ Aside0 (Below w.heap.size w w'))
                    case atStart => exact ⟨(x15_25), (0), (by first | rfl | (simp; done) | (simp [*]; done)), H', ⟨Nat.le_refl _⟩, ⟨by (try simp only [hl15_25]); (with_reducible repeat (first | apply Kd.R_alloc | apply Kd.R_drewN | apply Kd.R_drew)); exact HO_13.out⟩, ⟨by (try simp only [hl15_25]); (with_reducible repeat (first | apply Kd.R_alloc | apply Kd.R_drewN | apply Kd.R_drew)); exact HO_15.out⟩, ⟨by repeat (first | (with_reducible first | exact HB.out | apply below_alloc | apply pw_below_drewN | apply below_drew1) | exact HB.out)⟩⟩
                    case round =>
                      clear H'
                      try clear c1
                      try clear p1
                      try clear q1
                      try clear hx1
                      try clear qi1
                      try clear c2
                      try clear p2
                      try clear q2
                      try clear hx2
                      try clear qi2
                      try clear c3
                      try clear p3
                      try clear q3
                      try clear hx3
                      try clear qi3
                      try clear p6
                      try clear c7
                      try clear c7b0
                      try clear c7b1
                      try clear c10
                      try clear c10b0
                      try clear c12
                      try clear c12b0
                      try clear c12b1
                      try clear p12
                      try clear q12
                      try clear hx12
                      try clear qi12
                      try clear c13
                      try clear c13b0
                      try clear c13b1
                      try clear c14
                      try clear c14b0
                      try clear c14b1
                      try clear c16
                      try clear c16b0
                      try clear c17
                      try clear c17b0
                      try clear p18
                      try clear q18
                      try clear hx18
                      try clear hf18
                      try clear c20
                      try clear c21
                      try clear c23
                      try clear c24
                      try clear c24b0
                      try clear c24b1
                      try clear p25
                      try clear q25
                      try clear hx25
                      try clear qi25
                      try clear hf25
                      try clear c27
                      try clear c36
                      try clear c37
                      try clear c37b0
                      try clear c37b1
                      try clear p38
                      try clear q38
                      try clear hx38
                      try clear qi38
                      try clear hf38
                      try clear hx121_0
                      try clear hx123_0
                      try clear hx18_0
                      try clear hx25_0
                      try clear hx38_0
                      try clear p1
                      try clear p12
                      try clear p121
                      try clear p123
                      try clear p18
                      try clear p2
                      try clear p25
                      try clear p3
                      try clear p38
                      try clear p6
                      try clear q1
                      try clear q12
                      try clear q121
                      try clear q123
                      try clear q18
                      try clear q2
                      try clear q25
                      try clear q3
                      try clear q38
                      obtain ⟨x15_3, x16_3, rfl, HA, HK3, HO_13, HO_15, HB⟩ := hrel
                      have hl15_3 := (Kd.R_reads' HO_15.out).1
                      rw [hl15_3] at HO_15
                      (try simp only [hl15_3])
                      (try simp only [hl15_3] at HO_13)
                      cases gk with
                      | zero => exact absurd HA.out (by simp [tuskref02_block.l1])
                      | succ k3 =>
                        have H := HA.out
                        clear HA
                        simp only [tuskref02_block.l1] at H
                        by_cases c41 : x16_3 < 10
                        · rw [if_pos c41] at H
                          have c41b0 : decide (x16_3 < 10) = true := decide_eq_true c41
                          clear c41
                          by_cases c42 : 0 ≤ x16_3
                          · rw [if_pos c42] at H
                            have c42b0 : decide (0 ≤ x16_3) = true := decide_eq_true c42
                            clear c42
                            by_cases c43 : x16_3 < (l1.length : Int)
                            · rw [if_pos c43] at H
                              have c43b0 : decide (x16_3 < (l1.length : Int)) = true := decide_eq_true c43
                              clear c43
                              have H' := Aside0.mk H
                              clear H
                              have p125 : 0 ≤ (x16_3 : Int) := of_decide_eq_true (by first | (with_reducible assumption) | assumption)
                              have q125 : x16_3 < (l1.length : Int) := of_decide_eq_true (by first | (with_reducible assumption) | assumption)
                              obtain ⟨ad125, A125_0, c125_0, e125, hx125_0, hl125_0, hi125_0⟩ := at_L5 HR1.out x16_3 p125 q125
                              cases e125
                              replace hx125_0 := (HB.out.cell (World.block_lt_of_cell? w _ hx125_0)).trans hx125_0
                              have HR125_0 := Aside0.mk hi125_0
                              have HC125_0 := Aside0.mk hl125_0
                              clear hi125_0 hl125_0
                              replace p125 := eq_true p125
                              replace q125 := eq_true q125
                              go_wp2
                              go_loopg [18] k3 (fun kq v18 w' => ∃ (x15_4 : List Int) (x18_4 : Int), v18 = .int .i64 x18_4 ∧ Aside0 (tuskref02_block.l2 kq l0 l1 l2 x13_1 x15_4 x16_3 (rd_L5 l1 x16_3) x18_4 = some r) ∧ Aside0 (kq ≤ k3) ∧ Aside0 (Kd.R (Kd.int .u32) 29 w' w.heap.size (fun k_ => some k_ ≠ ((.slice (some ⟨go25, 0, none⟩) x15_3.length co33) : Value).ownBlock) v105 x13_1) ∧ Aside0 (Kd.R (Kd.int .u32) 29 w' w.heap.size (fun k_ => some k_ ≠ (v105 : Value).ownBlock) (.slice (some ⟨go25, 0, none⟩) x15_3.length co33) x15_4) ∧ Aside0 (Below w.heap.size w w'))
                              case atStart => exact ⟨(x15_3), (0), (by first | rfl | (simp; done) | (simp [*]; done)), H', ⟨Nat.le_refl _⟩, ⟨by (try simp only [hl15_25]); (try simp only [hl15_3]); (with_reducible repeat (first | apply Kd.R_alloc | apply Kd.R_drewN | apply Kd.R_drew)); exact HO_13.out⟩, ⟨by (try simp only [hl15_25]); (try simp only [hl15_3]); (with_reducible repeat (first | apply Kd.R_alloc | apply Kd.R_drewN | apply Kd.R_drew)); exact HO_15.out⟩, ⟨by repeat (first | (with_reducible first | exact HB.out | apply below_alloc | apply pw_below_drewN | apply below_drew1) | exact HB.out)⟩⟩
                              case round =>
                                clear H'
                                try clear c1
                                try clear p1
                                try clear q1
                                try clear hx1
                                try clear qi1
                                try clear c2
                                try clear p2
                                try clear q2
                                try clear hx2
                                try clear qi2
                                try clear c3
                                try clear p3
                                try clear q3
                                try clear hx3
                                try clear qi3
                                try clear c4
                                try clear p6
                                try clear c7
                                try clear c7b0
                                try clear c7b1
                                try clear c10
                                try clear c10b0
                                try clear c12
                                try clear c12b0
                                try clear c12b1
                                try clear p12
                                try clear q12
                                try clear hx12
                                try clear qi12
                                try clear c13
                                try clear c13b0
                                try clear c13b1
                                try clear c14
                                try clear c14b0
                                try clear c14b1
                                try clear c16
                                try clear c16b0
                                try clear c17
                                try clear c17b0
                                try clear p18
                                try clear q18
                                try clear hx18
                                try clear hf18
                                try clear c20
                                try clear c21
                                try clear c23
                                try clear c24
                                try clear c24b0
                                try clear c24b1
                                try clear p25
                                try clear q25
                                try clear hx25
                                try clear qi25
                                try clear hf25
                                try clear c27
                                try clear c36
                                try clear c37
                                try clear c37b0
                                try clear c37b1
                                try clear p38
                                try clear q38
                                try clear hx38
                                try clear qi38
                                try clear hf38
                                try clear c41
                                try clear c41b0
                                try clear c42
                                try clear c42b0
                                try clear c43
                                try clear c43b0
                                try clear hx121_0
                                try clear hx123_0
                                try clear hx125_0
                                try clear hx18_0
                                try clear hx25_0
                                try clear hx38_0
                                try clear p1
                                try clear p12
                                try clear p121
                                try clear p123
                                try clear p125
                                try clear p18
                                try clear p2
                                try clear p25
                                try clear p3
                                try clear p38
                                try clear p6
                                try clear q1
                                try clear q12
                                try clear q121
                                try clear q123
                                try clear q125
                                try clear q18
                                try clear q2
                                try clear q25
                                try clear q3
                                try clear q38
                                obtain ⟨x15_4, x18_4, rfl, HA, HK4, HO_13, HO_15, HB⟩ := hrel
                                have hl15_4 := (Kd.R_reads' HO_15.out).1
                                rw [hl15_4] at HO_15
                                (try simp only [hl15_4])
                                (try simp only [hl15_4] at HO_13)
                                cases gk with
                                | zero => exact absurd HA.out (by simp [tuskref02_block.l2])
                                | succ k4 =>
                                  have H := HA.out
                                  clear HA
                                  simp only [tuskref02_block.l2] at H
                                  by_cases c44 : x18_4 < 8
                                  · rw [if_pos c44] at H
                                    have c44b0 : decide (x18_4 < 8) = true := decide_eq_true c44
                                    clear c44
                                    obtain ⟨ji45, hji45⟩ : ∃ j_ : Int, (wrap64 (4 * x18_4)) = j_ := ⟨_, rfl⟩
                                    replace H : (if 0 ≤ (ji45) then (if (ji45) < (l2.length : Int) then (if 0 ≤ (wrap64 ((ji45) + 1)) then (if (wrap64 ((ji45) + 1)) < (l2.length : Int) then (if 0 ≤ (wrap64 ((ji45) + 2)) then (if (wrap64 ((ji45) + 2)) < (l2.length : Int) then (if 0 ≤ (wrap64 ((ji45) + 3)) then (if (wrap64 ((ji45) + 3)) < (l2.length : Int) then (if 0 ≤ (rd l2 (ji45)) then (if (rd l2 (ji45)) < (x15_4.length : Int) then (if 0 ≤ (rd l2 (wrap64 ((ji45) + 1))) then (if (rd l2 (wrap64 ((ji45) + 1))) < (x15_4.length : Int) then (if 0 ≤ (rd l2 (wrap64 ((ji45) + 2))) then (if (rd l2 (wrap64 ((ji45) + 2))) < (x15_4.length : Int) then (if 0 ≤ (rd l2 (wrap64 ((ji45) + 3))) then (if (rd l2 (wrap64 ((ji45) + 3))) < (x15_4.length : Int) then (if 0 ≤ (wrap64 (2 * x18_4)) then (if (wrap64 (2 * x18_4)) < ((rd_L5 l1 x16_3).length : Int) then (if 0 ≤ (rd (rd_L5 l1 x16_3) (wrap64 (2 * x18_4))) then (if (rd (rd_L5 l1 x16_3) (wrap64 (2 * x18_4))) < (x13_1.length : Int) then (if 0 ≤ (wrap64 ((wrap64 (2 * x18_4)) + 1)) then (if (wrap64 ((wrap64 (2 * x18_4)) + 1)) < ((rd_L5 l1 x16_3).length : Int) then (if 0 ≤ (rd (rd_L5 l1 x16_3) (wrap64 ((wrap64 (2 * x18_4)) + 1))) then (if (rd (rd_L5 l1 x16_3) (wrap64 ((wrap64 (2 * x18_4)) + 1))) < (x13_1.length : Int) then ((tuskref02_mixed.f (rd x15_4 (rd l2 (ji45))) (rd x15_4 (rd l2 (wrap64 ((ji45) + 1)))) (rd x15_4 (rd l2 (wrap64 ((ji45) + 2)))) (rd x15_4 (rd l2 (wrap64 ((ji45) + 3)))) (rd x13_1 (rd (rd_L5 l1 x16_3) (wrap64 (2 * x18_4)))) (rd x13_1 (rd (rd_L5 l1 x16_3) (wrap64 ((wrap64 (2 * x18_4)) + 1))))).bind fun bt138 => (tuskref02_block.l2 k4 l0 l1 l2 x13_1 ((((x15_4.set ((rd l2 (ji45)) : Int).toNat bt138.1).set ((rd l2 (wrap64 ((ji45) + 1))) : Int).toNat bt138.2.1).set ((rd l2 (wrap64 ((ji45) + 2))) : Int).toNat bt138.2.2.1).set ((rd l2 (wrap64 ((ji45) + 3))) : Int).toNat bt138.2.2.2) x16_3 (rd_L5 l1 x16_3) (wrap64 (x18_4 + 1)))) else (none)) else (none)) else (none)) else (none)) else (none)) else (none)) else (none)) else (none)) else (none)) else (none)) else (none)) else (none)) else (none)) else (none)) else (none)) else (none)) else (none)) else (none)) else (none)) else (none)) else (none)) else (none)) else (none)) else (none)) = some r := by first | (rw [hji45] at H; exact H) | (simp only [hji45] at H ⊢; exact H)
                                    have hji45w : (IntKind.i64.wrap (4 * x18_4)) = ji45 := (i64_w _).trans hji45
                                    by_cases c46 : 0 ≤ (ji45)
                                    · rw [if_pos c46] at H
                                      have c46b0 : decide (0 ≤ (ji45)) = true := decide_eq_true c46
                                      clear c46
                                      by_cases c47 : (ji45) < (l2.length : Int)
                                      · rw [if_pos c47] at H
                                        have c47b0 : decide ((ji45) < (l2.length : Int)) = true := decide_eq_true c47
                                        clear c47
                                        obtain ⟨ji48, hji48⟩ : ∃ j_ : Int, (wrap64 ((ji45) + 1)) = j_ := ⟨_, rfl⟩
                                        replace H : (if 0 ≤ (ji48) then (if (ji48) < (l2.length : Int) then (if 0 ≤ (wrap64 ((ji45) + 2)) then (if (wrap64 ((ji45) + 2)) < (l2.length : Int) then (if 0 ≤ (wrap64 ((ji45) + 3)) then (if (wrap64 ((ji45) + 3)) < (l2.length : Int) then (if 0 ≤ (rd l2 (ji45)) then (if (rd l2 (ji45)) < (x15_4.length : Int) then (if 0 ≤ (rd l2 (ji48)) then (if (rd l2 (ji48)) < (x15_4.length : Int) then (if 0 ≤ (rd l2 (wrap64 ((ji45) + 2))) then (if (rd l2 (wrap64 ((ji45) + 2))) < (x15_4.length : Int) then (if 0 ≤ (rd l2 (wrap64 ((ji45) + 3))) then (if (rd l2 (wrap64 ((ji45) + 3))) < (x15_4.length : Int) then (if 0 ≤ (wrap64 (2 * x18_4)) then (if (wrap64 (2 * x18_4)) < ((rd_L5 l1 x16_3).length : Int) then (if 0 ≤ (rd (rd_L5 l1 x16_3) (wrap64 (2 * x18_4))) then (if (rd (rd_L5 l1 x16_3) (wrap64 (2 * x18_4))) < (x13_1.length : Int) then (if 0 ≤ (wrap64 ((wrap64 (2 * x18_4)) + 1)) then (if (wrap64 ((wrap64 (2 * x18_4)) + 1)) < ((rd_L5 l1 x16_3).length : Int) then (if 0 ≤ (rd (rd_L5 l1 x16_3) (wrap64 ((wrap64 (2 * x18_4)) + 1))) then (if (rd (rd_L5 l1 x16_3) (wrap64 ((wrap64 (2 * x18_4)) + 1))) < (x13_1.length : Int) then ((tuskref02_mixed.f (rd x15_4 (rd l2 (ji45))) (rd x15_4 (rd l2 (ji48))) (rd x15_4 (rd l2 (wrap64 ((ji45) + 2)))) (rd x15_4 (rd l2 (wrap64 ((ji45) + 3)))) (rd x13_1 (rd (rd_L5 l1 x16_3) (wrap64 (2 * x18_4)))) (rd x13_1 (rd (rd_L5 l1 x16_3) (wrap64 ((wrap64 (2 * x18_4)) + 1))))).bind fun bt138 => (tuskref02_block.l2 k4 l0 l1 l2 x13_1 ((((x15_4.set ((rd l2 (ji45)) : Int).toNat bt138.1).set ((rd l2 (ji48)) : Int).toNat bt138.2.1).set ((rd l2 (wrap64 ((ji45) + 2))) : Int).toNat bt138.2.2.1).set ((rd l2 (wrap64 ((ji45) + 3))) : Int).toNat bt138.2.2.2) x16_3 (rd_L5 l1 x16_3) (wrap64 (x18_4 + 1)))) else (none)) else (none)) else (none)) else (none)) else (none)) else (none)) else (none)) else (none)) else (none)) else (none)) else (none)) else (none)) else (none)) else (none)) else (none)) else (none)) else (none)) else (none)) else (none)) else (none)) else (none)) else (none)) = some r := by first | (rw [hji48] at H; exact H) | (simp only [hji48] at H ⊢; exact H)
                                        have hji48w : (IntKind.i64.wrap ((ji45) + 1)) = ji48 := (i64_w _).trans hji48
                                        by_cases c49 : 0 ≤ (ji48)
                                        · rw [if_pos c49] at H
                                          have c49b0 : decide (0 ≤ (ji48)) = true := decide_eq_true c49
                                          clear c49
                                          by_cases c50 : (ji48) < (l2.length : Int)
                                          · rw [if_pos c50] at H
                                            have c50b0 : decide ((ji48) < (l2.length : Int)) = true := decide_eq_true c50
                                            clear c50
                                            obtain ⟨ji51, hji51⟩ : ∃ j_ : Int, (wrap64 ((ji45) + 2)) = j_ := ⟨_, rfl⟩
                                            replace H : (if 0 ≤ (ji51) then (if (ji51) < (l2.length : Int) then (if 0 ≤ (wrap64 ((ji45) + 3)) then (if (wrap64 ((ji45) + 3)) < (l2.length : Int) then (if 0 ≤ (rd l2 (ji45)) then (if (rd l2 (ji45)) < (x15_4.length : Int) then (if 0 ≤ (rd l2 (ji48)) then (if (rd l2 (ji48)) < (x15_4.length : Int) then (if 0 ≤ (rd l2 (ji51)) then (if (rd l2 (ji51)) < (x15_4.length : Int) then (if 0 ≤ (rd l2 (wrap64 ((ji45) + 3))) then (if (rd l2 (wrap64 ((ji45) + 3))) < (x15_4.length : Int) then (if 0 ≤ (wrap64 (2 * x18_4)) then (if (wrap64 (2 * x18_4)) < ((rd_L5 l1 x16_3).length : Int) then (if 0 ≤ (rd (rd_L5 l1 x16_3) (wrap64 (2 * x18_4))) then (if (rd (rd_L5 l1 x16_3) (wrap64 (2 * x18_4))) < (x13_1.length : Int) then (if 0 ≤ (wrap64 ((wrap64 (2 * x18_4)) + 1)) then (if (wrap64 ((wrap64 (2 * x18_4)) + 1)) < ((rd_L5 l1 x16_3).length : Int) then (if 0 ≤ (rd (rd_L5 l1 x16_3) (wrap64 ((wrap64 (2 * x18_4)) + 1))) then (if (rd (rd_L5 l1 x16_3) (wrap64 ((wrap64 (2 * x18_4)) + 1))) < (x13_1.length : Int) then ((tuskref02_mixed.f (rd x15_4 (rd l2 (ji45))) (rd x15_4 (rd l2 (ji48))) (rd x15_4 (rd l2 (ji51))) (rd x15_4 (rd l2 (wrap64 ((ji45) + 3)))) (rd x13_1 (rd (rd_L5 l1 x16_3) (wrap64 (2 * x18_4)))) (rd x13_1 (rd (rd_L5 l1 x16_3) (wrap64 ((wrap64 (2 * x18_4)) + 1))))).bind fun bt138 => (tuskref02_block.l2 k4 l0 l1 l2 x13_1 ((((x15_4.set ((rd l2 (ji45)) : Int).toNat bt138.1).set ((rd l2 (ji48)) : Int).toNat bt138.2.1).set ((rd l2 (ji51)) : Int).toNat bt138.2.2.1).set ((rd l2 (wrap64 ((ji45) + 3))) : Int).toNat bt138.2.2.2) x16_3 (rd_L5 l1 x16_3) (wrap64 (x18_4 + 1)))) else (none)) else (none)) else (none)) else (none)) else (none)) else (none)) else (none)) else (none)) else (none)) else (none)) else (none)) else (none)) else (none)) else (none)) else (none)) else (none)) else (none)) else (none)) else (none)) else (none)) = some r := by first | (rw [hji51] at H; exact H) | (simp only [hji51] at H ⊢; exact H)
                                            have hji51w : (IntKind.i64.wrap ((ji45) + 2)) = ji51 := (i64_w _).trans hji51
                                            by_cases c52 : 0 ≤ (ji51)
                                            · rw [if_pos c52] at H
                                              have c52b0 : decide (0 ≤ (ji51)) = true := decide_eq_true c52
                                              clear c52
                                              by_cases c53 : (ji51) < (l2.length : Int)
                                              · rw [if_pos c53] at H
                                                have c53b0 : decide ((ji51) < (l2.length : Int)) = true := decide_eq_true c53
                                                clear c53
                                                obtain ⟨ji54, hji54⟩ : ∃ j_ : Int, (wrap64 ((ji45) + 3)) = j_ := ⟨_, rfl⟩
                                                replace H : (if 0 ≤ (ji54) then (if (ji54) < (l2.length : Int) then (if 0 ≤ (rd l2 (ji45)) then (if (rd l2 (ji45)) < (x15_4.length : Int) then (if 0 ≤ (rd l2 (ji48)) then (if (rd l2 (ji48)) < (x15_4.length : Int) then (if 0 ≤ (rd l2 (ji51)) then (if (rd l2 (ji51)) < (x15_4.length : Int) then (if 0 ≤ (rd l2 (ji54)) then (if (rd l2 (ji54)) < (x15_4.length : Int) then (if 0 ≤ (wrap64 (2 * x18_4)) then (if (wrap64 (2 * x18_4)) < ((rd_L5 l1 x16_3).length : Int) then (if 0 ≤ (rd (rd_L5 l1 x16_3) (wrap64 (2 * x18_4))) then (if (rd (rd_L5 l1 x16_3) (wrap64 (2 * x18_4))) < (x13_1.length : Int) then (if 0 ≤ (wrap64 ((wrap64 (2 * x18_4)) + 1)) then (if (wrap64 ((wrap64 (2 * x18_4)) + 1)) < ((rd_L5 l1 x16_3).length : Int) then (if 0 ≤ (rd (rd_L5 l1 x16_3) (wrap64 ((wrap64 (2 * x18_4)) + 1))) then (if (rd (rd_L5 l1 x16_3) (wrap64 ((wrap64 (2 * x18_4)) + 1))) < (x13_1.length : Int) then ((tuskref02_mixed.f (rd x15_4 (rd l2 (ji45))) (rd x15_4 (rd l2 (ji48))) (rd x15_4 (rd l2 (ji51))) (rd x15_4 (rd l2 (ji54))) (rd x13_1 (rd (rd_L5 l1 x16_3) (wrap64 (2 * x18_4)))) (rd x13_1 (rd (rd_L5 l1 x16_3) (wrap64 ((wrap64 (2 * x18_4)) + 1))))).bind fun bt138 => (tuskref02_block.l2 k4 l0 l1 l2 x13_1 ((((x15_4.set ((rd l2 (ji45)) : Int).toNat bt138.1).set ((rd l2 (ji48)) : Int).toNat bt138.2.1).set ((rd l2 (ji51)) : Int).toNat bt138.2.2.1).set ((rd l2 (ji54)) : Int).toNat bt138.2.2.2) x16_3 (rd_L5 l1 x16_3) (wrap64 (x18_4 + 1)))) else (none)) else (none)) else (none)) else (none)) else (none)) else (none)) else (none)) else (none)) else (none)) else (none)) else (none)) else (none)) else (none)) else (none)) else (none)) else (none)) else (none)) else (none)) = some r := by first | (rw [hji54] at H; exact H) | (simp only [hji54] at H ⊢; exact H)
                                                have hji54w : (IntKind.i64.wrap ((ji45) + 3)) = ji54 := (i64_w _).trans hji54
                                                by_cases c55 : 0 ≤ (ji54)
                                                · rw [if_pos c55] at H
                                                  have c55b0 : decide (0 ≤ (ji54)) = true := decide_eq_true c55
                                                  clear c55
                                                  by_cases c56 : (ji54) < (l2.length : Int)
                                                  · rw [if_pos c56] at H
                                                    have c56b0 : decide ((ji54) < (l2.length : Int)) = true := decide_eq_true c56
                                                    clear c56
                                                    by_cases c57 : 0 ≤ (rd l2 (ji45))
                                                    · rw [if_pos c57] at H
                                                      have c57b0 : decide (0 ≤ (rd l2 (ji45))) = true := decide_eq_true c57
                                                      clear c57
                                                      by_cases c58 : (rd l2 (ji45)) < (x15_4.length : Int)
                                                      · rw [if_pos c58] at H
                                                        have c58b0 : decide ((rd l2 (ji45)) < (x15_4.length : Int)) = true := decide_eq_true c58
                                                        clear c58
                                                        by_cases c59 : 0 ≤ (rd l2 (ji48))
                                                        · rw [if_pos c59] at H
                                                          have c59b0 : decide (0 ≤ (rd l2 (ji48))) = true := decide_eq_true c59
                                                          clear c59
                                                          by_cases c60 : (rd l2 (ji48)) < (x15_4.length : Int)
                                                          · rw [if_pos c60] at H
                                                            have c60b0 : decide ((rd l2 (ji48)) < (x15_4.length : Int)) = true := decide_eq_true c60
                                                            clear c60
                                                            by_cases c61 : 0 ≤ (rd l2 (ji51))
                                                            · rw [if_pos c61] at H
                                                              have c61b0 : decide (0 ≤ (rd l2 (ji51))) = true := decide_eq_true c61
                                                              clear c61
                                                              by_cases c62 : (rd l2 (ji51)) < (x15_4.length : Int)
                                                              · rw [if_pos c62] at H
                                                                have c62b0 : decide ((rd l2 (ji51)) < (x15_4.length : Int)) = true := decide_eq_true c62
                                                                clear c62
                                                                by_cases c63 : 0 ≤ (rd l2 (ji54))
                                                                · rw [if_pos c63] at H
                                                                  have c63b0 : decide (0 ≤ (rd l2 (ji54))) = true := decide_eq_true c63
                                                                  clear c63
                                                                  by_cases c64 : (rd l2 (ji54)) < (x15_4.length : Int)
                                                                  · rw [if_pos c64] at H
                                                                    have c64b0 : decide ((rd l2 (ji54)) < (x15_4.length : Int)) = true := decide_eq_true c64
                                                                    clear c64
                                                                    obtain ⟨ji65, hji65⟩ : ∃ j_ : Int, (wrap64 (2 * x18_4)) = j_ := ⟨_, rfl⟩
                                                                    replace H : (if 0 ≤ (ji65) then (if (ji65) < ((rd_L5 l1 x16_3).length : Int) then (if 0 ≤ (rd (rd_L5 l1 x16_3) (ji65)) then (if (rd (rd_L5 l1 x16_3) (ji65)) < (x13_1.length : Int) then (if 0 ≤ (wrap64 ((ji65) + 1)) then (if (wrap64 ((ji65) + 1)) < ((rd_L5 l1 x16_3).length : Int) then (if 0 ≤ (rd (rd_L5 l1 x16_3) (wrap64 ((ji65) + 1))) then (if (rd (rd_L5 l1 x16_3) (wrap64 ((ji65) + 1))) < (x13_1.length : Int) then ((tuskref02_mixed.f (rd x15_4 (rd l2 (ji45))) (rd x15_4 (rd l2 (ji48))) (rd x15_4 (rd l2 (ji51))) (rd x15_4 (rd l2 (ji54))) (rd x13_1 (rd (rd_L5 l1 x16_3) (ji65))) (rd x13_1 (rd (rd_L5 l1 x16_3) (wrap64 ((ji65) + 1))))).bind fun bt138 => (tuskref02_block.l2 k4 l0 l1 l2 x13_1 ((((x15_4.set ((rd l2 (ji45)) : Int).toNat bt138.1).set ((rd l2 (ji48)) : Int).toNat bt138.2.1).set ((rd l2 (ji51)) : Int).toNat bt138.2.2.1).set ((rd l2 (ji54)) : Int).toNat bt138.2.2.2) x16_3 (rd_L5 l1 x16_3) (wrap64 (x18_4 + 1)))) else (none)) else (none)) else (none)) else (none)) else (none)) else (none)) else (none)) else (none)) = some r := by first | (rw [hji65] at H; exact H) | (simp only [hji65] at H ⊢; exact H)
                                                                    have hji65w : (IntKind.i64.wrap (2 * x18_4)) = ji65 := (i64_w _).trans hji65
                                                                    by_cases c66 : 0 ≤ (ji65)
                                                                    · rw [if_pos c66] at H
                                                                      have c66b0 : decide (0 ≤ (ji65)) = true := decide_eq_true c66
                                                                      clear c66
                                                                      by_cases c67 : (ji65) < ((rd_L5 l1 x16_3).length : Int)
                                                                      · rw [if_pos c67] at H
                                                                        have c67b0 : decide ((ji65) < ((rd_L5 l1 x16_3).length : Int)) = true := decide_eq_true c67
                                                                        clear c67
                                                                        by_cases c68 : 0 ≤ (rd (rd_L5 l1 x16_3) (ji65))
                                                                        · rw [if_pos c68] at H
                                                                          have c68b0 : decide (0 ≤ (rd (rd_L5 l1 x16_3) (ji65))) = true := decide_eq_true c68
                                                                          clear c68
                                                                          by_cases c69 : (rd (rd_L5 l1 x16_3) (ji65)) < (x13_1.length : Int)
                                                                          · rw [if_pos c69] at H
                                                                            have c69b0 : decide ((rd (rd_L5 l1 x16_3) (ji65)) < (x13_1.length : Int)) = true := decide_eq_true c69
                                                                            clear c69
                                                                            obtain ⟨ji70, hji70⟩ : ∃ j_ : Int, (wrap64 ((ji65) + 1)) = j_ := ⟨_, rfl⟩
                                                                            replace H : (if 0 ≤ (ji70) then (if (ji70) < ((rd_L5 l1 x16_3).length : Int) then (if 0 ≤ (rd (rd_L5 l1 x16_3) (ji70)) then (if (rd (rd_L5 l1 x16_3) (ji70)) < (x13_1.length : Int) then ((tuskref02_mixed.f (rd x15_4 (rd l2 (ji45))) (rd x15_4 (rd l2 (ji48))) (rd x15_4 (rd l2 (ji51))) (rd x15_4 (rd l2 (ji54))) (rd x13_1 (rd (rd_L5 l1 x16_3) (ji65))) (rd x13_1 (rd (rd_L5 l1 x16_3) (ji70)))).bind fun bt138 => (tuskref02_block.l2 k4 l0 l1 l2 x13_1 ((((x15_4.set ((rd l2 (ji45)) : Int).toNat bt138.1).set ((rd l2 (ji48)) : Int).toNat bt138.2.1).set ((rd l2 (ji51)) : Int).toNat bt138.2.2.1).set ((rd l2 (ji54)) : Int).toNat bt138.2.2.2) x16_3 (rd_L5 l1 x16_3) (wrap64 (x18_4 + 1)))) else (none)) else (none)) else (none)) else (none)) = some r := by first | (rw [hji70] at H; exact H) | (simp only [hji70] at H ⊢; exact H)
                                                                            have hji70w : (IntKind.i64.wrap ((ji65) + 1)) = ji70 := (i64_w _).trans hji70
                                                                            by_cases c71 : 0 ≤ (ji70)
                                                                            · rw [if_pos c71] at H
                                                                              have c71b0 : decide (0 ≤ (ji70)) = true := decide_eq_true c71
                                                                              clear c71
                                                                              by_cases c72 : (ji70) < ((rd_L5 l1 x16_3).length : Int)
                                                                              · rw [if_pos c72] at H
                                                                                have c72b0 : decide ((ji70) < ((rd_L5 l1 x16_3).length : Int)) = true := decide_eq_true c72
                                                                                clear c72
                                                                                by_cases c73 : 0 ≤ (rd (rd_L5 l1 x16_3) (ji70))
                                                                                · rw [if_pos c73] at H
                                                                                  have c73b0 : decide (0 ≤ (rd (rd_L5 l1 x16_3) (ji70))) = true := decide_eq_true c73
                                                                                  clear c73
                                                                                  by_cases c74 : (rd (rd_L5 l1 x16_3) (ji70)) < (x13_1.length : Int)
                                                                                  · rw [if_pos c74] at H
                                                                                    have c74b0 : decide ((rd (rd_L5 l1 x16_3) (ji70)) < (x13_1.length : Int)) = true := decide_eq_true c74
                                                                                    clear c74
                                                                                    replace H := Option.bind_eq_some_iff.mp H
                                                                                    obtain ⟨⟨t138, t139, t140, t141⟩, A750, H⟩ := H
                                                                                    replace H : (tuskref02_block.l2 k4 l0 l1 l2 x13_1 ((((x15_4.set ((rd l2 (ji45)) : Int).toNat t138).set ((rd l2 (ji48)) : Int).toNat t139).set ((rd l2 (ji51)) : Int).toNat t140).set ((rd l2 (ji54)) : Int).toNat t141) x16_3 (rd_L5 l1 x16_3) (wrap64 (x18_4 + 1))) = some r := H
                                                                                    have A75 := Aside0.mk A750
                                                                                    clear A750
                                                                                    obtain ⟨y142, hy142⟩ : ∃ y_ : List Int, y_ = (x15_4.set ((rd l2 (ji45)) : Int).toNat t138) := ⟨_, rfl⟩
                                                                                    replace H : (tuskref02_block.l2 k4 l0 l1 l2 x13_1 (((y142.set ((rd l2 (ji48)) : Int).toNat t139).set ((rd l2 (ji51)) : Int).toNat t140).set ((rd l2 (ji54)) : Int).toNat t141) x16_3 (rd_L5 l1 x16_3) (wrap64 (x18_4 + 1))) = some r := by first | (rw [hy142]; with_reducible exact H) | (have H2_ := (Option.bind_some _ _).symm.trans H; rw [hy142]; with_reducible exact H2_) | (have H2_ := (Option.bind_some _ _).symm.trans H; with_reducible exact H2_) | with_reducible exact H | (rw [hy142]; exact H) | exact H
                                                                                    have Ny142 := Aside0.mk hy142
                                                                                    clear hy142
                                                                                    obtain ⟨y143, hy143⟩ : ∃ y_ : List Int, y_ = (y142.set ((rd l2 (ji48)) : Int).toNat t139) := ⟨_, rfl⟩
                                                                                    replace H : (tuskref02_block.l2 k4 l0 l1 l2 x13_1 ((y143.set ((rd l2 (ji51)) : Int).toNat t140).set ((rd l2 (ji54)) : Int).toNat t141) x16_3 (rd_L5 l1 x16_3) (wrap64 (x18_4 + 1))) = some r := by first | (rw [hy143]; with_reducible exact H) | (have H2_ := (Option.bind_some _ _).symm.trans H; rw [hy143]; with_reducible exact H2_) | (have H2_ := (Option.bind_some _ _).symm.trans H; with_reducible exact H2_) | with_reducible exact H | (rw [hy143]; exact H) | exact H
                                                                                    have Ny143 := Aside0.mk hy143
                                                                                    clear hy143
                                                                                    obtain ⟨y144, hy144⟩ : ∃ y_ : List Int, y_ = (y143.set ((rd l2 (ji51)) : Int).toNat t140) := ⟨_, rfl⟩
                                                                                    replace H : (tuskref02_block.l2 k4 l0 l1 l2 x13_1 (y144.set ((rd l2 (ji54)) : Int).toNat t141) x16_3 (rd_L5 l1 x16_3) (wrap64 (x18_4 + 1))) = some r := by first | (rw [hy144]; with_reducible exact H) | (have H2_ := (Option.bind_some _ _).symm.trans H; rw [hy144]; with_reducible exact H2_) | (have H2_ := (Option.bind_some _ _).symm.trans H; with_reducible exact H2_) | with_reducible exact H | (rw [hy144]; exact H) | exact H
                                                                                    have Ny144 := Aside0.mk hy144
                                                                                    clear hy144
                                                                                    obtain ⟨y145, hy145⟩ : ∃ y_ : List Int, y_ = (y144.set ((rd l2 (ji54)) : Int).toNat t141) := ⟨_, rfl⟩
                                                                                    replace H : (tuskref02_block.l2 k4 l0 l1 l2 x13_1 y145 x16_3 (rd_L5 l1 x16_3) (wrap64 (x18_4 + 1))) = some r := by first | (rw [hy145]; with_reducible exact H) | (have H2_ := (Option.bind_some _ _).symm.trans H; rw [hy145]; with_reducible exact H2_) | (have H2_ := (Option.bind_some _ _).symm.trans H; with_reducible exact H2_) | with_reducible exact H | (rw [hy145]; exact H) | exact H
                                                                                    have Ny145 := Aside0.mk hy145
                                                                                    clear hy145
                                                                                    have H' := Aside0.mk H
                                                                                    clear H
                                                                                    try go_wp2
                                                                                    have n0_ := Aside0.mk (Kd.R_drew HO_13.out)
                                                                                    have n1_ := Aside0.mk (Kd.R_drew HO_15.out)
                                                                                    have n2_ := Aside0.mk (below_drew1 HB.out)
                                                                                    clear HO_13
                                                                                    clear HO_15
                                                                                    clear HB
                                                                                    have HO_13 := n0_
                                                                                    have HO_15 := n1_
                                                                                    have HB := n2_
                                                                                    clear n0_ n1_ n2_
                                                                                    have p126 : 0 ≤ ((ji45) : Int) := of_decide_eq_true (by first | (with_reducible assumption) | assumption)
                                                                                    have q126 : (ji45) < (l2.length : Int) := of_decide_eq_true (by first | (with_reducible assumption) | assumption)
                                                                                    obtain ⟨ad126, e126, hx126_0⟩ := Kd.at_int HR2.out (ji45) p126 q126
                                                                                    have hw126_0 := hx126_0
                                                                                    cases e126
                                                                                    replace hx126_0 := (HB.out.cell (World.block_lt_of_cell? w _ hx126_0)).trans hx126_0
                                                                                    replace p126 := eq_true p126
                                                                                    replace q126 := eq_true q126
                                                                                    have p127 : 0 ≤ ((ji48) : Int) := of_decide_eq_true (by first | (with_reducible assumption) | assumption)
                                                                                    have q127 : (ji48) < (l2.length : Int) := of_decide_eq_true (by first | (with_reducible assumption) | assumption)
                                                                                    obtain ⟨ad127, e127, hx127_0⟩ := Kd.at_int HR2.out (ji48) p127 q127
                                                                                    have hw127_0 := hx127_0
                                                                                    obtain rfl : ad126 = ad127 := (by injection e127)
                                                                                    replace hx127_0 := (HB.out.cell (World.block_lt_of_cell? w _ hx127_0)).trans hx127_0
                                                                                    replace p127 := eq_true p127
                                                                                    replace q127 := eq_true q127
                                                                                    have p128 : 0 ≤ ((ji51) : Int) := of_decide_eq_true (by first | (with_reducible assumption) | assumption)
                                                                                    have q128 : (ji51) < (l2.length : Int) := of_decide_eq_true (by first | (with_reducible assumption) | assumption)
                                                                                    obtain ⟨ad128, e128, hx128_0⟩ := Kd.at_int HR2.out (ji51) p128 q128
                                                                                    have hw128_0 := hx128_0
                                                                                    obtain rfl : ad126 = ad128 := (by injection e128)
                                                                                    replace hx128_0 := (HB.out.cell (World.block_lt_of_cell? w _ hx128_0)).trans hx128_0
                                                                                    replace p128 := eq_true p128
                                                                                    replace q128 := eq_true q128
                                                                                    have p129 : 0 ≤ ((ji54) : Int) := of_decide_eq_true (by first | (with_reducible assumption) | assumption)
                                                                                    have q129 : (ji54) < (l2.length : Int) := of_decide_eq_true (by first | (with_reducible assumption) | assumption)
                                                                                    obtain ⟨ad129, e129, hx129_0⟩ := Kd.at_int HR2.out (ji54) p129 q129
                                                                                    have hw129_0 := hx129_0
                                                                                    obtain rfl : ad126 = ad129 := (by injection e129)
                                                                                    replace hx129_0 := (HB.out.cell (World.block_lt_of_cell? w _ hx129_0)).trans hx129_0
                                                                                    replace p129 := eq_true p129
                                                                                    replace q129 := eq_true q129
                                                                                    refine start_ (n := 27) (S := fun w' => w'.cell? (ad126.add ((ji45)).toNat) = some (.int .i64 (rd l2 (ji45))) ∧ w'.cell? (ad126.add ((ji48)).toNat) = some (.int .i64 (rd l2 (ji48))) ∧ w'.cell? (ad126.add ((ji51)).toNat) = some (.int .i64 (rd l2 (ji51))) ∧ w'.cell? (ad126.add ((ji54)).toNat) = some (.int .i64 (rd l2 (ji54)))) (ds := []) #[false, false, false, false, false, false, false, false, false, false, false, false, false, false, false, false, false, false, false, false, false, false, false, false, false, false, false] (by kernel_rfl) rfl rfl ⟨((HB.out.cell (World.block_lt_of_cell? w _ hw126_0)).trans hw126_0), ((HB.out.cell (World.block_lt_of_cell? w _ hw127_0)).trans hw127_0), ((HB.out.cell (World.block_lt_of_cell? w _ hw128_0)).trans hw128_0), ((HB.out.cell (World.block_lt_of_cell? w _ hw129_0)).trans hw129_0)⟩ (fun hHeld => ?_); refine with_tabW tuskref02_block.tab17 tuskref02_block.bits17 (fun HT_ HW_ => ?_)
                                                                                    generalize wr.drew = w80 at HO_13 HO_15 HB hx126_0 hx127_0 hx128_0 hx129_0 hHeld ⊢
                                                                                    refine pure_ (i := 0) (N := some 77) (v := ?_) (a' := ?_) #[true, false, false, false, false, false, false, false, false, false, false, false, false, false, false, false, false, false, false, false, false, false, false, false, false, false, false] rfl rfl (any_of HT_.out (by kernel_rfl)) (fun _ _ _ h => h) (Or.inl ⟨by rfl, ?_⟩) ?_ ?_
                                                                                    rotate_left
                                                                                    · intro w'
                                                                                      go_simp
                                                                                      with_reducible rfl
                                                                                    rotate_left
                                                                                    · simp only [Act.put, List.setIfInBounds_toArray, List.set_cons_zero, List.set_cons_succ, i64_w, i32_w]
                                                                                      rfl
                                                                                    refine pure_ (i := 1) (N := some 78) (v := ?_) (a' := ?_) #[true, true, false, false, false, false, false, false, false, false, false, false, false, false, false, false, false, false, false, false, false, false, false, false, false, false, false] rfl rfl (any_of HT_.out (by kernel_rfl)) (fun _ _ _ h => h) (Or.inl ⟨by rfl, ?_⟩) ?_ ?_
                                                                                    rotate_left
                                                                                    · intro w'
                                                                                      go_simp
                                                                                      with_reducible rfl
                                                                                    rotate_left
                                                                                    · simp only [Act.put, List.setIfInBounds_toArray, List.set_cons_zero, List.set_cons_succ, i64_w, i32_w]
                                                                                      rfl
                                                                                    refine pure_ (i := 2) (N := some 79) (v := ?_) (a' := ?_) #[true, true, true, false, false, false, false, false, false, false, false, false, false, false, false, false, false, false, false, false, false, false, false, false, false, false, false] rfl rfl (any_of HT_.out (by kernel_rfl)) (fun _ _ _ h => h) (Or.inl ⟨by rfl, ?_⟩) ?_ ?_
                                                                                    rotate_left
                                                                                    · intro w'
                                                                                      go_simp
                                                                                      with_reducible rfl
                                                                                    rotate_left
                                                                                    · simp only [Act.put, List.setIfInBounds_toArray, List.set_cons_zero, List.set_cons_succ, i64_w, i32_w]
                                                                                      rfl
                                                                                    refine pure_ (i := 3) (N := some 80) (v := ?_) (a' := ?_) #[true, true, true, true, false, false, false, false, false, false, false, false, false, false, false, false, false, false, false, false, false, false, false, false, false, false, false] rfl rfl (any_of HT_.out (by kernel_rfl)) (fun _ _ _ h => h) (Or.inl ⟨by rfl, ?_⟩) ?_ ?_
                                                                                    rotate_left
                                                                                    · intro w'
                                                                                      go_simp
                                                                                      with_reducible rfl
                                                                                    rotate_left
                                                                                    · simp only [Act.put, List.setIfInBounds_toArray, List.set_cons_zero, List.set_cons_succ, i64_w, i32_w]
                                                                                      rfl
                                                                                    refine pure_ (i := 5) (N := some 82) (v := ?_) (a' := ?_) #[true, true, true, true, false, true, false, false, false, false, false, false, false, false, false, false, false, false, false, false, false, false, false, false, false, false, false] rfl rfl (any_of HT_.out (by kernel_rfl)) (fun _ _ _ h => h) (Or.inl ⟨by rfl, ?_⟩) ?_ ?_
                                                                                    rotate_left
                                                                                    · intro w'
                                                                                      go_simp
                                                                                      with_reducible rfl
                                                                                    rotate_left
                                                                                    · simp only [Act.put, List.setIfInBounds_toArray, List.set_cons_zero, List.set_cons_succ, i64_w, i32_w]
                                                                                      rfl
                                                                                    refine pure_ (i := 6) (N := some 83) (v := ?_) (a' := ?_) #[true, true, true, true, false, true, true, false, false, false, false, false, false, false, false, false, false, false, false, false, false, false, false, false, false, false, false] rfl rfl (any_of HT_.out (by kernel_rfl)) (fun _ _ _ h => h) (Or.inl ⟨by rfl, ?_⟩) ?_ ?_
                                                                                    rotate_left
                                                                                    · intro w'
                                                                                      go_simp
                                                                                      with_reducible rfl
                                                                                    rotate_left
                                                                                    · simp only [Act.put, List.setIfInBounds_toArray, List.set_cons_zero, List.set_cons_succ, i64_w, i32_w]
                                                                                      rfl
                                                                                    refine pure_ (i := 7) (N := some 84) (v := ?_) (a' := ?_) #[true, true, true, true, false, true, true, true, false, false, false, false, false, false, false, false, false, false, false, false, false, false, false, false, false, false, false] rfl rfl (any_of HT_.out (by kernel_rfl)) (fun _ _ _ h => h) (Or.inl ⟨by rfl, ?_⟩) ?_ ?_
                                                                                    rotate_left
                                                                                    · intro w'
                                                                                      go_simp
                                                                                      with_reducible rfl
                                                                                    rotate_left
                                                                                    · simp only [Act.put, List.setIfInBounds_toArray, List.set_cons_zero, List.set_cons_succ, i64_w, i32_w]
                                                                                      rfl
                                                                                    refine pure_ (i := 8) (N := some 85) (v := ?_) (a' := ?_) #[true, true, true, true, false, true, true, true, true, false, false, false, false, false, false, false, false, false, false, false, false, false, false, false, false, false, false] rfl rfl (any_of HT_.out (by kernel_rfl)) (fun _ _ _ h => h) (Or.inl ⟨by rfl, ?_⟩) ?_ ?_
                                                                                    rotate_left
                                                                                    · intro w'
                                                                                      go_simp
                                                                                      with_reducible rfl
                                                                                    rotate_left
                                                                                    · simp only [Act.put, List.setIfInBounds_toArray, List.set_cons_zero, List.set_cons_succ, i64_w, i32_w]
                                                                                      rfl
                                                                                    refine pure_ (i := 9) (N := some 86) (v := ?_) (a' := ?_) #[true, true, true, true, false, true, true, true, true, true, false, false, false, false, false, false, false, false, false, false, false, false, false, false, false, false, false] rfl rfl (any_of HT_.out (by kernel_rfl)) (fun _ _ _ h => h) (Or.inl ⟨by rfl, ?_⟩) ?_ ?_
                                                                                    rotate_left
                                                                                    · intro w'
                                                                                      go_simp
                                                                                      with_reducible rfl
                                                                                    rotate_left
                                                                                    · simp only [Act.put, List.setIfInBounds_toArray, List.set_cons_zero, List.set_cons_succ, i64_w, i32_w]
                                                                                      rfl
                                                                                    refine pure_ (i := 11) (N := some 88) (v := ?_) (a' := ?_) #[true, true, true, true, false, true, true, true, true, true, false, true, false, false, false, false, false, false, false, false, false, false, false, false, false, false, false] rfl rfl (any_of HT_.out (by kernel_rfl)) (fun _ _ _ h => h) (Or.inl ⟨by rfl, ?_⟩) ?_ ?_
                                                                                    rotate_left
                                                                                    · intro w'
                                                                                      go_simp
                                                                                      with_reducible rfl
                                                                                    rotate_left
                                                                                    · simp only [Act.put, List.setIfInBounds_toArray, List.set_cons_zero, List.set_cons_succ, i64_w, i32_w]
                                                                                      rfl
                                                                                    refine pure_ (i := 12) (N := some 89) (v := ?_) (a' := ?_) #[true, true, true, true, false, true, true, true, true, true, false, true, true, false, false, false, false, false, false, false, false, false, false, false, false, false, false] rfl rfl (any_of HT_.out (by kernel_rfl)) (fun _ _ _ h => h) (Or.inl ⟨by rfl, ?_⟩) ?_ ?_
                                                                                    rotate_left
                                                                                    · intro w'
                                                                                      go_simp
                                                                                      with_reducible rfl
                                                                                    rotate_left
                                                                                    · simp only [Act.put, List.setIfInBounds_toArray, List.set_cons_zero, List.set_cons_succ, i64_w, i32_w]
                                                                                      rfl
                                                                                    refine pure_ (i := 13) (N := some 90) (v := ?_) (a' := ?_) #[true, true, true, true, false, true, true, true, true, true, false, true, true, true, false, false, false, false, false, false, false, false, false, false, false, false, false] rfl rfl (any_of HT_.out (by kernel_rfl)) (fun _ _ _ h => h) (Or.inl ⟨by rfl, ?_⟩) ?_ ?_
                                                                                    rotate_left
                                                                                    · intro w'
                                                                                      go_simp
                                                                                      with_reducible rfl
                                                                                    rotate_left
                                                                                    · simp only [Act.put, List.setIfInBounds_toArray, List.set_cons_zero, List.set_cons_succ, i64_w, i32_w]
                                                                                      rfl
                                                                                    refine pure_ (i := 14) (N := some 91) (v := ?_) (a' := ?_) #[true, true, true, true, false, true, true, true, true, true, false, true, true, true, true, false, false, false, false, false, false, false, false, false, false, false, false] rfl rfl (any_of HT_.out (by kernel_rfl)) (fun _ _ _ h => h) (Or.inl ⟨by rfl, ?_⟩) ?_ ?_
                                                                                    rotate_left
                                                                                    · intro w'
                                                                                      go_simp
                                                                                      with_reducible rfl
                                                                                    rotate_left
                                                                                    · simp only [Act.put, List.setIfInBounds_toArray, List.set_cons_zero, List.set_cons_succ, i64_w, i32_w]
                                                                                      rfl
                                                                                    refine pure_ (i := 15) (N := some 92) (v := ?_) (a' := ?_) #[true, true, true, true, false, true, true, true, true, true, false, true, true, true, true, true, false, false, false, false, false, false, false, false, false, false, false] rfl rfl (any_of HT_.out (by kernel_rfl)) (fun _ _ _ h => h) (Or.inl ⟨by rfl, ?_⟩) ?_ ?_
                                                                                    rotate_left
                                                                                    · intro w'
                                                                                      go_simp
                                                                                      with_reducible rfl
                                                                                    rotate_left
                                                                                    · simp only [Act.put, List.setIfInBounds_toArray, List.set_cons_zero, List.set_cons_succ, i64_w, i32_w]
                                                                                      rfl
                                                                                    refine pure_ (i := 17) (N := some 94) (v := ?_) (a' := ?_) #[true, true, true, true, false, true, true, true, true, true, false, true, true, true, true, true, false, true, false, false, false, false, false, false, false, false, false] rfl rfl (any_of HT_.out (by kernel_rfl)) (fun _ _ _ h => h) (Or.inl ⟨by rfl, ?_⟩) ?_ ?_
                                                                                    rotate_left
                                                                                    · intro w'
                                                                                      go_simp
                                                                                      with_reducible rfl
                                                                                    rotate_left
                                                                                    · simp only [Act.put, List.setIfInBounds_toArray, List.set_cons_zero, List.set_cons_succ, i64_w, i32_w]
                                                                                      rfl
                                                                                    refine pure_ (i := 18) (N := some 95) (v := ?_) (a' := ?_) #[true, true, true, true, false, true, true, true, true, true, false, true, true, true, true, true, false, true, true, false, false, false, false, false, false, false, false] rfl rfl (any_of HT_.out (by kernel_rfl)) (fun _ _ _ h => h) (Or.inl ⟨by rfl, ?_⟩) ?_ ?_
                                                                                    rotate_left
                                                                                    · intro w'
                                                                                      go_simp
                                                                                      with_reducible rfl
                                                                                    rotate_left
                                                                                    · simp only [Act.put, List.setIfInBounds_toArray, List.set_cons_zero, List.set_cons_succ, i64_w, i32_w]
                                                                                      rfl
                                                                                    refine pure_ (i := 19) (N := some 96) (v := ?_) (a' := ?_) #[true, true, true, true, false, true, true, true, true, true, false, true, true, true, true, true, false, true, true, true, false, false, false, false, false, false, false] rfl rfl (any_of HT_.out (by kernel_rfl)) (fun _ _ _ h => h) (Or.inl ⟨by rfl, ?_⟩) ?_ ?_
                                                                                    rotate_left
                                                                                    · intro w'
                                                                                      go_simp
                                                                                      with_reducible rfl
                                                                                    rotate_left
                                                                                    · simp only [Act.put, List.setIfInBounds_toArray, List.set_cons_zero, List.set_cons_succ, i64_w, i32_w]
                                                                                      rfl
                                                                                    refine pure_ (i := 20) (N := some 97) (v := ?_) (a' := ?_) #[true, true, true, true, false, true, true, true, true, true, false, true, true, true, true, true, false, true, true, true, true, false, false, false, false, false, false] rfl rfl (any_of HT_.out (by kernel_rfl)) (fun _ _ _ h => h) (Or.inl ⟨by rfl, ?_⟩) ?_ ?_
                                                                                    rotate_left
                                                                                    · intro w'
                                                                                      go_simp
                                                                                      with_reducible rfl
                                                                                    rotate_left
                                                                                    · simp only [Act.put, List.setIfInBounds_toArray, List.set_cons_zero, List.set_cons_succ, i64_w, i32_w]
                                                                                      rfl
                                                                                    refine pure_ (i := 21) (N := some 98) (v := ?_) (a' := ?_) #[true, true, true, true, false, true, true, true, true, true, false, true, true, true, true, true, false, true, true, true, true, true, false, false, false, false, false] rfl rfl (any_of HT_.out (by kernel_rfl)) (fun _ _ _ h => h) (Or.inl ⟨by rfl, ?_⟩) ?_ ?_
                                                                                    rotate_left
                                                                                    · intro w'
                                                                                      go_simp
                                                                                      with_reducible rfl
                                                                                    rotate_left
                                                                                    · simp only [Act.put, List.setIfInBounds_toArray, List.set_cons_zero, List.set_cons_succ, i64_w, i32_w]
                                                                                      rfl
                                                                                    refine take_ (i := 4) (N := some 81) (v := ?_) (a' := ?_) #[true, true, true, true, true, true, true, true, true, true, false, true, true, true, true, true, false, true, true, true, true, true, false, false, false, false, false] rfl rfl (take_ofW HT_.out HW_.out (by kernel_rfl)) (fun _ _ _ h => h) (Or.inl ⟨by rfl, ?_⟩) hHeld ?_ ?_
                                                                                    rotate_left
                                                                                    · rintro w' ⟨s0, s1, s2, s3⟩
                                                                                      go_simp
                                                                                      with_reducible rfl
                                                                                    rotate_left
                                                                                    · simp only [Act.put, List.setIfInBounds_toArray, List.set_cons_zero, List.set_cons_succ, i64_w, i32_w]
                                                                                      rfl
                                                                                    refine pure_ (i := 23) (N := some 19) (v := ?_) (a' := ?_) #[true, true, true, true, true, true, true, true, true, true, false, true, true, true, true, true, false, true, true, true, true, true, false, true, false, false, false] rfl rfl (any_of HT_.out (by kernel_rfl)) (fun _ _ _ h => h) (Or.inl ⟨by rfl, ?_⟩) ?_ ?_
                                                                                    rotate_left
                                                                                    · intro w'
                                                                                      go_simp
                                                                                      with_reducible rfl
                                                                                    rotate_left
                                                                                    · simp only [Act.put, List.setIfInBounds_toArray, List.set_cons_zero, List.set_cons_succ, i64_w, i32_w]
                                                                                      rfl
                                                                                    refine take_ (i := 10) (N := some 87) (v := ?_) (a' := ?_) #[true, true, true, true, true, true, true, true, true, true, true, true, true, true, true, true, false, true, true, true, true, true, false, true, false, false, false] rfl rfl (take_ofW HT_.out HW_.out (by kernel_rfl)) (fun _ _ _ h => h) (Or.inl ⟨by rfl, ?_⟩) hHeld ?_ ?_
                                                                                    rotate_left
                                                                                    · rintro w' ⟨s0, s1, s2, s3⟩
                                                                                      go_simp
                                                                                      with_reducible rfl
                                                                                    rotate_left
                                                                                    · simp only [Act.put, List.setIfInBounds_toArray, List.set_cons_zero, List.set_cons_succ, i64_w, i32_w]
                                                                                      rfl
                                                                                    refine pure_ (i := 24) (N := some 20) (v := ?_) (a' := ?_) #[true, true, true, true, true, true, true, true, true, true, true, true, true, true, true, true, false, true, true, true, true, true, false, true, true, false, false] rfl rfl (any_of HT_.out (by kernel_rfl)) (fun _ _ _ h => h) (Or.inl ⟨by rfl, ?_⟩) ?_ ?_
                                                                                    rotate_left
                                                                                    · intro w'
                                                                                      go_simp
                                                                                      with_reducible rfl
                                                                                    rotate_left
                                                                                    · simp only [Act.put, List.setIfInBounds_toArray, List.set_cons_zero, List.set_cons_succ, i64_w, i32_w]
                                                                                      rfl
                                                                                    refine take_ (i := 16) (N := some 93) (v := ?_) (a' := ?_) #[true, true, true, true, true, true, true, true, true, true, true, true, true, true, true, true, true, true, true, true, true, true, false, true, true, false, false] rfl rfl (take_ofW HT_.out HW_.out (by kernel_rfl)) (fun _ _ _ h => h) (Or.inl ⟨by rfl, ?_⟩) hHeld ?_ ?_
                                                                                    rotate_left
                                                                                    · rintro w' ⟨s0, s1, s2, s3⟩
                                                                                      go_simp
                                                                                      with_reducible rfl
                                                                                    rotate_left
                                                                                    · simp only [Act.put, List.setIfInBounds_toArray, List.set_cons_zero, List.set_cons_succ, i64_w, i32_w]
                                                                                      rfl
                                                                                    refine pure_ (i := 25) (N := some 21) (v := ?_) (a' := ?_) #[true, true, true, true, true, true, true, true, true, true, true, true, true, true, true, true, true, true, true, true, true, true, false, true, true, true, false] rfl rfl (any_of HT_.out (by kernel_rfl)) (fun _ _ _ h => h) (Or.inl ⟨by rfl, ?_⟩) ?_ ?_
                                                                                    rotate_left
                                                                                    · intro w'
                                                                                      go_simp
                                                                                      with_reducible rfl
                                                                                    rotate_left
                                                                                    · simp only [Act.put, List.setIfInBounds_toArray, List.set_cons_zero, List.set_cons_succ, i64_w, i32_w]
                                                                                      rfl
                                                                                    refine take_ (i := 22) (N := some 99) (v := ?_) (a' := ?_) #[true, true, true, true, true, true, true, true, true, true, true, true, true, true, true, true, true, true, true, true, true, true, true, true, true, true, false] rfl rfl (take_ofW HT_.out HW_.out (by kernel_rfl)) (fun _ _ _ h => h) (Or.inl ⟨by rfl, ?_⟩) hHeld ?_ ?_
                                                                                    rotate_left
                                                                                    · rintro w' ⟨s0, s1, s2, s3⟩
                                                                                      go_simp
                                                                                      with_reducible rfl
                                                                                    rotate_left
                                                                                    · simp only [Act.put, List.setIfInBounds_toArray, List.set_cons_zero, List.set_cons_succ, i64_w, i32_w]
                                                                                      rfl
                                                                                    refine pure_ (i := 26) (N := some 22) (v := ?_) (a' := ?_) #[true, true, true, true, true, true, true, true, true, true, true, true, true, true, true, true, true, true, true, true, true, true, true, true, true, true, true] rfl rfl (any_of HT_.out (by kernel_rfl)) (fun _ _ _ h => h) (Or.inl ⟨by rfl, ?_⟩) ?_ ?_
                                                                                    rotate_left
                                                                                    · intro w'
                                                                                      go_simp
                                                                                      with_reducible rfl
                                                                                    rotate_left
                                                                                    · simp only [Act.put, List.setIfInBounds_toArray, List.set_cons_zero, List.set_cons_succ, i64_w, i32_w]
                                                                                      rfl
                                                                                    refine done_ (done_of HT_.out (by kernel_rfl)) ?_
                                                                                    try go_wp2
                                                                                    have n0_ := Aside0.mk (Kd.R_drew HO_13.out)
                                                                                    have n1_ := Aside0.mk (Kd.R_drew HO_15.out)
                                                                                    have n2_ := Aside0.mk (below_drew1 HB.out)
                                                                                    clear HO_13
                                                                                    clear HO_15
                                                                                    clear HB
                                                                                    have HO_13 := n0_
                                                                                    have HO_15 := n1_
                                                                                    have HB := n2_
                                                                                    clear n0_ n1_ n2_
                                                                                    have p130 : 0 ≤ ((rd l2 (ji45)) : Int) := of_decide_eq_true (by first | (with_reducible assumption) | assumption)
                                                                                    have q130 : (rd l2 (ji45)) < (x15_4.length : Int) := of_decide_eq_true (by first | (with_reducible assumption) | assumption)
                                                                                    obtain ⟨ad130, e130, hx130_0⟩ := Kd.at_int (Kd.R_reads' HO_15.out).2.2 (rd l2 (ji45)) p130 q130
                                                                                    obtain rfl : (⟨go25, 0, none⟩ : Addr) = ad130 := (by injection e130)
                                                                                    (first | simp only [add_plain] at hx130_0 | simp only [add_at] at hx130_0 | simp only [Addr.add, Nat.zero_add] at hx130_0 | skip)
                                                                                    replace p130 := eq_true p130
                                                                                    replace q130 := eq_true q130
                                                                                    have p131 : 0 ≤ ((rd l2 (ji48)) : Int) := of_decide_eq_true (by first | (with_reducible assumption) | assumption)
                                                                                    have q131 : (rd l2 (ji48)) < (x15_4.length : Int) := of_decide_eq_true (by first | (with_reducible assumption) | assumption)
                                                                                    obtain ⟨ad131, e131, hx131_0⟩ := Kd.at_int (Kd.R_reads' HO_15.out).2.2 (rd l2 (ji48)) p131 q131
                                                                                    obtain rfl : (⟨go25, 0, none⟩ : Addr) = ad131 := (by injection e131)
                                                                                    (first | simp only [add_plain] at hx131_0 | simp only [add_at] at hx131_0 | simp only [Addr.add, Nat.zero_add] at hx131_0 | skip)
                                                                                    replace p131 := eq_true p131
                                                                                    replace q131 := eq_true q131
                                                                                    have p132 : 0 ≤ ((rd l2 (ji51)) : Int) := of_decide_eq_true (by first | (with_reducible assumption) | assumption)
                                                                                    have q132 : (rd l2 (ji51)) < (x15_4.length : Int) := of_decide_eq_true (by first | (with_reducible assumption) | assumption)
                                                                                    obtain ⟨ad132, e132, hx132_0⟩ := Kd.at_int (Kd.R_reads' HO_15.out).2.2 (rd l2 (ji51)) p132 q132
                                                                                    obtain rfl : (⟨go25, 0, none⟩ : Addr) = ad132 := (by injection e132)
                                                                                    (first | simp only [add_plain] at hx132_0 | simp only [add_at] at hx132_0 | simp only [Addr.add, Nat.zero_add] at hx132_0 | skip)
                                                                                    replace p132 := eq_true p132
                                                                                    replace q132 := eq_true q132
                                                                                    have p133 : 0 ≤ ((rd l2 (ji54)) : Int) := of_decide_eq_true (by first | (with_reducible assumption) | assumption)
                                                                                    have q133 : (rd l2 (ji54)) < (x15_4.length : Int) := of_decide_eq_true (by first | (with_reducible assumption) | assumption)
                                                                                    obtain ⟨ad133, e133, hx133_0⟩ := Kd.at_int (Kd.R_reads' HO_15.out).2.2 (rd l2 (ji54)) p133 q133
                                                                                    obtain rfl : (⟨go25, 0, none⟩ : Addr) = ad133 := (by injection e133)
                                                                                    (first | simp only [add_plain] at hx133_0 | simp only [add_at] at hx133_0 | simp only [Addr.add, Nat.zero_add] at hx133_0 | skip)
                                                                                    replace p133 := eq_true p133
                                                                                    replace q133 := eq_true q133
                                                                                    have p134 : 0 ≤ ((ji65) : Int) := of_decide_eq_true (by first | (with_reducible assumption) | assumption)
                                                                                    have q134 : (ji65) < ((rd_L5 l1 x16_3).length : Int) := of_decide_eq_true (by first | (with_reducible assumption) | assumption)
                                                                                    obtain ⟨ad134, e134, hx134_0⟩ := Kd.at_int HR125_0.out (ji65) p134 q134
                                                                                    have hw134_0 := hx134_0
                                                                                    cases e134
                                                                                    replace hx134_0 := (HB.out.cell (World.block_lt_of_cell? w _ hx134_0)).trans hx134_0
                                                                                    replace p134 := eq_true p134
                                                                                    replace q134 := eq_true q134
                                                                                    obtain ⟨Ao82, co82, eo82⟩ := Kd.R_slice HO_13.out
                                                                                    (first | subst eo82 | (injection eo82 with f1_ f2_ f3_; have f4_ := f1_.symm; have f5_ := f3_.symm; clear f1_ f2_ f3_; subst f4_; subst f5_))
                                                                                    have p135 : 0 ≤ ((rd (rd_L5 l1 x16_3) (ji65)) : Int) := of_decide_eq_true (by first | (with_reducible assumption) | assumption)
                                                                                    have q135 : (rd (rd_L5 l1 x16_3) (ji65)) < (x13_1.length : Int) := of_decide_eq_true (by first | (with_reducible assumption) | assumption)
                                                                                    obtain ⟨ad135, e135, hx135_0⟩ := Kd.at_int (Kd.R_reads' HO_13.out).2.2 (rd (rd_L5 l1 x16_3) (ji65)) p135 q135
                                                                                    cases e135
                                                                                    replace p135 := eq_true p135
                                                                                    replace q135 := eq_true q135
                                                                                    have p136 : 0 ≤ ((ji70) : Int) := of_decide_eq_true (by first | (with_reducible assumption) | assumption)
                                                                                    have q136 : (ji70) < ((rd_L5 l1 x16_3).length : Int) := of_decide_eq_true (by first | (with_reducible assumption) | assumption)
                                                                                    obtain ⟨ad136, e136, hx136_0⟩ := Kd.at_int HR125_0.out (ji70) p136 q136
                                                                                    have hw136_0 := hx136_0
                                                                                    obtain rfl : ad134 = ad136 := (by injection e136)
                                                                                    replace hx136_0 := (HB.out.cell (World.block_lt_of_cell? w _ hx136_0)).trans hx136_0
                                                                                    replace p136 := eq_true p136
                                                                                    replace q136 := eq_true q136
                                                                                    have p137 : 0 ≤ ((rd (rd_L5 l1 x16_3) (ji70)) : Int) := of_decide_eq_true (by first | (with_reducible assumption) | assumption)
                                                                                    have q137 : (rd (rd_L5 l1 x16_3) (ji70)) < (x13_1.length : Int) := of_decide_eq_true (by first | (with_reducible assumption) | assumption)
                                                                                    obtain ⟨ad137, e137, hx137_0⟩ := Kd.at_int (Kd.R_reads' HO_13.out).2.2 (rd (rd_L5 l1 x16_3) (ji70)) p137 q137
                                                                                    obtain rfl : ad135 = ad137 := (by injection e137)
                                                                                    replace p137 := eq_true p137
                                                                                    replace q137 := eq_true q137
                                                                                    refine start_ (n := 43) (S := fun w' => w'.cell? ⟨go25, ((rd l2 (ji45))).toNat, none⟩ = some (.int .u32 (rd x15_4 (rd l2 (ji45)))) ∧ w'.cell? ⟨go25, ((rd l2 (ji48))).toNat, none⟩ = some (.int .u32 (rd x15_4 (rd l2 (ji48)))) ∧ w'.cell? ⟨go25, ((rd l2 (ji51))).toNat, none⟩ = some (.int .u32 (rd x15_4 (rd l2 (ji51)))) ∧ w'.cell? ⟨go25, ((rd l2 (ji54))).toNat, none⟩ = some (.int .u32 (rd x15_4 (rd l2 (ji54)))) ∧ w'.cell? (ad134.add ((ji65)).toNat) = some (.int .i64 (rd (rd_L5 l1 x16_3) (ji65))) ∧ w'.cell? (ad135.add ((rd (rd_L5 l1 x16_3) (ji65))).toNat) = some (.int .u32 (rd x13_1 (rd (rd_L5 l1 x16_3) (ji65)))) ∧ w'.cell? (ad134.add ((ji70)).toNat) = some (.int .i64 (rd (rd_L5 l1 x16_3) (ji70))) ∧ w'.cell? (ad135.add ((rd (rd_L5 l1 x16_3) (ji70))).toNat) = some (.int .u32 (rd x13_1 (rd (rd_L5 l1 x16_3) (ji70))))) (ds := []) #[false, false, false, false, false, false, false, false, false, false, false, false, false, false, false, false, false, false, false, false, false, false, false, false, false, false, false, false, false, false, false, false, false, false, false, false, false, false, false, false, false, false, false] (by kernel_rfl) rfl rfl ⟨hx130_0, hx131_0, hx132_0, hx133_0, ((HB.out.cell (World.block_lt_of_cell? w _ hw134_0)).trans hw134_0), hx135_0, ((HB.out.cell (World.block_lt_of_cell? w _ hw136_0)).trans hw136_0), hx137_0⟩ (fun hHeld => ?_); refine with_tabW tuskref02_block.tab18 tuskref02_block.bits18 (fun HT_ HW_ => ?_)
                                                                                    generalize w80.drew = w81 at HO_13 HO_15 HB hx130_0 hx131_0 hx132_0 hx133_0 hx134_0 hx135_0 hx136_0 hx137_0 hHeld ⊢
                                                                                    refine pure_ (i := 0) (N := some 101) (v := ?_) (a' := ?_) #[true, false, false, false, false, false, false, false, false, false, false, false, false, false, false, false, false, false, false, false, false, false, false, false, false, false, false, false, false, false, false, false, false, false, false, false, false, false, false, false, false, false, false] rfl rfl (any_of HT_.out (by kernel_rfl)) (fun _ _ _ h => h) (Or.inl ⟨by rfl, ?_⟩) ?_ ?_
                                                                                    rotate_left
                                                                                    · intro w'
                                                                                      go_simp
                                                                                      with_reducible rfl
                                                                                    rotate_left
                                                                                    · simp only [Act.put, List.setIfInBounds_toArray, List.set_cons_zero, List.set_cons_succ, i64_w, i32_w]
                                                                                      rfl
                                                                                    refine pure_ (i := 1) (N := some 102) (v := ?_) (a' := ?_) #[true, true, false, false, false, false, false, false, false, false, false, false, false, false, false, false, false, false, false, false, false, false, false, false, false, false, false, false, false, false, false, false, false, false, false, false, false, false, false, false, false, false, false] rfl rfl (any_of HT_.out (by kernel_rfl)) (fun _ _ _ h => h) (Or.inl ⟨by rfl, ?_⟩) ?_ ?_
                                                                                    rotate_left
                                                                                    · intro w'
                                                                                      go_simp
                                                                                      with_reducible rfl
                                                                                    rotate_left
                                                                                    · simp only [Act.put, List.setIfInBounds_toArray, List.set_cons_zero, List.set_cons_succ, i64_w, i32_w]
                                                                                      rfl
                                                                                    refine pure_ (i := 2) (N := some 103) (v := ?_) (a' := ?_) #[true, true, true, false, false, false, false, false, false, false, false, false, false, false, false, false, false, false, false, false, false, false, false, false, false, false, false, false, false, false, false, false, false, false, false, false, false, false, false, false, false, false, false] rfl rfl (any_of HT_.out (by kernel_rfl)) (fun _ _ _ h => h) (Or.inl ⟨by rfl, ?_⟩) ?_ ?_
                                                                                    rotate_left
                                                                                    · intro w'
                                                                                      go_simp
                                                                                      with_reducible rfl
                                                                                    rotate_left
                                                                                    · simp only [Act.put, List.setIfInBounds_toArray, List.set_cons_zero, List.set_cons_succ, i64_w, i32_w]
                                                                                      rfl
                                                                                    refine pure_ (i := 4) (N := some 105) (v := ?_) (a' := ?_) #[true, true, true, false, true, false, false, false, false, false, false, false, false, false, false, false, false, false, false, false, false, false, false, false, false, false, false, false, false, false, false, false, false, false, false, false, false, false, false, false, false, false, false] rfl rfl (any_of HT_.out (by kernel_rfl)) (fun _ _ _ h => h) (Or.inl ⟨by rfl, ?_⟩) ?_ ?_
                                                                                    rotate_left
                                                                                    · intro w'
                                                                                      go_simp
                                                                                      with_reducible rfl
                                                                                    rotate_left
                                                                                    · simp only [Act.put, List.setIfInBounds_toArray, List.set_cons_zero, List.set_cons_succ, i64_w, i32_w]
                                                                                      rfl
                                                                                    refine pure_ (i := 5) (N := some 106) (v := ?_) (a' := ?_) #[true, true, true, false, true, true, false, false, false, false, false, false, false, false, false, false, false, false, false, false, false, false, false, false, false, false, false, false, false, false, false, false, false, false, false, false, false, false, false, false, false, false, false] rfl rfl (any_of HT_.out (by kernel_rfl)) (fun _ _ _ h => h) (Or.inl ⟨by rfl, ?_⟩) ?_ ?_
                                                                                    rotate_left
                                                                                    · intro w'
                                                                                      go_simp
                                                                                      with_reducible rfl
                                                                                    rotate_left
                                                                                    · simp only [Act.put, List.setIfInBounds_toArray, List.set_cons_zero, List.set_cons_succ, i64_w, i32_w]
                                                                                      rfl
                                                                                    refine pure_ (i := 6) (N := some 107) (v := ?_) (a' := ?_) #[true, true, true, false, true, true, true, false, false, false, false, false, false, false, false, false, false, false, false, false, false, false, false, false, false, false, false, false, false, false, false, false, false, false, false, false, false, false, false, false, false, false, false] rfl rfl (any_of HT_.out (by kernel_rfl)) (fun _ _ _ h => h) (Or.inl ⟨by rfl, ?_⟩) ?_ ?_
                                                                                    rotate_left
                                                                                    · intro w'
                                                                                      go_simp
                                                                                      with_reducible rfl
                                                                                    rotate_left
                                                                                    · simp only [Act.put, List.setIfInBounds_toArray, List.set_cons_zero, List.set_cons_succ, i64_w, i32_w]
                                                                                      rfl
                                                                                    refine pure_ (i := 8) (N := some 109) (v := ?_) (a' := ?_) #[true, true, true, false, true, true, true, false, true, false, false, false, false, false, false, false, false, false, false, false, false, false, false, false, false, false, false, false, false, false, false, false, false, false, false, false, false, false, false, false, false, false, false] rfl rfl (any_of HT_.out (by kernel_rfl)) (fun _ _ _ h => h) (Or.inl ⟨by rfl, ?_⟩) ?_ ?_
                                                                                    rotate_left
                                                                                    · intro w'
                                                                                      go_simp
                                                                                      with_reducible rfl
                                                                                    rotate_left
                                                                                    · simp only [Act.put, List.setIfInBounds_toArray, List.set_cons_zero, List.set_cons_succ, i64_w, i32_w]
                                                                                      rfl
                                                                                    refine pure_ (i := 9) (N := some 110) (v := ?_) (a' := ?_) #[true, true, true, false, true, true, true, false, true, true, false, false, false, false, false, false, false, false, false, false, false, false, false, false, false, false, false, false, false, false, false, false, false, false, false, false, false, false, false, false, false, false, false] rfl rfl (any_of HT_.out (by kernel_rfl)) (fun _ _ _ h => h) (Or.inl ⟨by rfl, ?_⟩) ?_ ?_
                                                                                    rotate_left
                                                                                    · intro w'
                                                                                      go_simp
                                                                                      with_reducible rfl
                                                                                    rotate_left
                                                                                    · simp only [Act.put, List.setIfInBounds_toArray, List.set_cons_zero, List.set_cons_succ, i64_w, i32_w]
                                                                                      rfl
                                                                                    refine pure_ (i := 10) (N := some 111) (v := ?_) (a' := ?_) #[true, true, true, false, true, true, true, false, true, true, true, false, false, false, false, false, false, false, false, false, false, false, false, false, false, false, false, false, false, false, false, false, false, false, false, false, false, false, false, false, false, false, false] rfl rfl (any_of HT_.out (by kernel_rfl)) (fun _ _ _ h => h) (Or.inl ⟨by rfl, ?_⟩) ?_ ?_
                                                                                    rotate_left
                                                                                    · intro w'
                                                                                      go_simp
                                                                                      with_reducible rfl
                                                                                    rotate_left
                                                                                    · simp only [Act.put, List.setIfInBounds_toArray, List.set_cons_zero, List.set_cons_succ, i64_w, i32_w]
                                                                                      rfl
                                                                                    refine pure_ (i := 12) (N := some 113) (v := ?_) (a' := ?_) #[true, true, true, false, true, true, true, false, true, true, true, false, true, false, false, false, false, false, false, false, false, false, false, false, false, false, false, false, false, false, false, false, false, false, false, false, false, false, false, false, false, false, false] rfl rfl (any_of HT_.out (by kernel_rfl)) (fun _ _ _ h => h) (Or.inl ⟨by rfl, ?_⟩) ?_ ?_
                                                                                    rotate_left
                                                                                    · intro w'
                                                                                      go_simp
                                                                                      with_reducible rfl
                                                                                    rotate_left
                                                                                    · simp only [Act.put, List.setIfInBounds_toArray, List.set_cons_zero, List.set_cons_succ, i64_w, i32_w]
                                                                                      rfl
                                                                                    refine pure_ (i := 13) (N := some 114) (v := ?_) (a' := ?_) #[true, true, true, false, true, true, true, false, true, true, true, false, true, true, false, false, false, false, false, false, false, false, false, false, false, false, false, false, false, false, false, false, false, false, false, false, false, false, false, false, false, false, false] rfl rfl (any_of HT_.out (by kernel_rfl)) (fun _ _ _ h => h) (Or.inl ⟨by rfl, ?_⟩) ?_ ?_
                                                                                    rotate_left
                                                                                    · intro w'
                                                                                      go_simp
                                                                                      with_reducible rfl
                                                                                    rotate_left
                                                                                    · simp only [Act.put, List.setIfInBounds_toArray, List.set_cons_zero, List.set_cons_succ, i64_w, i32_w]
                                                                                      rfl
                                                                                    refine pure_ (i := 14) (N := some 115) (v := ?_) (a' := ?_) #[true, true, true, false, true, true, true, false, true, true, true, false, true, true, true, false, false, false, false, false, false, false, false, false, false, false, false, false, false, false, false, false, false, false, false, false, false, false, false, false, false, false, false] rfl rfl (any_of HT_.out (by kernel_rfl)) (fun _ _ _ h => h) (Or.inl ⟨by rfl, ?_⟩) ?_ ?_
                                                                                    rotate_left
                                                                                    · intro w'
                                                                                      go_simp
                                                                                      with_reducible rfl
                                                                                    rotate_left
                                                                                    · simp only [Act.put, List.setIfInBounds_toArray, List.set_cons_zero, List.set_cons_succ, i64_w, i32_w]
                                                                                      rfl
                                                                                    refine pure_ (i := 16) (N := some 117) (v := ?_) (a' := ?_) #[true, true, true, false, true, true, true, false, true, true, true, false, true, true, true, false, true, false, false, false, false, false, false, false, false, false, false, false, false, false, false, false, false, false, false, false, false, false, false, false, false, false, false] rfl rfl (any_of HT_.out (by kernel_rfl)) (fun _ _ _ h => h) (Or.inl ⟨by rfl, ?_⟩) ?_ ?_
                                                                                    rotate_left
                                                                                    · intro w'
                                                                                      go_simp
                                                                                      with_reducible rfl
                                                                                    rotate_left
                                                                                    · simp only [Act.put, List.setIfInBounds_toArray, List.set_cons_zero, List.set_cons_succ, i64_w, i32_w]
                                                                                      rfl
                                                                                    refine pure_ (i := 17) (N := some 118) (v := ?_) (a' := ?_) #[true, true, true, false, true, true, true, false, true, true, true, false, true, true, true, false, true, true, false, false, false, false, false, false, false, false, false, false, false, false, false, false, false, false, false, false, false, false, false, false, false, false, false] rfl rfl (any_of HT_.out (by kernel_rfl)) (fun _ _ _ h => h) (Or.inl ⟨by rfl, ?_⟩) ?_ ?_
                                                                                    rotate_left
                                                                                    · intro w'
                                                                                      go_simp
                                                                                      with_reducible rfl
                                                                                    rotate_left
                                                                                    · simp only [Act.put, List.setIfInBounds_toArray, List.set_cons_zero, List.set_cons_succ, i64_w, i32_w]
                                                                                      rfl
                                                                                    refine pure_ (i := 18) (N := some 119) (v := ?_) (a' := ?_) #[true, true, true, false, true, true, true, false, true, true, true, false, true, true, true, false, true, true, true, false, false, false, false, false, false, false, false, false, false, false, false, false, false, false, false, false, false, false, false, false, false, false, false] rfl rfl (any_of HT_.out (by kernel_rfl)) (fun _ _ _ h => h) (Or.inl ⟨by rfl, ?_⟩) ?_ ?_
                                                                                    rotate_left
                                                                                    · intro w'
                                                                                      go_simp
                                                                                      with_reducible rfl
                                                                                    rotate_left
                                                                                    · simp only [Act.put, List.setIfInBounds_toArray, List.set_cons_zero, List.set_cons_succ, i64_w, i32_w]
                                                                                      rfl
                                                                                    refine pure_ (i := 19) (N := some 120) (v := ?_) (a' := ?_) #[true, true, true, false, true, true, true, false, true, true, true, false, true, true, true, false, true, true, true, true, false, false, false, false, false, false, false, false, false, false, false, false, false, false, false, false, false, false, false, false, false, false, false] rfl rfl (any_of HT_.out (by kernel_rfl)) (fun _ _ _ h => h) (Or.inl ⟨by rfl, ?_⟩) ?_ ?_
                                                                                    rotate_left
                                                                                    · intro w'
                                                                                      go_simp
                                                                                      with_reducible rfl
                                                                                    rotate_left
                                                                                    · simp only [Act.put, List.setIfInBounds_toArray, List.set_cons_zero, List.set_cons_succ, i64_w, i32_w]
                                                                                      rfl
                                                                                    refine pure_ (i := 20) (N := some 121) (v := ?_) (a' := ?_) #[true, true, true, false, true, true, true, false, true, true, true, false, true, true, true, false, true, true, true, true, true, false, false, false, false, false, false, false, false, false, false, false, false, false, false, false, false, false, false, false, false, false, false] rfl rfl (any_of HT_.out (by kernel_rfl)) (fun _ _ _ h => h) (Or.inl ⟨by rfl, ?_⟩) ?_ ?_
                                                                                    rotate_left
                                                                                    · intro w'
                                                                                      go_simp
                                                                                      with_reducible rfl
                                                                                    rotate_left
                                                                                    · simp only [Act.put, List.setIfInBounds_toArray, List.set_cons_zero, List.set_cons_succ, i64_w, i32_w]
                                                                                      rfl
                                                                                    refine pure_ (i := 24) (N := some 125) (v := ?_) (a' := ?_) #[true, true, true, false, true, true, true, false, true, true, true, false, true, true, true, false, true, true, true, true, true, false, false, false, true, false, false, false, false, false, false, false, false, false, false, false, false, false, false, false, false, false, false] rfl rfl (any_of HT_.out (by kernel_rfl)) (fun _ _ _ h => h) (Or.inl ⟨by rfl, ?_⟩) ?_ ?_
                                                                                    rotate_left
                                                                                    · intro w'
                                                                                      go_simp
                                                                                      with_reducible rfl
                                                                                    rotate_left
                                                                                    · simp only [Act.put, List.setIfInBounds_toArray, List.set_cons_zero, List.set_cons_succ, i64_w, i32_w]
                                                                                      rfl
                                                                                    refine pure_ (i := 25) (N := some 126) (v := ?_) (a' := ?_) #[true, true, true, false, true, true, true, false, true, true, true, false, true, true, true, false, true, true, true, true, true, false, false, false, true, true, false, false, false, false, false, false, false, false, false, false, false, false, false, false, false, false, false] rfl rfl (any_of HT_.out (by kernel_rfl)) (fun _ _ _ h => h) (Or.inl ⟨by rfl, ?_⟩) ?_ ?_
                                                                                    rotate_left
                                                                                    · intro w'
                                                                                      go_simp
                                                                                      with_reducible rfl
                                                                                    rotate_left
                                                                                    · simp only [Act.put, List.setIfInBounds_toArray, List.set_cons_zero, List.set_cons_succ, i64_w, i32_w]
                                                                                      rfl
                                                                                    refine pure_ (i := 26) (N := some 127) (v := ?_) (a' := ?_) #[true, true, true, false, true, true, true, false, true, true, true, false, true, true, true, false, true, true, true, true, true, false, false, false, true, true, true, false, false, false, false, false, false, false, false, false, false, false, false, false, false, false, false] rfl rfl (any_of HT_.out (by kernel_rfl)) (fun _ _ _ h => h) (Or.inl ⟨by rfl, ?_⟩) ?_ ?_
                                                                                    rotate_left
                                                                                    · intro w'
                                                                                      go_simp
                                                                                      with_reducible rfl
                                                                                    rotate_left
                                                                                    · simp only [Act.put, List.setIfInBounds_toArray, List.set_cons_zero, List.set_cons_succ, i64_w, i32_w]
                                                                                      rfl
                                                                                    refine pure_ (i := 27) (N := some 128) (v := ?_) (a' := ?_) #[true, true, true, false, true, true, true, false, true, true, true, false, true, true, true, false, true, true, true, true, true, false, false, false, true, true, true, true, false, false, false, false, false, false, false, false, false, false, false, false, false, false, false] rfl rfl (any_of HT_.out (by kernel_rfl)) (fun _ _ _ h => h) (Or.inl ⟨by rfl, ?_⟩) ?_ ?_
                                                                                    rotate_left
                                                                                    · intro w'
                                                                                      go_simp
                                                                                      with_reducible rfl
                                                                                    rotate_left
                                                                                    · simp only [Act.put, List.setIfInBounds_toArray, List.set_cons_zero, List.set_cons_succ, i64_w, i32_w]
                                                                                      rfl
                                                                                    refine pure_ (i := 28) (N := some 129) (v := ?_) (a' := ?_) #[true, true, true, false, true, true, true, false, true, true, true, false, true, true, true, false, true, true, true, true, true, false, false, false, true, true, true, true, true, false, false, false, false, false, false, false, false, false, false, false, false, false, false] rfl rfl (any_of HT_.out (by kernel_rfl)) (fun _ _ _ h => h) (Or.inl ⟨by rfl, ?_⟩) ?_ ?_
                                                                                    rotate_left
                                                                                    · intro w'
                                                                                      go_simp
                                                                                      with_reducible rfl
                                                                                    rotate_left
                                                                                    · simp only [Act.put, List.setIfInBounds_toArray, List.set_cons_zero, List.set_cons_succ, i64_w, i32_w]
                                                                                      rfl
                                                                                    refine pure_ (i := 29) (N := some 130) (v := ?_) (a' := ?_) #[true, true, true, false, true, true, true, false, true, true, true, false, true, true, true, false, true, true, true, true, true, false, false, false, true, true, true, true, true, true, false, false, false, false, false, false, false, false, false, false, false, false, false] rfl rfl (any_of HT_.out (by kernel_rfl)) (fun _ _ _ h => h) (Or.inl ⟨by rfl, ?_⟩) ?_ ?_
                                                                                    rotate_left
                                                                                    · intro w'
                                                                                      go_simp
                                                                                      with_reducible rfl
                                                                                    rotate_left
                                                                                    · simp only [Act.put, List.setIfInBounds_toArray, List.set_cons_zero, List.set_cons_succ, i64_w, i32_w]
                                                                                      rfl
                                                                                    refine take_ (i := 3) (N := some 104) (v := ?_) (a' := ?_) #[true, true, true, true, true, true, true, false, true, true, true, false, true, true, true, false, true, true, true, true, true, false, false, false, true, true, true, true, true, true, false, false, false, false, false, false, false, false, false, false, false, false, false] rfl rfl (take_ofW HT_.out HW_.out (by kernel_rfl)) (fun _ _ _ h => h) (Or.inl ⟨by rfl, ?_⟩) hHeld ?_ ?_
                                                                                    rotate_left
                                                                                    · rintro w' ⟨s0, s1, s2, s3, s4, s5, s6, s7⟩
                                                                                      go_simp
                                                                                      with_reducible rfl
                                                                                    rotate_left
                                                                                    · simp only [Act.put, List.setIfInBounds_toArray, List.set_cons_zero, List.set_cons_succ, i64_w, i32_w]
                                                                                      rfl
                                                                                    refine take_ (i := 7) (N := some 108) (v := ?_) (a' := ?_) #[true, true, true, true, true, true, true, true, true, true, true, false, true, true, true, false, true, true, true, true, true, false, false, false, true, true, true, true, true, true, false, false, false, false, false, false, false, false, false, false, false, false, false] rfl rfl (take_ofW HT_.out HW_.out (by kernel_rfl)) (fun _ _ _ h => h) (Or.inl ⟨by rfl, ?_⟩) hHeld ?_ ?_
                                                                                    rotate_left
                                                                                    · rintro w' ⟨s0, s1, s2, s3, s4, s5, s6, s7⟩
                                                                                      go_simp
                                                                                      with_reducible rfl
                                                                                    rotate_left
                                                                                    · simp only [Act.put, List.setIfInBounds_toArray, List.set_cons_zero, List.set_cons_succ, i64_w, i32_w]
                                                                                      rfl
                                                                                    refine take_ (i := 11) (N := some 112) (v := ?_) (a' := ?_) #[true, true, true, true, true, true, true, true, true, true, true, true, true, true, true, false, true, true, true, true, true, false, false, false, true, true, true, true, true, true, false, false, false, false, false, false, false, false, false, false, false, false, false] rfl rfl (take_ofW HT_.out HW_.out (by kernel_rfl)) (fun _ _ _ h => h) (Or.inl ⟨by rfl, ?_⟩) hHeld ?_ ?_
                                                                                    rotate_left
                                                                                    · rintro w' ⟨s0, s1, s2, s3, s4, s5, s6, s7⟩
                                                                                      go_simp
                                                                                      with_reducible rfl
                                                                                    rotate_left
                                                                                    · simp only [Act.put, List.setIfInBounds_toArray, List.set_cons_zero, List.set_cons_succ, i64_w, i32_w]
                                                                                      rfl
                                                                                    refine take_ (i := 15) (N := some 116) (v := ?_) (a' := ?_) #[true, true, true, true, true, true, true, true, true, true, true, true, true, true, true, true, true, true, true, true, true, false, false, false, true, true, true, true, true, true, false, false, false, false, false, false, false, false, false, false, false, false, false] rfl rfl (take_ofW HT_.out HW_.out (by kernel_rfl)) (fun _ _ _ h => h) (Or.inl ⟨by rfl, ?_⟩) hHeld ?_ ?_
                                                                                    rotate_left
                                                                                    · rintro w' ⟨s0, s1, s2, s3, s4, s5, s6, s7⟩
                                                                                      go_simp
                                                                                      with_reducible rfl
                                                                                    rotate_left
                                                                                    · simp only [Act.put, List.setIfInBounds_toArray, List.set_cons_zero, List.set_cons_succ, i64_w, i32_w]
                                                                                      rfl
                                                                                    refine take_ (i := 21) (N := some 122) (v := ?_) (a' := ?_) #[true, true, true, true, true, true, true, true, true, true, true, true, true, true, true, true, true, true, true, true, true, true, false, false, true, true, true, true, true, true, false, false, false, false, false, false, false, false, false, false, false, false, false] rfl rfl (take_ofW HT_.out HW_.out (by kernel_rfl)) (fun _ _ _ h => h) (Or.inl ⟨by rfl, ?_⟩) hHeld ?_ ?_
                                                                                    rotate_left
                                                                                    · rintro w' ⟨s0, s1, s2, s3, s4, s5, s6, s7⟩
                                                                                      go_simp
                                                                                      with_reducible rfl
                                                                                    rotate_left
                                                                                    · simp only [Act.put, List.setIfInBounds_toArray, List.set_cons_zero, List.set_cons_succ, i64_w, i32_w]
                                                                                      rfl
                                                                                    refine pure_ (i := 22) (N := some 123) (v := ?_) (a' := ?_) #[true, true, true, true, true, true, true, true, true, true, true, true, true, true, true, true, true, true, true, true, true, true, true, false, true, true, true, true, true, true, false, false, false, false, false, false, false, false, false, false, false, false, false] rfl rfl (any_of HT_.out (by kernel_rfl)) (fun _ _ _ h => h) (Or.inl ⟨by rfl, ?_⟩) ?_ ?_
                                                                                    rotate_left
                                                                                    · intro w'
                                                                                      go_simp
                                                                                      with_reducible rfl
                                                                                    rotate_left
                                                                                    · simp only [Act.put, List.setIfInBounds_toArray, List.set_cons_zero, List.set_cons_succ, i64_w, i32_w]
                                                                                      rfl
                                                                                    refine take_ (i := 23) (N := some 124) (v := ?_) (a' := ?_) #[true, true, true, true, true, true, true, true, true, true, true, true, true, true, true, true, true, true, true, true, true, true, true, true, true, true, true, true, true, true, false, false, false, false, false, false, false, false, false, false, false, false, false] rfl rfl (take_ofW HT_.out HW_.out (by kernel_rfl)) (fun _ _ _ h => h) (Or.inl ⟨by rfl, ?_⟩) hHeld ?_ ?_
                                                                                    rotate_left
                                                                                    · rintro w' ⟨s0, s1, s2, s3, s4, s5, s6, s7⟩
                                                                                      go_simp
                                                                                      with_reducible rfl
                                                                                    rotate_left
                                                                                    · simp only [Act.put, List.setIfInBounds_toArray, List.set_cons_zero, List.set_cons_succ, i64_w, i32_w]
                                                                                      rfl
                                                                                    refine take_ (i := 30) (N := some 131) (v := ?_) (a' := ?_) #[true, true, true, true, true, true, true, true, true, true, true, true, true, true, true, true, true, true, true, true, true, true, true, true, true, true, true, true, true, true, true, false, false, false, false, false, false, false, false, false, false, false, false] rfl rfl (take_ofW HT_.out HW_.out (by kernel_rfl)) (fun _ _ _ h => h) (Or.inl ⟨by rfl, ?_⟩) hHeld ?_ ?_
                                                                                    rotate_left
                                                                                    · rintro w' ⟨s0, s1, s2, s3, s4, s5, s6, s7⟩
                                                                                      go_simp
                                                                                      with_reducible rfl
                                                                                    rotate_left
                                                                                    · simp only [Act.put, List.setIfInBounds_toArray, List.set_cons_zero, List.set_cons_succ, i64_w, i32_w]
                                                                                      rfl
                                                                                    refine pure_ (i := 31) (N := some 132) (v := ?_) (a' := ?_) #[true, true, true, true, true, true, true, true, true, true, true, true, true, true, true, true, true, true, true, true, true, true, true, true, true, true, true, true, true, true, true, true, false, false, false, false, false, false, false, false, false, false, false] rfl rfl (any_of HT_.out (by kernel_rfl)) (fun _ _ _ h => h) (Or.inl ⟨by rfl, ?_⟩) ?_ ?_
                                                                                    rotate_left
                                                                                    · intro w'
                                                                                      go_simp
                                                                                      with_reducible rfl
                                                                                    rotate_left
                                                                                    · simp only [Act.put, List.setIfInBounds_toArray, List.set_cons_zero, List.set_cons_succ, i64_w, i32_w]
                                                                                      rfl
                                                                                    refine take_ (i := 32) (N := some 133) (v := ?_) (a' := ?_) #[true, true, true, true, true, true, true, true, true, true, true, true, true, true, true, true, true, true, true, true, true, true, true, true, true, true, true, true, true, true, true, true, true, false, false, false, false, false, false, false, false, false, false] rfl rfl (take_ofW HT_.out HW_.out (by kernel_rfl)) (fun _ _ _ h => h) (Or.inl ⟨by rfl, ?_⟩) hHeld ?_ ?_
                                                                                    rotate_left
                                                                                    · rintro w' ⟨s0, s1, s2, s3, s4, s5, s6, s7⟩
                                                                                      go_simp
                                                                                      with_reducible rfl
                                                                                    rotate_left
                                                                                    · simp only [Act.put, List.setIfInBounds_toArray, List.set_cons_zero, List.set_cons_succ, i64_w, i32_w]
                                                                                      rfl
                                                                                    refine one_ (i := 33) (N := some 134) #[true, true, true, true, true, true, true, true, true, true, true, true, true, true, true, true, true, true, true, true, true, true, true, true, true, true, true, true, true, true, true, true, true, true, false, false, false, false, false, false, false, false, false] rfl rfl (one_of HT_.out (by kernel_rfl)) (by decide) (fun K hK => ?_)
                                                                                    refine goes_ Tryd.func28 (by kernel_rfl) rfl #[.int .u32 (rd x15_4 (rd l2 (ji45))), .int .u32 (rd x15_4 (rd l2 (ji48))), .int .u32 (rd x15_4 (rd l2 (ji51))), .int .u32 (rd x15_4 (rd l2 (ji54))), .int .u32 (rd x13_1 (rd (rd_L5 l1 x16_3) (ji65))), .int .u32 (rd x13_1 (rd (rd_L5 l1 x16_3) (ji70)))] (by rfl) rfl rfl (by (try simp only [List.map_toArray, List.map_cons, List.map_nil]); first | done | (simp only [hji45, hji48, hji51, hji54, hji65, hji70]; rfl) | rfl | (simp only [List.length_drop, List.length_take]; rfl)) ?_
                                                                                    with_reducible refine (tuskref02_mixed.calls (rd x15_4 (rd l2 (ji45))) (rd x15_4 (rd l2 (ji48))) (rd x15_4 (rd l2 (ji51))) (rd x15_4 (rd l2 (ji54))) (rd x13_1 (rd (rd_L5 l1 x16_3) (ji65))) (rd x13_1 (rd (rd_L5 l1 x16_3) (ji70))) t138 t139 t140 t141 _ A75.out).mono ?_
                                                                                    rintro e w' ⟨rfl, ⟨nd, rfl⟩⟩
                                                                                    refine ⟨_, rfl, ?_⟩
                                                                                    refine hK.out _ _ ⟨hHeld.1, hHeld.2.1, hHeld.2.2.1, hHeld.2.2.2.1, ((HB.out.cell (World.block_lt_of_cell? w _ hw134_0)).trans hw134_0), hHeld.2.2.2.2.2.1, ((HB.out.cell (World.block_lt_of_cell? w _ hw136_0)).trans hw136_0), hHeld.2.2.2.2.2.2.2⟩ (fun hHeld => ?_)
                                                                                    clear hK K
                                                                                    refine norm_ (a' := ?_) ?_ ?_
                                                                                    rotate_left
                                                                                    · show Act.put _ (some 134) _ = _
                                                                                      simp only [Act.put, List.setIfInBounds_toArray, List.set_cons_zero, List.set_cons_succ, i64_w, i32_w]
                                                                                      rfl
                                                                                    refine pure_ (i := 34) (N := some 100) (v := ?_) (a' := ?_) #[true, true, true, true, true, true, true, true, true, true, true, true, true, true, true, true, true, true, true, true, true, true, true, true, true, true, true, true, true, true, true, true, true, true, true, false, false, false, false, false, false, false, false] rfl rfl (any_of HT_.out (by kernel_rfl)) (fun _ _ _ h => h) (Or.inl ⟨by rfl, ?_⟩) ?_ ?_
                                                                                    rotate_left
                                                                                    · intro w'
                                                                                      go_simp
                                                                                      with_reducible rfl
                                                                                    rotate_left
                                                                                    · simp only [Act.put, List.setIfInBounds_toArray, List.set_cons_zero, List.set_cons_succ, i64_w, i32_w]
                                                                                      rfl
                                                                                    refine pure_ (i := 35) (N := some 135) (v := ?_) (a' := ?_) #[true, true, true, true, true, true, true, true, true, true, true, true, true, true, true, true, true, true, true, true, true, true, true, true, true, true, true, true, true, true, true, true, true, true, true, true, false, false, false, false, false, false, false] rfl rfl (any_of HT_.out (by kernel_rfl)) (fun _ _ _ h => h) (Or.inl ⟨by rfl, ?_⟩) ?_ ?_
                                                                                    rotate_left
                                                                                    · intro w'
                                                                                      go_simp
                                                                                      with_reducible rfl
                                                                                    rotate_left
                                                                                    · simp only [Act.put, List.setIfInBounds_toArray, List.set_cons_zero, List.set_cons_succ, i64_w, i32_w]
                                                                                      rfl
                                                                                    refine pure_ (i := 36) (N := some 136) (v := ?_) (a' := ?_) #[true, true, true, true, true, true, true, true, true, true, true, true, true, true, true, true, true, true, true, true, true, true, true, true, true, true, true, true, true, true, true, true, true, true, true, true, true, false, false, false, false, false, false] rfl rfl (any_of HT_.out (by kernel_rfl)) (fun _ _ _ h => h) (Or.inl ⟨by rfl, ?_⟩) ?_ ?_
                                                                                    rotate_left
                                                                                    · intro w'
                                                                                      go_simp
                                                                                      with_reducible rfl
                                                                                    rotate_left
                                                                                    · simp only [Act.put, List.setIfInBounds_toArray, List.set_cons_zero, List.set_cons_succ, i64_w, i32_w]
                                                                                      rfl
                                                                                    refine pure_ (i := 37) (N := some 137) (v := ?_) (a' := ?_) #[true, true, true, true, true, true, true, true, true, true, true, true, true, true, true, true, true, true, true, true, true, true, true, true, true, true, true, true, true, true, true, true, true, true, true, true, true, true, false, false, false, false, false] rfl rfl (any_of HT_.out (by kernel_rfl)) (fun _ _ _ h => h) (Or.inl ⟨by rfl, ?_⟩) ?_ ?_
                                                                                    rotate_left
                                                                                    · intro w'
                                                                                      go_simp
                                                                                      with_reducible rfl
                                                                                    rotate_left
                                                                                    · simp only [Act.put, List.setIfInBounds_toArray, List.set_cons_zero, List.set_cons_succ, i64_w, i32_w]
                                                                                      rfl
                                                                                    refine pure_ (i := 38) (N := some 138) (v := ?_) (a' := ?_) #[true, true, true, true, true, true, true, true, true, true, true, true, true, true, true, true, true, true, true, true, true, true, true, true, true, true, true, true, true, true, true, true, true, true, true, true, true, true, true, false, false, false, false] rfl rfl (any_of HT_.out (by kernel_rfl)) (fun _ _ _ h => h) (Or.inl ⟨by rfl, ?_⟩) ?_ ?_
                                                                                    rotate_left
                                                                                    · intro w'
                                                                                      go_simp
                                                                                      with_reducible rfl
                                                                                    rotate_left
                                                                                    · simp only [Act.put, List.setIfInBounds_toArray, List.set_cons_zero, List.set_cons_succ, i64_w, i32_w]
                                                                                      rfl
                                                                                    refine pure_ (i := 39) (N := some 23) (v := ?_) (a' := ?_) #[true, true, true, true, true, true, true, true, true, true, true, true, true, true, true, true, true, true, true, true, true, true, true, true, true, true, true, true, true, true, true, true, true, true, true, true, true, true, true, true, false, false, false] rfl rfl (any_of HT_.out (by kernel_rfl)) (fun _ _ _ h => h) (Or.inl ⟨by rfl, ?_⟩) ?_ ?_
                                                                                    rotate_left
                                                                                    · intro w'
                                                                                      go_simp
                                                                                      with_reducible rfl
                                                                                    rotate_left
                                                                                    · simp only [Act.put, List.setIfInBounds_toArray, List.set_cons_zero, List.set_cons_succ, i64_w, i32_w]
                                                                                      rfl
                                                                                    refine pure_ (i := 40) (N := some 24) (v := ?_) (a' := ?_) #[true, true, true, true, true, true, true, true, true, true, true, true, true, true, true, true, true, true, true, true, true, true, true, true, true, true, true, true, true, true, true, true, true, true, true, true, true, true, true, true, true, false, false] rfl rfl (any_of HT_.out (by kernel_rfl)) (fun _ _ _ h => h) (Or.inl ⟨by rfl, ?_⟩) ?_ ?_
                                                                                    rotate_left
                                                                                    · intro w'
                                                                                      go_simp
                                                                                      with_reducible rfl
                                                                                    rotate_left
                                                                                    · simp only [Act.put, List.setIfInBounds_toArray, List.set_cons_zero, List.set_cons_succ, i64_w, i32_w]
                                                                                      rfl
                                                                                    refine pure_ (i := 41) (N := some 25) (v := ?_) (a' := ?_) #[true, true, true, true, true, true, true, true, true, true, true, true, true, true, true, true, true, true, true, true, true, true, true, true, true, true, true, true, true, true, true, true, true, true, true, true, true, true, true, true, true, true, false] rfl rfl (any_of HT_.out (by kernel_rfl)) (fun _ _ _ h => h) (Or.inl ⟨by rfl, ?_⟩) ?_ ?_
                                                                                    rotate_left
                                                                                    · intro w'
                                                                                      go_simp
                                                                                      with_reducible rfl
                                                                                    rotate_left
                                                                                    · simp only [Act.put, List.setIfInBounds_toArray, List.set_cons_zero, List.set_cons_succ, i64_w, i32_w]
                                                                                      rfl
                                                                                    refine pure_ (i := 42) (N := some 26) (v := ?_) (a' := ?_) #[true, true, true, true, true, true, true, true, true, true, true, true, true, true, true, true, true, true, true, true, true, true, true, true, true, true, true, true, true, true, true, true, true, true, true, true, true, true, true, true, true, true, true] rfl rfl (any_of HT_.out (by kernel_rfl)) (fun _ _ _ h => h) (Or.inl ⟨by rfl, ?_⟩) ?_ ?_
                                                                                    rotate_left
                                                                                    · intro w'
                                                                                      go_simp
                                                                                      with_reducible rfl
                                                                                    rotate_left
                                                                                    · simp only [Act.put, List.setIfInBounds_toArray, List.set_cons_zero, List.set_cons_succ, i64_w, i32_w]
                                                                                      rfl
                                                                                    refine done_ (done_of HT_.out (by kernel_rfl)) ?_
                                                                                    have nn13 := Aside0.mk (Kd.R_drewN HO_13.out nd)
                                                                                    have nn15 := Aside0.mk (Kd.R_drewN HO_15.out nd)
                                                                                    have nnB := Aside0.mk (pw_below_drewN HB.out nd)
                                                                                    clear HO_13 HO_15 HB
                                                                                    have HO_13 := nn13
                                                                                    have HO_15 := nn15
                                                                                    have HB := nnB
                                                                                    clear nn13 nn15 nnB
                                                                                    generalize w81.drewN nd = w81q at HO_13 HO_15 HB ⊢
                                                                                    have p76 : 0 ≤ ((rd l2 (ji45)) : Int) := of_decide_eq_true (by first | (with_reducible assumption) | assumption)
                                                                                    have q76 : ((rd l2 (ji45)) : Int) < ((x15_4.length : Int) : Int) := of_decide_eq_true (by first | (with_reducible assumption) | assumption)
                                                                                    obtain ⟨hx76_0, hf76_0⟩ := Kd.R_celln 0 HO_15.out ((rd l2 (ji45)) : Int) p76 q76
                                                                                    replace p76 := eq_true p76
                                                                                    replace q76 := eq_true q76
                                                                                    obtain ⟨hy83_, hz83_⟩ := Kd.R_celln 0 HO_15.out ((rd l2 (ji45)) : Int) (of_decide_eq_true (by first | (with_reducible assumption) | assumption)) (of_decide_eq_true (by first | (with_reducible assumption) | assumption))
                                                                                    have HP83 := Kd.R_putg HO_15.out ((rd l2 (ji45)) : Int) t138
                                                                                    try go_wp2_with (first | ((with_reducible refine gate_store (t := 29) (p := 142) rfl ?_); refine store_event (t := 29) (p := 142) (v := ?vo_w84) (w1 := (w81q.setCell ⟨go25, ((rd l2 (ji45)) : Int).toNat, none⟩ (.int .u32 t138))) ?hg ?ho ?hn ?hr ?_; (case ho => rfl); (case hg => rfl); (case hn => rfl); (case hr => first | (go_simp; done) | (go_simp; rfl)); intro w84 hw; have hg : w81q.grownBy w84 (some go25) := (by rw [hw]; exact HP83.2); have hp_ : Kd.R (Kd.int .u32) 29 w84 w.heap.size (fun k_ => some k_ ≠ (.slice (some ad135) x13_1.length co82 : Value).ownBlock) (.slice (some ⟨go25, 0, none⟩) x15_4.length co33) y142 := (by rw [hw, Ny142.out]; exact HP83.1); clear HP83; have n0_ := Aside0.mk (Kd.R_after (v := (.slice (some ⟨go25, 0, none⟩) x15_4.length co33)) (v1 := (.slice (some ⟨go25, 0, none⟩) x15_4.length co33)) (ok := (fun _ => True)) (by (with_reducible repeat (first | apply Kd.R_alloc | apply Kd.R_drewN | apply Kd.R_drew)); exact Kd.R_mono HO_13.out (fun _ hk => ⟨trivial, hk⟩)) hg (.inl rfl)); have n1_ := Aside0.mk (hp_); have n2_ := Aside0.mk ((by rw [hw]; exact below_set (HB.out) GB25.out : Below w.heap.size w w84)); clear HO_13; clear HO_15; clear HB; have HO_13 := n0_; have HO_15 := n1_; have HB := n2_; clear n0_ n1_ n2_; clear hg hw hp_; have p77 : 0 ≤ ((rd l2 (ji48)) : Int) := of_decide_eq_true (by first | (with_reducible assumption) | assumption); have q77 : ((rd l2 (ji48)) : Int) < ((x15_4.length : Int) : Int) := of_decide_eq_true (by first | (with_reducible assumption) | assumption); obtain ⟨hx77_0, hf77_0⟩ := Kd.R_celln 0 HO_15.out ((rd l2 (ji48)) : Int) p77 q77; replace p77 := eq_true p77; replace q77 := eq_true q77; obtain ⟨hy85_, hz85_⟩ := Kd.R_celln 0 HO_15.out ((rd l2 (ji48)) : Int) (of_decide_eq_true (by first | (with_reducible assumption) | assumption)) (of_decide_eq_true (by first | (with_reducible assumption) | assumption)); have HP85 := Kd.R_putg HO_15.out ((rd l2 (ji48)) : Int) t139) | ((with_reducible refine gate_store (t := 29) (p := 146) rfl ?_); refine store_event (t := 29) (p := 146) (v := ?vo_w86) (w1 := (w84.setCell ⟨go25, ((rd l2 (ji48)) : Int).toNat, none⟩ (.int .u32 t139))) ?hg ?ho ?hn ?hr ?_; (case ho => rfl); (case hg => rfl); (case hn => rfl); (case hr => first | (go_simp; done) | (go_simp; rfl)); intro w86 hw; have hg : w84.grownBy w86 (some go25) := (by rw [hw]; exact HP85.2); have hp_ : Kd.R (Kd.int .u32) 29 w86 w.heap.size (fun k_ => some k_ ≠ (.slice (some ad135) x13_1.length co82 : Value).ownBlock) (.slice (some ⟨go25, 0, none⟩) x15_4.length co33) y143 := (by rw [hw, Ny143.out]; exact HP85.1); clear HP85; have n0_ := Aside0.mk (Kd.R_after (v := (.slice (some ⟨go25, 0, none⟩) x15_4.length co33)) (v1 := (.slice (some ⟨go25, 0, none⟩) x15_4.length co33)) (ok := (fun _ => True)) (by (with_reducible repeat (first | apply Kd.R_alloc | apply Kd.R_drewN | apply Kd.R_drew)); exact HO_13.out) hg (.inl rfl)); have n1_ := Aside0.mk (hp_); have n2_ := Aside0.mk ((by rw [hw]; exact below_set (HB.out) GB25.out : Below w.heap.size w w86)); clear HO_13; clear HO_15; clear HB; have HO_13 := n0_; have HO_15 := n1_; have HB := n2_; clear n0_ n1_ n2_; clear hg hw hp_; have p78 : 0 ≤ ((rd l2 (ji51)) : Int) := of_decide_eq_true (by first | (with_reducible assumption) | assumption); have q78 : ((rd l2 (ji51)) : Int) < ((x15_4.length : Int) : Int) := of_decide_eq_true (by first | (with_reducible assumption) | assumption); obtain ⟨hx78_0, hf78_0⟩ := Kd.R_celln 0 HO_15.out ((rd l2 (ji51)) : Int) p78 q78; replace p78 := eq_true p78; replace q78 := eq_true q78; obtain ⟨hy87_, hz87_⟩ := Kd.R_celln 0 HO_15.out ((rd l2 (ji51)) : Int) (of_decide_eq_true (by first | (with_reducible assumption) | assumption)) (of_decide_eq_true (by first | (with_reducible assumption) | assumption)); have HP87 := Kd.R_putg HO_15.out ((rd l2 (ji51)) : Int) t140) | ((with_reducible refine gate_store (t := 29) (p := 150) rfl ?_); refine store_event (t := 29) (p := 150) (v := ?vo_w88) (w1 := (w86.setCell ⟨go25, ((rd l2 (ji51)) : Int).toNat, none⟩ (.int .u32 t140))) ?hg ?ho ?hn ?hr ?_; (case ho => rfl); (case hg => rfl); (case hn => rfl); (case hr => first | (go_simp; done) | (go_simp; rfl)); intro w88 hw; have hg : w86.grownBy w88 (some go25) := (by rw [hw]; exact HP87.2); have hp_ : Kd.R (Kd.int .u32) 29 w88 w.heap.size (fun k_ => some k_ ≠ (.slice (some ad135) x13_1.length co82 : Value).ownBlock) (.slice (some ⟨go25, 0, none⟩) x15_4.length co33) y144 := (by rw [hw, Ny144.out]; exact HP87.1); clear HP87; have n0_ := Aside0.mk (Kd.R_after (v := (.slice (some ⟨go25, 0, none⟩) x15_4.length co33)) (v1 := (.slice (some ⟨go25, 0, none⟩) x15_4.length co33)) (ok := (fun _ => True)) (by (with_reducible repeat (first | apply Kd.R_alloc | apply Kd.R_drewN | apply Kd.R_drew)); exact HO_13.out) hg (.inl rfl)); have n1_ := Aside0.mk (hp_); have n2_ := Aside0.mk ((by rw [hw]; exact below_set (HB.out) GB25.out : Below w.heap.size w w88)); clear HO_13; clear HO_15; clear HB; have HO_13 := n0_; have HO_15 := n1_; have HB := n2_; clear n0_ n1_ n2_; clear hg hw hp_; have p79 : 0 ≤ ((rd l2 (ji54)) : Int) := of_decide_eq_true (by first | (with_reducible assumption) | assumption); have q79 : ((rd l2 (ji54)) : Int) < ((x15_4.length : Int) : Int) := of_decide_eq_true (by first | (with_reducible assumption) | assumption); obtain ⟨hx79_0, hf79_0⟩ := Kd.R_celln 0 HO_15.out ((rd l2 (ji54)) : Int) p79 q79; replace p79 := eq_true p79; replace q79 := eq_true q79; obtain ⟨hy89_, hz89_⟩ := Kd.R_celln 0 HO_15.out ((rd l2 (ji54)) : Int) (of_decide_eq_true (by first | (with_reducible assumption) | assumption)) (of_decide_eq_true (by first | (with_reducible assumption) | assumption)); have HP89 := Kd.R_putg HO_15.out ((rd l2 (ji54)) : Int) t141) | ((with_reducible refine gate_store (t := 29) (p := 154) rfl ?_); refine store_event (t := 29) (p := 154) (v := ?vo_w90) (w1 := (w88.setCell ⟨go25, ((rd l2 (ji54)) : Int).toNat, none⟩ (.int .u32 t141))) ?hg ?ho ?hn ?hr ?_; (case ho => rfl); (case hg => rfl); (case hn => rfl); (case hr => first | (go_simp; done) | (go_simp; rfl)); intro w90 hw; have hg : w88.grownBy w90 (some go25) := (by rw [hw]; exact HP89.2); have hp_ : Kd.R (Kd.int .u32) 29 w90 w.heap.size (fun k_ => some k_ ≠ (.slice (some ad135) x13_1.length co82 : Value).ownBlock) (.slice (some ⟨go25, 0, none⟩) x15_4.length co33) y145 := (by rw [hw, Ny145.out]; exact HP89.1); clear HP89; have n0_ := Aside0.mk (Kd.R_after (v := (.slice (some ⟨go25, 0, none⟩) x15_4.length co33)) (v1 := (.slice (some ⟨go25, 0, none⟩) x15_4.length co33)) (ok := (fun _ => True)) (by (with_reducible repeat (first | apply Kd.R_alloc | apply Kd.R_drewN | apply Kd.R_drew)); exact HO_13.out) hg (.inl rfl)); have n1_ := Aside0.mk (hp_); have n2_ := Aside0.mk ((by rw [hw]; exact below_set (HB.out) GB25.out : Below w.heap.size w w90)); clear HO_13; clear HO_15; clear HB; have HO_13 := n0_; have HO_15 := n1_; have HB := n2_; clear n0_ n1_ n2_; clear hg hw hp_))
                                                                                    (try simp only [← hl15_4])
                                                                                    go_roundg k4
                                                                                    case measure => have := HK1.out; have := HJ25.out; have := HK3.out; have := HK4.out; omega
                                                                                    case rel => exact ⟨(y145), (wrap64 (x18_4 + 1)), (by first | rfl | (simp; done) | (simp [*]; done)), H', ⟨by have := HK1.out; have := HJ25.out; have := HK3.out; have := HK4.out; omega⟩, ⟨by (try simp only [hl15_25]); (try simp only [hl15_3]); (try simp only [hl15_4]); (with_reducible repeat (first | apply Kd.R_alloc | apply Kd.R_drewN | apply Kd.R_drew)); exact Kd.R_mono HO_13.out (fun _ hk => hk.2)⟩, ⟨by (try simp only [hl15_25]); (try simp only [hl15_3]); (try simp only [hl15_4]); (with_reducible repeat (first | apply Kd.R_alloc | apply Kd.R_drewN | apply Kd.R_drew)); exact HO_15.out⟩, ⟨by repeat (first | (with_reducible first | exact HB.out | apply below_alloc | apply pw_below_drewN | apply below_drew1) | exact HB.out)⟩⟩
                                                                                  · rw [if_neg c74] at H
                                                                                    exact absurd H (by simp)
                                                                                · rw [if_neg c73] at H
                                                                                  exact absurd H (by simp)
                                                                              · rw [if_neg c72] at H
                                                                                exact absurd H (by simp)
                                                                            · rw [if_neg c71] at H
                                                                              exact absurd H (by simp)
                                                                          · rw [if_neg c69] at H
                                                                            exact absurd H (by simp)
                                                                        · rw [if_neg c68] at H
                                                                          exact absurd H (by simp)
                                                                      · rw [if_neg c67] at H
                                                                        exact absurd H (by simp)
                                                                    · rw [if_neg c66] at H
                                                                      exact absurd H (by simp)
                                                                  · rw [if_neg c64] at H
                                                                    exact absurd H (by simp)
                                                                · rw [if_neg c63] at H
                                                                  exact absurd H (by simp)
                                                              · rw [if_neg c62] at H
                                                                exact absurd H (by simp)
                                                            · rw [if_neg c61] at H
                                                              exact absurd H (by simp)
                                                          · rw [if_neg c60] at H
                                                            exact absurd H (by simp)
                                                        · rw [if_neg c59] at H
                                                          exact absurd H (by simp)
                                                      · rw [if_neg c58] at H
                                                        exact absurd H (by simp)
                                                    · rw [if_neg c57] at H
                                                      exact absurd H (by simp)
                                                  · rw [if_neg c56] at H
                                                    exact absurd H (by simp)
                                                · rw [if_neg c55] at H
                                                  exact absurd H (by simp)
                                              · rw [if_neg c53] at H
                                                exact absurd H (by simp)
                                            · rw [if_neg c52] at H
                                              exact absurd H (by simp)
                                          · rw [if_neg c50] at H
                                            exact absurd H (by simp)
                                        · rw [if_neg c49] at H
                                          exact absurd H (by simp)
                                      · rw [if_neg c47] at H
                                        exact absurd H (by simp)
                                    · rw [if_neg c46] at H
                                      exact absurd H (by simp)
                                  · rw [if_neg c44] at H
                                    have c44b0 : decide (x18_4 < 8) = false := decide_eq_false c44
                                    clear c44
                                    have H' := Aside0.mk H
                                    clear H
                                    go_wp2
                                    (try simp only [← hl15_3, ← hl15_4])
                                    go_roundg k4
                                    case measure => have := HK1.out; have := HJ25.out; have := HK3.out; have := HK4.out; omega
                                    case rel => exact ⟨(x15_4), (wrap64 (x16_3 + 1)), (by first | rfl | (simp; done) | (simp [*]; done)), H', ⟨by have := HK1.out; have := HJ25.out; have := HK3.out; have := HK4.out; omega⟩, ⟨by (try simp only [hl15_25]); (try simp only [hl15_3]); (try simp only [hl15_4]); (with_reducible repeat (first | apply Kd.R_alloc | apply Kd.R_drewN | apply Kd.R_drew)); exact HO_13.out⟩, ⟨by (try simp only [hl15_25]); (try simp only [hl15_3]); (try simp only [hl15_4]); (with_reducible repeat (first | apply Kd.R_alloc | apply Kd.R_drewN | apply Kd.R_drew)); exact HO_15.out⟩, ⟨by repeat (first | (with_reducible first | exact HB.out | apply below_alloc | apply pw_below_drewN | apply below_drew1) | exact HB.out)⟩⟩
                            · rw [if_neg c43] at H
                              exact absurd H (by simp)
                          · rw [if_neg c42] at H
                            exact absurd H (by simp)
                        · rw [if_neg c41] at H
                          have c41b0 : decide (x16_3 < 10) = false := decide_eq_false c41
                          clear c41
                          by_cases c91 : 8 ≤ 70368744177664
                          · rw [if_pos c91] at H
                            have c91b0 := eq_true c91
                            have c91b1 : decide (8 ≤ 70368744177664) = true := decide_eq_true c91
                            clear c91
                            obtain ⟨y146, hy146⟩ : ∃ y_ : List Int, y_ = (List.replicate 8 0) := ⟨_, rfl⟩
                            replace H : (tuskref02_block.l3 k3 l0 x15_3 y146 0) = some r := by first | (rw [hy146]; with_reducible exact H) | (have H2_ := (Option.bind_some _ _).symm.trans H; rw [hy146]; with_reducible exact H2_) | (have H2_ := (Option.bind_some _ _).symm.trans H; with_reducible exact H2_) | with_reducible exact H | (rw [hy146]; exact H) | exact H
                            have Ny146 := Aside0.mk hy146
                            clear hy146
                            have H' := Aside0.mk H
                            clear H
                            go_wp2_with (first | ((with_reducible refine gate_dst (N := 155) rfl ?_); refine Kd.R_make (Kd.int .u32) _ 29 rfl (N := 155) rfl 41 _ _ rfl 8 rfl rfl Tryd.underlying41 (.int .u32 0) 4 info29 rfl (by decide) (by omega) 0 (ok := fun _ => True) (okp := fun _ => True) rfl (fun _ hk => hk) trivial (by omega) (by omega) (Below.refl _ _) (Nat.le_refl _) ?_; intro v147 w92 ho93 hb hg_ hnew_; clear hg_ hnew_; (first | rw [← Ny146.out] at ho93 | (simp only [Int.reduceToNat] at ho93; rw [← Ny146.out] at ho93)); have n0_ := Aside0.mk (Kd.R_elder' (by (with_reducible repeat (first | apply Kd.R_alloc | apply Kd.R_drewN | apply Kd.R_drew)); exact HO_13.out) (Kd.R_base ho93) hb); have n1_ := Aside0.mk (Kd.R_elder' (by (with_reducible repeat (first | apply Kd.R_alloc | apply Kd.R_drewN | apply Kd.R_drew)); exact HO_15.out) (Kd.R_base ho93) hb); have n2_ := Aside0.mk (Kd.R_lower (Kd.R_new' (Kd.R_new' ho93 (Kd.R_lt (by (with_reducible repeat (first | apply Kd.R_alloc | apply Kd.R_drewN | apply Kd.R_drew)); exact HO_13.out))) (Kd.R_lt (by (with_reducible repeat (first | apply Kd.R_alloc | apply Kd.R_drewN | apply Kd.R_drew)); exact HO_15.out))) (below_size (by repeat (first | (with_reducible first | exact HB.out | apply below_alloc | apply pw_below_drewN | apply below_drew1) | exact HB.out)))); have n3_ := Aside0.mk (below_step (by repeat (first | (with_reducible first | exact HB.out | apply below_alloc | apply pw_below_drewN | apply below_drew1) | exact HB.out)) hb); clear HO_13; clear HO_15; clear HB; have HO_13 := n0_; have HO_15 := n1_; have HO148 := n2_; have HB := n3_; clear n0_ n1_ n2_ n3_; clear hb ho93))
                            go_loopg [28] k3 (fun kq v28 w' => ∃ (x27_4 : List Int) (x28_4 : Int), v28 = .int .i64 x28_4 ∧ Aside0 (tuskref02_block.l3 kq l0 x15_3 x27_4 x28_4 = some r) ∧ Aside0 (kq ≤ k3) ∧ Aside0 (Kd.R (Kd.int .u32) 29 w' w.heap.size (fun k_ => some k_ ≠ (v147 : Value).ownBlock) (.slice (some ⟨go25, 0, none⟩) x15_3.length co33) x15_3) ∧ Aside0 (Kd.R (Kd.int .u32) 29 w' w.heap.size (fun k_ => some k_ ≠ ((.slice (some ⟨go25, 0, none⟩) x15_3.length co33) : Value).ownBlock) v147 x27_4) ∧ Aside0 (Below w.heap.size w w'))
                            case atStart => exact ⟨(y146), (0), (by first | rfl | (simp; done) | (simp [*]; done)), H', ⟨Nat.le_refl _⟩, ⟨by (try simp only [hl15_25]); (try simp only [hl15_3]); (with_reducible repeat (first | apply Kd.R_alloc | apply Kd.R_drewN | apply Kd.R_drew)); exact Kd.R_mono HO_15.out (fun _ hk => hk.2)⟩, ⟨by (try simp only [hl15_25]); (try simp only [hl15_3]); (with_reducible repeat (first | apply Kd.R_alloc | apply Kd.R_drewN | apply Kd.R_drew)); exact Kd.R_mono HO148.out (fun _ hk => hk.2)⟩, ⟨by repeat (first | (with_reducible first | exact HB.out | apply below_alloc | apply pw_below_drewN | apply below_drew1) | exact HB.out)⟩⟩
                            case round =>
                              clear H'
                              try clear p1
                              try clear q1
                              try clear hx1
                              try clear c2
                              try clear p2
                              try clear c4
                              try clear c5
                              try clear c6
                              try clear p6
                              try clear c7
                              try clear p7
                              try clear q7
                              try clear hx7
                              try clear hf7
                              try clear c9
                              try clear p13
                              try clear q13
                              try clear hx13
                              try clear c28
                              try clear c41
                              try clear c41b0
                              try clear c42
                              try clear c43
                              try clear c44
                              try clear c44b0
                              try clear c46
                              try clear c47
                              try clear c49
                              try clear c50
                              try clear c52
                              try clear c53
                              try clear c55
                              try clear c56
                              try clear c57
                              try clear c58
                              try clear c59
                              try clear c60
                              try clear c61
                              try clear c62
                              try clear c63
                              try clear c64
                              try clear p64
                              try clear c66
                              try clear c67
                              try clear c68
                              try clear c69
                              try clear c71
                              try clear c72
                              try clear c73
                              try clear c74
                              try clear p76
                              try clear q76
                              try clear hx76
                              try clear hf76
                              try clear p77
                              try clear q77
                              try clear hx77
                              try clear hf77
                              try clear p78
                              try clear q78
                              try clear hx78
                              try clear hf78
                              try clear p79
                              try clear q79
                              try clear hx79
                              try clear hf79
                              try clear c91
                              try clear c91b0
                              try clear c91b1
                              try clear hx130_0
                              try clear hx131_0
                              try clear hx132_0
                              try clear hx133_0
                              try clear hx134_0
                              try clear hx135_0
                              try clear hx136_0
                              try clear hx137_0
                              try clear hx76_0
                              try clear hx77_0
                              try clear hx78_0
                              try clear hx79_0
                              try clear p130
                              try clear p131
                              try clear p132
                              try clear p133
                              try clear p134
                              try clear p135
                              try clear p136
                              try clear p137
                              try clear p76
                              try clear p77
                              try clear p78
                              try clear p79
                              try clear q130
                              try clear q131
                              try clear q132
                              try clear q133
                              try clear q134
                              try clear q135
                              try clear q136
                              try clear q137
                              try clear q76
                              try clear q77
                              try clear q78
                              try clear q79
                              obtain ⟨x27_4, x28_4, rfl, HA, HK4, HO_15, HO_27, HB⟩ := hrel
                              cases gk with
                              | zero => exact absurd HA.out (by simp [tuskref02_block.l3])
                              | succ k4 =>
                                have H := HA.out
                                clear HA
                                simp only [tuskref02_block.l3] at H
                                by_cases c94 : x28_4 < 8
                                · rw [if_pos c94] at H
                                  have c94b0 : decide (x28_4 < 8) = true := decide_eq_true c94
                                  clear c94
                                  by_cases c95 : 0 ≤ x28_4
                                  · rw [if_pos c95] at H
                                    have c95b0 : decide (0 ≤ x28_4) = true := decide_eq_true c95
                                    clear c95
                                    by_cases c96 : x28_4 < (l0.length : Int)
                                    · rw [if_pos c96] at H
                                      have c96b0 : decide (x28_4 < (l0.length : Int)) = true := decide_eq_true c96
                                      clear c96
                                      by_cases c97 : x28_4 < (x15_3.length : Int)
                                      · rw [if_pos c97] at H
                                        have c97b0 : decide (x28_4 < (x15_3.length : Int)) = true := decide_eq_true c97
                                        clear c97
                                        obtain ⟨ji98, hji98⟩ : ∃ j_ : Int, (wrap64 (x28_4 + 8)) = j_ := ⟨_, rfl⟩
                                        replace H : (if 0 ≤ (ji98) then (if (ji98) < (x15_3.length : Int) then (if x28_4 < (x27_4.length : Int) then (tuskref02_block.l3 k4 l0 x15_3 (x27_4.set (x28_4 : Int).toNat (Go.bits .xor .u32 (Go.bits .xor .u32 (rd l0 x28_4) (rd x15_3 x28_4)) (rd x15_3 (ji98)))) (wrap64 (x28_4 + 1))) else (none)) else (none)) else (none)) = some r := by first | (rw [hji98] at H; exact H) | (simp only [hji98] at H ⊢; exact H)
                                        have hji98w : (IntKind.i64.wrap (x28_4 + 8)) = ji98 := (i64_w _).trans hji98
                                        by_cases c99 : 0 ≤ (ji98)
                                        · rw [if_pos c99] at H
                                          have c99b0 : decide (0 ≤ (ji98)) = true := decide_eq_true c99
                                          clear c99
                                          by_cases c100 : (ji98) < (x15_3.length : Int)
                                          · rw [if_pos c100] at H
                                            have c100b0 : decide ((ji98) < (x15_3.length : Int)) = true := decide_eq_true c100
                                            clear c100
                                            by_cases c101 : x28_4 < (x27_4.length : Int)
                                            · rw [if_pos c101] at H
                                              have c101b0 : decide (x28_4 < (x27_4.length : Int)) = true := decide_eq_true c101
                                              clear c101
                                              obtain ⟨y152, hy152⟩ : ∃ y_ : List Int, y_ = (x27_4.set (x28_4 : Int).toNat (Go.bits .xor .u32 (Go.bits .xor .u32 (rd l0 x28_4) (rd x15_3 x28_4)) (rd x15_3 (ji98)))) := ⟨_, rfl⟩
                                              replace H : (tuskref02_block.l3 k4 l0 x15_3 y152 (wrap64 (x28_4 + 1))) = some r := by first | (rw [hy152]; with_reducible exact H) | (have H2_ := (Option.bind_some _ _).symm.trans H; rw [hy152]; with_reducible exact H2_) | (have H2_ := (Option.bind_some _ _).symm.trans H; with_reducible exact H2_) | with_reducible exact H | (rw [hy152]; exact H) | exact H
                                              have Ny152 := Aside0.mk hy152
                                              clear hy152
                                              have H' := Aside0.mk H
                                              clear H
                                              try go_wp2
                                              have n0_ := Aside0.mk (Kd.R_drew HO_15.out)
                                              have n1_ := Aside0.mk (Kd.R_drew HO_27.out)
                                              have n2_ := Aside0.mk (below_drew1 HB.out)
                                              clear HO_15
                                              clear HO_27
                                              clear HB
                                              have HO_15 := n0_
                                              have HO_27 := n1_
                                              have HB := n2_
                                              clear n0_ n1_ n2_
                                              have p149 : 0 ≤ (x28_4 : Int) := of_decide_eq_true (by first | (with_reducible assumption) | assumption)
                                              have q149 : x28_4 < (l0.length : Int) := of_decide_eq_true (by first | (with_reducible assumption) | assumption)
                                              obtain ⟨ad149, e149, hx149_0⟩ := Kd.at_int HR0.out x28_4 p149 q149
                                              have hw149_0 := hx149_0
                                              cases e149
                                              replace hx149_0 := (HB.out.cell (World.block_lt_of_cell? w _ hx149_0)).trans hx149_0
                                              replace p149 := eq_true p149
                                              replace q149 := eq_true q149
                                              have p150 : 0 ≤ (x28_4 : Int) := of_decide_eq_true (by first | (with_reducible assumption) | assumption)
                                              have q150 : x28_4 < (x15_3.length : Int) := of_decide_eq_true (by first | (with_reducible assumption) | assumption)
                                              obtain ⟨ad150, e150, hx150_0⟩ := Kd.at_int (Kd.R_reads' HO_15.out).2.2 x28_4 p150 q150
                                              obtain rfl : (⟨go25, 0, none⟩ : Addr) = ad150 := (by injection e150)
                                              (first | simp only [add_plain] at hx150_0 | simp only [add_at] at hx150_0 | simp only [Addr.add, Nat.zero_add] at hx150_0 | skip)
                                              replace p150 := eq_true p150
                                              replace q150 := eq_true q150
                                              have p151 : 0 ≤ ((ji98) : Int) := of_decide_eq_true (by first | (with_reducible assumption) | assumption)
                                              have q151 : (ji98) < (x15_3.length : Int) := of_decide_eq_true (by first | (with_reducible assumption) | assumption)
                                              obtain ⟨ad151, e151, hx151_0⟩ := Kd.at_int (Kd.R_reads' HO_15.out).2.2 (ji98) p151 q151
                                              obtain rfl : (⟨go25, 0, none⟩ : Addr) = ad151 := (by injection e151)
                                              (first | simp only [add_plain] at hx151_0 | simp only [add_at] at hx151_0 | simp only [Addr.add, Nat.zero_add] at hx151_0 | skip)
                                              replace p151 := eq_true p151
                                              replace q151 := eq_true q151
                                              have p102 : 0 ≤ (x28_4 : Int) := of_decide_eq_true (by first | (with_reducible assumption) | assumption)
                                              have q102 : (x28_4 : Int) < ((x27_4.length : Int) : Int) := of_decide_eq_true (by first | (with_reducible assumption) | assumption)
                                              obtain ⟨go102, co102, eo102, gb102, gl102, cl102, HG102⟩ := Kd.R_form HO_27.out (by omega)
                                              (first | cases eo102 | (injection eo102 with ea_ en_ ec_; (first | subst ea_ | (injection ea_ with ea_; subst ea_)); subst ec_; clear en_))
                                              have GB102 := Aside0.mk gb102
                                              have GG102 := Aside0.mk HG102
                                              clear gb102 gl102 HG102
                                              obtain ⟨hx102_0, hf102_0⟩ := Kd.R_celln 0 HO_27.out (x28_4 : Int) p102 q102
                                              replace p102 := eq_true p102
                                              replace q102 := eq_true q102
                                              have HP104 := Kd.R_putn HO_27.out (x28_4 : Int) (Go.bits .xor .u32 (Go.bits .xor .u32 (rd l0 x28_4) (rd x15_3 x28_4)) (rd x15_3 (ji98)))
                                              rw [← Ny152.out] at HP104
                                              have HQ104 := Aside0.mk HP104
                                              clear HP104
                                              refine start_ (n := 19) (S := fun w' => w'.cell? (ad149.add (x28_4).toNat) = some (.int .u32 (rd l0 x28_4)) ∧ w'.cell? ⟨go25, (x28_4).toNat, none⟩ = some (.int .u32 (rd x15_3 x28_4)) ∧ w'.cell? ⟨go25, ((ji98)).toNat, none⟩ = some (.int .u32 (rd x15_3 (ji98)))) (ds := [18]) #[false, false, false, false, false, false, false, false, false, false, false, false, false, false, false, false, false, false, false] (by kernel_rfl) rfl rfl ⟨((HB.out.cell (World.block_lt_of_cell? w _ hw149_0)).trans hw149_0), hx150_0, hx151_0⟩ (fun hHeld => ?_); refine with_tabW tuskref02_block.tab27 tuskref02_block.bits27 (fun HT_ HW_ => ?_)
                                              generalize wr.drew = w103 at HO_15 HO_27 HB GG102 HQ104 hf102_0 hx102_0 hx149_0 hx150_0 hx151_0 hHeld ⊢
                                              refine pure_ (i := 0) (N := some 160) (v := ?_) (a' := ?_) #[true, false, false, false, false, false, false, false, false, false, false, false, false, false, false, false, false, false, false] rfl rfl (any_of HT_.out (by kernel_rfl)) (fun _ _ _ h => h) (Or.inl ⟨by rfl, ?_⟩) ?_ ?_
                                              rotate_left
                                              · intro w'
                                                go_simp
                                                with_reducible rfl
                                              rotate_left
                                              · simp only [Act.put, List.setIfInBounds_toArray, List.set_cons_zero, List.set_cons_succ, i64_w, i32_w]
                                                rfl
                                              refine pure_ (i := 1) (N := some 161) (v := ?_) (a' := ?_) #[true, true, false, false, false, false, false, false, false, false, false, false, false, false, false, false, false, false, false] rfl rfl (any_of HT_.out (by kernel_rfl)) (fun _ _ _ h => h) (Or.inl ⟨by rfl, ?_⟩) ?_ ?_
                                              rotate_left
                                              · intro w'
                                                go_simp
                                                with_reducible rfl
                                              rotate_left
                                              · simp only [Act.put, List.setIfInBounds_toArray, List.set_cons_zero, List.set_cons_succ, i64_w, i32_w]
                                                rfl
                                              refine pure_ (i := 2) (N := some 162) (v := ?_) (a' := ?_) #[true, true, true, false, false, false, false, false, false, false, false, false, false, false, false, false, false, false, false] rfl rfl (any_of HT_.out (by kernel_rfl)) (fun _ _ _ h => h) (Or.inl ⟨by rfl, ?_⟩) ?_ ?_
                                              rotate_left
                                              · intro w'
                                                go_simp
                                                with_reducible rfl
                                              rotate_left
                                              · simp only [Act.put, List.setIfInBounds_toArray, List.set_cons_zero, List.set_cons_succ, i64_w, i32_w]
                                                rfl
                                              refine pure_ (i := 3) (N := some 163) (v := ?_) (a' := ?_) #[true, true, true, true, false, false, false, false, false, false, false, false, false, false, false, false, false, false, false] rfl rfl (any_of HT_.out (by kernel_rfl)) (fun _ _ _ h => h) (Or.inl ⟨by rfl, ?_⟩) ?_ ?_
                                              rotate_left
                                              · intro w'
                                                go_simp
                                                with_reducible rfl
                                              rotate_left
                                              · simp only [Act.put, List.setIfInBounds_toArray, List.set_cons_zero, List.set_cons_succ, i64_w, i32_w]
                                                rfl
                                              refine pure_ (i := 4) (N := some 164) (v := ?_) (a' := ?_) #[true, true, true, true, true, false, false, false, false, false, false, false, false, false, false, false, false, false, false] rfl rfl (any_of HT_.out (by kernel_rfl)) (fun _ _ _ h => h) (Or.inl ⟨by rfl, ?_⟩) ?_ ?_
                                              rotate_left
                                              · intro w'
                                                go_simp
                                                with_reducible rfl
                                              rotate_left
                                              · simp only [Act.put, List.setIfInBounds_toArray, List.set_cons_zero, List.set_cons_succ, i64_w, i32_w]
                                                rfl
                                              refine pure_ (i := 6) (N := some 166) (v := ?_) (a' := ?_) #[true, true, true, true, true, false, true, false, false, false, false, false, false, false, false, false, false, false, false] rfl rfl (any_of HT_.out (by kernel_rfl)) (fun _ _ _ h => h) (Or.inl ⟨by rfl, ?_⟩) ?_ ?_
                                              rotate_left
                                              · intro w'
                                                go_simp
                                                with_reducible rfl
                                              rotate_left
                                              · simp only [Act.put, List.setIfInBounds_toArray, List.set_cons_zero, List.set_cons_succ, i64_w, i32_w]
                                                rfl
                                              refine pure_ (i := 7) (N := some 167) (v := ?_) (a' := ?_) #[true, true, true, true, true, false, true, true, false, false, false, false, false, false, false, false, false, false, false] rfl rfl (any_of HT_.out (by kernel_rfl)) (fun _ _ _ h => h) (Or.inl ⟨by rfl, ?_⟩) ?_ ?_
                                              rotate_left
                                              · intro w'
                                                go_simp
                                                with_reducible rfl
                                              rotate_left
                                              · simp only [Act.put, List.setIfInBounds_toArray, List.set_cons_zero, List.set_cons_succ, i64_w, i32_w]
                                                rfl
                                              refine pure_ (i := 8) (N := some 168) (v := ?_) (a' := ?_) #[true, true, true, true, true, false, true, true, true, false, false, false, false, false, false, false, false, false, false] rfl rfl (any_of HT_.out (by kernel_rfl)) (fun _ _ _ h => h) (Or.inl ⟨by rfl, ?_⟩) ?_ ?_
                                              rotate_left
                                              · intro w'
                                                go_simp
                                                with_reducible rfl
                                              rotate_left
                                              · simp only [Act.put, List.setIfInBounds_toArray, List.set_cons_zero, List.set_cons_succ, i64_w, i32_w]
                                                rfl
                                              refine pure_ (i := 11) (N := some 171) (v := ?_) (a' := ?_) #[true, true, true, true, true, false, true, true, true, false, false, true, false, false, false, false, false, false, false] rfl rfl (any_of HT_.out (by kernel_rfl)) (fun _ _ _ h => h) (Or.inl ⟨by rfl, ?_⟩) ?_ ?_
                                              rotate_left
                                              · intro w'
                                                go_simp
                                                with_reducible rfl
                                              rotate_left
                                              · simp only [Act.put, List.setIfInBounds_toArray, List.set_cons_zero, List.set_cons_succ, i64_w, i32_w]
                                                rfl
                                              refine pure_ (i := 12) (N := some 172) (v := ?_) (a' := ?_) #[true, true, true, true, true, false, true, true, true, false, false, true, true, false, false, false, false, false, false] rfl rfl (any_of HT_.out (by kernel_rfl)) (fun _ _ _ h => h) (Or.inl ⟨by rfl, ?_⟩) ?_ ?_
                                              rotate_left
                                              · intro w'
                                                go_simp
                                                with_reducible rfl
                                              rotate_left
                                              · simp only [Act.put, List.setIfInBounds_toArray, List.set_cons_zero, List.set_cons_succ, i64_w, i32_w]
                                                rfl
                                              refine pure_ (i := 13) (N := some 173) (v := ?_) (a' := ?_) #[true, true, true, true, true, false, true, true, true, false, false, true, true, true, false, false, false, false, false] rfl rfl (any_of HT_.out (by kernel_rfl)) (fun _ _ _ h => h) (Or.inl ⟨by rfl, ?_⟩) ?_ ?_
                                              rotate_left
                                              · intro w'
                                                go_simp
                                                with_reducible rfl
                                              rotate_left
                                              · simp only [Act.put, List.setIfInBounds_toArray, List.set_cons_zero, List.set_cons_succ, i64_w, i32_w]
                                                rfl
                                              refine pure_ (i := 14) (N := some 174) (v := ?_) (a' := ?_) #[true, true, true, true, true, false, true, true, true, false, false, true, true, true, true, false, false, false, false] rfl rfl (any_of HT_.out (by kernel_rfl)) (fun _ _ _ h => h) (Or.inl ⟨by rfl, ?_⟩) ?_ ?_
                                              rotate_left
                                              · intro w'
                                                go_simp
                                                with_reducible rfl
                                              rotate_left
                                              · simp only [Act.put, List.setIfInBounds_toArray, List.set_cons_zero, List.set_cons_succ, i64_w, i32_w]
                                                rfl
                                              refine take_ (i := 5) (N := some 165) (v := ?_) (a' := ?_) #[true, true, true, true, true, true, true, true, true, false, false, true, true, true, true, false, false, false, false] rfl rfl (take_ofW HT_.out HW_.out (by kernel_rfl)) (fun _ _ _ h => h) (Or.inl ⟨by rfl, ?_⟩) hHeld ?_ ?_
                                              rotate_left
                                              · rintro w' ⟨s0, s1, s2⟩
                                                go_simp
                                                with_reducible rfl
                                              rotate_left
                                              · simp only [Act.put, List.setIfInBounds_toArray, List.set_cons_zero, List.set_cons_succ, i64_w, i32_w]
                                                rfl
                                              refine take_ (i := 9) (N := some 169) (v := ?_) (a' := ?_) #[true, true, true, true, true, true, true, true, true, true, false, true, true, true, true, false, false, false, false] rfl rfl (take_ofW HT_.out HW_.out (by kernel_rfl)) (fun _ _ _ h => h) (Or.inl ⟨by rfl, ?_⟩) hHeld ?_ ?_
                                              rotate_left
                                              · rintro w' ⟨s0, s1, s2⟩
                                                go_simp
                                                with_reducible rfl
                                              rotate_left
                                              · simp only [Act.put, List.setIfInBounds_toArray, List.set_cons_zero, List.set_cons_succ, i64_w, i32_w]
                                                rfl
                                              refine pure_ (i := 10) (N := some 170) (v := ?_) (a' := ?_) #[true, true, true, true, true, true, true, true, true, true, true, true, true, true, true, false, false, false, false] rfl rfl (any_of HT_.out (by kernel_rfl)) (fun _ _ _ h => h) (Or.inl ⟨by rfl, ?_⟩) ?_ ?_
                                              rotate_left
                                              · intro w'
                                                go_simp
                                                with_reducible rfl
                                              rotate_left
                                              · simp only [Act.put, List.setIfInBounds_toArray, List.set_cons_zero, List.set_cons_succ, i64_w, i32_w]
                                                rfl
                                              refine take_ (i := 15) (N := some 175) (v := ?_) (a' := ?_) #[true, true, true, true, true, true, true, true, true, true, true, true, true, true, true, true, false, false, false] rfl rfl (take_ofW HT_.out HW_.out (by kernel_rfl)) (fun _ _ _ h => h) (Or.inl ⟨by rfl, ?_⟩) hHeld ?_ ?_
                                              rotate_left
                                              · rintro w' ⟨s0, s1, s2⟩
                                                go_simp
                                                with_reducible rfl
                                              rotate_left
                                              · simp only [Act.put, List.setIfInBounds_toArray, List.set_cons_zero, List.set_cons_succ, i64_w, i32_w]
                                                rfl
                                              refine pure_ (i := 16) (N := some 176) (v := ?_) (a' := ?_) #[true, true, true, true, true, true, true, true, true, true, true, true, true, true, true, true, true, false, false] rfl rfl (any_of HT_.out (by kernel_rfl)) (fun _ _ _ h => h) (Or.inl ⟨by rfl, ?_⟩) ?_ ?_
                                              rotate_left
                                              · intro w'
                                                go_simp
                                                with_reducible rfl
                                              rotate_left
                                              · simp only [Act.put, List.setIfInBounds_toArray, List.set_cons_zero, List.set_cons_succ, i64_w, i32_w]
                                                rfl
                                              refine pure_ (i := 17) (N := some 177) (v := ?_) (a' := ?_) #[true, true, true, true, true, true, true, true, true, true, true, true, true, true, true, true, true, true, false] rfl rfl (any_of HT_.out (by kernel_rfl)) (fun _ _ _ h => h) (Or.inl ⟨by rfl, ?_⟩) ?_ ?_
                                              rotate_left
                                              · intro w'
                                                go_simp
                                                with_reducible rfl
                                              rotate_left
                                              · simp only [Act.put, List.setIfInBounds_toArray, List.set_cons_zero, List.set_cons_succ, i64_w, i32_w]
                                                rfl
                                              refine last_ (i := 18) (N := none) #[true, true, true, true, true, true, true, true, true, true, true, true, true, true, true, true, true, true, true] rfl rfl (one_of HT_.out (by kernel_rfl)) (by decide) (fun K hK => ?_)
                                              refine skip_ (w1 := ?_) (by rfl) rfl ?_ ?_
                                              rotate_left
                                              · go_simp
                                                rfl
                                              refine hK.out _ _ ?_
                                              clear hK K
                                              refine done_ (done_of HT_.out (by kernel_rfl)) ?_
                                              try go_wp2
                                              go_roundg k4
                                              case measure => have := HK1.out; have := HJ25.out; have := HK3.out; have := HK4.out; omega
                                              case rel => exact ⟨(y152), (wrap64 (x28_4 + 1)), (by first | rfl | (simp; done) | (simp [*]; done)), H', ⟨by have := HK1.out; have := HJ25.out; have := HK3.out; have := HK4.out; omega⟩, ⟨by (try simp only [hl15_25]); (try simp only [hl15_3]); (with_reducible repeat (first | apply Kd.R_alloc | apply Kd.R_drewN | apply Kd.R_drew)); exact Kd.R_mono (Kd.R_far (p := ⟨go102, (x28_4 : Int).toNat, none⟩) (Kd.R_mono HO_15.out (fun k_ hk => (⟨hk, fun e_ => hk (by rw [e_]; rfl)⟩ : _ ∧ k_ ≠ go102))) (fun _ hk => hk.2) (.int .u32 (Go.bits .xor .u32 (Go.bits .xor .u32 (rd l0 x28_4) (rd x15_3 x28_4)) (rd x15_3 (ji98))))) (fun _ hk => hk.1)⟩, ⟨by (try simp only [hl15_25]); (try simp only [hl15_3]); (with_reducible repeat (first | apply Kd.R_alloc | apply Kd.R_drewN | apply Kd.R_drew)); exact HQ104.out⟩, ⟨by repeat (first | (with_reducible first | exact HB.out | apply below_alloc | apply pw_below_drewN | apply below_drew1 | refine below_set ?_ GB102.out) | exact HB.out)⟩⟩
                                            · rw [if_neg c101] at H
                                              exact absurd H (by simp)
                                          · rw [if_neg c100] at H
                                            exact absurd H (by simp)
                                        · rw [if_neg c99] at H
                                          exact absurd H (by simp)
                                      · rw [if_neg c97] at H
                                        exact absurd H (by simp)
                                    · rw [if_neg c96] at H
                                      exact absurd H (by simp)
                                  · rw [if_neg c95] at H
                                    exact absurd H (by simp)
                                · rw [if_neg c94] at H
                                  have c94b0 : decide (x28_4 < 8) = false := decide_eq_false c94
                                  clear c94
                                  obtain rfl := Option.some.inj H
                                  go_wp2
                                  go_ret
                                  exact ⟨_, by first | rfl | (simp [errW_none, errW_some] <;> rfl) | (simp [*, errW_none, errW_some] <;> rfl), by (with_reducible repeat (first | apply Kd.R_alloc | apply Kd.R_drewN | apply Kd.R_drew)); exact Kd.R_mono HO_27.out (fun _ hk => trivial), by repeat (first | (with_reducible first | exact HB.out | apply below_alloc | apply pw_below_drewN | apply below_drew1) | exact HB.out)⟩
                          · rw [if_neg c91] at H
                            exact absurd H (by simp)
              · rw [if_neg c24] at H
                exact absurd H (by simp)
            · rw [if_neg c23] at H
              exact absurd H (by simp)
          · rw [if_neg c21] at H
            exact absurd H (by simp)
  · rw [if_neg c7] at H
    exact absurd H (by simp)

end Go.Proofs.YtflnlkaednpenaaDoor.QBaseD
