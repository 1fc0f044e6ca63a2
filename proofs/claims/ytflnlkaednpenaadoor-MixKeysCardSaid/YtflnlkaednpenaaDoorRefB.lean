/- The document's block: what the printed function computes. -/
import Derived.Test.YtflnlkaednpenaaDoorRefN
import Derived.Test.YtflnlkaednpenaaDoorQBaseDx2
import Derived.Test.YtflnlkaednpenaaDoorQBaseDx3
namespace Go.Proofs.YtflnlkaednpenaaDoor.RefB
open Go.RowKit Go.Proofs.YtflnlkaednpenaaDoorW.PrintWords Go.Proofs.YtflnlkaednpenaaDoorW.PrintMore Go.Proofs.YtflnlkaednpenaaDoor.MixW Go.Proofs.YtflnlkaednpenaaDoor.MixV Go.Proofs.YtflnlkaednpenaaDoor.MixB Go.Proofs.YtflnlkaednpenaaDoor.MixX Go.Proofs.YtflnlkaednpenaaDoor.MixF Go.Proofs.YtflnlkaednpenaaDoor.QKinds Go.Proofs.YtflnlkaednpenaaDoor.QBaseD Go.Proofs.YtflnlkaednpenaaDoor.RefP Go.Proofs.YtflnlkaednpenaaDoor.RefN
set_option linter.unusedVariables false
set_option linter.unusedSimpArgs false
def plL : List Int := [0, 4, 8, 12, 1, 5, 9, 13, 2, 6, 10, 14, 3, 7, 11, 15, 0, 5, 10, 15, 1, 6, 11, 12, 2, 7, 8, 13, 3, 4, 9, 14]
def rwL : List (List Int) := (List.range 10).map Go.Proofs.YtflnlkaednpenaaDoor.MixB.rowAt
theorem places_f : tuskref02_places.f = some plL := by kernel_rfl
theorem rows_f : tuskref02_rows.f = some rwL := by kernel_rfl
theorem w64 (x : Int) (h0 : -9223372036854775808 ≤ x) (h1 : x ≤ 9223372036854775807) : wrap64 x = x := IntWalk.wrap64_in x ⟨h0, h1⟩
theorem rd_nat (xs : List Int) (i : Nat) : rd xs (i : Int) = xs.getD i 0 := by rw [rd, Int.toNat_natCast]
/-- A step of the inner loop: the j-th four numbers. -/
theorem l2_step (k : Nat) (x0 : List Int) (x1 : List (List Int)) (m xs row : List Int) (i : Int) (j p q u v : Nat) (hj : j < 8) (hx : xs.length = 16) (hm : m.length = 16) (hr : row.length = 16) (hq : ∀ t, 0 ≤ row.getD t 0 ∧ row.getD t 0 < 16)
    (e0 : plL.getD (4 * j) 0 = p) (e1 : plL.getD (4 * j + 1) 0 = q) (e2 : plL.getD (4 * j + 2) 0 = u) (e3 : plL.getD (4 * j + 3) 0 = v) (hp : p < 16) (hq' : q < 16) (hu : u < 16) (hv : v < 16) (n1 : p ≠ q) (n2 : p ≠ u) (n3 : p ≠ v) (n4 : q ≠ u) (n5 : q ≠ v) (n6 : u ≠ v) :
    tuskref02_block.l2 (k + 1) x0 x1 plL m xs i row j = tuskref02_block.l2 k x0 x1 plL m (quart xs m row p q u v (2 * j) (2 * j + 1)) i row ((j + 1 : Nat) : Int) := by
  have hpl : plL.length = 32 := rfl
  have a0 : wrap64 (4 * (j : Int)) = ((4 * j : Nat) : Int) := by rw [w64 _ (by omega) (by omega)]; omega
  have a1 : wrap64 (((4 * j : Nat) : Int) + 1) = ((4 * j + 1 : Nat) : Int) := by rw [w64 _ (by omega) (by omega)]; omega
  have a2 : wrap64 (((4 * j : Nat) : Int) + 2) = ((4 * j + 2 : Nat) : Int) := by rw [w64 _ (by omega) (by omega)]; omega
  have a3 : wrap64 (((4 * j : Nat) : Int) + 3) = ((4 * j + 3 : Nat) : Int) := by rw [w64 _ (by omega) (by omega)]; omega
  have a4 : wrap64 (2 * (j : Int)) = ((2 * j : Nat) : Int) := by rw [w64 _ (by omega) (by omega)]; omega
  have a5 : wrap64 (((2 * j : Nat) : Int) + 1) = ((2 * j + 1 : Nat) : Int) := by rw [w64 _ (by omega) (by omega)]; omega
  have a6 : wrap64 ((j : Int) + 1) = ((j + 1 : Nat) : Int) := by rw [w64 _ (by omega) (by omega)]; omega
  obtain ⟨M, hM, hQ⟩ := quart_eq xs m row p q u v (2 * j) (2 * j + 1) hx hp hq' hu hv n1 n2 n3 n4 n5 n6
  clear n1 n2 n3 n4 n5 n6
  have hk1 := hq (2 * j)
  have hk2 := hq (2 * j + 1)
  rw [tuskref02_block.l2]
  simp only [a0, a1, a2, a3, a4, a5, a6, rd_nat, e0, e1, e2, e3]
  clear a0 a1 a2 a3 a4 a5 a6 e0 e1 e2 e3 hq
  have HQ := Aside0.mk hQ
  have HM := Aside0.mk hM
  clear hQ hM
  generalize hg1 : row.getD (2 * j) 0 = g1 at *
  generalize hg2 : row.getD (2 * j + 1) 0 = g2 at *
  clear hg1 hg2
  rw [if_pos (by omega), if_pos (by omega), if_pos (by omega), if_pos (by omega), if_pos (by omega), if_pos (by omega), if_pos (by omega), if_pos (by omega), if_pos (by omega), if_pos (by omega), if_pos (by omega), if_pos (by omega), if_pos (by omega), if_pos (by omega), if_pos (by omega), if_pos (by omega), if_pos (by omega), if_pos (by omega), if_pos (by omega), if_pos (by omega), if_pos (by omega), if_pos (by omega), if_pos (by omega), if_pos (by omega), if_pos (by omega)]
  have r1 : rd m g1 = m.getD g1.toNat 0 := rfl
  have r2 : rd m g2 = m.getD g2.toNat 0 := rfl
  rw [r1, r2, HQ.out, HM.out]
  simp only [tuskref02_mixed.f, Option.bind_some, Int.toNat_natCast]
theorem l2_run (k : Nat) (x0 : List Int) (x1 : List (List Int)) (m xs row : List Int) (i : Int) (hx : xs.length = 16) (hm : m.length = 16) (hr : row.length = 16) (hq : ∀ t, 0 ≤ row.getD t 0 ∧ row.getD t 0 < 16) :
    tuskref02_block.l2 (k + 9) x0 x1 plL m xs i row 0 = tuskref02_block.l1 k x0 x1 plL m (MixDia.diagonalsP (MixCol.columnsP xs m row) m row) (wrap64 (i + 1)) := by
  rw [diagonals_quart, columns_quart]
  have s0 := l2_step (k + 8) x0 x1 m xs row i 0 0 4 8 12 (by decide) (by exact hx) hm hr hq rfl rfl rfl rfl (by decide) (by decide) (by decide) (by decide) (by decide) (by decide) (by decide) (by decide) (by decide) (by decide)
  have h0 : (quart xs m row 0 4 8 12 0 1).length = 16 := by rw [quart_length]; exact hx
  obtain ⟨q0, q0e⟩ : ∃ l, l = quart xs m row 0 4 8 12 0 1 := ⟨_, rfl⟩
  simp only [Nat.reduceMul, Nat.reduceAdd] at s0 h0 q0e
  rw [← q0e] at s0 h0 ⊢
  have s1 := l2_step (k + 7) x0 x1 m q0 row i 1 1 5 9 13 (by decide) (by rw [h0]) hm hr hq rfl rfl rfl rfl (by decide) (by decide) (by decide) (by decide) (by decide) (by decide) (by decide) (by decide) (by decide) (by decide)
  have h1 : (quart q0 m row 1 5 9 13 2 3).length = 16 := by rw [quart_length]; exact h0
  obtain ⟨q1, q1e⟩ : ∃ l, l = quart q0 m row 1 5 9 13 2 3 := ⟨_, rfl⟩
  simp only [Nat.reduceMul, Nat.reduceAdd] at s1 h1 q1e
  rw [← q1e] at s1 h1 ⊢
  have s2 := l2_step (k + 6) x0 x1 m q1 row i 2 2 6 10 14 (by decide) (by rw [h1]) hm hr hq rfl rfl rfl rfl (by decide) (by decide) (by decide) (by decide) (by decide) (by decide) (by decide) (by decide) (by decide) (by decide)
  have h2 : (quart q1 m row 2 6 10 14 4 5).length = 16 := by rw [quart_length]; exact h1
  obtain ⟨q2, q2e⟩ : ∃ l, l = quart q1 m row 2 6 10 14 4 5 := ⟨_, rfl⟩
  simp only [Nat.reduceMul, Nat.reduceAdd] at s2 h2 q2e
  rw [← q2e] at s2 h2 ⊢
  have s3 := l2_step (k + 5) x0 x1 m q2 row i 3 3 7 11 15 (by decide) (by rw [h2]) hm hr hq rfl rfl rfl rfl (by decide) (by decide) (by decide) (by decide) (by decide) (by decide) (by decide) (by decide) (by decide) (by decide)
  have h3 : (quart q2 m row 3 7 11 15 6 7).length = 16 := by rw [quart_length]; exact h2
  obtain ⟨q3, q3e⟩ : ∃ l, l = quart q2 m row 3 7 11 15 6 7 := ⟨_, rfl⟩
  simp only [Nat.reduceMul, Nat.reduceAdd] at s3 h3 q3e
  rw [← q3e] at s3 h3 ⊢
  have s4 := l2_step (k + 4) x0 x1 m q3 row i 4 0 5 10 15 (by decide) (by rw [h3]) hm hr hq rfl rfl rfl rfl (by decide) (by decide) (by decide) (by decide) (by decide) (by decide) (by decide) (by decide) (by decide) (by decide)
  have h4 : (quart q3 m row 0 5 10 15 8 9).length = 16 := by rw [quart_length]; exact h3
  obtain ⟨q4, q4e⟩ : ∃ l, l = quart q3 m row 0 5 10 15 8 9 := ⟨_, rfl⟩
  simp only [Nat.reduceMul, Nat.reduceAdd] at s4 h4 q4e
  rw [← q4e] at s4 h4 ⊢
  have s5 := l2_step (k + 3) x0 x1 m q4 row i 5 1 6 11 12 (by decide) (by rw [h4]) hm hr hq rfl rfl rfl rfl (by decide) (by decide) (by decide) (by decide) (by decide) (by decide) (by decide) (by decide) (by decide) (by decide)
  have h5 : (quart q4 m row 1 6 11 12 10 11).length = 16 := by rw [quart_length]; exact h4
  obtain ⟨q5, q5e⟩ : ∃ l, l = quart q4 m row 1 6 11 12 10 11 := ⟨_, rfl⟩
  simp only [Nat.reduceMul, Nat.reduceAdd] at s5 h5 q5e
  rw [← q5e] at s5 h5 ⊢
  have s6 := l2_step (k + 2) x0 x1 m q5 row i 6 2 7 8 13 (by decide) (by rw [h5]) hm hr hq rfl rfl rfl rfl (by decide) (by decide) (by decide) (by decide) (by decide) (by decide) (by decide) (by decide) (by decide) (by decide)
  have h6 : (quart q5 m row 2 7 8 13 12 13).length = 16 := by rw [quart_length]; exact h5
  obtain ⟨q6, q6e⟩ : ∃ l, l = quart q5 m row 2 7 8 13 12 13 := ⟨_, rfl⟩
  simp only [Nat.reduceMul, Nat.reduceAdd] at s6 h6 q6e
  rw [← q6e] at s6 h6 ⊢
  have s7 := l2_step (k + 1) x0 x1 m q6 row i 7 3 4 9 14 (by decide) (by rw [h6]) hm hr hq rfl rfl rfl rfl (by decide) (by decide) (by decide) (by decide) (by decide) (by decide) (by decide) (by decide) (by decide) (by decide)
  have h7 : (quart q6 m row 3 4 9 14 14 15).length = 16 := by rw [quart_length]; exact h6
  obtain ⟨q7, q7e⟩ : ∃ l, l = quart q6 m row 3 4 9 14 14 15 := ⟨_, rfl⟩
  simp only [Nat.reduceMul, Nat.reduceAdd] at s7 h7 q7e
  rw [← q7e] at s7 h7 ⊢
  refine (show _ = tuskref02_block.l2 (k + 8) x0 x1 plL m q0 i row ((1 : Nat) : Int) from s0).trans ?_
  refine s1.trans ?_
  refine s2.trans ?_
  refine s3.trans ?_
  refine s4.trans ?_
  refine s5.trans ?_
  refine s6.trans ?_
  refine s7.trans ?_
  rw [tuskref02_block.l2, if_neg (by omega)]
theorem rwL_get (i : Nat) (h : i < 10) : rd_L5 rwL (i : Int) = Go.Proofs.YtflnlkaednpenaaDoor.MixB.rowAt i := by
  match i, h with
  | 0, _ => rfl
  | 1, _ => rfl
  | 2, _ => rfl
  | 3, _ => rfl
  | 4, _ => rfl
  | 5, _ => rfl
  | 6, _ => rfl
  | 7, _ => rfl
  | 8, _ => rfl
  | 9, _ => rfl
theorem l1_step (k : Nat) (x0 m xs : List Int) (i : Nat) (hi : i < 10) (hx : xs.length = 16) (hm : m.length = 16) :
    tuskref02_block.l1 (k + 10) x0 rwL plL m xs i = tuskref02_block.l1 k x0 rwL plL m (MixDia.diagonalsP (MixCol.columnsP xs m (Go.Proofs.YtflnlkaednpenaaDoor.MixB.rowAt i)) m (Go.Proofs.YtflnlkaednpenaaDoor.MixB.rowAt i)) ((i + 1 : Nat) : Int) := by
  have hl : rwL.length = 10 := rfl
  rw [tuskref02_block.l1, if_pos (by omega), if_pos (by omega), if_pos (by omega), rwL_get i hi, l2_run k x0 rwL m xs _ i hx hm (rowAt_length i hi) (rowAt_range i), w64 _ (by omega) (by omega)]
  rfl
theorem l1_run (x0 m xs : List Int) (hx : xs.length = 16) (hm : m.length = 16) (k : Nat) : ∀ d i : Nat, i + d = 10 →
    tuskref02_block.l1 (k + 1 + 10 * d) x0 rwL plL m (stirN m xs i) i = tuskref02_block.l3 k x0 (stirN m xs 10) (List.replicate 8 0) 0
  | 0, i, h => by
    obtain rfl : i = 10 := by omega
    rw [Nat.mul_zero, Nat.add_zero, tuskref02_block.l1, if_neg (by omega), if_pos (by decide)]
  | d + 1, i, h => by
    rw [show k + 1 + 10 * (d + 1) = (k + 1 + 10 * d) + 10 by omega, l1_step _ x0 m _ i (by omega) (by rw [stirN_length]; exact hx) hm]
    exact l1_run x0 m xs hx hm k d (i + 1) (by omega)
/-- The eight numbers, so many of them laid. -/
def outL (h w : List Int) (i : Nat) : List Int := (List.range 8).map fun j => if j < i then finV h w j else 0
theorem outL_length (h w : List Int) (i : Nat) : (outL h w i).length = 8 := by simp [outL]
theorem outL_set (h w : List Int) (i : Nat) (hi : i < 8) : (outL h w i).set i (finV h w i) = outL h w (i + 1) := by
  apply List.ext_getElem?
  intro j
  by_cases hj : j < 8
  · by_cases e : i = j
    · subst e
      rw [List.getElem?_set_self (by rw [outL_length]; exact hi)]
      simp [outL, hj]
    · rw [List.getElem?_set_ne e]
      simp only [outL, List.getElem?_map, List.getElem?_range hj, Option.map_some]
      have : (j < i + 1) = (j < i) := propext (by omega)
      simp only [this]
  · rw [List.getElem?_eq_none (by rw [List.length_set, outL_length]; omega), List.getElem?_eq_none (by rw [outL_length]; omega)]
theorem l3_run (h w : List Int) (hh : h.length = 8) (hw : w.length = 16) (k : Nat) : ∀ d i : Nat, i + d = 8 → tuskref02_block.l3 (k + 1 + d) h w (outL h w i) i = some (outL h w 8)
  | 0, i, hd => by
    obtain rfl : i = 8 := by omega
    rw [Nat.add_zero, tuskref02_block.l3, if_neg (by omega)]
  | d + 1, i, hd => by
    have a : wrap64 ((i : Int) + 8) = ((i + 8 : Nat) : Int) := by rw [w64 _ (by omega) (by omega)]; omega
    have b : wrap64 ((i : Int) + 1) = ((i + 1 : Nat) : Int) := by rw [w64 _ (by omega) (by omega)]; omega
    have c := outL_length h w i
    rw [show k + 1 + (d + 1) = (k + 1 + d) + 1 by omega, tuskref02_block.l3, a, b, if_pos (by omega), if_pos (by omega), if_pos (by omega), if_pos (by omega), if_pos (by omega), if_pos (by omega), if_pos (by omega)]
    rw [rd_nat, rd_nat, rd_nat, xor_assoc32, Int.toNat_natCast]
    have e := outL_set h w i (by omega)
    rw [finV] at e
    rw [e]
    exact l3_run h w hh hw k d (i + 1) (by omega)
/-- The sixteen numbers of a block, so many of them read. -/
def readL (s : ByteArray) (i : Nat) : List Int := (List.range 16).map fun j => if j < i then (wd s 64 j : Int) else 0
theorem readL_length (s : ByteArray) (i : Nat) : (readL s i).length = 16 := by simp [readL]
theorem readL_set (s : ByteArray) (i : Nat) (hi : i < 16) : (readL s i).set i (wd s 64 i : Int) = readL s (i + 1) := by
  apply List.ext_getElem?
  intro j
  by_cases hj : j < 16
  · by_cases e : i = j
    · subst e
      rw [List.getElem?_set_self (by rw [readL_length]; exact hi)]
      simp [readL, hj]
    · rw [List.getElem?_set_ne e]
      simp only [readL, List.getElem?_map, List.getElem?_range hj, Option.map_some]
      have : (j < i + 1) = (j < i) := propext (by omega)
      simp only [this]
  · rw [List.getElem?_eq_none (by rw [List.length_set, readL_length]; omega), List.getElem?_eq_none (by rw [readL_length]; omega)]
theorem readL_16 (s : ByteArray) : readL s 16 = Go.Proofs.YtflnlkaednpenaaDoor.RefN.nums s := by
  apply List.ext_getElem?
  intro j
  by_cases hj : j < 16
  · rw [Go.Proofs.YtflnlkaednpenaaDoor.RefN.nums, nmL_get _ _ _ hj]; simp [readL, hj]
  · rw [List.getElem?_eq_none (by rw [readL_length]; omega), List.getElem?_eq_none (by rw [Go.Proofs.YtflnlkaednpenaaDoor.RefN.nums_length]; omega)]
theorem firsts_f : tuskref02_firsts.f = some firstsL := rfl
theorem l0_run (h : List Int) (s : ByteArray) (u : Int) (last : Bool) (hh : h.length = 8) (hs : s.size = 64) (k : Nat) : ∀ d i : Nat, i + d = 16 →
    tuskref02_block.l0 (k + 2 + d) h rwL plL s u last (readL s i) i = tuskref02_block.l1 k h rwL plL (Go.Proofs.YtflnlkaednpenaaDoor.RefN.nums s) (lastP last ((h ++ firstsL).set 12 (Go.bits .xor .u32 ((h ++ firstsL).getD 12 0) (u % 4294967296)))) 0
  | 0, i, hd => by
    obtain rfl : i = 16 := by omega
    have hl : (h ++ firstsL).length = 16 := by rw [List.length_append, hh]; rfl
    have hf : firstsL.length = 8 := rfl
    rw [Nat.add_zero, tuskref02_block.l0, if_neg (by omega), readL_16, firsts_f]
    simp only [Option.bind_some, List.nil_append, List.length_nil]
    rw [if_pos (by omega), if_pos (by omega), if_pos (by omega)]
    have r12 : rd (h ++ firstsL) 12 = (h ++ firstsL).getD 12 0 := rfl
    rw [show (12 : Int).toNat = 12 from rfl, show (14 : Int).toNat = 14 from rfl, r12]
    generalize (h ++ firstsL).set 12 (Go.bits .xor .u32 ((h ++ firstsL).getD 12 0) (u % 4294967296)) = y
    cases last
    · rw [if_neg (by decide), tuskref02_block.j1]; rfl
    · rw [if_pos rfl, if_pos (by omega), tuskref02_block.j1]
      have r14 : rd y 14 = y.getD 14 0 := rfl
      rw [r14, xor_comm32 _ 4294967295]
      rfl
  | d + 1, i, hd => by
    have a : wrap64 (4 * (i : Int)) = ((4 * i : Nat) : Int) := by rw [w64 _ (by omega) (by omega)]; omega
    have b : wrap64 (((4 * i : Nat) : Int) + 4) = ((4 * i + 4 : Nat) : Int) := by rw [w64 _ (by omega) (by omega)]; omega
    have c : wrap64 ((i : Int) + 1) = ((i + 1 : Nat) : Int) := by rw [w64 _ (by omega) (by omega)]; omega
    have hl := readL_length s i
    rw [show k + 2 + (d + 1) = (k + 2 + d) + 1 by omega, tuskref02_block.l0, a, b, c, if_pos (by omega), if_pos (by omega), if_pos (by omega), if_pos (by omega), Int.toNat_natCast, Int.toNat_natCast, number_f s i hs (by omega)]
    simp only [Option.bind_some]
    rw [if_pos (by omega), if_pos (by omega), Int.toNat_natCast, readL_set s i (by omega)]
    exact l0_run h s u last hh hs k d (i + 1) (by omega)
/-- The document's block, of sixty-four bytes. -/
def refN (h : List Int) (s : ByteArray) (u : Int) (last : Bool) : List Int := (List.range 8).map (finV h (stirN (Go.Proofs.YtflnlkaednpenaaDoor.RefN.nums s) (lastP last ((h ++ firstsL).set 12 (Go.bits .xor .u32 ((h ++ firstsL).getD 12 0) (u % 4294967296)))) 10))
theorem block_f (h : List Int) (s : ByteArray) (u : Int) (last : Bool) (hh : h.length = 8) (hs : s.size = 64) (k : Nat) : tuskref02_block.f (k + 128) h rwL plL s u last = some (refN h s u last) := by
  have hl : (h ++ firstsL).length = 16 := by rw [List.length_append, hh]; rfl
  have e0 : readL s 0 = List.replicate 16 0 := by rfl
  rw [tuskref02_block.f, if_pos (by decide), ← e0]
  have h1 := l0_run h s u last hh hs (k + 110) 16 0 rfl
  rw [show k + 110 + 2 + 16 = k + 128 by omega] at h1
  refine (show _ = _ from h1).trans ?_
  have h2 := l1_run h (Go.Proofs.YtflnlkaednpenaaDoor.RefN.nums s) (lastP last ((h ++ firstsL).set 12 (Go.bits .xor .u32 ((h ++ firstsL).getD 12 0) (u % 4294967296)))) (by rw [lastP_length, List.length_set]; exact hl) (Go.Proofs.YtflnlkaednpenaaDoor.RefN.nums_length s) (k + 9) 10 0 rfl
  rw [show k + 9 + 1 + 10 * 10 = k + 110 by omega] at h2
  refine (show _ = _ from h2).trans ?_
  have h3 := l3_run h (stirN (Go.Proofs.YtflnlkaednpenaaDoor.RefN.nums s) (lastP last ((h ++ firstsL).set 12 (Go.bits .xor .u32 ((h ++ firstsL).getD 12 0) (u % 4294967296)))) 10) hh (by rw [stirN_length, lastP_length, List.length_set]; exact hl) k 8 0 rfl
  refine (show _ = _ from h3).trans ?_
  have e : outL h (stirN (Go.Proofs.YtflnlkaednpenaaDoor.RefN.nums s) (lastP last ((h ++ firstsL).set 12 (Go.bits .xor .u32 ((h ++ firstsL).getD 12 0) (u % 4294967296)))) 10) 8 = refN h s u last := by
    rw [outL, refN]
    apply List.map_congr_left
    intro j hj
    rw [if_pos (List.mem_range.1 hj)]
  rw [e]
/-- The code's block is the document's, where the bytes are the same ones. -/
theorem refN_blockN (h : List Int) (s t : ByteArray) (u : Int) (last : Bool) (ht : t.size ≤ 64) (hb : ∀ k, k < 64 → bN s k = bN t k) : refN h s u last = blockN h t u last := by
  rw [refN, blockN, blockF, blockL, Go.Proofs.YtflnlkaednpenaaDoor.RefN.mP_nums t ht, Go.Proofs.YtflnlkaednpenaaDoor.RefN.nums_of s t hb]
end Go.Proofs.YtflnlkaednpenaaDoor.RefB
