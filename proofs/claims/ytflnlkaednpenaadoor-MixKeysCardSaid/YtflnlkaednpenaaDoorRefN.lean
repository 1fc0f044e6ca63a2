/- Plain laws on the numbers of 32 bits; a quarter of a stir, as the document has it. The numbers of a block: sixteen, of four bytes each, the lowest first. -/
import Derived.Test.YtflnlkaednpenaaDoorMixK
import Derived.Test.YtflnlkaednpenaaDoorMixX
import Derived.Test.YtflnlkaednpenaaDoorQBaseDx1
import Derived.Laws.BitsAllLaws
import Derived.Laws.Closers25
namespace Go.Proofs.YtflnlkaednpenaaDoor.RefP
open Go.RowKit Go.Proofs.YtflnlkaednpenaaDoorW.PrintWords Go.Proofs.YtflnlkaednpenaaDoorW.PrintMore Go.Proofs.YtflnlkaednpenaaDoor.MixW Go.Proofs.YtflnlkaednpenaaDoor.MixV Go.Proofs.YtflnlkaednpenaaDoor.MixB Go.Proofs.YtflnlkaednpenaaDoor.MixX
set_option linter.unusedVariables false
set_option linter.unusedSimpArgs false
theorem or_comm32 (a b : Int) : Go.bits .or .u32 a b = Go.bits .or .u32 b a := by
  show IntKind.u32.wrap ((BitVec.ofInt 32 a ||| BitVec.ofInt 32 b).toNat : Int) = IntKind.u32.wrap ((BitVec.ofInt 32 b ||| BitVec.ofInt 32 a).toNat : Int)
  rw [BitVec.or_comm]
theorem xor_comm32 (a b : Int) : Go.bits .xor .u32 a b = Go.bits .xor .u32 b a := by
  show IntKind.u32.wrap ((BitVec.ofInt 32 a ^^^ BitVec.ofInt 32 b).toNat : Int) = IntKind.u32.wrap ((BitVec.ofInt 32 b ^^^ BitVec.ofInt 32 a).toNat : Int)
  rw [BitVec.xor_comm]
theorem xor_nat (a b : Int) : Go.bits .xor .u32 a b = ((BitVec.ofInt 32 a ^^^ BitVec.ofInt 32 b).toNat : Int) := by
  show IntKind.u32.wrap ((BitVec.ofInt 32 a ^^^ BitVec.ofInt 32 b).toNat : Int) = _
  have := (BitVec.ofInt 32 a ^^^ BitVec.ofInt 32 b).isLt
  rw [IntKind.wrap_u32]; omega
theorem ofInt_nat (v : BitVec 32) : BitVec.ofInt 32 (v.toNat : Int) = v := by
  rw [BitVec.ofInt_natCast, BitVec.ofNat_toNat, BitVec.setWidth_eq]
theorem xor_assoc32 (a b c : Int) : Go.bits .xor .u32 (Go.bits .xor .u32 a b) c = Go.bits .xor .u32 a (Go.bits .xor .u32 b c) := by
  rw [xor_nat a b, xor_nat b c, xor_nat, xor_nat, ofInt_nat, ofInt_nat, BitVec.xor_assoc]
theorem xor_range (a b : Int) : 0 ≤ Go.bits .xor .u32 a b ∧ Go.bits .xor .u32 a b < 4294967296 := by
  rw [xor_nat]
  have := (BitVec.ofInt 32 a ^^^ BitVec.ofInt 32 b).isLt
  omega
theorem rot_16 (x : Int) : rot x 16 = rotR x 16 := or_comm32 _ _
theorem rot_20 (x : Int) : rot x 20 = rotR x 12 := or_comm32 _ _
theorem rot_24 (x : Int) : rot x 24 = rotR x 8 := or_comm32 _ _
theorem rot_25 (x : Int) : rot x 25 = rotR x 7 := or_comm32 _ _
/-- Eight statements of a stir. -/
def quart (xs ms rs : List Int) (p q u v kx ky : Nat) : List Int :=
  sRot (sSum (sRot (sAdd (sRot (sSum (sRot (sAdd xs ms rs p q kx) v p 16) u v) q u 20) ms rs p q ky) v p 24) u v) q u 25
theorem columns_quart (xs ms rs : List Int) : MixCol.columnsP xs ms rs = quart (quart (quart (quart xs ms rs 0 4 8 12 0 1) ms rs 1 5 9 13 2 3) ms rs 2 6 10 14 4 5) ms rs 3 7 11 15 6 7 := rfl
theorem diagonals_quart (xs ms rs : List Int) : MixDia.diagonalsP xs ms rs = quart (quart (quart (quart xs ms rs 0 5 10 15 8 9) ms rs 1 6 11 12 10 11) ms rs 2 7 8 13 12 13) ms rs 3 4 9 14 14 15 := rfl
theorem gs_ne (l : List Int) (i j : Nat) (x : Int) (h : i ≠ j) : (l.set i x).getD j 0 = l.getD j 0 := by
  simp [List.getD_eq_getElem?_getD, List.getElem?_set_ne h]
theorem gs_eq (l : List Int) (i : Nat) (x : Int) (h : i < l.length) : (l.set i x).getD i 0 = x := by
  simp [List.getD_eq_getElem?_getD, h]
theorem quart_length (xs ms rs : List Int) (p q u v kx ky : Nat) : (quart xs ms rs p q u v kx ky).length = xs.length := by simp [quart, sAdd, sRot, sSum]
theorem quart_eq (xs ms rs : List Int) (p q u v kx ky : Nat) (hl : xs.length = 16) (hp : p < 16) (hq : q < 16) (hu : u < 16) (hv : v < 16) (n1 : p ≠ q) (n2 : p ≠ u) (n3 : p ≠ v) (n4 : q ≠ u) (n5 : q ≠ v) (n6 : u ≠ v) :
    ∃ M, M = mixQ (xs.getD p 0) (xs.getD q 0) (xs.getD u 0) (xs.getD v 0) (ms.getD (rs.getD kx 0).toNat 0) (ms.getD (rs.getD ky 0).toNat 0) ∧ quart xs ms rs p q u v kx ky = (((xs.set p M.1).set q M.2.1).set u M.2.2.1).set v M.2.2.2 := by
  refine ⟨_, rfl, ?_⟩
  have l0 : p < xs.length := by omega
  have l1 : q < xs.length := by omega
  have l2 : u < xs.length := by omega
  have l3 : v < xs.length := by omega
  generalize hm1 : ms.getD (rs.getD kx 0).toNat 0 = m1
  generalize hm2 : ms.getD (rs.getD ky 0).toNat 0 = m2
  have e1 : sAdd xs ms rs p q kx = xs.set p (mxA (xs.getD p 0) (xs.getD q 0) m1) := by rw [sAdd, hm1, mxA, Int.add_assoc]
  generalize hA1 : mxA (xs.getD p 0) (xs.getD q 0) m1 = A1 at e1
  have e2 : sRot (sAdd xs ms rs p q kx) v p 16 = (xs.set p A1).set v (rotR (Go.bits .xor .u32 (xs.getD v 0) A1) 16) := by rw [e1, sRot, gs_ne _ _ _ _ n3, gs_eq _ _ _ l0, rot_16]
  generalize hD1 : rotR (Go.bits .xor .u32 (xs.getD v 0) A1) 16 = D1 at e2
  have e3 : sSum (sRot (sAdd xs ms rs p q kx) v p 16) u v = ((xs.set p A1).set v D1).set u ((xs.getD u 0 + D1) % 4294967296) := by rw [e2, sSum, gs_ne _ _ _ _ n6.symm, gs_ne _ _ _ _ n2, gs_eq _ _ _ (by simp; omega)]
  generalize hC1 : (xs.getD u 0 + D1) % 4294967296 = C1 at e3
  have e4 : sRot (sSum (sRot (sAdd xs ms rs p q kx) v p 16) u v) q u 20 = (((xs.set p A1).set v D1).set u C1).set q (rotR (Go.bits .xor .u32 (xs.getD q 0) C1) 12) := by rw [e3, sRot, gs_ne _ _ _ _ n4.symm, gs_ne _ _ _ _ n5.symm, gs_ne _ _ _ _ n1, gs_eq _ _ _ (by simp; omega), rot_20]
  generalize hB1 : rotR (Go.bits .xor .u32 (xs.getD q 0) C1) 12 = B1 at e4
  have e5 : sAdd (sRot (sSum (sRot (sAdd xs ms rs p q kx) v p 16) u v) q u 20) ms rs p q ky = ((((xs.set p A1).set v D1).set u C1).set q B1).set p (mxA A1 B1 m2) := by
    rw [e4, sAdd, hm2, gs_ne _ _ _ _ n1.symm, gs_ne _ _ _ _ n2.symm, gs_ne _ _ _ _ n3.symm, gs_eq _ _ _ l0, gs_eq _ _ _ (by simp; omega), mxA, Int.add_assoc]
  generalize hA2 : mxA A1 B1 m2 = A2 at e5
  have e6 : sRot (sAdd (sRot (sSum (sRot (sAdd xs ms rs p q kx) v p 16) u v) q u 20) ms rs p q ky) v p 24 = (((((xs.set p A1).set v D1).set u C1).set q B1).set p A2).set v (rotR (Go.bits .xor .u32 D1 A2) 8) := by
    rw [e5, sRot, gs_ne _ _ _ _ n3, gs_ne _ _ _ _ n5, gs_ne _ _ _ _ n6, gs_eq _ v _ (by simp; omega), gs_eq _ p _ (by simp; omega), rot_24]
  generalize hD2 : rotR (Go.bits .xor .u32 D1 A2) 8 = D2 at e6
  have e7 : sSum (sRot (sAdd (sRot (sSum (sRot (sAdd xs ms rs p q kx) v p 16) u v) q u 20) ms rs p q ky) v p 24) u v = ((((((xs.set p A1).set v D1).set u C1).set q B1).set p A2).set v D2).set u ((C1 + D2) % 4294967296) := by
    rw [e6, sSum, gs_ne _ _ _ _ n6.symm, gs_ne _ _ _ _ n2, gs_ne _ _ _ _ n4, gs_eq _ u _ (by simp; omega), gs_eq _ v _ (by simp; omega)]
  generalize hC2 : (C1 + D2) % 4294967296 = C2 at e7
  have e8 : quart xs ms rs p q u v kx ky = (((((((xs.set p A1).set v D1).set u C1).set q B1).set p A2).set v D2).set u C2).set q (rotR (Go.bits .xor .u32 B1 C2) 7) := by
    rw [quart, e7, sRot, gs_ne _ _ _ _ n4.symm, gs_ne _ _ _ _ n5.symm, gs_ne _ _ _ _ n1, gs_eq _ q _ (by simp; omega), gs_eq _ u _ (by simp; omega), rot_25]
  rw [e8]
  simp only [mixQ, hA1, hD1, hC1, hB1, hA2, hD2, hC2]
  generalize rotR (Go.bits .xor .u32 B1 C2) 7 = B2
  apply List.ext_getElem?
  intro j
  by_cases j1 : j = p
  · subst j1; simp [List.getElem?_set, l0, n1.symm, n2.symm, n3.symm]
  · by_cases j2 : j = q
    · subst j2; simp [List.getElem?_set, l1, n1, n4.symm, n5.symm]
    · by_cases j3 : j = u
      · subst j3; simp [List.getElem?_set, l2, n2, n4, n6.symm]
      · by_cases j4 : j = v
        · subst j4; simp [List.getElem?_set, l3, n3, n5, n6]
        · simp [List.getElem?_set, Ne.symm j1, Ne.symm j2, Ne.symm j3, Ne.symm j4]
end Go.Proofs.YtflnlkaednpenaaDoor.RefP
namespace Go.Proofs.YtflnlkaednpenaaDoor.RefN
open Go.RowKit Go.Proofs.YtflnlkaednpenaaDoorW.PrintWords Go.Proofs.YtflnlkaednpenaaDoorW.PrintMore Go.Proofs.YtflnlkaednpenaaDoor.MixW Go.Proofs.YtflnlkaednpenaaDoor.MixV Go.Proofs.YtflnlkaednpenaaDoor.MixB Go.Proofs.YtflnlkaednpenaaDoor.QBaseD
set_option linter.unusedVariables false
set_option linter.unusedSimpArgs false
def bN (s : ByteArray) (n : Nat) : Nat := (s.data.toList.getD n 0).toNat
theorem bN_lt (s : ByteArray) (n : Nat) : bN s n < 256 := UInt8.toNat_lt _
theorem byteN_bN (s : ByteArray) (n : Nat) : byteN s n = (bN s n : Int) := rfl
theorem bN_out (s : ByteArray) (n : Nat) (h : s.size ≤ n) : bN s n = 0 := by
  have h2 : s.data.toList.length ≤ n := by simpa using h
  rw [bN, List.getD_eq_getElem?_getD, List.getElem?_eq_none h2]; rfl
/-- The j-th number of the first i bytes. -/
def wd (s : ByteArray) (i j : Nat) : Nat := (if 4 * j < i then bN s (4 * j) else 0) + (if 4 * j + 1 < i then bN s (4 * j + 1) * 256 else 0) + (if 4 * j + 2 < i then bN s (4 * j + 2) * 65536 else 0) + (if 4 * j + 3 < i then bN s (4 * j + 3) * 16777216 else 0)
def nmL (s : ByteArray) (i : Nat) : List Int := (List.range 16).map fun j => (wd s i j : Int)
theorem or_up (a x : Nat) (i : Nat) (hx : x % 2 ^ i = 0) (ha : a < 2 ^ i) (h1 : a < 4294967296) (h2 : x < 4294967296) : Go.bits .or .u32 (a : Int) (x : Int) = ((a + x : Nat) : Int) := by
  rw [u32_or_nat a x h1 h2, Nat.or_comm, nat_join i x a hx ha, Nat.add_comm]
theorem wd_0 (s : ByteArray) (j : Nat) : wd s (4 * j) j = 0 := by
  rw [wd, if_neg (by omega), if_neg (by omega), if_neg (by omega), if_neg (by omega)]
theorem wd_1 (s : ByteArray) (j : Nat) : wd s (4 * j + 1) j = bN s (4 * j) := by
  rw [wd, if_pos (by omega), if_neg (by omega), if_neg (by omega), if_neg (by omega)]; rfl
theorem wd_2 (s : ByteArray) (j : Nat) : wd s (4 * j + 2) j = bN s (4 * j) + bN s (4 * j + 1) * 256 := by
  rw [wd, if_pos (by omega), if_pos (by omega), if_neg (by omega), if_neg (by omega)]; rfl
theorem wd_3 (s : ByteArray) (j : Nat) : wd s (4 * j + 3) j = bN s (4 * j) + bN s (4 * j + 1) * 256 + bN s (4 * j + 2) * 65536 := by
  rw [wd, if_pos (by omega), if_pos (by omega), if_pos (by omega), if_neg (by omega)]; rfl
theorem wd_4 (s : ByteArray) (j : Nat) : wd s (4 * j + 4) j = bN s (4 * j) + bN s (4 * j + 1) * 256 + bN s (4 * j + 2) * 65536 + bN s (4 * j + 3) * 16777216 := by
  rw [wd, if_pos (by omega), if_pos (by omega), if_pos (by omega), if_pos (by omega)]
theorem wd_64 (s : ByteArray) (j : Nat) (h : j < 16) : wd s 64 j = bN s (4 * j) + bN s (4 * j + 1) * 256 + bN s (4 * j + 2) * 65536 + bN s (4 * j + 3) * 16777216 := by
  rw [wd, if_pos (by omega), if_pos (by omega), if_pos (by omega), if_pos (by omega)]
theorem or_byte (s : ByteArray) (j r : Nat) (hr : r < 4) : Go.bits .or .u32 (wd s (4 * j + r) j : Int) (byteN s (4 * j + r) % 4294967296 * 2 ^ (8 * r) % 4294967296) = (wd s (4 * j + r + 1) j : Int) := by
  have h0 := bN_lt s (4 * j)
  have h1 := bN_lt s (4 * j + 1)
  have h2 := bN_lt s (4 * j + 2)
  have h3 := bN_lt s (4 * j + 3)
  rw [byteN_bN]
  match r, hr with
  | 0, _ =>
    have e : (bN s (4 * j + 0) : Int) % 4294967296 * 2 ^ (8 * 0) % 4294967296 = ((bN s (4 * j) : Nat) : Int) := by simp; omega
    rw [e, Nat.add_zero, wd_0, or_up _ _ 0 (by omega) (by omega) (by omega) (by omega), wd_1, Nat.zero_add]
  | 1, _ =>
    have e : (bN s (4 * j + 1) : Int) % 4294967296 * 2 ^ (8 * 1) % 4294967296 = ((bN s (4 * j + 1) * 256 : Nat) : Int) := by simp; omega
    rw [e, wd_1, or_up _ _ 8 (by omega) (by omega) (by omega) (by omega), wd_2]
  | 2, _ =>
    have e : (bN s (4 * j + 2) : Int) % 4294967296 * 2 ^ (8 * 2) % 4294967296 = ((bN s (4 * j + 2) * 65536 : Nat) : Int) := by simp; omega
    rw [e, wd_2, or_up _ _ 16 (by omega) (by omega) (by omega) (by omega), wd_3]
  | 3, _ =>
    have e : (bN s (4 * j + 3) : Int) % 4294967296 * 2 ^ (8 * 3) % 4294967296 = ((bN s (4 * j + 3) * 16777216 : Nat) : Int) := by simp; omega
    rw [e, wd_3, or_up _ _ 24 (by omega) (by omega) (by omega) (by omega), wd_4]
theorem wd_other (s : ByteArray) (i j : Nat) (h : j ≠ i / 4) : wd s (i + 1) j = wd s i j := by
  have e0 : (4 * j < i + 1) = (4 * j < i) := propext (by omega)
  have e1 : (4 * j + 1 < i + 1) = (4 * j + 1 < i) := propext (by omega)
  have e2 : (4 * j + 2 < i + 1) = (4 * j + 2 < i) := propext (by omega)
  have e3 : (4 * j + 3 < i + 1) = (4 * j + 3 < i) := propext (by omega)
  simp only [wd, e0, e1, e2, e3]
theorem nmL_get (s : ByteArray) (i j : Nat) (h : j < 16) : (nmL s i)[j]? = some (wd s i j : Int) := by
  simp [nmL, h]
theorem mP_nmL (s : ByteArray) : ∀ i, i ≤ 64 → mP s i = nmL s i
  | 0, _ => by
    apply List.ext_getElem?
    intro j
    by_cases h : j < 16
    · rw [nmL_get s 0 j h, mP, zeros, List.getElem?_replicate, if_pos h]; simp [wd]
    · rw [List.getElem?_eq_none (by simp [mP, zeros]; omega), List.getElem?_eq_none (by simp [nmL]; omega)]
  | i + 1, hi => by
    have ih := mP_nmL s i (by omega)
    have hq : i / 4 < 16 := by omega
    rw [mP, ih]
    have hg : (nmL s i).getD (i / 4) 0 = (wd s i (i / 4) : Int) := by rw [List.getD_eq_getElem?_getD, nmL_get s i _ hq]; rfl
    have hb := or_byte s (i / 4) (i % 4) (Nat.mod_lt _ (by decide))
    rw [show 4 * (i / 4) + i % 4 = i by omega] at hb
    rw [hg, hb]
    apply List.ext_getElem?
    intro j
    by_cases h : j < 16
    · rw [nmL_get s (i + 1) j h]
      by_cases hj : i / 4 = j
      · subst hj
        rw [List.getElem?_set_self (by simp [nmL]; omega)]
      · rw [List.getElem?_set_ne hj, nmL_get s i j h, wd_other s i j (Ne.symm hj)]
    · rw [List.getElem?_eq_none (by simp [nmL]; omega), List.getElem?_eq_none (by simp [nmL]; omega)]
/-- A block's sixteen numbers. -/
def nums (s : ByteArray) : List Int := nmL s 64
theorem nums_length (s : ByteArray) : (nums s).length = 16 := by simp [nums, nmL]
theorem wd_all (s : ByteArray) (j : Nat) (h : j < 16) : wd s s.size j = wd s 64 j := by
  rw [wd_64 s j h, wd]
  have e : ∀ k c : Nat, (if k < s.size then bN s k * c else 0) = bN s k * c := by
    intro k c
    split
    · rfl
    · rw [bN_out s k (by omega), Nat.zero_mul]
  have e0 : (if 4 * j < s.size then bN s (4 * j) else 0) = bN s (4 * j) := by
    split
    · rfl
    · rw [bN_out s _ (by omega)]
  rw [e0, e, e, e]
theorem mP_nums (s : ByteArray) (h : s.size ≤ 64) : mP s s.size = nums s := by
  rw [mP_nmL s _ h, nums]
  apply List.ext_getElem?
  intro j
  by_cases hj : j < 16
  · rw [nmL_get _ _ _ hj, nmL_get _ _ _ hj, wd_all s j hj]
  · rw [List.getElem?_eq_none (by simp [nmL]; omega), List.getElem?_eq_none (by simp [nmL]; omega)]
/-- It is asked for the bytes alone. -/
theorem nums_of (s t : ByteArray) (h : ∀ k, k < 64 → bN s k = bN t k) : nums s = nums t := by
  apply List.ext_getElem?
  intro j
  by_cases hj : j < 16
  · rw [nums, nums, nmL_get _ _ _ hj, nmL_get _ _ _ hj, wd_64 _ _ hj, wd_64 _ _ hj]
    rw [h (4 * j) (by omega), h (4 * j + 1) (by omega), h (4 * j + 2) (by omega), h (4 * j + 3) (by omega)]
  · rw [List.getElem?_eq_none (by simp [nums, nmL]; omega), List.getElem?_eq_none (by simp [nums, nmL]; omega)]
theorem bt_bN (s : ByteArray) (n : Nat) : bt s (n : Int) = (bN s n : Int) := by
  rw [bt, Int.toNat_natCast]
  by_cases h : n < s.size
  · rw [dif_pos h]; exact byteN_at s n h
  · rw [dif_neg h, bN_out s n (by omega)]; rfl
theorem bN_extract (s : ByteArray) (a b n : Nat) (h : a + n < b) (hb : b ≤ s.size) : bN (s.extract a b) n = bN s (a + n) := by
  have h1 : n < (s.extract a b).size := by rw [ByteArray.size_extract]; omega
  have h2 : a + n < s.size := by omega
  have e1 := byteN_at (s.extract a b) n h1
  have e2 := byteN_at s (a + n) h2
  rw [ByteArray.getElem_extract] at e1
  rw [e2] at e1
  rw [byteN_bN, byteN_bN] at e1
  omega
theorem number_f (s : ByteArray) (i : Nat) (hs : s.size = 64) (hi : i < 16) : tuskref02_number.f (s.extract (4 * i) (4 * i + 4)) = some (wd s 64 i : Int) := by
  have hz : (s.extract (4 * i) (4 * i + 4)).size = 4 := by rw [ByteArray.size_extract]; omega
  have b0 := bt_bN (s.extract (4 * i) (4 * i + 4)) 0
  have b1 := bt_bN (s.extract (4 * i) (4 * i + 4)) 1
  have b2 := bt_bN (s.extract (4 * i) (4 * i + 4)) 2
  have b3 := bt_bN (s.extract (4 * i) (4 * i + 4)) 3
  rw [bN_extract s _ _ _ (by omega) (by omega)] at b0 b1 b2 b3
  have h0 := bN_lt s (4 * i)
  have h1 := bN_lt s (4 * i + 1)
  have h2 := bN_lt s (4 * i + 2)
  have h3 := bN_lt s (4 * i + 3)
  simp only [Nat.add_zero] at b0
  rw [tuskref02_number.f, if_pos (by omega), if_pos (by omega), if_pos (by omega), if_pos (by omega)]
  have g0 : bt (s.extract (4 * i) (4 * i + 4)) 0 = (bN s (4 * i) : Int) := b0
  have g1 : bt (s.extract (4 * i) (4 * i + 4)) 1 = (bN s (4 * i + 1) : Int) := b1
  have g2 : bt (s.extract (4 * i) (4 * i + 4)) 2 = (bN s (4 * i + 2) : Int) := b2
  have g3 : bt (s.extract (4 * i) (4 * i + 4)) 3 = (bN s (4 * i + 3) : Int) := b3
  rw [g0, g1, g2, g3]
  rw [wd_64 s i hi]
  congr 1
  omega
end Go.Proofs.YtflnlkaednpenaaDoor.RefN
