/- The document's digest is the code's. The document's digest under a key is the code's. -/
import Derived.Test.YtflnlkaednpenaaDoorRefB
import Derived.Test.YtflnlkaednpenaaDoorQBaseDx5
namespace Go.Proofs.YtflnlkaednpenaaDoor.RefD
open Go.RowKit Go.Proofs.YtflnlkaednpenaaDoorW.PrintWords Go.Proofs.YtflnlkaednpenaaDoorW.PrintMore Go.Proofs.YtflnlkaednpenaaDoor.MixW Go.Proofs.YtflnlkaednpenaaDoor.MixV Go.Proofs.YtflnlkaednpenaaDoor.MixB Go.Proofs.YtflnlkaednpenaaDoor.MixX Go.Proofs.YtflnlkaednpenaaDoor.MixF Go.Proofs.YtflnlkaednpenaaDoor.MixS Go.Proofs.YtflnlkaednpenaaDoor.MixK Go.Proofs.YtflnlkaednpenaaDoor.QKinds Go.Proofs.YtflnlkaednpenaaDoor.QBaseD Go.Proofs.YtflnlkaednpenaaDoor.RefP Go.Proofs.YtflnlkaednpenaaDoor.RefN Go.Proofs.YtflnlkaednpenaaDoor.RefB
set_option linter.unusedVariables false
set_option linter.unusedSimpArgs false
def fourI (x : Int) : List Int := [x % 256, x / 256 % 256, x / 65536 % 256, x / 16777216 % 256]
def accL (h : List Int) (i : Nat) : List Int := (h.take i).flatMap fourI
theorem accL_succ (h : List Int) (i : Nat) (hi : i < h.length) : accL h (i + 1) = accL h i ++ fourI (h.getD i 0) := by
  have e : h.getD i 0 = h[i] := by simp [List.getD_eq_getElem?_getD, hi]
  rw [accL, accL, List.take_succ_eq_append_getElem hi, List.flatMap_append, e]
  simp
theorem accL_length (h : List Int) : ∀ i, i ≤ h.length → (accL h i).length = 4 * i
  | 0, _ => rfl
  | i + 1, hi => by
    rw [accL_succ h i (by omega), List.length_append, accL_length h i (by omega)]
    simp [fourI]; omega
theorem four_tdiv (x : Int) (h0 : 0 ≤ x) (h1 : x < 4294967296) : [x % 256, (Int.tdiv x 256 % 4294967296) % 256, (Int.tdiv x 65536 % 4294967296) % 256, (Int.tdiv x 16777216 % 4294967296) % 256] = fourI x := by
  rw [fourI, Int.tdiv_eq_ediv_of_nonneg h0, Int.tdiv_eq_ediv_of_nonneg h0, Int.tdiv_eq_ediv_of_nonneg h0]
  have a1 : x / 256 % 4294967296 = x / 256 := by omega
  have a2 : x / 65536 % 4294967296 = x / 65536 := by omega
  have a3 : x / 16777216 % 4294967296 = x / 16777216 := by omega
  rw [a1, a2, a3]
theorem out_run (h : List Int) (hh : h.length = 8) (hr : ∀ i, 0 ≤ h.getD i 0 ∧ h.getD i 0 < 4294967296) (k : Nat) : ∀ d i : Nat, i + d = 8 → tuskref02_digest.l1 (k + 1 + d) h (accL h i) i = some (strOfNums (accL h 8))
  | 0, i, hd => by
    obtain rfl : i = 8 := by omega
    rw [Nat.add_zero, tuskref02_digest.l1, if_neg (by omega)]
  | d + 1, i, hd => by
    have b : wrap64 ((i : Int) + 1) = ((i + 1 : Nat) : Int) := by rw [w64 _ (by omega) (by omega)]; omega
    have c := accL_length h i (by omega)
    obtain ⟨g0, g1⟩ := hr i
    rw [show k + 1 + (d + 1) = (k + 1 + d) + 1 by omega, tuskref02_digest.l1, b, if_pos (by omega), if_pos (by omega), if_pos (by omega)]
    simp only [Option.bind_some, rd_nat]
    rw [four_tdiv _ g0 g1, if_pos (by rw [c]; simp [fourI]; omega), ← accL_succ h i (by omega)]
    exact out_run h hh hr k d (i + 1) (by omega)
theorem str_dig (h : List Int) (hh : h.length = 8) : strOfNums (accL h 8) = digB h := by
  rw [accL, ← hh, List.take_length, strOfNums, digB, digL, List.map_flatMap]
  rfl
theorem lastN_range (hs : List Int) (s : ByteArray) (d : Int) (i : Nat) : 0 ≤ (lastN hs s d).getD i 0 ∧ (lastN hs s d).getD i 0 < 4294967296 := by
  rw [lastN, blockN, List.getD_eq_getElem?_getD, List.getElem?_map]
  cases h : (List.range 8)[i]? with
  | none => simp
  | some j =>
    simp only [Option.map_some, Option.getD_some, blockF, finV]
    exact xor_range _ _
theorem bN_append (a b : ByteArray) (n : Nat) : bN (a ++ b) n = if n < a.size then bN a n else bN b (n - a.size) := by
  have e : (a ++ b).data.toList = a.data.toList ++ b.data.toList := by simp
  have hl : a.data.toList.length = a.size := by simp
  rw [bN, e]
  split
  · rename_i h
    rw [List.getD_eq_getElem?_getD, List.getElem?_append_left (by omega), bN, List.getD_eq_getElem?_getD]
  · rename_i h
    rw [List.getD_eq_getElem?_getD, List.getElem?_append_right (by omega), bN, List.getD_eq_getElem?_getD, hl]
def zs (m : Nat) : ByteArray := strOfNums (List.replicate m 0)
theorem zs_size (m : Nat) : (zs m).size = m := by rw [zs, strOfNums_size, List.length_replicate]
theorem bN_zs (m n : Nat) : bN (zs m) n = 0 := by
  rw [bN, zs, strOfNums]
  simp only [List.map_replicate]
  rw [List.getD_eq_getElem?_getD, List.getElem?_replicate]
  split <;> rfl
theorem bN_pad (s : ByteArray) (m n : Nat) : bN (s ++ zs m) n = bN s n := by
  rw [bN_append]
  split
  · rfl
  · rename_i h
    rw [bN_zs, bN_out s n (by omega)]
theorem begun_eq (a : Int) : firstsL.set (0 : Int).toNat (Go.bits .xor .u32 (Go.bits .xor .u32 (rd firstsL 0) 16842784) (wrap64 (256 * a) % 4294967296)) = begunP a := by
  rw [xor_assoc32]; rfl
/-- One block of the padded text. -/
theorem blk_eq (h : List Int) (s T : ByteArray) (hb : ∀ n, bN T n = bN s n) (j : Nat) (u : Int) (hT : 64 * j + 64 ≤ T.size) (hs : 64 * j + 64 ≤ s.size) : refN h (T.extract (64 * j) (64 * j + 64)) u false = blockN h (s.extract (64 * j) (64 * j + 64)) u false := by
  refine refN_blockN h _ _ u false (by rw [ByteArray.size_extract]; omega) ?_
  intro k hk
  rw [bN_extract _ _ _ _ (by omega) hT, bN_extract _ _ _ _ (by omega) hs, hb]
theorem blk_last (h : List Int) (s T : ByteArray) (hb : ∀ n, bN T n = bN s n) (K : Nat) (u : Int) (hT : T.size = 64 * K + 64) (h0 : 64 * K ≤ s.size) (h1 : s.size ≤ 64 * K + 64) : refN h (T.extract (64 * K) (64 * K + 64)) u true = blockN h (s.extract (64 * K) s.size) u true := by
  have hz : (s.extract (64 * K) s.size).size = s.size - 64 * K := by rw [ByteArray.size_extract]; omega
  refine refN_blockN h _ _ u true (by omega) ?_
  intro k hk
  rw [bN_extract _ _ _ _ (by omega) (by omega), hb]
  by_cases hc : 64 * K + k < s.size
  · rw [bN_extract _ _ _ _ hc (Nat.le_refl _)]
  · rw [bN_out s _ (by omega), bN_out _ k (by omega)]
theorem l0_runD (y : List Int) (hy : y.length = 8) (s T : ByteArray) (hb : ∀ n, bN T n = bN s n) (hsz : s.size ≤ 100000) (K : Nat) (hT : T.size = 64 * K + 64) (hK : K = (s.size - 1) / 64) (k : Nat) : ∀ d j : Nat, j + d = K →
    tuskref02_digest.l0 (k + 140 + d) (chainN y s 0 j) s.size T rwL plL ((64 * j : Nat) : Int) = some (finishP y s 0)
  | 0, j, hd => by
    obtain rfl : j = K := by omega
    have hl := chainN_length y s 0 j hy
    have hlast : (lastN y s 0).length = 8 := blockN_length _ _ _ _
    have a : wrap64 (((64 * j : Nat) : Int) + 64) = ((64 * j + 64 : Nat) : Int) := by rw [w64 _ (by omega) (by omega)]; omega
    have hm : mn (s.size : Int) ((64 * j + 64 : Nat) : Int) = (s.size : Int) := by unfold mn; split <;> omega
    have hbq : (((64 * j + 64 : Nat) : Int) == (T.size : Int)) = true := by rw [beq_iff_eq]; omega
    rw [Nat.add_zero, show k + 140 = (k + 139) + 1 by omega, tuskref02_digest.l0, a, hm, hbq, if_pos (by omega), if_pos (by omega), if_pos (by omega), if_pos (by omega), Int.toNat_natCast, Int.toNat_natCast,
      show k + 139 = (k + 11) + 128 by omega, block_f _ _ _ _ hl (by rw [ByteArray.size_extract]; omega), Option.bind_some, blk_last _ s T hb j _ hT (by omega) (by omega)]
    have e : blockN (chainN y s 0 j) (s.extract (64 * j) s.size) (s.size : Int) true = lastN y s 0 := by rw [lastN, ← hK, Int.zero_add]
    rw [e, show k + 11 + 128 = (k + 138) + 1 by omega, tuskref02_digest.l0, if_neg (by omega)]
    have hr := out_run (lastN y s 0) hlast (lastN_range y s 0) (k + 129) 8 0 rfl
    rw [show k + 129 + 1 + 8 = k + 138 by omega] at hr
    refine (show _ = _ from hr).trans ?_
    rw [str_dig _ hlast, finishP]
  | d + 1, j, hd => by
    have hl := chainN_length y s 0 j hy
    have a : wrap64 (((64 * j : Nat) : Int) + 64) = ((64 * j + 64 : Nat) : Int) := by rw [w64 _ (by omega) (by omega)]; omega
    have hm : mn (s.size : Int) ((64 * j + 64 : Nat) : Int) = ((64 * j + 64 : Nat) : Int) := by unfold mn; split <;> omega
    have hbq : (((64 * j + 64 : Nat) : Int) == (T.size : Int)) = false := by rw [beq_eq_false_iff_ne]; omega
    rw [show k + 140 + (d + 1) = (k + 140 + d) + 1 by omega, tuskref02_digest.l0, a, hm, hbq, if_pos (by omega), if_pos (by omega), if_pos (by omega), if_pos (by omega), Int.toNat_natCast, Int.toNat_natCast,
      show k + 140 + d = (k + 12 + d) + 128 by omega, block_f _ _ _ _ hl (by rw [ByteArray.size_extract]; omega), Option.bind_some, blk_eq _ s T hb j _ (by omega) (by omega)]
    have e : blockN (chainN y s 0 j) (s.extract (64 * j) (64 * j + 64)) ((64 * j + 64 : Nat) : Int) false = chainN y s 0 (j + 1) := by
      rw [chainN, show (0 : Int) + 64 * (j : Int) + 64 = ((64 * j + 64 : Nat) : Int) by omega]
    rw [e, show k + 12 + d + 128 = k + 140 + d by omega, show 64 * j + 64 = 64 * (j + 1) by omega]
    exact l0_runD y hy s T hb hsz K hT hK k d (j + 1) (by omega)
theorem digest_f (s : ByteArray) (a : Int) (hsz : s.size ≤ 100000) (k : Nat) : tuskref02_digest.f (k + 142 + (s.size - 1) / 64) s a = some (finishP (begunP a) s 0) := by
  obtain ⟨K, hK⟩ : ∃ K, K = (s.size - 1) / 64 := ⟨_, rfl⟩
  rw [← hK]
  have hl : firstsL.length = 8 := rfl
  have hy := begunP_length a
  have hj1 : ∀ T : ByteArray, (∀ n, bN T n = bN s n) → T.size = 64 * K + 64 → tuskref02_digest.j1 (k + 141 + K) (begunP a) s.size T = some (finishP (begunP a) s 0) := by
    intro T hb hT
    have h := l0_runD (begunP a) hy s T hb hsz K hT hK k K 0 (by omega)
    rw [show k + 141 + K = (k + 140 + K) + 1 by omega, tuskref02_digest.j1, rows_f, places_f, Option.bind_some, Option.bind_some]
    exact h
  have hpad : ¬ (s.size ≠ 0 ∧ s.size % 64 = 0) → tuskref02_digest.j0 (k + 142 + K) s (begunP a) s.size s true = some (finishP (begunP a) s 0) := by
    intro hc
    have e : wrap64 (64 - Int.tmod (s.size : Int) 64) = ((64 - s.size % 64 : Nat) : Int) := by
      rw [Int.tmod_eq_emod_of_nonneg (by omega), w64 _ (by omega) (by omega)]; omega
    rw [show k + 142 + K = (k + 141 + K) + 1 by omega, tuskref02_digest.j0, if_pos rfl, e, if_pos (by omega), if_pos (by omega), Option.bind_some, Int.toNat_natCast]
    have hz := zs_size (64 - s.size % 64)
    rw [zs] at hz
    rw [if_pos (by omega)]
    refine hj1 _ (fun n => bN_pad s _ n) ?_
    rw [ByteArray.size_append, hz]
    omega
  rw [tuskref02_digest.f, firsts_f, Option.bind_some, if_pos (by omega), Option.bind_some, begun_eq]
  by_cases h0 : s.size = 0
  · rw [if_pos (by omega)]
    exact hpad (by omega)
  · rw [if_neg (by omega)]
    by_cases h1 : s.size % 64 = 0
    · have hb : ((s.size : Int) % 64 != 0) = false := by
        have : (s.size : Int) % 64 = 0 := by omega
        rw [this]; rfl
      rw [hb, show k + 142 + K = (k + 141 + K) + 1 by omega, tuskref02_digest.j0, if_neg (by decide)]
      exact hj1 s (fun _ => rfl) (by omega)
    · have hb : ((s.size : Int) % 64 != 0) = true := by
        rw [bne_iff_ne]; omega
      rw [hb]
      exact hpad (by omega)
theorem sum_f (s : ByteArray) (hsz : s.size ≤ 100000) (k : Nat) : tuskref02_Sum.f (k + 142 + (s.size - 1) / 64) s = some (sumP s) := by
  rw [tuskref02_Sum.f, digest_f s 0 hsz k]; rfl
end Go.Proofs.YtflnlkaednpenaaDoor.RefD
namespace Go.Proofs.YtflnlkaednpenaaDoor.RefK
open Go.RowKit Go.Proofs.YtflnlkaednpenaaDoorW.PrintWords Go.Proofs.YtflnlkaednpenaaDoorW.PrintMore Go.Proofs.YtflnlkaednpenaaDoor.MixW Go.Proofs.YtflnlkaednpenaaDoor.MixV Go.Proofs.YtflnlkaednpenaaDoor.MixB Go.Proofs.YtflnlkaednpenaaDoor.MixX Go.Proofs.YtflnlkaednpenaaDoor.MixF Go.Proofs.YtflnlkaednpenaaDoor.MixS Go.Proofs.YtflnlkaednpenaaDoor.MixK Go.Proofs.YtflnlkaednpenaaDoor.QBaseD Go.Proofs.YtflnlkaednpenaaDoor.RefP Go.Proofs.YtflnlkaednpenaaDoor.RefN Go.Proofs.YtflnlkaednpenaaDoor.RefB Go.Proofs.YtflnlkaednpenaaDoor.RefD
set_option linter.unusedVariables false
set_option linter.unusedSimpArgs false
theorem blockN_of (h : List Int) (t t2 : ByteArray) (u : Int) (l : Bool) (ht : t.size ≤ 64) (ht2 : t2.size ≤ 64) (hb : ∀ k, k < 64 → bN t k = bN t2 k) : blockN h t u l = blockN h t2 u l := by
  rw [blockN, blockN, blockF, blockF, blockL, blockL, Go.Proofs.YtflnlkaednpenaaDoor.RefN.mP_nums t ht, Go.Proofs.YtflnlkaednpenaaDoor.RefN.mP_nums t2 ht2, Go.Proofs.YtflnlkaednpenaaDoor.RefN.nums_of t t2 hb]
theorem zs_pad (x : ByteArray) (h : x.size ≤ 32) : zs (64 - x.size) = padB x := by
  have e : ∀ m, Lib.repeatL [(0 : UInt8)] m = List.replicate m 0 := by
    intro m
    induction m with
    | zero => rfl
    | succ m ih => simp [Lib.repeatL, ih, List.replicate_succ]
  rw [zs, strOfNums, padB, e, show (64 - (x.size : Int)).toNat = 64 - x.size by omega]
  simp only [List.map_replicate]
  rfl
theorem bN_S (x s : ByteArray) (h : x.size ≤ 32) (n : Nat) : bN ((x ++ zs (64 - x.size)) ++ s) (64 + n) = bN s n := by
  have hz := zs_size (64 - x.size)
  rw [bN_append, if_neg (by rw [ByteArray.size_append]; omega), ByteArray.size_append, show 64 + n - (x.size + (zs (64 - x.size)).size) = n by omega]
theorem bN_S0 (x s : ByteArray) (h : x.size ≤ 32) (n : Nat) (hn : n < 64) : bN ((x ++ zs (64 - x.size)) ++ s) n = bN x n := by
  have hz := zs_size (64 - x.size)
  rw [bN_append, if_pos (by rw [ByteArray.size_append]; omega), bN_pad]
theorem size_S (x s : ByteArray) (h : x.size ≤ 32) : ((x ++ zs (64 - x.size)) ++ s).size = 64 + s.size := by
  have hz := zs_size (64 - x.size)
  rw [ByteArray.size_append, ByteArray.size_append]; omega
theorem chain_S (x s : ByteArray) (hx : x.size ≤ 32) : ∀ j, 64 * j ≤ s.size → chainN (begunP x.size) ((x ++ zs (64 - x.size)) ++ s) 0 (j + 1) = chainN (readyH x) s 64 j
  | 0, hj => by
    have hS := size_S x s hx
    rw [chainN, chainN, chainN, readyH, show (0 : Int) + 64 * ((0 : Nat) : Int) + 64 = 64 by omega]
    refine blockN_of _ _ _ _ _ (by rw [ByteArray.size_extract]; omega) (by omega) ?_
    intro k hk
    rw [bN_extract _ _ _ _ (by omega) (by omega), Nat.mul_zero, Nat.zero_add, bN_S0 x s hx k hk]
  | j + 1, hj => by
    have hS := size_S x s hx
    have ih := chain_S x s hx j (by omega)
    rw [chainN, ih, show chainN (readyH x) s 64 (j + 1) = blockN (chainN (readyH x) s 64 j) (s.extract (64 * j) (64 * j + 64)) (64 + 64 * (j : Int) + 64) false from rfl,
      show (0 : Int) + 64 * ((j + 1 : Nat) : Int) + 64 = 64 + 64 * (j : Int) + 64 by omega]
    refine blockN_of _ _ _ _ _ (by rw [ByteArray.size_extract]; omega) (by rw [ByteArray.size_extract]; omega) ?_
    intro k hk
    rw [bN_extract _ _ _ _ (by omega) (by omega), bN_extract _ _ _ _ (by omega) (by omega), show 64 * (j + 1) + k = 64 + (64 * j + k) by omega, bN_S x s hx]
theorem key_join (x s : ByteArray) (hx : x.size ≤ 32) (hx0 : ¬ x.size = 0) : finishP (begunP x.size) ((x ++ zs (64 - x.size)) ++ s) 0 = ksumP x s := by
  rw [ksumP, if_neg hx0]
  by_cases hs : s.size = 0
  · rw [if_pos hs]
    obtain rfl := nil_of s hs
    rw [zs_pad x hx, show (x ++ padB x) ++ (⟨#[]⟩ : ByteArray) = x ++ padB x from ByteArray.append_empty]
  · rw [if_neg hs, finishP, finishP]
    have hS := size_S x s hx
    have hK : (((x ++ zs (64 - x.size)) ++ s).size - 1) / 64 = (s.size - 1) / 64 + 1 := by rw [hS]; omega
    have e : lastN (begunP x.size) ((x ++ zs (64 - x.size)) ++ s) 0 = lastN (readyH x) s 64 := by
      rw [lastN, lastN, hK]
      obtain ⟨K, hKe⟩ : ∃ K, K = (s.size - 1) / 64 := ⟨_, rfl⟩
      rw [← hKe, chain_S x s hx K (by omega), hS, show (0 : Int) + ((64 + s.size : Nat) : Int) = 64 + (s.size : Int) by omega]
      refine blockN_of _ _ _ _ _ (by rw [ByteArray.size_extract]; omega) (by rw [ByteArray.size_extract]; omega) ?_
      intro k hk
      by_cases hc : 64 * K + k < s.size
      · rw [bN_extract _ _ _ _ (by omega) (by omega), bN_extract _ _ _ _ hc (Nat.le_refl _), show 64 * (K + 1) + k = 64 + (64 * K + k) by omega, bN_S x s hx]
      · rw [bN_out _ k (by rw [ByteArray.size_extract]; omega), bN_out _ k (by rw [ByteArray.size_extract]; omega)]
    rw [e]
theorem digest_any (s : ByteArray) (a : Int) (h : s.size ≤ 5000) (k : Nat) (hk : 300 ≤ k) : tuskref02_digest.f k s a = some (finishP (begunP a) s 0) := by
  have e := digest_f s a (by omega) (k - 142 - (s.size - 1) / 64)
  rw [show k - 142 - (s.size - 1) / 64 + 142 + (s.size - 1) / 64 = k by omega] at e
  exact e
theorem sum_any (s : ByteArray) (h : s.size ≤ 5000) (k : Nat) (hk : 300 ≤ k) : tuskref02_Sum.f k s = some (sumP s) := by
  rw [tuskref02_Sum.f, digest_any s 0 h k hk]; rfl
theorem j0_any (x s : ByteArray) (hx : x.size ≤ 32) (hs : s.size ≤ 2000) (k : Nat) (hk : 301 ≤ k) : tuskref02_Keyed.j0 k x s = some (ksumP x s) := by
  obtain ⟨m, rfl⟩ : ∃ m, k = m + 1 := ⟨k - 1, by omega⟩
  rw [tuskref02_Keyed.j0]
  by_cases h0 : x.size = 0
  · obtain rfl := nil_of x h0
    rw [if_pos (by rw [ByteArray.toList_eq]), sum_any s (by omega) m (by omega), ksumP, if_pos h0]
    rfl
  · have hne : ¬ (x.toList = ([] : List UInt8)) := by
      intro h
      have := isEmpty_of x h0
      rw [h] at this
      cases this
    have e : wrap64 (64 - (x.size : Int)) = ((64 - x.size : Nat) : Int) := by rw [w64 _ (by omega) (by omega)]; omega
    have hz := zs_size (64 - x.size)
    have hS := size_S x s hx
    have hA : (x ++ zs (64 - x.size)).size = 64 := by rw [ByteArray.size_append]; omega
    rw [if_neg hne, e, if_pos (by omega), if_pos (by omega), Option.bind_some, Int.toNat_natCast, show strOfNums (List.replicate (64 - x.size) 0) = zs (64 - x.size) from rfl, if_pos (by omega), if_pos (by omega),
      digest_any _ _ (by omega) m (by omega), key_join x s hx h0]
    rfl
theorem keyed_any (key s : ByteArray) (hk : key.size ≤ 2000) (hs : s.size ≤ 2000) (k : Nat) (h : 301 ≤ k) : tuskref02_Keyed.f k key s = some (keyedP key s) := by
  rw [tuskref02_Keyed.f, keyedP, shortK]
  by_cases hc : 32 < key.size
  · rw [if_pos (by omega), if_pos hc, sum_any key (by omega) k (by omega), Option.bind_some]
    exact j0_any _ s (by rw [sumP_size]; omega) hs k h
  · rw [if_neg (by omega), if_neg hc]
    exact j0_any key s (by omega) hs k h
theorem short_any (key s : ByteArray) (hk : key.size ≤ 2000) (hs : s.size ≤ 2000) (k : Nat) (h : 301 ≤ k) : tuskref02_Short.f k key s = some (shortP key s) := by
  have hz := keyedP_size key s
  rw [tuskref02_Short.f, keyed_any key s hk hs k h, Option.bind_some, if_pos (by decide), if_pos (by omega)]
  rfl
end Go.Proofs.YtflnlkaednpenaaDoor.RefK
