/- BlockMarks in plain Lean. -/
import Derived.Test.YtgfnleapjldbkaaQBlockMarksx1
import Derived.Test.YtgfnleapjldbkaaPlain02
namespace Go.Proofs.Ytgfnleapjldbkaa.Pure
open Go.RowKit Go.Proofs.Ytgfnleapjldbkaa.QBlockMarks Go.Proofs.YtgfnleapjldbkaaW.PrintWords Go.Proofs.YtgfnleapjldbkaaW.PrintLast Go.Proofs.Ytgfnleapjldbkaa.BlockMark Go.Proofs.Ytgfnleapjldbkaa.Plain01 Go.Proofs.Ytgfnleapjldbkaa.Plain02
set_option linter.unusedVariables false
theorem byteN_bt (t : ByteArray) (j : Nat) (h : j < t.size) : bt t (j : Int) = (byteN t j : Int) := by
  have h2 : j < t.data.size := h
  have e : t.data.toList.getD j 0 = t.data[j] := by rw [List.getD_eq_getElem?_getD, Array.getElem?_toList, Array.getElem?_eq_getElem h2]; rfl
  rw [← bt_at t (j : Int) (show (j : Int).toNat < t.size from by omega)]
  unfold byteN
  rw [e]
  rfl
theorem be8 (t : ByteArray) : beN t 8 = ((((((byteN t 0 * 256 + byteN t 1) * 256 + byteN t 2) * 256 + byteN t 3) * 256 + byteN t 4) * 256 + byteN t 5) * 256 + byteN t 6) * 256 + byteN t 7 := by
  simp only [beN]; omega
theorem beN_le (s : ByteArray) (i d : Nat) : beN s i ≤ beN s (i + d) := by
  induction d with
  | zero => exact Nat.le_refl _
  | succ d ih => rw [← Nat.add_assoc, beN]; omega
theorem byteN_ext (s : ByteArray) (j : Nat) (hs : 8 ≤ s.size) (h : j < 8) : byteN (s.extract 0 8) j = byteN s j := by
  have h1 := bt_extract s 0 8 j hs (by omega)
  rw [Nat.zero_add, byteN_bt _ _ (by rw [ByteArray.size_extract]; omega), byteN_bt _ _ (by omega)] at h1
  omega
theorem beN_ext (s : ByteArray) (hs : 8 ≤ s.size) : beN (s.extract 0 8) 8 = beN s 8 := by
  rw [be8, be8, byteN_ext s 0 hs (by omega), byteN_ext s 1 hs (by omega), byteN_ext s 2 hs (by omega), byteN_ext s 3 hs (by omega), byteN_ext s 4 hs (by omega), byteN_ext s 5 hs (by omega), byteN_ext s 6 hs (by omega), byteN_ext s 7 hs (by omega)]
theorem ref_loop (s : ByteArray) (hs : s.size = 40) (hb : beN s 8 ≤ 4611686018427387903) : ∀ d i k : Nat, i + d = 8 → tuskref08_Unmark.l0 (k + d + 1) s (beN s i) i = if (beN s 8 : Int) < 1 then some (0, ⟨#[]⟩, false) else some ((beN s 8 : Int), s.extract 8 s.size, true) := by
  intro d
  induction d with
  | zero =>
    intro i k hi
    obtain rfl : i = 8 := by omega
    rw [Nat.add_zero, tuskref08_Unmark.l0, if_neg (by omega)]
    split
    · rfl
    · rw [if_pos (by omega)]
  | succ d ih =>
    intro i k hi
    have hle := beN_le s (i + 1) d
    rw [show i + 1 + d = 8 from by omega] at hle
    have hlt := byteN_lt s i
    have hn : beN s (i + 1) = beN s i * 256 + byteN s i := rfl
    have e1 : wrap64 ((wrap64 (256 * (beN s i : Int))) + (wrap64 (bt s (i : Int)))) = (beN s (i + 1) : Int) := by
      rw [byteN_bt s i (by omega)]
      unfold wrap64
      omega
    have e2 : wrap64 ((i : Int) + 1) = ((i + 1 : Nat) : Int) := by unfold wrap64; omega
    rw [show k + (d + 1) + 1 = (k + d + 1) + 1 from by omega, tuskref08_Unmark.l0, if_pos (by omega), if_pos (by omega), if_pos (by omega), e1, e2]
    exact ih (i + 1) k (by omega)
theorem ref_unmark (s : ByteArray) (k : Nat) : tuskref08_Unmark.f (k + 10) s = block_Unmark.f s := by
  unfold tuskref08_Unmark.f block_Unmark.f
  by_cases h : (s.size : Int) = 40
  · rw [if_pos h, if_pos h, if_pos (by omega)]
    have hs : s.size = 40 := by omega
    have hB := be8 s
    have b0 := byteN_lt s 0
    have b1 := byteN_lt s 1
    have b2 := byteN_lt s 2
    have b3 := byteN_lt s 3
    have b4 := byteN_lt s 4
    have b5 := byteN_lt s 5
    have b6 := byteN_lt s 6
    have b7 := byteN_lt s 7
    have hz : bt s 0 = (byteN s 0 : Int) := byteN_bt s 0 (by omega)
    unfold unmarkP
    rw [beN_ext s (by omega)]
    by_cases hc : bt s 0 ≥ 64
    · rw [decide_eq_true hc, tuskref08_Unmark.j0, if_pos rfl, if_pos]
      right
      omega
    · have hb : beN s 8 ≤ 4611686018427387903 := by
        omega
      rw [decide_eq_false hc, tuskref08_Unmark.j0, if_neg (by decide)]
      have hl := ref_loop s hs hb 8 0 k (by omega)
      have hz0 : (beN s 0 : Int) = 0 := rfl
      rw [hz0] at hl
      rw [show k + 9 = k + 8 + 1 from rfl]
      refine hl.trans ?_
      by_cases h1 : (beN s 8 : Int) < 1
      · rw [if_pos h1, if_pos (.inl h1)]
      · rw [if_neg h1, if_neg (by omega), hs]
  · rw [if_neg h, if_neg h, tuskref08_Unmark.j0, if_pos rfl]
/-- A round of the reference's Mark. -/
theorem mark_step (x i : Int) (a : ByteArray) (xs : List Int) (k : Nat) (hx : 0 ≤ x) (hx2 : x ≤ 4611686018427387903) (hi : 0 ≤ i) (hi2 : i < 8) (hl : xs.length = 8) :
    tuskref08_Mark.l0 (k + 1) x a xs i = tuskref08_Mark.l0 k (x / 256) a (xs.set i.toNat (x % 256)) (i - 1) := by
  rw [tuskref08_Mark.l0, if_pos hi, if_pos hi, if_pos (by omega)]
  have e1 : wrap64 (Int.tdiv x 256) = x / 256 := by
    rw [Int.tdiv_eq_ediv_of_nonneg hx]
    unfold wrap64
    omega
  have e2 : (Int.tmod x 256) % 256 = x % 256 := by
    rw [Int.tmod_eq_emod_of_nonneg hx]
    omega
  have e3 : wrap64 (i - 1) = i - 1 := by unfold wrap64; omega
  rw [e1, e2, e3]
def nums (r : Int) : List Int := [r / 256 / 256 / 256 / 256 / 256 / 256 / 256 % 256, r / 256 / 256 / 256 / 256 / 256 / 256 % 256, r / 256 / 256 / 256 / 256 / 256 % 256, r / 256 / 256 / 256 / 256 % 256, r / 256 / 256 / 256 % 256, r / 256 / 256 % 256, r / 256 % 256, r % 256]
theorem nums_mark (r : Int) (h1 : 1 ≤ r) (h2 : r ≤ 4611686018427387903) : strOfNums (nums r) = markB r := by
  have hn : ∀ x ∈ nums r, 0 ≤ x ∧ x ≤ 255 := by
    intro x hx
    simp only [nums, List.mem_cons, List.not_mem_nil, or_false] at hx
    omega
  have hsz : (strOfNums (nums r)).size = 8 := by simp [strOfNums, nums]; rfl
  refine ba_ext (hsz.trans rfl) fun i hi => ?_
  rw [bt_strOfNums _ hn i (by simp [nums]; omega)]
  have hm : ∀ j : Nat, j < 8 → bt (markB r) j = (((markL r).getD j 0).toNat : Int) := by
    intro j hj
    rw [byteN_bt _ _ (show j < (markB r).size from hj)]
    rfl
  rw [hsz] at hi
  rw [hm i hi]
  match i, hi with
  | 0, _ => show r / 256 / 256 / 256 / 256 / 256 / 256 / 256 % 256 = ((u8 (r / 72057594037927936)).toNat : Int); rw [u8_nat (by omega) (by omega)]; omega
  | 1, _ => show r / 256 / 256 / 256 / 256 / 256 / 256 % 256 = ((u8 (r / 281474976710656 % 256)).toNat : Int); rw [u8_nat (by omega) (by omega)]; omega
  | 2, _ => show r / 256 / 256 / 256 / 256 / 256 % 256 = ((u8 (r / 1099511627776 % 256)).toNat : Int); rw [u8_nat (by omega) (by omega)]; omega
  | 3, _ => show r / 256 / 256 / 256 / 256 % 256 = ((u8 (r / 4294967296 % 256)).toNat : Int); rw [u8_nat (by omega) (by omega)]; omega
  | 4, _ => show r / 256 / 256 / 256 % 256 = ((u8 (r / 16777216 % 256)).toNat : Int); rw [u8_nat (by omega) (by omega)]; omega
  | 5, _ => show r / 256 / 256 % 256 = ((u8 (r / 65536 % 256)).toNat : Int); rw [u8_nat (by omega) (by omega)]; omega
  | 6, _ => show r / 256 % 256 = ((u8 (r / 256 % 256)).toNat : Int); rw [u8_nat (by omega) (by omega)]
  | 7, _ => show r % 256 = ((u8 (r % 256)).toNat : Int); rw [u8_nat (by omega) (by omega)]
theorem ref_mark (r : Int) (a : ByteArray) (k : Nat) (ha : a.size ≤ 140737488351232) : tuskref08_Mark.f (k + 10) r a = block_Mark.f r a := by
  unfold tuskref08_Mark.f block_Mark.f
  by_cases h1 : r < 1
  · rw [if_pos h1, if_neg (by omega), tuskref08_Mark.j0, if_pos rfl]
  rw [if_neg h1]
  by_cases h2 : r > 4611686018427387903
  · rw [if_pos h2, if_neg (by omega), tuskref08_Mark.j0, if_pos rfl]
  rw [if_neg h2]
  by_cases h3 : (a.size : Int) = 32
  · rw [if_pos (by omega), tuskref08_Mark.j0, if_neg (by rw [bne_iff_ne]; omega), if_pos (by omega)]
    have e : ∀ x : Int, 0 ≤ x → x ≤ 4611686018427387903 → 0 ≤ x / 256 ∧ x / 256 ≤ 4611686018427387903 := by intro x h h'; omega
    have x1 := e r (by omega) (by omega)
    have x2 := e _ x1.1 x1.2
    have x3 := e _ x2.1 x2.2
    have x4 := e _ x3.1 x3.2
    have x5 := e _ x4.1 x4.2
    have x6 := e _ x5.1 x5.2
    have x7 := e _ x6.1 x6.2
    rw [show k + 9 = (k + 8) + 1 from rfl, mark_step r 7 a _ _ (by omega) (by omega) (by omega) (by omega) (by simp)]
    rw [show k + 8 = (k + 7) + 1 from rfl, mark_step _ _ a _ _ x1.1 x1.2 (by omega) (by omega) (by simp)]
    rw [show k + 7 = (k + 6) + 1 from rfl, mark_step _ _ a _ _ x2.1 x2.2 (by omega) (by omega) (by simp)]
    rw [show k + 6 = (k + 5) + 1 from rfl, mark_step _ _ a _ _ x3.1 x3.2 (by omega) (by omega) (by simp)]
    rw [show k + 5 = (k + 4) + 1 from rfl, mark_step _ _ a _ _ x4.1 x4.2 (by omega) (by omega) (by simp)]
    rw [show k + 4 = (k + 3) + 1 from rfl, mark_step _ _ a _ _ x5.1 x5.2 (by omega) (by omega) (by simp)]
    rw [show k + 3 = (k + 2) + 1 from rfl, mark_step _ _ a _ _ x6.1 x6.2 (by omega) (by omega) (by simp)]
    rw [show k + 2 = (k + 1) + 1 from rfl, mark_step _ _ a _ _ x7.1 x7.2 (by omega) (by omega) (by simp)]
    have hl : ∀ xs, xs = nums r → tuskref08_Mark.l0 (k + 1) (r / 256 / 256 / 256 / 256 / 256 / 256 / 256 / 256) a xs (7 - 1 - 1 - 1 - 1 - 1 - 1 - 1 - 1) = some (markB r ++ a) := by
      rintro xs rfl
      have hs : (markB r).size = 8 := rfl
      rw [tuskref08_Mark.l0, if_neg (by omega), nums_mark r (by omega) (by omega), if_pos (by omega)]
    exact hl _ rfl
  · rw [if_neg (by omega), tuskref08_Mark.j0, if_pos (by rw [bne_iff_ne]; exact h3)]
theorem beN_mark (r : Int) (a : ByteArray) (h1 : 1 ≤ r) (h2 : r ≤ 4611686018427387903) (ha : a.size = 32) : (beN ((markB r ++ a).extract 0 8) 8 : Int) = r := by
  have hs : (markB r).size = 8 := rfl
  rw [extract_left _ _ _ (by omega), show (markB r).extract 0 8 = markB r from by rw [← hs]; exact extract_all _, be8]
  have e0 : ((byteN (markB r) 0 : Nat) : Int) = r / 72057594037927936 := u8_nat (x := r / 72057594037927936) (by omega) (by omega)
  have e1 : ((byteN (markB r) 1 : Nat) : Int) = r / 281474976710656 % 256 := u8_nat (x := r / 281474976710656 % 256) (by omega) (by omega)
  have e2 : ((byteN (markB r) 2 : Nat) : Int) = r / 1099511627776 % 256 := u8_nat (x := r / 1099511627776 % 256) (by omega) (by omega)
  have e3 : ((byteN (markB r) 3 : Nat) : Int) = r / 4294967296 % 256 := u8_nat (x := r / 4294967296 % 256) (by omega) (by omega)
  have e4 : ((byteN (markB r) 4 : Nat) : Int) = r / 16777216 % 256 := u8_nat (x := r / 16777216 % 256) (by omega) (by omega)
  have e5 : ((byteN (markB r) 5 : Nat) : Int) = r / 65536 % 256 := u8_nat (x := r / 65536 % 256) (by omega) (by omega)
  have e6 : ((byteN (markB r) 6 : Nat) : Int) = r / 256 % 256 := u8_nat (x := r / 256 % 256) (by omega) (by omega)
  have e7 : ((byteN (markB r) 7 : Nat) : Int) = r % 256 := u8_nat (x := r % 256) (by omega) (by omega)
  omega
theorem mark_beN (t : ByteArray) (ht : t.size = 8) (hb : beN t 8 ≤ 4611686018427387903) : markB (beN t 8 : Int) = t := by
  refine ba_ext (show 8 = t.size from ht.symm) fun i hi => ?_
  have hi : i < 8 := hi
  have hB := be8 t
  have b0 := byteN_lt t 0
  have b1 := byteN_lt t 1
  have b2 := byteN_lt t 2
  have b3 := byteN_lt t 3
  have b4 := byteN_lt t 4
  have b5 := byteN_lt t 5
  have b6 := byteN_lt t 6
  have b7 := byteN_lt t 7
  rw [byteN_bt t i (by omega), byteN_bt _ i (show i < (markB (beN t 8 : Int)).size from hi)]
  generalize beN t 8 = n at *
  match i, hi with
  | 0, _ => refine (u8_nat (x := (n : Int) / 72057594037927936) (by omega) (by omega)).trans ?_; omega
  | 1, _ => refine (u8_nat (x := (n : Int) / 281474976710656 % 256) (by omega) (by omega)).trans ?_; omega
  | 2, _ => refine (u8_nat (x := (n : Int) / 1099511627776 % 256) (by omega) (by omega)).trans ?_; omega
  | 3, _ => refine (u8_nat (x := (n : Int) / 4294967296 % 256) (by omega) (by omega)).trans ?_; omega
  | 4, _ => refine (u8_nat (x := (n : Int) / 16777216 % 256) (by omega) (by omega)).trans ?_; omega
  | 5, _ => refine (u8_nat (x := (n : Int) / 65536 % 256) (by omega) (by omega)).trans ?_; omega
  | 6, _ => refine (u8_nat (x := (n : Int) / 256 % 256) (by omega) (by omega)).trans ?_; omega
  | 7, _ => refine (u8_nat (x := (n : Int) % 256) (by omega) (by omega)).trans ?_; omega
theorem unmark_mark (s : ByteArray) (u1 : Int) (u2 : ByteArray) (h : block_Unmark.f s = some (u1, u2, true)) : block_Mark.f u1 u2 = some s := by
  have h := Option.some.inj h
  by_cases hs : (s.size : Int) = 40
  · rw [if_pos hs] at h
    unfold unmarkP at h
    by_cases hc : (beN (s.extract 0 8) 8 : Int) < 1 ∨ 4611686018427387903 < (beN (s.extract 0 8) 8 : Int)
    · rw [if_pos hc] at h
      injection h with h1 h; injection h with h2 h3; cases h3
    · rw [if_neg hc] at h
      injection h with h1 h; injection h with h2 h3
      subst h1 h2
      have hs' : s.size = 40 := by omega
      have e1 : (s.extract 8 40).size = 32 := by rw [ByteArray.size_extract]; omega
      have e2 : (s.extract 0 8).size = 8 := by rw [ByteArray.size_extract]; omega
      unfold block_Mark.f
      rw [if_pos (by omega), mark_beN _ e2 (by omega)]
      have h := split_at s 8 (by omega)
      rw [hs'] at h
      rw [h]
  · rw [if_neg hs] at h
    injection h with h1 h; injection h with h2 h3; cases h3
theorem mark_unmark (r : Int) (a : ByteArray) (h1 : 1 ≤ r) (h2 : r ≤ 4611686018427387903) (ha : (a.size : Int) = 32) : block_Unmark.f (markB r ++ a) = some (r, a, true) := by
  have hs : (markB r).size = 8 := rfl
  have hz : (markB r ++ a).size = 40 := by rw [ByteArray.size_append]; omega
  have e := beN_mark r a h1 h2 (by omega)
  have e2 : (markB r ++ a).extract 8 40 = a := by
    have h := extract_append' (markB r) a 8 hs.symm
    rwa [hz] at h
  unfold block_Unmark.f unmarkP
  rw [if_pos (by omega), if_neg (by omega), e, e2]
theorem BlockMarks : tusklaw08_BlockMarks.Pure := by
  intro a0 a1 a2 hw ha1 ha2
  refine ⟨12, ?_⟩
  unfold tusklaw08_BlockMarks.f
  by_cases h1 : (a1.size : Int) > 1000
  · rw [if_pos h1, tusklaw08_BlockMarks.j0, if_pos rfl]
  rw [if_neg h1]
  by_cases h2 : (a2.size : Int) > 1000
  · rw [decide_eq_true h2, tusklaw08_BlockMarks.j0, if_pos rfl]
  rw [decide_eq_false h2, tusklaw08_BlockMarks.j0, if_neg (by decide), ref_unmark a2 1, ref_mark a0 a1 1 ha1]
  obtain ⟨u1, u2, u3, hu⟩ : ∃ u1 u2 u3, block_Unmark.f a2 = some (u1, u2, u3) := ⟨_, _, _, rfl⟩
  obtain ⟨M, hM⟩ : ∃ M, block_Mark.f a0 a1 = some M := ⟨_, rfl⟩
  rw [hu, hM, Option.bind_some, Option.bind_some, Option.bind_some, Option.bind_some, if_pos rfl, if_pos rfl, if_pos rfl, bne_self_eq_false, tusklaw08_BlockMarks.j1, if_neg (by decide)]
  obtain ⟨e, f, n, hn⟩ : ∃ e f n, block_Unmark.f M = some (e, f, n) := ⟨_, _, _, rfl⟩
  have hlast : ∀ g : ByteArray → Option Bool, (∀ t, g t = some (t.toList == a2.toList)) → (if u3 = true then (block_Mark.f u1 u2).bind g else some true) = some true := by
    intro g hg
    by_cases h3 : u3 = true
    · subst h3
      rw [if_pos rfl, unmark_mark a2 u1 u2 hu, Option.bind_some, hg, beq_self_eq_true]
    · rw [if_neg h3]
  rw [hn, Option.bind_some]
  by_cases hz : M.toList = []
  · rw [if_pos hz]
    exact hlast _ fun _ => rfl
  · rw [if_neg hz]
    have hm := Option.some.inj hM
    by_cases hc : 1 ≤ a0 ∧ a0 ≤ 4611686018427387903 ∧ (a1.size : Int) = 32
    · rw [if_pos hc] at hm
      subst hm
      rw [mark_unmark a0 a1 hc.1 hc.2.1 hc.2.2] at hn
      have hn := Option.some.inj hn
      injection hn with n1 hn; injection hn with n2 n3
      subst n1 n2 n3
      rw [if_pos rfl, if_pos rfl, if_pos rfl]
      exact hlast _ fun _ => rfl
    · rw [if_neg hc] at hm
      subst hm
      exact absurd (by rw [ByteArray.toList_eq]) hz
end Go.Proofs.Ytgfnleapjldbkaa.Pure
