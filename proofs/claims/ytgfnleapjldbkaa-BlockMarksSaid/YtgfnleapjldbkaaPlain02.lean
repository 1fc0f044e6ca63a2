/- What is written is got again, and the other way round: plain laws of numbers and texts as bytes. -/
import Derived.Test.YtgfnleapjldbkaaPlain01
namespace Go.Proofs.Ytgfnleapjldbkaa.Plain02
open Go.Proofs.YtgfnleapjldbkaaW.PrintWords Go.Proofs.Ytgfnleapjldbkaa.Plain01

theorem ba_ext {a b : ByteArray} (hs : a.size = b.size) (h : ∀ i : Nat, i < a.size → bt a i = bt b i) : a = b := by
  apply ByteArray.ext
  apply Array.ext
  · exact hs
  · intro i h1 h2
    have h3 : i < a.size := h1
    have h4 : i < b.size := h2
    have := h i h3
    simp only [bt, Int.toNat_natCast, h3, h4, dif_pos] at this
    have h5 : (a[i]'h3).toNat = (b[i]'h4).toNat := by omega
    exact UInt8.toNat_inj.1 h5
theorem bt_left (a b : ByteArray) (i : Nat) (h : i < a.size) : bt (a ++ b) i = bt a i := by
  have h2 : i < (a ++ b).size := by rw [ba_append_size]; omega
  simp only [bt, Int.toNat_natCast, h, h2, dif_pos]
  rw [ByteArray.getElem_append_left h]
theorem bt_right (a b : ByteArray) (i : Nat) (h : i < b.size) : bt (a ++ b) ((a.size + i : Nat) : Int) = bt b i := by
  have h2 : a.size + i < (a ++ b).size := by rw [ba_append_size]; omega
  simp only [bt, Int.toNat_natCast, h, h2, dif_pos]
  rw [ByteArray.getElem_append_right (by omega)]
  simp
theorem bt_extract (s : ByteArray) (a b i : Nat) (hb : b ≤ s.size) (h : i < b - a) : bt (s.extract a b) i = bt s ((a + i : Nat) : Int) := by
  have h1 : i < (s.extract a b).size := by rw [ByteArray.size_extract]; omega
  have h2 : a + i < s.size := by omega
  simp only [bt, Int.toNat_natCast, h1, h2, dif_pos]
  rw [ByteArray.getElem_extract]
theorem bt_strOfNums (xs : List Int) (hx : ∀ x ∈ xs, 0 ≤ x ∧ x ≤ 255) (i : Nat) (h : i < xs.length) : bt (strOfNums xs) i = xs[i] := by
  have h1 : i < (strOfNums xs).size := by rw [strOfNums_size]; exact h
  simp only [bt, Int.toNat_natCast, h1, dif_pos]
  have e : (strOfNums xs)[i]'h1 = UInt8.ofNat (xs[i]).toNat := by
    show (strOfNums xs).data[i]'h1 = _
    simp [strOfNums]
  have := hx xs[i] (List.getElem_mem h)
  rw [e]
  simp
  omega
theorem encF_bytes (k n : Nat) : ∀ x ∈ encF k n, 0 ≤ x ∧ x ≤ 255 := by
  induction k generalizing n with
  | zero => simp [encF]
  | succ k ih =>
    rw [encF]
    split
    · intro x hx; simp at hx; omega
    · intro x hx
      rcases List.mem_cons.1 hx with rfl | h
      · omega
      · exact ih _ x h
theorem getL_succ (s : ByteArray) (i n : Nat) (hi : i ≤ 8) (hl : i < s.size) :
    wireGetL s (9 - i) n =
      if 128 ≤ (bt s i).toNat then wireGetL s (9 - (i + 1)) (n + (bt s i).toNat % 128 * 128 ^ i)
      else if 4611686018427387903 < n + (bt s i).toNat % 128 * 128 ^ i then (0, 0, 2)
      else if (bt s i).toNat = 0 ∧ 1 < i + 1 then (0, 0, 3)
      else (((n + (bt s i).toNat % 128 * 128 ^ i : Nat) : Int), ((i + 1 : Nat) : Int), 0) := by
  obtain ⟨d, hd⟩ : ∃ d, 9 - i = d + 1 := ⟨8 - i, by omega⟩
  obtain rfl : i = 8 - d := by omega
  have e1 : 9 - (8 - d + 1) = d := by omega
  rw [hd, e1, wireGetL, if_neg (by omega)]
/-- A number's bytes are read as the number. -/
theorem getL_enc (S : ByteArray) : ∀ (k m i acc : Nat), 1 ≤ k → i + k ≤ 9 → m < 128 ^ k → (0 < i → 0 < m) → acc + m * 128 ^ i ≤ 4611686018427387903 → i + (encF k m).length ≤ S.size →
    (∀ j (h : j < (encF k m).length), bt S ((i + j : Nat) : Int) = (encF k m)[j]) →
    wireGetL S (9 - i) acc = (((acc + m * 128 ^ i : Nat) : Int), ((i + (encF k m).length : Nat) : Int), 0) := by
  intro k
  induction k with
  | zero => intro m i acc h1; omega
  | succ k ih =>
    intro m i acc h1 h2 h3 h4 h5 h6 h7
    by_cases hm : m < 128
    · have e : encF (k + 1) m = [(m : Int)] := by rw [encF, if_pos hm]
      rw [e] at h6 h7 ⊢
      have hb : bt S ((i : Nat) : Int) = (m : Int) := by have := h7 0 (by simp); simpa using this
      rw [getL_succ S i acc (by omega) (by simp at h6; omega), hb, Int.toNat_natCast, if_neg (by omega), Nat.mod_eq_of_lt hm, if_neg (by omega), if_neg (by omega)]
      rfl
    · have e : encF (k + 1) m = ((m % 128 + 128 : Nat) : Int) :: encF k (m / 128) := by rw [encF, if_neg hm]
      rw [e] at h6 h7 ⊢
      have hb : bt S ((i : Nat) : Int) = ((m % 128 + 128 : Nat) : Int) := by have := h7 0 (by simp); simpa using this
      rw [List.length_cons] at h6
      have hk : 1 ≤ k := by
        rcases Nat.eq_zero_or_pos k with rfl | h
        · simp at h3; omega
        · exact h
      have hdiv : m / 128 < 128 ^ k := by rw [Nat.pow_succ] at h3; omega
      have hsum : m % 128 * 128 ^ i + m / 128 * 128 ^ (i + 1) = m * 128 ^ i := by
        rw [Nat.pow_succ, Nat.mul_comm (128 ^ i) 128, ← Nat.mul_assoc, ← Nat.add_mul]
        congr 1
        omega
      rw [getL_succ S i acc (by omega) (by omega), hb, Int.toNat_natCast, if_pos (by omega), show (m % 128 + 128) % 128 = m % 128 from by omega]
      rw [ih (m / 128) (i + 1) (acc + m % 128 * 128 ^ i) hk (by omega) hdiv (fun _ => by omega) (by omega) (by omega) ?_]
      · rw [List.length_cons]
        congr 1
        · congr 1; omega
        · congr 1; congr 1; omega
      · intro j hj
        have := h7 (j + 1) (by simp; omega)
        rw [show i + 1 + j = i + (j + 1) from by omega, this]
        rfl
theorem wireInt_nat {n : Nat} (h : n ≤ 4611686018427387903) : wireInt (n : Int) = strOfNums (encF 9 n) := by
  unfold wireInt
  rw [if_neg (by omega), if_neg (by omega), Int.toNat_natCast]
/-- 1.4: a number that is written is got again, whatever follows. -/
theorem get_int (n : Nat) (h : n ≤ 4611686018427387903) (s : ByteArray) : wireGet (wireInt (n : Int) ++ s) = ((n : Int), ((wireInt (n : Int)).size : Int), 0) := by
  have hs : (wireInt (n : Int)).size = (encF 9 n).length := by rw [wireInt_nat h, strOfNums_size]
  have := getL_enc (wireInt (n : Int) ++ s) 9 n 0 0 (by omega) (by omega) (by omega) (by omega) (by omega) (by rw [ba_append_size]; omega) (fun j hj => by
    rw [Nat.zero_add, bt_left _ _ j (by omega), wireInt_nat h, bt_strOfNums _ (encF_bytes 9 n) j hj])
  rw [wireGet, this, hs]
  simp
/-- What is got was written so. -/
theorem getL_back (s : ByteArray) : ∀ (d i acc : Nat) (N K : Int), d = 9 - i → i ≤ 8 → wireGetL s (9 - i) acc = (N, K, 0) → i ≤ s.size →
    ∃ m : Nat, N = ((acc + m * 128 ^ i : Nat) : Int) ∧ m < 128 ^ (9 - i) ∧ (0 < i → 0 < m) ∧ K = ((i + (encF (9 - i) m).length : Nat) : Int) ∧ i + (encF (9 - i) m).length ≤ s.size ∧ ∀ j (h : j < (encF (9 - i) m).length), bt s ((i + j : Nat) : Int) = (encF (9 - i) m)[j] := by
  intro d
  induction d with
  | zero => intro i acc N K h1 h2; omega
  | succ d ih =>
    intro i acc N K h1 h2 h3 h4
    obtain ⟨k, hk⟩ : ∃ k, 9 - i = k + 1 := ⟨8 - i, by omega⟩
    by_cases hs : i = s.size
    · rw [hk, wireGetL, if_pos (by omega)] at h3
      simp at h3
    have hr := bt_range s (i : Int)
    rw [getL_succ s i acc h2 (by omega)] at h3
    by_cases hc : 128 ≤ (bt s i).toNat
    · rw [if_pos hc] at h3
      by_cases hi8 : i = 8
      · subst hi8
        simp [wireGetL] at h3
      obtain ⟨m, e1, e2, e3, e4, e5, e6⟩ := ih (i + 1) _ N K (by omega) (by omega) h3 (by omega)
      have hm := e3 (by omega)
      have hk1 : 9 - (i + 1) = k := by omega
      rw [hk1] at e2 e4 e5 e6
      have e : encF (k + 1) ((bt s i).toNat % 128 + 128 * m) = ((bt s i).toNat : Int) :: encF k m := by
        rw [encF, if_neg (by omega)]
        congr 1
        · omega
        · congr 1; omega
      refine ⟨(bt s i).toNat % 128 + 128 * m, ?_, ?_, fun _ => by omega, ?_⟩
      · rw [e1, Nat.add_mul, Nat.pow_succ]
        congr 1
        rw [show 128 * m * 128 ^ i = m * (128 ^ i * 128) from by rw [Nat.mul_comm 128 m, Nat.mul_assoc, Nat.mul_comm 128]]
        omega
      · rw [hk, Nat.pow_succ]; omega
      · rw [hk, e]
        refine ⟨by rw [e4, List.length_cons]; congr 1; omega, by rw [List.length_cons]; omega, ?_⟩
        intro j hj
        rw [List.length_cons] at hj
        cases j with
        | zero => simp; omega
        | succ j =>
          have := e6 j (by omega)
          rw [show i + (j + 1) = i + 1 + j from by omega, this]
          rfl
    · rw [if_neg hc] at h3
      split at h3
      · simp at h3
      split at h3
      · simp at h3
      rename_i hz
      simp only [Prod.mk.injEq] at h3
      obtain ⟨rfl, rfl, _⟩ := h3
      have e : encF (k + 1) (bt s i).toNat = [((bt s i).toNat : Int)] := by rw [encF, if_pos (by omega)]
      have e128 : (128 : Nat) ≤ 128 ^ (k + 1) := by
        rw [Nat.pow_succ]
        have := Nat.one_le_pow k 128 (by decide)
        omega
      refine ⟨(bt s i).toNat, by rw [Nat.mod_eq_of_lt (by omega)], by rw [hk]; omega, fun h => by omega, ?_⟩
      rw [hk, e]
      refine ⟨rfl, by simp; omega, ?_⟩
      intro j hj
      have : j = 0 := by simpa using hj
      subst this
      simp; omega
theorem get_back (s : ByteArray) (N K : Int) (h : wireGet s = (N, K, 0)) : 0 ≤ N ∧ N ≤ 4611686018427387903 ∧ K = ((wireInt N).size : Int) ∧ (wireInt N).size ≤ s.size ∧ wireInt N = s.extract 0 K.toNat := by
  have hc := wireGet_cases s
  rw [h] at hc
  obtain ⟨m, e1, _, _, e4, e5, e6⟩ := getL_back s 9 0 0 N K rfl (by omega) h (by omega)
  rw [Nat.zero_add, Nat.pow_zero, Nat.mul_one] at e1
  rw [Nat.zero_add] at e4 e5
  simp only [Nat.zero_add] at e6
  have hm : m ≤ 4611686018427387903 := by simp at hc; omega
  subst e1
  have hs : (wireInt (m : Int)).size = (encF 9 m).length := by rw [wireInt_nat hm, strOfNums_size]
  refine ⟨by omega, by omega, by rw [e4, hs], by rw [hs]; exact e5, ?_⟩
  rw [e4, Int.toNat_natCast]
  apply ba_ext
  · rw [hs, extract_size s 0 _ e5]; rfl
  · intro i hi
    rw [hs] at hi
    rw [bt_extract s 0 _ i e5 (by omega), Nat.zero_add, e6 i hi, wireInt_nat hm, bt_strOfNums _ (encF_bytes 9 m) i hi]

theorem wireInt_zero_of {a : Int} (h : ¬ (0 ≤ a ∧ a ≤ 4611686018427387903)) : wireInt a = ⟨#[]⟩ := by
  unfold wireInt
  split
  · rfl
  · rw [if_pos (by omega)]
theorem wireInt_pos_size (n : Nat) (h : n ≤ 4611686018427387903) : 0 < (wireInt (n : Int)).size := by
  rw [wireInt_nat h, strOfNums_size, encF]
  split <;> simp
theorem extract_all (s : ByteArray) : s.extract 0 s.size = s := by
  apply ba_ext
  · rw [extract_size s 0 _ (Nat.le_refl _)]; omega
  · intro i hi
    rw [extract_size s 0 _ (Nat.le_refl _)] at hi
    rw [bt_extract s 0 _ i (Nat.le_refl _) hi, Nat.zero_add]
theorem extract_left (a b : ByteArray) (k : Nat) (h : k ≤ a.size) : (a ++ b).extract 0 k = a.extract 0 k := by
  have h2 : k ≤ (a ++ b).size := by rw [ba_append_size]; omega
  apply ba_ext
  · rw [extract_size _ 0 _ h2, extract_size _ 0 _ h]
  · intro i hi
    rw [extract_size _ 0 _ h2] at hi
    rw [bt_extract _ 0 _ i h2 hi, bt_extract _ 0 _ i h hi, Nat.zero_add, bt_left a b i (by omega)]
theorem extract_append (a b : ByteArray) : (a ++ b).extract a.size (a.size + b.size) = b := by
  have h2 : a.size + b.size ≤ (a ++ b).size := by rw [ba_append_size]; omega
  apply ba_ext
  · rw [extract_size _ _ _ h2]; omega
  · intro i hi
    rw [extract_size _ _ _ h2] at hi
    rw [bt_extract _ _ _ i h2 hi, bt_right a b i (by omega)]
theorem extract_append' (a b : ByteArray) (k : Nat) (h : k = a.size) : (a ++ b).extract k (a ++ b).size = b := by
  subst h; rw [ba_append_size]; exact extract_append a b
theorem split_at (s : ByteArray) (k : Nat) (h : k ≤ s.size) : s.extract 0 k ++ s.extract k s.size = s := by
  apply ba_ext
  · rw [ba_append_size, extract_size s 0 _ h, extract_size s k _ (Nat.le_refl _)]; omega
  · intro i hi
    rw [ba_append_size, extract_size s 0 _ h, extract_size s k _ (Nat.le_refl _)] at hi
    rcases Nat.lt_or_ge i k with hl | hl
    · rw [bt_left _ _ i (by rw [extract_size s 0 _ h]; omega), bt_extract s 0 _ i h (by omega), Nat.zero_add]
    · have e := bt_right (s.extract 0 k) (s.extract k s.size) (i - k) (by rw [extract_size s k _ (Nat.le_refl _)]; omega)
      rw [extract_size s 0 _ h, show k - 0 + (i - k) = i from by omega] at e
      rw [e, bt_extract s k _ (i - k) (Nat.le_refl _) (by omega), show k + (i - k) = i from by omega]
/-- 1.4: of two different numbers neither's bytes begin with the other's. -/
theorem int_apart (a b : Nat) (ha : a ≤ 4611686018427387903) (hb : b ≤ 4611686018427387903) (hle : (wireInt (a : Int)).size ≤ (wireInt (b : Int)).size)
    (h : wireInt (a : Int) = (wireInt (b : Int)).extract 0 (wireInt (a : Int)).size) : a = b := by
  have e := split_at (wireInt (b : Int)) (wireInt (a : Int)).size hle
  rw [← h] at e
  have h1 := get_int a ha ((wireInt (b : Int)).extract (wireInt (a : Int)).size (wireInt (b : Int)).size)
  rw [e] at h1
  have h2 := get_int b hb ⟨#[]⟩
  rw [show wireInt (b : Int) ++ (⟨#[]⟩ : ByteArray) = wireInt (b : Int) from ByteArray.append_empty, h1] at h2
  simp only [Prod.mk.injEq] at h2
  omega
/-- How many bytes a number has: one more for each time that it is parted. -/
theorem encF_mono (k : Nat) : ∀ a b : Nat, a ≤ b → (encF k a).length ≤ (encF k b).length := by
  induction k with
  | zero => intro a b h; simp [encF]
  | succ k ih =>
    intro a b h
    rw [encF, encF]
    split
    · split <;> simp
    · rw [if_neg (by omega)]
      have := ih (a / 128) (b / 128) (by omega)
      simp; exact this
theorem size_mono (a b : Nat) (hb : b ≤ 4611686018427387903) (h : a ≤ b) : (wireInt (a : Int)).size ≤ (wireInt (b : Int)).size := by
  rw [wireInt_nat (by omega), wireInt_nat hb, strOfNums_size, strOfNums_size]
  exact encF_mono 9 a b h
/-- 1.4: a text that is written is got again. -/
theorem get_text (t s : ByteArray) (h : t.size ≤ 65536) : wireGetText (wireText t ++ s) = (t, ((wireText t).size : Int), 0) := by
  have e : wireText t ++ s = wireInt (t.size : Int) ++ (t ++ s) := by rw [wireText, ByteArray.append_assoc]
  have hs : (wireText t).size = (wireInt (t.size : Int)).size + t.size := by rw [wireText, ba_append_size]
  have hg := get_int t.size (by omega) (t ++ s)
  rw [e, wireGetText, hg]
  simp only [if_true]
  rw [if_neg (by omega), if_neg (by rw [ba_append_size, ba_append_size]; omega), Int.toNat_natCast, hs]
  rw [show (((wireInt (t.size : Int)).size : Int) + (t.size : Int)) = (((wireInt (t.size : Int)).size + t.size : Nat) : Int) from rfl, Int.toNat_natCast]
  congr 1
  rw [← ByteArray.append_assoc]
  have h2 : (wireInt (t.size : Int)).size + t.size ≤ (wireInt (t.size : Int) ++ t ++ s).size := by rw [ba_append_size, ba_append_size]; omega
  apply ba_ext
  · rw [extract_size _ _ _ h2]; omega
  · intro i hi
    rw [extract_size _ _ _ h2] at hi
    rw [bt_extract _ _ _ i h2 hi, bt_left _ _ _ (by rw [ba_append_size]; omega), bt_right _ _ i (by omega)]
theorem get_text_long (t s : ByteArray) (h : 65536 < t.size) (h2 : t.size ≤ 4611686018427387903) : wireGetText (wireText t ++ s) = (⟨#[]⟩, 0, 8) := by
  have e : wireText t ++ s = wireInt (t.size : Int) ++ (t ++ s) := by rw [wireText, ByteArray.append_assoc]
  have hg := get_int t.size h2 (t ++ s)
  rw [e, wireGetText, hg]
  simp only [if_true]
  rw [if_pos (by omega)]
theorem text_back (s y : ByteArray) (j : Int) (h : wireGetText s = (y, j, 0)) : 0 ≤ j ∧ j ≤ s.size ∧ y.size ≤ 65536 ∧ j = ((wireText y).size : Int) ∧ wireText y = s.extract 0 j.toNat := by
  unfold wireGetText at h
  have hc := wireGet_cases s
  split at h
  · rename_i h0
    split at h
    · simp at h
    split at h
    · simp at h
    simp only [Prod.mk.injEq, and_true] at h
    obtain ⟨h1, h2⟩ := h
    have hb := get_back s (wireGet s).1 (wireGet s).2.1 (by rw [← h0])
    obtain ⟨b1, b2, b3, b4, b5⟩ := hb
    obtain ⟨n, hn⟩ := Int.eq_ofNat_of_zero_le b1
    obtain ⟨q, hq⟩ := Int.eq_ofNat_of_zero_le (show 0 ≤ (wireGet s).2.1 by omega)
    have hle : q + n ≤ s.size := by omega
    have hy : y.size = n := by
      rw [← h1, hn, hq, extract_size _ _ _ (by omega)]; omega
    have ht : (wireText y).size = q + n := by
      rw [wireText, ba_append_size, hy, ← hn]; omega
    refine ⟨by omega, by omega, by omega, by rw [ht]; omega, ?_⟩
    rw [← h2, hn, hq, show ((q : Int) + (n : Int)) = ((q + n : Nat) : Int) from rfl, Int.toNat_natCast]
    rw [wireText, hy, ← hn, b5, hq, Int.toNat_natCast]
    have hyx : y = s.extract q (q + n) := by rw [← h1, hn, hq]; congr 1
    rw [hyx]
    apply ba_ext
    · rw [ba_append_size, extract_size _ _ _ (by omega), extract_size _ _ _ (by omega), extract_size _ _ _ hle]; omega
    · intro i hi
      rw [ba_append_size, extract_size _ _ _ (by omega), extract_size _ _ _ (by omega)] at hi
      rw [bt_extract s 0 (q + n) i hle (by omega), Nat.zero_add]
      rcases Nat.lt_or_ge i q with hl | hl
      · rw [bt_left _ _ i (by rw [extract_size _ _ _ (by omega)]; omega), bt_extract s 0 q i (by omega) (by omega), Nat.zero_add]
      · have e := bt_right (s.extract 0 q) (s.extract q (q + n)) (i - q) (by rw [extract_size _ _ _ (by omega)]; omega)
        rw [extract_size _ _ _ (by omega), show q - 0 + (i - q) = i from by omega] at e
        rw [e, bt_extract s q _ (i - q) (by omega) (by omega), show q + (i - q) = i from by omega]
  · simp only [Prod.mk.injEq] at h
    omega
end Go.Proofs.Ytgfnleapjldbkaa.Plain02
