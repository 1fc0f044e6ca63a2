/- Lists as bytes: got again, and too short where they are cut off: plain laws. -/
import Derived.Test.YtkhlmcnipecgoaaPlain02
import Derived.Laws.Bits64
namespace Go.Proofs.Ytkhlmcnipecgoaa.Plain03
open Go.RowKit Go.Proofs.YtkhlmcnipecgoaaW.PrintWords Go.Proofs.Ytkhlmcnipecgoaa.Plain01 Go.Proofs.Ytkhlmcnipecgoaa.Plain02

theorem append_assoc' (a b c : ByteArray) : a ++ b ++ c = a ++ (b ++ c) := ByteArray.append_assoc
theorem texts_read (s : ByteArray) : ∀ (l : List ByteArray) (pre : ByteArray) (acc : List ByteArray), (∀ x ∈ l, x.size ≤ 65536) →
    wireTexts (pre ++ (wireCat l ++ s)) l.length (pre.size : Int) acc = (acc ++ l, ((pre.size + (wireCat l).size : Nat) : Int), 0) := by
  intro l
  induction l with
  | nil =>
    intro pre acc _
    rw [List.length_nil, wireTexts, List.append_nil, wireCat]
    rfl
  | cons x l ih =>
    intro pre acc h
    have hx := h x List.mem_cons_self
    have e1 : (pre ++ (wireCat (x :: l) ++ s)).extract (pre.size : Int).toNat (pre ++ (wireCat (x :: l) ++ s)).size = wireText x ++ (wireCat l ++ s) := by
      rw [Int.toNat_natCast, extract_append' pre _ _ rfl, wireCat, append_assoc']
    have hg := get_text x (wireCat l ++ s) hx
    rw [List.length_cons, wireTexts, e1, hg]
    simp only [if_true]
    have e2 : pre ++ (wireCat (x :: l) ++ s) = (pre ++ wireText x) ++ (wireCat l ++ s) := by rw [wireCat, append_assoc', append_assoc']
    have e3 : (pre.size : Int) + ((wireText x).size : Int) = ((pre ++ wireText x).size : Int) := by rw [ba_append_size]; omega
    rw [e2, e3, ih (pre ++ wireText x) (acc ++ [x]) fun y hy => h y (List.mem_cons_of_mem _ hy)]
    rw [List.append_assoc, wireCat, ba_append_size, ba_append_size]
    congr 2
    congr 1
    omega
/-- 1.4: a list that is written is got again. -/
theorem get_list (l : List ByteArray) (s : ByteArray) (most : Int) (hl : l.length ≤ 4611686018427387903) (hm : (l.length : Int) ≤ most) (h : ∀ x ∈ l, x.size ≤ 65536) :
    wireGetList (wireList l ++ s) most = (l, ((wireList l).size : Int), 0) := by
  have e : wireList l ++ s = wireInt (l.length : Int) ++ (wireCat l ++ s) := by rw [wireList, append_assoc']
  have hg := get_int l.length hl (wireCat l ++ s)
  rw [e, wireGetList, hg]
  simp only [if_true]
  rw [if_neg (by omega), Int.toNat_natCast, texts_read s l (wireInt (l.length : Int)) [] h, wireList, ba_append_size]
  rfl
theorem get_list_long (l : List ByteArray) (s : ByteArray) (most : Int) (hl : l.length ≤ 4611686018427387903) (hm : most < (l.length : Int)) :
    wireGetList (wireList l ++ s) most = ([], 0, 8) := by
  have e : wireList l ++ s = wireInt (l.length : Int) ++ (wireCat l ++ s) := by rw [wireList, append_assoc']
  have hg := get_int l.length hl (wireCat l ++ s)
  rw [e, wireGetList, hg]
  simp only [if_true]
  rw [if_pos (by omega)]
theorem wireText_size (t : ByteArray) : (wireText t).size ≤ 9 + t.size := by
  have := wireInt_size (t.size : Int)
  rw [wireText, ba_append_size]; omega
theorem wireCat_size (l : List ByteArray) : (wireCat l).size ≤ 10 * (l.map fun s => s.size + 1).sum := by
  induction l with
  | nil => exact Nat.zero_le _
  | cons x l ih =>
    have := wireText_size x
    rw [wireCat, ba_append_size, List.map_cons, List.sum_cons]
    omega
theorem wireList_size (l : List ByteArray) : (wireList l).size ≤ 9 + 10 * (l.map fun s => s.size + 1).sum := by
  have := wireInt_size (l.length : Int)
  have := wireCat_size l
  rw [wireList, ba_append_size]; omega
theorem length_le_sum (l : List ByteArray) : l.length ≤ (l.map fun s => s.size + 1).sum := by
  induction l with
  | nil => simp
  | cons x l ih => rw [List.map_cons, List.sum_cons, List.length_cons]; omega
theorem size_le_sum (l : List ByteArray) (x : ByteArray) (h : x ∈ l) : x.size < (l.map fun s => s.size + 1).sum := by
  induction l with
  | nil => simp at h
  | cons y l ih =>
    rw [List.map_cons, List.sum_cons]
    rcases List.mem_cons.1 h with rfl | h
    · omega
    · have := ih h; omega

/-! What is cut off is too short. -/
theorem getL_short (S : ByteArray) (hS : S.size ≤ 8) : ∀ (d i acc : Nat), d = S.size - i → i ≤ S.size → (∀ j : Nat, i ≤ j → j < S.size → 128 ≤ (bt S j).toNat) → wireGetL S (9 - i) acc = (0, 0, 1) := by
  intro d
  induction d with
  | zero =>
    intro i acc hd hi _
    obtain ⟨k, hk⟩ : ∃ k, 9 - i = k + 1 := ⟨8 - i, by omega⟩
    rw [hk, wireGetL, if_pos (by omega)]
  | succ d ih =>
    intro i acc hd hi h
    rw [getL_succ S i acc (by omega) (by omega), if_pos (h i (Nat.le_refl _) (by omega))]
    exact ih (i + 1) _ (by omega) (by omega) fun j h1 h2 => h j (by omega) h2
theorem encF_cont (k : Nat) : ∀ (m j : Nat) (h : j < (encF k m).length), j + 1 < (encF k m).length → 128 ≤ ((encF k m)[j]).toNat := by
  induction k with
  | zero => intro m j h; simp [encF] at h
  | succ k ih =>
    intro m j h h1
    by_cases hm : m < 128
    · have e : encF (k + 1) m = [(m : Int)] := by rw [encF, if_pos hm]
      rw [e] at h1
      simp at h1
    · have e : encF (k + 1) m = ((m % 128 + 128 : Nat) : Int) :: encF k (m / 128) := by rw [encF, if_neg hm]
      simp only [e] at h h1 ⊢
      cases j with
      | zero => simp; omega
      | succ j => exact ih _ j (by simpa using h) (by simpa using h1)
theorem int_short (n k : Nat) (hn : n ≤ 4611686018427387903) (hk : k < (wireInt (n : Int)).size) : wireGet ((wireInt (n : Int)).extract 0 k) = (0, 0, 1) := by
  have hs := wireInt_size (n : Int)
  have hz : ((wireInt (n : Int)).extract 0 k).size = k := by rw [extract_size _ 0 _ (by omega)]; omega
  have hl : (wireInt (n : Int)).size = (encF 9 n).length := by rw [wireInt_nat hn, strOfNums_size]
  refine getL_short _ (by omega) _ 0 0 rfl (by omega) fun j _ hj => ?_
  rw [hz] at hj
  rw [bt_extract _ 0 k j (by omega) (by omega), Nat.zero_add, wireInt_nat hn, bt_strOfNums _ (encF_bytes 9 n) j (by omega)]
  exact encF_cont 9 n j (by omega) (by omega)
theorem extract_split (a b : ByteArray) (k : Nat) (h1 : a.size ≤ k) (h2 : k ≤ a.size + b.size) : (a ++ b).extract 0 k = a ++ b.extract 0 (k - a.size) := by
  have hk : k ≤ (a ++ b).size := by rw [ba_append_size]; omega
  apply ba_ext
  · rw [extract_size _ 0 _ hk, ba_append_size, extract_size _ 0 _ (by omega)]; omega
  · intro i hi
    rw [extract_size _ 0 _ hk] at hi
    rw [bt_extract _ 0 _ i hk hi, Nat.zero_add]
    rcases Nat.lt_or_ge i a.size with hl | hl
    · rw [bt_left _ _ i hl, bt_left _ _ i hl]
    · have e1 := bt_right a b (i - a.size) (by omega)
      have e2 := bt_right a (b.extract 0 (k - a.size)) (i - a.size) (by rw [extract_size _ 0 _ (by omega)]; omega)
      rw [show a.size + (i - a.size) = i from by omega] at e1 e2
      rw [e1, e2, bt_extract _ 0 _ (i - a.size) (by omega) (by omega), Nat.zero_add]
theorem text_short (t : ByteArray) (k : Nat) (ht : t.size ≤ 65536) (hk : k < (wireText t).size) : wireGetText ((wireText t).extract 0 k) = (⟨#[]⟩, 0, 1) := by
  have hw : (wireText t).size = (wireInt (t.size : Int)).size + t.size := by rw [wireText, ba_append_size]
  by_cases hlt : k < (wireInt (t.size : Int)).size
  · have e : (wireText t).extract 0 k = (wireInt (t.size : Int)).extract 0 k := by rw [wireText, extract_left _ _ _ (by omega)]
    rw [e, wireGetText, int_short t.size k (by omega) hlt]
    simp
  · have e : (wireText t).extract 0 k = wireInt (t.size : Int) ++ t.extract 0 (k - (wireInt (t.size : Int)).size) := by rw [wireText, extract_split _ _ _ (by omega) (by omega)]
    rw [e, wireGetText, get_int t.size (by omega)]
    simp only [if_true]
    rw [if_neg (by omega), if_pos (by rw [ba_append_size, extract_size _ 0 _ (by omega)]; omega)]
theorem texts_short : ∀ (l : List ByteArray) (pre : ByteArray) (acc : List ByteArray) (k : Nat), (∀ x ∈ l, x.size ≤ 65536) → k < (wireCat l).size →
    wireTexts (pre ++ (wireCat l).extract 0 k) l.length (pre.size : Int) acc = ([], 0, 1) := by
  intro l
  induction l with
  | nil => intro pre acc k _ h; exact absurd h (Nat.not_lt_zero _)
  | cons x l ih =>
    intro pre acc k h hk
    have hx := h x List.mem_cons_self
    have hc : (wireCat (x :: l)).size = (wireText x).size + (wireCat l).size := by rw [wireCat, ba_append_size]
    rw [List.length_cons, wireTexts, Int.toNat_natCast, extract_append' pre _ _ rfl]
    by_cases hlt : k < (wireText x).size
    · have e : (wireCat (x :: l)).extract 0 k = (wireText x).extract 0 k := by rw [wireCat, extract_left _ _ _ (by omega)]
      rw [e, text_short x k hx hlt]
      simp
    · have e : (wireCat (x :: l)).extract 0 k = wireText x ++ (wireCat l).extract 0 (k - (wireText x).size) := by rw [wireCat, extract_split _ _ _ (by omega) (by omega)]
      have hg := get_text x ((wireCat l).extract 0 (k - (wireText x).size)) hx
      rw [e, hg]
      simp only [if_true]
      have e3 : (pre.size : Int) + ((wireText x).size : Int) = ((pre ++ wireText x).size : Int) := by rw [ba_append_size]; omega
      rw [e3, ← append_assoc']
      exact ih (pre ++ wireText x) _ _ (fun y hy => h y (List.mem_cons_of_mem _ hy)) (by omega)
theorem list_short (l : List ByteArray) (k : Nat) (most : Int) (hl : l.length ≤ 4611686018427387903) (hm : (l.length : Int) ≤ most) (h : ∀ x ∈ l, x.size ≤ 65536) (hk : k < (wireList l).size) :
    wireGetList ((wireList l).extract 0 k) most = ([], 0, 1) := by
  have hw : (wireList l).size = (wireInt (l.length : Int)).size + (wireCat l).size := by rw [wireList, ba_append_size]
  by_cases hlt : k < (wireInt (l.length : Int)).size
  · have e : (wireList l).extract 0 k = (wireInt (l.length : Int)).extract 0 k := by rw [wireList, extract_left _ _ _ (by omega)]
    rw [e, wireGetList, int_short l.length k hl hlt]
    simp
  · have e : (wireList l).extract 0 k = wireInt (l.length : Int) ++ (wireCat l).extract 0 (k - (wireInt (l.length : Int)).size) := by rw [wireList, extract_split _ _ _ (by omega) (by omega)]
    rw [e, wireGetList, get_int l.length hl]
    simp only [if_true]
    rw [if_neg (by omega), Int.toNat_natCast]
    exact texts_short l _ _ _ h (by omega)

/-! int(uint64(a) % uint64(n)). -/
def umod (a : Int) (n : Nat) : Nat := (a % 18446744073709551616).toNat % n
theorem umod_lt (a : Int) (n : Nat) (h : 0 < n) : umod a n < n := Nat.mod_lt _ h
theorem wrap_umod (a : Int) (n : Nat) (h : n ≤ 4611686018427387903) (h0 : 0 < n) : wrap64 (Int.tmod (IntKind.u64.wrap a) (IntKind.u64.wrap (n : Int))) = (umod a n : Int) := by
  have hn : IntKind.u64.wrap (n : Int) = (n : Int) := by rw [IntKind.wrap_u64]; omega
  have ha : IntKind.u64.wrap a = (((a % 18446744073709551616).toNat : Nat) : Int) := by rw [IntKind.wrap_u64]; omega
  rw [hn, ha, show Int.tmod (((a % 18446744073709551616).toNat : Nat) : Int) (n : Int) = (((a % 18446744073709551616).toNat % n : Nat) : Int) from rfl]
  have := umod_lt a n h0
  unfold umod at *
  unfold wrap64
  omega
theorem u64_pos (n : Nat) (h : n ≤ 4611686018427387903) (h0 : 0 < n) : ¬ IntKind.u64.wrap (n : Int) = 0 := by rw [IntKind.wrap_u64]; omega
end Go.Proofs.Ytkhlmcnipecgoaa.Plain03
