/- The reference of layer 1 and the program's texts come to what the plain functions say: contracts without rounds. -/
import Derived.Test.YtkhlmcnipecgoaaPlain01
import Derived.Test.YtkhlmcnipecgoaaQBase01x
namespace Go.Proofs.Ytkhlmcnipecgoaa.Ref01
open Go.RowKit Go.Proofs.YtkhlmcnipecgoaaW.PrintWords Go.Proofs.YtkhlmcnipecgoaaW.PrintLast Go.Proofs.YtkhlmcnipecgoaaW.PrintMore Go.Proofs.Ytkhlmcnipecgoaa.Plain01
set_option linter.unusedVariables false
set_option linter.unusedSimpArgs false

theorem enc_some (j : Nat) : ∀ m : Nat, m < 128 ^ j → m ≤ 4611686018427387903 → 1 ≤ j → j ≤ 9 → QBase01.tuskref01_Int.f (2 * j) (m : Int) = some (strOfNums (encF j m)) := by
  induction j with
  | zero => intro m h1 h2 h3 h4; omega
  | succ j ih =>
    intro m h1 h2 h3 h4
    rw [show 2 * (j + 1) = (2 * j + 1) + 1 from by omega]
    simp only [QBase01.tuskref01_Int.f, QBase01.tuskref01_Int.j0]
    rw [if_neg (by omega), if_neg (by simp; omega)]
    by_cases h : m < 128
    · rw [if_pos (by omega), encF, if_pos h, show ((m : Int) % 256) = (m : Int) from by omega]
    · rw [if_neg (by omega), encF, if_neg h]
      have e1 : wrap64 (128 + Int.tmod (m : Int) 128) % 256 = ((m % 128 + 128 : Nat) : Int) := by
        rw [show Int.tmod (m : Int) 128 = ((m % 128 : Nat) : Int) from rfl]
        unfold wrap64; omega
      have e2 : wrap64 (Int.tdiv (m : Int) 128) = ((m / 128 : Nat) : Int) := by
        rw [show Int.tdiv (m : Int) 128 = ((m / 128 : Nat) : Int) from rfl]
        unfold wrap64; omega
      have hj : m / 128 < 128 ^ j := by rw [Nat.pow_succ] at h1; omega
      have hj1 : 1 ≤ j := by
        rcases Nat.eq_zero_or_pos j with rfl | h
        · simp at hj; omega
        · exact h
      rw [e1, e2, ih (m / 128) hj (by omega) hj1 (by omega)]
      simp only [Option.bind_some]
      have h9 : (encF j (m / 128)).length ≤ j := encF_length _ _
      rw [← strOfNums_cons]
      split
      · rfl
      · rename_i hbig
        rw [strOfNums_size, strOfNums_size, List.length_singleton] at hbig
        omega
theorem wireInt_pos {n : Nat} (h : n ≤ 4611686018427387903) : wireInt (n : Int) = strOfNums (encF 9 n) := by
  unfold wireInt
  rw [if_neg (by omega), if_neg (by omega), Int.toNat_natCast]
theorem int_ev (a : Int) : ∃ k, QBase01.tuskref01_Int.f k a = some (wireInt a) := by
  by_cases h0 : a < 0
  · refine ⟨2, ?_⟩
    simp only [QBase01.tuskref01_Int.f, QBase01.tuskref01_Int.j0]
    rw [if_pos h0, wireInt, if_pos h0]
    rfl
  · by_cases h1 : 4611686018427387903 < a
    · refine ⟨2, ?_⟩
      simp only [QBase01.tuskref01_Int.f, QBase01.tuskref01_Int.j0]
      rw [if_neg h0, if_pos (by simpa using h1), wireInt, if_neg h0, if_pos h1]
    · obtain ⟨n, rfl⟩ := Int.eq_ofNat_of_zero_le (show 0 ≤ a by omega)
      exact ⟨18, by rw [wireInt_pos (by omega)]; exact enc_some 9 n (by omega) (by omega) (by omega) (by omega)⟩

/-- The first i bytes' number. -/
def val (s : ByteArray) : Nat → Nat
  | 0 => 0
  | i + 1 => val s i + (bt s (i : Nat)).toNat % 128 * 128 ^ i
theorem val_lt (s : ByteArray) (i : Nat) : val s i < 128 ^ i := by
  induction i with
  | zero => simp [val]
  | succ i ih =>
    have h : (bt s (i : Nat)).toNat % 128 * 128 ^ i ≤ 127 * 128 ^ i := Nat.mul_le_mul_right _ (by omega)
    rw [val, Nat.pow_succ]
    omega
theorem get_at (s : ByteArray) (i : Nat) (h9 : i ≤ 9) (hs : i ≤ s.size) (hc : ∀ j, j < i → 128 ≤ (bt s (j : Nat)).toNat) : wireGet s = wireGetL s (9 - i) (val s i) := by
  induction i with
  | zero => rfl
  | succ i ih =>
    rw [ih (by omega) (by omega) (fun j hj => hc j (by omega))]
    obtain ⟨d, hd⟩ : ∃ d, 9 - i = d + 1 := ⟨8 - i, by omega⟩
    obtain rfl : i = 8 - d := by omega
    have := hc (8 - d) (by omega)
    rw [hd, wireGetL, if_neg (by omega), if_pos this, show 9 - (8 - d + 1) = d from by omega]
    rfl
/-- What is told of a number that was read whole. -/
def getTail (s : ByteArray) (x n : Nat) : Int × Int × Int :=
  if 4611686018427387903 < n then (0, 0, 2) else if 0 < x ∧ bt s x = 0 then (0, 0, 3) else ((n : Int), ((x + 1 : Nat) : Int), 0)
theorem getTail_big {s : ByteArray} {x n : Nat} (h : 4611686018427387903 < n) : getTail s x n = (0, 0, 2) := by rw [getTail, if_pos h]
theorem sum_wrap (n q : Nat) (hn : n < 72057594037927936) (hq : q < 128) : wrap64 (wrap64 (128 * (n : Int)) + wrap64 (q : Int)) = ((128 * n + q : Nat) : Int) := by
  have a : wrap64 (128 * (n : Int)) = 128 * (n : Int) := by unfold wrap64; omega
  have b : wrap64 (q : Int) = (q : Int) := by unfold wrap64; omega
  rw [a, b]
  unfold wrap64
  omega
theorem l1_some (s : ByteArray) (x : Nat) (hx : x ≤ 8) (hs : x < s.size) : ∀ (d i : Nat) (k : Nat) (n : Nat), i = d → i ≤ x + 1 → n < 128 ^ (x + 1 - i) → n ≤ 4611686018427387903 → d < k →
    QBase01.tuskref01_GetInt.l1 k s x n ((i : Int) - 1) = some (getTail s x (n * 128 ^ i + val s i)) := by
  intro d
  induction d with
  | zero =>
    intro i k n hi h1 h2 h3 hk
    subst hi
    obtain ⟨k, rfl⟩ : ∃ m, k = m + 1 := ⟨k - 1, by omega⟩
    simp only [QBase01.tuskref01_GetInt.l1]
    have hr := bt_range s (x : Int)
    have e1 : wrap64 ((x : Int) + 1) = ((x + 1 : Nat) : Int) := by unfold wrap64; omega
    rw [if_neg (by omega), e1]
    simp only [Nat.pow_zero, Nat.mul_one, val, Nat.add_zero]
    by_cases hx0 : 0 < x
    · rw [if_pos (by omega), if_pos (by omega), if_pos (by omega)]
      by_cases hb : bt s x = 0
      · rw [if_pos hb, getTail, if_neg (by omega), if_pos ⟨hx0, hb⟩]
      · rw [if_neg hb, getTail, if_neg (by omega), if_neg (fun h => hb h.2)]
    · rw [if_neg (by omega), getTail, if_neg (by omega), if_neg (fun h => hx0 h.1)]
  | succ d ih =>
    intro i k n hi h1 h2 h3 hk
    subst hi
    obtain ⟨k, rfl⟩ : ∃ m, k = m + 1 := ⟨k - 1, by omega⟩
    simp only [QBase01.tuskref01_GetInt.l1]
    have hp : (128 : Nat) ^ (x + 1 - (d + 1)) ≤ 128 ^ 8 := Nat.pow_le_pow_right (by decide) (by omega)
    have hr := bt_range s (d : Int)
    have e0 : ((d + 1 : Nat) : Int) - 1 = (d : Int) := by omega
    rw [e0, if_pos (by omega), if_pos (by omega), if_pos (by omega)]
    have e1 : wrap64 (wrap64 (128 * (n : Int)) + wrap64 (Int.tmod (bt s d) 128)) = ((128 * n + (bt s d).toNat % 128 : Nat) : Int) := by
      have e2 : Int.tmod (bt s d) 128 = (((bt s d).toNat % 128 : Nat) : Int) := by
        rw [Int.tmod_eq_emod_of_nonneg hr.1]; omega
      have hn8 : n < 72057594037927936 := Nat.lt_of_lt_of_le h2 hp
      rw [e2]
      exact sum_wrap n _ hn8 (Nat.mod_lt _ (by decide))
    rw [e1]
    have ev : n * 128 ^ (d + 1) + val s (d + 1) = (128 * n + (bt s d).toNat % 128) * 128 ^ d + val s d := by
      rw [val, Nat.pow_succ, Nat.add_mul, Nat.mul_comm (128 ^ d) 128, ← Nat.mul_assoc, Nat.mul_comm n 128]
      omega
    rw [ev]
    by_cases hbig : 4611686018427387903 < 128 * n + (bt s d).toNat % 128
    · have h1d : 1 ≤ 128 ^ d := Nat.one_le_pow d 128 (by decide)
      have : (128 * n + (bt s d).toNat % 128) * 1 ≤ (128 * n + (bt s d).toNat % 128) * 128 ^ d := Nat.mul_le_mul_left _ h1d
      rw [if_pos (by omega), getTail_big (by omega)]
    · rw [if_neg (by omega)]
      have e3 : wrap64 ((d : Int) - 1) = (d : Int) - 1 := by unfold wrap64; omega
      rw [e3]
      refine ih d k _ rfl (by omega) ?_ (by omega) (by omega)
      rw [show x + 1 - d = (x + 1 - (d + 1)) + 1 from by omega, Nat.pow_succ]
      omega
theorem val_horner (s : ByteArray) (x : Nat) : val s (x + 1) = val s x + (bt s (x : Nat)).toNat % 128 * 128 ^ x := rfl
theorem get_some (s : ByteArray) : ∀ (d i k : Nat), d = 9 - i → i ≤ 9 → i ≤ s.size → (∀ j, j < i → 128 ≤ (bt s (j : Nat)).toNat) → d + 12 < k →
    QBase01.tuskref01_GetInt.l0 k s i = some (wireGet s) := by
  intro d
  induction d with
  | zero =>
    intro i k hd h9 hs hc hk
    obtain rfl : i = 9 := by omega
    obtain ⟨k, rfl⟩ : ∃ m, k = m + 2 := ⟨k - 2, by omega⟩
    simp only [QBase01.tuskref01_GetInt.l0, QBase01.tuskref01_GetInt.j1]
    rw [get_at s 9 (by omega) hs hc]
    split <;> rfl
  | succ d ih =>
    intro i k hd h9 hs hc hk
    obtain ⟨k, rfl⟩ : ∃ m, k = m + 2 := ⟨k - 2, by omega⟩
    have hr := bt_range s (i : Int)
    have e1 : wrap64 ((i : Int) + 1) = ((i + 1 : Nat) : Int) := by unfold wrap64; omega
    simp only [QBase01.tuskref01_GetInt.l0]
    by_cases hlt : i < s.size
    · rw [if_pos (by omega), if_pos (by omega), if_pos (by omega)]
      by_cases h128 : 128 ≤ (bt s (i : Nat)).toNat
      · rw [if_pos (by omega), e1]
        exact ih (i + 1) (k + 1) (by omega) (by omega) (by omega) (fun j hj => by
          rcases Nat.lt_or_ge j i with h | h
          · exact hc j h
          · obtain rfl : j = i := by omega
            exact h128) (by omega)
      · rw [if_neg (by omega)]
        simp only [QBase01.tuskref01_GetInt.j1]
        rw [if_neg (by omega), if_neg (by omega)]
        have h := l1_some s i (by omega) hlt (i + 1) (i + 1) k 0 rfl (by omega) (by simp) (by omega) (by omega)
        have e0 : ((i + 1 : Nat) : Int) - 1 = (i : Int) := by omega
        rw [e0] at h
        rw [show (0 : Int) = ((0 : Nat) : Int) from rfl, h, get_at s i (by omega) (by omega) hc]
        congr 1
        obtain ⟨d', hd'⟩ : ∃ d', 9 - i = d' + 1 := ⟨8 - i, by omega⟩
        obtain rfl : i = 8 - d' := by omega
        rw [hd', wireGetL, if_neg (by omega), if_neg (by omega), ← val_horner, Nat.zero_mul, Nat.zero_add]
        by_cases hbig : 4611686018427387903 < val s (8 - d' + 1)
        · rw [getTail_big hbig, if_pos hbig]
        · rw [if_neg hbig, getTail, if_neg hbig]
          by_cases hz : 0 < 8 - d' ∧ bt s ((8 - d' : Nat) : Int) = 0
          · rw [if_pos hz, if_pos ⟨by omega, by omega⟩]
          · rw [if_neg hz, if_neg (fun h => hz ⟨by omega, by omega⟩)]
    · rw [if_neg (by omega)]
      simp only [QBase01.tuskref01_GetInt.j1]
      rw [if_neg (by omega), if_pos (by omega), get_at s i (by omega) (by omega) hc]
      obtain ⟨d', hd'⟩ : ∃ d', 9 - i = d' + 1 := ⟨8 - i, by omega⟩
      rw [hd', wireGetL, if_pos (by omega)]
theorem getInt_ev (s : ByteArray) : ∃ k, QBase01.tuskref01_GetInt.f k s = some (wireGet s) :=
  ⟨22, get_some s 9 0 22 rfl (by omega) (by omega) (fun j hj => by omega) (by omega)⟩

/-! Contracts without rounds. -/
def tuskref01_Int.f (a0 : Int) : Option ByteArray := some (wireInt a0)
theorem tuskref01_Int.calls (a0 : Int) (r : ByteArray) (w : World) (h : tuskref01_Int.f a0 = some r) :
    Calls Try.prog 16 #[.int .i64 a0] w fun e w' => e = .returned (.string r) ∧ Below w.heap.size w w' := by
  obtain ⟨k, hk⟩ := int_ev a0
  rw [tuskref01_Int.f] at h
  exact QBase01.tuskref01_Int.calls k a0 r w (hk.trans h)
def tuskref01_GetInt.f (a0 : ByteArray) : Option (Int × Int × Int) := some (wireGet a0)
theorem tuskref01_GetInt.calls (a0 : ByteArray) (r1 r2 r3 : Int) (w : World) (h : tuskref01_GetInt.f a0 = some (r1, r2, r3)) :
    Calls Try.prog 14 #[.string a0] w fun e w' => e = .returned (.tuple #[.int .i64 r1, .int .i64 r2, .int .i64 r3]) ∧ Drawn0 w w' := by
  obtain ⟨k, hk⟩ := getInt_ev a0
  rw [tuskref01_GetInt.f] at h
  exact QBase01.tuskref01_GetInt.calls k a0 r1 r2 r3 w (hk.trans h)
end Go.Proofs.Ytkhlmcnipecgoaa.Ref01
