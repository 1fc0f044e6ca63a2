/- The reference of layer 1 and the program's texts come to what the plain functions say: contracts without rounds. -/
import Derived.Test.YtdaklahoainpfaaPlain01
import Derived.Test.YtdaklahoainpfaaQBase01x
namespace Go.Proofs.Ytdaklahoainpfaa.Ref01
open Go.RowKit Go.Proofs.YtdaklahoainpfaaW.PrintWords Go.Proofs.YtdaklahoainpfaaW.PrintLast Go.Proofs.YtdaklahoainpfaaW.PrintMore Go.Proofs.Ytdaklahoainpfaa.Plain01
set_option linter.unusedVariables false
set_option linter.unusedSimpArgs false

theorem enc_some (j : Nat) : ∀ m : Nat, m < 128 ^ j → m ≤ 4611686018427387903 → 1 ≤ j → j ≤ 9 → QBase01.tuskref01_Int.f (2 * j) (m : Int) = some (strOfNums (encF j m)) := by
  induction j with
  | zero => intro m h1 h2 h3 h4; omega
  | succ j ih =>
    intro m h1 h2 h3 h4
    rw [show 2 * (j + 1) = (2 * j + 1) + 1 from by omega]
    simp only [QBase01.tuskref01_Int.f, QBase01.tuskref01_Int.j0]
    rw [if_neg (by omega), if_neg (by simp; omega)]
    by_cases h : m < 128
    · rw [if_pos (by omega), encF, if_pos h, show ((m : Int) % 256) = (m : Int) from by omega]
    · rw [if_neg (by omega), encF, if_neg h]
      have e1 : wrap64 (128 + Int.tmod (m : Int) 128) % 256 = ((m % 128 + 128 : Nat) : Int) := by
        rw [show Int.tmod (m : Int) 128 = ((m % 128 : Nat) : Int) from rfl]
        unfold wrap64; omega
      have e2 : wrap64 (Int.tdiv (m : Int) 128) = ((m / 128 : Nat) : Int) := by
        rw [show Int.tdiv (m : Int) 128 = ((m / 128 : Nat) : Int) from rfl]
        unfold wrap64; omega
      have hj : m / 128 < 128 ^ j := by rw [Nat.pow_succ] at h1; omega
      have hj1 : 1 ≤ j := by
        rcases Nat.eq_zero_or_pos j with rfl | h
        · simp at hj; omega
        · exact h
      rw [e1, e2, ih (m / 128) hj (by omega) hj1 (by omega)]
      simp only [Option.bind_some]
      have h9 : (encF j (m / 128)).length ≤ j := encF_length _ _
      rw [← strOfNums_cons]
      split
      · rfl
      · rename_i hbig
        rw [strOfNums_size, strOfNums_size, List.length_singleton] at hbig
        omega
theorem wireInt_pos {n : Nat} (h : n ≤ 4611686018427387903) : wireInt (n : Int) = strOfNums (encF 9 n) := by
  unfold wireInt
  rw [if_neg (by omega), if_neg (by omega), Int.toNat_natCast]
theorem int_ev (a : Int) : ∃ k, QBase01.tuskref01_Int.f k a = some (wireInt a) := by
  by_cases h0 : a < 0
  · refine ⟨2, ?_⟩
    simp only [QBase01.tuskref01_Int.f, QBase01.tuskref01_Int.j0]
    rw [if_pos h0, wireInt, if_pos h0]
    rfl
  · by_cases h1 : 4611686018427387903 < a
    · refine ⟨2, ?_⟩
      simp only [QBase01.tuskref01_Int.f, QBase01.tuskref01_Int.j0]
      rw [if_neg h0, if_pos (by simpa using h1), wireInt, if_neg h0, if_pos h1]
    · obtain ⟨n, rfl⟩ := Int.eq_ofNat_of_zero_le (show 0 ≤ a by omega)
      exact ⟨18, by rw [wireInt_pos (by omega)]; exact enc_some 9 n (by omega) (by omega) (by omega) (by omega)⟩

/-- The first i bytes' number. -/
def val (s : ByteArray) : Nat → Nat
  | 0 => 0
  | i + 1 => val s i + (bt s (i : Nat)).toNat % 128 * 128 ^ i
theorem val_lt (s : ByteArray) (i : Nat) : val s i < 128 ^ i := by
  induction i with
  | zero => simp [val]
  | succ i ih =>
    have h : (bt s (i : Nat)).toNat % 128 * 128 ^ i ≤ 127 * 128 ^ i := Nat.mul_le_mul_right _ (by omega)
    rw [val, Nat.pow_succ]
    omega
theorem get_at (s : ByteArray) (i : Nat) (h9 : i ≤ 9) (hs : i ≤ s.size) (hc : ∀ j, j < i → 128 ≤ (bt s (j : Nat)).toNat) : wireGet s = wireGetL s (9 - i) (val s i) := by
  induction i with
  | zero => rfl
  | succ i ih =>
    rw [ih (by omega) (by omega) (fun j hj => hc j (by omega))]
    obtain ⟨d, hd⟩ : ∃ d, 9 - i = d + 1 := ⟨8 - i, by omega⟩
    obtain rfl : i = 8 - d := by omega
    have := hc (8 - d) (by omega)
    rw [hd, wireGetL, if_neg (by omega), if_pos this, show 9 - (8 - d + 1) = d from by omega]
    rfl
/-- What is told of a number that was read whole. -/
def getTail (s : ByteArray) (x n : Nat) : Int × Int × Int :=
  if 4611686018427387903 < n then (0, 0, 2) else if 0 < x ∧ bt s x = 0 then (0, 0, 3) else ((n : Int), ((x + 1 : Nat) : Int), 0)
theorem getTail_big {s : ByteArray} {x n : Nat} (h : 4611686018427387903 < n) : getTail s x n = (0, 0, 2) := by rw [getTail, if_pos h]
theorem sum_wrap (n q : Nat) (hn : n < 72057594037927936) (hq : q < 128) : wrap64 (wrap64 (128 * (n : Int)) + wrap64 (q : Int)) = ((128 * n + q : Nat) : Int) := by
  have a : wrap64 (128 * (n : Int)) = 128 * (n : Int) := by unfold wrap64; omega
  have b : wrap64 (q : Int) = (q : Int) := by unfold wrap64; omega
  rw [a, b]
  unfold wrap64
  omega
theorem l1_some (s : ByteArray) (x : Nat) (hx : x ≤ 8) (hs : x < s.size) : ∀ (d i : Nat) (k : Nat) (n : Nat), i = d → i ≤ x + 1 → n < 128 ^ (x + 1 - i) → n ≤ 4611686018427387903 → d < k →
    QBase01.tuskref01_GetInt.l1 k s x n ((i : Int) - 1) = some (getTail s x (n * 128 ^ i + val s i)) := by
  intro d
  induction d with
  | zero =>
    intro i k n hi h1 h2 h3 hk
    subst hi
    obtain ⟨k, rfl⟩ : ∃ m, k = m + 1 := ⟨k - 1, by omega⟩
    simp only [QBase01.tuskref01_GetInt.l1]
    have hr := bt_range s (x : Int)
    have e1 : wrap64 ((x : Int) + 1) = ((x + 1 : Nat) : Int) := by unfold wrap64; omega
    rw [if_neg (by omega), e1]
    simp only [Nat.pow_zero, Nat.mul_one, val, Nat.add_zero]
    by_cases hx0 : 0 < x
    · rw [if_pos (by omega), if_pos (by omega), if_pos (by omega)]
      by_cases hb : bt s x = 0
      · rw [if_pos hb, getTail, if_neg (by omega), if_pos ⟨hx0, hb⟩]
      · rw [if_neg hb, getTail, if_neg (by omega), if_neg (fun h => hb h.2)]
    · rw [if_neg (by omega), getTail, if_neg (by omega), if_neg (fun h => hx0 h.1)]
  | succ d ih =>
    intro i k n hi h1 h2 h3 hk
    subst hi
    obtain ⟨k, rfl⟩ : ∃ m, k = m + 1 := ⟨k - 1, by omega⟩
    simp only [QBase01.tuskref01_GetInt.l1]
    have hp : (128 : Nat) ^ (x + 1 - (d + 1)) ≤ 128 ^ 8 := Nat.pow_le_pow_right (by decide) (by omega)
    have hr := bt_range s (d : Int)
    have e0 : ((d + 1 : Nat) : Int) - 1 = (d : Int) := by omega
    rw [e0, if_pos (by omega), if_pos (by omega), if_pos (by omega)]
    have e1 : wrap64 (wrap64 (128 * (n : Int)) + wrap64 (Int.tmod (bt s d) 128)) = ((128 * n + (bt s d).toNat % 128 : Nat) : Int) := by
      have e2 : Int.tmod (bt s d) 128 = (((bt s d).toNat % 128 : Nat) : Int) := by
        rw [Int.tmod_eq_emod_of_nonneg hr.1]; omega
      have hn8 : n < 72057594037927936 := Nat.lt_of_lt_of_le h2 hp
      rw [e2]
      exact sum_wrap n _ hn8 (Nat.mod_lt _ (by decide))
    rw [e1]
    have ev : n * 128 ^ (d + 1) + val s (d + 1) = (128 * n + (bt s d).toNat % 128) * 128 ^ d + val s d := by
      rw [val, Nat.pow_succ, Nat.add_mul, Nat.mul_comm (128 ^ d) 128, ← Nat.mul_assoc, Nat.mul_comm n 128]
      omega
    rw [ev]
    by_cases hbig : 4611686018427387903 < 128 * n + (bt s d).toNat % 128
    · have h1d : 1 ≤ 128 ^ d := Nat.one_le_pow d 128 (by decide)
      have : (128 * n + (bt s d).toNat % 128) * 1 ≤ (128 * n + (bt s d).toNat % 128) * 128 ^ d := Nat.mul_le_mul_left _ h1d
      rw [if_pos (by omega), getTail_big (by omega)]
    · rw [if_neg (by omega)]
      have e3 : wrap64 ((d : Int) - 1) = (d : Int) - 1 := by unfold wrap64; omega
      rw [e3]
      refine ih d k _ rfl (by omega) ?_ (by omega) (by omega)
      rw [show x + 1 - d = (x + 1 - (d + 1)) + 1 from by omega, Nat.pow_succ]
      omega
theorem val_horner (s : ByteArray) (x : Nat) : val s (x + 1) = val s x + (bt s (x : Nat)).toNat % 128 * 128 ^ x := rfl
theorem get_some (s : ByteArray) : ∀ (d i k : Nat), d = 9 - i → i ≤ 9 → i ≤ s.size → (∀ j, j < i → 128 ≤ (bt s (j : Nat)).toNat) → d + 12 < k →
    QBase01.tuskref01_GetInt.l0 k s i = some (wireGet s) := by
  intro d
  induction d with
  | zero =>
    intro i k hd h9 hs hc hk
    obtain rfl : i = 9 := by omega
    obtain ⟨k, rfl⟩ : ∃ m, k = m + 2 := ⟨k - 2, by omega⟩
    simp only [QBase01.tuskref01_GetInt.l0, QBase01.tuskref01_GetInt.j1]
    rw [get_at s 9 (by omega) hs hc]
    split <;> rfl
  | succ d ih =>
    intro i k hd h9 hs hc hk
    obtain ⟨k, rfl⟩ : ∃ m, k = m + 2 := ⟨k - 2, by omega⟩
    have hr := bt_range s (i : Int)
    have e1 : wrap64 ((i : Int) + 1) = ((i + 1 : Nat) : Int) := by unfold wrap64; omega
    simp only [QBase01.tuskref01_GetInt.l0]
    by_cases hlt : i < s.size
    · rw [if_pos (by omega), if_pos (by omega), if_pos (by omega)]
      by_cases h128 : 128 ≤ (bt s (i : Nat)).toNat
      · rw [if_pos (by omega), e1]
        exact ih (i + 1) (k + 1) (by omega) (by omega) (by omega) (fun j hj => by
          rcases Nat.lt_or_ge j i with h | h
          · exact hc j h
          · obtain rfl : j = i := by omega
            exact h128) (by omega)
      · rw [if_neg (by omega)]
        simp only [QBase01.tuskref01_GetInt.j1]
        rw [if_neg (by omega), if_neg (by omega)]
        have h := l1_some s i (by omega) hlt (i + 1) (i + 1) k 0 rfl (by omega) (by simp) (by omega) (by omega)
        have e0 : ((i + 1 : Nat) : Int) - 1 = (i : Int) := by omega
        rw [e0] at h
        rw [show (0 : Int) = ((0 : Nat) : Int) from rfl, h, get_at s i (by omega) (by omega) hc]
        congr 1
        obtain ⟨d', hd'⟩ : ∃ d', 9 - i = d' + 1 := ⟨8 - i, by omega⟩
        obtain rfl : i = 8 - d' := by omega
        rw [hd', wireGetL, if_neg (by omega), if_neg (by omega), ← val_horner, Nat.zero_mul, Nat.zero_add]
        by_cases hbig : 4611686018427387903 < val s (8 - d' + 1)
        · rw [getTail_big hbig, if_pos hbig]
        · rw [if_neg hbig, getTail, if_neg hbig]
          by_cases hz : 0 < 8 - d' ∧ bt s ((8 - d' : Nat) : Int) = 0
          · rw [if_pos hz, if_pos ⟨by omega, by omega⟩]
          · rw [if_neg hz, if_neg (fun h => hz ⟨by omega, by omega⟩)]
    · rw [if_neg (by omega)]
      simp only [QBase01.tuskref01_GetInt.j1]
      rw [if_neg (by omega), if_pos (by omega), get_at s i (by omega) (by omega) hc]
      obtain ⟨d', hd'⟩ : ∃ d', 9 - i = d' + 1 := ⟨8 - i, by omega⟩
      rw [hd', wireGetL, if_pos (by omega)]
theorem getInt_ev (s : ByteArray) : ∃ k, QBase01.tuskref01_GetInt.f k s = some (wireGet s) :=
  ⟨22, get_some s 9 0 22 rfl (by omega) (by omega) (fun j hj => by omega) (by omega)⟩

/-! Contracts without rounds. -/
def tuskref01_Int.f (a0 : Int) : Option ByteArray := some (wireInt a0)
theorem tuskref01_Int.calls (a0 : Int) (r : ByteArray) (w : World) (h : tuskref01_Int.f a0 = some r) :
    Calls Try.prog 44 #[.int .i64 a0] w fun e w' => e = .returned (.string r) ∧ Below w.heap.size w w' := by
  obtain ⟨k, hk⟩ := int_ev a0
  rw [tuskref01_Int.f] at h
  exact QBase01.tuskref01_Int.calls k a0 r w (hk.trans h)
def tuskref01_GetInt.f (a0 : ByteArray) : Option (Int × Int × Int) := some (wireGet a0)
theorem tuskref01_GetInt.calls (a0 : ByteArray) (r1 r2 r3 : Int) (w : World) (h : tuskref01_GetInt.f a0 = some (r1, r2, r3)) :
    Calls Try.prog 40 #[.string a0] w fun e w' => e = .returned (.tuple #[.int .i64 r1, .int .i64 r2, .int .i64 r3]) ∧ Drawn0 w w' := by
  obtain ⟨k, hk⟩ := getInt_ev a0
  rw [tuskref01_GetInt.f] at h
  exact QBase01.tuskref01_GetInt.calls k a0 r1 r2 r3 w (hk.trans h)
def wire_Text.f (a0 : ByteArray) : Option ByteArray := if (wireText a0).size ≤ 9223372036854775807 then some (wireText a0) else none
theorem wire_Text.calls (a0 : ByteArray) (r : ByteArray) (w : World) (h : wire_Text.f a0 = some r) :
    Calls Try.prog 52 #[.string a0] w fun e w' => e = .returned (.string r) ∧ Below w.heap.size w w' := by
  refine QBase01.wire_Text.calls a0 r w ?_
  rw [← h]
  simp only [QBase01.wire_Text.f, WireInt.wire_Int.f, Option.bind_some, wire_Text.f, wireText, ba_append_size]
def tuskref01_Text.f (a0 : ByteArray) : Option ByteArray := if (wireText a0).size ≤ 9223372036854775807 then some (wireText a0) else none
theorem tuskref01_Text.ev (a0 : ByteArray) : ∃ k, QBase01.tuskref01_Text.f k a0 = tuskref01_Text.f a0 := by
  obtain ⟨k, hk⟩ := int_ev (a0.size : Int)
  refine ⟨k, ?_⟩
  simp only [QBase01.tuskref01_Text.f, hk, Option.bind_some, tuskref01_Text.f, wireText, ba_append_size]
theorem tuskref01_Text.calls (a0 : ByteArray) (r : ByteArray) (w : World) (h : tuskref01_Text.f a0 = some r) :
    Calls Try.prog 54 #[.string a0] w fun e w' => e = .returned (.string r) ∧ Below w.heap.size w w' := by
  obtain ⟨k, hk⟩ := tuskref01_Text.ev a0
  exact QBase01.tuskref01_Text.calls k a0 r w (hk.trans h)

theorem wrap_in {x : Int} (h : -9223372036854775808 ≤ x) (h' : x ≤ 9223372036854775807) : wrap64 x = x := by unfold wrap64; omega
/-- What both GetText's texts come to. -/
theorem getText_same (s : ByteArray) (hs : s.size ≤ 9223372036854775807) (h0 : (wireGet s).2.2 = 0) (hb : ¬ (wireGet s).1 > 65536) (hc : ¬ (s.size : Int) - (wireGet s).2.1 < (wireGet s).1) :
    (if 0 ≤ (wireGet s).2.1 then (if (wireGet s).2.1 ≤ (wrap64 ((wireGet s).2.1 + (wireGet s).1)) then (if (wrap64 ((wireGet s).2.1 + (wireGet s).1)) ≤ (s.size : Int) then (some (s.extract ((wireGet s).2.1 : Int).toNat ((wrap64 ((wireGet s).2.1 + (wireGet s).1)) : Int).toNat, wrap64 ((wireGet s).2.1 + (wireGet s).1), (0 : Int))) else (none)) else (none)) else (none))
      = some (wireGetText s) := by
  rcases wireGet_cases s with ⟨_, h1, h2, h3, h4, h5⟩ | ⟨h1, h2, h3⟩
  · have e : wrap64 ((wireGet s).2.1 + (wireGet s).1) = (wireGet s).2.1 + (wireGet s).1 := wrap_in (by omega) (by omega)
    rw [e, if_pos (by omega), if_pos (by omega), if_pos (by omega), wireGetText, if_pos h0, if_neg hb, if_neg hc]
  · omega
def wire_GetText.f (a0 : ByteArray) : Option (ByteArray × Int × Int) := if a0.size ≤ 9223372036854775807 then some (wireGetText a0) else none
theorem wire_GetText.same (s : ByteArray) (hs : s.size ≤ 9223372036854775807) : QBase01.wire_GetText.f s = some (wireGetText s) := by
  have hr := wireGet_cases s
  simp only [QBase01.wire_GetText.f, WireInt.wire_GetInt.f, Option.bind_some]
  by_cases h0 : (wireGet s).2.2 = 0
  · rw [if_pos h0]
    have e : wrap64 ((s.size : Int) - (wireGet s).2.1) = (s.size : Int) - (wireGet s).2.1 := wrap_in (by omega) (by omega)
    rw [e]
    by_cases hb : (wireGet s).1 > 65536
    · rw [if_pos hb, wireGetText, if_pos h0, if_pos hb]
    · rw [if_neg hb]
      by_cases hc : (s.size : Int) - (wireGet s).2.1 < (wireGet s).1
      · rw [if_pos (by omega), wireGetText, if_pos h0, if_neg hb, if_pos hc]
      · rw [if_neg (by omega)]
        exact getText_same s hs h0 hb hc
  · rw [if_neg h0, wireGetText, if_neg h0]
theorem wire_GetText.calls (a0 : ByteArray) (r1 : ByteArray) (r2 : Int) (r3 : Int) (w : World) (h : wire_GetText.f a0 = some (r1, r2, r3)) :
    Calls Try.prog 27 #[.string a0] w fun e w' => e = .returned (.tuple #[.string r1, .int .i64 r2, .int .i64 r3]) ∧ Drawn0 w w' := by
  unfold wire_GetText.f at h
  split at h
  · exact QBase01.wire_GetText.calls a0 r1 r2 r3 w ((wire_GetText.same a0 (by assumption)).trans h)
  · cases h
def tuskref01_GetText.f (a0 : ByteArray) : Option (ByteArray × Int × Int) := if a0.size ≤ 9223372036854775807 then some (wireGetText a0) else none
theorem tuskref01_GetText.ev (s : ByteArray) (hs : s.size ≤ 9223372036854775807) : ∃ k, QBase01.tuskref01_GetText.f k s = some (wireGetText s) := by
  obtain ⟨k, hk⟩ := getInt_ev s
  refine ⟨k, ?_⟩
  have hr := wireGet_cases s
  simp only [QBase01.tuskref01_GetText.f, hk, Option.bind_some]
  by_cases h0 : (wireGet s).2.2 = 0
  · rw [if_pos h0]
    have e : wrap64 ((s.size : Int) - (wireGet s).2.1) = (s.size : Int) - (wireGet s).2.1 := wrap_in (by omega) (by omega)
    rw [e]
    by_cases hb : (wireGet s).1 > 65536
    · rw [if_pos hb, wireGetText, if_pos h0, if_pos hb]
    · rw [if_neg hb]
      by_cases hc : (s.size : Int) - (wireGet s).2.1 < (wireGet s).1
      · rw [if_pos (by omega), wireGetText, if_pos h0, if_neg hb, if_pos hc]
      · rw [if_neg (by omega)]
        exact getText_same s hs h0 hb hc
  · rw [if_neg h0, wireGetText, if_neg h0]
theorem tuskref01_GetText.calls (a0 : ByteArray) (r1 : ByteArray) (r2 : Int) (r3 : Int) (w : World) (h : tuskref01_GetText.f a0 = some (r1, r2, r3)) :
    Calls Try.prog 50 #[.string a0] w fun e w' => e = .returned (.tuple #[.string r1, .int .i64 r2, .int .i64 r3]) ∧ Drawn0 w w' := by
  unfold tuskref01_GetText.f at h
  split at h
  · obtain ⟨k, hk⟩ := tuskref01_GetText.ev a0 (by assumption)
    exact QBase01.tuskref01_GetText.calls k a0 r1 r2 r3 w (hk.trans h)
  · cases h

def tuskref01_List.f (l0 : List ByteArray) : Option ByteArray := if (wireList l0).size ≤ 9223372036854775807 ∧ l0.length ≤ 9223372036854775807 then some (wireList l0) else none
theorem rdOf_at (l : List ByteArray) (i : Nat) (h : i < l.length) : rdOf ByteArray.empty l (i : Int) = l[i] := by
  simp [rdOf, List.getD_eq_getElem?_getD, List.getElem?_eq_getElem h]
theorem list_loop (l : List ByteArray) (hl : l.length ≤ 9223372036854775807) (hs : (wireList l).size ≤ 9223372036854775807) : ∀ (d i : Nat), i + d = l.length → ∃ K, ∀ k, K ≤ k →
    QBase01.tuskref01_List.l0 k l (wireInt (l.length : Int) ++ wireCat (l.take i)) (i : Int) = some (wireList l) := by
  intro d
  induction d with
  | zero =>
    intro i hi
    refine ⟨1, fun k hk => ?_⟩
    obtain ⟨k, rfl⟩ : ∃ m, k = m + 1 := ⟨k - 1, by omega⟩
    simp only [QBase01.tuskref01_List.l0]
    rw [if_neg (by omega), show i = l.length from by omega, List.take_length, wireList]
  | succ d ih =>
    intro i hi
    have hlt : i < l.length := by omega
    obtain ⟨K1, h1⟩ := ih (i + 1) (by omega)
    obtain ⟨K2, h2⟩ := tuskref01_Text.ev l[i]
    refine ⟨K1 + K2 + 1, fun k hk => ?_⟩
    obtain ⟨k, rfl⟩ : ∃ m, k = m + 1 := ⟨k - 1, by omega⟩
    have hle := wireCat_le l (i + 1)
    have hw : (wireList l).size = (wireInt (l.length : Int)).size + (wireCat l).size := by rw [wireList, ba_append_size]
    rw [wireCat_take l i hlt, ba_append_size] at hle
    have h2' : QBase01.tuskref01_Text.f k l[i] = some (wireText l[i]) := by
      rw [tuskref01_Text.f, if_pos (by omega)] at h2
      exact at_rounds (fun k => QBase01.tuskref01_Text.mono l[i] k) (by omega) h2
    simp only [QBase01.tuskref01_List.l0]
    rw [if_pos (by omega), if_pos (by omega), rdOf_at l i hlt, h2']
    simp only [Option.bind_some, ba_append_size]
    rw [if_pos (by omega), wrap_in (by omega) (by omega), ByteArray.append_assoc, ← wireCat_take l i hlt]
    exact h1 k (by omega)
theorem tuskref01_List.ev (l : List ByteArray) (hs : (wireList l).size ≤ 9223372036854775807) (hl : l.length ≤ 9223372036854775807) : ∃ k, QBase01.tuskref01_List.f k l = some (wireList l) := by
  obtain ⟨K1, h1⟩ := list_loop l hl hs l.length 0 (by omega)
  obtain ⟨K2, h2⟩ := int_ev (l.length : Int)
  refine ⟨K1 + K2, ?_⟩
  simp only [QBase01.tuskref01_List.f]
  rw [at_rounds (fun k => QBase01.tuskref01_Int.mono _ k) (show K2 ≤ K1 + K2 by omega) h2]
  simp only [Option.bind_some]
  have := h1 (K1 + K2) (by omega)
  simpa [wireCat, show wireInt (l.length : Int) ++ (⟨#[]⟩ : ByteArray) = wireInt (l.length : Int) from ByteArray.append_empty] using this
theorem tuskref01_List.calls (A0 : Option Addr) (c0 : Nat) (l0 : List ByteArray) (r : ByteArray) (w : World) (hr0 : Kd.C Kd.string w A0 l0.length l0) (hc0 : l0.length ≤ c0) (h : tuskref01_List.f l0 = some r) :
    Calls Try.prog 45 #[.slice A0 l0.length c0] w fun e w' => e = .returned (.string r) ∧ Below w.heap.size w w' := by
  unfold tuskref01_List.f at h
  split at h
  · rename_i hh
    obtain ⟨k, hk⟩ := tuskref01_List.ev l0 hh.1 hh.2
    exact QBase01.tuskref01_List.calls k A0 c0 l0 r w hr0 hc0 (hk.trans h)
  · cases h

def tuskref01_Same.f (l0 l1 : List ByteArray) : Option Bool := if l0.length ≤ 9223372036854775807 then some (decide (l0 = l1)) else none
theorem toList_inj {a b : ByteArray} (h : a.toList = b.toList) : a = b := by
  rw [ByteArray.toList_eq, ByteArray.toList_eq] at h
  exact ByteArray.ext (Array.toList_inj.1 h)
theorem same_loop (a b : List ByteArray) (hab : a.length = b.length) (hl : a.length ≤ 9223372036854775807) : ∀ (d i k : Nat), i + d = a.length → d < k →
    QBase01.tuskref01_Same.l0 k a b (i : Int) = some (decide (a.drop i = b.drop i)) := by
  intro d
  induction d with
  | zero =>
    intro i k hi hk
    obtain ⟨k, rfl⟩ : ∃ m, k = m + 1 := ⟨k - 1, by omega⟩
    simp only [QBase01.tuskref01_Same.l0]
    rw [if_neg (by omega), List.drop_eq_nil_of_le (by omega), List.drop_eq_nil_of_le (by omega)]
    rfl
  | succ d ih =>
    intro i k hi hk
    obtain ⟨k, rfl⟩ : ∃ m, k = m + 1 := ⟨k - 1, by omega⟩
    have ha : i < a.length := by omega
    have hb : i < b.length := by omega
    simp only [QBase01.tuskref01_Same.l0]
    rw [if_pos (by omega), if_pos (by omega), if_pos (by omega), rdOf_at a i ha, rdOf_at b i hb, List.drop_eq_getElem_cons ha, List.drop_eq_getElem_cons hb]
    by_cases he : a[i].toList = b[i].toList
    · rw [if_pos he, wrap_in (by omega) (by omega)]
      have := ih (i + 1) k (by omega) (by omega)
      rw [show ((i : Int) + 1) = ((i + 1 : Nat) : Int) from rfl, this, toList_inj he]
      exact congrArg some (decide_eq_decide.2 ⟨fun h => by rw [h], fun h => (List.cons.inj h).2⟩)
    · rw [if_neg he]
      have : a[i] ≠ b[i] := fun h => he (by rw [h])
      exact congrArg some (decide_eq_false (fun h => this (List.cons.inj h).1)).symm
theorem tuskref01_Same.ev (a b : List ByteArray) (hl : a.length ≤ 9223372036854775807) : ∃ k, QBase01.tuskref01_Same.f k a b = some (decide (a = b)) := by
  refine ⟨a.length + 1, ?_⟩
  simp only [QBase01.tuskref01_Same.f]
  by_cases h : a.length = b.length
  · rw [if_pos (by omega)]
    have := same_loop a b h hl a.length 0 (a.length + 1) (by omega) (by omega)
    simpa using this
  · rw [if_neg (by omega)]
    have : a ≠ b := fun e => h (by rw [e])
    simp [this]
theorem tuskref01_Same.calls (A0 : Option Addr) (c0 : Nat) (l0 : List ByteArray) (A1 : Option Addr) (c1 : Nat) (l1 : List ByteArray) (r : Bool) (w : World) (hr0 : Kd.C Kd.string w A0 l0.length l0) (hc0 : l0.length ≤ c0) (hr1 : Kd.C Kd.string w A1 l1.length l1) (hc1 : l1.length ≤ c1) (h : tuskref01_Same.f l0 l1 = some r) :
    Calls Try.prog 41 #[.slice A0 l0.length c0, .slice A1 l1.length c1] w fun e w' => e = .returned (.bool r) ∧ Drawn0 w w' := by
  unfold tuskref01_Same.f at h
  split at h
  · obtain ⟨k, hk⟩ := tuskref01_Same.ev l0 l1 (by assumption)
    exact QBase01.tuskref01_Same.calls k A0 c0 l0 A1 c1 l1 r w hr0 hc0 hr1 hc1 (hk.trans h)
  · cases h

/-- One more text: where it is read, and that it lies in s. -/
theorem texts_step (s : ByteArray) (at_ : Nat) (h : at_ ≤ s.size) :
    ((wireGetText (s.extract at_ s.size)).2.2 = 0 ∧ 0 < (wireGetText (s.extract at_ s.size)).2.1 ∧ (at_ : Int) + (wireGetText (s.extract at_ s.size)).2.1 ≤ s.size) ∨ (wireGetText (s.extract at_ s.size)).2.2 ≠ 0 := by
  have hx := extract_size s at_ s.size (Nat.le_refl _)
  rcases wireGetText_cases (s.extract at_ s.size) with ⟨h0, h1, h2⟩ | ⟨_, _, h3⟩
  · exact .inl ⟨h0, h1, by omega⟩
  · exact .inr h3
theorem getList_loop_r (s : ByteArray) (hs : s.size ≤ 8796093022208) : ∀ (d n : Nat) (at_ j : Nat) (acc : List ByteArray), s.size - at_ ≤ d → at_ ≤ s.size → acc.length ≤ at_ → j + n ≤ 4611686018427387903 → ∃ K, ∀ k, K ≤ k →
    QBase01.tuskref01_GetList.l0 k s ((j + n : Nat) : Int) at_ acc j = some (wireTexts s n at_ acc) := by
  intro d
  induction d using Nat.strongRecOn with
  | _ d ih =>
    intro n at_ j acc hd ha hacc hj
    cases n with
    | zero =>
      refine ⟨1, fun k hk => ?_⟩
      obtain ⟨k, rfl⟩ : ∃ m, k = m + 1 := ⟨k - 1, by omega⟩
      simp only [QBase01.tuskref01_GetList.l0]
      rw [if_neg (by omega)]
      rfl
    | succ n =>
      have hx := extract_size s at_ s.size (Nat.le_refl _)
      obtain ⟨K2, h2⟩ := tuskref01_GetText.ev (s.extract at_ s.size) (by omega)
      rcases texts_step s at_ ha with ⟨h0, h1, h3⟩ | h0
      · obtain ⟨q, hq⟩ := Int.eq_ofNat_of_zero_le (show 0 ≤ (wireGetText (s.extract at_ s.size)).2.1 by omega)
        have hlt : acc.length < 8796093022208 := by omega
        obtain ⟨K1, hK1⟩ := ih (d - 1) (by omega) n (at_ + q) (j + 1) (acc ++ [(wireGetText (s.extract at_ s.size)).1]) (by omega) (by omega) (by simp; omega) (by omega)
        refine ⟨K1 + K2 + 1, fun k hk => ?_⟩
        obtain ⟨k, rfl⟩ : ∃ m, k = m + 1 := ⟨k - 1, by omega⟩
        simp only [QBase01.tuskref01_GetList.l0]
        rw [if_pos (by omega), if_pos (by omega), if_pos (by omega), Int.toNat_natCast, at_rounds (fun k => QBase01.tuskref01_GetText.mono _ k) (show K2 ≤ k by omega) h2]
        simp only [Option.bind_some]
        rw [if_pos h0, if_pos hlt, hq, wrap_in (by omega) (by omega), wrap_in (by omega) (by omega), wireTexts, Int.toNat_natCast, if_pos h0, hq]
        have := hK1 k (by omega)
        rw [show j + 1 + n = j + (n + 1) from by omega] at this
        exact this
      · refine ⟨K2 + 1, fun k hk => ?_⟩
        obtain ⟨k, rfl⟩ : ∃ m, k = m + 1 := ⟨k - 1, by omega⟩
        simp only [QBase01.tuskref01_GetList.l0]
        rw [if_pos (by omega), if_pos (by omega), if_pos (by omega), Int.toNat_natCast, at_rounds (fun k => QBase01.tuskref01_GetText.mono _ k) (show K2 ≤ k by omega) h2]
        simp only [Option.bind_some]
        rw [if_neg h0, wireTexts, Int.toNat_natCast, if_neg h0]
theorem getList_loop_w (s : ByteArray) (hs : s.size ≤ 8796093022208) : ∀ (d n : Nat) (at_ j : Nat) (acc : List ByteArray), s.size - at_ ≤ d → at_ ≤ s.size → acc.length ≤ at_ → j + n ≤ 4611686018427387903 → ∃ K, ∀ k, K ≤ k →
    QBase01.wire_GetList.l0 k s at_ acc ((j + n : Nat) : Int) j = some (wireTexts s n at_ acc) := by
  intro d
  induction d using Nat.strongRecOn with
  | _ d ih =>
    intro n at_ j acc hd ha hacc hj
    cases n with
    | zero =>
      refine ⟨1, fun k hk => ?_⟩
      obtain ⟨k, rfl⟩ : ∃ m, k = m + 1 := ⟨k - 1, by omega⟩
      simp only [QBase01.wire_GetList.l0]
      rw [if_neg (by omega)]
      rfl
    | succ n =>
      have hx := extract_size s at_ s.size (Nat.le_refl _)
      have h2 := wire_GetText.same (s.extract at_ s.size) (by omega)
      rcases texts_step s at_ ha with ⟨h0, h1, h3⟩ | h0
      · obtain ⟨q, hq⟩ := Int.eq_ofNat_of_zero_le (show 0 ≤ (wireGetText (s.extract at_ s.size)).2.1 by omega)
        have hlt : acc.length < 8796093022208 := by omega
        obtain ⟨K1, hK1⟩ := ih (d - 1) (by omega) n (at_ + q) (j + 1) (acc ++ [(wireGetText (s.extract at_ s.size)).1]) (by omega) (by omega) (by simp; omega) (by omega)
        refine ⟨K1 + 1, fun k hk => ?_⟩
        obtain ⟨k, rfl⟩ : ∃ m, k = m + 1 := ⟨k - 1, by omega⟩
        simp only [QBase01.wire_GetList.l0]
        rw [if_pos (by omega), if_pos (by omega), if_pos (by omega), Int.toNat_natCast, h2]
        simp only [Option.bind_some]
        rw [if_pos h0, if_pos hlt, hq, wrap_in (by omega) (by omega), wrap_in (by omega) (by omega), wireTexts, Int.toNat_natCast, if_pos h0, hq]
        have := hK1 k (by omega)
        rw [show j + 1 + n = j + (n + 1) from by omega] at this
        exact this
      · refine ⟨1, fun k hk => ?_⟩
        obtain ⟨k, rfl⟩ : ∃ m, k = m + 1 := ⟨k - 1, by omega⟩
        simp only [QBase01.wire_GetList.l0]
        rw [if_pos (by omega), if_pos (by omega), if_pos (by omega), Int.toNat_natCast, h2]
        simp only [Option.bind_some]
        rw [if_neg h0, wireTexts, Int.toNat_natCast, if_neg h0]
def wire_GetList.f (a0 : ByteArray) (a1 : Int) : Option (List ByteArray × Int × Int) := if a0.size ≤ 8796093022208 then some (wireGetList a0 a1) else none
def tuskref01_GetList.f (a0 : ByteArray) (a1 : Int) : Option (List ByteArray × Int × Int) := if a0.size ≤ 8796093022208 then some (wireGetList a0 a1) else none
theorem wire_GetList.ev (s : ByteArray) (most : Int) (hs : s.size ≤ 8796093022208) : ∃ k, QBase01.wire_GetList.f k s most = some (wireGetList s most) := by
  rcases wireGet_cases s with ⟨h0, h1, h2, h3, h4, h5⟩ | ⟨h1, h2, h3⟩
  · by_cases hm : (wireGet s).1 > most
    · refine ⟨0, ?_⟩
      simp only [QBase01.wire_GetList.f, WireInt.wire_GetInt.f, Option.bind_some]
      rw [if_pos h0, if_pos hm, wireGetList, if_pos h0, if_pos hm]
    · obtain ⟨n, hn⟩ := Int.eq_ofNat_of_zero_le h1
      obtain ⟨q, hq⟩ := Int.eq_ofNat_of_zero_le (show 0 ≤ (wireGet s).2.1 by omega)
      obtain ⟨K, hK⟩ := getList_loop_w s hs s.size n q 0 [] (by omega) (by omega) (by simp) (by omega)
      refine ⟨K, ?_⟩
      simp only [QBase01.wire_GetList.f, WireInt.wire_GetInt.f, Option.bind_some]
      rw [if_pos h0, if_neg hm, wireGetList, if_pos h0, if_neg hm, hn, hq, Int.toNat_natCast]
      have := hK K (Nat.le_refl _)
      rwa [Nat.zero_add] at this
  · refine ⟨0, ?_⟩
    simp only [QBase01.wire_GetList.f, WireInt.wire_GetInt.f, Option.bind_some]
    rw [if_neg (by omega), wireGetList, if_neg (by omega)]
theorem tuskref01_GetList.ev (s : ByteArray) (most : Int) (hs : s.size ≤ 8796093022208) : ∃ k, QBase01.tuskref01_GetList.f k s most = some (wireGetList s most) := by
  obtain ⟨K0, hk0⟩ := getInt_ev s
  rcases wireGet_cases s with ⟨h0, h1, h2, h3, h4, h5⟩ | ⟨h1, h2, h3⟩
  · by_cases hm : (wireGet s).1 > most
    · refine ⟨K0, ?_⟩
      simp only [QBase01.tuskref01_GetList.f, hk0, Option.bind_some]
      rw [if_pos h0, if_pos hm, wireGetList, if_pos h0, if_pos hm]
    · obtain ⟨n, hn⟩ := Int.eq_ofNat_of_zero_le h1
      obtain ⟨q, hq⟩ := Int.eq_ofNat_of_zero_le (show 0 ≤ (wireGet s).2.1 by omega)
      obtain ⟨K, hK⟩ := getList_loop_r s hs s.size n q 0 [] (by omega) (by omega) (by simp) (by omega)
      refine ⟨K0 + K, ?_⟩
      simp only [QBase01.tuskref01_GetList.f]
      rw [at_rounds (fun k => QBase01.tuskref01_GetInt.mono _ k) (show K0 ≤ K0 + K by omega) hk0]
      simp only [Option.bind_some]
      rw [if_pos h0, if_neg hm, wireGetList, if_pos h0, if_neg hm, hn, hq, Int.toNat_natCast]
      have := hK (K0 + K) (by omega)
      rwa [Nat.zero_add] at this
  · refine ⟨K0, ?_⟩
    simp only [QBase01.tuskref01_GetList.f, hk0, Option.bind_some]
    rw [if_neg (by omega), wireGetList, if_neg (by omega)]
theorem wire_GetList.calls (a0 : ByteArray) (a1 : Int) (r1 : List ByteArray) (r2 : Int) (r3 : Int) (w : World) (h : wire_GetList.f a0 a1 = some (r1, r2, r3)) :
    Calls Try.prog 38 #[.string a0, .int .i64 a1] w fun e w' => ∃ v0_ : Value, e = .returned (.tuple #[v0_, .int .i64 r2, .int .i64 r3]) ∧ Kd.R Kd.string 9 w' w.heap.size (fun _ => True) v0_ r1 ∧ Below w.heap.size w w' := by
  unfold wire_GetList.f at h
  split at h
  · obtain ⟨k, hk⟩ := wire_GetList.ev a0 a1 (by assumption)
    exact QBase01.wire_GetList.calls k a0 a1 r1 r2 r3 w (hk.trans h)
  · cases h
theorem tuskref01_GetList.calls (a0 : ByteArray) (a1 : Int) (r1 : List ByteArray) (r2 : Int) (r3 : Int) (w : World) (h : tuskref01_GetList.f a0 a1 = some (r1, r2, r3)) :
    Calls Try.prog 39 #[.string a0, .int .i64 a1] w fun e w' => ∃ v0_ : Value, e = .returned (.tuple #[v0_, .int .i64 r2, .int .i64 r3]) ∧ Kd.R Kd.string 9 w' w.heap.size (fun _ => True) v0_ r1 ∧ Below w.heap.size w w' := by
  unfold tuskref01_GetList.f at h
  split at h
  · obtain ⟨k, hk⟩ := tuskref01_GetList.ev a0 a1 (by assumption)
    exact QBase01.tuskref01_GetList.calls k a0 a1 r1 r2 r3 w (hk.trans h)
  · cases h

theorem texts_length (s : ByteArray) : ∀ (d n : Nat) (at_ : Nat) (acc : List ByteArray), s.size - at_ ≤ d → at_ ≤ s.size → acc.length ≤ at_ → (wireTexts s n at_ acc).1.length ≤ s.size := by
  intro d
  induction d using Nat.strongRecOn with
  | _ d ih =>
    intro n at_ acc hd ha hacc
    cases n with
    | zero => rw [wireTexts]; exact Nat.le_trans hacc ha
    | succ n =>
      rw [wireTexts, Int.toNat_natCast]
      rcases texts_step s at_ ha with ⟨h0, h1, h3⟩ | h0
      · rw [if_pos h0]
        obtain ⟨q, hq⟩ := Int.eq_ofNat_of_zero_le (show 0 ≤ (wireGetText (s.extract at_ s.size)).2.1 by omega)
        rw [hq]
        exact ih (d - 1) (by omega) n (at_ + q) _ (by omega) (by omega) (by simp; omega)
      · rw [if_neg h0]; simp
theorem getList_length (s : ByteArray) (most : Int) (hs : s.size ≤ 8796093022208) : (wireGetList s most).1.length ≤ 9223372036854775807 := by
  unfold wireGetList
  rcases wireGet_cases s with ⟨h0, h1, h2, h3, h4, h5⟩ | ⟨h1, h2, h3⟩
  · rw [if_pos h0]
    split
    · simp
    · obtain ⟨q, hq⟩ := Int.eq_ofNat_of_zero_le (show 0 ≤ (wireGet s).2.1 by omega)
      rw [hq]
      have := texts_length s s.size (wireGet s).1.toNat q [] (by omega) (by omega) (by simp)
      omega
  · rw [if_neg (by omega)]; simp
end Go.Proofs.Ytdaklahoainpfaa.Ref01
