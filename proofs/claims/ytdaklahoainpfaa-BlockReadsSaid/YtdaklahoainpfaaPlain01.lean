/- Numbers, texts and lists as bytes: plain functions, no program in sight. -/
import Derived.Test.YtdaklahoainpfaaWWords
namespace Go.Proofs.Ytdaklahoainpfaa.Plain01
open Go.Proofs.YtdaklahoainpfaaW.PrintWords

def wireGetL (s : ByteArray) : Nat → Nat → Int × Int × Int
  | 0, _ => (0, 0, 2)
  | d + 1, n =>
    if 8 - d = s.size then (0, 0, 1)
    else if 128 ≤ (bt s (8 - d : Nat)).toNat then wireGetL s d (n + (bt s (8 - d : Nat)).toNat % 128 * 128 ^ (8 - d))
    else if 4611686018427387903 < n + (bt s (8 - d : Nat)).toNat % 128 * 128 ^ (8 - d) then (0, 0, 2)
    else if (bt s (8 - d : Nat)).toNat = 0 ∧ 1 < 8 - d + 1 then (0, 0, 3)
    else (((n + (bt s (8 - d : Nat)).toNat % 128 * 128 ^ (8 - d) : Nat) : Int), ((8 - d + 1 : Nat) : Int), 0)
/-- The number at the front of bytes. -/
def wireGet (s : ByteArray) : Int × Int × Int := wireGetL s 9 0

def encF : Nat → Nat → List Int
  | 0, _ => []
  | k + 1, n => if n < 128 then [(n : Int)] else ((n % 128 + 128 : Nat) : Int) :: encF k (n / 128)
/-- A number's bytes. -/
def wireInt (a : Int) : ByteArray := if a < 0 then ⟨#[]⟩ else if 4611686018427387903 < a then ⟨#[]⟩ else strOfNums (encF 9 a.toNat)
def wireText (s : ByteArray) : ByteArray := wireInt (s.size : Int) ++ s
def wireGetText (s : ByteArray) : ByteArray × Int × Int :=
  if (wireGet s).2.2 = 0 then
    if (wireGet s).1 > 65536 then ((⟨#[]⟩ : ByteArray), 0, 8)
    else if (s.size : Int) - (wireGet s).2.1 < (wireGet s).1 then ((⟨#[]⟩ : ByteArray), 0, 1)
    else (s.extract (wireGet s).2.1.toNat ((wireGet s).2.1 + (wireGet s).1).toNat, (wireGet s).2.1 + (wireGet s).1, 0)
  else ((⟨#[]⟩ : ByteArray), 0, (wireGet s).2.2)
def wireCat : List ByteArray → ByteArray
  | [] => ⟨#[]⟩
  | s :: l => wireText s ++ wireCat l
def wireList (l : List ByteArray) : ByteArray := wireInt (l.length : Int) ++ wireCat l
/-- n texts from the place on. -/
def wireTexts (s : ByteArray) : Nat → Int → List ByteArray → List ByteArray × Int × Int
  | 0, at_, acc => (acc, at_, 0)
  | n + 1, at_, acc =>
    if (wireGetText (s.extract at_.toNat s.size)).2.2 = 0 then
      wireTexts s n (at_ + (wireGetText (s.extract at_.toNat s.size)).2.1) (acc ++ [(wireGetText (s.extract at_.toNat s.size)).1])
    else ([], 0, (wireGetText (s.extract at_.toNat s.size)).2.2)
def wireGetList (s : ByteArray) (most : Int) : List ByteArray × Int × Int :=
  if (wireGet s).2.2 = 0 then
    if (wireGet s).1 > most then ([], 0, 8) else wireTexts s (wireGet s).1.toNat (wireGet s).2.1 []
  else ([], 0, (wireGet s).2.2)

theorem strOfNums_cons (a : Int) (l : List Int) : strOfNums (a :: l) = strOfNums [a] ++ strOfNums l := by
  apply ByteArray.ext
  simp [strOfNums]
theorem encF_length (k n : Nat) : (encF k n).length ≤ k := by
  induction k generalizing n with
  | zero => simp [encF]
  | succ k ih =>
    rw [encF]
    split
    · simp
    · have := ih (n / 128); simp; omega
theorem wireInt_size (a : Int) : (wireInt a).size ≤ 9 := by
  unfold wireInt
  split
  · simp [ByteArray.size]
  · split
    · simp [ByteArray.size]
    · rw [strOfNums_size]; exact encF_length 9 _
/-- What GetInt answers. -/
theorem wireGetL_cases (s : ByteArray) : ∀ (d n : Nat), d ≤ 9 → 9 - d ≤ s.size →
    ((wireGetL s d n).2.2 = 0 ∧ 0 ≤ (wireGetL s d n).1 ∧ (wireGetL s d n).1 ≤ 4611686018427387903 ∧ 0 < (wireGetL s d n).2.1 ∧ (wireGetL s d n).2.1 ≤ 9 ∧ (wireGetL s d n).2.1 ≤ s.size) ∨
    ((wireGetL s d n).1 = 0 ∧ (wireGetL s d n).2.1 = 0 ∧ ((wireGetL s d n).2.2 = 1 ∨ (wireGetL s d n).2.2 = 2 ∨ (wireGetL s d n).2.2 = 3)) := by
  intro d
  induction d with
  | zero => intro n h1 h2; right; simp [wireGetL]
  | succ d ih =>
    intro n h1 h2
    rw [wireGetL]
    split
    · right; simp
    split
    · exact ih _ (by omega) (by omega)
    split
    · right; simp
    split
    · right; simp
    · left; refine ⟨rfl, Int.natCast_nonneg _, ?_, ?_, ?_, ?_⟩ <;> dsimp only <;> omega
theorem wireGet_cases (s : ByteArray) :
    ((wireGet s).2.2 = 0 ∧ 0 ≤ (wireGet s).1 ∧ (wireGet s).1 ≤ 4611686018427387903 ∧ 0 < (wireGet s).2.1 ∧ (wireGet s).2.1 ≤ 9 ∧ (wireGet s).2.1 ≤ s.size) ∨
    ((wireGet s).1 = 0 ∧ (wireGet s).2.1 = 0 ∧ ((wireGet s).2.2 = 1 ∨ (wireGet s).2.2 = 2 ∨ (wireGet s).2.2 = 3)) :=
  wireGetL_cases s 9 0 (by omega) (by omega)

theorem wireCat_append (a b : List ByteArray) : wireCat (a ++ b) = wireCat a ++ wireCat b := by
  induction a with
  | nil => simp [wireCat]; rfl
  | cons x a ih => simp only [List.cons_append, wireCat, ih, ByteArray.append_assoc]
theorem ba_append_size (a b : ByteArray) : (a ++ b).size = a.size + b.size := ByteArray.size_append
theorem wireCat_take (l : List ByteArray) (k : Nat) (h : k < l.length) : wireCat (l.take (k + 1)) = wireCat (l.take k) ++ wireText l[k] := by
  rw [List.take_succ_eq_append_getElem h, wireCat_append]
  simp only [wireCat]
  congr 1
  apply ByteArray.ext; simp
theorem wireCat_le (l : List ByteArray) (k : Nat) : (wireCat (l.take k)).size ≤ (wireCat l).size := by
  have h := wireCat_append (l.take k) (l.drop k)
  rw [List.take_append_drop] at h
  rw [h, ba_append_size]
  omega
/-- What GetText answers. -/
theorem wireGetText_cases (s : ByteArray) :
    ((wireGetText s).2.2 = 0 ∧ 0 < (wireGetText s).2.1 ∧ (wireGetText s).2.1 ≤ s.size) ∨
    ((wireGetText s).1 = ⟨#[]⟩ ∧ (wireGetText s).2.1 = 0 ∧ (wireGetText s).2.2 ≠ 0) := by
  rcases wireGet_cases s with ⟨h0, h1, h2, h3, h4, h5⟩ | ⟨h1, h2, h3⟩
  · unfold wireGetText
    rw [if_pos h0]
    by_cases hb : (wireGet s).1 > 65536
    · rw [if_pos hb]; right; simp
    · rw [if_neg hb]
      by_cases hc : (s.size : Int) - (wireGet s).2.1 < (wireGet s).1
      · rw [if_pos hc]; right; simp
      · rw [if_neg hc]; left; refine ⟨rfl, ?_, ?_⟩ <;> dsimp only <;> omega
  · right
    unfold wireGetText
    rw [if_neg (by omega)]
    refine ⟨rfl, rfl, ?_⟩
    dsimp only
    omega
theorem extract_size (s : ByteArray) (a b : Nat) (h : b ≤ s.size) : (s.extract a b).size = b - a := by
  rw [ByteArray.size_extract]; omega
end Go.Proofs.Ytdaklahoainpfaa.Plain01
