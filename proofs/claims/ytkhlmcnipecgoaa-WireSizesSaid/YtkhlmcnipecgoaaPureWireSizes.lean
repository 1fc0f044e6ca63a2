/- Proved: the statement WireSizes: a number has one byte for each seven of its bits; greater ones have no fewer. No condition. -/
import Derived.Test.YtkhlmcnipecgoaaQWireSizesx1
import Derived.Test.YtkhlmcnipecgoaaPlain02
namespace Go.Proofs.Ytkhlmcnipecgoaa.Pure
open Go.RowKit Go.Proofs.Ytkhlmcnipecgoaa.QWireSizes Go.Proofs.YtkhlmcnipecgoaaW.PrintWords Go.Proofs.YtkhlmcnipecgoaaW.PrintLast
open Go.Proofs.Ytkhlmcnipecgoaa.WireInt Go.Proofs.Ytkhlmcnipecgoaa.Ref01 Go.Proofs.Ytkhlmcnipecgoaa.Plain01 Go.Proofs.Ytkhlmcnipecgoaa.Plain02
namespace WireSizes

theorem works_true : tusklaw01_works.f = some true := by
  unfold tusklaw01_works.f wire_GetInt.f wire_Int.f WireList.wire_List.f
  simp only [Option.bind_some]
  have e1 : wireGet ⟨#[172, 2]⟩ = (300, 2, 0) := by decide +kernel
  have e2 : wireGet ⟨#[128, 0]⟩ = (0, 0, 3) := by decide +kernel
  have e3 : wireInt 300 = ⟨#[172, 2]⟩ := by decide +kernel
  have e4 : wireList [(⟨#[97]⟩ : ByteArray), ⟨#[]⟩] = ⟨#[2, 1, 97, 0]⟩ := by decide +kernel
  rw [e1, e2, e3, e4]
  simp [ByteArray.toList_eq]
  decide
theorem loop (a b : Int) : ∀ (j m c : Nat) (k : Nat), m < 128 ^ j → 1 ≤ j → c + j ≤ 200 → j ≤ 9 → m ≤ 4611686018427387903 → j < k → tusklaw01_WireSizes.l0 k a b c m = tusklaw01_WireSizes.l0 1 a b ((c + (encF j m).length - 1 : Nat) : Int) 0 := by
  intro j
  induction j with
  | zero => intro m c k h1 h2; omega
  | succ j ih =>
    intro m c k h1 h2 h3 h4 h5 h6
    obtain ⟨k, rfl⟩ : ∃ q, k = q + 1 := ⟨k - 1, by omega⟩
    by_cases hm : m < 128
    · rw [encF, if_pos hm, List.length_singleton, Nat.add_sub_cancel]
      have n1 : ¬ ((m : Int) ≥ 128) := by omega
      have n2 : ¬ ((0 : Int) ≥ 128) := by decide
      simp only [tusklaw01_WireSizes.l0, if_neg n1, if_neg n2]
    · have hj : 1 ≤ j := by
        rcases Nat.eq_zero_or_pos j with rfl | h
        · simp at h1; omega
        · exact h
      have hd : m / 128 < 128 ^ j := by rw [Nat.pow_succ] at h1; omega
      have e : tusklaw01_WireSizes.l0 (k + 1) a b c m = tusklaw01_WireSizes.l0 k a b ((c + 1 : Nat) : Int) ((m / 128 : Nat) : Int) := by
        rw [tusklaw01_WireSizes.l0, if_pos (by omega), wrap_in (by omega) (by omega), show Int.tdiv (m : Int) 128 = ((m / 128 : Nat) : Int) from rfl, wrap_in (by omega) (by omega)]
        rfl
      rw [e, ih (m / 128) (c + 1) k hd hj (by omega) (by omega) (by omega) (by omega)]
      rw [encF, if_neg hm, List.length_cons]
      congr 2
      omega
theorem j0_true (a b k : Nat) (ha : a ≤ 4611686018427387903) (hb : b ≤ 4611686018427387903) (hk : 11 < k) : tusklaw01_WireSizes.j0 k a b false = some true := by
  obtain ⟨k, rfl⟩ : ∃ q, k = q + 1 := ⟨k - 1, by omega⟩
  rw [tusklaw01_WireSizes.j0, if_neg (by decide), show (1 : Int) = ((1 : Nat) : Int) from rfl, loop a b 9 a 1 k (by omega) (by omega) (by omega) (by omega) ha (by omega)]
  simp only [tusklaw01_WireSizes.l0]
  rw [if_neg (by omega)]
  simp only [wire_Int.f, Option.bind_some]
  have hs : (wireInt (a : Int)).size = (encF 9 a).length := by rw [wireInt_nat ha, strOfNums_size]
  have hp := wireInt_pos_size a ha
  rw [if_pos (by rw [hs] at hp ⊢; congr 1; omega)]
  by_cases hab : (a : Int) > b
  · rw [if_pos hab]
  · rw [if_neg hab]
    have := size_mono a b hb (by omega)
    rw [decide_eq_true (by omega)]
theorem holds : tusklaw01_WireSizes.Pure := by
  intro a b _ _
  refine ⟨12, ?_⟩
  simp only [tusklaw01_WireSizes.f, works_true, Option.bind_some, if_true]
  have ht : ∀ x y : Int, tusklaw01_WireSizes.j0 12 x y true = some true := fun x y => by rw [tusklaw01_WireSizes.j0, if_pos rfl]
  by_cases h1 : a < 0
  · rw [if_pos h1, ht]
  by_cases h2 : b < 0
  · rw [if_neg h1, if_pos h2, ht]
  by_cases h3 : a > 4611686018427387903
  · rw [if_neg h1, if_neg h2, if_pos h3, ht]
  by_cases h4 : b > 4611686018427387903
  · rw [if_neg h1, if_neg h2, if_neg h3, decide_eq_true h4, ht]
  rw [if_neg h1, if_neg h2, if_neg h3, decide_eq_false h4]
  obtain ⟨n, rfl⟩ := Int.eq_ofNat_of_zero_le (show 0 ≤ a by omega)
  obtain ⟨m, rfl⟩ := Int.eq_ofNat_of_zero_le (show 0 ≤ b by omega)
  exact j0_true n m 12 (by omega) (by omega) (by omega)

end WireSizes
theorem WireSizes : tusklaw01_WireSizes.Pure := WireSizes.holds
end Go.Proofs.Ytkhlmcnipecgoaa.Pure
