/- Proved: the statement WireApart: of two different numbers neither's bytes begin with the other's. No condition. -/
import Derived.Test.YtkhlmcnipecgoaaQWireApartx1
import Derived.Test.YtkhlmcnipecgoaaPlain02
namespace Go.Proofs.Ytkhlmcnipecgoaa.Pure
open Go.RowKit Go.Proofs.Ytkhlmcnipecgoaa.QWireApart Go.Proofs.YtkhlmcnipecgoaaW.PrintWords Go.Proofs.YtkhlmcnipecgoaaW.PrintLast
open Go.Proofs.Ytkhlmcnipecgoaa.WireInt Go.Proofs.Ytkhlmcnipecgoaa.Ref01 Go.Proofs.Ytkhlmcnipecgoaa.Plain01 Go.Proofs.Ytkhlmcnipecgoaa.Plain02
namespace WireApart

theorem works_true : tusklaw01_works.f = some true := by
  unfold tusklaw01_works.f wire_GetInt.f wire_Int.f WireList.wire_List.f
  simp only [Option.bind_some]
  have e1 : wireGet ⟨#[172, 2]⟩ = (300, 2, 0) := by decide +kernel
  have e2 : wireGet ⟨#[128, 0]⟩ = (0, 0, 3) := by decide +kernel
  have e3 : wireInt 300 = ⟨#[172, 2]⟩ := by decide +kernel
  have e4 : wireList [(⟨#[97]⟩ : ByteArray), ⟨#[]⟩] = ⟨#[2, 1, 97, 0]⟩ := by decide +kernel
  rw [e1, e2, e3, e4]
  simp [ByteArray.toList_eq]
  decide
theorem toList_ne {a b : ByteArray} (h : a ≠ b) : (a.toList != b.toList) = true := by
  rw [bne_iff_ne]
  exact fun e => h (toList_inj e)
theorem j0_true (a b k : Nat) (ha : a ≤ 4611686018427387903) (hb : b ≤ 4611686018427387903) (h : a ≠ b) : tusklaw01_WireApart.j0 (k + 1) a b false = some true := by
  simp only [tusklaw01_WireApart.j0]
  rw [if_neg (by decide)]
  simp only [wire_Int.f, Option.bind_some]
  have pa := wireInt_pos_size a ha
  have pb := wireInt_pos_size b hb
  by_cases hle : (wireInt (a : Int)).size ≤ (wireInt (b : Int)).size
  · have e : mn ((wireInt (a : Int)).size : Int) ((wireInt (b : Int)).size : Int) = ((wireInt (a : Int)).size : Int) := by unfold mn; omega
    rw [e, if_pos (by omega), if_pos (by omega), if_pos (by omega), if_pos (by omega), Int.toNat_natCast, extract_all]
    exact congrArg some (toList_ne fun hh => h (int_apart a b ha hb hle hh))
  · have e : mn ((wireInt (a : Int)).size : Int) ((wireInt (b : Int)).size : Int) = ((wireInt (b : Int)).size : Int) := by unfold mn; omega
    rw [e, if_pos (by omega), if_pos (by omega), if_pos (by omega), if_pos (by omega), Int.toNat_natCast, extract_all]
    exact congrArg some (toList_ne fun hh => h (int_apart b a hb ha (by omega) hh.symm).symm)
theorem holds : tusklaw01_WireApart.Pure := by
  intro a b _ _
  refine ⟨1, ?_⟩
  simp only [tusklaw01_WireApart.f, works_true, Option.bind_some, if_true]
  have ht : ∀ x y : Int, tusklaw01_WireApart.j0 1 x y true = some true := fun x y => by rw [tusklaw01_WireApart.j0, if_pos rfl]
  by_cases h1 : a < 0
  · rw [if_pos h1, ht]
  by_cases h2 : b < 0
  · rw [if_neg h1, if_pos h2, ht]
  by_cases h3 : a > 4611686018427387903
  · rw [if_neg h1, if_neg h2, if_pos h3, ht]
  by_cases h4 : b > 4611686018427387903
  · rw [if_neg h1, if_neg h2, if_neg h3, if_pos h4, ht]
  rw [if_neg h1, if_neg h2, if_neg h3, if_neg h4]
  obtain ⟨n, rfl⟩ := Int.eq_ofNat_of_zero_le (show 0 ≤ a by omega)
  obtain ⟨m, rfl⟩ := Int.eq_ofNat_of_zero_le (show 0 ≤ b by omega)
  by_cases h : n = m
  · subst h; rw [beq_self_eq_true, ht]
  · rw [show ((n : Int) == (m : Int)) = false from by rw [beq_eq_false_iff_ne]; omega]
    exact j0_true n m 0 (by omega) (by omega) h

end WireApart
theorem WireApart : tusklaw01_WireApart.Pure := WireApart.holds
end Go.Proofs.Ytkhlmcnipecgoaa.Pure
