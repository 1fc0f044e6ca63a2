/- Proved: the statement WireIntBack: a number that is written is got again, whatever follows; what is got is written as the bytes that it was. No condition. -/
import Derived.Test.YtkhlmcnipecgoaaQWireIntBackx2
import Derived.Test.YtkhlmcnipecgoaaPlain02
namespace Go.Proofs.Ytkhlmcnipecgoaa.Pure
open Go.RowKit Go.Proofs.Ytkhlmcnipecgoaa.QWireIntBack Go.Proofs.YtkhlmcnipecgoaaW.PrintWords Go.Proofs.YtkhlmcnipecgoaaW.PrintLast
open Go.Proofs.Ytkhlmcnipecgoaa.WireInt Go.Proofs.Ytkhlmcnipecgoaa.Ref01 Go.Proofs.Ytkhlmcnipecgoaa.Plain01 Go.Proofs.Ytkhlmcnipecgoaa.Plain02
namespace WireIntBack

theorem works_true : tusklaw01_works.f = some true := by
  unfold tusklaw01_works.f wire_GetInt.f wire_Int.f WireList.wire_List.f
  simp only [Option.bind_some]
  have e1 : wireGet ⟨#[172, 2]⟩ = (300, 2, 0) := by decide +kernel
  have e2 : wireGet ⟨#[128, 0]⟩ = (0, 0, 3) := by decide +kernel
  have e3 : wireInt 300 = ⟨#[172, 2]⟩ := by decide +kernel
  have e4 : wireList [(⟨#[97]⟩ : ByteArray), ⟨#[]⟩] = ⟨#[2, 1, 97, 0]⟩ := by decide +kernel
  rw [e1, e2, e3, e4]
  simp [ByteArray.toList_eq]
  decide
theorem back (s : ByteArray) (_hs : s.size ≤ 140737488351232) :
    ((wire_GetInt.f s).bind fun bt117 => (if bt117.2.2 = 0 then (if bt117.2.1 ≤ (s.size : Int) then (if bt117.2.1 > 0 then ((wire_Int.f bt117.1).bind fun t120 => (if 0 ≤ bt117.2.1 then (some (t120.toList == (s.extract 0 (bt117.2.1 : Int).toNat).toList)) else (none))) else (some false)) else (some false)) else (some true))) = some true := by
  simp only [wire_GetInt.f, wire_Int.f, Option.bind_some]
  rcases wireGet_cases s with ⟨h0, h1, h2, h3, h4, h5⟩ | ⟨h1, h2, h3⟩
  · obtain ⟨_, _, _, _, e⟩ := get_back s (wireGet s).1 (wireGet s).2.1 (by rw [← h0])
    rw [if_pos h0, if_pos h5, if_pos h3, if_pos (by omega), e]
    simp
  · rw [if_neg (by omega)]
theorem holds : tusklaw01_WireIntBack.Pure := by
  intro a s wa hs
  refine ⟨2, ?_⟩
  simp only [tusklaw01_WireIntBack.f, works_true, Option.bind_some, if_true]
  simp only [wire_Int.f, Option.bind_some]
  have hi := wireInt_size a
  by_cases hr : 0 ≤ a ∧ a ≤ 4611686018427387903
  · obtain ⟨n, rfl⟩ := Int.eq_ofNat_of_zero_le hr.1
    rw [if_pos hr.1]
    simp only [tusklaw01_WireIntBack.j0]
    have hg := get_int n (by omega) s
    rw [if_pos (by simpa using hr.2), if_pos (by omega)]
    simp only [wire_GetInt.f, Option.bind_some]
    rw [hg]
    simp only [if_true, bne_self_eq_false]
    simp only [tusklaw01_WireIntBack.j1]
    rw [if_neg (by decide)]
    exact back s hs
  · have e := wireInt_zero_of hr
    rw [e]
    have : (if a ≥ 0 then tusklaw01_WireIntBack.j0 2 a s ⟨#[]⟩ (decide (a ≤ 4611686018427387903)) else tusklaw01_WireIntBack.j0 2 a s ⟨#[]⟩ false) = tusklaw01_WireIntBack.j0 2 a s ⟨#[]⟩ false := by
      split
      · rw [decide_eq_false (by omega)]
      · rfl
    rw [this]
    simp only [tusklaw01_WireIntBack.j0]
    rw [if_neg (by decide), if_pos (by rw [ByteArray.toList_eq])]
    exact back s hs

end WireIntBack
theorem WireIntBack : tusklaw01_WireIntBack.Pure := WireIntBack.holds
end Go.Proofs.Ytkhlmcnipecgoaa.Pure
