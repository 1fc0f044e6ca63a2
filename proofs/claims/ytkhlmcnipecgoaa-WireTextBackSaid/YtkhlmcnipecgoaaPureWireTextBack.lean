/- Proved: the statement WireTextBack: a text that is written is got again; what is got is written as the bytes that it was. No condition. -/
import Derived.Test.YtkhlmcnipecgoaaQWireTextBackx1
import Derived.Test.YtkhlmcnipecgoaaPlain02
namespace Go.Proofs.Ytkhlmcnipecgoaa.Pure
open Go.RowKit Go.Proofs.Ytkhlmcnipecgoaa.QWireTextBack Go.Proofs.YtkhlmcnipecgoaaW.PrintWords Go.Proofs.YtkhlmcnipecgoaaW.PrintLast
open Go.Proofs.Ytkhlmcnipecgoaa.WireInt Go.Proofs.Ytkhlmcnipecgoaa.Ref01 Go.Proofs.Ytkhlmcnipecgoaa.Plain01 Go.Proofs.Ytkhlmcnipecgoaa.Plain02
namespace WireTextBack

theorem works_true : tusklaw01_works.f = some true := by
  unfold tusklaw01_works.f wire_GetInt.f wire_Int.f WireList.wire_List.f
  simp only [Option.bind_some]
  have e1 : wireGet ⟨#[172, 2]⟩ = (300, 2, 0) := by decide +kernel
  have e2 : wireGet ⟨#[128, 0]⟩ = (0, 0, 3) := by decide +kernel
  have e3 : wireInt 300 = ⟨#[172, 2]⟩ := by decide +kernel
  have e4 : wireList [(⟨#[97]⟩ : ByteArray), ⟨#[]⟩] = ⟨#[2, 1, 97, 0]⟩ := by decide +kernel
  rw [e1, e2, e3, e4]
  simp [ByteArray.toList_eq]
  decide
theorem back (s : ByteArray) (k : Nat) (hs : s.size ≤ 140737488351232) : tusklaw01_WireTextBack.j0 (k + 1) s false = some true := by
  simp only [tusklaw01_WireTextBack.j0]
  rw [if_neg (by decide), wire_GetText.f, if_pos (by omega)]
  simp only [Option.bind_some]
  by_cases h0 : (wireGetText s).2.2 = 0
  · obtain ⟨b1, b2, b3, b4, b5⟩ := text_back s (wireGetText s).1 (wireGetText s).2.1 (by rw [← h0])
    rw [if_pos h0, if_pos b2, wire_Text.f, if_pos (by omega)]
    simp only [Option.bind_some]
    rw [if_pos b1, b5]
    simp
  · rw [if_neg h0]
theorem holds : tusklaw01_WireTextBack.Pure := by
  intro t s ht hs
  refine ⟨1, ?_⟩
  simp only [tusklaw01_WireTextBack.f, works_true, Option.bind_some, if_true]
  have h1 := wireInt_size (t.size : Int)
  have hz : (wireText t).size = (wireInt (t.size : Int)).size + t.size := by rw [wireText, ba_append_size]
  rw [wire_Text.f, if_pos (by omega)]
  simp only [Option.bind_some]
  rw [if_pos (by omega), wire_GetText.f, if_pos (by rw [ba_append_size]; omega)]
  simp only [Option.bind_some]
  by_cases hl : 65536 < t.size
  · rw [if_pos (by omega), get_text_long t s hl (by omega)]
    simp [ByteArray.toList_eq]
  · rw [if_neg (by omega), get_text t s (by omega)]
    simp only [if_true, bne_self_eq_false]
    exact back s 0 hs

end WireTextBack
theorem WireTextBack : tusklaw01_WireTextBack.Pure := WireTextBack.holds
end Go.Proofs.Ytkhlmcnipecgoaa.Pure
