/- Proved: the statement WireTexts: any text is written; from any bytes a text is got, or refused, as the reference says. No condition. -/
import Derived.Test.YtkhlmcnipecgoaaQWireTextsx1
import Derived.Test.YtkhlmcnipecgoaaPlain02
namespace Go.Proofs.Ytkhlmcnipecgoaa.Pure
open Go.RowKit Go.Proofs.Ytkhlmcnipecgoaa.QWireTexts Go.Proofs.YtkhlmcnipecgoaaW.PrintWords Go.Proofs.YtkhlmcnipecgoaaW.PrintLast
open Go.Proofs.Ytkhlmcnipecgoaa.WireInt Go.Proofs.Ytkhlmcnipecgoaa.Ref01 Go.Proofs.Ytkhlmcnipecgoaa.Plain01 Go.Proofs.Ytkhlmcnipecgoaa.Plain02
namespace WireTexts

theorem holds : tusklaw01_WireTexts.Pure := by
  intro a s ha hs
  have h1 := wireInt_size (a.size : Int)
  have h2 : (wireText a).size ≤ 9223372036854775807 := by rw [wireText, ba_append_size]; omega
  simp [tusklaw01_WireTexts.f, wire_GetText.f, tuskref01_GetText.f, wire_Text.f, tuskref01_Text.f, h2, show s.size ≤ 9223372036854775807 by omega]

end WireTexts
theorem WireTexts : tusklaw01_WireTexts.Pure := WireTexts.holds
end Go.Proofs.Ytkhlmcnipecgoaa.Pure
