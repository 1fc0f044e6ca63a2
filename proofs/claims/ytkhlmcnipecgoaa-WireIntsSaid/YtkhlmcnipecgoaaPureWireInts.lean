/- Proved: the statement WireInts: any number is written, or is none; from any bytes a number is got, or refused, as the reference says. No condition. -/
import Derived.Test.YtkhlmcnipecgoaaQWireIntsx1
namespace Go.Proofs.Ytkhlmcnipecgoaa.Pure
open Go.RowKit Go.Proofs.Ytkhlmcnipecgoaa.QWireInts Go.Proofs.YtkhlmcnipecgoaaW.PrintWords Go.Proofs.YtkhlmcnipecgoaaW.PrintLast
open Go.Proofs.Ytkhlmcnipecgoaa.WireInt Go.Proofs.Ytkhlmcnipecgoaa.Ref01

theorem WireInts : tusklaw01_WireInts.Pure := by
  intro a s _ _
  simp [tusklaw01_WireInts.f, wire_GetInt.f, tuskref01_GetInt.f, wire_Int.f, tuskref01_Int.f]

end Go.Proofs.Ytkhlmcnipecgoaa.Pure
