-- The plain statement of the law tusklaw21_WavesCut where its arguments are of bulk at most 1048576 (laid by wip/tools/rowgen.py).
import Derived.Test.YtkfhajdkpbpkdaaQWavesCutx1
import Derived.Test.YtkfhajdkpbpkdaaQOpen
namespace Go.Proofs.Ytkfhajdkpbpkdaa.QWavesCut
open Go.RowKit Go.Proofs.YtkfhajdkpbpkdaaW.PrintWords Go.Proofs.Ytkfhajdkpbpkdaa.QKinds Go.Proofs.Ytkfhajdkpbpkdaa.Open Go.Proofs.Ytkfhajdkpbpkdaa.QOpen
def tusklaw21_WavesCut.PureU : Prop := ∀ (l0 : List (S38)) (a1 : Int), (gList g38) l0 → (gInt .i64) a1 → (mList m38) l0 + mOne a1 ≤ 1048576 → ∃ k, tusklaw21_WavesCut.f k l0 a1 = some true
end Go.Proofs.Ytkfhajdkpbpkdaa.QWavesCut
