-- The plain statement of the law tusklaw21_WavesFront where its arguments are of bulk at most 1048576 (laid by wip/tools/rowgen.py).
import Derived.Test.YtkfhajdkpbpkdaaQWavesFrontx1
import Derived.Test.YtkfhajdkpbpkdaaQOpen
namespace Go.Proofs.Ytkfhajdkpbpkdaa.QWavesFront
open Go.RowKit Go.Proofs.YtkfhajdkpbpkdaaW.PrintWords Go.Proofs.Ytkfhajdkpbpkdaa.QKinds Go.Proofs.Ytkfhajdkpbpkdaa.Open Go.Proofs.Ytkfhajdkpbpkdaa.QOpen
def tusklaw21_WavesFront.PureU : Prop := ∀ (l0 : List (S38)) (a1 : Int) (a2 : Bool), (gList g38) l0 → (gInt .i64) a1 → (mList m38) l0 + mOne a1 + mOne a2 ≤ 1048576 → ∃ k, tusklaw21_WavesFront.f k l0 a1 a2 = some true
end Go.Proofs.Ytkfhajdkpbpkdaa.QWavesFront
