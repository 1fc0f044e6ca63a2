/- bits.RotateLeft32 by what it is asked for: the world stays. -/
import Derived.Test.YtflnlkaednpenaaDoorMixW
namespace Go.Proofs.YtflnlkaednpenaaDoor.MixR
open Go.RowKit Go.Proofs.YtflnlkaednpenaaDoorW.PrintWords Go.Proofs.YtflnlkaednpenaaDoor.State Go.Proofs.YtflnlkaednpenaaDoor.MixW
set_option linter.unusedVariables false
theorem rotc (x a r q : Int) (h1 : Go.bits .and .u64 (IntKind.u64.wrap a) 31 = r) (h2 : IntKind.u64.wrap (32 - r) = q) (h3 : 0 ≤ r) (h4 : 0 ≤ q) (h5 : q = 32 - r) (W : World) :
    Calls Tryd.prog 35 #[.int .u32 x, .int .i64 a] W fun e w' => e = .returned (.int .u32 (rot x r)) ∧ w' = W := by
  have e : rot x r = Go.bits .or .u32 (shl .u32 x r) (shr .u32 x q) := by rw [rot, h5]
  rw [e]
  clear e h5
  go_enter Tryd.func35, Tryd.ntmps35
  go_wp2_with fail
  go_ret
  exact ⟨rfl, rfl⟩
theorem rotc16 (x : Int) (W : World) : Calls Tryd.prog 35 #[.int .u32 x, .int .i64 (-16)] W fun e w' => e = .returned (.int .u32 (rot x 16)) ∧ w' = W := rotc x (-16) 16 16 (by decide +kernel) (by decide +kernel) (by decide) (by decide) (by decide) W
theorem rotc12 (x : Int) (W : World) : Calls Tryd.prog 35 #[.int .u32 x, .int .i64 (-12)] W fun e w' => e = .returned (.int .u32 (rot x 20)) ∧ w' = W := rotc x (-12) 20 12 (by decide +kernel) (by decide +kernel) (by decide) (by decide) (by decide) W
theorem rotc8 (x : Int) (W : World) : Calls Tryd.prog 35 #[.int .u32 x, .int .i64 (-8)] W fun e w' => e = .returned (.int .u32 (rot x 24)) ∧ w' = W := rotc x (-8) 24 8 (by decide +kernel) (by decide +kernel) (by decide) (by decide) (by decide) W
theorem rotc7 (x : Int) (W : World) : Calls Tryd.prog 35 #[.int .u32 x, .int .i64 (-7)] W fun e w' => e = .returned (.int .u32 (rot x 25)) ∧ w' = W := rotc x (-7) 25 7 (by decide +kernel) (by decide +kernel) (by decide) (by decide) (by decide) W
end Go.Proofs.YtflnlkaednpenaaDoor.MixR
