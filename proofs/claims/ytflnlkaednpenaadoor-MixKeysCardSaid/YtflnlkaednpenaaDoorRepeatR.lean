/- strings.Repeat: the shelf's contract in the print's form. -/
import Derived.Test.YtflnlkaednpenaaDoorShelfRep
import Derived.Test.YtflnlkaednpenaaDoorWWords
namespace Go.Proofs.YtflnlkaednpenaaDoor.RepeatR
open Go.RowKit Go.Proofs.YtflnlkaednpenaaDoorW.PrintWords
def strings_Repeat.f (a0 : ByteArray) (a1 : Int) : Option ByteArray := if 0 ≤ a1 ∧ a1 ≤ 1000 ∧ a0.size ≤ 1000 then some ⟨(Lib.repeatL a0.data.toList a1.toNat).toArray⟩ else none
theorem strings_Repeat.calls (a0 : ByteArray) (a1 : Int) (r : ByteArray) (w : World) (h : strings_Repeat.f a0 a1 = some r) :
    Calls Tryd.prog 24 #[.string a0, .int .i64 a1] w fun e w' => e = .returned (.string r) ∧ Below w.heap.size w w' := by
  rw [strings_Repeat.f] at h
  split at h
  · rename_i hc
    obtain ⟨h0, h1, h2⟩ := hc
    injection h with h
    subst h
    have hm : a0.size * a1.toNat ≤ 1000 * 1000 := Nat.mul_le_mul h2 (by omega)
    have k := Tryd.strings_Repeat a0 a1.toNat w (by omega) (by omega)
    rw [show ((a1.toNat : Nat) : Int) = a1 by omega] at k
    exact k
  · cases h
end Go.Proofs.YtflnlkaednpenaaDoor.RepeatR
