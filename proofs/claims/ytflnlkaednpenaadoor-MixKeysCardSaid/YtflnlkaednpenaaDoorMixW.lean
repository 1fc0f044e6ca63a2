/- sixteen numbers in a block; the steps of a stir. -/
import Derived.Test.YtflnlkaednpenaaDoorProg
import Derived.Test.YtflnlkaednpenaaDoorWWords
import Derived.Test.YtflnlkaednpenaaDoorWLast
import Derived.Test.YtflnlkaednpenaaDoorWMore
import Derived.Test.YtflnlkaednpenaaDoorState
import Derived.Tactics
import Derived.WalkKit
import Derived.KernelRfl
import Derived.LoopTactic
import Derived.Outline
import Derived.BigRegion
import Derived.Sort.AtCall
namespace Go.Proofs.YtflnlkaednpenaaDoor.MixW
open Go.RowKit Go.Proofs.YtflnlkaednpenaaDoorW.PrintWords Go.Proofs.YtflnlkaednpenaaDoor.State
set_option linter.unusedVariables false
set_option linter.unusedSimpArgs false
def wc (xs : List Int) : Array Value := (xs.map (Value.int .u32)).toArray
def rc (xs : List Int) : Array Value := (xs.map (Value.int .i64)).toArray
theorem cellw {W : World} {g t : Nat} {xs : List Int} (h : W.heap[g]? = some (.cells (wc xs) t (0, 0))) (i : Nat) (hi : i < xs.length) : W.cell? ⟨g, i, none⟩ = some (.int .u32 (xs.getD i 0)) := by
  rw [cell_blk h, wc]; simp [hi]
theorem cellr {W : World} {g t : Nat} {xs : List Int} (h : W.heap[g]? = some (.cells (rc xs) t (0, 0))) (i : Nat) (hi : i < xs.length) : W.cell? ⟨g, i, none⟩ = some (.int .i64 (xs.getD i 0)) := by
  rw [cell_blk h, rc]; simp [hi]
theorem storew {w W : World} {g t : Nat} {xs : List Int} (h : Upd w W g (.cells (wc xs) t (0, 0))) (i : Nat) (x : Int) : Upd w (W.setCell ⟨g, i, none⟩ (.int .u32 x)) g (.cells (wc (xs.set i x)) t (0, 0)) := by
  have e : wc (xs.set i x) = (wc xs).setIfInBounds i (.int .u32 x) := by simp [wc, List.map_set]
  rw [e]; exact h.store _
/-- A number of 32 bits turned left by n. -/
def rot (x n : Int) : Int := Go.bits .or .u32 (shl .u32 x n) (shr .u32 x (32 - n))
theorem updrew {w W : World} {g : Nat} {o : Obj} (h : Upd w W g o) : Upd w W.drew g o := ⟨h.os, h.tape, h.output, h.size, h.here, h.rest⟩
def sAdd (xs ms rs : List Int) (a b k : Nat) : List Int := xs.set a ((xs.getD a 0 + (xs.getD b 0 + ms.getD (rs.getD k 0).toNat 0)) % 4294967296)
def sRot (xs : List Int) (d a : Nat) (n : Int) : List Int := xs.set d (rot (Go.bits .xor .u32 (xs.getD d 0) (xs.getD a 0)) n)
def sSum (xs : List Int) (c d : Nat) : List Int := xs.set c ((xs.getD c 0 + xs.getD d 0) % 4294967296)
end Go.Proofs.YtflnlkaednpenaaDoor.MixW
