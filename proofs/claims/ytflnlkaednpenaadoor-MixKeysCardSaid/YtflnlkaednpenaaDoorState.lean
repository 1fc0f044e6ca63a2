/- A block that is a variable in memory: what a call leaves of it, and of all others. -/
import Derived.Below
import Derived.Deep.Draws
import Derived.OwnWalk
import Derived.Laws.World
import Derived.Laws.NewBlocks
import Derived.Test.YtflnlkaednpenaaDoorWWords
namespace Go.Proofs.YtflnlkaednpenaaDoor.State
open Go.RowKit Go.Proofs.YtflnlkaednpenaaDoorW.PrintWords
set_option linter.unusedVariables false
set_option linter.unusedSimpArgs false

/-- Behind it block g is o; every other elder block is as it was. -/
structure Upd (w w' : World) (g : Nat) (o : Obj) : Prop where
  os : w'.os = w.os
  tape : w'.tape = w.tape
  output : w'.output = w.output
  size : w.heap.size ≤ w'.heap.size
  here : w'.heap[g]? = some o
  rest : ∀ i, i < w.heap.size → i ≠ g → w'.heap[i]? = w.heap[i]?
theorem lt_of_blk {w : World} {g : Nat} {o : Obj} (h : w.heap[g]? = some o) : g < w.heap.size := (Array.getElem?_eq_some_iff.1 h).1
theorem Upd.below {w w' : World} {g : Nat} {o : Obj} (h : Upd w w' g o) {B : Nat} (hB : B ≤ g) (hs : B ≤ w.heap.size) : Below B w w' :=
  ⟨h.os, h.tape, h.output, h.size, fun i hi => h.rest i (Nat.lt_of_lt_of_le hi hs) (by omega)⟩
theorem Upd.refl {w : World} {g : Nat} {o : Obj} (h : w.heap[g]? = some o) : Upd w w g o := ⟨rfl, rfl, rfl, Nat.le_refl _, h, fun _ _ _ => rfl⟩
theorem Upd.trans {w w1 w2 : World} {g : Nat} {o o2 : Obj} (h : Upd w w1 g o) (k : Upd w1 w2 g o2) : Upd w w2 g o2 :=
  ⟨k.os.trans h.os, k.tape.trans h.tape, k.output.trans h.output, Nat.le_trans h.size k.size, k.here, fun i hi hne => (k.rest i (Nat.lt_of_lt_of_le hi h.size) hne).trans (h.rest i hi hne)⟩
theorem Upd.other {w w' : World} {g : Nat} {o : Obj} (h : Upd w w' g o) {g2 : Nat} {o2 : Obj} (h2 : w.heap[g2]? = some o2) (hne : g2 ≠ g) : w'.heap[g2]? = some o2 := (h.rest g2 (lt_of_blk h2) hne).trans h2
theorem Upd.drawn {w w1 w2 : World} {g : Nat} {o : Obj} (h : Upd w w1 g o) (k : Drawn0 w1 w2) : Upd w w2 g o := by
  obtain ⟨n, rfl⟩ := k
  exact ⟨h.os, h.tape, h.output, h.size, h.here, h.rest⟩
theorem Upd.drewN {w w1 : World} {g : Nat} {o : Obj} (h : Upd w w1 g o) (n : Nat) : Upd w (w1.drewN n) g o := ⟨h.os, h.tape, h.output, h.size, h.here, h.rest⟩
theorem Upd.below_then {w w1 w2 : World} {g : Nat} {o : Obj} (h : Upd w w1 g o) (k : Below w1.heap.size w1 w2) : Upd w w2 g o :=
  ⟨k.os.trans h.os, k.tape.trans h.tape, k.output.trans h.output, Nat.le_trans h.size k.size, (k.block g (lt_of_blk h.here)).trans h.here, fun i hi hne => (k.block i (Nat.lt_of_lt_of_le hi h.size)).trans (h.rest i hi hne)⟩
theorem blk_set {w : World} {g j : Nat} {cs : Array Value} {t : TypeId} {fr : Nat × Nat} (h : w.heap[g]? = some (.cells cs t fr)) (v : Value) :
    (w.setCell ⟨g, j, none⟩ v).heap[g]? = some (.cells (cs.setIfInBounds j v) t fr) := by
  simp [World.setCell, Array.getElem?_modify, h]
theorem Upd.store {w w1 : World} {g j : Nat} {cs : Array Value} {t : TypeId} {fr : Nat × Nat} (h : Upd w w1 g (.cells cs t fr)) (v : Value) :
    Upd w (w1.setCell ⟨g, j, none⟩ v) g (.cells (cs.setIfInBounds j v) t fr) :=
  ⟨h.os, h.tape, h.output, by simpa [World.setCell] using h.size, blk_set h.here v, fun i hi hne => (Below.heap_setCell w1 ⟨g, j, none⟩ v i hne).trans (h.rest i hi hne)⟩
theorem cell_blk {w : World} {g j : Nat} {cs : Array Value} {t : TypeId} {fr : Nat × Nat} (h : w.heap[g]? = some (.cells cs t fr)) : w.cell? ⟨g, j, none⟩ = cs[j]? := by simp [World.cell?, h]
theorem free_blk {w : World} {g j : Nat} {cs : Array Value} {t : TypeId} (h : w.heap[g]? = some (.cells cs t (0, 0))) : w.frozen? ⟨g, j, none⟩ = false := by simp [World.frozen?, h]
theorem blk_drawn {w w1 : World} {g : Nat} {o : Obj} (h : w.heap[g]? = some o) (k : Drawn0 w w1) : w1.heap[g]? = some o := by
  obtain ⟨n, rfl⟩ := k
  exact h
theorem blk_below {w w1 : World} {g : Nat} {o : Obj} (h : w.heap[g]? = some o) (k : Below w.heap.size w w1) : w1.heap[g]? = some o := (k.block g (lt_of_blk h)).trans h
theorem blk_alloc (w : World) (o : Obj) : (w.alloc o).heap[w.heap.size]? = some o := heap_alloc_new w o
theorem drawn_below {w w' : World} (h : Drawn0 w w') (B : Nat) : Below B w w' := by
  obtain ⟨n, rfl⟩ := h
  exact ⟨rfl, rfl, rfl, Nat.le_refl _, fun _ _ => rfl⟩
end Go.Proofs.YtflnlkaednpenaaDoor.State
