/- mix: the two tables that are package variables; begun. -/
import Derived.Test.YtflnlkaednpenaaDoorMixR
namespace Go.Proofs.YtflnlkaednpenaaDoor.MixV
open Go.RowKit Go.Proofs.YtflnlkaednpenaaDoorW.PrintWords Go.Proofs.YtflnlkaednpenaaDoor.State Go.Proofs.YtflnlkaednpenaaDoor.MixW
set_option linter.unusedVariables false
set_option linter.unusedSimpArgs false
def firstsL : List Int := [1779033703, 3144134277, 1013904242, 2773480762, 1359893119, 2600822924, 528734635, 1541459225]
def rowsL : List Int := [0, 1, 2, 3, 4, 5, 6, 7, 8, 9, 10, 11, 12, 13, 14, 15, 14, 10, 4, 8, 9, 15, 13, 6, 1, 12, 0, 2, 11, 7, 5, 3, 11, 8, 12, 0, 5, 2, 15, 13, 10, 14, 3, 6, 7, 1, 9, 4, 7, 9, 3, 1, 13, 12, 11, 14, 2, 6, 5, 10, 4, 0, 15, 8, 9, 0, 5, 7, 2, 4, 10, 15, 14, 1, 11, 12, 6, 8, 3, 13, 2, 12, 6, 10, 0, 11, 8, 3, 4, 13, 7, 5, 15, 14, 1, 9, 12, 5, 1, 15, 14, 13, 4, 10, 0, 7, 6, 3, 9, 2, 8, 11, 13, 11, 7, 14, 12, 1, 3, 9, 5, 0, 15, 4, 8, 6, 2, 10, 6, 15, 14, 9, 11, 3, 0, 8, 12, 2, 13, 7, 1, 4, 10, 5, 10, 2, 8, 4, 7, 6, 1, 5, 15, 11, 9, 14, 3, 12, 13, 0]
structure Vars (w : World) : Prop where
  firsts : ∃ t fr, w.heap[0]? = some (.cells (wc firstsL) t fr)
  rows : ∃ t fr, w.heap[1]? = some (.cells (rc rowsL) t fr)
theorem Vars.two {w : World} (h : Vars w) : 2 ≤ w.heap.size := by
  obtain ⟨t, fr, h⟩ := h.rows
  have := (Array.getElem?_eq_some_iff.1 h).1
  omega
theorem Vars.of {w w' : World} (h : Vars w) (k : ∀ i, i < 2 → w'.heap[i]? = w.heap[i]?) : Vars w' := by
  obtain ⟨⟨t, fr, h0⟩, ⟨t1, fr1, h1⟩⟩ := h
  exact ⟨⟨t, fr, (k 0 (by omega)).trans h0⟩, ⟨t1, fr1, (k 1 (by omega)).trans h1⟩⟩
theorem Vars.below {w w' : World} (h : Vars w) {B : Nat} (hB : 2 ≤ B) (k : Below B w w') : Vars w' := h.of fun i hi => k.block i (by omega)
theorem Vars.below' {w w' : World} (h : Vars w) (k : Below w.heap.size w w') : Vars w' := h.below h.two k
theorem Vars.upd {w w' : World} (h : Vars w) {g : Nat} {o : Obj} (hg : 2 ≤ g) (k : Upd w w' g o) : Vars w' := h.of fun i hi => k.rest i (by have := h.two; omega) (by omega)
theorem Vars.drew {w : World} (h : Vars w) : Vars w.drew := ⟨h.firsts, h.rows⟩
theorem wc_all (xs : List Int) : (wc xs).all (·.oneCell') = true := by
  rw [Array.all_eq_true_iff_forall_mem]
  intro x hx
  simp only [wc, List.mem_toArray, List.mem_map] at hx
  obtain ⟨y, _, rfl⟩ := hx
  rfl
theorem rc_all (xs : List Int) : (rc xs).all (·.oneCell') = true := by
  rw [Array.all_eq_true_iff_forall_mem]
  intro x hx
  simp only [rc, List.mem_toArray, List.mem_map] at hx
  obtain ⟨y, _, rfl⟩ := hx
  rfl
theorem wc_size (xs : List Int) : (wc xs).size = xs.length := by simp [wc]
theorem rc_size (xs : List Int) : (rc xs).size = xs.length := by simp [rc]
theorem blk_alloc2 (w : World) (o1 o2 : Obj) : ((w.alloc o1).alloc o2).heap[w.heap.size]? = some o1 := State.blk_below (heap_alloc_new w o1) (below_alloc (Below.refl _ _) _)
/-- The numbers ahead of all, under a key of so many bytes. -/
def begunP (key : Int) : List Int := firstsL.set 0 (Go.bits .xor .u32 1779033703 (Go.bits .xor .u32 16842784 (wrap64 (256 * key) % 4294967296)))
set_option maxHeartbeats 4000000 in
theorem begun (key : Int) (w : World) (hV : Vars w) :
    Calls Tryd.prog 14 #[.int .i64 key] w fun e w' => e = .returned (.agg (wc (begunP key))) ∧ Below w.heap.size w w' := by
  have hu := Tryd.underlying31
  obtain ⟨t, fr, h0⟩ := hV.firsts
  have h2 := hV.two
  have hc0 : ∀ o, (w.alloc o).cell? ⟨0, 0, none⟩ = some (.int .u32 1779033703) := fun o => by rw [World.cell?_alloc_lt w o ⟨0, 0, none⟩ (by show 0 < _; omega), cell_of_row w 0 0 _ _ _ h0]; rfl
  have hc1 : ∀ o, (w.alloc o).cell? ⟨0, 1, none⟩ = some (.int .u32 3144134277) := fun o => by rw [World.cell?_alloc_lt w o ⟨0, 1, none⟩ (by show 0 < _; omega), cell_of_row w 0 1 _ _ _ h0]; rfl
  have hc2 : ∀ o, (w.alloc o).cell? ⟨0, 2, none⟩ = some (.int .u32 1013904242) := fun o => by rw [World.cell?_alloc_lt w o ⟨0, 2, none⟩ (by show 0 < _; omega), cell_of_row w 0 2 _ _ _ h0]; rfl
  have hc3 : ∀ o, (w.alloc o).cell? ⟨0, 3, none⟩ = some (.int .u32 2773480762) := fun o => by rw [World.cell?_alloc_lt w o ⟨0, 3, none⟩ (by show 0 < _; omega), cell_of_row w 0 3 _ _ _ h0]; rfl
  have hc4 : ∀ o, (w.alloc o).cell? ⟨0, 4, none⟩ = some (.int .u32 1359893119) := fun o => by rw [World.cell?_alloc_lt w o ⟨0, 4, none⟩ (by show 0 < _; omega), cell_of_row w 0 4 _ _ _ h0]; rfl
  have hc5 : ∀ o, (w.alloc o).cell? ⟨0, 5, none⟩ = some (.int .u32 2600822924) := fun o => by rw [World.cell?_alloc_lt w o ⟨0, 5, none⟩ (by show 0 < _; omega), cell_of_row w 0 5 _ _ _ h0]; rfl
  have hc6 : ∀ o, (w.alloc o).cell? ⟨0, 6, none⟩ = some (.int .u32 528734635) := fun o => by rw [World.cell?_alloc_lt w o ⟨0, 6, none⟩ (by show 0 < _; omega), cell_of_row w 0 6 _ _ _ h0]; rfl
  have hc7 : ∀ o, (w.alloc o).cell? ⟨0, 7, none⟩ = some (.int .u32 1541459225) := fun o => by rw [World.cell?_alloc_lt w o ⟨0, 7, none⟩ (by show 0 < _; omega), cell_of_row w 0 7 _ _ _ h0]; rfl
  clear h0 hV
  go_enter Tryd.func14, Tryd.ntmps14
  go_wp2_with fail
  have hb : ∀ o1 o2, Below w.heap.size w ((w.alloc o1).alloc o2) := fun o1 o2 => below_alloc (below_alloc (Below.refl _ _) _) _
  refine bodyPost_ret (results_cell_row rfl _ _ w.heap.size 31 (wc (begunP key)) (0, 0) _ rfl (blk_alloc2 w _ _) Tryd.underlying31 rfl (by kernel_rfl)) rfl ?_
  exact ⟨rfl, hb _ _⟩
end Go.Proofs.YtflnlkaednpenaaDoor.MixV
