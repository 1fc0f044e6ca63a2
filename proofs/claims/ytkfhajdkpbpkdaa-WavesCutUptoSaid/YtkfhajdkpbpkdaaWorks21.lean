/- tusklaw21.works walked: it answers true. -/
import Derived.Test.YtkfhajdkpbpkdaaLaw21
import Derived.Test.YtkfhajdkpbpkdaaCheckR21
import Derived.Sort.AtCall
namespace Go.Proofs.Ytkfhajdkpbpkdaa.Works21
open Go.RowKit Go.Proofs.YtkfhajdkpbpkdaaW.PrintWords Go.Proofs.YtkfhajdkpbpkdaaW.PrintMore Go.Proofs.Ytkfhajdkpbpkdaa.QKinds Go.Proofs.Ytkfhajdkpbpkdaa.QBase21 Go.Proofs.Ytkfhajdkpbpkdaa.Edges21 Go.Proofs.Ytkfhajdkpbpkdaa.Contracts21 Go.Proofs.Ytkfhajdkpbpkdaa.Plain21 Go.Proofs.Ytkfhajdkpbpkdaa.Plan21 Go.Proofs.Ytkfhajdkpbpkdaa.Pure21 Go.Proofs.Ytkfhajdkpbpkdaa.Law21 Go.Proofs.Ytkfhajdkpbpkdaa.Open Go.Proofs.Ytkfhajdkpbpkdaa.QOpen Go.Proofs.Ytkfhajdkpbpkdaa.CheckP Go.Proofs.Ytkfhajdkpbpkdaa.Check21 Go.Proofs.Ytkfhajdkpbpkdaa.CheckR21
set_option linter.unusedVariables false
set_option linter.unusedSimpArgs false
/-- Of a plan that has each number once there is to be told what the edges say. -/
theorem res_of {n : Nat} {R : List (Int × Int)} {P : List (List Int)} {r : Int} (hg : ∀ w, w < P.length → ∀ i, i < (P.getD w []).length → bad n (pairs P w i) ((P.getD w []).getD i 0) = 0) (hf : n ≤ (pl P P.length).length) (h : Res n R P r) : r = ed (pl P P.length) R := by
  rcases h with ⟨h0, hl⟩ | ⟨_, hfew, _⟩ | ⟨_, _, h⟩
  · rcases hl with ⟨e, _⟩ | ⟨w, i, hne, hw, hi, _, hb⟩
    · exact absurd e h0
    · exact absurd ((hg w hw i hi).symm.trans hb).symm hne
  · omega
  · exact h
def sa : ByteArray := ⟨#[97]⟩
def sb : ByteArray := ⟨#[98]⟩
def t0 : Tx := { z38 with f8 := [sa] }
def t1 : Tx := { z38 with f7 := [sa] }
def t2 : Tx := { z38 with f8 := [sb] }
def l4 : List Tx := [t0, t1, t2, t0]
def pA : List (List Int) := [[0, 2], [1], [3]]
def pB : List (List Int) := [[0, 1], [2], [3]]
theorem plan4 : planN (waves l4) 4 = pA := by decide +kernel
theorem edA : ed (pl pA 3) (rows l4 4) = 0 := by decide +kernel
theorem edB : ed (pl pB 3) (rows l4 4) = 15 := by decide +kernel
theorem goodA : ∀ w, w < pA.length → ∀ i, i < (pA.getD w []).length → bad 4 (pairs pA w i) ((pA.getD w []).getD i 0) = 0 := by decide +kernel
theorem goodB : ∀ w, w < pB.length → ∀ i, i < (pB.getD w []).length → bad 4 (pairs pB w i) ((pB.getD w []).getD i 0) = 0 := by decide +kernel
theorem resA {r : Int} (h : Res 4 (rows l4 4) pA r) : r = 0 := (res_of goodA (by decide) h).trans edA
theorem resB {r : Int} (h : Res 4 (rows l4 4) pB r) : r = 15 := (res_of goodB (by decide) h).trans edB
theorem small4 : ∀ x, x ∈ l4 → Small x := by
  intro x hx
  simp only [l4, List.mem_cons, List.not_mem_nil, or_false] at hx
  rcases hx with rfl | rfl | rfl | rfl <;> exact ⟨by decide, by decide⟩
theorem C_none {α : Type} (d : Kd α) (W : World) : d.C W none ([] : List α).length [] := ⟨rfl, by simp, fun h => absurd h (Nat.lt_irrefl 0)⟩
theorem C_one {W : World} {b : Nat} {x : ByteArray} (hb : W.heap[b]? = some (.cells #[.string x] 9 (0, 0))) : Kd.string.C W (some ⟨b, 0, none⟩) [x].length [x] :=
  C_block (cells := [.string x]) hb (by simp) (Reps.snoc (Reps.none _ _) (show Kd.string.K W x [.string x] from rfl) rfl)
def cells0 (b : Nat) : List Value := [.int .i64 0, .string ⟨#[]⟩, .string ⟨#[]⟩, .int .u64 0, .int .u64 0, .string ⟨#[]⟩, .string ⟨#[]⟩, .slice none 0 0, .slice (some ⟨b, 0, none⟩) 1 1]
def cells1 (b : Nat) : List Value := [.int .i64 0, .string ⟨#[]⟩, .string ⟨#[]⟩, .int .u64 0, .int .u64 0, .string ⟨#[]⟩, .string ⟨#[]⟩, .slice (some ⟨b, 0, none⟩) 1 1, .slice none 0 0]
theorem K0 {W : World} {b : Nat} {x : ByteArray} (hb : W.heap[b]? = some (.cells #[.string x] 9 (0, 0))) : k38.K W { z38 with f8 := [x] } (cells0 b) :=
  k38_mk W { z38 with f8 := [x] } (A7 := none) (c7 := 0) (Nat.le_refl _) (C_none _ _) (c8 := 1) (Nat.le_refl _) (C_one hb)
theorem K1 {W : World} {b : Nat} {x : ByteArray} (hb : W.heap[b]? = some (.cells #[.string x] 9 (0, 0))) : k38.K W { z38 with f7 := [x] } (cells1 b) :=
  k38_mk W { z38 with f7 := [x] } (c7 := 1) (Nat.le_refl _) (C_one hb) (A8 := none) (c8 := 0) (Nat.le_refl _) (C_none _ _)
theorem sz (W : World) (o : Obj) : (W.alloc o).heap.size = W.heap.size + 1 := by simp
theorem blk_up {W : World} {b : Nat} {x : Obj} (h : W.heap[b]? = some x) (o : Obj) : (W.alloc o).heap[b]? = some x := State.blk_below h (alloc_b W o)
def litW (w : World) : World := ((((w.alloc (.cells #[.string sa] 9)).alloc (.cells #[.string sa] 9)).alloc (.cells #[.string sb] 9)).alloc (.cells #[.string sa] 9)).alloc (.cells (cells0 w.heap.size ++ cells1 (w.heap.size + 1) ++ cells0 (w.heap.size + 1 + 1) ++ cells0 (w.heap.size + 1 + 1 + 1)).toArray 38)
theorem lit_below (w : World) : Below w.heap.size w (litW w) := below_alloc (below_alloc (below_alloc (below_alloc (alloc_b _ _) _) _) _) _
theorem lit_C (w : World) : Kd.C k38 (litW w) (some ⟨w.heap.size + 1 + 1 + 1 + 1, 0, none⟩) l4.length l4 := by
  have a0 := State.blk_alloc w (.cells #[.string sa] 9)
  have a1 := State.blk_alloc (w.alloc (.cells #[.string sa] 9)) (.cells #[.string sa] 9)
  have a2 := State.blk_alloc ((w.alloc (.cells #[.string sa] 9)).alloc (.cells #[.string sa] 9)) (.cells #[.string sb] 9)
  have a3 := State.blk_alloc (((w.alloc (.cells #[.string sa] 9)).alloc (.cells #[.string sa] 9)).alloc (.cells #[.string sb] 9)) (.cells #[.string sa] 9)
  have a4 := State.blk_alloc ((((w.alloc (.cells #[.string sa] 9)).alloc (.cells #[.string sa] 9)).alloc (.cells #[.string sb] 9)).alloc (.cells #[.string sa] 9)) (.cells (cells0 w.heap.size ++ cells1 (w.heap.size + 1) ++ cells0 (w.heap.size + 1 + 1) ++ cells0 (w.heap.size + 1 + 1 + 1)).toArray 38)
  rw [sz] at a1
  rw [sz, sz] at a2
  rw [sz, sz, sz] at a3
  rw [sz, sz, sz, sz] at a4
  have b0 : (litW w).heap[w.heap.size]? = some (.cells #[.string sa] 9 (0, 0)) := (blk_up (blk_up (blk_up (blk_up a0 _) _) _) _)
  have b1 : (litW w).heap[w.heap.size + 1]? = some (.cells #[.string sa] 9 (0, 0)) := (blk_up (blk_up (blk_up a1 _) _) _)
  have b2 : (litW w).heap[w.heap.size + 1 + 1]? = some (.cells #[.string sb] 9 (0, 0)) := (blk_up (blk_up a2 _) _)
  have b3 : (litW w).heap[w.heap.size + 1 + 1 + 1]? = some (.cells #[.string sa] 9 (0, 0)) := (blk_up a3 _)
  exact C_block a4 (by decide) (((((Reps.none (k38.K _) 9).snoc (K0 b0) rfl).snoc (K1 b1) rfl).snoc (K0 b2) rfl).snoc (K0 b3) rfl)
/-- A plan's literal of three waves. -/
def pW (W : World) (r0 r1 r2 : List Int) : World := (((W.alloc (.cells (r0.map (Value.int .i64)).toArray 3)).alloc (.cells (r1.map (Value.int .i64)).toArray 3)).alloc (.cells (r2.map (Value.int .i64)).toArray 3)).alloc (.cells #[.slice (some ⟨W.heap.size, 0, none⟩) r0.length r0.length, .slice (some ⟨W.heap.size + 1, 0, none⟩) r1.length r1.length, .slice (some ⟨W.heap.size + 1 + 1, 0, none⟩) r2.length r2.length] 24)
theorem pW_below (W : World) (r0 r1 r2 : List Int) : Below W.heap.size W (pW W r0 r1 r2) := below_alloc (below_alloc (below_alloc (alloc_b _ _) _) _) _
theorem reps_ints (W : World) : ∀ r : List Int, Reps ((Kd.int .i64).K W) 1 r (r.map (Value.int .i64)) := fun r => by
  have : ∀ q : List Int, Reps ((Kd.int .i64).K W) 1 q.reverse (q.reverse.map (Value.int .i64)) := fun q => by
    induction q with
    | nil => exact Reps.none _ _
    | cons a q ih =>
      rw [List.reverse_cons, List.map_append]
      exact ih.snoc (show (Kd.int .i64).K W a [.int .i64 a] from rfl) rfl
  simpa using this r.reverse
theorem pW_C (W : World) (r0 r1 r2 : List Int) (h0 : r0.length ≤ 100) (h1 : r1.length ≤ 100) (h2 : r2.length ≤ 100) : kRow.C (pW W r0 r1 r2) (some ⟨W.heap.size + 1 + 1 + 1, 0, none⟩) [r0, r1, r2].length [r0, r1, r2] := by
  have a0 := State.blk_alloc W (.cells (r0.map (Value.int .i64)).toArray 3)
  have a1 := State.blk_alloc (W.alloc (.cells (r0.map (Value.int .i64)).toArray 3)) (.cells (r1.map (Value.int .i64)).toArray 3)
  have a2 := State.blk_alloc ((W.alloc (.cells (r0.map (Value.int .i64)).toArray 3)).alloc (.cells (r1.map (Value.int .i64)).toArray 3)) (.cells (r2.map (Value.int .i64)).toArray 3)
  have a3 := State.blk_alloc (((W.alloc (.cells (r0.map (Value.int .i64)).toArray 3)).alloc (.cells (r1.map (Value.int .i64)).toArray 3)).alloc (.cells (r2.map (Value.int .i64)).toArray 3)) (.cells #[.slice (some ⟨W.heap.size, 0, none⟩) r0.length r0.length, .slice (some ⟨W.heap.size + 1, 0, none⟩) r1.length r1.length, .slice (some ⟨W.heap.size + 1 + 1, 0, none⟩) r2.length r2.length] 24)
  rw [sz] at a1
  rw [sz, sz] at a2
  rw [sz, sz, sz] at a3
  have b0 : (pW W r0 r1 r2).heap[W.heap.size]? = some (.cells (r0.map (Value.int .i64)).toArray 3 (0, 0)) := (blk_up (blk_up (blk_up a0 _) _) _)
  have b1 : (pW W r0 r1 r2).heap[W.heap.size + 1]? = some (.cells (r1.map (Value.int .i64)).toArray 3 (0, 0)) := (blk_up (blk_up a1 _) _)
  have b2 : (pW W r0 r1 r2).heap[W.heap.size + 1 + 1]? = some (.cells (r2.map (Value.int .i64)).toArray 3 (0, 0)) := (blk_up a2 _)
  have row : ∀ (b : Nat) (r : List Int), r.length ≤ 100 → (pW W r0 r1 r2).heap[b]? = some (.cells (r.map (Value.int .i64)).toArray 3 (0, 0)) → kRow.K (pW W r0 r1 r2) r [.slice (some ⟨b, 0, none⟩) r.length r.length] := fun b r hr hb =>
    ⟨some ⟨b, 0, none⟩, r.length, rfl, Nat.le_refl _, C_block hb (by omega) (reps_ints _ r)⟩
  exact C_block (cells := [.slice (some ⟨W.heap.size, 0, none⟩) r0.length r0.length, .slice (some ⟨W.heap.size + 1, 0, none⟩) r1.length r1.length, .slice (some ⟨W.heap.size + 1 + 1, 0, none⟩) r2.length r2.length]) a3 (by simp) ((((Reps.none (kRow.K _) 1).snoc (row _ r0 h0 b0) rfl).snoc (row _ r1 h1 b1) rfl).snoc (row _ r2 h2 b2) rfl)
theorem pA_small : ∀ r, r ∈ pA → r.length ≤ 1048576 := by decide
theorem wfA : ∀ row, row ∈ pA → ∀ x, x ∈ row → (Lit.int .i64 x).wf = true := by decide
theorem wfB : ∀ row, row ∈ pB → ∀ x, x ∈ row → (Lit.int .i64 x).wf = true := by decide
theorem fits4 : FitsAll l4 := by decide
set_option maxHeartbeats 4000000 in
set_option maxRecDepth 100000 in
theorem works (w : World) : Calls Try.prog 17 #[] w fun e w' => e = .returned (.bool true) ∧ Below w.heap.size w w' := by
  have HB := Aside0.mk (lit_below w)
  have HC := Aside0.mk (lit_C w)
  go_enter Try.func17, Try.ntmps17
  go_wp2_with fail
  change Calls _ _ _ (litW w) _
  generalize litW w = W at HB HC ⊢
  have hpl : Calls Try.prog 13 #[.slice (some ⟨w.heap.size + 1 + 1 + 1 + 1, 0, none⟩) 4 4] W fun e w' => ∃ A' c', e = .returned (.slice A' 3 c') ∧ 3 ≤ c' ∧ kRow.C w' A' pA.length pA ∧ Below W.heap.size W w' := by
    refine (planK small4 (by decide) HC.out (Nat.le_refl _)).mono ?_
    rintro e w1 ⟨A1, c1, rfl, hc1, hr1, hb1⟩
    have e1 : planN (waves l4) l4.length = pA := plan4
    rw [e1] at hc1 hr1
    rw [e1]
    exact ⟨A1, c1, rfl, hc1, hr1, hb1⟩
  refine hpl.mono ?_
  rintro e w1 ⟨A1, c1, rfl, hc1, hr1, hb1⟩
  clear hpl
  have HB1 := Aside0.mk (HB.out.trans (hb1.mono HB.out.size))
  have HC1 := Aside0.mk (Kd.C_below HC.out hb1)
  have HR1 := Aside0.mk hr1
  clear HB HC hr1 hb1
  go_wp2_with fail
  change Calls _ _ #[.slice A1 3 c1, .slice (some ⟨w1.heap.size + 1 + 1 + 1, 0, none⟩) 3 3] (pW w1 [0, 2] [1] [3]) _
  refine (sameK (P := pA) (by decide) pA_small (Kd.C_below HR1.out (pW_below _ _ _ _)) hc1 (pW_C w1 [0, 2] [1] [3] (by decide) (by decide) (by decide)) (Nat.le_refl _)).mono ?_
  rintro e w2 ⟨rfl, hb2⟩
  have hb12 := below_step (pW_below w1 [0, 2] [1] [3]) hb2
  have HB2 := Aside0.mk (HB1.out.trans (hb12.mono HB1.out.size))
  have HC2 := Aside0.mk (Kd.C_below HC1.out hb12)
  have HR2 := Aside0.mk (Kd.C_below HR1.out hb12)
  clear HB1 HC1 HR1 hb2 hb12
  go_wp2_with fail
  refine (check_calls l4 pA _ 4 A1 c1 w2 HC2.out (by decide) HR2.out hc1 fits4 wfA (by decide) (by decide) (by decide)).mono ?_
  rintro e w3 ⟨r, hres, rfl, hb3⟩
  obtain rfl := resA hres
  have HB3 := Aside0.mk (HB2.out.trans (hb3.mono HB2.out.size))
  have HC3 := Aside0.mk (Kd.C_below HC2.out hb3)
  clear HB2 HC2 HR2 hb3 hres
  go_wp2_with fail
  change Calls _ _ #[.slice (some ⟨w.heap.size + 1 + 1 + 1 + 1, 0, none⟩) 4 4, .slice (some ⟨w3.heap.size + 1 + 1 + 1, 0, none⟩) 3 3] (pW w3 [0, 1] [2] [3]) _
  refine (check_calls l4 pB _ 4 _ 3 (pW w3 [0, 1] [2] [3]) (Kd.C_below HC3.out (pW_below _ _ _ _)) (by decide) (pW_C w3 [0, 1] [2] [3] (by decide) (by decide) (by decide)) (by decide) fits4 wfB (by decide) (by decide) (by decide)).mono ?_
  rintro e w4 ⟨r, hres, rfl, hb4⟩
  obtain rfl := resB hres
  have hb34 := below_step (pW_below w3 [0, 1] [2] [3]) hb4
  have HB4 := Aside0.mk (HB3.out.trans (hb34.mono HB3.out.size))
  clear hb4 hb34 hres HC3
  go_wp2_with fail
  go_ret
  exact ⟨rfl, HB4.out⟩
end Go.Proofs.Ytkfhajdkpbpkdaa.Works21
