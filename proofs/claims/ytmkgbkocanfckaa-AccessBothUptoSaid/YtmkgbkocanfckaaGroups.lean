/- access.Groups walked: linked roots. -/
import Derived.Test.YtmkgbkocanfckaaEdges
import Derived.Test.YtmkgbkocanfckaaGroupsP
import Derived.Test.YtmkgbkocanfckaaState
import Derived.StillTailTactics
import Derived.Sort.AtCall
namespace Go.Proofs.Ytmkgbkocanfckaa.Groups
open Go.RowKit Go.Proofs.YtmkgbkocanfckaaW.PrintWords Go.Proofs.YtmkgbkocanfckaaW.PrintMore Go.Proofs.Ytmkgbkocanfckaa.QKinds Go.Proofs.Ytmkgbkocanfckaa.QBase20 Go.Proofs.Ytmkgbkocanfckaa.Meet Go.Proofs.Ytmkgbkocanfckaa.Edges Go.Proofs.Ytmkgbkocanfckaa.GroupsP
set_option linter.unusedVariables false
set_option linter.unusedSimpArgs false
def cellsU (u : List Nat) : Array Value := (u.map fun x : Nat => Value.int .i64 (x : Int)).toArray
/-- The row of links lies in block b, its slice in the box b + 1. -/
structure J (b n : Nat) (u : List Nat) (w : World) : Prop where
  len : u.length = n
  row : w.heap[b]? = some (.cells (cellsU u) 3 (0, 0))
  box : w.heap[b + 1]? = some (.cells #[.slice (some ⟨b, 0, none⟩) n n] 33 (0, 0))
section
variable {b n : Nat} {u : List Nat} {w w1 : World}
theorem J.drewN (h : J b n u w) (m : Nat) : J b n u (w.drewN m) := ⟨h.len, h.row, h.box⟩
theorem J.below (h : J b n u w) (k : Below w.heap.size w w1) : J b n u w1 := ⟨h.len, State.blk_below h.row k, State.blk_below h.box k⟩
theorem J.boxc (h : J b n u w) : w.cell? ⟨b + 1, 0, none⟩ = some (.slice (some ⟨b, 0, none⟩) n n) := by rw [State.cell_blk h.box]; rfl
theorem J.cell (h : J b n u w) {j : Nat} (hj : j < n) : w.cell? ⟨b, j, none⟩ = some (.int .i64 (lk u j : Nat)) := by
  rw [State.cell_blk h.row, cellsU, List.getElem?_toArray, List.getElem?_map, List.getElem?_eq_getElem (by rw [h.len]; exact hj)]
  unfold lk
  rw [List.getD_eq_getElem?_getD, List.getElem?_eq_getElem (by rw [h.len]; exact hj)]; rfl
theorem J.free (h : J b n u w) (j : Nat) : w.frozen? ⟨b, j, none⟩ = false := State.free_blk h.row
theorem J.set (h : J b n u w) (j x : Nat) : J b n (u.set j x) (w.setCell ⟨b, j, none⟩ (.int .i64 (x : Int))) := by
  refine ⟨by rw [List.length_set]; exact h.len, ?_, ?_⟩
  · rw [State.blk_set h.row]
    congr 2
    unfold cellsU
    rw [List.setIfInBounds_toArray, List.map_set]
  · rw [Below.heap_setCell w ⟨b, j, none⟩ _ (b + 1) (by simp)]
    exact h.box
end
set_option maxHeartbeats 1000000 in
theorem rootC (b n : Nat) (u : List Nat) (i : Nat) (w : World) (hJ : J b n u w) (hl : Low u) (hi : i < n) (hn : n ≤ 65536) :
    Calls Try.prog 17 #[.int .i64 i, .pointer (some ⟨b + 1, 0, none⟩)] w fun e w' => e = .returned (.int .i64 (root u i : Nat)) ∧ w = w' := by
  have HJ := Aside0.mk hJ
  have HL := Aside0.mk hl
  have hbox := hJ.boxc
  clear hJ hl
  go_enter Try.func17, Try.ntmps17
  go_wp2_with fail
  go_loop [0] (fun v => ∃ j : Nat, j < n ∧ v = .int .i64 j ∧ Aside0 (root u j = root u i)) (fun v => (intOf v).toNat)
  case atStart => exact ⟨i, hi, rfl, ⟨rfl⟩⟩
  case round =>
    obtain ⟨j, hj, rfl, HE⟩ := hrel
    have hc := HJ.out.cell hj
    have hle := HL.out j
    have hst := Aside0.mk (root_step HL.out j)
    by_cases he : lk u j = j
    · have hr := Aside0.mk (root_fix he)
      rw [he] at hc
      have hb : ((j : Int) != (j : Int)) = false := by simp
      clear he hle
      go_wp2_with fail
      go_ret
      exact ⟨by rw [← HE.out, hr.out]; rfl, rfl⟩
    · have hb : (((lk u j : Nat) : Int) != (j : Int)) = true := by rw [bne_iff_ne]; omega
      have hlt : lk u j < j := by omega
      clear he hle
      generalize lk u j = k at *
      go_wp2_with fail
      go_round
      case rel => exact ⟨k, by omega, rfl, ⟨by rw [← hst.out]; exact HE.out⟩⟩
      case measure => simp [intOf]; omega
theorem made_zero (n : Nat) : madeCells #[Value.int .i64 0] n = cellsU (List.replicate n 0) := by
  apply Array.ext
  · simp [madeCells, cellsU]
  · intro i h1 h2
    simp [madeCells, cellsU, Nat.mod_one]
def fillU (n i : Nat) : List Nat := List.range i ++ List.replicate (n - i) 0
theorem fill_len {n i : Nat} (h : i ≤ n) : (fillU n i).length = n := by simp [fillU]; omega
theorem fill_zero (n : Nat) : fillU n 0 = List.replicate n 0 := by simp [fillU]
theorem fill_all (n : Nat) : fillU n n = List.range n := by simp [fillU]
theorem fill_next {n i : Nat} (h : i < n) : (fillU n i).set i i = fillU n (i + 1) := by
  unfold fillU
  rw [List.set_append_right _ _ (by simp), List.length_range, Nat.sub_self, show n - i = (n - (i + 1)) + 1 from by omega, List.replicate_succ, List.set_cons_zero, List.range_succ, List.append_assoc]
  rfl
/-- The pairs, as plain numbers. -/
def edgesN (l : List S26) : List (Nat × Nat) := (rows l l.length).map fun e => (e.1.toNat, e.2.toNat)
theorem row_mem {l : List S26} {i : Nat} {e : Int × Int} : ∀ {n : Nat}, e ∈ row l i n → ∃ k : Nat, e = ((i : Int), (k : Int)) ∧ i < k ∧ k < n ∧ clashP (tx l i) (tx l k) = true
  | 0, h => by simp [row] at h
  | n + 1, h => by
    rw [row] at h
    rcases List.mem_append.1 h with h | h
    · obtain ⟨k, h1, h2, h3, h4⟩ := row_mem h; exact ⟨k, h1, h2, by omega, h4⟩
    · split at h
      · rename_i hc
        exact ⟨n, by simpa using h, hc.1, by omega, hc.2⟩
      · simp at h
theorem rows_mem {l : List S26} {e : Int × Int} : ∀ {n : Nat}, e ∈ rows l n → ∃ i k : Nat, e = ((i : Int), (k : Int)) ∧ i < n ∧ i < k ∧ k < l.length ∧ clashP (tx l i) (tx l k) = true
  | 0, h => by simp [rows] at h
  | n + 1, h => by
    rw [rows] at h
    rcases List.mem_append.1 h with h | h
    · obtain ⟨i, k, h1, h2, h3⟩ := rows_mem h; exact ⟨i, k, h1, by omega, h3⟩
    · obtain ⟨k, h1, h2, h3, h4⟩ := row_mem h; exact ⟨n, k, h1, by omega, h2, h3, h4⟩
theorem row_has {l : List S26} {i k : Nat} (hik : i < k) (hc : clashP (tx l i) (tx l k) = true) : ∀ {n : Nat}, k < n → ((i : Int), (k : Int)) ∈ row l i n
  | 0, h => by omega
  | n + 1, h => by
    rw [row]
    by_cases hk : k = n
    · subst hk; rw [if_pos ⟨hik, hc⟩]; exact List.mem_append_right _ (by simp)
    · exact List.mem_append_left _ (row_has hik hc (by omega))
theorem rows_has {l : List S26} {i k : Nat} (hik : i < k) (hk : k < l.length) (hc : clashP (tx l i) (tx l k) = true) : ∀ {n : Nat}, i < n → ((i : Int), (k : Int)) ∈ rows l n
  | 0, h => by omega
  | n + 1, h => by
    rw [rows]
    by_cases hi : i = n
    · subst hi; exact List.mem_append_right _ (row_has hik hc hk)
    · exact List.mem_append_left _ (rows_has hik hk hc (by omega))
theorem edgesN_mem {l : List S26} {e : Nat × Nat} : e ∈ edgesN l ↔ e.1 < e.2 ∧ e.2 < l.length ∧ clashP (tx l e.1) (tx l e.2) = true := by
  unfold edgesN
  rw [List.mem_map]
  constructor
  · rintro ⟨a, ha, rfl⟩
    obtain ⟨i, k, rfl, h1, h2, h3, h4⟩ := rows_mem ha
    exact ⟨by simpa using h2, by simpa using h3, by simpa using h4⟩
  · rintro ⟨h1, h2, h3⟩
    exact ⟨((e.1 : Int), (e.2 : Int)), rows_has h1 h2 h3 (by omega), by simp⟩
theorem edgesN_get (l : List S26) (i : Nat) (hi : i < (rows l l.length).length) : (edgesN l)[i]? = some ((edgesN l).getD i (0, 0)) ∧ (rows l l.length).getD i ((0 : Int), (0 : Int)) = ((((edgesN l).getD i (0, 0)).1 : Int), (((edgesN l).getD i (0, 0)).2 : Int)) := by
  have hl : (edgesN l).length = (rows l l.length).length := by simp [edgesN]
  have h1 : (edgesN l)[i]? = some ((edgesN l).getD i (0, 0)) := by rw [List.getD_eq_getElem?_getD, List.getElem?_eq_getElem (by omega)]; rfl
  refine ⟨h1, ?_⟩
  have hm := List.getElem_mem hi
  obtain ⟨a, b, he, _⟩ := rows_mem hm
  rw [List.getD_eq_getElem?_getD, List.getElem?_eq_getElem hi, Option.getD_some]
  have : (edgesN l).getD i (0, 0) = (((rows l l.length)[i]).1.toNat, ((rows l l.length)[i]).2.toNat) := by
    rw [List.getD_eq_getElem?_getD]
    unfold edgesN
    rw [List.getElem?_map, List.getElem?_eq_getElem hi]; rfl
  rw [this, he]
  simp
theorem R_set_low {α : Type} {d : Kd α} {e : Nat} {w : World} {base : Nat} {ok : Nat → Prop} {v : Value} {xs : List α} (h : d.R e w base ok v xs) {b j : Nat} (hb : b < base) (x : Value) : d.R e (w.setCell ⟨b, j, none⟩ x) base ok v xs :=
  Kd.R_mono (Kd.R_move (Kd.R_bound h) (fun k hk => Below.heap_setCell w ⟨b, j, none⟩ x k (by have := hk.2.1; simp only; omega))) (fun k hk => hk.1)
theorem mx_nat (a b : Nat) : (if (a : Int) < (b : Int) then (b : Int) else (a : Int)) = ((max a b : Nat) : Int) := by split <;> omega
theorem mn_nat (a b : Nat) : (if (b : Int) < (a : Int) then (b : Int) else (a : Int)) = ((min a b : Nat) : Int) := by split <;> omega
theorem max2_nat (k k' : IntKind) (x y : Nat) : Builtin.max2 (.int k (x : Int)) (.int k' (y : Int)) = pure (.int k ((max x y : Nat) : Int)) := by rw [max2_int, mx_nat]
theorem min2_nat (k k' : IntKind) (x y : Nat) : Builtin.min2 (.int k (x : Int)) (.int k' (y : Int)) = pure (.int k ((min x y : Nat) : Int)) := by rw [min2_int, mn_nat]
attribute [local go_sem] max2_nat min2_nat max_two min_two
theorem own_of_J {b n base : Nat} {u : List Nat} {w : World} (h : J b n u w) (hb : base ≤ b) (hn : n ≤ 65536) : Kd.R (Kd.int .i64) 3 w base (fun _ => True) (.slice (some ⟨b, 0, none⟩) n n) (u.map fun x : Nat => (x : Int)) := by
  refine Kd.R_of_own ?_ (fun _ _ => trivial)
  refine ⟨by simp [encs], .inr ⟨b, n, cellsU u, ?_, hb, h.row, by simp [h.len], by unfold maxLen; omega, ?_, ?_⟩⟩
  · rw [List.length_map, h.len]
  · simp [cellsU, h.len]
  · simp [cellsU, h.len, encs, List.map_map]
    rw [List.take_of_length_le (by simp [h.len])]
    rfl
theorem low_links {n : Nat} (l : List S26) (i : Nat) (hn : l.length = n) : Low (links (List.range n) ((edgesN l).take i)) ∧ (links (List.range n) ((edgesN l).take i)).length = n := by
  have := links_tells (n := n) ((edgesN l).take i) [] (List.range n) (by simp) (low_range n) (fun e he => by
    have h := edgesN_mem.1 (List.mem_of_mem_take he); omega) (tells_range n)
  exact ⟨this.2.1, this.1⟩
theorem links_take {n : Nat} (l : List S26) (i : Nat) (e : Nat × Nat) (he : (edgesN l)[i]? = some e) : links (List.range n) ((edgesN l).take (i + 1)) = link (links (List.range n) ((edgesN l).take i)) e := by
  unfold links
  rw [List.take_add_one, he, List.foldl_append]; rfl
set_option maxHeartbeats 4000000 in
set_option maxRecDepth 100000 in
theorem groupsC (A0 : Option Addr) (c0 : Nat) (l0 : List (S26)) (w : World) (hr0 : Kd.C k26 w A0 l0.length l0) (hc0 : l0.length ≤ c0) (hl : l0.length ≤ 65536) (hf : ∀ i : Nat, i < l0.length → Fits (tx l0 i)) :
    Calls Try.prog 11 #[.slice A0 l0.length c0] w fun e w' => ∃ v, e = .returned v ∧ Kd.R (Kd.int .i64) 3 w' w.heap.size (fun _ => True) v ((groups l0.length (edgesN l0)).map fun x : Nat => (x : Int)) ∧ Below w.heap.size w w' := by
  have HED := Aside0.mk fun w' (hb : Below w.heap.size w w') => edges A0 c0 l0 w' (Kd.C_below hr0 hb) hc0 hl hf
  have HRL := Aside0.mk (rows_len l0 l0.length)
  have HEG := Aside0.mk (edgesN_get l0)
  have HEM := Aside0.mk (@edgesN_mem l0)
  have HLI := Aside0.mk fun i => low_links l0 i rfl
  have HLT := Aside0.mk (@links_take l0.length l0)
  have hmk := print_make_int (P := Try.prog) 33 3 (.int .i64 0) 8 Try.underlying33 info3 rfl (by omega) (l0.length : Int) (by omega) (by omega)
  simp only [Int.toNat_natCast] at hmk
  clear hr0 hf
  generalize hn : l0.length = n at *
  have HN := Aside0.mk hn
  clear hn
  go_enter Try.func11, Try.ntmps11
  go_wp2_with fail
  have hJ0 : Aside0 (J w.heap.size n (fillU n 0) ((w.alloc (Obj.cells (madeCells #[Value.int IntKind.i64 0] n) 3)).alloc (Obj.cells #[Value.slice (some { block := w.heap.size, off := 0 }) n n] 33))) := ⟨by
    refine ⟨fill_len (by omega), ?_, ?_⟩
    · rw [fill_zero, ← made_zero]
      exact State.blk_below (State.blk_alloc w _) ((Below.refl _ _).alloc (Nat.le_refl _) _)
    · have h := State.blk_alloc (w.alloc (Obj.cells (madeCells #[Value.int IntKind.i64 0] n) 3)) (Obj.cells #[Value.slice (some { block := w.heap.size, off := 0 }) n n] 33)
      simpa using h⟩
  have hB0 : Aside0 (Below w.heap.size w ((w.alloc (Obj.cells (madeCells #[Value.int IntKind.i64 0] n) 3)).alloc (Obj.cells #[Value.slice (some { block := w.heap.size, off := 0 }) n n] 33))) := ⟨((Below.refl _ _).alloc (Nat.le_refl _) _).alloc (by simp) _⟩
  go_loopw [4, 16] (fun v4 v16 wr => ∃ i : Nat, i ≤ n ∧ v16 = .int .i64 i ∧ Aside0 (J w.heap.size n (fillU n i) wr) ∧ Aside0 (Below w.heap.size w wr) ∧ w.heap.size + 2 ≤ wr.heap.size) (fun _ i _ => n - (intOf i).toNat)
  case atStart => exact ⟨0, by omega, rfl, hJ0, hB0, by simp⟩
  case round =>
    clear hJ0 hB0
    obtain ⟨i, hi, rfl, HJ, HB, hsz⟩ := hrel
    have hbox := HJ.out.boxc
    by_cases hlt : i < n
    · have hfr := HJ.out.free i
      have hcell := HJ.out.cell hlt
      have hs := HJ.out.set i i
      rw [fill_next hlt] at hs
      have HS := Aside0.mk hs
      have HBS := Aside0.mk (HB.out.setCell (p := ⟨w.heap.size, i, none⟩) (Nat.le_refl _) (.int .i64 (i : Int)))
      clear hs
      go_wp2_with fail
      go_roundw
      case rel => exact ⟨i + 1, by omega, by go_num, HS, HBS, by simpa [World.setCell] using hsz⟩
      case measure => simp [intOf]; omega
    · obtain rfl : i = n := by omega
      have HJ1 : Aside0 (J w.heap.size i (links (List.range i) ((edgesN l0).take 0)) wr) := ⟨by have h := HJ.out; rw [fill_all] at h; exact h⟩
      clear HJ
      have HCE := Aside0.mk (HED.out wr HB.out)
      go_wp2_with fail
      refine HCE.out.mono ?_
      rintro e w2 ⟨v, rfl, hE, hb2⟩
      have HB2 := Aside0.mk (HB.out.trans (hb2.mono HB.out.size))
      have HJ2 := Aside0.mk (HJ1.out.below hb2)
      have hsz2 : w.heap.size + 2 ≤ w2.heap.size := Nat.le_trans hsz hb2.size
      have HW := Aside0.mk hsz
      obtain ⟨Ao, co, rfl⟩ := Kd.R_slice hE
      have HE2 := Aside0.mk hE
      clear hE hb2 HCE HED HJ1 HB hbox hlt
      have hml : Aside0 ((edgesN l0).length = (rows l0 i).length) := ⟨by simp [edgesN, HN.out]⟩
      generalize hm : (rows l0 i).length = m at *
      have HM := Aside0.mk hm
      clear hm
      have hmb : m ≤ i * i := HRL.out
      have hii : i * i ≤ 65536 * 65536 := Nat.mul_le_mul hl hl
      have hm2 : m ≤ 4294967296 := by omega
      clear hmb hii
      go_wp2_with fail
      go_loopw [7, 8, 9, 28] (fun v7 v8 v9 v28 wr => ∃ j : Nat, j ≤ m ∧ v28 = .int .i64 j ∧ Aside0 (J w.heap.size i (links (List.range i) ((edgesN l0).take j)) wr) ∧ Aside0 (kP.R 37 wr (w.heap.size + 2) (fun _ => True) (.slice Ao m co) (rows l0 i)) ∧ Aside0 (Below w.heap.size w wr) ∧ w.heap.size + 2 ≤ wr.heap.size) (fun _ _ _ j _ => m - (intOf j).toNat)
      case atStart => exact ⟨0, by omega, rfl, HJ2, ⟨Kd.R_lower HE2.out HW.out⟩, HB2, hsz2⟩
      case round =>
        clear HJ2 HE2 HB2 hsz2
        obtain ⟨j, hj, rfl, HJ, HR, HB, hsz3⟩ := hrel
        by_cases hjt : j < m
        · obtain ⟨he1, he2⟩ := HEG.out j hjt
          generalize (edgesN l0).getD j (0, 0) = e at *
          obtain ⟨x, y⟩ := e
          have hmem := HEM.out.1 (List.mem_of_getElem? he1)
          simp only at hmem he2
          obtain ⟨hxy, hyn, hcl⟩ := hmem
          obtain ⟨hml0, hmc, hC⟩ := Kd.R_reads' HR.out
          obtain ⟨ad, c, rfl, _, hK, hcs⟩ := Kd.C_get hC ((0 : Int), (0 : Int)) (j : Int) (by omega) (by omega)
          rw [Int.toNat_natCast] at hK hcs
          rw [he2] at hK
          obtain ⟨_, _, rfl, rfl, rfl⟩ := hK
          have hx0 : wr.cell? (ad.add (j * 2)) = some (.int .i64 (x : Int)) := hcs 0 _ rfl
          have hx1 : wr.cell? ⟨(ad.add (j * 2)).block, (ad.add (j * 2)).off + 1, none⟩ = some (.int .i64 (y : Int)) := by rw [← add_field _ _ 1 (by omega)]; exact hcs 1 _ rfl
          have HI1 := Aside0.mk he1
          clear hcs hC hml0 he1 he2 hcl
          go_wp2_with fail
          have HLINK := Aside0.mk (HLT.out j (x, y) HI1.out)
          obtain ⟨hlow, hulen⟩ := HLI.out j
          generalize links (List.range i) ((edgesN l0).take j) = u at *
          have HA := Aside0.mk (HJ.out.below ((Below.refl _ _).alloc (Nat.le_refl _) (Obj.cells #[Value.int IntKind.i64 (x : Int), Value.int IntKind.i64 (y : Int)] 37)))
          have HBA := Aside0.mk (HB.out.alloc HB.out.size (Obj.cells #[Value.int IntKind.i64 (x : Int), Value.int IntKind.i64 (y : Int)] 37))
          have HRA := Aside0.mk (Kd.R_alloc HR.out (Obj.cells #[Value.int IntKind.i64 (x : Int), Value.int IntKind.i64 (y : Int)] 37))
          have hsz4 : w.heap.size + 2 ≤ (wr.alloc (Obj.cells #[Value.int IntKind.i64 (x : Int), Value.int IntKind.i64 (y : Int)] 37)).heap.size := by simp; omega
          have hc0_ : (wr.alloc (Obj.cells #[Value.int IntKind.i64 (x : Int), Value.int IntKind.i64 (y : Int)] 37)).cell? ⟨wr.heap.size, 0, none⟩ = some (.int .i64 (x : Int)) := by rw [State.cell_blk (State.blk_alloc wr _)]; rfl
          have hc1_ : (wr.alloc (Obj.cells #[Value.int IntKind.i64 (x : Int), Value.int IntKind.i64 (y : Int)] 37)).cell? ⟨wr.heap.size, 1, none⟩ = some (.int .i64 (y : Int)) := by rw [State.cell_blk (State.blk_alloc wr _)]; rfl
          generalize wr.alloc (Obj.cells #[Value.int IntKind.i64 (x : Int), Value.int IntKind.i64 (y : Int)] 37) = W at *
          have HQx := Aside0.mk fun q => (rootC w.heap.size i u x (W.drewN q) (HA.out.drewN q) hlow (by omega) hl).mono fun e w2 (hh : _ ∧ _) => (⟨hh.1, q, hh.2.symm⟩ : e = .returned (.int .i64 (root u x : Nat)) ∧ ∃ m_, w2 = W.drewN m_)
          have HQy := Aside0.mk fun q => (rootC w.heap.size i u y (W.drewN q) (HA.out.drewN q) hlow (by omega) hl).mono fun e w2 (hh : _ ∧ _) => (⟨hh.1, q, hh.2.symm⟩ : e = .returned (.int .i64 (root u y : Nat)) ∧ ∃ m_, w2 = W.drewN m_)
          have hbox := HA.out.boxc
          have HLOW := Aside0.mk hlow
          have hx2 := root_le hlow x
          have hy2 := root_le hlow y
          have HULEN := Aside0.mk hulen
          clear hlow hulen hx0 hx1
          go_quiet (first | (go_at_call_has 17 ((x : Int)); exact HQx.out _) | (go_at_call_has 17 ((y : Int)); exact HQy.out _))
          clear HQx HQy hc0_ hc1_
          have hcell := HA.out.cell (j := max (root u x) (root u y)) (by omega)
          have hfr := HA.out.free (max (root u x) (root u y))
          have hblt : w.heap.size < w.heap.size + 2 := by omega
          go_wp2_with fail
          go_roundw
          case rel => exact ⟨j + 1, by omega, by go_num, ⟨by rw [HLINK.out]; exact (HA.out.drewN _).set _ _⟩, ⟨R_set_low (Kd.R_drewN HRA.out _) hblt _⟩, ⟨below_set (pw_below_drewN HBA.out _) (Nat.le_refl _)⟩, by simpa [World.setCell] using hsz4⟩
          case measure => simp [intOf]; omega
        · obtain rfl : j = m := by omega
          have hbox := HJ.out.boxc
          have hall : (edgesN l0).take j = edgesN l0 := List.take_of_length_le (by have := hml.out; omega)
          rw [hall] at HJ
          have HLOW := Aside0.mk (HLI.out j)
          rw [hall] at HLOW
          have hug : Aside0 (∀ u', u' = links (List.range i) (edgesN l0) → (List.range i).map (root u') = groups i (edgesN l0)) := ⟨by rintro _ rfl; rfl⟩
          generalize hu : links (List.range i) (edgesN l0) = u at *
          have HG := Aside0.mk (hug.out u rfl)
          clear hug hu hall
          have HJ3 : Aside0 (J w.heap.size i (told u 0) wr) := ⟨by rw [told_zero]; exact HJ.out⟩
          clear HJ HR
          go_wp2_with fail
          go_loopw [10, 51] (fun v10 v51 wr => ∃ k : Nat, k ≤ i ∧ v51 = .int .i64 k ∧ Aside0 (J w.heap.size i (told u k) wr) ∧ Aside0 (Below w.heap.size w wr) ∧ w.heap.size + 2 ≤ wr.heap.size) (fun _ k _ => i - (intOf k).toNat)
          case atStart => exact ⟨0, by omega, rfl, HJ3, HB, hsz3⟩
          case round =>
            clear HJ3 HB hsz3 hbox
            obtain ⟨k, hk, rfl, HJ, HB, hsz5⟩ := hrel
            have hbox := HJ.out.boxc
            by_cases hkt : k < i
            · have hul : u.length = i := HLOW.out.2
              have HQ := Aside0.mk fun W hW => rootC w.heap.size i (told u k) k W hW (told_low HLOW.out.1 k (by omega)) hkt hl
              have HNX := Aside0.mk (told_next HLOW.out.1 k (by omega))
              have hcell := HJ.out.cell hkt
              have hfr := HJ.out.free k
              clear hul
              go_wp2_with fail
              go_region_with ((go_at_call 17; refine (HQ.out _ ?_).mono ?_; (exact ⟨HJ.out.len, HJ.out.row, HJ.out.box⟩); rintro e w2 ⟨rfl, rfl⟩))
              all_goals
                go_wp2_with fail
                go_roundw
                case rel => exact ⟨k + 1, by omega, by go_num, ⟨by rw [← HNX.out]; exact (HJ.out.set k _).drewN 1⟩, ⟨below_drew1 (below_set HB.out (Nat.le_refl _))⟩, by simpa [World.setCell] using hsz5⟩
                case measure => simp [intOf]; omega
            · obtain rfl : k = i := by omega
              have HT : Aside0 (told u k = groups k (edgesN l0)) := ⟨by
                have h := told_all u
                rw [HLOW.out.2] at h
                rw [h]; exact HG.out⟩
              go_wp2_with fail
              go_ret
              exact ⟨_, rfl, by rw [← HT.out]; exact own_of_J HJ.out (Nat.le_refl _) hl, HB.out⟩
end Go.Proofs.Ytmkgbkocanfckaa.Groups
