/- (*mix.numbers).block walked. -/
import Derived.Test.YtflnlkaednpenaaDoorMixV
import Derived.Test.YtflnlkaednpenaaDoorMixCol
import Derived.Test.YtflnlkaednpenaaDoorMixDia
import Derived.Laws.CopyRow
import Derived.Deep.WholeRow
import Derived.Deep.DeepCutAuto
namespace Go.Proofs.YtflnlkaednpenaaDoor.MixB
open Go.RowKit Go.Proofs.YtflnlkaednpenaaDoorW.PrintWords Go.Proofs.YtflnlkaednpenaaDoor.State Go.Proofs.YtflnlkaednpenaaDoor.MixW Go.Proofs.YtflnlkaednpenaaDoor.MixV
set_option linter.unusedVariables false
set_option linter.unusedSimpArgs false
def zeros (n : Nat) : List Int := List.replicate n 0
def byteN (s : ByteArray) (k : Nat) : Int := (s.data.toList.getD k 0).toNat
def lastP (last : Bool) (xs : List Int) : List Int := if last = true then xs.set 14 (Go.bits .xor .u32 IntKind.u32.max (xs.getD 14 0)) else xs
theorem lastP_length (last : Bool) (xs : List Int) : (lastP last xs).length = xs.length := by
  unfold lastP; split <;> simp
/-- A block's numbers, of so many of its first bytes. -/
def mP (s : ByteArray) : Nat → List Int
  | 0 => zeros 16
  | i + 1 => (mP s i).set (i / 4) (Go.bits .or .u32 ((mP s i).getD (i / 4) 0) (byteN s i % 4294967296 * 2 ^ (8 * (i % 4)) % 4294967296))
theorem byteN_at (s : ByteArray) (i : Nat) (h : i < s.size) : ((s[i]'h).toNat : Int) = byteN s i := by
  have h2 : i < s.data.toList.length := by simpa using h
  rw [byteN, List.getD_eq_getElem?_getD, List.getElem?_eq_getElem h2]
  simp
  rfl
theorem mP_length (s : ByteArray) (i : Nat) : (mP s i).length = 16 := by
  induction i with
  | zero => rfl
  | succ i ih => rw [mP, List.length_set, ih]
theorem Upd.row {w W : World} {g : Nat} {cs : Array Value} {t : TypeId} (h : Upd w W g (.cells cs t (0, 0))) (c' : Array Value) : Upd w (W.setRow g c') g (.cells c' t (0, 0)) :=
  ⟨h.os, h.tape, h.output, by simpa [World.setRow] using h.size, setRow_heap W g cs c' t (0, 0) h.here, fun i hi hne => by
    rw [← h.rest i hi hne]; simp [World.setRow, Array.getElem?_modify, Ne.symm hne]⟩
theorem slice16 (xs : List Int) (k : Nat) (ys : List Int) : ((wc xs).toList.take k ++ ys.map (Value.int .u32) ++ (wc xs).toList.drop (k + ys.length)).toArray = wc (xs.take k ++ ys ++ xs.drop (k + ys.length)) := by
  simp [wc, List.map_take, List.map_drop]
/-- A table's numbers copied into the sixteen. -/
theorem copy16 (W : World) (B k g o : Nat) (xs ys : List Int) (hB : W.heap[B]? = some (.cells (wc xs) 49 (0, 0))) (hx : xs.length = 16) (hy : ys.length = 8) (hk : k = 0 ∨ k = 8)
    (hs : ∀ i, i < 8 → W.cell? ⟨g, o + i, none⟩ = some (.int .u32 (ys.getD i 0))) (l c : Nat) (hl : l = 16 - k) (r : List Int) (hr : r = xs.take k ++ ys ++ xs.drop (k + 8)) :
    (Builtin.copy_ #[41, 41] 3 #[.slice (some ⟨B, k, none⟩) l c, .slice (some ⟨g, o, none⟩) 8 8]).run Tryd.prog W = .ok (goInt 8) (W.setRow B (wc r)) := by
  have h := run_copy_row Tryd.prog W 41 41 3 29 B k l c ⟨g, o, none⟩ 8 8 (wc xs) 49 (ys.map (Value.int .u32)) Tryd.underlying41 (by kernel_rfl) hB
    (by rw [List.length_map, hy]; subst hl; rcases hk with rfl | rfl <;> rfl)
    (fun j v hj => by
      have hj8 : j < 8 := by
        have := (List.getElem?_eq_some_iff.1 hj).1
        rw [List.length_map, hy] at this; exact this
      have hadd : (⟨g, o, none⟩ : Addr).add j = ⟨g, o + j, none⟩ := by unfold Addr.add; split <;> simp_all
      rw [hadd, hs j hj8]
      have hj2 : j < ys.length := by omega
      simp [hj2] at hj ⊢
      exact hj)
    (by rw [wc_size, List.length_map]; omega) (by
      intro v hv
      simp only [List.mem_map] at hv
      obtain ⟨y, _, rfl⟩ := hv
      rfl)
  rw [List.length_map, slice16, hy] at h
  rw [hr]
  exact h
def rowAt (i : Nat) : List Int := (rowsL.drop (16 * i)).take 16
theorem row_load (w : World) (t : TypeId) (fr : Nat × Nat) (h : w.heap[1]? = some (.cells (rc rowsL) t fr)) : (Instr.loadAt 51 (.pointer (some ⟨1, 0, none⟩))).run Tryd.prog w = .ok (.agg (rc rowsL)) w := by
  simp only [Instr.loadAt, Instr.sureAddr, Sem.run_bind, Sem.run_pure, Result.andThen_ok]
  exact run_loadVar_row w 1 t 51 (rc rowsL) fr _ h Tryd.underlying51 rfl (by kernel_rfl)
theorem row_i0 (w : World) : (Instr.index 51 (.agg (rc rowsL)) (.int .i64 0)).run Tryd.prog w = .ok (.agg (rc (rowAt 0))) w := by kernel_rfl
theorem row_i1 (w : World) : (Instr.index 51 (.agg (rc rowsL)) (.int .i64 1)).run Tryd.prog w = .ok (.agg (rc (rowAt 1))) w := by kernel_rfl
theorem row_i2 (w : World) : (Instr.index 51 (.agg (rc rowsL)) (.int .i64 2)).run Tryd.prog w = .ok (.agg (rc (rowAt 2))) w := by kernel_rfl
theorem row_i3 (w : World) : (Instr.index 51 (.agg (rc rowsL)) (.int .i64 3)).run Tryd.prog w = .ok (.agg (rc (rowAt 3))) w := by kernel_rfl
theorem row_i4 (w : World) : (Instr.index 51 (.agg (rc rowsL)) (.int .i64 4)).run Tryd.prog w = .ok (.agg (rc (rowAt 4))) w := by kernel_rfl
theorem row_i5 (w : World) : (Instr.index 51 (.agg (rc rowsL)) (.int .i64 5)).run Tryd.prog w = .ok (.agg (rc (rowAt 5))) w := by kernel_rfl
theorem row_i6 (w : World) : (Instr.index 51 (.agg (rc rowsL)) (.int .i64 6)).run Tryd.prog w = .ok (.agg (rc (rowAt 6))) w := by kernel_rfl
theorem row_i7 (w : World) : (Instr.index 51 (.agg (rc rowsL)) (.int .i64 7)).run Tryd.prog w = .ok (.agg (rc (rowAt 7))) w := by kernel_rfl
theorem row_i8 (w : World) : (Instr.index 51 (.agg (rc rowsL)) (.int .i64 8)).run Tryd.prog w = .ok (.agg (rc (rowAt 8))) w := by kernel_rfl
theorem row_i9 (w : World) : (Instr.index 51 (.agg (rc rowsL)) (.int .i64 9)).run Tryd.prog w = .ok (.agg (rc (rowAt 9))) w := by kernel_rfl
theorem row_index (w : World) (i : Nat) (hi : i < 10) : (Instr.index 51 (.agg (rc rowsL)) (.int .i64 i)).run Tryd.prog w = .ok (.agg (rc (rowAt i))) w := by
  match i, hi with
  | 0, _ => exact row_i0 w
  | 1, _ => exact row_i1 w
  | 2, _ => exact row_i2 w
  | 3, _ => exact row_i3 w
  | 4, _ => exact row_i4 w
  | 5, _ => exact row_i5 w
  | 6, _ => exact row_i6 w
  | 7, _ => exact row_i7 w
  | 8, _ => exact row_i8 w
  | 9, _ => exact row_i9 w
theorem row_store (w : World) (RI : Array Value) (h : RI.size = 16) (h1 : RI.all (·.oneCell') = true) : (storeCells ⟨w.heap.size, 0, none⟩ RI.toList 0).run Tryd.prog (w.alloc (.cells #[.int .i64 0, .int .i64 0, .int .i64 0, .int .i64 0, .int .i64 0, .int .i64 0, .int .i64 0, .int .i64 0, .int .i64 0, .int .i64 0, .int .i64 0, .int .i64 0, .int .i64 0, .int .i64 0, .int .i64 0, .int .i64 0] 50)) = .ok () (w.alloc (.cells RI 50)) :=
  run_storeCells_new w 50 _ RI (by rw [h]; kernel_rfl) (by rw [h]; rfl) h1
theorem rowAt_length (i : Nat) (h : i < 10) : (rowAt i).length = 16 := by
  rw [rowAt, List.length_take, List.length_drop, show rowsL.length = 160 from rfl]; omega
theorem rowsL_range : ∀ x ∈ rowsL, 0 ≤ x ∧ x < 16 := by decide +kernel
theorem rowAt_range (i k : Nat) : 0 ≤ (rowAt i).getD k 0 ∧ (rowAt i).getD k 0 < 16 := by
  rw [List.getD_eq_getElem?_getD]
  cases h : (rowAt i)[k]? with
  | none => exact ⟨Int.le_refl 0, by decide⟩
  | some x => exact rowsL_range x (List.mem_of_mem_drop (List.mem_of_mem_take (List.mem_of_getElem? h)))
theorem columnsP_length (xs ms rs : List Int) : (MixCol.columnsP xs ms rs).length = xs.length := by simp [MixCol.columnsP, sAdd, sRot, sSum]
theorem diagonalsP_length (xs ms rs : List Int) : (MixDia.diagonalsP xs ms rs).length = xs.length := by simp [MixDia.diagonalsP, sAdd, sRot, sSum]
/-- So many rounds. -/
def stirN (ms xs : List Int) : Nat → List Int
  | 0 => xs
  | i + 1 => MixDia.diagonalsP (MixCol.columnsP (stirN ms xs i) ms (rowAt i)) ms (rowAt i)
theorem stirN_length (ms xs : List Int) (i : Nat) : (stirN ms xs i).length = xs.length := by
  induction i with
  | zero => rfl
  | succ i ih => rw [stirN, diagonalsP_length, columnsP_length, ih]
def finV (hs xs : List Int) (i : Nat) : Int := Go.bits .xor .u32 (hs.getD i 0) (Go.bits .xor .u32 (xs.getD i 0) (xs.getD (i + 8) 0))
/-- So many numbers stored from a place on. -/
def putK (cs : Array Value) (o : Nat) (f : Nat → Int) : Nat → Array Value
  | 0 => cs
  | i + 1 => (putK cs o f i).setIfInBounds (o + i) (.int .u32 (f i))
theorem putK_get (cs : Array Value) (o : Nat) (f : Nat → Int) (i j : Nat) (h : i ≤ j) : (putK cs o f i)[o + j]? = cs[o + j]? := by
  induction i with
  | zero => rfl
  | succ i ih => rw [putK, Array.getElem?_setIfInBounds_ne (by omega), ih (by omega)]
/-- The eight numbers behind a block. -/
def blockL (hs : List Int) (s : ByteArray) (upto : Int) (last : Bool) : List Int := stirN (mP s s.size) (lastP last ((hs ++ firstsL).set 12 (Go.bits .xor .u32 ((hs ++ firstsL).getD 12 0) (upto % 4294967296)))) 10
def blockF (hs : List Int) (s : ByteArray) (upto : Int) (last : Bool) : Nat → Int := finV hs (blockL hs s upto last)
theorem upd_under {w0 W W' : World} {g : Nat} {o : Obj} (h : Upd W W' g o) (k : Below w0.heap.size w0 W) (hg : w0.heap.size ≤ g) : Below w0.heap.size w0 W' := ⟨h.os.trans k.os, h.tape.trans k.tape, h.output.trans k.output, Nat.le_trans k.size h.size, fun i hi => (h.rest i (Nat.lt_of_lt_of_le hi k.size) (by omega)).trans (k.block i hi)⟩
set_option maxHeartbeats 8000000 in
set_option maxRecDepth 100000 in
theorem block (g o : Nat) (cs : Array Value) (t : TypeId) (hs : List Int) (s : ByteArray) (upto : Int) (last : Bool) (w : World) (hV : Vars w)
    (hg : w.heap[g]? = some (.cells cs t (0, 0))) (hl : hs.length = 8) (hc : ∀ i, i < 8 → cs[o + i]? = some (.int .u32 (hs.getD i 0))) (hs64 : s.size ≤ 64) (hg2 : 2 ≤ g) :
    Calls Tryd.prog 19 #[.pointer (some ⟨g, o, none⟩), .string s, .int .i64 upto, .bool last] w fun e w' => e = .returned (.tuple #[]) ∧ Upd w w' g (.cells (putK cs o (blockF hs s upto last) 8) t (0, 0)) := by
  have hu := Tryd.underlying49
  have HV := Aside0.mk hV
  have HG := Aside0.mk hg
  have HC := Aside0.mk hc
  have HL := Aside0.mk hl
  have HS := Aside0.mk hs64
  clear hV hg hc hl hs64
  go_enter Tryd.func19, Tryd.ntmps19
  go_wp2_with fail
  have hZ : (w.alloc (.cells (Go.Proofs.YtflnlkaednpenaaDoor.MixW.wc (mP s 0)) 49)).heap[w.heap.size]? = some (.cells (Go.Proofs.YtflnlkaednpenaaDoor.MixW.wc (mP s 0)) 49 (0, 0)) := heap_alloc_new w _
  have HZ := Aside0.mk (Upd.refl hZ)
  clear hZ
  change Code.wp _ _ _ _ (w.alloc (.cells (Go.Proofs.YtflnlkaednpenaaDoor.MixW.wc (mP s 0)) 49))
  generalize hWa : w.alloc (.cells (Go.Proofs.YtflnlkaednpenaaDoor.MixW.wc (mP s 0)) 49) = Wa at HZ ⊢
  have HWa := Aside0.mk hWa
  clear hWa
  go_loopw [16] (fun v16 wr => ∃ i : Nat, i ≤ s.size ∧ v16 = .int .i64 i ∧ Aside0 (Upd Wa wr w.heap.size (.cells (Go.Proofs.YtflnlkaednpenaaDoor.MixW.wc (mP s i)) 49 (0, 0)))) (fun i _ => s.size - (intOf i).toNat)
  case atStart => exact ⟨0, by omega, rfl, HZ⟩
  case round =>
    clear HZ
    obtain ⟨i, hi, rfl, HJ⟩ := hrel
    by_cases hlt : i < s.size
    · have hs64 := HS.out
      have hq : i / 4 < 16 := by omega
      have hca := cellw HJ.out.here (i / 4) (by rw [mP_length]; omega)
      have hf := free_blk (j := i / 4) HJ.out.here
      have HJ2 := Aside0.mk (updrew (storew HJ.out (i / 4) (Go.bits .or .u32 ((mP s i).getD (i / 4) 0) (byteN s i % 4294967296 * 2 ^ (8 * (i % 4)) % 4294967296))))
      have hby := byteN_at s i hlt
      go_wp2_with fail
      go_region
      go_wp2_with fail
      refine ⟨⟨i + 1, by omega, by go_num, ⟨?_⟩⟩, by simp [intOf]; omega⟩
      have h := HJ2.out
      rw [← hby] at h
      rw [mP, ← hby]
      simpa using h
    · obtain rfl : i = s.size := by omega
      have hj := HJ.out
      rw [← HWa.out] at hj
      have hWs : w.heap.size < wr.heap.size := lt_of_blk hj.here
      have hB0 : Below w.heap.size w wr := ⟨hj.os, hj.tape, hj.output, by omega, fun i hi => (hj.rest i (by simp; omega) (by omega)).trans ((below_alloc (Below.refl w.heap.size w) _).block i hi)⟩
      have hA0 := hj.here
      have HMS := Aside0.mk (mP_length s s.size)
      obtain ⟨ms, hms0⟩ : ∃ x, x = mP s s.size := ⟨_, rfl⟩
      rw [← hms0] at hA0 HMS
      have HMP := Aside0.mk hms0
      clear hms0
      clear hj HJ HWa hlt hi
      go_upto_region 7 with (fail)
      have hA1 : (wr.alloc (.cells (Go.Proofs.YtflnlkaednpenaaDoor.MixW.wc (zeros 16)) 49)).heap[w.heap.size]? = _ := blk_alloc hA0 _
      have hB1 : Below w.heap.size w (wr.alloc (.cells (Go.Proofs.YtflnlkaednpenaaDoor.MixW.wc (zeros 16)) 49)) := below_alloc hB0 _
      have hX1 : (wr.alloc (.cells (Go.Proofs.YtflnlkaednpenaaDoor.MixW.wc (zeros 16)) 49)).heap[wr.heap.size]? = _ := heap_alloc_new wr _
      change Code.wp _ _ _ _ (wr.alloc (.cells (Go.Proofs.YtflnlkaednpenaaDoor.MixW.wc (zeros 16)) 49))
      generalize wr.alloc (.cells (Go.Proofs.YtflnlkaednpenaaDoor.MixW.wc (zeros 16)) 49) = W2 at *
      generalize wr.heap.size = B at *
      have hV2 := HV.out.below' hB1
      have hG2 := State.blk_below HG.out hB1
      have hs2 : ∀ i, i < 8 → W2.cell? ⟨g, o + i, none⟩ = some (.int .u32 (hs.getD i 0)) := fun i hi => (cell_blk hG2).trans (HC.out i hi)
      obtain ⟨r3, hr3⟩ : ∃ r, r = hs ++ zeros 8 := ⟨_, rfl⟩
      have hl3 : r3.length = 16 := by rw [hr3, List.length_append, HL.out]; rfl
      have hcp := copy16 W2.drew B 0 g o (zeros 16) hs hX1 rfl HL.out (.inl rfl) hs2 16 16 rfl r3 hr3
      have hU3 := Upd.row (updrew (Upd.refl hX1)) (wc r3)
      have HR3 := Aside0.mk hr3
      clear hr3
      clear hs2 hV2
      have HA1 := Aside0.mk hA1
      have HB1 := Aside0.mk hB1
      have HU3 := Aside0.mk hU3
      clear hA1 hB1 hU3 hG2 hX1 hA0 hB0
      go_region
      generalize W2.drew.setRow B (Go.Proofs.YtflnlkaednpenaaDoor.MixW.wc r3) = W3 at *
      have hU3 := HU3.out
      have hB3 : Below w.heap.size w W3 := ⟨hU3.os.trans HB1.out.os, hU3.tape.trans HB1.out.tape, hU3.output.trans HB1.out.output, Nat.le_trans HB1.out.size hU3.size, fun i hi => (hU3.rest i (Nat.lt_of_lt_of_le hi HB1.out.size) (by omega)).trans (HB1.out.block i hi)⟩
      have hA3 := hU3.other HA1.out (by omega)
      have hX3 := hU3.here
      clear hcp HU3 hU3 HA1 HB1
      have hV3 := HV.out.below' hB3
      obtain ⟨tf, fr, hf3⟩ := hV3.firsts
      have hs3 : ∀ i, i < 8 → W3.cell? ⟨0, 0 + i, none⟩ = some (.int .u32 (firstsL.getD i 0)) := fun i hi => by
        rw [Nat.zero_add, cell_of_row W3 0 i _ _ _ hf3, Go.Proofs.YtflnlkaednpenaaDoor.MixW.wc]
        have hf8 : i < firstsL.length := hi
        simp [hf8]
      obtain ⟨r4, hr4⟩ : ∃ r, r = hs ++ firstsL := ⟨_, rfl⟩
      have hl4 : r4.length = 16 := by rw [hr4, List.length_append, HL.out]; rfl
      have he4 : r4 = r3.take 8 ++ firstsL ++ r3.drop (8 + 8) := by
        rw [hr4, HR3.out, List.take_left' HL.out, List.drop_eq_nil_of_le (by rw [List.length_append, HL.out]; exact Nat.le_refl _), List.append_nil]
      have hcp := copy16 W3.drew B 8 0 0 r3 firstsL hX3 hl3 rfl (.inr rfl) hs3 8 8 rfl r4 he4
      have HR4 := Aside0.mk hr4
      clear hr4 he4
      have HU4 := Aside0.mk (Upd.row (updrew (Upd.refl hX3)) (wc r4))
      have HA3 := Aside0.mk hA3
      have HB3 := Aside0.mk hB3
      clear hV3 hf3 hs3 hX3 hB3 hA3
      go_upto_region 8 with (fail)
      go_region
      generalize W3.drew.setRow B (Go.Proofs.YtflnlkaednpenaaDoor.MixW.wc r4) = W4 at *
      have hU4 := HU4.out
      have hB4 : Below w.heap.size w W4 := ⟨hU4.os.trans HB3.out.os, hU4.tape.trans HB3.out.tape, hU4.output.trans HB3.out.output, Nat.le_trans HB3.out.size hU4.size, fun i hi => (hU4.rest i (Nat.lt_of_lt_of_le hi HB3.out.size) (by omega)).trans (HB3.out.block i hi)⟩
      have hA4 := hU4.other HA3.out (by omega)
      have hX4 := hU4.here
      clear hcp HU4 hU4 HA3 HB3
      have h12 := cellw hX4 12 (by omega)
      have hf12 := free_blk (j := 12) hX4
      have hf14 := free_blk (j := 14) hX4
      obtain ⟨r5, hr5⟩ : ∃ r, r = r4.set 12 (Go.bits .xor .u32 (r4.getD 12 0) (upto % 4294967296)) := ⟨_, rfl⟩
      have hl5 : r5.length = 16 := by rw [hr5, List.length_set, hl4]
      have HU5 := Aside0.mk (fun (v : Int) (hv : v = Go.bits .xor .u32 (r4.getD 12 0) (upto % 4294967296)) => (show Upd W4 (W4.setCell ⟨B, 12, none⟩ (.int .u32 v)) B (.cells (Go.Proofs.YtflnlkaednpenaaDoor.MixW.wc r5) 49 (0, 0)) by rw [hr5, ← hv]; exact storew (Upd.refl hX4) 12 v))
      have HR5 := Aside0.mk hr5
      have HA4 := Aside0.mk hA4
      have HB4 := Aside0.mk hB4
      clear hr5 hA4 hB4
      obtain ⟨y12, hy12⟩ : ∃ y, r4.getD 12 0 = y := ⟨_, rfl⟩
      rw [hy12] at h12 HU5 HR5
      have HY12 := Aside0.mk hy12
      clear hy12
      go_upto_if 48 with (fail)
      have hU5 := HU5.out _ rfl
      generalize W4.setCell ⟨B, 12, none⟩ (.int .u32 (Go.bits .xor .u32 y12 (upto % 4294967296))) = W5 at *
      have hB5 : Below w.heap.size w W5 := ⟨hU5.os.trans HB4.out.os, hU5.tape.trans HB4.out.tape, hU5.output.trans HB4.out.output, Nat.le_trans HB4.out.size hU5.size, fun i hi => (hU5.rest i (Nat.lt_of_lt_of_le hi HB4.out.size) (by omega)).trans (HB4.out.block i hi)⟩
      have hA5 := hU5.other HA4.out (by omega)
      have hX5 := hU5.here
      clear hU5 HU5 HA4 HB4 h12 hf12 hf14 hX4
      have HB5 := Aside0.mk hB5
      have HA5 := Aside0.mk hA5
      have HX5 := Aside0.mk hX5
      clear hB5 hA5 hX5
      go_cut [49] (fun v49 wx => Upd W5 wx B (.cells (Go.Proofs.YtflnlkaednpenaaDoor.MixW.wc (lastP last r5)) 49 (0, 0)))
      case first =>
        have h14 := cellw HX5.out 14 (by omega)
        have hf14 := free_blk (j := 14) HX5.out
        cases last
        · go_wp2_with fail
          go_meet
          case rel => exact Upd.refl HX5.out
        · have hl5' := hl5
          generalize hy : r5.getD 14 0 = y14 at h14
          go_wp2_with fail
          go_meet
          case rel =>
            rw [lastP, if_pos rfl, hy]
            exact storew (Upd.refl HX5.out) 14 _
      case rest =>
        have hU6 := hcut
        have hB6 : Below w.heap.size w wc := ⟨hU6.os.trans HB5.out.os, hU6.tape.trans HB5.out.tape, hU6.output.trans HB5.out.output, Nat.le_trans HB5.out.size hU6.size, fun i hi => (hU6.rest i (Nat.lt_of_lt_of_le hi HB5.out.size) (by omega)).trans (HB5.out.block i hi)⟩
        have HA6 := Aside0.mk (hU6.other HA5.out (by omega))
        have HX6 := Aside0.mk hU6.here
        have HB6 := Aside0.mk hB6
        have hl6 : (lastP last r5).length = 16 := by rw [lastP_length, hl5]
        have HR6 : Aside0 (lastP last r5 = lastP last ((hs ++ firstsL).set 12 (Go.bits .xor .u32 ((hs ++ firstsL).getD 12 0) (upto % 4294967296)))) := ⟨by rw [HR5.out, ← HY12.out, HR4.out]⟩
        generalize lastP last r5 = r6 at *
        obtain ⟨t1, fr1, hr1⟩ := (HV.out.below' hB6).rows
        have HRW := Aside0.mk hr1
        clear hcut hU6 hB6 HA5 HX5 HB5 hr1
        go_upto_region 12 with (fail)
        obtain ⟨RR, hRR⟩ : ∃ x, x = rc rowsL := ⟨_, rfl⟩
        have hrr := HRW.out
        rw [← hRR] at hrr
        have HRR := Aside0.mk hRR
        have HRW := Aside0.mk hrr
        have hz : RR.size = 160 := by rw [hRR, rc_size]; rfl
        have HZ := Aside0.mk hz
        clear hRR hrr hz
        go_wp2_with (refine wpList_load_row rfl 51 (Operand.global 1) rfl 1 rfl t1 RR fr1 _ HRW.out Tryd.underlying51 rfl (by rw [HZ.out]; kernel_rfl) ?_)
        have hms : ms.length = 16 := HMS.out
        have HA0 := HA6
        have HX0 := HX6
        have HB0 := HB6
        clear HA6 HX6 HB6
        go_loopw [54] (fun v54 wr => ∃ i : Nat, i ≤ 10 ∧ v54 = .int .i64 i ∧ Aside0 (Below w.heap.size w wr) ∧ Aside0 (wr.heap[w.heap.size]? = some (.cells (Go.Proofs.YtflnlkaednpenaaDoor.MixW.wc ms) 49 (0, 0))) ∧ Aside0 (wr.heap[B]? = some (.cells (Go.Proofs.YtflnlkaednpenaaDoor.MixW.wc (stirN ms r6 i)) 49 (0, 0)))) (fun i _ => 10 - (intOf i).toNat)
        case atStart => exact ⟨0, by omega, rfl, HB0, HA0, HX0⟩
        case round =>
          clear HB0 HA0 HX0 HRW
          obtain ⟨i, hi, rfl, HB, HA, HX⟩ := hrel
          by_cases hlt : i < 10
          · obtain ⟨RI, hRI⟩ : ∃ x, x = rc (rowAt i) := ⟨_, rfl⟩
            have hix := row_index wr i hlt
            rw [← HRR.out, ← hRI] at hix
            have hst := row_store wr RI (by rw [hRI, rc_size, rowAt_length i hlt]) (by rw [hRI]; exact rc_all _)
            have HRI := Aside0.mk hRI
            have hsz : RI.size = 16 := by rw [hRI, rc_size, rowAt_length i hlt]
            clear hRI
            go_wp2_with fail
            have hA := (State.blk_below HA.out (below_alloc (Below.refl _ wr) (.cells RI 50)))
            have hX := (State.blk_below HX.out (below_alloc (Below.refl _ wr) (.cells RI 50)))
            have hB := below_alloc HB.out (.cells RI 50)
            have hR := heap_alloc_new wr (.cells RI 50)
            have hlB := lt_of_blk HX.out
            have hlA := lt_of_blk HA.out
            generalize wr.alloc (.cells RI 50) = W7 at *
            generalize wr.heap.size = R at *
            rw [HRI.out] at hR
            have hl7 : (stirN ms r6 i).length = 16 := by rw [stirN_length, hl6]
            refine (MixCol.columns B w.heap.size R (stirN ms r6 i) ms (rowAt i) W7 hX hA hR hl7 hms (rowAt_length i hlt) (rowAt_range i) (by omega) (by omega)).mono ?_
            rintro e8 W8 ⟨rfl, hU8⟩
            have hA8 := hU8.other hA (by omega)
            have hR8 := hU8.other hR (by omega)
            have hB8 := upd_under hU8 hB (by omega)
            have hX8 := hU8.here
            have HA8 := Aside0.mk hA8
            have HR8 := Aside0.mk hR8
            have HB8 := Aside0.mk hB8
            have HX8 := Aside0.mk hX8
            clear hA hX hB hR hU8 hA8 hR8 hB8 hX8 hst hix
            go_wp2_with fail
            have hl8 : (MixCol.columnsP (stirN ms r6 i) ms (rowAt i)).length = 16 := by rw [columnsP_length, hl7]
            refine (MixDia.diagonals B w.heap.size R _ ms (rowAt i) W8 HX8.out HA8.out HR8.out hl8 hms (rowAt_length i hlt) (rowAt_range i) (by omega) (by omega)).mono ?_
            rintro e9 W9 ⟨rfl, hU9⟩
            have HA9 := Aside0.mk (hU9.other HA8.out (by omega))
            have HB9 := Aside0.mk (upd_under hU9 HB8.out (by omega))
            have HX9 := Aside0.mk hU9.here
            clear hU9 HA8 HB8 HX8 HR8
            go_wp2_with fail
            exact ⟨⟨i + 1, by omega, by go_num, HB9, HA9, HX9⟩, by simp [intOf]; omega⟩
          · obtain rfl : i = 10 := by omega
            go_upto_region 18 with (fail)
            have hl10 : (stirN ms r6 10).length = 16 := by rw [stirN_length, hl6]
            have HXE : Aside0 (blockF hs s upto last = finV hs (stirN ms r6 10)) := ⟨by rw [blockF, blockL, HMP.out, HR6.out]⟩
            generalize stirN ms r6 10 = x10 at *
            have hG := State.blk_below HG.out HB.out
            have HGU : Aside0 (Upd w wr g (.cells (putK cs o (finV hs x10) 0) t (0, 0))) := ⟨⟨HB.out.os, HB.out.tape, HB.out.output, HB.out.size, hG, fun i hi _ => HB.out.block i hi⟩⟩
            clear hG
            have HX0 := HX
            have hgB : g < w.heap.size := lt_of_blk HG.out
            clear HX HA HB
            obtain ⟨wo, rfl⟩ : ∃ wo : World, wo = wr := ⟨_, rfl⟩
            go_wp2_with fail
            go_loopw [60] (fun v60 wr => ∃ i : Nat, i ≤ 8 ∧ v60 = .int .i64 i ∧ Aside0 (Upd w wr g (.cells (putK cs o (finV hs x10) i) t (0, 0))) ∧ Aside0 (wr.heap[B]? = some (.cells (Go.Proofs.YtflnlkaednpenaaDoor.MixW.wc x10) 49 (0, 0)))) (fun i _ => 8 - (intOf i).toNat)
            case atStart => exact ⟨0, by omega, rfl, HGU, HX0⟩
            case round =>
              clear HGU HX0
              obtain ⟨i, hi, rfl, HGU, HX⟩ := hrel
              by_cases hlt : i < 8
              · have hc0 : wr.cell? ⟨g, o + i, none⟩ = some (.int .u32 (hs.getD i 0)) := (cell_blk HGU.out.here).trans ((putK_get cs o _ i i (Nat.le_refl _)).trans (HC.out i hlt))
                have hc1 := cellw HX.out i (by omega)
                have hc2 := cellw HX.out (i + 8) (by omega)
                have hf := free_blk (j := o + i) HGU.out.here
                have HN := Aside0.mk (updrew (HGU.out.store (j := o + i) (.int .u32 (finV hs x10 i))))
                have hui := Tryd.underlying31
                generalize hy0 : hs.getD i 0 = y0 at hc0
                generalize hy1 : x10.getD i 0 = y1 at hc1
                generalize hy2 : x10.getD (i + 8) 0 = y2 at hc2
                have HY := Aside0.mk (show finV hs x10 i = Go.bits .xor .u32 y0 (Go.bits .xor .u32 y1 y2) by rw [finV, hy0, hy1, hy2])
                clear hy0 hy1 hy2
                go_wp2_with fail
                have HF := Aside0.mk (Below.heap_setCell wr ⟨g, o + i, none⟩ (.int .u32 (Go.bits .xor .u32 y0 (Go.bits .xor .u32 y1 y2))) B (show ¬ (B = g) by omega))
                go_region
                go_wp2_with fail
                refine ⟨⟨i + 1, by omega, by go_num, ⟨?_⟩, ⟨HF.out.trans HX.out⟩⟩, by simp [intOf]; omega⟩
                have h := HN.out
                rw [HY.out] at h
                rw [putK, HY.out]
                exact h
              · obtain rfl : i = 8 := by omega
                go_wp2_with fail
                go_end0
                exact ⟨rfl, by rw [HXE.out]; exact HGU.out⟩
end Go.Proofs.YtflnlkaednpenaaDoor.MixB
