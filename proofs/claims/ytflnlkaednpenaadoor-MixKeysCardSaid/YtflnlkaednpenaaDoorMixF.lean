/- (mix.numbers).finish walked. -/
import Derived.Test.YtflnlkaednpenaaDoorMixB
import Derived.Laws.IdiomStrings
import Derived.Laws.Shifts
import Derived.Laws.DeepStrings4
import Derived.Laws.ShiftsVarLaws
namespace Go.Proofs.YtflnlkaednpenaaDoor.MixF
open Go.RowKit Go.Proofs.YtflnlkaednpenaaDoorW.PrintWords Go.Proofs.YtflnlkaednpenaaDoor.State Go.Proofs.YtflnlkaednpenaaDoor.MixW Go.Proofs.YtflnlkaednpenaaDoor.MixV Go.Proofs.YtflnlkaednpenaaDoor.MixB
set_option linter.unusedVariables false
set_option linter.unusedSimpArgs false
def blockN (hs : List Int) (s : ByteArray) (upto : Int) (last : Bool) : List Int := (List.range 8).map (blockF hs s upto last)
theorem blockN_length (hs : List Int) (s : ByteArray) (upto : Int) (last : Bool) : (blockN hs s upto last).length = 8 := by simp [blockN]
theorem eight (hs : List Int) (h : hs.length = 8) : ∃ a b c d e f g i, hs = [a, b, c, d, e, f, g, i] := by
  match hs, h with
  | [a, b, c, d, e, f, g, i], _ => exact ⟨a, b, c, d, e, f, g, i, rfl⟩
theorem put8 (hs : List Int) (h : hs.length = 8) (f : Nat → Int) : putK (wc hs) 0 f 8 = wc ((List.range 8).map f) := by
  obtain ⟨a, b, c, d, e, g, i, j, rfl⟩ := eight hs h
  simp [putK, wc, List.range_succ]
/-- So many whole blocks taken in. -/
def chainN (hs : List Int) (s : ByteArray) (done : Int) : Nat → List Int
  | 0 => hs
  | k + 1 => blockN (chainN hs s done k) (s.extract (64 * k) (64 * k + 64)) (done + 64 * k + 64) false
theorem chainN_length (hs : List Int) (s : ByteArray) (done : Int) (k : Nat) (h : hs.length = 8) : (chainN hs s done k).length = 8 := by
  cases k with
  | zero => exact h
  | succ k => exact blockN_length _ _ _ _
def u8 (x : Int) : UInt8 := UInt8.ofNat x.toNat
def fourB (x : Int) : List UInt8 := [u8 (x % 256), u8 (x / 256 % 256), u8 (x / 65536 % 256), u8 (x / 16777216 % 256)]
def digL (hs : List Int) : List UInt8 := hs.flatMap fourB
def digB (hs : List Int) : ByteArray := ⟨(digL hs).toArray⟩
/-- The numbers behind all. -/
def lastN (hs : List Int) (s : ByteArray) (done : Int) : List Int := blockN (chainN hs s done ((s.size - 1) / 64)) (s.extract (64 * ((s.size - 1) / 64)) s.size) (done + s.size) true
def finishP (hs : List Int) (s : ByteArray) (done : Int) : ByteArray := digB (lastN hs s done)
theorem idx0 (x0 x1 x2 x3 x4 x5 x6 x7 : Int) (W : World) : (Instr.index 31 (.agg #[.int .u32 x0, .int .u32 x1, .int .u32 x2, .int .u32 x3, .int .u32 x4, .int .u32 x5, .int .u32 x6, .int .u32 x7]) (.int .i64 0)).run Tryd.prog W = .ok (.int .u32 x0) W := by kernel_rfl
theorem idx1 (x0 x1 x2 x3 x4 x5 x6 x7 : Int) (W : World) : (Instr.index 31 (.agg #[.int .u32 x0, .int .u32 x1, .int .u32 x2, .int .u32 x3, .int .u32 x4, .int .u32 x5, .int .u32 x6, .int .u32 x7]) (.int .i64 1)).run Tryd.prog W = .ok (.int .u32 x1) W := by kernel_rfl
theorem idx2 (x0 x1 x2 x3 x4 x5 x6 x7 : Int) (W : World) : (Instr.index 31 (.agg #[.int .u32 x0, .int .u32 x1, .int .u32 x2, .int .u32 x3, .int .u32 x4, .int .u32 x5, .int .u32 x6, .int .u32 x7]) (.int .i64 2)).run Tryd.prog W = .ok (.int .u32 x2) W := by kernel_rfl
theorem idx3 (x0 x1 x2 x3 x4 x5 x6 x7 : Int) (W : World) : (Instr.index 31 (.agg #[.int .u32 x0, .int .u32 x1, .int .u32 x2, .int .u32 x3, .int .u32 x4, .int .u32 x5, .int .u32 x6, .int .u32 x7]) (.int .i64 3)).run Tryd.prog W = .ok (.int .u32 x3) W := by kernel_rfl
theorem idx4 (x0 x1 x2 x3 x4 x5 x6 x7 : Int) (W : World) : (Instr.index 31 (.agg #[.int .u32 x0, .int .u32 x1, .int .u32 x2, .int .u32 x3, .int .u32 x4, .int .u32 x5, .int .u32 x6, .int .u32 x7]) (.int .i64 4)).run Tryd.prog W = .ok (.int .u32 x4) W := by kernel_rfl
theorem idx5 (x0 x1 x2 x3 x4 x5 x6 x7 : Int) (W : World) : (Instr.index 31 (.agg #[.int .u32 x0, .int .u32 x1, .int .u32 x2, .int .u32 x3, .int .u32 x4, .int .u32 x5, .int .u32 x6, .int .u32 x7]) (.int .i64 5)).run Tryd.prog W = .ok (.int .u32 x5) W := by kernel_rfl
theorem idx6 (x0 x1 x2 x3 x4 x5 x6 x7 : Int) (W : World) : (Instr.index 31 (.agg #[.int .u32 x0, .int .u32 x1, .int .u32 x2, .int .u32 x3, .int .u32 x4, .int .u32 x5, .int .u32 x6, .int .u32 x7]) (.int .i64 6)).run Tryd.prog W = .ok (.int .u32 x6) W := by kernel_rfl
theorem idx7 (x0 x1 x2 x3 x4 x5 x6 x7 : Int) (W : World) : (Instr.index 31 (.agg #[.int .u32 x0, .int .u32 x1, .int .u32 x2, .int .u32 x3, .int .u32 x4, .int .u32 x5, .int .u32 x6, .int .u32 x7]) (.int .i64 7)).run Tryd.prog W = .ok (.int .u32 x7) W := by kernel_rfl
theorem u8_mod (x : Int) : ((u8 (x % 256)).toNat : Int) = x % 256 := by
  unfold u8
  rw [UInt8.toNat_ofNat']
  omega
theorem dig_conv (x0 x1 x2 x3 x4 x5 x6 x7 : Int) (W : World) :
    (convert 37 9 (.slice (some ⟨W.heap.size, 0, none⟩) 32 32)).run Tryd.prog (W.alloc (.cells #[.int .u8 (x0 % 256), .int .u8 (x0 / 256 % 256), .int .u8 (x0 / 65536 % 256), .int .u8 (x0 / 16777216 % 256), .int .u8 (x1 % 256), .int .u8 (x1 / 256 % 256), .int .u8 (x1 / 65536 % 256), .int .u8 (x1 / 16777216 % 256), .int .u8 (x2 % 256), .int .u8 (x2 / 256 % 256), .int .u8 (x2 / 65536 % 256), .int .u8 (x2 / 16777216 % 256), .int .u8 (x3 % 256), .int .u8 (x3 / 256 % 256), .int .u8 (x3 / 65536 % 256), .int .u8 (x3 / 16777216 % 256), .int .u8 (x4 % 256), .int .u8 (x4 / 256 % 256), .int .u8 (x4 / 65536 % 256), .int .u8 (x4 / 16777216 % 256), .int .u8 (x5 % 256), .int .u8 (x5 / 256 % 256), .int .u8 (x5 / 65536 % 256), .int .u8 (x5 / 16777216 % 256), .int .u8 (x6 % 256), .int .u8 (x6 / 256 % 256), .int .u8 (x6 / 65536 % 256), .int .u8 (x6 / 16777216 % 256), .int .u8 (x7 % 256), .int .u8 (x7 / 256 % 256), .int .u8 (x7 / 65536 % 256), .int .u8 (x7 / 16777216 % 256)] 39)) = .ok (.string (digB [x0, x1, x2, x3, x4, x5, x6, x7])) (W.alloc (.cells #[.int .u8 (x0 % 256), .int .u8 (x0 / 256 % 256), .int .u8 (x0 / 65536 % 256), .int .u8 (x0 / 16777216 % 256), .int .u8 (x1 % 256), .int .u8 (x1 / 256 % 256), .int .u8 (x1 / 65536 % 256), .int .u8 (x1 / 16777216 % 256), .int .u8 (x2 % 256), .int .u8 (x2 / 256 % 256), .int .u8 (x2 / 65536 % 256), .int .u8 (x2 / 16777216 % 256), .int .u8 (x3 % 256), .int .u8 (x3 / 256 % 256), .int .u8 (x3 / 65536 % 256), .int .u8 (x3 / 16777216 % 256), .int .u8 (x4 % 256), .int .u8 (x4 / 256 % 256), .int .u8 (x4 / 65536 % 256), .int .u8 (x4 / 16777216 % 256), .int .u8 (x5 % 256), .int .u8 (x5 / 256 % 256), .int .u8 (x5 / 65536 % 256), .int .u8 (x5 / 16777216 % 256), .int .u8 (x6 % 256), .int .u8 (x6 / 256 % 256), .int .u8 (x6 / 65536 % 256), .int .u8 (x6 / 16777216 % 256), .int .u8 (x7 % 256), .int .u8 (x7 / 256 % 256), .int .u8 (x7 / 65536 % 256), .int .u8 (x7 / 16777216 % 256)] 39)) := by
  refine run_convert_bytes_back (P := Tryd.prog) _ 37 9 5 ⟨W.heap.size, 0, none⟩ 32 (digL [x0, x1, x2, x3, x4, x5, x6, x7]) Tryd.underlying37 Tryd.underlying5 Tryd.underlying9 ?_
  intro j hj
  have hadd : (⟨W.heap.size, 0, none⟩ : Addr).add j = ⟨W.heap.size, j, none⟩ := by unfold Addr.add; split <;> simp_all
  rw [hadd, cell_blk (heap_alloc_new W _)]
  have e : (#[.int .u8 (x0 % 256), .int .u8 (x0 / 256 % 256), .int .u8 (x0 / 65536 % 256), .int .u8 (x0 / 16777216 % 256), .int .u8 (x1 % 256), .int .u8 (x1 / 256 % 256), .int .u8 (x1 / 65536 % 256), .int .u8 (x1 / 16777216 % 256), .int .u8 (x2 % 256), .int .u8 (x2 / 256 % 256), .int .u8 (x2 / 65536 % 256), .int .u8 (x2 / 16777216 % 256), .int .u8 (x3 % 256), .int .u8 (x3 / 256 % 256), .int .u8 (x3 / 65536 % 256), .int .u8 (x3 / 16777216 % 256), .int .u8 (x4 % 256), .int .u8 (x4 / 256 % 256), .int .u8 (x4 / 65536 % 256), .int .u8 (x4 / 16777216 % 256), .int .u8 (x5 % 256), .int .u8 (x5 / 256 % 256), .int .u8 (x5 / 65536 % 256), .int .u8 (x5 / 16777216 % 256), .int .u8 (x6 % 256), .int .u8 (x6 / 256 % 256), .int .u8 (x6 / 65536 % 256), .int .u8 (x6 / 16777216 % 256), .int .u8 (x7 % 256), .int .u8 (x7 / 256 % 256), .int .u8 (x7 / 65536 % 256), .int .u8 (x7 / 16777216 % 256)] : Array Value) = ((digL [x0, x1, x2, x3, x4, x5, x6, x7]).map fun b => Value.int .u8 (b.toNat : Int)).toArray := by
    simp only [digL, fourB, List.flatMap_cons, List.flatMap_nil, List.cons_append, List.nil_append, List.append_nil, List.map_cons, List.map_nil, u8_mod]
  rw [e]
  simp [hj]
theorem cut_at (W : World) (s : ByteArray) (k : Nat) (h : 64 * k + 64 ≤ s.size) : (Instr.slice 9 (.string s) (some (.int .i64 (64 * (k : Int)))) (some (.int .i64 (64 * (k : Int) + 64))) none).run Tryd.prog W = .ok (.string (s.extract (64 * k) (64 * k + 64))) W := by
  have := run_slice_string_if (P := Tryd.prog) W 9 s .i64 .i64 (64 * (k : Int)) (64 * (k : Int) + 64) Tryd.underlying9
  rw [this, if_pos (by omega), if_pos (by omega), show (64 * (k : Int)).toNat = 64 * k by omega, show (64 * (k : Int) + 64).toNat = 64 * k + 64 by omega]
set_option maxHeartbeats 8000000 in
set_option maxRecDepth 100000 in
theorem finish (hs : List Int) (s : ByteArray) (done : Int) (w : World) (hV : Vars w) (hl : hs.length = 8) (hsz : s.size ≤ 4611686018427387904) (hd0 : 0 ≤ done) (hd1 : done ≤ 64) :
    Calls Tryd.prog 15 #[.agg (wc hs), .string s, .int .i64 done] w fun e w' => e = .returned (.string (finishP hs s done)) ∧ Below w.heap.size w w' := by
  have hu := Tryd.underlying31
  have HV := Aside0.mk hV
  have HL := Aside0.mk hl
  clear hV hl
  obtain ⟨hv, hhv⟩ : ∃ x, x = Go.Proofs.YtflnlkaednpenaaDoor.MixW.wc hs := ⟨_, rfl⟩
  rw [← hhv]
  have HH := Aside0.mk hhv
  clear hhv
  go_enter Tryd.func15, Tryd.ntmps15
  go_wp2_with fail
  have hH0 := heap_alloc_new w (.cells hv 31)
  have hB0 := below_alloc (Below.refl w.heap.size w) (.cells hv 31)
  generalize w.alloc (.cells hv 31) = W0 at hH0 hB0 ⊢
  rw [HH.out] at hH0
  have HB0 := Aside0.mk hB0
  have HH0 := Aside0.mk hH0
  clear hH0 hB0
  go_loopw [7] (fun v7 wr => ∃ k : Nat, 64 * k ≤ s.size ∧ (k = 0 ∨ 64 * k < s.size) ∧ v7 = .int .i64 (64 * (k : Int)) ∧ Aside0 (Below w.heap.size w wr) ∧ Aside0 (wr.heap[w.heap.size]? = some (.cells (Go.Proofs.YtflnlkaednpenaaDoor.MixW.wc (chainN hs s done k)) 31 (0, 0)))) (fun v _ => s.size - (intOf v).toNat)
  case atStart => exact ⟨0, by omega, .inl rfl, by rfl, HB0, HH0⟩
  case round =>
    clear HB0 HH0
    obtain ⟨k, hk, hk0, rfl, HB, HX⟩ := hrel
    by_cases hlt : 64 * k + 64 < s.size
    · have hb : decide ((64 : Int) < (s.size : Int) - 64 * (k : Int)) = true := decide_eq_true (by omega)
      have hcut := cut_at wr s k (by omega)
      go_wp2_with fail
      have h := HX.out
      have hl := chainN_length hs s done k HL.out
      have hc : ∀ i, i < 8 → (Go.Proofs.YtflnlkaednpenaaDoor.MixW.wc (chainN hs s done k))[0 + i]? = some (.int .u32 ((chainN hs s done k).getD i 0)) := fun i hi => by
        have hi2 : i < (chainN hs s done k).length := by omega
        rw [Nat.zero_add]; simp [Go.Proofs.YtflnlkaednpenaaDoor.MixW.wc, hi2]
      have hgz : 2 ≤ w.heap.size := HV.out.two
      refine (block w.heap.size 0 _ 31 (chainN hs s done k) (s.extract (64 * k) (64 * k + 64)) (done + 64 * k + 64) false wr (HV.out.below' HB.out) h hl hc (by simp; omega) hgz).mono ?_
      rintro e w2 ⟨rfl, hU⟩
      have HB2 := Aside0.mk (upd_under hU HB.out (Nat.le_refl _))
      have hX2 := hU.here
      rw [put8 _ hl] at hX2
      have HX2 := Aside0.mk hX2
      clear hU hX2 h hc hcut HB HX
      go_wp2_with fail
      exact ⟨⟨k + 1, by omega, .inr (by omega), by go_num, HB2, HX2⟩, by simp [intOf]; omega⟩
    · have hb : decide ((64 : Int) < (s.size : Int) - 64 * (k : Int)) = false := decide_eq_false (by omega)
      go_wp2_with fail
      obtain rfl : k = (s.size - 1) / 64 := by omega
      have hKe : lastN hs s done = blockN (chainN hs s done ((s.size - 1) / 64)) (s.extract (64 * ((s.size - 1) / 64)) s.size) (done + s.size) true := rfl
      generalize (s.size - 1) / 64 = k at *
      have h := HX.out
      have hl := chainN_length hs s done k HL.out
      have hc : ∀ i, i < 8 → (Go.Proofs.YtflnlkaednpenaaDoor.MixW.wc (chainN hs s done k))[0 + i]? = some (.int .u32 ((chainN hs s done k).getD i 0)) := fun i hi => by
        have hi2 : i < (chainN hs s done k).length := by omega
        rw [Nat.zero_add]; simp [Go.Proofs.YtflnlkaednpenaaDoor.MixW.wc, hi2]
      have hgz : 2 ≤ w.heap.size := HV.out.two
      refine (block w.heap.size 0 _ 31 (chainN hs s done k) (s.extract (64 * k) s.size) (done + s.size) true wr (HV.out.below' HB.out) h hl hc (by simp; omega) hgz).mono ?_
      rintro e w2 ⟨rfl, hU⟩
      have hB2 := (upd_under hU HB.out (Nat.le_refl _))
      have hX2 := hU.here
      rw [put8 _ hl, ← blockN, ← hKe] at hX2
      clear hU h hc HB HX
      have hlN : (lastN hs s done).length = 8 := blockN_length _ _ _ _
      obtain ⟨x0, x1, x2, x3, x4, x5, x6, x7, hx⟩ := eight _ hlN
      rw [hx] at hX2
      have HE := Aside0.mk hx
      clear hx hlN hKe
      have hc0 : ∀ o, (w2.alloc o).cell? ⟨w.heap.size, 0, none⟩ = some (.int .u32 x0) := fun o => by rw [World.cell?_alloc_lt w2 o ⟨w.heap.size, 0, none⟩ (lt_of_blk hX2), cell_blk hX2]; rfl
      have hc1 : ∀ o, (w2.alloc o).cell? ⟨w.heap.size, 1, none⟩ = some (.int .u32 x1) := fun o => by rw [World.cell?_alloc_lt w2 o ⟨w.heap.size, 1, none⟩ (lt_of_blk hX2), cell_blk hX2]; rfl
      have hc2 : ∀ o, (w2.alloc o).cell? ⟨w.heap.size, 2, none⟩ = some (.int .u32 x2) := fun o => by rw [World.cell?_alloc_lt w2 o ⟨w.heap.size, 2, none⟩ (lt_of_blk hX2), cell_blk hX2]; rfl
      have hc3 : ∀ o, (w2.alloc o).cell? ⟨w.heap.size, 3, none⟩ = some (.int .u32 x3) := fun o => by rw [World.cell?_alloc_lt w2 o ⟨w.heap.size, 3, none⟩ (lt_of_blk hX2), cell_blk hX2]; rfl
      have hc4 : ∀ o, (w2.alloc o).cell? ⟨w.heap.size, 4, none⟩ = some (.int .u32 x4) := fun o => by rw [World.cell?_alloc_lt w2 o ⟨w.heap.size, 4, none⟩ (lt_of_blk hX2), cell_blk hX2]; rfl
      have hc5 : ∀ o, (w2.alloc o).cell? ⟨w.heap.size, 5, none⟩ = some (.int .u32 x5) := fun o => by rw [World.cell?_alloc_lt w2 o ⟨w.heap.size, 5, none⟩ (lt_of_blk hX2), cell_blk hX2]; rfl
      have hc6 : ∀ o, (w2.alloc o).cell? ⟨w.heap.size, 6, none⟩ = some (.int .u32 x6) := fun o => by rw [World.cell?_alloc_lt w2 o ⟨w.heap.size, 6, none⟩ (lt_of_blk hX2), cell_blk hX2]; rfl
      have hc7 : ∀ o, (w2.alloc o).cell? ⟨w.heap.size, 7, none⟩ = some (.int .u32 x7) := fun o => by rw [World.cell?_alloc_lt w2 o ⟨w.heap.size, 7, none⟩ (lt_of_blk hX2), cell_blk hX2]; rfl
      have HB2 := Aside0.mk hB2
      clear hB2 hX2
      go_wp2_with fail
      clear hc0 hc1 hc2 hc3 hc4 hc5 hc6 hc7
      have hi0 := idx0 x0 x1 x2 x3 x4 x5 x6 x7
      have hi1 := idx1 x0 x1 x2 x3 x4 x5 x6 x7
      have hi2 := idx2 x0 x1 x2 x3 x4 x5 x6 x7
      have hi3 := idx3 x0 x1 x2 x3 x4 x5 x6 x7
      have hi4 := idx4 x0 x1 x2 x3 x4 x5 x6 x7
      have hi5 := idx5 x0 x1 x2 x3 x4 x5 x6 x7
      have hi6 := idx6 x0 x1 x2 x3 x4 x5 x6 x7
      have hi7 := idx7 x0 x1 x2 x3 x4 x5 x6 x7
      have hcv := dig_conv x0 x1 x2 x3 x4 x5 x6 x7 w2
      refine wp_loop_rounds 9 ?_
      iterate 9 (rw [rounds_succ]; go_wp2_with fail)
      go_ret
      refine ⟨?_, below_alloc HB2.out _⟩
      rw [finishP, HE.out]; rfl
end Go.Proofs.YtflnlkaednpenaaDoor.MixF
