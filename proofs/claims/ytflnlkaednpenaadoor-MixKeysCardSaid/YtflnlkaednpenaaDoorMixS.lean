/- mix.Sum, Ready, Key.Sum, Keyed, Short walked. -/
import Derived.Test.YtflnlkaednpenaaDoorMixF
import Derived.Deep.DeepCutAuto
import Derived.Laws.Closers25

namespace Go.Proofs.YtflnlkaednpenaaDoor.MixS
open Go.RowKit Go.Proofs.YtflnlkaednpenaaDoorW.PrintWords Go.Proofs.YtflnlkaednpenaaDoor.State Go.Proofs.YtflnlkaednpenaaDoor.MixW Go.Proofs.YtflnlkaednpenaaDoor.MixV Go.Proofs.YtflnlkaednpenaaDoor.MixB Go.Proofs.YtflnlkaednpenaaDoor.MixF
set_option linter.unusedVariables false
set_option linter.unusedSimpArgs false
theorem begunP_length (k : Int) : (begunP k).length = 8 := by simp [begunP, firstsL]
def sumP (s : ByteArray) : ByteArray := finishP (begunP 0) s 0
set_option maxHeartbeats 1000000 in
theorem sum (s : ByteArray) (w : World) (hV : Vars w) (hsz : s.size ≤ 4611686018427387904) :
    Calls Tryd.prog 7 #[.string s] w fun e w' => e = .returned (.string (sumP s)) ∧ Below w.heap.size w w' := by
  have HB := Aside0.mk (Go.Proofs.YtflnlkaednpenaaDoor.MixV.begun 0 w hV)
  have HV := Aside0.mk hV
  have HZ := Aside0.mk hsz
  clear hV hsz
  go_enter Tryd.func7, Tryd.ntmps7
  go_wp2_with fail
  refine HB.out.mono ?_
  rintro e w1 ⟨rfl, hB1⟩
  have HV1 := Aside0.mk (HV.out.below' hB1)
  have HB1 := Aside0.mk hB1
  clear hB1 HB HV
  obtain ⟨hv, hhv⟩ : ∃ x, x = Go.Proofs.YtflnlkaednpenaaDoor.MixW.wc (begunP 0) := ⟨_, rfl⟩
  rw [← hhv]
  have HH := Aside0.mk hhv
  clear hhv
  go_wp2_with fail
  rw [HH.out]
  refine (Go.Proofs.YtflnlkaednpenaaDoor.MixF.finish (begunP 0) s 0 w1 HV1.out (begunP_length 0) HZ.out (by omega) (by omega)).mono ?_
  rintro e w2 ⟨rfl, hB2⟩
  have HB2 := Aside0.mk (below_then HB1.out HB1.out.size hB2)
  clear hB2
  go_wp2_with fail
  go_ret
  exact ⟨rfl, HB2.out⟩
theorem put9e (c0 c1 c2 c3 c4 c5 c6 c7 c8 v0 v1 v2 v3 v4 v5 v6 v7 v8 : Value) : (((((((((#[c0, c1, c2, c3, c4, c5, c6, c7, c8]).setIfInBounds 0 v0).setIfInBounds 1 v1).setIfInBounds 2 v2).setIfInBounds 3 v3).setIfInBounds 4 v4).setIfInBounds 5 v5).setIfInBounds 6 v6).setIfInBounds 7 v7).setIfInBounds 8 v8 = #[v0, v1, v2, v3, v4, v5, v6, v7, v8] := by simp
theorem put9 {W : World} {g t : Nat} {c0 c1 c2 c3 c4 c5 c6 c7 c8 : Value} (h : W.heap[g]? = some (.cells #[c0, c1, c2, c3, c4, c5, c6, c7, c8] t (0, 0))) (v0 v1 v2 v3 v4 v5 v6 v7 v8 : Value) :
    Upd W (((((((((W.setCell ⟨g, 0, none⟩ v0).setCell ⟨g, 1, none⟩ v1).setCell ⟨g, 2, none⟩ v2).setCell ⟨g, 3, none⟩ v3).setCell ⟨g, 4, none⟩ v4).setCell ⟨g, 5, none⟩ v5).setCell ⟨g, 6, none⟩ v6).setCell ⟨g, 7, none⟩ v7).setCell ⟨g, 8, none⟩ v8) g (.cells #[v0, v1, v2, v3, v4, v5, v6, v7, v8] t (0, 0)) := by
  rw [← put9e c0 c1 c2 c3 c4 c5 c6 c7 c8 v0 v1 v2 v3 v4 v5 v6 v7 v8]
  exact (((((((((Upd.refl h).store (j := 0) v0).store (j := 1) v1).store (j := 2) v2).store (j := 3) v3).store (j := 4) v4).store (j := 5) v5).store (j := 6) v6).store (j := 7) v7).store (j := 8) v8
theorem put8k (k : ByteArray) (ys : List Int) {f : Nat → Int} (h : (List.range 8).map f = ys) {x0 x1 x2 x3 x4 x5 x6 x7 : Int} : putK #[.string k, .int .u32 x0, .int .u32 x1, .int .u32 x2, .int .u32 x3, .int .u32 x4, .int .u32 x5, .int .u32 x6, .int .u32 x7] 1 f 8 = #[.string k] ++ wc ys := by
  subst h
  simp [putK, wc, List.range_succ]
theorem sumP_size (s : ByteArray) : (sumP s).size = 32 := by
  obtain ⟨a, b, c, d, e, f, g, i, h⟩ := eight (lastN (begunP 0) s 0) (blockN_length _ _ _ _)
  rw [sumP, finishP, h]; rfl
def shortK (key : ByteArray) : ByteArray := if 32 < key.size then sumP key else key
theorem shortK_size (key : ByteArray) : (shortK key).size ≤ 32 := by
  unfold shortK; split
  · rw [sumP_size]; exact Nat.le_refl _
  · omega
/-- The numbers behind a key that is not empty. -/
def readyH (k : ByteArray) : List Int := blockN (begunP k.size) k 64 false
def keyA (k : ByteArray) : Array Value := if k.size = 0 then #[.string k] ++ wc (begunP 0) else #[.string k] ++ wc (readyH k)
set_option maxHeartbeats 400000 in
set_option maxRecDepth 100000 in
theorem ready (key : ByteArray) (w : World) (hV : Vars w) (hsz : key.size ≤ 4611686018427387904) :
    Calls Tryd.prog 17 #[.string key] w fun e w' => e = .returned (.agg (keyA (shortK key))) ∧ Below w.heap.size w w' := by
  have HV := Aside0.mk hV
  have HZ := Aside0.mk hsz
  clear hV hsz
  go_enter Tryd.func17, Tryd.ntmps17
  go_upto_if 6 with fail
  have hB0 := below_alloc (Below.refl w.heap.size w) (.cells (#[.string ⟨#[]⟩] ++ Go.Proofs.YtflnlkaednpenaaDoor.MixW.wc (zeros 8)) 35)
  have hG0 := heap_alloc_new w (.cells (#[.string ⟨#[]⟩] ++ Go.Proofs.YtflnlkaednpenaaDoor.MixW.wc (zeros 8)) 35)
  change Code.wp _ _ _ _ (w.alloc (.cells (#[.string ⟨#[]⟩] ++ Go.Proofs.YtflnlkaednpenaaDoor.MixW.wc (zeros 8)) 35))
  generalize w.alloc (.cells (#[.string ⟨#[]⟩] ++ Go.Proofs.YtflnlkaednpenaaDoor.MixW.wc (zeros 8)) 35) = W0 at *
  have HB0 := Aside0.mk hB0
  have HG0 := Aside0.mk hG0
  clear hB0 hG0
  go_cut [0] (fun v0 wx => v0 = .string (shortK key) ∧ Aside0 (Below w.heap.size w wx) ∧ Aside0 (wx.heap[w.heap.size]? = some (.cells (#[.string ⟨#[]⟩] ++ Go.Proofs.YtflnlkaednpenaaDoor.MixW.wc (zeros 8)) 35 (0, 0))))
  case first =>
    by_cases hk : 32 < key.size
    · have hb : decide ((32 : Int) < (key.size : Int)) = true := decide_eq_true (by omega)
      go_wp2_with fail
      refine (sum key W0 (HV.out.below' HB0.out) HZ.out).mono ?_
      rintro e w1 ⟨rfl, hB1⟩
      have HB1 := Aside0.mk (below_then HB0.out HB0.out.size hB1)
      have HG1 := Aside0.mk (State.blk_below HG0.out hB1)
      clear hB1
      go_wp2_with fail
      go_meet
      case rel => exact ⟨by rw [shortK, if_pos hk], HB1, HG1⟩
    · have hb : decide ((32 : Int) < (key.size : Int)) = false := decide_eq_false (by omega)
      go_wp2_with fail
      go_meet
      case rel => exact ⟨by rw [shortK, if_neg hk], HB0, HG0⟩
  case rest =>
    obtain ⟨hv0, HB1, HG1⟩ := hcut
    clear HB0 HG0 HZ
    have hk32 := shortK_size key
    obtain ⟨k, hk⟩ : ∃ k, k = shortK key := ⟨_, rfl⟩
    rw [← hk] at hv0 hk32
    have HK := Aside0.mk hk
    clear hk
    subst hv0
    go_wp2_with fail
    refine (Go.Proofs.YtflnlkaednpenaaDoor.MixV.begun k.size wc (HV.out.below' HB1.out)).mono ?_
    rintro e w2 ⟨rfl, hB2⟩
    obtain ⟨x0, x1, x2, x3, x4, x5, x6, x7, hx⟩ := eight _ (begunP_length k.size)
    have hw : Go.Proofs.YtflnlkaednpenaaDoor.MixW.wc (begunP k.size) = #[.int .u32 x0, .int .u32 x1, .int .u32 x2, .int .u32 x3, .int .u32 x4, .int .u32 x5, .int .u32 x6, .int .u32 x7] := by rw [hx]; rfl
    rw [hw]
    have HX := Aside0.mk hx
    clear hw
    have HB2 := Aside0.mk (below_then HB1.out HB1.out.size hB2)
    have HG2 := Aside0.mk (State.blk_below HG1.out hB2)
    clear hx hB2 HB1 HG1
    go_upto_region 4 with fail
    have hK3 := heap_alloc_new w2 (.cells #[.string k, .int .u32 x0, .int .u32 x1, .int .u32 x2, .int .u32 x3, .int .u32 x4, .int .u32 x5, .int .u32 x6, .int .u32 x7] 35)
    have hG3 := State.blk_below HG2.out (below_alloc (Below.refl _ w2) (.cells #[.string k, .int .u32 x0, .int .u32 x1, .int .u32 x2, .int .u32 x3, .int .u32 x4, .int .u32 x5, .int .u32 x6, .int .u32 x7] 35))
    have hB3 := below_alloc HB2.out (.cells #[.string k, .int .u32 x0, .int .u32 x1, .int .u32 x2, .int .u32 x3, .int .u32 x4, .int .u32 x5, .int .u32 x6, .int .u32 x7] 35)
    have hlt := lt_of_blk HG2.out
    have h0 := HV.out.two
    generalize w2.alloc (.cells #[.string k, .int .u32 x0, .int .u32 x1, .int .u32 x2, .int .u32 x3, .int .u32 x4, .int .u32 x5, .int .u32 x6, .int .u32 x7] 35) = W3 at *
    generalize w2.heap.size = KB at *
    by_cases hk0 : k.size = 0
    · obtain rfl : k = ⟨#[]⟩ := by
        obtain ⟨⟨l⟩⟩ := k
        have : l.length = 0 := hk0
        rw [List.length_eq_zero_iff] at this
        subst this; rfl
      clear hk0 hk32
      have hz0 : W3.cell? ⟨w.heap.size, 0, none⟩ = some (.string ⟨#[]⟩) := (cell_blk hG3).trans rfl
      have hzf0 := free_blk (j := 0) hG3
      have hz1 : W3.cell? ⟨w.heap.size, 1, none⟩ = some (.int .u32 0) := (cell_blk hG3).trans rfl
      have hzf1 := free_blk (j := 1) hG3
      have hz2 : W3.cell? ⟨w.heap.size, 2, none⟩ = some (.int .u32 0) := (cell_blk hG3).trans rfl
      have hzf2 := free_blk (j := 2) hG3
      have hz3 : W3.cell? ⟨w.heap.size, 3, none⟩ = some (.int .u32 0) := (cell_blk hG3).trans rfl
      have hzf3 := free_blk (j := 3) hG3
      have hz4 : W3.cell? ⟨w.heap.size, 4, none⟩ = some (.int .u32 0) := (cell_blk hG3).trans rfl
      have hzf4 := free_blk (j := 4) hG3
      have hz5 : W3.cell? ⟨w.heap.size, 5, none⟩ = some (.int .u32 0) := (cell_blk hG3).trans rfl
      have hzf5 := free_blk (j := 5) hG3
      have hz6 : W3.cell? ⟨w.heap.size, 6, none⟩ = some (.int .u32 0) := (cell_blk hG3).trans rfl
      have hzf6 := free_blk (j := 6) hG3
      have hz7 : W3.cell? ⟨w.heap.size, 7, none⟩ = some (.int .u32 0) := (cell_blk hG3).trans rfl
      have hzf7 := free_blk (j := 7) hG3
      have hz8 : W3.cell? ⟨w.heap.size, 8, none⟩ = some (.int .u32 0) := (cell_blk hG3).trans rfl
      have hzf8 := free_blk (j := 8) hG3
      have hy0 : W3.cell? ⟨KB, 0, none⟩ = some (.string ⟨#[]⟩) := (cell_blk hK3).trans rfl
      have hy1 : W3.cell? ⟨KB, 1, none⟩ = some (.int .u32 x0) := (cell_blk hK3).trans rfl
      have hy2 : W3.cell? ⟨KB, 2, none⟩ = some (.int .u32 x1) := (cell_blk hK3).trans rfl
      have hy3 : W3.cell? ⟨KB, 3, none⟩ = some (.int .u32 x2) := (cell_blk hK3).trans rfl
      have hy4 : W3.cell? ⟨KB, 4, none⟩ = some (.int .u32 x3) := (cell_blk hK3).trans rfl
      have hy5 : W3.cell? ⟨KB, 5, none⟩ = some (.int .u32 x4) := (cell_blk hK3).trans rfl
      have hy6 : W3.cell? ⟨KB, 6, none⟩ = some (.int .u32 x5) := (cell_blk hK3).trans rfl
      have hy7 : W3.cell? ⟨KB, 7, none⟩ = some (.int .u32 x6) := (cell_blk hK3).trans rfl
      have hy8 : W3.cell? ⟨KB, 8, none⟩ = some (.int .u32 x7) := (cell_blk hK3).trans rfl
      go_wp2_with fail
      have hU := put9 hG3 (.string ⟨#[]⟩) (.int .u32 x0) (.int .u32 x1) (.int .u32 x2) (.int .u32 x3) (.int .u32 x4) (.int .u32 x5) (.int .u32 x6) (.int .u32 x7)
      have hB4 := upd_under hU hB3 (Nat.le_refl _)
      refine bodyPost_ret (results_cell_row rfl _ _ w.heap.size 35 #[.string ⟨#[]⟩, .int .u32 x0, .int .u32 x1, .int .u32 x2, .int .u32 x3, .int .u32 x4, .int .u32 x5, .int .u32 x6, .int .u32 x7] (0, 0) _ rfl hU.here Tryd.underlying35 rfl (by kernel_rfl)) rfl ?_
      refine ⟨?_, hB4⟩
      have e : keyA ⟨#[]⟩ = #[.string ⟨#[]⟩, .int .u32 x0, .int .u32 x1, .int .u32 x2, .int .u32 x3, .int .u32 x4, .int .u32 x5, .int .u32 x6, .int .u32 x7] := by
        have e2 : Go.Proofs.YtflnlkaednpenaaDoor.MixW.wc (begunP 0) = #[.int .u32 x0, .int .u32 x1, .int .u32 x2, .int .u32 x3, .int .u32 x4, .int .u32 x5, .int .u32 x6, .int .u32 x7] := by
          have h := HX.out
          rw [show (((⟨#[]⟩ : ByteArray).size : Nat) : Int) = 0 from rfl] at h
          rw [h]; rfl
        rw [keyA, if_pos (show (⟨#[]⟩ : ByteArray).size = 0 from rfl), e2]; rfl
      rw [← HK.out, e]
    · have hne : k.toList.isEmpty = false := by
        rw [← decide_eq_emptyBytes, decide_eq_false_iff_not]
        rintro rfl
        exact hk0 rfl
      go_wp2_with fail
      have hlx : ([x0, x1, x2, x3, x4, x5, x6, x7] : List Int).length = 8 := rfl
      refine (block KB 1 #[.string k, .int .u32 x0, .int .u32 x1, .int .u32 x2, .int .u32 x3, .int .u32 x4, .int .u32 x5, .int .u32 x6, .int .u32 x7] 35 [x0, x1, x2, x3, x4, x5, x6, x7] k 64 false W3 (HV.out.below' hB3) hK3 hlx (fun i hi => by
        match i, hi with
        | 0, _ => rfl
        | 1, _ => rfl
        | 2, _ => rfl
        | 3, _ => rfl
        | 4, _ => rfl
        | 5, _ => rfl
        | 6, _ => rfl
        | 7, _ => rfl) (by omega) (by omega)).mono ?_
      rintro e w4 ⟨rfl, hU4⟩
      have hb4 : blockN [x0, x1, x2, x3, x4, x5, x6, x7] k 64 false = readyH k := by rw [readyH, HX.out]
      have hlr : (readyH k).length = 8 := blockN_length _ _ _ _
      obtain ⟨y0, y1, y2, y3, y4, y5, y6, y7, hy⟩ := eight _ hlr
      rw [hy] at hb4
      have hK4 : w4.heap[KB]? = some (.cells #[.string k, .int .u32 y0, .int .u32 y1, .int .u32 y2, .int .u32 y3, .int .u32 y4, .int .u32 y5, .int .u32 y6, .int .u32 y7] 35 (0, 0)) := by
        have h := hU4.here
        rw [put8k _ _ hb4] at h
        exact h
      have hG4 := hU4.other hG3 (by omega)
      have hB4 := upd_under hU4 hB3 (by omega)
      have HY := Aside0.mk hy
      clear hU4 hK3 hG3 hB3 hb4 hy hlr hlx
      have hz0 : w4.cell? ⟨w.heap.size, 0, none⟩ = some (.string ⟨#[]⟩) := (cell_blk hG4).trans rfl
      have hzf0 := free_blk (j := 0) hG4
      have hz1 : w4.cell? ⟨w.heap.size, 1, none⟩ = some (.int .u32 0) := (cell_blk hG4).trans rfl
      have hzf1 := free_blk (j := 1) hG4
      have hz2 : w4.cell? ⟨w.heap.size, 2, none⟩ = some (.int .u32 0) := (cell_blk hG4).trans rfl
      have hzf2 := free_blk (j := 2) hG4
      have hz3 : w4.cell? ⟨w.heap.size, 3, none⟩ = some (.int .u32 0) := (cell_blk hG4).trans rfl
      have hzf3 := free_blk (j := 3) hG4
      have hz4 : w4.cell? ⟨w.heap.size, 4, none⟩ = some (.int .u32 0) := (cell_blk hG4).trans rfl
      have hzf4 := free_blk (j := 4) hG4
      have hz5 : w4.cell? ⟨w.heap.size, 5, none⟩ = some (.int .u32 0) := (cell_blk hG4).trans rfl
      have hzf5 := free_blk (j := 5) hG4
      have hz6 : w4.cell? ⟨w.heap.size, 6, none⟩ = some (.int .u32 0) := (cell_blk hG4).trans rfl
      have hzf6 := free_blk (j := 6) hG4
      have hz7 : w4.cell? ⟨w.heap.size, 7, none⟩ = some (.int .u32 0) := (cell_blk hG4).trans rfl
      have hzf7 := free_blk (j := 7) hG4
      have hz8 : w4.cell? ⟨w.heap.size, 8, none⟩ = some (.int .u32 0) := (cell_blk hG4).trans rfl
      have hzf8 := free_blk (j := 8) hG4
      have hy0 : w4.cell? ⟨KB, 0, none⟩ = some (.string k) := (cell_blk hK4).trans rfl
      have hy1 : w4.cell? ⟨KB, 1, none⟩ = some (.int .u32 y0) := (cell_blk hK4).trans rfl
      have hy2 : w4.cell? ⟨KB, 2, none⟩ = some (.int .u32 y1) := (cell_blk hK4).trans rfl
      have hy3 : w4.cell? ⟨KB, 3, none⟩ = some (.int .u32 y2) := (cell_blk hK4).trans rfl
      have hy4 : w4.cell? ⟨KB, 4, none⟩ = some (.int .u32 y3) := (cell_blk hK4).trans rfl
      have hy5 : w4.cell? ⟨KB, 5, none⟩ = some (.int .u32 y4) := (cell_blk hK4).trans rfl
      have hy6 : w4.cell? ⟨KB, 6, none⟩ = some (.int .u32 y5) := (cell_blk hK4).trans rfl
      have hy7 : w4.cell? ⟨KB, 7, none⟩ = some (.int .u32 y6) := (cell_blk hK4).trans rfl
      have hy8 : w4.cell? ⟨KB, 8, none⟩ = some (.int .u32 y7) := (cell_blk hK4).trans rfl
      go_wp2_with fail
      have hU := put9 hG4 (.string k) (.int .u32 y0) (.int .u32 y1) (.int .u32 y2) (.int .u32 y3) (.int .u32 y4) (.int .u32 y5) (.int .u32 y6) (.int .u32 y7)
      have hB5 := upd_under hU hB4 (Nat.le_refl _)
      refine bodyPost_ret (results_cell_row rfl _ _ w.heap.size 35 #[.string k, .int .u32 y0, .int .u32 y1, .int .u32 y2, .int .u32 y3, .int .u32 y4, .int .u32 y5, .int .u32 y6, .int .u32 y7] (0, 0) _ rfl hU.here Tryd.underlying35 rfl (by kernel_rfl)) rfl ?_
      refine ⟨?_, hB5⟩
      have e : keyA k = #[.string k, .int .u32 y0, .int .u32 y1, .int .u32 y2, .int .u32 y3, .int .u32 y4, .int .u32 y5, .int .u32 y6, .int .u32 y7] := by
        rw [keyA, if_neg hk0, HY.out]; rfl
      rw [← HK.out, e]
end Go.Proofs.YtflnlkaednpenaaDoor.MixS
