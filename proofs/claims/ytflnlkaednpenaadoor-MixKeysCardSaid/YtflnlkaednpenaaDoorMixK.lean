/- (mix.Key).Sum, mix.Keyed, mix.Short walked. -/
import Derived.Test.YtflnlkaednpenaaDoorMixS
import Derived.Test.YtflnlkaednpenaaDoorRepeatR
import Derived.Test.YtflnlkaednpenaaDoorMixL
import Derived.Deep.CondSized
namespace Go.Proofs.YtflnlkaednpenaaDoor.MixK
open Go.RowKit Go.Proofs.YtflnlkaednpenaaDoorW.PrintWords Go.Proofs.YtflnlkaednpenaaDoor.State Go.Proofs.YtflnlkaednpenaaDoor.MixW Go.Proofs.YtflnlkaednpenaaDoor.MixV Go.Proofs.YtflnlkaednpenaaDoor.MixB Go.Proofs.YtflnlkaednpenaaDoor.MixF Go.Proofs.YtflnlkaednpenaaDoor.MixS
set_option linter.unusedVariables false
set_option linter.unusedSimpArgs false
/-- As many zero bytes as a short key wants. -/
def padB (k : ByteArray) : ByteArray := ⟨(Lib.repeatL [0] (64 - (k.size : Int)).toNat).toArray⟩
/-- A text's digest under a key that is no longer than 32 bytes. -/
def ksumP (k s : ByteArray) : ByteArray := if k.size = 0 then sumP s else if s.size = 0 then finishP (begunP k.size) (k ++ padB k) 0 else finishP (readyH k) s 64
theorem repeatL_length (l : List UInt8) (n : Nat) : (Lib.repeatL l n).length = n * l.length := by
  induction n with
  | zero => simp [Lib.repeatL]
  | succ n ih => simp [Lib.repeatL, ih]; rw [Nat.succ_mul, Nat.add_comm]
theorem nil_of (k : ByteArray) (h : k.size = 0) : k = ⟨#[]⟩ := by
  obtain ⟨⟨l⟩⟩ := k
  have : l.length = 0 := h
  rw [List.length_eq_zero_iff] at this
  subst this; rfl
theorem isEmpty_of (k : ByteArray) (h : ¬ k.size = 0) : k.toList.isEmpty = false := by
  rw [← decide_eq_emptyBytes, decide_eq_false_iff_not]
  rintro rfl
  exact h rfl
theorem bt {w w1 w2 : World} (h : Below w.heap.size w w1) (k : Below w1.heap.size w1 w2) : Below w.heap.size w w2 := below_then h h.size k
theorem keyA_cells (k : ByteArray) : ∃ ys : List Int, ys.length = 8 ∧ keyA k = #[.string k] ++ wc ys ∧ (¬ k.size = 0 → ys = readyH k) := by
  by_cases h : k.size = 0
  · exact ⟨begunP 0, begunP_length 0, by rw [keyA, if_pos h], fun h2 => absurd h h2⟩
  · exact ⟨readyH k, blockN_length _ _ _ _, by rw [keyA, if_neg h], fun _ => rfl⟩
set_option maxHeartbeats 400000 in
set_option maxRecDepth 100000 in
theorem keySum (k s : ByteArray) (w : World) (hV : Vars w) (hk : k.size ≤ 32) (hs : s.size ≤ 4611686018427387904) :
    Calls Tryd.prog 18 #[.agg (keyA k), .string s] w fun e w' => e = .returned (.string (ksumP k s)) ∧ Below w.heap.size w w' := by
  obtain ⟨ys, hl, he, hr⟩ := keyA_cells k
  obtain ⟨x0, x1, x2, x3, x4, x5, x6, x7, rfl⟩ := eight ys hl
  have he2 : keyA k = #[.string k, .int .u32 x0, .int .u32 x1, .int .u32 x2, .int .u32 x3, .int .u32 x4, .int .u32 x5, .int .u32 x6, .int .u32 x7] := he
  rw [he2]
  have HV := Aside0.mk hV
  have HR := Aside0.mk hr
  have HZ := Aside0.mk hs
  clear hV he he2 hr hl hs
  go_enter Tryd.func18, Tryd.ntmps18
  go_upto_region 1 with fail
  have hB0 := below_alloc (Below.refl w.heap.size w) (.cells #[.string k, .int .u32 x0, .int .u32 x1, .int .u32 x2, .int .u32 x3, .int .u32 x4, .int .u32 x5, .int .u32 x6, .int .u32 x7] 35)
  have hG0 := heap_alloc_new w (.cells #[.string k, .int .u32 x0, .int .u32 x1, .int .u32 x2, .int .u32 x3, .int .u32 x4, .int .u32 x5, .int .u32 x6, .int .u32 x7] 35)
  generalize w.alloc (.cells #[.string k, .int .u32 x0, .int .u32 x1, .int .u32 x2, .int .u32 x3, .int .u32 x4, .int .u32 x5, .int .u32 x6, .int .u32 x7] 35) = W0 at *
  have hy0 : W0.cell? ⟨w.heap.size, 0, none⟩ = some (.string k) := (cell_blk hG0).trans rfl
  have hy1 : W0.cell? ⟨w.heap.size, 1, none⟩ = some (.int .u32 x0) := (cell_blk hG0).trans rfl
  have hy2 : W0.cell? ⟨w.heap.size, 2, none⟩ = some (.int .u32 x1) := (cell_blk hG0).trans rfl
  have hy3 : W0.cell? ⟨w.heap.size, 3, none⟩ = some (.int .u32 x2) := (cell_blk hG0).trans rfl
  have hy4 : W0.cell? ⟨w.heap.size, 4, none⟩ = some (.int .u32 x3) := (cell_blk hG0).trans rfl
  have hy5 : W0.cell? ⟨w.heap.size, 5, none⟩ = some (.int .u32 x4) := (cell_blk hG0).trans rfl
  have hy6 : W0.cell? ⟨w.heap.size, 6, none⟩ = some (.int .u32 x5) := (cell_blk hG0).trans rfl
  have hy7 : W0.cell? ⟨w.heap.size, 7, none⟩ = some (.int .u32 x6) := (cell_blk hG0).trans rfl
  have hy8 : W0.cell? ⟨w.heap.size, 8, none⟩ = some (.int .u32 x7) := (cell_blk hG0).trans rfl
  have HB0 := Aside0.mk hB0
  have HG0 := Aside0.mk hG0
  clear hB0 hG0
  by_cases hk0 : k.size = 0
  · obtain rfl := nil_of k hk0
    clear hk0 hk
    go_wp2_with fail
    refine (sum s W0 (HV.out.below' HB0.out) HZ.out).mono ?_
    rintro e w1 ⟨rfl, hB1⟩
    have HB1 := Aside0.mk (bt HB0.out hB1)
    clear hB1
    go_wp2_with fail
    go_ret
    exact ⟨rfl, HB1.out⟩
  · have hne := isEmpty_of k hk0
    have hrr := HR.out hk0
    by_cases hs0 : s.size = 0
    · obtain rfl := nil_of s hs0
      clear hs0
      have HP : Aside0 (∀ W, Calls Tryd.prog 24 #[.string ⟨#[0]⟩, .int .i64 (64 - (k.size : Int))] W fun e w' => e = .returned (.string (padB k)) ∧ Below W.heap.size W w') :=
        ⟨fun W => RepeatR.strings_Repeat.calls ⟨#[0]⟩ (64 - (k.size : Int)) (padB k) W (by rw [RepeatR.strings_Repeat.f, if_pos ⟨by omega, by omega, by decide⟩]; rfl)⟩
      have hpz : (padB k).size = 64 - k.size := by
        rw [padB]
        show (Lib.repeatL [0] (64 - (k.size : Int)).toNat).length = _
        rw [repeatL_length]
        simp
      have HF : Aside0 (∀ W, Vars W → Calls Tryd.prog 15 #[.agg (Go.Proofs.YtflnlkaednpenaaDoor.MixW.wc (begunP k.size)), .string (k ++ padB k), .int .i64 0] W fun e w' => e = .returned (.string (finishP (begunP k.size) (k ++ padB k) 0)) ∧ Below W.heap.size W w') :=
        ⟨fun W hW => Go.Proofs.YtflnlkaednpenaaDoor.MixF.finish (begunP k.size) (k ++ padB k) 0 W hW (begunP_length _) (by rw [ByteArray.size_append, hpz]; omega) (by omega) (by omega)⟩
      have HBG : Aside0 (∀ W, Vars W → Calls Tryd.prog 14 #[.int .i64 k.size] W fun e w' => e = .returned (.agg (Go.Proofs.YtflnlkaednpenaaDoor.MixW.wc (begunP k.size))) ∧ Below W.heap.size W w') := ⟨fun W hW => Go.Proofs.YtflnlkaednpenaaDoor.MixV.begun k.size W hW⟩
      have HE : Aside0 (ksumP k ⟨#[]⟩ = finishP (begunP k.size) (k ++ padB k) 0) := ⟨by rw [ksumP, if_neg hk0, if_pos (show (⟨#[]⟩ : ByteArray).size = 0 from rfl)]⟩
      generalize finishP (begunP k.size) (k ++ padB k) 0 = res at *
      generalize Go.Proofs.YtflnlkaednpenaaDoor.MixW.wc (begunP k.size) = hv at *
      generalize padB k = pad at *
      have HQ : Aside0 (∀ W, Below W0.heap.size W0 W → W.cell? ⟨w.heap.size, 0, none⟩ = some (.string k)) := ⟨fun W h => (cell_blk (State.blk_below HG0.out h)).trans rfl⟩
      have HVW : Aside0 (∀ W, Below W0.heap.size W0 W → Vars W) := ⟨fun W h => (HV.out.below' HB0.out).below' h⟩
      clear hy1 hy2 hy3 hy4 hy5 hy6 hy7 hy8
      go_upto_region 4 with fail
      refine MixL.step_k w.heap.size k pad res hv (fun W => Below W0.heap.size W0 W) ⟨rfl, rfl, rfl, rfl⟩ hk (by omega) HQ.out (fun W h => (HBG.out W (HVW.out W h)).mono fun e w2 hh => ⟨hh.1, bt h hh.2⟩) (fun W h => (HP.out W).mono fun e w2 hh => ⟨hh.1, bt h hh.2⟩) (fun W h => (HF.out W (HVW.out W h)).mono fun e w2 hh => ⟨hh.1, bt h hh.2⟩) rfl rfl rfl (below_drew1 (Below.refl _ _)) ?_
      intro a9 w9 hd9 h49 hB9
      refine (‹∀ (a : Act) (w : World), Code.wp Tryd.prog Code.ret _ a w → _› a9 w9 ?_)
      refine wp_ret ?_
      simp only [Exit.inBlock, Exit.then]
      refine bodyPost_ret (results_tmp rfl _ _ _) hd9 ⟨?_, bt HB0.out hB9⟩
      rw [h49, HE.out]
    · have hse := isEmpty_of s hs0
      go_wp2_with fail
      have hf := Go.Proofs.YtflnlkaednpenaaDoor.MixF.finish (readyH k) s 64 W0 (HV.out.below' HB0.out) (blockN_length _ _ _ _) HZ.out (by omega) (by omega)
      rw [← hrr] at hf
      refine hf.mono ?_
      rintro e w1 ⟨rfl, hB1⟩
      have HB1 := Aside0.mk (bt HB0.out hB1)
      clear hB1 hf
      go_wp2_with fail
      go_ret
      refine ⟨?_, HB1.out⟩
      rw [ksumP, if_neg hk0, if_neg hs0, ← hrr]
      rfl
/-- A text's digest under a key. -/
def keyedP (key s : ByteArray) : ByteArray := ksumP (shortK key) s
theorem digB_size (hs : List Int) (h : hs.length = 8) : (digB hs).size = 32 := by
  obtain ⟨a, b, c, d, e, f, g, i, rfl⟩ := eight hs h
  rfl
theorem finishP_size (hs : List Int) (s : ByteArray) (d : Int) : (finishP hs s d).size = 32 := digB_size _ (blockN_length _ _ _ _)
theorem ksumP_size (k s : ByteArray) : (ksumP k s).size = 32 := by
  unfold ksumP; split
  · exact sumP_size s
  · split <;> exact finishP_size _ _ _
theorem keyedP_size (key s : ByteArray) : (keyedP key s).size = 32 := ksumP_size _ _
set_option maxHeartbeats 1000000 in
theorem keyed (key s : ByteArray) (w : World) (hV : Vars w) (hk : key.size ≤ 4611686018427387904) (hs : s.size ≤ 4611686018427387904) :
    Calls Tryd.prog 9 #[.string key, .string s] w fun e w' => e = .returned (.string (keyedP key s)) ∧ Below w.heap.size w w' := by
  have HRD := Aside0.mk (ready key w hV hk)
  have HKS := Aside0.mk (fun (W : World) (h : Vars W) => keySum (shortK key) s W h (shortK_size key) hs)
  have HV := Aside0.mk hV
  have HE : Aside0 (keyedP key s = ksumP (shortK key) s) := ⟨rfl⟩
  generalize keyedP key s = res at *
  generalize keyA (shortK key) = ka at *
  clear hV hk hs
  go_enter Tryd.func9, Tryd.ntmps9
  go_wp2_with fail
  refine HRD.out.mono ?_
  rintro e w1 ⟨rfl, hB1⟩
  have HV1 := Aside0.mk (HV.out.below' hB1)
  have HB1 := Aside0.mk hB1
  clear hB1
  go_wp2_with fail
  refine (HKS.out w1 HV1.out).mono ?_
  rintro e w2 ⟨rfl, hB2⟩
  have HB2 := Aside0.mk (bt HB1.out hB2)
  clear hB2
  go_wp2_with fail
  go_ret
  exact ⟨congrArg _ (congrArg _ HE.out.symm), HB2.out⟩
def shortP (key s : ByteArray) : ByteArray := (keyedP key s).extract 0 16
set_option maxHeartbeats 1000000 in
theorem short (key s : ByteArray) (w : World) (hV : Vars w) (hk : key.size ≤ 4611686018427387904) (hs : s.size ≤ 4611686018427387904) :
    Calls Tryd.prog 11 #[.string key, .string s] w fun e w' => e = .returned (.string (shortP key s)) ∧ Below w.heap.size w w' := by
  have HK := Aside0.mk (keyed key s w hV hk hs)
  have hz := keyedP_size key s
  have HE : Aside0 (shortP key s = (keyedP key s).extract 0 16) := ⟨rfl⟩
  generalize shortP key s = out at *
  generalize keyedP key s = res at *
  clear hV hk hs
  go_enter Tryd.func11, Tryd.ntmps11
  go_wp2_with fail
  refine HK.out.mono ?_
  rintro e w1 ⟨rfl, hB1⟩
  have HB1 := Aside0.mk hB1
  clear hB1
  go_wp2_with fail
  go_ret
  exact ⟨congrArg _ (congrArg _ HE.out.symm), HB1.out⟩
end Go.Proofs.YtflnlkaednpenaaDoor.MixK
