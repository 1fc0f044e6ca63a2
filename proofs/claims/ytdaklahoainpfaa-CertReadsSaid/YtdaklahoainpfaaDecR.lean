/- tuskref06.Decode walked. -/
import Derived.Test.YtdaklahoainpfaaHdec
namespace Go.Proofs.Ytdaklahoainpfaa.DecR
open Go.RowKit Go.Proofs.YtdaklahoainpfaaW.PrintWords Go.Proofs.YtdaklahoainpfaaW.PrintLast Go.Proofs.YtdaklahoainpfaaW.PrintMore Go.Proofs.Ytdaklahoainpfaa.Plain01 Go.Proofs.Ytdaklahoainpfaa.WireInt Go.Proofs.Ytdaklahoainpfaa.Ref01 Go.Proofs.Ytdaklahoainpfaa.QKinds Go.Proofs.Ytdaklahoainpfaa.QBaseR Go.Proofs.Ytdaklahoainpfaa.PlainR Go.Proofs.Ytdaklahoainpfaa.TakeR Go.Proofs.Ytdaklahoainpfaa.Hdec Go.Proofs.Ytdaklahoainpfaa.State
set_option linter.unusedVariables false
set_option linter.unusedSimpArgs false
theorem put4 {W : World} {g t : Nat} {c0 c1 c2 c3 : Value} (h : W.heap[g]? = some (.cells #[c0, c1, c2, c3] t (0, 0))) (a b c d : Value) :
    Upd W ((((W.setCell ⟨g, 0, none⟩ a).setCell ⟨g, 1, none⟩ b).setCell ⟨g, 2, none⟩ c).setCell ⟨g, 3, none⟩ d) g (.cells #[a, b, c, d] t (0, 0)) := ((((Upd.refl h).store a).store b).store c).store d
theorem Upd.keep {W W' : World} {g : Nat} {o : Obj} (h : Upd W W' g o) : KeepBut W W' g none := ⟨h.size, fun i hi hne _ => h.rest i hi hne⟩
theorem Upd.is {w0 W W' : World} {g g' : Nat} {o : Obj} {s : ByteArray} {e : Int} (h : Upd W W' g o) (k : IsS59 w0 W g' s e) (hne : g' ≠ g) : IsS59 w0 W' g' s e := ⟨h.other k.1 hne, k.2⟩
theorem is_keep {w0 W W' : World} {g g' : Nat} {s : ByteArray} {e : Int} (h : KeepBut W W' g none) (k : IsS59 w0 W g' s e) (hne : g' ≠ g) : IsS59 w0 W' g' s e := ⟨h.blk k.1 hne (by simp), k.2⟩
theorem Upd.under {w0 W W' : World} {g : Nat} {o : Obj} (h : Upd W W' g o) (k : Below w0.heap.size w0 W) (hg : w0.heap.size ≤ g) : Below w0.heap.size w0 W' := ⟨h.os.trans k.os, h.tape.trans k.tape, h.output.trans k.output, Nat.le_trans k.size h.size, fun i hi => (h.rest i (Nat.lt_of_lt_of_le hi k.size) (by omega)).trans (k.block i hi)⟩
def tuskref06_Decode.f (a0 : ByteArray) : Option (Int × Int × List RefT × List ByteArray × Int) := if a0.size ≤ 1048576 then some (hdec a0) else none
set_option maxHeartbeats 4000000 in
theorem tuskref06_Decode.calls (a0 : ByteArray) (r1 r2 : Int) (r3 : List RefT) (r4 : List ByteArray) (r5 : Int) (w : World) (h : tuskref06_Decode.f a0 = some (r1, r2, r3, r4, r5)) :
    Calls Try.prog 10 #[.string a0] w fun e w' => ∃ v2_ v3_ : Value, e = .returned (.tuple #[.agg #[.int .i64 r1, .int .i64 r2, v2_, v3_], .int .i64 r5]) ∧ Kd.S k69 69 w' w.heap.size (fun _ => True) v2_ r3 ∧ Kd.R Kd.string 9 w' w.heap.size (fun _ => True) v3_ r4 ∧ Below w.heap.size w w' := by
  have hu25 := Try.underlying25
  have hu59 := Try.underlying59
  by_cases hs : a0.size ≤ 1048576
  · rw [tuskref06_Decode.f, if_pos hs] at h
    injection h with h
    obtain ⟨L, P, t, E, ⟨K, hK⟩, hc⟩ := get_ev a0 hs
    rw [ref_fin a0 L P t E hc] at h
    have HG := Aside0.mk (fun (w0 W : World) (g : Nat) (hI : IsS59 w0 W g a0 0) (hB : Below w0.heap.size w0 W) => tuskref06_Get.calls K g a0 0 _ _ L P t E w0 W hI hB (hK K (Nat.le_refl _)))
    have HE := Aside0.mk (fun (w0 W : World) (g : Nat) (hI : IsS59 w0 W g t E) (hB : Below w0.heap.size w0 W) => tuskref04_In_End.calls g t E _ _ w0 W hI hB (in_end t E))
    clear hc hK
    generalize (hA a0).1 = x1 at *
    generalize (hR a0).1 = x2 at *
    generalize eEnd t E = e1 at *
    have HH := Aside0.mk h
    clear h hs
    go_enter Try.func10, Try.ntmps10
    go_wp2_with fail
    have hI0 : IsS59 w ((w.alloc (.cells #[.int .i64 0, .int .i64 0, .slice none 0 0, .slice none 0 0] 25)).alloc (.cells #[.string a0, .int .i64 0] 59)) (w.heap.size + 1) a0 0 := by
      have h := IsS59.new w (w.alloc (.cells #[.int .i64 0, .int .i64 0, .slice none 0 0, .slice none 0 0] 25)) a0 0 (below_alloc (Below.refl _ _) _)
      rw [show (w.alloc (.cells #[.int .i64 0, .int .i64 0, .slice none 0 0, .slice none 0 0] 25)).heap.size = w.heap.size + 1 from by simp] at h; exact h
    have hB0 : Below w.heap.size w ((w.alloc (.cells #[.int .i64 0, .int .i64 0, .slice none 0 0, .slice none 0 0] 25)).alloc (.cells #[.string a0, .int .i64 0] 59)) := below_alloc (below_alloc (Below.refl _ _) _) _
    have hZ0 : ((w.alloc (.cells #[.int .i64 0, .int .i64 0, .slice none 0 0, .slice none 0 0] 25)).alloc (.cells #[.string a0, .int .i64 0] 59)).heap[w.heap.size]? = some (.cells #[.int .i64 0, .int .i64 0, .slice none 0 0, .slice none 0 0] 25 (0, 0)) := blk_alloc (heap_alloc_new w _) _
    generalize (w.alloc (.cells #[.int .i64 0, .int .i64 0, .slice none 0 0, .slice none 0 0] 25)).alloc (.cells #[.string a0, .int .i64 0] 59) = W0 at *
    refine (HG.out w _ _ hI0 hB0).mono ?_
    rintro y w1 ⟨v2, v3, rfl, hS, hR, hI, hB, hKp⟩
    obtain ⟨A2, c2, rfl⟩ := Kd.S_slice hS
    obtain ⟨A3, c3, rfl⟩ := Kd.R_slice hR
    have hZ1 := KeepBut.blk hKp hZ0 (by omega) (by simp)
    have hg2 : w.heap.size ≤ w.heap.size := Nat.le_refl _
    have hsz : w.heap.size ≤ W0.heap.size := hB0.size
    replace hS := Kd.S_lower hS hsz
    replace hR := Kd.R_lower hR hsz
    have hlt : w.heap.size + 1 < w1.heap.size := hI.lt
    have HS := Aside0.mk hS
    have HR := Aside0.mk hR
    have HI := Aside0.mk hI
    have HB := Aside0.mk hB
    have HZ := Aside0.mk hZ1
    have HLT := Aside0.mk hlt
    clear hS hR hI hB hKp hZ1 hI0 hB0 hZ0 hsz hlt HG hg2
    go_wp2_with fail
    have hB1 := HB.out
    have hI1 := IsS59.alloc HI.out (.cells #[.int .i64 x1, .int .i64 x2, .slice A2 L.length c2, .slice A3 P.length c3] 25)
    have hb1 : Below w.heap.size w (w1.alloc (.cells #[.int .i64 x1, .int .i64 x2, .slice A2 L.length c2, .slice A3 P.length c3] 25)) := below_alloc hB1 _
    have hS1 := Kd.S_alloc HS.out (.cells #[.int .i64 x1, .int .i64 x2, .slice A2 L.length c2, .slice A3 P.length c3] 25)
    have hR1 := Kd.R_alloc HR.out (.cells #[.int .i64 x1, .int .i64 x2, .slice A2 L.length c2, .slice A3 P.length c3] 25)
    have hZ2 : (w1.alloc (.cells #[.int .i64 x1, .int .i64 x2, .slice A2 L.length c2, .slice A3 P.length c3] 25)).heap[w.heap.size]? = _ := blk_alloc HZ.out _
    have hY2 : (w1.alloc (.cells #[.int .i64 x1, .int .i64 x2, .slice A2 L.length c2, .slice A3 P.length c3] 25)).heap[w1.heap.size]? = some (.cells #[.int .i64 x1, .int .i64 x2, .slice A2 L.length c2, .slice A3 P.length c3] 25 (0, 0)) := heap_alloc_new w1 _
    have hn1 : w.heap.size ≤ w1.heap.size := hB1.size
    have hlt1 := HLT.out
    generalize w1.alloc (.cells #[.int .i64 x1, .int .i64 x2, .slice A2 L.length c2, .slice A3 P.length c3] 25) = W1 at *
    generalize w1.heap.size = gb at *
    refine (HE.out w _ _ hI1 hb1).mono ?_
    rintro y w2 ⟨rfl, hI, hB, hKp⟩
    have HZ2 := Aside0.mk (KeepBut.blk hKp hZ2 (by omega) (by simp))
    have HY2 := Aside0.mk (KeepBut.blk hKp hY2 (by omega) (by simp))
    have HS2 := Aside0.mk (Kd.S_mono (Kd.S_keep (hI1.apartS hS1 (by decide)) hKp (fun _ h => h.2)) (fun _ h => h.1))
    have HR2 := Aside0.mk (Kd.R_mono (Kd.R_keep (hI1.apart hR1 (by decide)) hKp (fun _ h => h.2)) (fun _ h => h.1))
    have HI2 := Aside0.mk hI
    have HB2 := Aside0.mk hB
    clear hI hB hKp hI1 hb1 hS1 hR1 hZ2 hY2 HS HR HI HB HZ HLT HE hB1
    have HN := Aside0.mk hn1
    clear hn1
    have HL := Aside0.mk hlt1
    clear hlt1
    obtain ⟨hGi, hgi⟩ := HI2.out
    have hc0 := cellS59_0 hGi
    have hc1 := cellS59_1 hGi
    have hf0 := blk_frozen hGi 0
    have hf1 := blk_frozen hGi 1
    have hy0 : w2.cell? ⟨gb, 0, none⟩ = some (.int .i64 x1) := (blk_cell HY2.out 0).trans rfl
    have hy1 : w2.cell? ⟨gb, 1, none⟩ = some (.int .i64 x2) := (blk_cell HY2.out 1).trans rfl
    have hy2 : w2.cell? ⟨gb, 2, none⟩ = some (.slice A2 L.length c2) := (blk_cell HY2.out 2).trans rfl
    have hy3 : w2.cell? ⟨gb, 3, none⟩ = some (.slice A3 P.length c3) := (blk_cell HY2.out 3).trans rfl
    have hz0 : w2.cell? ⟨w.heap.size, 0, none⟩ = some (.int .i64 0) := (blk_cell HZ2.out 0).trans rfl
    have hz1 : w2.cell? ⟨w.heap.size, 1, none⟩ = some (.int .i64 0) := (blk_cell HZ2.out 1).trans rfl
    have hz2 : w2.cell? ⟨w.heap.size, 2, none⟩ = some (.slice none 0 0) := (blk_cell HZ2.out 2).trans rfl
    have hz3 : w2.cell? ⟨w.heap.size, 3, none⟩ = some (.slice none 0 0) := (blk_cell HZ2.out 3).trans rfl
    have hzf0 := blk_frozen HZ2.out 0
    have hzf1 := blk_frozen HZ2.out 1
    have hzf2 := blk_frozen HZ2.out 2
    have hzf3 := blk_frozen HZ2.out 3
    have hn_ : ¬ (w.heap.size = w.heap.size + 1) := by omega
    have hn_' : ¬ (w.heap.size + 1 = w.heap.size) := by omega
    clear hGi hgi
    have hH := HH.out
    clear HH
    by_cases he : e1 = 0
    · subst he
      rw [if_neg (show ¬ ((0 : Int) ≠ 0) from fun h => h rfl)] at hH
      by_cases h6 : 6 < x1
      · rw [if_pos h6] at hH
        have hb : decide (x1 > 6) = true := decide_eq_true h6
        simp only [Prod.mk.injEq] at hH
        obtain ⟨rfl, rfl, rfl, rfl, rfl⟩ := hH
        go_wp2_with fail
        have hi3 := IsS59.set_1 HI2.out 2
        have hb3 : Below w.heap.size w (w2.setCell ⟨w.heap.size + 1, 1, none⟩ (.int .i64 2)) := below_set HB2.out (by omega)
        have hz' := Aside0.mk (blk_far HZ2.out (p := ⟨w.heap.size + 1, 1, none⟩) (by show ¬ _; omega) (.int .i64 2))
        clear hc0 hc1 hf0 hf1 hy0 hy1 hy2 hy3 hz0 hz1 hz2 hz3 hzf0 hzf1 hzf2 hzf3 HS2 HR2 HY2 HZ2 HI2 HB2
        generalize w2.setCell ⟨w.heap.size + 1, 1, none⟩ (.int .i64 2) = w3 at *
        have HI2 := Aside0.mk hi3
        have HB2 := Aside0.mk hb3
        have HZ2 := hz'
        clear hi3 hb3 hz'
        obtain ⟨hGi, hgi⟩ := HI2.out
        have hc1 := cellS59_1 hGi
        have hz0 : w3.cell? ⟨w.heap.size, 0, none⟩ = some (.int .i64 0) := (blk_cell HZ2.out 0).trans rfl
        have hz1 : w3.cell? ⟨w.heap.size, 1, none⟩ = some (.int .i64 0) := (blk_cell HZ2.out 1).trans rfl
        have hz2 : w3.cell? ⟨w.heap.size, 2, none⟩ = some (.slice none 0 0) := (blk_cell HZ2.out 2).trans rfl
        have hz3 : w3.cell? ⟨w.heap.size, 3, none⟩ = some (.slice none 0 0) := (blk_cell HZ2.out 3).trans rfl
        have hzf0 := blk_frozen HZ2.out 0
        have hzf1 := blk_frozen HZ2.out 1
        have hzf2 := blk_frozen HZ2.out 2
        have hzf3 := blk_frozen HZ2.out 3
        clear hGi hgi
        go_region
        go_wp2_with fail
        have hU := put4 HZ2.out (.int .i64 0) (.int .i64 0) (.slice none 0 0) (.slice none 0 0)
        have HB3 := Upd.under hU HB2.out (Nat.le_refl _)
        refine bodyPost_ret (results_ct rfl _ _ w.heap.size 25 #[.int .i64 0, .int .i64 0, .slice none 0 0, .slice none 0 0] (0, 0) _ rfl hU.here Try.underlying25 rfl (by kernel_rfl)) rfl ?_
        exact ⟨_, _, rfl, Kd.S_nil _ _ _ _ _, Kd.R_nil _ _ _ _ _, below_drew1 HB3⟩
      · rw [if_neg h6] at hH
        have hb : decide (x1 > 6) = false := decide_eq_false h6
        simp only [Prod.mk.injEq] at hH
        obtain ⟨rfl, rfl, rfl, rfl, rfl⟩ := hH
        go_wp2_with fail
        have hU := put4 HZ2.out (.int .i64 x1) (.int .i64 x2) (.slice A2 L.length c2) (.slice A3 P.length c3)
        have HB3 := Upd.under hU HB2.out (Nat.le_refl _)
        have HS3 := Kd.S_mono (Kd.S_keep (Kd.S_types HS2.out HZ2.out (by decide)) (Upd.keep hU) (fun _ h => h.2)) (fun _ h => h.1)
        have HR3 := Kd.R_mono (Kd.R_keep (Kd.R_types HR2.out HZ2.out (by decide)) (Upd.keep hU) (fun _ h => h.2)) (fun _ h => h.1)
        refine bodyPost_ret (results_ct rfl _ _ w.heap.size 25 #[.int .i64 x1, .int .i64 x2, .slice A2 L.length c2, .slice A3 P.length c3] (0, 0) _ rfl hU.here Try.underlying25 rfl (by kernel_rfl)) rfl ?_
        exact ⟨_, _, rfl, HS3, HR3, HB3⟩
    · rw [if_pos he] at hH
      have hb : (e1 == 0) = false := beq_eq_false_iff_ne.2 he
      have hb' : (e1 != 0) = true := bne_iff_ne.2 he
      simp only [Prod.mk.injEq] at hH
      obtain ⟨rfl, rfl, rfl, rfl, rfl⟩ := hH
      go_wp2_with fail
      go_region
      go_wp2_with fail
      have hU := put4 HZ2.out (.int .i64 0) (.int .i64 0) (.slice none 0 0) (.slice none 0 0)
      have HB3 := Upd.under hU HB2.out (Nat.le_refl _)
      refine bodyPost_ret (results_ct rfl _ _ w.heap.size 25 #[.int .i64 0, .int .i64 0, .slice none 0 0, .slice none 0 0] (0, 0) _ rfl hU.here Try.underlying25 rfl (by kernel_rfl)) rfl ?_
      exact ⟨_, _, rfl, Kd.S_nil _ _ _ _ _, Kd.R_nil _ _ _ _ _, below_drew1 HB3⟩
  · rw [tuskref06_Decode.f, if_neg hs] at h; cases h
end Go.Proofs.Ytdaklahoainpfaa.DecR
