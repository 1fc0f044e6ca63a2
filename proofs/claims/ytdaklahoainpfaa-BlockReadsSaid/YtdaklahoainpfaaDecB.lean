/- tuskref08.DecodeQc and tuskref08.Decode walked. -/
import Derived.Test.YtdaklahoainpfaaBlkR
namespace Go.Proofs.Ytdaklahoainpfaa.DecB
open Go.RowKit Go.Proofs.YtdaklahoainpfaaW.PrintWords Go.Proofs.YtdaklahoainpfaaW.PrintLast Go.Proofs.YtdaklahoainpfaaW.PrintMore Go.Proofs.Ytdaklahoainpfaa.Plain01 Go.Proofs.Ytdaklahoainpfaa.WireInt Go.Proofs.Ytdaklahoainpfaa.Ref01 Go.Proofs.Ytdaklahoainpfaa.QKinds Go.Proofs.Ytdaklahoainpfaa.QBaseB Go.Proofs.Ytdaklahoainpfaa.PlainB Go.Proofs.Ytdaklahoainpfaa.State Go.Proofs.Ytdaklahoainpfaa.BlkR
set_option linter.unusedVariables false
set_option linter.unusedSimpArgs false
abbrev Qd := Int × ByteArray × List Tag × Int
abbrev Bd := Int × Int × ByteArray × List Tag × List ByteArray × Int
def qI (s : ByteArray) := tkI s 0
def qT (s : ByteArray) := tkT (qI s).2.1 (qI s).2.2
def qG (s : ByteArray) := tkG (qT s).2.1 (qT s).2.2
def qdec (s : ByteArray) : Qd := if eEnd (qG s).2.1 (qG s).2.2 ≠ 0 then (0, ⟨#[]⟩, [], eEnd (qG s).2.1 (qG s).2.2) else ((qI s).1, (qT s).1, (qG s).1, 0)
/-- A list of at most 8. -/
def tkM (s : ByteArray) (e : Int) : List ByteArray × ByteArray × Int := if e = 0 then ((wireGetList s 8).1, cut s (wireGetList s 8).2.1, (wireGetList s 8).2.2) else ([], s, e)
theorem in_list8 (s : ByteArray) (e : Int) (hs : s.size ≤ 1048576) : tuskref04_In_List.f s e 8 = some (tkM s e) := by
  rw [tuskref04_In_List.f]
  by_cases he : e = 0
  · obtain ⟨hn0, hn1, _⟩ : 0 ≤ (wireGetList s 8).2.1 ∧ (wireGetList s 8).2.1 ≤ s.size ∧ _ := list_facts s 8
    rw [if_pos he, tuskref01_GetList.f, if_pos (by omega), Option.bind_some, if_pos hn0, if_pos hn1, tkM, if_pos he]; rfl
  · rw [if_neg he, tkM, if_neg he]
def bL (s : ByteArray) := tkM (qT s).2.1 (qdec (qT s).1).2.2.2
def bdec (s : ByteArray) : Bd := if (qT s).2.2 ≠ 0 then (0, 0, ⟨#[]⟩, [], [], (qT s).2.2) else if eEnd (bL s).2.1 (bL s).2.2 ≠ 0 then (0, 0, ⟨#[]⟩, [], [], eEnd (bL s).2.1 (bL s).2.2) else ((qI s).1, (qdec (qT s).1).1, (qdec (qT s).1).2.1, (qdec (qT s).1).2.2.1, (bL s).1, 0)
theorem tkT_val (s : ByteArray) (e : Int) : (tkT s e).1.size ≤ s.size := by unfold tkT; split; exact text_le s; exact Nat.zero_le _
theorem put3 {W : World} {g t : Nat} {c0 c1 c2 : Value} (h : W.heap[g]? = some (.cells #[c0, c1, c2] t (0, 0))) (a b c : Value) :
    Upd W (((W.setCell ⟨g, 0, none⟩ a).setCell ⟨g, 1, none⟩ b).setCell ⟨g, 2, none⟩ c) g (.cells #[a, b, c] t (0, 0)) := (((Upd.refl h).store a).store b).store c
theorem put5 {W : World} {g t : Nat} {c0 c1 c2 c3 c4 : Value} (h : W.heap[g]? = some (.cells #[c0, c1, c2, c3, c4] t (0, 0))) (a b c d e : Value) :
    Upd W (((((W.setCell ⟨g, 0, none⟩ a).setCell ⟨g, 1, none⟩ b).setCell ⟨g, 2, none⟩ c).setCell ⟨g, 3, none⟩ d).setCell ⟨g, 4, none⟩ e) g (.cells #[a, b, c, d, e] t (0, 0)) := (((((Upd.refl h).store a).store b).store c).store d).store e
def tuskref08_DecodeQc.f (a0 : ByteArray) : Option (Int × ByteArray × List Tag × Int) := if a0.size ≤ 1048576 then some (qdec a0) else none
set_option maxHeartbeats 8000000 in
set_option maxRecDepth 100000 in
theorem tuskref08_DecodeQc.calls (a0 : ByteArray) (r1 : Int) (r2 : ByteArray) (r3 : List Tag) (r4 : Int) (w : World) (h : tuskref08_DecodeQc.f a0 = some (r1, r2, r3, r4)) :
    Calls Try.prog 20 #[.string a0] w fun e w' => ∃ v2_ : Value, e = .returned (.tuple #[.agg #[.int .i64 r1, .string r2, v2_], .int .i64 r4]) ∧ Kd.R k77 77 w' w.heap.size (fun _ => True) v2_ r3 ∧ Below w.heap.size w w' := by
  have hu43 := Try.underlying43
  have hu59 := Try.underlying59
  by_cases hs : a0.size ≤ 1048576
  · rw [tuskref08_DecodeQc.f, if_pos hs] at h
    injection h with h
    have s1 : (qI a0).2.1.size ≤ 1048576 := Nat.le_trans (tkI_le _ _) hs
    have s2 : (qT a0).2.1.size ≤ 1048576 := Nat.le_trans (tkT_le _ _) s1
    have HI := Aside0.mk (fun (w0 W : World) (g : Nat) (hI : IsS59 w0 W g a0 0) (hB : Below w0.heap.size w0 W) => tuskref04_In_Int.calls g a0 0 (qI a0).1 (qI a0).2.1 (qI a0).2.2 w0 W hI hB (in_int a0 0))
    have HT := Aside0.mk (fun (w0 W : World) (g : Nat) (hI : IsS59 w0 W g (qI a0).2.1 (qI a0).2.2) (hB : Below w0.heap.size w0 W) => tuskref04_In_Text.calls g (qI a0).2.1 (qI a0).2.2 (qT a0).1 (qT a0).2.1 (qT a0).2.2 w0 W hI hB (in_text _ _ s1))
    obtain ⟨K, hK⟩ := in_some (qT a0).2.1 (qT a0).2.2 s2
    have hK : tuskref06_Some.f K (qT a0).2.1 (qT a0).2.2 = some ((qG a0).1, (qG a0).2.1, (qG a0).2.2) := hK K (Nat.le_refl _)
    have HG := Aside0.mk (fun (w0 W : World) (g : Nat) (hI : IsS59 w0 W g (qT a0).2.1 (qT a0).2.2) (hB : Below w0.heap.size w0 W) => tuskref06_Some.calls K g (qT a0).2.1 (qT a0).2.2 (qG a0).1 (qG a0).2.1 (qG a0).2.2 w0 W hI hB hK)
    have HE := Aside0.mk (fun (w0 W : World) (g : Nat) (hI : IsS59 w0 W g (qG a0).2.1 (qG a0).2.2) (hB : Below w0.heap.size w0 W) => tuskref04_In_End.calls g (qG a0).2.1 (qG a0).2.2 _ _ w0 W hI hB (in_end _ _))
    rw [qdec] at h
    clear hs s1 s2 hK
    generalize eEnd (qG a0).2.1 (qG a0).2.2 = e1 at *
    generalize qI a0 = xi at *
    generalize qT a0 = xt at *
    generalize qG a0 = xg at *
    obtain ⟨i, s1, e2⟩ := xi
    obtain ⟨t, s2, e3⟩ := xt
    obtain ⟨l, s3, e4⟩ := xg
    dsimp only at HI HT HG HE h
    have HH := Aside0.mk h
    clear h
    go_enter Try.func20, Try.ntmps20
    go_wp2_with fail
    have hI0 : IsS59 w ((w.alloc (.cells #[.int .i64 0, .string ⟨#[]⟩, .slice none 0 0] 43)).alloc (.cells #[.string a0, .int .i64 0] 59)) (w.heap.size + 1) a0 0 := by
      have h := IsS59.new w (w.alloc (.cells #[.int .i64 0, .string ⟨#[]⟩, .slice none 0 0] 43)) a0 0 (below_alloc (Below.refl _ _) _)
      rw [show (w.alloc (.cells #[.int .i64 0, .string ⟨#[]⟩, .slice none 0 0] 43)).heap.size = w.heap.size + 1 from by simp] at h; exact h
    have hB0 : Below w.heap.size w ((w.alloc (.cells #[.int .i64 0, .string ⟨#[]⟩, .slice none 0 0] 43)).alloc (.cells #[.string a0, .int .i64 0] 59)) := below_alloc (below_alloc (Below.refl _ _) _) _
    have hZ0 : ((w.alloc (.cells #[.int .i64 0, .string ⟨#[]⟩, .slice none 0 0] 43)).alloc (.cells #[.string a0, .int .i64 0] 59)).heap[w.heap.size]? = some (.cells #[.int .i64 0, .string ⟨#[]⟩, .slice none 0 0] 43 (0, 0)) := blk_alloc (heap_alloc_new w _) _
    generalize (w.alloc (.cells #[.int .i64 0, .string ⟨#[]⟩, .slice none 0 0] 43)).alloc (.cells #[.string a0, .int .i64 0] 59) = W0 at *
    refine (HI.out w _ _ hI0 hB0).mono ?_
    rintro y w1 ⟨rfl, hI, hB, hKp⟩
    have HZ1 := Aside0.mk (KeepBut.blk hKp hZ0 (by omega) (by simp))
    have HI1 := Aside0.mk hI
    have HB1 := Aside0.mk hB
    clear hI hB hKp hI0 hB0 hZ0 HI
    go_wp2_with fail
    refine (HT.out w _ _ HI1.out HB1.out).mono ?_
    rintro y w2 ⟨rfl, hI, hB, hKp⟩
    have HZ2 := Aside0.mk (KeepBut.blk hKp HZ1.out (by omega) (by simp))
    have HI2 := Aside0.mk hI
    have HB2 := Aside0.mk hB
    clear hI hB hKp HI1 HB1 HZ1 HT
    go_wp2_with fail
    refine (HG.out w _ _ HI2.out HB2.out).mono ?_
    rintro y w3 ⟨v, rfl, hr, hI, hB, hKp⟩
    obtain ⟨A3, c3, rfl⟩ := Kd.R_slice hr
    have HZ3 := Aside0.mk (KeepBut.blk hKp HZ2.out (by omega) (by simp))
    have HI3 := Aside0.mk hI
    have HR3 := Aside0.mk (Kd.R_lower hr HB2.out.size)
    have HB3 := Aside0.mk hB
    clear hI hB hKp hr HI2 HB2 HZ2 HG
    go_wp2_with fail
    refine (HE.out w _ _ HI3.out HB3.out).mono ?_
    rintro y w4 ⟨rfl, hI, hB, hKp⟩
    have HZ4 := Aside0.mk (KeepBut.blk hKp HZ3.out (by omega) (by simp))
    have HR4 := Aside0.mk (Kd.R_mono (Kd.R_keep (HI3.out.apart HR3.out (by decide)) hKp (fun _ h => h.2)) (fun _ _ => trivial))
    have HB4 := Aside0.mk hB
    have hr1 := cellS59_1 hI.1
    clear hI hB hKp HI3 HB3 HR3 HZ3 HE
    have hn_ : ¬ (w.heap.size = w.heap.size + 1) := by omega
    have hn_' : ¬ (w.heap.size + 1 = w.heap.size) := by omega
    have hz0 : w4.cell? ⟨w.heap.size, 0, none⟩ = some (.int .i64 0) := (blk_cell HZ4.out 0).trans rfl
    have hz1 : w4.cell? ⟨w.heap.size, 1, none⟩ = some (.string ⟨#[]⟩) := (blk_cell HZ4.out 1).trans rfl
    have hz2 : w4.cell? ⟨w.heap.size, 2, none⟩ = some (.slice none 0 0) := (blk_cell HZ4.out 2).trans rfl
    have hzf0 := blk_frozen HZ4.out 0
    have hzf1 := blk_frozen HZ4.out 1
    have hzf2 := blk_frozen HZ4.out 2
    have hH := HH.out
    clear HH
    by_cases he : e1 = 0
    · rw [if_neg (show ¬ (e1 ≠ 0) from fun h => h he)] at hH
      subst he
      simp only [Prod.mk.injEq] at hH
      obtain ⟨rfl, rfl, rfl, rfl⟩ := hH
      go_wp2_with fail
      have hU := put3 HZ4.out (.int .i64 i) (.string t) (.slice A3 l.length c3)
      have HBe := Upd.under hU HB4.out (Nat.le_refl _)
      have HRe := Kd.R_mono (Kd.R_keep (Kd.R_types HR4.out HZ4.out (by decide)) (Upd.keep hU) (fun _ h => h.2)) (fun _ h => h.1)
      refine bodyPost_ret (results_ct rfl _ _ w.heap.size 43 #[.int .i64 i, .string t, .slice A3 l.length c3] (0, 0) _ rfl hU.here Try.underlying43 rfl (by kernel_rfl)) rfl ?_
      exact ⟨_, rfl, HRe, HBe⟩
    · rw [if_pos he] at hH
      have hb : (e1 != 0) = true := bne_iff_ne.2 he
      simp only [Prod.mk.injEq] at hH
      obtain ⟨rfl, rfl, rfl, rfl⟩ := hH
      go_wp2_with fail
      go_region
      go_wp2_with fail
      have hU := put3 HZ4.out (.int .i64 0) (.string ⟨#[]⟩) (.slice none 0 0)
      have HBe := Upd.under hU HB4.out (Nat.le_refl _)
      refine bodyPost_ret (results_ct rfl _ _ w.heap.size 43 #[.int .i64 0, .string ⟨#[]⟩, .slice none 0 0] (0, 0) _ rfl hU.here Try.underlying43 rfl (by kernel_rfl)) rfl ?_
      exact ⟨_, rfl, Kd.R_nil _ _ _ _ _, below_drew1 HBe⟩
  · rw [tuskref08_DecodeQc.f, if_neg hs] at h; cases h
def tuskref08_Decode.f (a0 : ByteArray) : Option (Int × Int × ByteArray × List Tag × List ByteArray × Int) := if a0.size ≤ 1048576 then some (bdec a0) else none
set_option maxHeartbeats 8000000 in
set_option maxRecDepth 100000 in
theorem tuskref08_Decode.calls (a0 : ByteArray) (r1 : Int) (r2 : Int) (r3 : ByteArray) (r4 : List Tag) (r5 : List ByteArray) (r6 : Int) (w : World) (h : tuskref08_Decode.f a0 = some (r1, r2, r3, r4, r5, r6)) :
    Calls Try.prog 18 #[.string a0] w fun e w' => ∃ v3_ v4_ : Value, e = .returned (.tuple #[.agg #[.int .i64 r1, .int .i64 r2, .string r3, v3_, v4_], .int .i64 r6]) ∧ Kd.R k77 77 w' w.heap.size (fun _ => True) v3_ r4 ∧ Kd.R Kd.string 9 w' w.heap.size (fun _ => True) v4_ r5 ∧ Below w.heap.size w w' := by
  have hu45 := Try.underlying45
  have hu43 := Try.underlying43
  have hu59 := Try.underlying59
  by_cases hs : a0.size ≤ 1048576
  · rw [tuskref08_Decode.f, if_pos hs] at h
    injection h with h
    have s1 : (qI a0).2.1.size ≤ 1048576 := Nat.le_trans (tkI_le _ _) hs
    have s2 : (qT a0).2.1.size ≤ 1048576 := Nat.le_trans (tkT_le _ _) s1
    have sv : (qT a0).1.size ≤ 1048576 := Nat.le_trans (tkT_val _ _) s1
    have HI := Aside0.mk (fun (w0 W : World) (g : Nat) (hI : IsS59 w0 W g a0 0) (hB : Below w0.heap.size w0 W) => tuskref04_In_Int.calls g a0 0 (qI a0).1 (qI a0).2.1 (qI a0).2.2 w0 W hI hB (in_int a0 0))
    have HT := Aside0.mk (fun (w0 W : World) (g : Nat) (hI : IsS59 w0 W g (qI a0).2.1 (qI a0).2.2) (hB : Below w0.heap.size w0 W) => tuskref04_In_Text.calls g (qI a0).2.1 (qI a0).2.2 (qT a0).1 (qT a0).2.1 (qT a0).2.2 w0 W hI hB (in_text _ _ s1))
    have HQ := Aside0.mk (fun (W : World) => tuskref08_DecodeQc.calls (qT a0).1 (qdec (qT a0).1).1 (qdec (qT a0).1).2.1 (qdec (qT a0).1).2.2.1 (qdec (qT a0).1).2.2.2 W (by rw [tuskref08_DecodeQc.f, if_pos sv]))
    have HL := Aside0.mk (fun (w0 W : World) (g : Nat) (hI : IsS59 w0 W g (qT a0).2.1 (qdec (qT a0).1).2.2.2) (hB : Below w0.heap.size w0 W) => tuskref04_In_List.calls g (qT a0).2.1 (qdec (qT a0).1).2.2.2 8 (bL a0).1 (bL a0).2.1 (bL a0).2.2 w0 W hI hB (in_list8 _ _ s2))
    have HE := Aside0.mk (fun (w0 W : World) (g : Nat) (hI : IsS59 w0 W g (bL a0).2.1 (bL a0).2.2) (hB : Below w0.heap.size w0 W) => tuskref04_In_End.calls g (bL a0).2.1 (bL a0).2.2 _ _ w0 W hI hB (in_end _ _))
    rw [bdec] at h
    clear hs s1 s2 sv
    generalize eEnd (bL a0).2.1 (bL a0).2.2 = e1 at *
    generalize bL a0 = xl at *
    generalize qdec (qT a0).1 = xq at *
    generalize qT a0 = xt at *
    generalize qI a0 = xi at *
    obtain ⟨i, s1, e2⟩ := xi
    obtain ⟨t, s2, e3⟩ := xt
    obtain ⟨q1, q2, q3, q4⟩ := xq
    obtain ⟨l, s3, e4⟩ := xl
    dsimp only at HI HT HQ HL HE h
    have HH := Aside0.mk h
    clear h
    go_enter Try.func18, Try.ntmps18
    go_wp2_with fail
    have hI0 : IsS59 w ((w.alloc (.cells #[.int .i64 0, .int .i64 0, .string ⟨#[]⟩, .slice none 0 0, .slice none 0 0] 45)).alloc (.cells #[.string a0, .int .i64 0] 59)) (w.heap.size + 1) a0 0 := by
      have h := IsS59.new w (w.alloc (.cells #[.int .i64 0, .int .i64 0, .string ⟨#[]⟩, .slice none 0 0, .slice none 0 0] 45)) a0 0 (below_alloc (Below.refl _ _) _)
      rw [show (w.alloc (.cells #[.int .i64 0, .int .i64 0, .string ⟨#[]⟩, .slice none 0 0, .slice none 0 0] 45)).heap.size = w.heap.size + 1 from by simp] at h; exact h
    have hB0 : Below w.heap.size w ((w.alloc (.cells #[.int .i64 0, .int .i64 0, .string ⟨#[]⟩, .slice none 0 0, .slice none 0 0] 45)).alloc (.cells #[.string a0, .int .i64 0] 59)) := below_alloc (below_alloc (Below.refl _ _) _) _
    have hZ0 : ((w.alloc (.cells #[.int .i64 0, .int .i64 0, .string ⟨#[]⟩, .slice none 0 0, .slice none 0 0] 45)).alloc (.cells #[.string a0, .int .i64 0] 59)).heap[w.heap.size]? = some (.cells #[.int .i64 0, .int .i64 0, .string ⟨#[]⟩, .slice none 0 0, .slice none 0 0] 45 (0, 0)) := blk_alloc (heap_alloc_new w _) _
    generalize (w.alloc (.cells #[.int .i64 0, .int .i64 0, .string ⟨#[]⟩, .slice none 0 0, .slice none 0 0] 45)).alloc (.cells #[.string a0, .int .i64 0] 59) = W0 at *
    refine (HI.out w _ _ hI0 hB0).mono ?_
    rintro y w1 ⟨rfl, hI, hB, hKp⟩
    have HZ1 := Aside0.mk (KeepBut.blk hKp hZ0 (by omega) (by simp))
    have HI1 := Aside0.mk hI
    have HB1 := Aside0.mk hB
    clear hI hB hKp hI0 hB0 hZ0 HI
    go_wp2_with fail
    refine (HT.out w _ _ HI1.out HB1.out).mono ?_
    rintro y w2 ⟨rfl, hI, hB, hKp⟩
    have HZ2 := Aside0.mk (KeepBut.blk hKp HZ1.out (by omega) (by simp))
    have HI2 := Aside0.mk hI
    have HB2 := Aside0.mk hB
    have hr1 := cellS59_1 hI.1
    clear hI hB hKp HI1 HB1 HZ1 HT
    have hn_ : ¬ (w.heap.size = w.heap.size + 1) := by omega
    have hn_' : ¬ (w.heap.size + 1 = w.heap.size) := by omega
    have hH := HH.out
    clear HH
    by_cases he3 : e3 = 0
    · rw [if_neg (show ¬ (e3 ≠ 0) from fun h => h he3)] at hH
      subst he3
      have HH := Aside0.mk hH
      clear hH
      go_wp2_with fail
      refine (HQ.out w2).mono ?_
      rintro y w3 ⟨v3, rfl, hr, hB⟩
      obtain ⟨A3, c3, rfl⟩ := Kd.R_slice hr
      have hge : w.heap.size + 1 < w3.heap.size := Nat.lt_of_lt_of_le HI2.out.lt hB.size
      have hZ3 : (w3.alloc (.cells #[.int .i64 q1, .string q2, .slice A3 q3.length c3] 43)).heap[w.heap.size]? = _ := blk_alloc (State.blk_below HZ2.out hB) _
      have hI3 := (HI2.out.below hB).alloc (.cells #[.int .i64 q1, .string q2, .slice A3 q3.length c3] 43)
      have hY3 : (w3.alloc (.cells #[.int .i64 q1, .string q2, .slice A3 q3.length c3] 43)).heap[w3.heap.size]? = some (.cells #[.int .i64 q1, .string q2, .slice A3 q3.length c3] 43 (0, 0)) := heap_alloc_new w3 _
      have hR3 := Kd.R_alloc (Kd.R_lower hr HB2.out.size) (.cells #[.int .i64 q1, .string q2, .slice A3 q3.length c3] 43)
      have hB3 := below_alloc (below_step HB2.out hB) (.cells #[.int .i64 q1, .string q2, .slice A3 q3.length c3] 43)
      have hx0 : ∀ o, (w3.alloc o).cell? ⟨w.heap.size + 1, 1, none⟩ = some (.int .i64 0) := fun o => cellS59_1 ((HI2.out.below hB).alloc o).1
      have hx1 : ∀ o, (w3.alloc o).frozen? ⟨w.heap.size + 1, 1, none⟩ = false := fun o => blk_frozen ((HI2.out.below hB).alloc o).1 1
      have HGE := Aside0.mk hge
      clear hr hB HZ2 HI2 HB2 HQ hr1 hge
      go_upto_region 8 with (fail)
      have hge := HGE.out
      have HZ4 := Aside0.mk (blk_far hZ3 (p := ⟨w.heap.size + 1, 1, none⟩) (show w.heap.size ≠ w.heap.size + 1 by omega) (.int .i64 q4))
      have HI4 := Aside0.mk (hI3.set_1 q4)
      have HY4 := Aside0.mk (blk_far hY3 (p := ⟨w.heap.size + 1, 1, none⟩) (show w3.heap.size ≠ w.heap.size + 1 by omega) (.int .i64 q4))
      have HR4 := Aside0.mk (Kd.R_set hR3 hI3.1 (by decide) 1 (.int .i64 q4))
      have HB4 := Aside0.mk (below_set (j := 1) (v := .int .i64 q4) hB3 (show w.heap.size ≤ w.heap.size + 1 by omega))
      clear hZ3 hI3 hY3 hR3 hB3 hx0 hx1
      generalize (w3.alloc (.cells #[.int .i64 q1, .string q2, .slice A3 q3.length c3] 43)).setCell ⟨w.heap.size + 1, 1, none⟩ (.int .i64 q4) = W4 at *
      generalize w3.heap.size = gb at *
      go_wp2_with fail
      refine (HL.out w _ _ HI4.out HB4.out).mono ?_
      rintro y w5 ⟨v5, rfl, hr, hI, hB, hKp⟩
      obtain ⟨A5, c5, rfl⟩ := Kd.R_slice hr
      have HZ5 := Aside0.mk (KeepBut.blk hKp HZ4.out (by omega) (by simp))
      have HY5 := Aside0.mk (KeepBut.blk hKp HY4.out (by omega) (by simp))
      have HI5 := Aside0.mk hI
      have HR5 := Aside0.mk (Kd.R_mono (Kd.R_keep (HI4.out.apart HR4.out (by decide)) hKp (fun _ h => h.2)) (fun _ _ => trivial))
      have HL5 := Aside0.mk (Kd.R_lower hr HB4.out.size)
      have HB5 := Aside0.mk hB
      clear hr hI hB hKp HZ4 HY4 HI4 HR4 HB4 HL
      go_wp2_with fail
      refine (HE.out w _ _ HI5.out HB5.out).mono ?_
      rintro y w6 ⟨rfl, hI, hB, hKp⟩
      have HZ6 := Aside0.mk (KeepBut.blk hKp HZ5.out (by omega) (by simp))
      have HY6 := Aside0.mk (KeepBut.blk hKp HY5.out (by omega) (by simp))
      have HR6 := Aside0.mk (Kd.R_mono (Kd.R_keep (HI5.out.apart HR5.out (by decide)) hKp (fun _ h => h.2)) (fun _ _ => trivial))
      have HL6 := Aside0.mk (Kd.R_mono (Kd.R_keep (HI5.out.apart HL5.out (by decide)) hKp (fun _ h => h.2)) (fun _ _ => trivial))
      have HB6 := Aside0.mk hB
      have hr1 := cellS59_1 hI.1
      clear hI hB hKp HZ5 HY5 HI5 HR5 HL5 HB5 HE
      have hz0 : w6.cell? ⟨w.heap.size, 0, none⟩ = some (.int .i64 0) := (blk_cell HZ6.out 0).trans rfl
      have hz1 : w6.cell? ⟨w.heap.size, 1, none⟩ = some (.int .i64 0) := (blk_cell HZ6.out 1).trans rfl
      have hz2 : w6.cell? ⟨w.heap.size, 2, none⟩ = some (.string ⟨#[]⟩) := (blk_cell HZ6.out 2).trans rfl
      have hz3 : w6.cell? ⟨w.heap.size, 3, none⟩ = some (.slice none 0 0) := (blk_cell HZ6.out 3).trans rfl
      have hz4 : w6.cell? ⟨w.heap.size, 4, none⟩ = some (.slice none 0 0) := (blk_cell HZ6.out 4).trans rfl
      have hzf0 := blk_frozen HZ6.out 0
      have hzf1 := blk_frozen HZ6.out 1
      have hzf2 := blk_frozen HZ6.out 2
      have hzf3 := blk_frozen HZ6.out 3
      have hzf4 := blk_frozen HZ6.out 4
      have hH := HH.out
      clear HH
      by_cases he : e1 = 0
      · rw [if_neg (show ¬ (e1 ≠ 0) from fun h => h he)] at hH
        subst he
        simp only [Prod.mk.injEq] at hH
        obtain ⟨rfl, rfl, rfl, rfl, rfl, rfl⟩ := hH
        have hy0 : w6.cell? ⟨gb, 0, none⟩ = some (.int .i64 q1) := (blk_cell HY6.out 0).trans rfl
        have hy1 : w6.cell? ⟨gb, 1, none⟩ = some (.string q2) := (blk_cell HY6.out 1).trans rfl
        have hy2 : w6.cell? ⟨gb, 2, none⟩ = some (.slice A3 q3.length c3) := (blk_cell HY6.out 2).trans rfl
        go_wp2_with fail
        have hU := put5 HZ6.out (.int .i64 i) (.int .i64 q1) (.string q2) (.slice A3 q3.length c3) (.slice A5 l.length c5)
        have HBe := Upd.under hU HB6.out (Nat.le_refl _)
        have HRe := Kd.R_mono (Kd.R_keep (Kd.R_types HR6.out HZ6.out (by decide)) (Upd.keep hU) (fun _ h => h.2)) (fun _ h => h.1)
        have HLe := Kd.R_mono (Kd.R_keep (Kd.R_types HL6.out HZ6.out (by decide)) (Upd.keep hU) (fun _ h => h.2)) (fun _ h => h.1)
        refine bodyPost_ret (results_ct rfl _ _ w.heap.size 45 #[.int .i64 i, .int .i64 q1, .string q2, .slice A3 q3.length c3, .slice A5 l.length c5] (0, 0) _ rfl hU.here Try.underlying45 rfl (by kernel_rfl)) rfl ?_
        exact ⟨_, _, rfl, HRe, HLe, HBe⟩
      · rw [if_pos he] at hH
        have hb : (e1 != 0) = true := bne_iff_ne.2 he
        simp only [Prod.mk.injEq] at hH
        obtain ⟨rfl, rfl, rfl, rfl, rfl, rfl⟩ := hH
        go_wp2_with fail
        go_region
        go_wp2_with fail
        have hU := put5 HZ6.out (.int .i64 0) (.int .i64 0) (.string ⟨#[]⟩) (.slice none 0 0) (.slice none 0 0)
        have HBe := Upd.under hU HB6.out (Nat.le_refl _)
        refine bodyPost_ret (results_ct rfl _ _ w.heap.size 45 #[.int .i64 0, .int .i64 0, .string ⟨#[]⟩, .slice none 0 0, .slice none 0 0] (0, 0) _ rfl hU.here Try.underlying45 rfl (by kernel_rfl)) rfl ?_
        exact ⟨_, _, rfl, Kd.R_nil _ _ _ _ _, Kd.R_nil _ _ _ _ _, below_drew1 HBe⟩
    · rw [if_pos he3] at hH
      have hb : (e3 != 0) = true := bne_iff_ne.2 he3
      simp only [Prod.mk.injEq] at hH
      obtain ⟨rfl, rfl, rfl, rfl, rfl, rfl⟩ := hH
      have hz0 : w2.cell? ⟨w.heap.size, 0, none⟩ = some (.int .i64 0) := (blk_cell HZ2.out 0).trans rfl
      have hz1 : w2.cell? ⟨w.heap.size, 1, none⟩ = some (.int .i64 0) := (blk_cell HZ2.out 1).trans rfl
      have hz2 : w2.cell? ⟨w.heap.size, 2, none⟩ = some (.string ⟨#[]⟩) := (blk_cell HZ2.out 2).trans rfl
      have hz3 : w2.cell? ⟨w.heap.size, 3, none⟩ = some (.slice none 0 0) := (blk_cell HZ2.out 3).trans rfl
      have hz4 : w2.cell? ⟨w.heap.size, 4, none⟩ = some (.slice none 0 0) := (blk_cell HZ2.out 4).trans rfl
      have hzf0 := blk_frozen HZ2.out 0
      have hzf1 := blk_frozen HZ2.out 1
      have hzf2 := blk_frozen HZ2.out 2
      have hzf3 := blk_frozen HZ2.out 3
      have hzf4 := blk_frozen HZ2.out 4
      go_wp2_with fail
      go_region
      go_wp2_with fail
      have hU := put5 HZ2.out (.int .i64 0) (.int .i64 0) (.string ⟨#[]⟩) (.slice none 0 0) (.slice none 0 0)
      have HBe := Upd.under hU HB2.out (Nat.le_refl _)
      refine bodyPost_ret (results_ct rfl _ _ w.heap.size 45 #[.int .i64 0, .int .i64 0, .string ⟨#[]⟩, .slice none 0 0, .slice none 0 0] (0, 0) _ rfl hU.here Try.underlying45 rfl (by kernel_rfl)) rfl ?_
      exact ⟨_, _, rfl, Kd.R_nil _ _ _ _ _, Kd.R_nil _ _ _ _ _, below_drew1 HBe⟩
  · rw [tuskref08_Decode.f, if_neg hs] at h; cases h
end Go.Proofs.Ytdaklahoainpfaa.DecB
