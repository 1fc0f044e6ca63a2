/- tuskref07.Decode walked. -/
import Derived.Test.YtdaklahoainpfaaDecH
namespace Go.Proofs.Ytdaklahoainpfaa.DecC
open Go.RowKit Go.Proofs.YtdaklahoainpfaaW.PrintWords Go.Proofs.YtdaklahoainpfaaW.PrintLast Go.Proofs.YtdaklahoainpfaaW.PrintMore Go.Proofs.Ytdaklahoainpfaa.Plain01 Go.Proofs.Ytdaklahoainpfaa.WireInt Go.Proofs.Ytdaklahoainpfaa.Ref01 Go.Proofs.Ytdaklahoainpfaa.QKinds Go.Proofs.Ytdaklahoainpfaa.QBaseR Go.Proofs.Ytdaklahoainpfaa.PlainR Go.Proofs.Ytdaklahoainpfaa.TakeR Go.Proofs.Ytdaklahoainpfaa.Hdec Go.Proofs.Ytdaklahoainpfaa.State Go.Proofs.Ytdaklahoainpfaa.DecR
set_option linter.unusedVariables false
set_option linter.unusedSimpArgs false
abbrev Cd := Int × Int × List RefT × List ByteArray × List Tag × Int
/-- A certificate's end: votes and what is left. -/
def cend (h : Hd) (g : List Tag × ByteArray × Int) : Cd := if eEnd g.2.1 g.2.2 ≠ 0 then (0, 0, [], [], [], eEnd g.2.1 g.2.2) else (h.1, h.2.1, h.2.2.1, h.2.2.2.1, g.1, 0)
def cdec (s : ByteArray) : Cd := if (tkT s 0).2.2 ≠ 0 then (0, 0, [], [], [], (tkT s 0).2.2) else cend (hdec (tkT s 0).1) (tkG (tkT s 0).2.1 (hdec (tkT s 0).1).2.2.2.2)
theorem tkT_val (s : ByteArray) (e : Int) : (tkT s e).1.size ≤ s.size := by unfold tkT; split; exact text_le s; exact Nat.zero_le _
theorem put5 {W : World} {g t : Nat} {c0 c1 c2 c3 c4 : Value} (h : W.heap[g]? = some (.cells #[c0, c1, c2, c3, c4] t (0, 0))) (a b c d e : Value) :
    Upd W (((((W.setCell ⟨g, 0, none⟩ a).setCell ⟨g, 1, none⟩ b).setCell ⟨g, 2, none⟩ c).setCell ⟨g, 3, none⟩ d).setCell ⟨g, 4, none⟩ e) g (.cells #[a, b, c, d, e] t (0, 0)) := (((((Upd.refl h).store a).store b).store c).store d).store e
abbrev zeroC : Obj := .cells #[.int .i64 0, .int .i64 0, .slice none 0 0, .slice none 0 0, .slice none 0 0] 28 (0, 0)
/-- Where things lie ahead of the votes. -/
structure CJ (w W : World) (gb : Nat) (s : ByteArray) (e d1 d2 : Int) (v2 v3 : Value) (L : List RefT) (P : List ByteArray) : Prop where
  z : W.heap[w.heap.size]? = some zeroC
  i : IsS59 w W (w.heap.size + 1) s e
  y : W.heap[gb]? = some (.cells #[.int .i64 d1, .int .i64 d2, v2, v3] 25 (0, 0))
  own : Kd.S k69 69 W w.heap.size (fun _ => True) v2 L
  own3 : Kd.R Kd.string 9 W w.heap.size (fun _ => True) v3 P
  b : Below w.heap.size w W
  ge : w.heap.size + 2 ≤ gb
/-- Behind the votes. -/
structure CK (w W : World) (gb : Nat) (s : ByteArray) (e d1 d2 : Int) (v2 v3 v4 : Value) (L : List RefT) (P : List ByteArray) (V : List Tag) : Prop where
  z : W.heap[w.heap.size]? = some zeroC
  i : IsS59 w W (w.heap.size + 1) s e
  y : W.heap[gb]? = some (.cells #[.int .i64 d1, .int .i64 d2, v2, v3, v4] 28 (0, 0))
  own : Kd.S k69 69 W w.heap.size (fun k_ => some k_ ≠ v4.ownBlock) v2 L
  own3 : Kd.R Kd.string 9 W w.heap.size (fun _ => True) v3 P
  own4 : Kd.R k77 77 W w.heap.size (fun _ => True) v4 V
  b : Below w.heap.size w W
  ge : w.heap.size + 2 ≤ gb
section
variable {w W W' : World} {gb : Nat} {s s' : ByteArray} {e e' d1 d2 : Int} {v2 v3 v4 : Value} {L : List RefT} {P : List ByteArray} {V : List Tag}
theorem CJ.alloc (h : CJ w W gb s e d1 d2 v2 v3 L P) (o : Obj) : CJ w (W.alloc o) gb s e d1 d2 v2 v3 L P := ⟨blk_alloc h.z _, h.i.alloc _, blk_alloc h.y _, Kd.S_alloc h.own _, Kd.R_alloc h.own3 _, below_alloc h.b _, h.ge⟩
theorem CJ.drew (h : CJ w W gb s e d1 d2 v2 v3 L P) : CJ w W.drew gb s e d1 d2 v2 v3 L P := ⟨h.z, h.i, h.y, Kd.S_drew h.own, Kd.R_drew h.own3, below_drew1 h.b, h.ge⟩
theorem CJ.cells (h : CJ w W gb s e d1 d2 v2 v3 L P) : W.cell? ⟨gb, 0, none⟩ = some (.int .i64 d1) ∧ W.cell? ⟨gb, 1, none⟩ = some (.int .i64 d2) ∧ W.cell? ⟨gb, 2, none⟩ = some v2 ∧ W.cell? ⟨gb, 3, none⟩ = some v3 :=
  ⟨(blk_cell h.y 0).trans rfl, (blk_cell h.y 1).trans rfl, (blk_cell h.y 2).trans rfl, (blk_cell h.y 3).trans rfl⟩
theorem CJ.setE (h : CJ w W gb s e d1 d2 v2 v3 L P) (x : Int) : CJ w (W.setCell ⟨w.heap.size + 1, 1, none⟩ (.int .i64 x)) gb s x d1 d2 v2 v3 L P := by
  have hge := h.ge
  exact ⟨blk_far h.z (show w.heap.size ≠ w.heap.size + 1 by omega) _, h.i.set_1 x, blk_far h.y (show gb ≠ w.heap.size + 1 by omega) _, Kd.S_set h.own h.i.1 (by decide) 1 _, Kd.R_set h.own3 h.i.1 (by decide) 1 _, below_set h.b (by omega), hge⟩
/-- The call of Some. -/
theorem CJ.votes (h : CJ w W gb s e d1 d2 v2 v3 L P) (hk : KeepBut W W' (w.heap.size + 1) none) (hi : IsS59 w W' (w.heap.size + 1) s' e') (hb : Below w.heap.size w W') (hr : Kd.R k77 77 W' W.heap.size (fun _ => True) v4 V) :
    CJ w W' gb s' e' d1 d2 v2 v3 L P ∧ Kd.S k69 69 W' w.heap.size (fun k_ => some k_ ≠ v4.ownBlock) v2 L ∧ Kd.R k77 77 W' w.heap.size (fun _ => True) v4 V := by
  have hge := h.ge
  have ho := Kd.S_oldK (h.i.apartS h.own (by decide)) hk
  exact ⟨⟨hk.blk h.z (by omega) (by simp), hi, hk.blk h.y (by omega) (by simp), Kd.S_mono ho (fun _ _ => trivial), Kd.R_mono (Kd.R_keep (h.i.apart h.own3 (by decide)) hk (fun _ h => h.2)) (fun _ _ => trivial), hb, hge⟩, Kd.S_mono (Kd.S_told ho (Kd.R_base hr)) (fun _ h => h.1.2), Kd.R_lower hr h.b.size⟩
theorem CK.res (h : CK w W gb s e d1 d2 v2 v3 v4 L P V) : (W.cell? ⟨w.heap.size, 0, none⟩ = some (.int .i64 0) ∧ W.cell? ⟨w.heap.size, 1, none⟩ = some (.int .i64 0) ∧ W.cell? ⟨w.heap.size, 2, none⟩ = some (.slice none 0 0) ∧ W.cell? ⟨w.heap.size, 3, none⟩ = some (.slice none 0 0) ∧ W.cell? ⟨w.heap.size, 4, none⟩ = some (.slice none 0 0)) ∧ W.frozen? ⟨w.heap.size, 0, none⟩ = false ∧ W.frozen? ⟨w.heap.size, 1, none⟩ = false ∧ W.frozen? ⟨w.heap.size, 2, none⟩ = false ∧ W.frozen? ⟨w.heap.size, 3, none⟩ = false ∧ W.frozen? ⟨w.heap.size, 4, none⟩ = false :=
  ⟨⟨(blk_cell h.z 0).trans rfl, (blk_cell h.z 1).trans rfl, (blk_cell h.z 2).trans rfl, (blk_cell h.z 3).trans rfl, (blk_cell h.z 4).trans rfl⟩, blk_frozen h.z 0, blk_frozen h.z 1, blk_frozen h.z 2, blk_frozen h.z 3, blk_frozen h.z 4⟩
theorem CK.cells (h : CK w W gb s e d1 d2 v2 v3 v4 L P V) : W.cell? ⟨gb, 0, none⟩ = some (.int .i64 d1) ∧ W.cell? ⟨gb, 1, none⟩ = some (.int .i64 d2) ∧ W.cell? ⟨gb, 2, none⟩ = some v2 ∧ W.cell? ⟨gb, 3, none⟩ = some v3 ∧ W.cell? ⟨gb, 4, none⟩ = some v4 :=
  ⟨(blk_cell h.y 0).trans rfl, (blk_cell h.y 1).trans rfl, (blk_cell h.y 2).trans rfl, (blk_cell h.y 3).trans rfl, (blk_cell h.y 4).trans rfl⟩
theorem CK.fin (h : CK w W gb s e d1 d2 v2 v3 v4 L P V) (hk : KeepBut W W' (w.heap.size + 1) none) (hi : IsS59 w W' (w.heap.size + 1) s' e') (hb : Below w.heap.size w W') : CK w W' gb s' e' d1 d2 v2 v3 v4 L P V := by
  have hge := h.ge
  exact ⟨hk.blk h.z (by omega) (by simp), hi, hk.blk h.y (by omega) (by simp), Kd.S_mono (Kd.S_keep (h.i.apartS h.own (by decide)) hk (fun _ h => h.2)) (fun _ h => h.1), Kd.R_mono (Kd.R_keep (h.i.apart h.own3 (by decide)) hk (fun _ h => h.2)) (fun _ _ => trivial), Kd.R_mono (Kd.R_keep (h.i.apart h.own4 (by decide)) hk (fun _ h => h.2)) (fun _ _ => trivial), hb, hge⟩
/-- Votes read, then the box. -/
theorem CJ.boxed (h : CJ w W gb s e d1 d2 v2 v3 L P) (hS : Kd.S k69 69 W w.heap.size (fun k_ => some k_ ≠ v4.ownBlock) v2 L) (hR : Kd.R k77 77 W w.heap.size (fun _ => True) v4 V) : CK w (W.alloc (.cells #[.int .i64 d1, .int .i64 d2, v2, v3, v4] 28)) W.heap.size s e d1 d2 v2 v3 v4 L P V :=
  ⟨blk_alloc h.z _, h.i.alloc _, heap_alloc_new _ _, Kd.S_alloc hS _, Kd.R_alloc h.own3 _, Kd.R_alloc hR _, below_alloc h.b _, by have := h.i.lt; omega⟩
/-- The box first, then votes, then the store. -/
theorem CJ.stored {g8 : Nat} {c0 c1 c2 c3 c4 : Value} (h : CJ w W gb s e d1 d2 v2 v3 L P) (hS : Kd.S k69 69 W w.heap.size (fun k_ => some k_ ≠ v4.ownBlock) v2 L) (hR : Kd.R k77 77 W w.heap.size (fun _ => True) v4 V) (hy : W.heap[g8]? = some (.cells #[c0, c1, c2, c3, c4] 28 (0, 0))) (hg : w.heap.size + 2 ≤ g8) :
    CK w (((((W.setCell ⟨g8, 0, none⟩ (.int .i64 d1)).setCell ⟨g8, 1, none⟩ (.int .i64 d2)).setCell ⟨g8, 2, none⟩ v2).setCell ⟨g8, 3, none⟩ v3).setCell ⟨g8, 4, none⟩ v4) g8 s e d1 d2 v2 v3 v4 L P V := by
  have hU := put5 hy (.int .i64 d1) (.int .i64 d2) v2 v3 v4
  exact ⟨hU.other h.z (by omega), Upd.is hU h.i (by omega), hU.here, Kd.S_mono (Kd.S_keep (Kd.S_types hS hy (by decide)) (Upd.keep hU) (fun _ h => h.2)) (fun _ h => h.1), Kd.R_mono (Kd.R_keep (Kd.R_types h.own3 hy (by decide)) (Upd.keep hU) (fun _ h => h.2)) (fun _ _ => trivial), Kd.R_mono (Kd.R_keep (Kd.R_types hR hy (by decide)) (Upd.keep hU) (fun _ h => h.2)) (fun _ _ => trivial), Upd.under hU h.b (by omega), hg⟩
end
def tuskref07_Decode.f (a0 : ByteArray) : Option (Int × Int × List RefT × List ByteArray × List Tag × Int) := if a0.size ≤ 1048576 then some (cdec a0) else none
set_option maxHeartbeats 8000000 in
set_option maxRecDepth 100000 in
theorem tuskref07_Decode.calls (a0 : ByteArray) (r1 : Int) (r2 : Int) (r3 : List RefT) (r4 : List ByteArray) (r5 : List Tag) (r6 : Int) (w : World) (h : tuskref07_Decode.f a0 = some (r1, r2, r3, r4, r5, r6)) :
    Calls Try.prog 7 #[.string a0] w fun e w' => ∃ v2_ v3_ v4_ : Value, e = .returned (.tuple #[.agg #[.int .i64 r1, .int .i64 r2, v2_, v3_, v4_], .int .i64 r6]) ∧ Kd.S k69 69 w' w.heap.size (fun k_ => some k_ ≠ (v4_ : Value).ownBlock) v2_ r3 ∧ Kd.R Kd.string 9 w' w.heap.size (fun _ => True) v3_ r4 ∧ Kd.R k77 77 w' w.heap.size (fun _ => True) v4_ r5 ∧ Below w.heap.size w w' := by
  have hu28 := Try.underlying28
  have hu25 := Try.underlying25
  have hu59 := Try.underlying59
  by_cases hs : a0.size ≤ 1048576
  · rw [tuskref07_Decode.f, if_pos hs] at h
    injection h with h
    have hv : (tkT a0 0).1.size ≤ 1048576 := Nat.le_trans (tkT_val _ _) hs
    have hr : (tkT a0 0).2.1.size ≤ 1048576 := Nat.le_trans (tkT_le _ _) hs
    have HT := Aside0.mk (fun (w0 W : World) (g : Nat) (hI : IsS59 w0 W g a0 0) (hB : Below w0.heap.size w0 W) => tuskref04_In_Text.calls g a0 0 (tkT a0 0).1 (tkT a0 0).2.1 (tkT a0 0).2.2 w0 W hI hB (in_text a0 0 hs))
    have HD := Aside0.mk (fun (W : World) => tuskref06_Decode.calls (tkT a0 0).1 (hdec (tkT a0 0).1).1 (hdec (tkT a0 0).1).2.1 (hdec (tkT a0 0).1).2.2.1 (hdec (tkT a0 0).1).2.2.2.1 (hdec (tkT a0 0).1).2.2.2.2 W (by rw [tuskref06_Decode.f, if_pos hv]))
    obtain ⟨K, hK⟩ := in_some (tkT a0 0).2.1 (hdec (tkT a0 0).1).2.2.2.2 hr
    have hK := hK K (Nat.le_refl _)
    rw [cdec] at h
    generalize tkT a0 0 = t at *
    obtain ⟨tx, ts, te⟩ := t
    dsimp only at HT HD hK h
    generalize hdec tx = hd at *
    obtain ⟨d1, d2, d3, d4, d5⟩ := hd
    dsimp only at HD hK h
    have HG := Aside0.mk (fun (w0 W : World) (g : Nat) (hI : IsS59 w0 W g ts d5) (hB : Below w0.heap.size w0 W) => tuskref06_Some.calls K g ts d5 (tkG ts d5).1 (tkG ts d5).2.1 (tkG ts d5).2.2 w0 W hI hB hK)
    generalize tkG ts d5 = gg at *
    obtain ⟨gx, gs, ge⟩ := gg
    dsimp only at HG h
    have HE := Aside0.mk (fun (w0 W : World) (g : Nat) (hI : IsS59 w0 W g gs ge) (hB : Below w0.heap.size w0 W) => tuskref04_In_End.calls g gs ge _ _ w0 W hI hB (in_end gs ge))
    have HH : Aside0 ((te ≠ 0 → ((0, 0, [], [], [], te) : Cd) = (r1, r2, r3, r4, r5, r6)) ∧ (te = 0 → eEnd gs ge ≠ 0 → ((0, 0, [], [], [], eEnd gs ge) : Cd) = (r1, r2, r3, r4, r5, r6)) ∧ (te = 0 → eEnd gs ge = 0 → ((d1, d2, d3, d4, gx, 0) : Cd) = (r1, r2, r3, r4, r5, r6))) :=
      ⟨fun h1 => by rw [if_pos h1] at h; exact h, fun h1 h2 => by rw [if_neg (by omega), cend, if_pos h2] at h; exact h, fun h1 h2 => by rw [if_neg (by omega), cend, if_neg (by show ¬ (eEnd gs ge ≠ 0); omega)] at h; exact h⟩
    clear h hK hs hv hr
    generalize eEnd gs ge = e1 at *
    go_enter Try.func7, Try.ntmps7
    go_wp2_with fail
    have hI0 : IsS59 w ((w.alloc (.cells #[.int .i64 0, .int .i64 0, .slice none 0 0, .slice none 0 0, .slice none 0 0] 28)).alloc (.cells #[.string a0, .int .i64 0] 59)) (w.heap.size + 1) a0 0 := by
      have h := IsS59.new w (w.alloc (.cells #[.int .i64 0, .int .i64 0, .slice none 0 0, .slice none 0 0, .slice none 0 0] 28)) a0 0 (below_alloc (Below.refl _ _) _)
      rw [show (w.alloc (.cells #[.int .i64 0, .int .i64 0, .slice none 0 0, .slice none 0 0, .slice none 0 0] 28)).heap.size = w.heap.size + 1 from by simp] at h; exact h
    have hB0 : Below w.heap.size w ((w.alloc (.cells #[.int .i64 0, .int .i64 0, .slice none 0 0, .slice none 0 0, .slice none 0 0] 28)).alloc (.cells #[.string a0, .int .i64 0] 59)) := below_alloc (below_alloc (Below.refl _ _) _) _
    have hZ0 : ((w.alloc (.cells #[.int .i64 0, .int .i64 0, .slice none 0 0, .slice none 0 0, .slice none 0 0] 28)).alloc (.cells #[.string a0, .int .i64 0] 59)).heap[w.heap.size]? = some zeroC := blk_alloc (heap_alloc_new w _) _
    generalize (w.alloc (.cells #[.int .i64 0, .int .i64 0, .slice none 0 0, .slice none 0 0, .slice none 0 0] 28)).alloc (.cells #[.string a0, .int .i64 0] 59) = W0 at *
    refine (HT.out w _ _ hI0 hB0).mono ?_
    rintro y w1 ⟨rfl, hI, hB, hKp⟩
    have HZ1 := Aside0.mk (KeepBut.blk hKp hZ0 (by omega) (by simp))
    have HI1 := Aside0.mk hI
    have HB1 := Aside0.mk hB
    have hr1 := cellS59_1 hI.1
    clear hI hB hKp hI0 hB0 hZ0 HT
    have hn_ : ¬ (w.heap.size = w.heap.size + 1) := by omega
    have hn_' : ¬ (w.heap.size + 1 = w.heap.size) := by omega
    by_cases he : te = 0
    · obtain ⟨h1, h2⟩ := HH.out.2
      have HH2 := Aside0.mk (⟨h1 he, h2 he⟩ : _ ∧ _)
      subst he
      clear HH h1 h2
      go_wp2_with fail
      refine (HD.out w1).mono ?_
      rintro y w2 ⟨v2, v3, rfl, hS, hR, hB⟩
      obtain ⟨A2, c2, rfl⟩ := Kd.S_slice hS
      obtain ⟨A3, c3, rfl⟩ := Kd.R_slice hR
      have hbb := below_step HB1.out hB
      have hge2 : w.heap.size + 1 < w2.heap.size := Nat.lt_of_lt_of_le HI1.out.lt hB.size
      have hCJ0 : CJ w (w2.alloc (.cells #[.int .i64 d1, .int .i64 d2, .slice A2 d3.length c2, .slice A3 d4.length c3] 25)) w2.heap.size ts 0 d1 d2 (.slice A2 d3.length c2) (.slice A3 d4.length c3) d3 d4 :=
        ⟨blk_alloc (State.blk_below HZ1.out hB) _, (HI1.out.below hB).alloc _, heap_alloc_new _ _, Kd.S_alloc (Kd.S_lower hS HB1.out.size) _, Kd.R_alloc (Kd.R_lower hR HB1.out.size) _, below_alloc hbb _, by omega⟩
      have hx0 : ∀ o, (w2.alloc o).cell? ⟨w.heap.size + 1, 1, none⟩ = some (.int .i64 0) := fun o => cellS59_1 ((HI1.out.below hB).alloc o).1
      have hx1 : ∀ o, (w2.alloc o).frozen? ⟨w.heap.size + 1, 1, none⟩ = false := fun o => blk_frozen ((HI1.out.below hB).alloc o).1 1
      have HCJ0 := Aside0.mk hCJ0
      clear hS hR hB hbb HZ1 HI1 HB1 hr1 hge2 hCJ0 HD
      go_upto_region 7 with (fail)
      have hCJ1 := HCJ0.out.setE d5
      clear HCJ0 hx0 hx1
      generalize (w2.alloc (.cells #[.int .i64 d1, .int .i64 d2, .slice A2 d3.length c2, .slice A3 d4.length c3] 25)).setCell ⟨w.heap.size + 1, 1, none⟩ (.int .i64 d5) = W4 at *
      generalize w2.heap.size = gb at *
      have HCJ0 := Aside0.mk hCJ1
      have HCJ := Aside0.mk hCJ1.drew
      clear hCJ1
      have hge := HCJ.out.ge
      have hsz4 : w.heap.size + 1 < W4.heap.size := HCJ.out.i.lt
      go_cut [8] (fun v8 wc => ∃ (g8 : Nat) (A4 : Option Addr) (c4 : Nat), v8 = .pointer (some ⟨g8, 0, none⟩) ∧ Aside0 (CK w wc g8 gs ge d1 d2 (.slice A2 d3.length c2) (.slice A3 d4.length c3) (.slice A4 gx.length c4) d3 d4 gx))
      case first =>
        obtain ⟨hy0, hy1, hy2, hy3⟩ := HCJ.out.cells
        have ha0 : ∀ o, (W4.alloc o).drew.cell? ⟨gb, 0, none⟩ = some (.int .i64 d1) := fun o => (HCJ0.out.alloc o).drew.cells.1
        have ha1 : ∀ o, (W4.alloc o).drew.cell? ⟨gb, 1, none⟩ = some (.int .i64 d2) := fun o => (HCJ0.out.alloc o).drew.cells.2.1
        have ha2 : ∀ o, (W4.alloc o).drew.cell? ⟨gb, 2, none⟩ = some (.slice A2 d3.length c2) := fun o => (HCJ0.out.alloc o).drew.cells.2.2.1
        have ha3 : ∀ o, (W4.alloc o).drew.cell? ⟨gb, 3, none⟩ = some (.slice A3 d4.length c3) := fun o => (HCJ0.out.alloc o).drew.cells.2.2.2
        go_region_law (first
          | (refine goes_ Try.func29 (by kernel_rfl) rfl #[.pointer (some ⟨w.heap.size + 1, 0, none⟩)] (by rfl) (by rfl) (by rfl) (by simp only [List.map_toArray, List.map_cons, List.map_nil]; rfl) ?_; refine (HG.out w W4.drew _ HCJ.out.i HCJ.out.b).mono ?_; rintro y5 w5 ⟨v4, rfl, hr5, hi5, hb5, hk5⟩; refine ⟨_, rfl, ?_⟩; obtain ⟨A4, c4, rfl⟩ := Kd.R_slice hr5; obtain ⟨k1, k2, k3⟩ := HCJ.out.votes hk5 hi5 hb5 hr5; have K1 := Aside0.mk k1; have K2 := Aside0.mk k2; have K3 := Aside0.mk k3; have hz0 := k1.cells.1; have hz1 := k1.cells.2.1; have hz2 := k1.cells.2.2.1; have hz3 := k1.cells.2.2.2; have hb0 : ∀ o, (w5.alloc o).cell? ⟨gb, 0, none⟩ = some (.int .i64 d1) := (fun o => (K1.out.alloc o).cells.1); have hb1 : ∀ o, (w5.alloc o).cell? ⟨gb, 1, none⟩ = some (.int .i64 d2) := (fun o => (K1.out.alloc o).cells.2.1); have hb2 : ∀ o, (w5.alloc o).cell? ⟨gb, 2, none⟩ = some (.slice A2 d3.length c2) := (fun o => (K1.out.alloc o).cells.2.2.1); have hb3 : ∀ o, (w5.alloc o).cell? ⟨gb, 3, none⟩ = some (.slice A3 d4.length c3) := (fun o => (K1.out.alloc o).cells.2.2.2); clear k1 k2 k3 hr5 hi5 hb5 hk5)
          | (refine goes_ Try.func29 (by kernel_rfl) rfl #[.pointer (some ⟨w.heap.size + 1, 0, none⟩)] (by rfl) (by rfl) (by rfl) (by simp only [List.map_toArray, List.map_cons, List.map_nil]; rfl) ?_; refine (HG.out w (W4.alloc _).drew _ (HCJ0.out.alloc _).drew.i (HCJ0.out.alloc _).drew.b).mono ?_; rintro y5 w5 ⟨v4, rfl, hr5, hi5, hb5, hk5⟩; refine ⟨_, rfl, ?_⟩; obtain ⟨A4, c4, rfl⟩ := Kd.R_slice hr5; obtain ⟨k1, k2, k3⟩ := (HCJ0.out.alloc _).drew.votes hk5 hi5 hb5 hr5; have hnew : w5.heap[W4.heap.size]? = some zeroC := (KeepBut.blk hk5 (heap_alloc_new W4 _) (by show ¬ (W4.heap.size = w.heap.size + 1); omega) (by simp)); have HNEW := Aside0.mk hnew; have K1 := Aside0.mk k1; have K2 := Aside0.mk k2; have K3 := Aside0.mk k3; have hz0 := k1.cells.1; have hz1 := k1.cells.2.1; have hz2 := k1.cells.2.2.1; have hz3 := k1.cells.2.2.2; have hq0 : w5.cell? ⟨W4.heap.size, 0, none⟩ = some (.int .i64 0) := (blk_cell hnew 0).trans rfl; have hq1 : w5.cell? ⟨W4.heap.size, 1, none⟩ = some (.int .i64 0) := (blk_cell hnew 1).trans rfl; have hq2 : w5.cell? ⟨W4.heap.size, 2, none⟩ = some (.slice none 0 0) := (blk_cell hnew 2).trans rfl; have hq3 : w5.cell? ⟨W4.heap.size, 3, none⟩ = some (.slice none 0 0) := (blk_cell hnew 3).trans rfl; have hq4 : w5.cell? ⟨W4.heap.size, 4, none⟩ = some (.slice none 0 0) := (blk_cell hnew 4).trans rfl; have hf0 := blk_frozen hnew 0; have hf1 := blk_frozen hnew 1; have hf2 := blk_frozen hnew 2; have hf3 := blk_frozen hnew 3; have hf4 := blk_frozen hnew 4; clear hnew k1 k2 k3 hr5 hi5 hb5 hk5))
        all_goals
          go_wp2_with fail
          go_meet
          first | (have h_ := HNEW.out; exact ⟨_, _, _, rfl, ⟨CJ.stored K1.out K2.out K3.out h_ (by omega)⟩⟩) | exact ⟨_, _, _, rfl, ⟨CJ.boxed K1.out K2.out K3.out⟩⟩
      case rest =>
        clear HCJ HCJ0 HG hsz4 hge
        obtain ⟨g8, A4, c4, rfl, HCK⟩ := hcut
        have hge := HCK.out.ge
        go_wp2_with fail
        refine (HE.out w _ _ HCK.out.i HCK.out.b).mono ?_
        rintro y w7 ⟨rfl, hi, hb, hk⟩
        have HCK2 := Aside0.mk (HCK.out.fin hk hi hb)
        clear HCK HE hi hb hk
        have hr1 := cellS59_1 HCK2.out.i.1
        obtain ⟨⟨hz0, hz1, hz2, hz3, hz4⟩, hzf0, hzf1, hzf2, hzf3, hzf4⟩ := HCK2.out.res
        by_cases he1 : e1 = 0
        · have hres := HH2.out.2 he1
          subst he1
          clear HH2
          simp only [Prod.mk.injEq] at hres
          obtain ⟨rfl, rfl, rfl, rfl, rfl, rfl⟩ := hres
          obtain ⟨hy0, hy1, hy2, hy3, hy4⟩ := HCK2.out.cells
          go_wp2_with fail
          have hU := put5 HCK2.out.z (.int .i64 d1) (.int .i64 d2) (.slice A2 d3.length c2) (.slice A3 d4.length c3) (.slice A4 gx.length c4)
          have HB3 := Upd.under hU HCK2.out.b (Nat.le_refl _)
          have HS3 := Kd.S_mono (Kd.S_keep (Kd.S_types HCK2.out.own HCK2.out.z (by decide)) (Upd.keep hU) (fun _ h => h.2)) (fun _ h => h.1)
          have HR3 := Kd.R_mono (Kd.R_keep (Kd.R_types HCK2.out.own3 HCK2.out.z (by decide)) (Upd.keep hU) (fun _ h => h.2)) (fun _ h => h.1)
          have HR4 := Kd.R_mono (Kd.R_keep (Kd.R_types HCK2.out.own4 HCK2.out.z (by decide)) (Upd.keep hU) (fun _ h => h.2)) (fun _ h => h.1)
          refine bodyPost_ret (results_ct rfl _ _ w.heap.size 28 #[.int .i64 d1, .int .i64 d2, .slice A2 d3.length c2, .slice A3 d4.length c3, .slice A4 gx.length c4] (0, 0) _ rfl hU.here Try.underlying28 rfl (by kernel_rfl)) rfl ?_
          exact ⟨_, _, _, rfl, HS3, HR3, HR4, HB3⟩
        · have hres := HH2.out.1 he1
          clear HH2
          simp only [Prod.mk.injEq] at hres
          obtain ⟨rfl, rfl, rfl, rfl, rfl, rfl⟩ := hres
          have hb : (e1 != 0) = true := bne_iff_ne.2 he1
          go_wp2_with fail
          go_region
          go_wp2_with fail
          have hU := put5 HCK2.out.z (.int .i64 0) (.int .i64 0) (.slice none 0 0) (.slice none 0 0) (.slice none 0 0)
          have HB3 := Upd.under hU HCK2.out.b (Nat.le_refl _)
          refine bodyPost_ret (results_ct rfl _ _ w.heap.size 28 #[.int .i64 0, .int .i64 0, .slice none 0 0, .slice none 0 0, .slice none 0 0] (0, 0) _ rfl hU.here Try.underlying28 rfl (by kernel_rfl)) rfl ?_
          exact ⟨_, _, _, rfl, Kd.S_nil _ _ _ _ _, Kd.R_nil _ _ _ _ _, Kd.R_nil _ _ _ _ _, below_drew1 HB3⟩
    · have hres := HH.out.1 he
      clear HH HD HG HE
      simp only [Prod.mk.injEq] at hres
      obtain ⟨rfl, rfl, rfl, rfl, rfl, rfl⟩ := hres
      have hb : (te != 0) = true := bne_iff_ne.2 he
      have hz0 : w1.cell? ⟨w.heap.size, 0, none⟩ = some (.int .i64 0) := (blk_cell HZ1.out 0).trans rfl
      have hz1 : w1.cell? ⟨w.heap.size, 1, none⟩ = some (.int .i64 0) := (blk_cell HZ1.out 1).trans rfl
      have hz2 : w1.cell? ⟨w.heap.size, 2, none⟩ = some (.slice none 0 0) := (blk_cell HZ1.out 2).trans rfl
      have hz3 : w1.cell? ⟨w.heap.size, 3, none⟩ = some (.slice none 0 0) := (blk_cell HZ1.out 3).trans rfl
      have hz4 : w1.cell? ⟨w.heap.size, 4, none⟩ = some (.slice none 0 0) := (blk_cell HZ1.out 4).trans rfl
      have hzf0 := blk_frozen HZ1.out 0
      have hzf1 := blk_frozen HZ1.out 1
      have hzf2 := blk_frozen HZ1.out 2
      have hzf3 := blk_frozen HZ1.out 3
      have hzf4 := blk_frozen HZ1.out 4
      go_wp2_with fail
      go_region
      go_wp2_with fail
      have hU := put5 HZ1.out (.int .i64 0) (.int .i64 0) (.slice none 0 0) (.slice none 0 0) (.slice none 0 0)
      have HB3 := Upd.under hU HB1.out (Nat.le_refl _)
      refine bodyPost_ret (results_ct rfl _ _ w.heap.size 28 #[.int .i64 0, .int .i64 0, .slice none 0 0, .slice none 0 0, .slice none 0 0] (0, 0) _ rfl hU.here Try.underlying28 rfl (by kernel_rfl)) rfl ?_
      exact ⟨_, _, _, rfl, Kd.S_nil _ _ _ _ _, Kd.R_nil _ _ _ _ _, Kd.R_nil _ _ _ _ _, below_drew1 HB3⟩
  · rw [tuskref07_Decode.f, if_neg hs] at h; cases h
end Go.Proofs.Ytdaklahoainpfaa.DecC
