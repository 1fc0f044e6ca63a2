/- header.take walked, at each of its four readers. -/
import Derived.Test.YtdaklahoainpfaaPlainR
import Derived.Test.YtdaklahoainpfaaState
import Derived.Tactics
import Derived.WalkKit
import Derived.KernelRfl
import Derived.LoopTactic
import Derived.Outline
import Derived.Sort.AtCall
namespace Go.Proofs.Ytdaklahoainpfaa.TakeR
open Go.RowKit Go.Proofs.YtdaklahoainpfaaW.PrintWords Go.Proofs.YtdaklahoainpfaaW.PrintLast Go.Proofs.YtdaklahoainpfaaW.PrintMore Go.Proofs.Ytdaklahoainpfaa.Plain01 Go.Proofs.Ytdaklahoainpfaa.WireInt Go.Proofs.Ytdaklahoainpfaa.Ref01 Go.Proofs.Ytdaklahoainpfaa.QKinds Go.Proofs.Ytdaklahoainpfaa.QBaseR Go.Proofs.Ytdaklahoainpfaa.PlainR Go.Proofs.Ytdaklahoainpfaa.State
set_option linter.unusedVariables false
set_option linter.unusedSimpArgs false
/-- A reader's block: what is left, and the first error. -/
abbrev rdo (s : ByteArray) (e : Int) : Obj := .cells #[.string s, .int .i64 e] 63 (0, 0)
def cut (s : ByteArray) (n : Int) : ByteArray := s.extract n.toNat s.size
/-- What is read: the value, what is left, the error. -/
def tkI (s : ByteArray) (e : Int) : Int × ByteArray × Int := if e = 0 then ((wireGet s).1, cut s (wireGet s).2.1, (wireGet s).2.2) else (0, s, e)
def tkT (s : ByteArray) (e : Int) : ByteArray × ByteArray × Int := if e = 0 then ((wireGetText s).1, cut s (wireGetText s).2.1, (wireGetText s).2.2) else (⟨#[]⟩, s, e)
def tkG (s : ByteArray) (e : Int) : List Tag × ByteArray × Int := if e = 0 then ((gtags s).1, cut s (gtags s).2.1, (gtags s).2.2) else ([], s, e)
def tkL (s : ByteArray) (e : Int) : List ByteArray × ByteArray × Int := if e = 0 then ((wireGetList s 7).1, cut s (wireGetList s 7).2.1, (wireGetList s 7).2.2) else ([], s, e)
theorem cut_le (s : ByteArray) (n : Int) : (cut s n).size ≤ s.size := by unfold cut; rw [ByteArray.size_extract]; omega
theorem parents (g : Nat) (s : ByteArray) (hs : s.size ≤ 1048576) (w : World) : Calls Try.prog 36 #[.pointer (some ⟨g, 0, none⟩), .string s] w fun x w' => ∃ v, x = .returned (.tuple #[v, .int .i64 (wireGetList s 7).2.1, .int .i64 (wireGetList s 7).2.2]) ∧ Kd.string.R 9 w' w.heap.size (fun _ => True) v (wireGetList s 7).1 ∧ Below w.heap.size w w' := by
  have HC := Aside0.mk (fun (W : World) => wire_GetList.calls s 7 (wireGetList s 7).1 (wireGetList s 7).2.1 (wireGetList s 7).2.2 W (by rw [wire_GetList.f, if_pos (by omega)]))
  generalize wireGetList s 7 = x at *
  go_enter Try.func36, Try.ntmps36
  go_wp2_with fail
  refine (HC.out _).mono ?_
  rintro y w1 ⟨v, rfl, hr, hb⟩
  obtain ⟨A, c, rfl⟩ := Kd.R_slice hr
  have HR := Aside0.mk hr
  have HB := Aside0.mk hb
  clear hr hb
  go_wp2_with fail
  go_ret3
  exact ⟨_, rfl, HR.out, HB.out⟩
section
variable {g : Nat} {s : ByteArray} {e : Int} {w : World} (h : w.heap[g]? = some (rdo s e)) (hs : s.size ≤ 1048576)
include h hs
set_option maxHeartbeats 2000000 in
theorem takeI : Calls Try.prog 31 #[.pointer (some ⟨g, 0, none⟩), .func (.func 32) #[] #[]] w fun x w' => x = .returned (.int .i64 (tkI s e).1) ∧ Upd w w' g (rdo (tkI s e).2.1 (tkI s e).2.2) := by
  have hc0 : w.cell? ⟨g, 0, none⟩ = some (.string s) := by rw [blk_cell h]; rfl
  have hc1 : w.cell? ⟨g, 1, none⟩ = some (.int .i64 e) := by rw [blk_cell h]; rfl
  have H := Aside0.mk h
  by_cases he : e = 0
  · have HI : Aside0 (tkI s e = ((wireGet s).1, cut s (wireGet s).2.1, (wireGet s).2.2)) := ⟨by rw [tkI, if_pos he]⟩
    rw [HI.out]
    subst he
    have hf0 : w.frozen? ⟨g, 0, none⟩ = false := blk_frozen h 0
    have hf1 : w.frozen? ⟨g, 1, none⟩ = false := blk_frozen h 1
    obtain ⟨hn0, hn1⟩ : 0 ≤ (wireGet s).2.1 ∧ (wireGet s).2.1 ≤ s.size := by
      rcases wireGet_cases s with ⟨_, _, _, h3, _, h5⟩ | ⟨_, h2, _⟩
      · exact ⟨by omega, h5⟩
      · rw [h2]; exact ⟨by omega, by omega⟩
    have HC := Aside0.mk (fun (W : World) => wire_GetInt.calls s (wireGet s).1 (wireGet s).2.1 (wireGet s).2.2 W rfl)
    unfold cut
    generalize (wireGet s).1 = x at *
    generalize (wireGet s).2.1 = n at *
    generalize (wireGet s).2.2 = e2 at *
    clear h HI
    go_enter Try.func31, Try.ntmps31
    go_wp2_with fail
    refine (HC.out _).mono ?_
    rintro y w1 ⟨rfl, ⟨m, rfl⟩⟩
    go_wp2_with fail
    go_ret
    exact ⟨rfl, (((Upd.refl H.out).drewN m).store (.string (s.extract n.toNat s.size))).store (.int .i64 e2)⟩
  · have HI : Aside0 (tkI s e = (0, s, e)) := ⟨by rw [tkI, if_neg he]⟩
    rw [HI.out]
    have hb : (e != 0) = true := by rw [bne_iff_ne]; exact he
    clear h HI
    go_enter Try.func31, Try.ntmps31
    go_wp2_with fail
    go_ret
    exact ⟨rfl, Upd.refl H.out⟩
set_option maxHeartbeats 2000000 in
theorem takeT : Calls Try.prog 33 #[.pointer (some ⟨g, 0, none⟩), .func (.func 27) #[] #[]] w fun x w' => x = .returned (.string (tkT s e).1) ∧ Upd w w' g (rdo (tkT s e).2.1 (tkT s e).2.2) := by
  have hc0 : w.cell? ⟨g, 0, none⟩ = some (.string s) := by rw [blk_cell h]; rfl
  have hc1 : w.cell? ⟨g, 1, none⟩ = some (.int .i64 e) := by rw [blk_cell h]; rfl
  have H := Aside0.mk h
  by_cases he : e = 0
  · have HI : Aside0 (tkT s e = ((wireGetText s).1, cut s (wireGetText s).2.1, (wireGetText s).2.2)) := ⟨by rw [tkT, if_pos he]⟩
    rw [HI.out]
    subst he
    have hf0 : w.frozen? ⟨g, 0, none⟩ = false := blk_frozen h 0
    have hf1 : w.frozen? ⟨g, 1, none⟩ = false := blk_frozen h 1
    obtain ⟨hn0, hn1⟩ : 0 ≤ (wireGetText s).2.1 ∧ (wireGetText s).2.1 ≤ s.size := by
      rcases wireGetText_cases s with ⟨_, h3, h5⟩ | ⟨_, h2, _⟩
      · exact ⟨by omega, h5⟩
      · rw [h2]; exact ⟨by omega, by omega⟩
    have HC := Aside0.mk (fun (W : World) => wire_GetText.calls s (wireGetText s).1 (wireGetText s).2.1 (wireGetText s).2.2 W (by rw [wire_GetText.f, if_pos (by omega)]))
    unfold cut
    generalize (wireGetText s).1 = x at *
    generalize (wireGetText s).2.1 = n at *
    generalize (wireGetText s).2.2 = e2 at *
    clear h HI
    go_enter Try.func33, Try.ntmps33
    go_wp2_with fail
    refine (HC.out _).mono ?_
    rintro y w1 ⟨rfl, ⟨m, rfl⟩⟩
    go_wp2_with fail
    go_ret
    exact ⟨rfl, (((Upd.refl H.out).drewN m).store (.string (s.extract n.toNat s.size))).store (.int .i64 e2)⟩
  · have HI : Aside0 (tkT s e = (⟨#[]⟩, s, e)) := ⟨by rw [tkT, if_neg he]⟩
    rw [HI.out]
    have hb : (e != 0) = true := by rw [bne_iff_ne]; exact he
    clear h HI
    go_enter Try.func33, Try.ntmps33
    go_wp2_with fail
    go_ret
    exact ⟨rfl, Upd.refl H.out⟩
set_option maxHeartbeats 2000000 in
theorem takeG : Calls Try.prog 34 #[.pointer (some ⟨g, 0, none⟩), .func (.func 11) #[] #[]] w fun x w' => ∃ A c, x = .returned (.slice A (tkG s e).1.length c) ∧ k77.R 77 w' w.heap.size (fun _ => True) (.slice A (tkG s e).1.length c) (tkG s e).1 ∧ Upd w w' g (rdo (tkG s e).2.1 (tkG s e).2.2) := by
  have hc0 : w.cell? ⟨g, 0, none⟩ = some (.string s) := by rw [blk_cell h]; rfl
  have hc1 : w.cell? ⟨g, 1, none⟩ = some (.int .i64 e) := by rw [blk_cell h]; rfl
  have H := Aside0.mk h
  by_cases he : e = 0
  · have HI : Aside0 (tkG s e = ((gtags s).1, cut s (gtags s).2.1, (gtags s).2.2)) := ⟨by rw [tkG, if_pos he]⟩
    rw [HI.out]
    subst he
    obtain ⟨hn0, hn1⟩ := gtags_place s
    obtain ⟨K, hK⟩ := htags_ev hs
    have HC := Aside0.mk (fun (W : World) => header_GetTags.calls K s (gtags s).1 (gtags s).2.1 (gtags s).2.2 W (hK K (Nat.le_refl _)))
    unfold cut
    generalize (gtags s).1 = x at *
    generalize (gtags s).2.1 = n at *
    generalize (gtags s).2.2 = e2 at *
    clear h HI hK
    go_enter Try.func34, Try.ntmps34
    go_wp2_with fail
    refine (HC.out _).mono ?_
    rintro y w1 ⟨v, rfl, hr, hb⟩
    obtain ⟨A, c, rfl⟩ := Kd.R_slice hr
    have h1 := Go.Proofs.Ytdaklahoainpfaa.State.blk_below H.out hb
    have hd0 : w1.cell? ⟨g, 0, none⟩ = some (.string s) := by rw [blk_cell h1]; rfl
    have hd1 : w1.cell? ⟨g, 1, none⟩ = some (.int .i64 0) := by rw [blk_cell h1]; rfl
    have hf0 : w1.frozen? ⟨g, 0, none⟩ = false := blk_frozen h1 0
    have hf1 : w1.frozen? ⟨g, 1, none⟩ = false := blk_frozen h1 1
    have HR := Aside0.mk hr
    have HB := Aside0.mk hb
    have H1 := Aside0.mk h1
    clear hr hb h1
    go_wp2_with fail
    go_ret
    exact ⟨A, c, rfl, Kd.R_set (Kd.R_set HR.out H1.out (by decide) 0 _) (blk_set H1.out _) (by decide) 1 _, (((Upd.refl H.out).below_then HB.out).store (.string (s.extract n.toNat s.size))).store (.int .i64 e2)⟩
  · have HI : Aside0 (tkG s e = ([], s, e)) := ⟨by rw [tkG, if_neg he]⟩
    rw [HI.out]
    have hb : (e != 0) = true := by rw [bne_iff_ne]; exact he
    clear h HI
    go_enter Try.func34, Try.ntmps34
    go_wp2_with fail
    go_ret
    exact ⟨none, 0, rfl, Kd.R_nil _ _ _ _ _, Upd.refl H.out⟩
set_option maxHeartbeats 2000000 in
theorem takeL : Calls Try.prog 35 #[.pointer (some ⟨g, 0, none⟩), .func (.func 36) #[.pointer (some ⟨g, 0, none⟩)] #[]] w fun x w' => ∃ A c, x = .returned (.slice A (tkL s e).1.length c) ∧ Kd.string.R 9 w' w.heap.size (fun _ => True) (.slice A (tkL s e).1.length c) (tkL s e).1 ∧ Upd w w' g (rdo (tkL s e).2.1 (tkL s e).2.2) := by
  have hc0 : w.cell? ⟨g, 0, none⟩ = some (.string s) := by rw [blk_cell h]; rfl
  have hc1 : w.cell? ⟨g, 1, none⟩ = some (.int .i64 e) := by rw [blk_cell h]; rfl
  have H := Aside0.mk h
  by_cases he : e = 0
  · have HI : Aside0 (tkL s e = ((wireGetList s 7).1, cut s (wireGetList s 7).2.1, (wireGetList s 7).2.2)) := ⟨by rw [tkL, if_pos he]⟩
    rw [HI.out]
    subst he
    obtain ⟨hn0, hn1, _, _⟩ := list_facts s 7
    have HC := Aside0.mk (fun (W : World) => parents g s hs W)
    unfold cut
    generalize (wireGetList s 7).1 = x at *
    generalize (wireGetList s 7).2.1 = n at *
    generalize (wireGetList s 7).2.2 = e2 at *
    clear h HI
    go_enter Try.func35, Try.ntmps35
    go_wp2_with fail
    refine (HC.out _).mono ?_
    rintro y w1 ⟨v, rfl, hr, hb⟩
    obtain ⟨A, c, rfl⟩ := Kd.R_slice hr
    have h1 := Go.Proofs.Ytdaklahoainpfaa.State.blk_below H.out hb
    have hd0 : w1.cell? ⟨g, 0, none⟩ = some (.string s) := by rw [blk_cell h1]; rfl
    have hd1 : w1.cell? ⟨g, 1, none⟩ = some (.int .i64 0) := by rw [blk_cell h1]; rfl
    have hf0 : w1.frozen? ⟨g, 0, none⟩ = false := blk_frozen h1 0
    have hf1 : w1.frozen? ⟨g, 1, none⟩ = false := blk_frozen h1 1
    have HR := Aside0.mk hr
    have HB := Aside0.mk hb
    have H1 := Aside0.mk h1
    clear hr hb h1
    go_wp2_with fail
    go_ret
    exact ⟨A, c, rfl, Kd.R_set (Kd.R_set HR.out H1.out (by decide) 0 _) (blk_set H1.out _) (by decide) 1 _, (((Upd.refl H.out).below_then HB.out).store (.string (s.extract n.toNat s.size))).store (.int .i64 e2)⟩
  · have HI : Aside0 (tkL s e = ([], s, e)) := ⟨by rw [tkL, if_neg he]⟩
    rw [HI.out]
    have hb : (e != 0) = true := by rw [bne_iff_ne]; exact he
    clear h HI
    go_enter Try.func35, Try.ntmps35
    go_wp2_with fail
    go_ret
    exact ⟨none, 0, rfl, Kd.R_nil _ _ _ _ _, Upd.refl H.out⟩
end
end Go.Proofs.Ytdaklahoainpfaa.TakeR
