/- The readers' steps, plain: the reference's In comes to them; a struct's store. -/
import Derived.Test.YtdaklahoainpfaaPlainB
import Derived.Test.YtdaklahoainpfaaState
import Derived.Tactics
import Derived.WalkKit
import Derived.KernelRfl
import Derived.LoopTactic
import Derived.Outline
import Derived.Sort.AtCall
namespace Go.Proofs.Ytdaklahoainpfaa.BlkR
open Go.RowKit Go.Proofs.YtdaklahoainpfaaW.PrintWords Go.Proofs.YtdaklahoainpfaaW.PrintLast Go.Proofs.YtdaklahoainpfaaW.PrintMore Go.Proofs.Ytdaklahoainpfaa.Plain01 Go.Proofs.Ytdaklahoainpfaa.WireInt Go.Proofs.Ytdaklahoainpfaa.Ref01 Go.Proofs.Ytdaklahoainpfaa.QKinds Go.Proofs.Ytdaklahoainpfaa.QBaseB Go.Proofs.Ytdaklahoainpfaa.PlainB Go.Proofs.Ytdaklahoainpfaa.State
set_option linter.unusedVariables false
set_option linter.unusedSimpArgs false
def cut (s : ByteArray) (n : Int) : ByteArray := s.extract n.toNat s.size
def tkI (s : ByteArray) (e : Int) : Int × ByteArray × Int := if e = 0 then ((wireGet s).1, cut s (wireGet s).2.1, (wireGet s).2.2) else (0, s, e)
def tkT (s : ByteArray) (e : Int) : ByteArray × ByteArray × Int := if e = 0 then ((wireGetText s).1, cut s (wireGetText s).2.1, (wireGetText s).2.2) else (⟨#[]⟩, s, e)
def tkG (s : ByteArray) (e : Int) : List Tag × ByteArray × Int := if e = 0 then ((gtags s).1, cut s (gtags s).2.1, (gtags s).2.2) else ([], s, e)
theorem cut_le (s : ByteArray) (n : Int) : (cut s n).size ≤ s.size := by unfold cut; rw [ByteArray.size_extract]; omega
theorem tkG_err (s : ByteArray) {e : Int} (he : e ≠ 0) : tkG s e = ([], s, e) := by rw [tkG, if_neg he]
theorem tkT_err (s : ByteArray) {e : Int} (he : e ≠ 0) : tkT s e = (⟨#[]⟩, s, e) := by rw [tkT, if_neg he]
theorem tkI_le (s : ByteArray) (e : Int) : (tkI s e).2.1.size ≤ s.size := by unfold tkI; split; exact cut_le _ _; exact Nat.le_refl _
theorem tkT_le (s : ByteArray) (e : Int) : (tkT s e).2.1.size ≤ s.size := by unfold tkT; split; exact cut_le _ _; exact Nat.le_refl _
theorem tkG_le (s : ByteArray) (e : Int) : (tkG s e).2.1.size ≤ s.size := by unfold tkG; split; exact cut_le _ _; exact Nat.le_refl _
theorem in_int (s : ByteArray) (e : Int) : tuskref04_In_Int.f s e = some (tkI s e) := by
  rw [tuskref04_In_Int.f]
  by_cases he : e = 0
  · obtain ⟨hn0, hn1⟩ : 0 ≤ (wireGet s).2.1 ∧ (wireGet s).2.1 ≤ s.size := by
      rcases wireGet_cases s with ⟨_, _, _, h3, _, h5⟩ | ⟨_, h2, _⟩
      · exact ⟨by omega, h5⟩
      · rw [h2]; exact ⟨by omega, by omega⟩
    rw [if_pos he, tuskref01_GetInt.f, Option.bind_some, if_pos hn0, if_pos hn1, tkI, if_pos he]; rfl
  · rw [if_neg he, tkI, if_neg he]
theorem in_text (s : ByteArray) (e : Int) (hs : s.size ≤ 1048576) : tuskref04_In_Text.f s e = some (tkT s e) := by
  rw [tuskref04_In_Text.f]
  by_cases he : e = 0
  · obtain ⟨hn0, hn1⟩ : 0 ≤ (wireGetText s).2.1 ∧ (wireGetText s).2.1 ≤ s.size := by
      rcases wireGetText_cases s with ⟨_, h3, h5⟩ | ⟨_, h2, _⟩
      · exact ⟨by omega, h5⟩
      · rw [h2]; exact ⟨by omega, by omega⟩
    rw [if_pos he, tuskref01_GetText.f, if_pos (by omega), Option.bind_some, if_pos hn0, if_pos hn1, tkT, if_pos he]; rfl
  · rw [if_neg he, tkT, if_neg he]
theorem in_some (s : ByteArray) (e : Int) (hs : s.size ≤ 1048576) : Ev (fun k => tuskref06_Some.f k s e) (tkG s e) := by
  by_cases he : e = 0
  · obtain ⟨hn0, hn1⟩ := gtags_place s
    obtain ⟨K, hK⟩ := rtags_ev hs
    refine ⟨K, fun k hk => ?_⟩
    show tuskref06_Some.f k s e = _
    rw [tuskref06_Some.f, if_pos he, show tuskref06_GetTags.f k s = some (gtags s) from hK k hk, Option.bind_some, if_pos hn0, if_pos hn1, tkG, if_pos he]; rfl
  · refine ⟨0, fun k hk => ?_⟩
    show tuskref06_Some.f k s e = _
    rw [tuskref06_Some.f, if_neg he, tkG, if_neg he]
theorem nil_list : (⟨#[]⟩ : ByteArray).toList = [] := by rw [ByteArray.toList_eq]
def eEnd (t : ByteArray) (E : Int) : Int := if E = 0 then if t.toList = [] then 0 else 6 else E
theorem in_end (t : ByteArray) (E : Int) : tuskref04_In_End.f t E = some (t, eEnd t E) := by
  rw [tuskref04_In_End.f, eEnd]
  split
  · split
    · rename_i h _; rw [h]
    · rfl
  · rfl
theorem Upd.keep {W W' : World} {g : Nat} {o : Obj} (h : Upd W W' g o) : KeepBut W W' g none := ⟨h.size, fun i hi hne _ => h.rest i hi hne⟩
theorem Upd.is {w0 W W' : World} {g g' : Nat} {o : Obj} {s : ByteArray} {e : Int} (h : Upd W W' g o) (k : IsS59 w0 W g' s e) (hne : g' ≠ g) : IsS59 w0 W' g' s e := ⟨h.other k.1 hne, k.2⟩
theorem is_keep {w0 W W' : World} {g g' : Nat} {s : ByteArray} {e : Int} (h : KeepBut W W' g none) (k : IsS59 w0 W g' s e) (hne : g' ≠ g) : IsS59 w0 W' g' s e := ⟨h.blk k.1 hne (by simp), k.2⟩
theorem Upd.under {w0 W W' : World} {g : Nat} {o : Obj} (h : Upd W W' g o) (k : Below w0.heap.size w0 W) (hg : w0.heap.size ≤ g) : Below w0.heap.size w0 W' := ⟨h.os.trans k.os, h.tape.trans k.tape, h.output.trans k.output, Nat.le_trans k.size h.size, fun i hi => (h.rest i (Nat.lt_of_lt_of_le hi k.size) (by omega)).trans (k.block i hi)⟩
theorem tags_same (l : List Tag) (hl : l.length ≤ 1048576) : Ev (fun k => tuskref06_SameTags.f k l l) true := by
  have h : ∀ (d i : Nat), i + d = l.length → Ev (fun k => tuskref06_SameTags.l0 k l l (i : Int)) true := by
    intro d
    induction d with
    | zero => intro i hi; exact Ev.step (f := fun _ => some true) (fun k => by rw [tuskref06_SameTags.l0, if_neg (by omega)]) (Ev.now _)
    | succ d ih =>
      intro i hi
      refine Ev.step (fun k => ?_) (ih (i + 1) (by omega))
      rw [tuskref06_SameTags.l0, if_pos (by omega), if_pos (by omega), if_pos (by omega), if_neg (by simp), w64' (by omega)]
  exact Ev.congr (fun k => by rw [tuskref06_SameTags.f, if_pos rfl]; rfl) (h l.length 0 (Nat.zero_add _))
theorem tagsL_len : ∀ (l : List ByteArray) (acc : List Tag), (tagsL l acc).1.length ≤ acc.length + l.length := by
  intro l
  induction l with
  | nil => intro acc; exact Nat.le_refl _
  | cons p l ih =>
    intro acc
    rw [tagsL]
    split
    · have := ih (acc ++ [(tagOf p).1])
      rw [List.length_append, List.length_singleton] at this
      rw [List.length_cons]; omega
    · exact Nat.zero_le _
theorem gtags_len (s : ByteArray) : (gtags s).1.length ≤ 7 := by
  have h := (list_facts s 7).2.2.1
  unfold gtags
  split
  · split
    · have := tagsL_len (wireGetList s 7).1 []
      rw [List.length_nil] at this
      exact Nat.le_trans this (by rw [Nat.zero_add]; exact h)
    · exact Nat.zero_le _
  · exact Nat.zero_le _
theorem tkG_len (s : ByteArray) (e : Int) : (tkG s e).1.length ≤ 7 := by unfold tkG; split; exact gtags_len s; exact Nat.zero_le _
end Go.Proofs.Ytdaklahoainpfaa.BlkR
