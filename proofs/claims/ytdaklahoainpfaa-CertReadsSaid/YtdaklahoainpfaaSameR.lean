/- The reference's Same at the same; tags as bytes: both sides. -/
import Derived.Test.YtdaklahoainpfaaHdec
namespace Go.Proofs.Ytdaklahoainpfaa.SameR
open Go.RowKit Go.Proofs.YtdaklahoainpfaaW.PrintWords Go.Proofs.YtdaklahoainpfaaW.PrintLast Go.Proofs.YtdaklahoainpfaaW.PrintMore Go.Proofs.Ytdaklahoainpfaa.Plain01 Go.Proofs.Ytdaklahoainpfaa.WireInt Go.Proofs.Ytdaklahoainpfaa.WireList Go.Proofs.Ytdaklahoainpfaa.Ref01 Go.Proofs.Ytdaklahoainpfaa.QKinds Go.Proofs.Ytdaklahoainpfaa.QBaseR Go.Proofs.Ytdaklahoainpfaa.PlainR Go.Proofs.Ytdaklahoainpfaa.TakeR Go.Proofs.Ytdaklahoainpfaa.Hdec
set_option linter.unusedVariables false
set_option linter.unusedSimpArgs false
theorem wireText_size (t : ByteArray) : (wireText t).size ≤ 9 + t.size := by
  have := wireInt_size (t.size : Int)
  rw [wireText, ba_append_size]; omega
theorem wireCat_size (l : List ByteArray) : (wireCat l).size ≤ 10 * (l.map fun s => s.size + 1).sum := by
  induction l with
  | nil => exact Nat.zero_le _
  | cons x l ih =>
    have := wireText_size x
    rw [wireCat, ba_append_size, List.map_cons, List.sum_cons]
    omega
theorem wireList_size (l : List ByteArray) : (wireList l).size ≤ 9 + 10 * (l.map fun s => s.size + 1).sum := by
  have := wireInt_size (l.length : Int)
  have := wireCat_size l
  rw [wireList, ba_append_size]; omega
theorem tags_same (l : List Tag) (hl : l.length ≤ 1048576) : Ev (fun k => tuskref06_SameTags.f k l l) true := by
  have h : ∀ (d i : Nat), i + d = l.length → Ev (fun k => tuskref06_SameTags.l0 k l l (i : Int)) true := by
    intro d
    induction d with
    | zero => intro i hi; exact Ev.step (f := fun _ => some true) (fun k => by rw [tuskref06_SameTags.l0, if_neg (by omega)]) (Ev.now _)
    | succ d ih =>
      intro i hi
      refine Ev.step (fun k => ?_) (ih (i + 1) (by omega))
      rw [tuskref06_SameTags.l0, if_pos (by omega), if_pos (by omega), if_pos (by omega), if_neg (by simp), w64' (by omega)]
  exact Ev.congr (fun k => by rw [tuskref06_SameTags.f, if_pos rfl]; rfl) (h l.length 0 (Nat.zero_add _))
theorem head_same (a r : Int) (L : List RefT) (P : List ByteArray) (hL : L.length ≤ 1048576) (hP : P.length ≤ 1048576) (hT : ∀ i : Nat, i < L.length → (rd_T69 L (i : Int)).f1.length ≤ 1048576) : Ev (fun k => tuskref06_Same.f k a r L P a r L P) true := by
  have h : ∀ (d i : Nat), i + d = L.length → Ev (fun k => tuskref06_Same.l0 k (i : Int) a r L P a r L P) true := by
    intro d
    induction d with
    | zero => intro i hi; exact Ev.step (f := fun _ => some true) (fun k => by rw [tuskref06_Same.l0, if_neg (by omega)]) (Ev.now _)
    | succ d ih =>
      intro i hi
      refine Ev.step (f := fun k => (tuskref06_SameTags.f k (rd_T69 L (i : Int)).f1 (rd_T69 L (i : Int)).f1).bind fun t => if t = true then tuskref06_Same.l0 k (wrap64 ((i : Int) + 1)) a r L P a r L P else some false) (fun k => ?_) ?_
      · rw [tuskref06_Same.l0, if_pos (by omega), if_pos (by omega), if_pos (by omega), if_pos rfl]
      · refine Ev.bind (tags_same _ (hT i (by omega))) ?_
        refine Ev.congr (fun k => if_pos rfl) ?_
        rw [w64' (by omega)]
        exact ih (i + 1) (by omega)
  refine Ev.congr (f := fun k => tuskref06_Same.j0 k false a r L P a r L P) (fun k => ?_) ?_
  · rw [tuskref06_Same.f, if_pos rfl, if_pos rfl, if_pos rfl, tuskref01_Same.f, if_pos (by omega), Option.bind_some, decide_eq_true rfl]; rfl
  · exact Ev.step (fun k => by rw [tuskref06_Same.j0, if_neg (by decide)]; rfl) (h L.length 0 (Nat.zero_add _))
theorem tagsL_len : ∀ (l : List ByteArray) (acc : List Tag), (tagsL l acc).1.length ≤ acc.length + l.length := by
  intro l
  induction l with
  | nil => intro acc; exact Nat.le_refl _
  | cons p l ih =>
    intro acc
    rw [tagsL]
    split
    · have := ih (acc ++ [(tagOf p).1])
      rw [List.length_append, List.length_singleton] at this
      rw [List.length_cons]; omega
    · exact Nat.zero_le _
theorem gtags_len (s : ByteArray) : (gtags s).1.length ≤ 7 := by
  have h := (list_facts s 7).2.2.1
  unfold gtags
  split
  · split
    · have := tagsL_len (wireGetList s 7).1 []
      rw [List.length_nil] at this
      exact Nat.le_trans this (by rw [Nat.zero_add]; exact h)
    · exact Nat.zero_le _
  · exact Nat.zero_le _
theorem tkG_len (s : ByteArray) (e : Int) : (tkG s e).1.length ≤ 7 := by unfold tkG; split; exact gtags_len s; exact Nat.zero_le _
theorem tkL_len (s : ByteArray) (e : Int) : (tkL s e).1.length ≤ 7 := by unfold tkL; split; exact (list_facts s 7).2.2.1; exact Nat.zero_le _
theorem refs_len : ∀ (n : Nat) (s : ByteArray) (e : Int), (refs n s e).1.length = n ∧ ∀ i : Nat, i < n → (rd_T69 (refs n s e).1 (i : Int)).f1.length ≤ 7 := by
  intro n
  induction n with
  | zero => intro s e; exact ⟨rfl, fun i hi => absurd hi (Nat.not_lt_zero _)⟩
  | succ n ih =>
    intro s e
    have h := ih (tkG (tkT s e).2.1 (tkT s e).2.2).2.1 (tkG (tkT s e).2.1 (tkT s e).2.2).2.2
    refine ⟨by rw [refs, List.length_cons, h.1], fun i hi => ?_⟩
    cases i with
    | zero => exact tkG_len _ _
    | succ i =>
      have h2 := h.2 i (by omega)
      have e1 : rd_T69 (refs (n + 1) s e).1 ((i + 1 : Nat) : Int) = rd_T69 (refs n (tkG (tkT s e).2.1 (tkT s e).2.2).2.1 (tkG (tkT s e).2.1 (tkT s e).2.2).2.2).1 (i : Int) := by
        rw [rd_T69, rd_T69, Int.toNat_natCast, Int.toNat_natCast, refs]; rfl
      rw [e1]; exact h2
theorem nL (s : ByteArray) (h : ¬ ((hN s).2.2 = 0 ∧ 4 < (hN s).1)) : (hN s).1.toNat ≤ 4 := by
  by_cases h0 : (hN s).2.2 = 0
  · by_cases h4 : 4 < (hN s).1
    · exact absurd ⟨h0, h4⟩ h
    · omega
  · have hz : (hN s).1 = 0 := by
      unfold hN tkI
      split
      · rename_i hz
        rcases wireGet_cases (hR s).2.1 with ⟨g0, _⟩ | ⟨g1, _⟩
        · exact absurd (show (hN s).2.2 = 0 by rw [hN, tkI, if_pos hz]; exact g0) h0
        · exact g1
      · rfl
    omega
theorem hdec_small (s : ByteArray) : (hdec s).2.2.1.length ≤ 1048576 ∧ (hdec s).2.2.2.1.length ≤ 1048576 ∧ ∀ i : Nat, i < (hdec s).2.2.1.length → (rd_T69 (hdec s).2.2.1 (i : Int)).f1.length ≤ 1048576 := by
  have hz : ∀ e : Int, (((0, 0, [], [], e) : Hd)).2.2.1.length ≤ 1048576 ∧ (((0, 0, [], [], e) : Hd)).2.2.2.1.length ≤ 1048576 ∧ ∀ i : Nat, i < (((0, 0, [], [], e) : Hd)).2.2.1.length → (rd_T69 (((0, 0, [], [], e) : Hd)).2.2.1 (i : Int)).f1.length ≤ 1048576 := fun e => ⟨Nat.zero_le _, Nat.zero_le _, fun i hi => absurd hi (Nat.not_lt_zero _)⟩
  unfold hdec
  split
  · exact hz 8
  · rename_i hc
    unfold hend
    split
    · exact hz _
    · split
      · exact hz _
      · split
        · exact hz _
        · have h := refs_len (hN s).1.toNat (hN s).2.1 (hN s).2.2
          have hn := nL s hc
          refine ⟨?_, Nat.le_trans (tkL_len _ _) (by decide), fun i hi => Nat.le_trans (h.2 i ?_) (by decide)⟩
          · show (hL s).1.length ≤ _; rw [hL, h.1]; omega
          · rw [← h.1]; exact hi
theorem hdec_same (s : ByteArray) : Ev (fun k => tuskref06_Same.f k (hdec s).1 (hdec s).2.1 (hdec s).2.2.1 (hdec s).2.2.2.1 (hdec s).1 (hdec s).2.1 (hdec s).2.2.1 (hdec s).2.2.2.1) true :=
  head_same _ _ _ _ (hdec_small s).1 (hdec_small s).2.1 (hdec_small s).2.2
/-- Tags as bytes. -/
def tword (x : Tag) : ByteArray := wireInt x.f0 ++ x.f1
def twords (l : List Tag) : List ByteArray := l.map tword
theorem tword_size (x : Tag) : (tword x).size ≤ 9 + x.f1.size := by
  have := wireInt_size x.f0
  rw [tword, ba_append_size]; omega
theorem rd77 (l : List Tag) (i : Nat) (h : i < l.length) : rd_T77 l (i : Int) = l[i] := by
  rw [rd_T77, Int.toNat_natCast, List.getD_eq_getElem?_getD, List.getElem?_eq_getElem h]; rfl
theorem htags (l : List Tag) (hl : l.length ≤ 1048576) (hx : ∀ x, x ∈ l → x.f1.size ≤ 1048576) (hw : (wireList (twords l)).size ≤ 140737488355328) : Ev (fun k => header_Tags.f k l) (wireList (twords l)) := by
  have h : ∀ (d i : Nat), i + d = l.length → Ev (fun k => header_Tags.l0 k (twords (l.take i)) l (l.length : Int) (i : Int)) (wireList (twords l)) := by
    intro d
    induction d with
    | zero =>
      intro i hi
      refine Ev.step (f := fun _ => some (wireList (twords l))) (fun k => ?_) (Ev.now _)
      rw [header_Tags.l0, if_neg (by omega), List.take_of_length_le (by omega), wire_List.f, if_pos hw]; rfl
    | succ d ih =>
      intro i hi
      have hil : i < l.length := by omega
      have hs := hx l[i] (List.getElem_mem hil)
      have h9 := wireInt_size (l[i].f0)
      refine Ev.step (fun k => ?_) (ih (i + 1) (by omega))
      rw [header_Tags.l0, if_pos (by omega), if_pos (by omega), if_pos (by omega), rd77 l i hil, wire_Int.f, Option.bind_some, if_pos (by omega), if_pos (by rw [twords, List.length_map, List.length_take]; omega), w64' (by omega)]
      rw [List.take_succ_eq_append_getElem hil, twords, twords, List.map_append]; rfl
  exact Ev.congr (fun k => by rw [header_Tags.f]; rfl) (h l.length 0 (Nat.zero_add _))
theorem rtags (l : List Tag) (hl : l.length ≤ 1048576) (hx : ∀ x, x ∈ l → x.f1.size ≤ 1048576) (hw : (wireList (twords l)).size ≤ 140737488355328) : Ev (fun k => tuskref06_Tags.f k l) (wireList (twords l)) := by
  have h : ∀ (d i : Nat), i + d = l.length → Ev (fun k => tuskref06_Tags.l0 k l (twords (l.take i)) (i : Int)) (wireList (twords l)) := by
    intro d
    induction d with
    | zero =>
      intro i hi
      refine Ev.step (f := fun _ => some (wireList (twords l))) (fun k => ?_) (Ev.now _)
      rw [tuskref06_Tags.l0, if_neg (by omega), List.take_of_length_le (by omega), tuskref01_List.f, if_pos ⟨by omega, by rw [twords, List.length_map]; omega⟩]; rfl
    | succ d ih =>
      intro i hi
      have hil : i < l.length := by omega
      have hs := hx l[i] (List.getElem_mem hil)
      have h9 := wireInt_size (l[i].f0)
      refine Ev.step (fun k => ?_) (ih (i + 1) (by omega))
      rw [tuskref06_Tags.l0, if_pos (by omega), if_pos (by omega), rd77 l i hil, tuskref01_Int.f, Option.bind_some, if_pos (by omega), if_pos (by rw [twords, List.length_map, List.length_take]; omega), w64' (by omega)]
      rw [List.take_succ_eq_append_getElem hil, twords, twords, List.map_append]; rfl
  exact Ev.congr (fun k => by rw [tuskref06_Tags.f]; rfl) (h l.length 0 (Nat.zero_add _))
end Go.Proofs.Ytdaklahoainpfaa.SameR
