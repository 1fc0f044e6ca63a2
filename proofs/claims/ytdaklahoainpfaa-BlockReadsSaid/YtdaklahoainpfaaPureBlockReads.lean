/- Proved: the statement BlockReads: any bytes are read as a block, or as its certificate, or refused, as the reference says; words and the first block are the same. -/
import Derived.Test.YtdaklahoainpfaaQBlockReadsx
import Derived.Test.YtdaklahoainpfaaBlkR
namespace Go.Proofs.Ytdaklahoainpfaa.Pure
open Go.RowKit Go.Proofs.Ytdaklahoainpfaa.QBlockReads Go.Proofs.YtdaklahoainpfaaW.PrintWords Go.Proofs.YtdaklahoainpfaaW.PrintLast Go.Proofs.Ytdaklahoainpfaa.QKinds Go.Proofs.Ytdaklahoainpfaa.QBaseB Go.Proofs.Ytdaklahoainpfaa.DecB Go.Proofs.Ytdaklahoainpfaa.RepeatR
open Go.Proofs.Ytdaklahoainpfaa.WireInt Go.Proofs.Ytdaklahoainpfaa.Ref01 Go.Proofs.Ytdaklahoainpfaa.Plain01 Go.Proofs.Ytdaklahoainpfaa.PlainB Go.Proofs.Ytdaklahoainpfaa.BlkR
set_option linter.unusedVariables false
namespace BlockReads
theorem empty_iff (s : ByteArray) : s.toList = [] ↔ s.size = 0 := by
  rw [ByteArray.toList_eq]
  constructor
  · intro h
    have := congrArg List.length h
    simpa using this
  · intro h
    exact List.eq_nil_of_length_eq_zero (by simpa using h)
theorem cut_size (s : ByteArray) (n : Int) : (cut s n).size = s.size - n.toNat := by rw [cut, ByteArray.size_extract]; omega
theorem cut_cut (s : ByteArray) (n m : Int) (hn : 0 ≤ n) (hn1 : n ≤ s.size) (hm : 0 ≤ m) (hm1 : m ≤ (cut s n).size) : cut (cut s n) m = s.extract (n + m).toNat s.size := by
  have hc := cut_size s n
  have h : cut (cut s n) m = (s.extract n.toNat s.size).extract m.toNat (s.size - n.toNat) := by
    show (cut s n).extract m.toNat (cut s n).size = _; rw [hc]; rfl
  rw [h, ByteArray.extract_extract, show n.toNat + m.toNat = (n + m).toNat by omega, show min (n.toNat + (s.size - n.toNat)) s.size = s.size by omega]
theorem int_place (s : ByteArray) : 0 ≤ (wireGet s).2.1 ∧ (wireGet s).2.1 ≤ s.size := by
  rcases wireGet_cases s with ⟨_, _, _, h3, _, h5⟩ | ⟨_, h2, _⟩
  · exact ⟨by omega, h5⟩
  · rw [h2]; exact ⟨by omega, by omega⟩
theorem text_place (s : ByteArray) : 0 ≤ (wireGetText s).2.1 ∧ (wireGetText s).2.1 ≤ s.size := by
  rcases wireGetText_cases s with ⟨_, h3, h5⟩ | ⟨_, h2, _⟩
  · exact ⟨by omega, h5⟩
  · rw [h2]; exact ⟨by omega, by omega⟩
theorem front_f (s : ByteArray) (hs : s.size ≤ 1048576) : ∃ a b c, block_front.f s = some (a, b, c, (qT s).2.2) ∧ ((qT s).2.2 = 0 → a = (qI s).1 ∧ b = (qT s).1 ∧ c = (qT s).2.1) := by
  obtain ⟨hn0, hn1⟩ := int_place s
  have hI : qI s = ((wireGet s).1, cut s (wireGet s).2.1, (wireGet s).2.2) := by rw [qI, tkI, if_pos rfl]
  by_cases h0 : (wireGet s).2.2 = 0
  · obtain ⟨hm0, hm1⟩ := text_place (cut s (wireGet s).2.1)
    have hc := cut_size s (wireGet s).2.1
    have hT : qT s = ((wireGetText (cut s (wireGet s).2.1)).1, cut (cut s (wireGet s).2.1) (wireGetText (cut s (wireGet s).2.1)).2.1, (wireGetText (cut s (wireGet s).2.1)).2.2) := by rw [qT, hI, tkT, if_pos h0]
    have hw : wrap64 ((wireGet s).2.1 + (wireGetText (cut s (wireGet s).2.1)).2.1) = (wireGet s).2.1 + (wireGetText (cut s (wireGet s).2.1)).2.1 := wrap_in (by omega) (by omega)
    have hx : s.extract (wireGet s).2.1.toNat s.size = cut s (wireGet s).2.1 := rfl
    refine ⟨(wireGet s).1, (wireGetText (cut s (wireGet s).2.1)).1, s.extract ((wireGet s).2.1 + (wireGetText (cut s (wireGet s).2.1)).2.1).toNat s.size, ?_, fun _ => ?_⟩
    · rw [block_front.f, wire_GetInt.f, Option.bind_some, if_pos h0, if_pos hn0, if_pos hn1, hx, wire_GetText.f, if_pos (by omega), Option.bind_some, hw, if_pos (by omega), if_pos (by omega), hT]
    · rw [hI, hT]
      exact ⟨rfl, rfl, (cut_cut s _ _ hn0 hn1 hm0 hm1).symm⟩
  · have hT : qT s = (⟨#[]⟩, cut s (wireGet s).2.1, (wireGet s).2.2) := by rw [qT, hI, tkT_err _ h0]
    refine ⟨0, ⟨#[]⟩, ⟨#[]⟩, ?_, fun h => ?_⟩
    · rw [block_front.f, wire_GetInt.f, Option.bind_some, if_neg h0, hT]
    · rw [hT] at h; exact absurd h h0
theorem rest_end (c : ByteArray) (k : Int) (hk : 0 ≤ k) (hk1 : k ≤ c.size) : (cut c k).toList = [] ↔ ¬ (c.size : Int) > k := by
  rw [empty_iff, cut_size]; omega
theorem qT_le (s : ByteArray) : (qT s).2.1.size ≤ s.size := Nat.le_trans (tkT_le _ _) (tkI_le _ _)
theorem qc_ev (s : ByteArray) (hs : s.size ≤ 1048576) : Ev (fun k => block_DecodeQc.f k s) (qdec s) := by
  obtain ⟨a, b, c, hF, hE⟩ := front_f s hs
  by_cases h0 : (qT s).2.2 = 0
  · obtain ⟨rfl, rfl, rfl⟩ := hE h0
    have hc := qT_le s
    obtain ⟨hg0, hg1⟩ := gtags_place (qT s).2.1
    have hre := rest_end (qT s).2.1 _ hg0 hg1
    obtain ⟨K, hK⟩ := htags_ev (s := (qT s).2.1) (by omega)
    refine ⟨K, fun k hk => ?_⟩
    have hG : header_GetTags.f k (qT s).2.1 = some (gtags (qT s).2.1) := hK k hk
    have hq : qG s = ((gtags (qT s).2.1).1, cut (qT s).2.1 (gtags (qT s).2.1).2.1, (gtags (qT s).2.1).2.2) := by rw [qG, tkG, if_pos h0]
    show block_DecodeQc.f k s = _
    rw [block_DecodeQc.f, hF, Option.bind_some, if_pos h0, hG, Option.bind_some, qdec, hq]
    by_cases h2 : (gtags (qT s).2.1).2.2 = 0
    · rw [if_pos h2, h2]
      by_cases h3 : ((qT s).2.1.size : Int) > (gtags (qT s).2.1).2.1
      · have h4 : ¬ (cut (qT s).2.1 (gtags (qT s).2.1).2.1).toList = [] := fun h => hre.1 h h3
        rw [if_pos h3, eEnd, if_pos rfl, if_neg h4, if_pos (by decide)]
      · rw [if_neg h3, eEnd, if_pos rfl, if_pos (hre.2 h3), if_neg (by decide)]
    · have h5 : eEnd (cut (qT s).2.1 (gtags (qT s).2.1).2.1) (gtags (qT s).2.1).2.2 = (gtags (qT s).2.1).2.2 := by rw [eEnd, if_neg h2]
      rw [if_neg h2, h5, if_pos h2]
  · have hq : qG s = ([], (qT s).2.1, (qT s).2.2) := by rw [qG, tkG_err _ h0]
    have h5 : eEnd (qT s).2.1 (qT s).2.2 = (qT s).2.2 := by rw [eEnd, if_neg h0]
    refine Ev.congr (f := fun _ => some (0, ⟨#[]⟩, [], (qT s).2.2)) (fun k => by rw [block_DecodeQc.f, hF, Option.bind_some, if_neg h0]) ?_
    rw [qdec, hq, h5, if_pos h0]
    exact Ev.now _
theorem list_place (s : ByteArray) : 0 ≤ (wireGetList s 8).2.1 ∧ (wireGetList s 8).2.1 ≤ s.size ∧ (wireGetList s 8).1.length ≤ 8 := by
  obtain ⟨h1, h2, h3, _⟩ : 0 ≤ (wireGetList s 8).2.1 ∧ (wireGetList s 8).2.1 ≤ s.size ∧ (wireGetList s 8).1.length ≤ 8 ∧ _ := list_facts s 8
  exact ⟨h1, h2, h3⟩
theorem qT_val (s : ByteArray) : (qT s).1.size ≤ s.size := Nat.le_trans (tkT_val _ _) (tkI_le _ _)
theorem block_ev (s : ByteArray) (hs : s.size ≤ 1048576) : Ev (fun k => block_Decode.f k s) (bdec s) := by
  obtain ⟨a, b, c, hF, hE⟩ := front_f s hs
  by_cases h0 : (qT s).2.2 = 0
  · obtain ⟨rfl, rfl, rfl⟩ := hE h0
    have hc := qT_le s
    obtain ⟨hg0, hg1, _⟩ := list_place (qT s).2.1
    have hre := rest_end (qT s).2.1 _ hg0 hg1
    obtain ⟨K, hK⟩ := qc_ev (qT s).1 (Nat.le_trans (qT_val s) hs)
    refine ⟨K, fun k hk => ?_⟩
    have hG : block_DecodeQc.f k (qT s).1 = some (qdec (qT s).1) := hK k hk
    show block_Decode.f k s = _
    rw [block_Decode.f, hF, Option.bind_some, if_pos h0, hG, Option.bind_some, bdec, if_neg (show ¬ ((qT s).2.2 ≠ 0) from fun h => h h0)]
    by_cases h1 : (qdec (qT s).1).2.2.2 = 0
    · have hq : bL s = ((wireGetList (qT s).2.1 8).1, cut (qT s).2.1 (wireGetList (qT s).2.1 8).2.1, (wireGetList (qT s).2.1 8).2.2) := by rw [bL, tkM, if_pos h1]
      have hl : (qT s).2.1.size ≤ 8796093022208 := by omega
      rw [if_pos h1, wire_GetList.f, if_pos hl, Option.bind_some, hq]
      by_cases h2 : (wireGetList (qT s).2.1 8).2.2 = 0
      · rw [if_pos h2, h2]
        by_cases h3 : ((qT s).2.1.size : Int) > (wireGetList (qT s).2.1 8).2.1
        · have h4 : ¬ (cut (qT s).2.1 (wireGetList (qT s).2.1 8).2.1).toList = [] := fun h => hre.1 h h3
          rw [if_pos h3, eEnd, if_pos rfl, if_neg h4, if_pos (by decide)]
        · rw [if_neg h3, eEnd, if_pos rfl, if_pos (hre.2 h3), if_neg (by decide)]
      · have h5 : eEnd (cut (qT s).2.1 (wireGetList (qT s).2.1 8).2.1) (wireGetList (qT s).2.1 8).2.2 = (wireGetList (qT s).2.1 8).2.2 := by rw [eEnd, if_neg h2]
        rw [if_neg h2, h5, if_pos h2]
    · have hq : bL s = ([], (qT s).2.1, (qdec (qT s).1).2.2.2) := by rw [bL, tkM, if_neg h1]
      have h5 : eEnd (qT s).2.1 (qdec (qT s).1).2.2.2 = (qdec (qT s).1).2.2.2 := by rw [eEnd, if_neg h1]
      rw [if_neg h1, hq, h5, if_pos h1]
  · refine Ev.congr (f := fun _ => some (0, 0, ⟨#[]⟩, [], [], (qT s).2.2)) (fun k => by rw [block_Decode.f, hF, Option.bind_some, if_neg h0]) ?_
    rw [bdec, if_pos h0]
    exact Ev.now _
theorem qc_same (a : Int) (b : ByteArray) (l : List Tag) (h : l.length ≤ 1048576) : Ev (fun k => tuskref08_SameQc.f k a b l a b l) true := by
  refine Ev.congr (f := fun k => (tuskref06_SameTags.f k l l).bind fun t => some t) (fun k => by rw [tuskref08_SameQc.f, if_pos rfl, if_pos rfl]) ?_
  exact Ev.bind (tags_same l h) (Ev.now _)
theorem qdec_len (s : ByteArray) : (qdec s).2.2.1.length ≤ 1048576 := by
  unfold qdec
  split
  · exact Nat.zero_le _
  · exact Nat.le_trans (tkG_len _ _) (by decide)
theorem bL_len (s : ByteArray) : (bL s).1.length ≤ 8 := by
  unfold bL tkM
  split
  · exact (list_place _).2.2
  · exact Nat.zero_le _
theorem bdec_len (s : ByteArray) : (bdec s).2.2.2.1.length ≤ 1048576 ∧ (bdec s).2.2.2.2.1.length ≤ 1048576 := by
  unfold bdec
  split
  · exact ⟨Nat.zero_le _, Nat.zero_le _⟩
  · split
    · exact ⟨Nat.zero_le _, Nat.zero_le _⟩
    · exact ⟨qdec_len _, Nat.le_trans (bL_len s) (by decide)⟩
theorem block_same (a b : Int) (c : ByteArray) (l : List Tag) (m : List ByteArray) (h : l.length ≤ 1048576) (hm : m.length ≤ 1048576) : Ev (fun k => tuskref08_Same.f k a b c l m a b c l m) true := by
  refine Ev.congr (f := fun k => (tuskref08_SameQc.f k b c l b c l).bind fun t => if t = true then some true else some false) (fun k => ?_) (Ev.bind (qc_same b c l h) (Ev.now _))
  rw [tuskref08_Same.f, if_pos rfl, tuskref01_Same.f, if_pos (by omega), decide_eq_true rfl]; rfl
theorem genesis : ((⟨(Lib.repeatL [0] (32 : Int).toNat).toArray⟩ : ByteArray).toList == (strOfNums (List.replicate 32 0)).toList) = true := by
  rw [ByteArray.toList_eq, ByteArray.toList_eq]; decide +kernel
theorem holds : tusklaw08_BlockReads.Pure := by
  intro s v d hs _ hd
  refine Ev.rounds ?_
  by_cases hg : (s.size : Int) > 20000 ∨ (d.size : Int) > 1000
  · refine Ev.congr (f := fun k => tusklaw08_BlockReads.j0 k s v d true) (fun k => ?_) (Ev.step (fun k => by rw [tusklaw08_BlockReads.j0, if_pos rfl]) (Ev.now _))
    rw [tusklaw08_BlockReads.f]
    by_cases h1 : (s.size : Int) > 20000
    · rw [if_pos h1]
    · rw [if_neg h1, decide_eq_true (hg.resolve_left h1)]
  · have h1 : ¬ (s.size : Int) > 20000 := fun h => hg (.inl h)
    have h2 : ¬ (d.size : Int) > 1000 := fun h => hg (.inr h)
    have hs1 : s.size ≤ 1048576 := by omega
    have hv := wireInt_size v
    refine Ev.congr (f := fun k => tusklaw08_BlockReads.j0 k s v d false) (fun k => by rw [tusklaw08_BlockReads.f, if_neg h1, decide_eq_false h2]) ?_
    have hW : block_Word.f v d = some (wireInt v ++ d) := by rw [block_Word.f, wire_Int.f, Option.bind_some, if_pos (by omega)]
    have hW2 : tuskref08_Word.f v d = some (wireInt v ++ d) := by rw [tuskref08_Word.f, tuskref01_Int.f, Option.bind_some, if_pos (by omega)]
    have hGe : block_Genesis.f = some (⟨(Lib.repeatL (⟨#[0]⟩ : ByteArray).data.toList (32 : Int).toNat).toArray⟩ : ByteArray) := by
      rw [block_Genesis.f, strings_Repeat.f, if_pos (by decide), Option.bind_some]
    have hGe2 : tuskref08_Genesis.f = some (strOfNums (List.replicate 32 0)) := by rw [tuskref08_Genesis.f, if_pos (by decide)]
    refine Ev.step (f := fun k => (block_Decode.f k s).bind fun a => (block_DecodeQc.f k s).bind fun c => (tuskref08_Same.f k a.1 a.2.1 a.2.2.1 a.2.2.2.1 a.2.2.2.2.1 (bdec s).1 (bdec s).2.1 (bdec s).2.2.1 (bdec s).2.2.2.1 (bdec s).2.2.2.2.1).bind fun t => if t = true then (if a.2.2.2.2.2 = (bdec s).2.2.2.2.2 then ((tuskref08_SameQc.f k c.1 c.2.1 c.2.2.1 (qdec s).1 (qdec s).2.1 (qdec s).2.2.1).bind fun u => if u = true then (if c.2.2.2 = (qdec s).2.2.2 then some true else some false) else some false) else some false) else some false) (fun k => ?_) ?_
    · rw [tusklaw08_BlockReads.j0, if_neg (by decide), tuskref08_Decode.f, if_pos hs1, tuskref08_DecodeQc.f, if_pos hs1, hW, hW2, hGe, hGe2]
      simp only [Option.bind_some, if_true, genesis]
    · refine Ev.bind (block_ev s hs1) (Ev.bind (qc_ev s hs1) (Ev.bind (block_same _ _ _ _ _ (bdec_len s).1 (bdec_len s).2) ?_))
      refine Ev.congr (f := fun k => (tuskref08_SameQc.f k (qdec s).1 (qdec s).2.1 (qdec s).2.2.1 (qdec s).1 (qdec s).2.1 (qdec s).2.2.1).bind fun u => if u = true then some true else some false) (fun k => ?_) (Ev.bind (qc_same _ _ _ (qdec_len s)) (Ev.now _))
      rw [if_pos rfl, if_pos rfl]
      simp only [if_true]
end BlockReads
theorem BlockReads : tusklaw08_BlockReads.Pure := BlockReads.holds
end Go.Proofs.Ytdaklahoainpfaa.Pure
