/- Proved: the statement HeaderReads where its arguments are of bulk at most 1048576 (the row says so): any bytes are read as tags, or as a header, or refused, as the reference says. -/
import Derived.Test.YtdaklahoainpfaaQHeaderReadsU
import Derived.Test.YtdaklahoainpfaaSameR
namespace Go.Proofs.Ytdaklahoainpfaa.Pure
open Go.RowKit Go.Proofs.Ytdaklahoainpfaa.QHeaderReads Go.Proofs.YtdaklahoainpfaaW.PrintWords Go.Proofs.YtdaklahoainpfaaW.PrintLast Go.Proofs.Ytdaklahoainpfaa.QKinds Go.Proofs.Ytdaklahoainpfaa.QBaseR Go.Proofs.Ytdaklahoainpfaa.DecH Go.Proofs.Ytdaklahoainpfaa.DecR Go.Proofs.Ytdaklahoainpfaa.QOpen
open Go.Proofs.Ytdaklahoainpfaa.WireInt Go.Proofs.Ytdaklahoainpfaa.WireList Go.Proofs.Ytdaklahoainpfaa.Ref01 Go.Proofs.Ytdaklahoainpfaa.Plain01 Go.Proofs.Ytdaklahoainpfaa.Open Go.Proofs.Ytdaklahoainpfaa.PlainR Go.Proofs.Ytdaklahoainpfaa.Hdec Go.Proofs.Ytdaklahoainpfaa.SameR
namespace HeaderReads
theorem tag_sum (l : List Tag) : l.length ≤ (l.map m77).sum ∧ (∀ x, x ∈ l → x.f1.size ≤ (l.map m77).sum) ∧ ((twords l).map fun s => s.size + 1).sum ≤ 10 * (l.map m77).sum := by
  induction l with
  | nil => exact ⟨Nat.le_refl _, fun x hx => by simp at hx, Nat.zero_le _⟩
  | cons p l ih =>
    obtain ⟨h1, h2, h3⟩ := ih
    have hm : m77 p = p.f1.size + 3 := by show 1 + (p.f1.size + 1) + 1 = _; omega
    have hw := tword_size p
    rw [List.map_cons, List.sum_cons, List.length_cons, hm]
    refine ⟨by omega, fun x hx => ?_, ?_⟩
    · rcases List.mem_cons.1 hx with rfl | hx
      · omega
      · have := h2 x hx; omega
    · show (List.map (fun s : ByteArray => s.size + 1) (tword p :: twords l)).sum ≤ _
      rw [List.map_cons, List.sum_cons]; omega
theorem holds : tusklaw06_HeaderReads.PureU := by
  intro s l _ hb
  have hs : s.size ≤ 1048576 := by have : mStr s = s.size + 1 := rfl; omega
  have hl : (l.map m77).sum ≤ 1048576 := by have : (mList m77) l = (l.map m77).sum + 1 := rfl; omega
  obtain ⟨t1, t2, t3⟩ := tag_sum l
  have hw : (wireList (twords l)).size ≤ 140737488355328 := by have := wireList_size (twords l); omega
  refine Ev.rounds ?_
  by_cases hd : (s.size : Int) > 20000 ∨ (l.length : Int) > 50
  · refine Ev.congr (f := fun k => tusklaw06_HeaderReads.j0 k s l true) (fun k => ?_) (Ev.step (fun k => by rw [tusklaw06_HeaderReads.j0, if_pos rfl]) (Ev.now _))
    rw [tusklaw06_HeaderReads.f]
    by_cases h1 : (s.size : Int) > 20000
    · rw [if_pos h1]
    · rw [if_neg h1, decide_eq_true (hd.resolve_left h1)]
  · have h1 : ¬ (s.size : Int) > 20000 := fun h => hd (.inl h)
    have h2 : ¬ (l.length : Int) > 50 := fun h => hd (.inr h)
    refine Ev.congr (f := fun k => tusklaw06_HeaderReads.j0 k s l false) (fun k => by rw [tusklaw06_HeaderReads.f, if_neg h1, decide_eq_false h2]) ?_
    refine Ev.step (f := fun k => (header_GetTags.f k s).bind fun a => (tuskref06_GetTags.f k s).bind fun b => (tuskref06_Same.f k (hdec s).1 (hdec s).2.1 (hdec s).2.2.1 (hdec s).2.2.2.1 (hdec s).1 (hdec s).2.1 (hdec s).2.2.1 (hdec s).2.2.2.1).bind fun t => if t = true then ((tuskref06_SameTags.f k a.1 b.1).bind fun t181 => (if t181 = true then (if a.2.1 = b.2.1 then (if a.2.2 = b.2.2 then ((header_Tags.f k l).bind fun t182 => ((tuskref06_Tags.f k l).bind fun t183 => (some (t182.toList == t183.toList)))) else (some false)) else (some false)) else (some false))) else some false) (fun k => ?_) ?_
    · rw [tusklaw06_HeaderReads.j0, if_neg (by decide), header_Decode.f, if_pos hs, Option.bind_some, tuskref06_Decode.f, if_pos hs, Option.bind_some]
      simp only [Option.bind_some, List.length_nil, List.nil_append, if_true, if_pos (show 0 + l.length < 5864062014805 by omega)]
    · refine Ev.bind (htags_ev hs) (Ev.bind (rtags_ev hs) (Ev.bind (hdec_same s) ?_))
      refine Ev.congr (fun k => if_pos rfl) (Ev.bind (tags_same _ (Nat.le_trans (gtags_len s) (by decide))) ?_)
      refine Ev.congr (f := fun k => (header_Tags.f k l).bind fun t182 => (tuskref06_Tags.f k l).bind fun t183 => some (t182.toList == t183.toList)) (fun k => ?_) ?_
      · rw [if_pos rfl, if_pos rfl, if_pos rfl]
      · refine Ev.bind (htags l (by omega) (fun x hx => Nat.le_trans (t2 x hx) hl) hw) (Ev.bind (rtags l (by omega) (fun x hx => Nat.le_trans (t2 x hx) hl) hw) ?_)
        rw [show ((wireList (twords l)).toList == (wireList (twords l)).toList) = true from beq_self_eq_true _]
        exact Ev.now _
end HeaderReads
theorem HeaderReads : tusklaw06_HeaderReads.PureU := HeaderReads.holds
end Go.Proofs.Ytdaklahoainpfaa.Pure
