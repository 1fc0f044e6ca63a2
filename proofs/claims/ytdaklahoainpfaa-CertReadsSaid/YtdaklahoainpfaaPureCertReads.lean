/- Proved: the statement CertReads: any bytes are read as a certificate, or refused, as the reference says. -/
import Derived.Test.YtdaklahoainpfaaQCertReadsx
import Derived.Test.YtdaklahoainpfaaSameR
namespace Go.Proofs.Ytdaklahoainpfaa.Pure
open Go.RowKit Go.Proofs.Ytdaklahoainpfaa.QCertReads Go.Proofs.YtdaklahoainpfaaW.PrintWords Go.Proofs.YtdaklahoainpfaaW.PrintLast Go.Proofs.Ytdaklahoainpfaa.QKinds Go.Proofs.Ytdaklahoainpfaa.QBaseR Go.Proofs.Ytdaklahoainpfaa.DecH Go.Proofs.Ytdaklahoainpfaa.DecC
open Go.Proofs.Ytdaklahoainpfaa.WireInt Go.Proofs.Ytdaklahoainpfaa.WireList Go.Proofs.Ytdaklahoainpfaa.Ref01 Go.Proofs.Ytdaklahoainpfaa.Plain01 Go.Proofs.Ytdaklahoainpfaa.PlainR Go.Proofs.Ytdaklahoainpfaa.TakeR Go.Proofs.Ytdaklahoainpfaa.Hdec Go.Proofs.Ytdaklahoainpfaa.SameR
namespace CertReads
theorem empty_iff (s : ByteArray) : s.toList = [] ↔ s.size = 0 := by
  rw [ByteArray.toList_eq]
  constructor
  · intro h
    have := congrArg List.length h
    simpa using this
  · intro h
    exact List.eq_nil_of_length_eq_zero (by simpa using h)
theorem rest_empty (s : ByteArray) (n k : Int) (hn : 0 ≤ n) (hn1 : n ≤ s.size) (hk : 0 ≤ k) (hk1 : k ≤ (cut s n).size) : (cut (cut s n) k).toList = [] ↔ ¬ (s.size : Int) > n + k := by
  rw [empty_iff]
  have h1 : (cut s n).size = s.size - n.toNat := by rw [cut, ByteArray.size_extract]; omega
  have h2 : (cut (cut s n) k).size = (cut s n).size - k.toNat := by rw [cut, ByteArray.size_extract]; omega
  rw [h2, h1]; omega
theorem cert_ev (s : ByteArray) (hs : s.size ≤ 1048576) : Ev (fun k => cert_Decode.f k s) (cdec s) := by
  obtain ⟨hn0, hn1⟩ : 0 ≤ (wireGetText s).2.1 ∧ (wireGetText s).2.1 ≤ s.size := by
    rcases wireGetText_cases s with ⟨_, h3, h5⟩ | ⟨_, h2, _⟩
    · exact ⟨by omega, h5⟩
    · rw [h2]; exact ⟨by omega, by omega⟩
  have hx : (wireGetText s).1.size ≤ 1048576 := Nat.le_trans (text_le s) hs
  have hc : (cut s (wireGetText s).2.1).size ≤ 1048576 := Nat.le_trans (cut_le _ _) hs
  have ht : tkT s 0 = ((wireGetText s).1, cut s (wireGetText s).2.1, (wireGetText s).2.2) := by rw [tkT, if_pos rfl]
  obtain ⟨K, hK⟩ := htags_ev hc
  obtain ⟨hg0, hg1⟩ := gtags_place (cut s (wireGetText s).2.1)
  refine ⟨K, fun k hk => ?_⟩
  have hG : header_GetTags.f k (s.extract (wireGetText s).2.1.toNat s.size) = some (gtags (cut s (wireGetText s).2.1)) := hK k hk
  show cert_Decode.f k s = _
  have hcs : (cut s (wireGetText s).2.1).size ≤ s.size := cut_le _ _
  rw [cert_Decode.f, wire_GetText.f, if_pos (by omega), Option.bind_some, cdec, ht]
  by_cases h0 : (wireGetText s).2.2 = 0
  · rw [if_pos h0, if_neg (show ¬ ((wireGetText s).2.2 ≠ 0) from fun h => h h0), header_Decode.f, if_pos hx, Option.bind_some]
    by_cases h1 : (hdec (wireGetText s).1).2.2.2.2 = 0
    · rw [if_pos h1, if_pos hn0, if_pos hn1, hG, Option.bind_some]
      have hw : wrap64 ((wireGetText s).2.1 + (gtags (cut s (wireGetText s).2.1)).2.1) = (wireGetText s).2.1 + (gtags (cut s (wireGetText s).2.1)).2.1 := wrap_in (by omega) (by omega)
      have hre := rest_empty s _ _ hn0 hn1 hg0 hg1
      rw [h1, tkG, if_pos rfl, cend]
      by_cases h2 : (gtags (cut s (wireGetText s).2.1)).2.2 = 0
      · rw [if_pos h2, hw, h2]
        by_cases h3 : (s.size : Int) > (wireGetText s).2.1 + (gtags (cut s (wireGetText s).2.1)).2.1
        · have h4 : ¬ (cut (cut s (wireGetText s).2.1) (gtags (cut s (wireGetText s).2.1)).2.1).toList = [] := fun h => hre.1 h h3
          rw [if_pos h3, eEnd, if_pos rfl, if_neg h4, if_pos (by decide)]
        · have h4 := hre.2 h3
          rw [if_neg h3, eEnd, if_pos rfl, if_pos h4, if_neg (by decide)]
      · have h5 : eEnd (cut (cut s (wireGetText s).2.1) (gtags (cut s (wireGetText s).2.1)).2.1) (gtags (cut s (wireGetText s).2.1)).2.2 = (gtags (cut s (wireGetText s).2.1)).2.2 := by rw [eEnd, if_neg h2]
        rw [if_neg h2, h5, if_pos h2]
    · rw [if_neg h1, tkG_err _ h1, cend]
      have h5 : eEnd (cut s (wireGetText s).2.1) (hdec (wireGetText s).1).2.2.2.2 = (hdec (wireGetText s).1).2.2.2.2 := by rw [eEnd, if_neg h1]
      rw [h5, if_pos h1]
  · rw [if_neg h0, if_pos h0]
theorem same_ev (s : ByteArray) : Ev (fun k => tuskref07_Same.f k (cdec s).1 (cdec s).2.1 (cdec s).2.2.1 (cdec s).2.2.2.1 (cdec s).2.2.2.2.1 (cdec s).1 (cdec s).2.1 (cdec s).2.2.1 (cdec s).2.2.2.1 (cdec s).2.2.2.2.1) true := by
  have hz : ∀ e : Int, Ev (fun k => tuskref06_Same.f k 0 0 [] [] 0 0 [] []) true ∧ ([] : List Tag).length ≤ 1048576 := fun _ => ⟨head_same 0 0 [] [] (Nat.zero_le _) (Nat.zero_le _) (fun i hi => absurd hi (Nat.not_lt_zero _)), Nat.zero_le _⟩
  have h : Ev (fun k => tuskref06_Same.f k (cdec s).1 (cdec s).2.1 (cdec s).2.2.1 (cdec s).2.2.2.1 (cdec s).1 (cdec s).2.1 (cdec s).2.2.1 (cdec s).2.2.2.1) true ∧ (cdec s).2.2.2.2.1.length ≤ 1048576 := by
    unfold cdec
    split
    · exact hz 0
    · unfold cend
      split
      · exact hz 0
      · exact ⟨hdec_same _, Nat.le_trans (tkG_len _ _) (by decide)⟩
  refine Ev.bind h.1 ?_
  refine Ev.congr (fun k => if_pos rfl) (Ev.bind (tags_same _ h.2) (Ev.now _))
theorem holds : tusklaw07_CertReads.Pure := by
  intro s hs
  refine Ev.rounds ?_
  by_cases hd : (s.size : Int) > 20000
  · exact Ev.congr (fun k => by rw [tusklaw07_CertReads.f, if_pos hd]) (Ev.now _)
  · refine Ev.congr (fun k => by rw [tusklaw07_CertReads.f, if_neg hd, tuskref07_Decode.f, if_pos (by omega)]) ?_
    refine Ev.bind (cert_ev s (by omega)) ?_
    refine Ev.congr (fun k => Option.bind_some _ _) (Ev.bind (same_ev s) ?_)
    rw [show (if true = true then some ((cdec s).2.2.2.2.2 == (cdec s).2.2.2.2.2) else some false) = some true from by rw [if_pos rfl, beq_self_eq_true]]
    exact Ev.now _
end CertReads
theorem CertReads : tusklaw07_CertReads.Pure := CertReads.holds
end Go.Proofs.Ytdaklahoainpfaa.Pure
