/- Tags read: plain functions; both readers of tags come to them. -/
import Derived.Test.YtdaklahoainpfaaQBaseBx
namespace Go.Proofs.Ytdaklahoainpfaa.PlainB
open Go.RowKit Go.Proofs.YtdaklahoainpfaaW.PrintWords Go.Proofs.YtdaklahoainpfaaW.PrintLast Go.Proofs.YtdaklahoainpfaaW.PrintMore Go.Proofs.Ytdaklahoainpfaa.Plain01 Go.Proofs.Ytdaklahoainpfaa.WireInt Go.Proofs.Ytdaklahoainpfaa.Ref01 Go.Proofs.Ytdaklahoainpfaa.QKinds Go.Proofs.Ytdaklahoainpfaa.QBaseB
set_option linter.unusedVariables false
set_option linter.unusedSimpArgs false
abbrev Tag := S77
theorem texts_place (s : ByteArray) : ∀ (n : Nat) (at_ : Nat) (acc : List ByteArray), at_ ≤ s.size → 0 ≤ (wireTexts s n at_ acc).2.1 ∧ (wireTexts s n at_ acc).2.1 ≤ s.size
  | 0, at_, acc, h => by rw [wireTexts]; exact ⟨by dsimp only; omega, by dsimp only; omega⟩
  | n + 1, at_, acc, h => by
    rw [wireTexts, Int.toNat_natCast]
    rcases texts_step s at_ h with ⟨h0, h1, h3⟩ | h0
    · rw [if_pos h0]
      obtain ⟨q, hq⟩ := Int.eq_ofNat_of_zero_le (show 0 ≤ (wireGetText (s.extract at_ s.size)).2.1 by omega)
      rw [hq]
      exact texts_place s n (at_ + q) _ (by omega)
    · rw [if_neg h0]; exact ⟨by simp, by simp⟩
theorem texts_count (s : ByteArray) : ∀ (n : Nat) (at_ : Int) (acc : List ByteArray), (wireTexts s n at_ acc).1.length ≤ acc.length + n
  | 0, at_, acc => by rw [wireTexts]; exact Nat.le_refl _
  | n + 1, at_, acc => by
    rw [wireTexts]
    split
    · have := texts_count s n (at_ + (wireGetText (s.extract at_.toNat s.size)).2.1) (acc ++ [(wireGetText (s.extract at_.toNat s.size)).1])
      rw [List.length_append, List.length_singleton] at this
      omega
    · simp
theorem text_le (s : ByteArray) : (wireGetText s).1.size ≤ s.size := by
  unfold wireGetText
  split
  · split
    · exact Nat.zero_le _
    · split
      · exact Nat.zero_le _
      · dsimp only; rw [ByteArray.size_extract]; omega
  · exact Nat.zero_le _
theorem texts_small (s : ByteArray) : ∀ (n : Nat) (at_ : Int) (acc : List ByteArray), (∀ x, x ∈ acc → x.size ≤ s.size) → ∀ x, x ∈ (wireTexts s n at_ acc).1 → x.size ≤ s.size
  | 0, at_, acc, h, x, hx => by rw [wireTexts] at hx; exact h x hx
  | n + 1, at_, acc, h, x, hx => by
    rw [wireTexts] at hx
    split at hx
    · refine texts_small s n _ _ (fun y hy => ?_) x hx
      rcases List.mem_append.1 hy with hy | hy
      · exact h y hy
      · obtain rfl := List.mem_singleton.1 hy
        have h1 := text_le (s.extract at_.toNat s.size)
        rw [ByteArray.size_extract] at h1
        omega
    · simp at hx
/-- What a list that was got is. -/
theorem list_facts (s : ByteArray) (most : Nat) : 0 ≤ (wireGetList s most).2.1 ∧ (wireGetList s most).2.1 ≤ s.size ∧ (wireGetList s most).1.length ≤ most ∧ ∀ x, x ∈ (wireGetList s most).1 → x.size ≤ s.size := by
  unfold wireGetList
  rcases wireGet_cases s with ⟨h0, h1, h2, h3, h4, h5⟩ | ⟨h1, h2, h3⟩
  · rw [if_pos h0]
    split
    · simp
    · rename_i hm
      obtain ⟨q, hq⟩ := Int.eq_ofNat_of_zero_le (show 0 ≤ (wireGet s).2.1 by omega)
      rw [hq]
      have p := texts_place s (wireGet s).1.toNat q [] (by omega)
      have c := texts_count s (wireGet s).1.toNat q []
      refine ⟨p.1, p.2, ?_, texts_small s _ _ [] (fun x hx => by simp at hx)⟩
      rw [List.length_nil] at c
      omega
  · rw [if_neg (by omega)]; simp
def tagOf (p : ByteArray) : Tag × Int :=
  if (wireGet p).2.2 = 0 then if (wireGet p).1 > 6 then (z77, 2) else if (p.size : Int) = (wireGet p).2.1 + 16 then (⟨(wireGet p).1, p.extract (wireGet p).2.1.toNat p.size⟩, 0) else (z77, 3)
  else (z77, (wireGet p).2.2)
def tagsL : List ByteArray → List Tag → List Tag × Int
  | [], acc => (acc, 0)
  | p :: l, acc => if (tagOf p).2 = 0 then tagsL l (acc ++ [(tagOf p).1]) else ([], (tagOf p).2)
/-- The tags at the front of bytes. -/
def gtags (s : ByteArray) : List Tag × Int × Int :=
  if (wireGetList s 7).2.2 = 0 then if (tagsL (wireGetList s 7).1 []).2 = 0 then ((tagsL (wireGetList s 7).1 []).1, (wireGetList s 7).2.1, 0) else ([], 0, (tagsL (wireGetList s 7).1 []).2)
  else ([], 0, (wireGetList s 7).2.2)
theorem gtags_place (s : ByteArray) : 0 ≤ (gtags s).2.1 ∧ (gtags s).2.1 ≤ s.size := by
  have h := list_facts s 7
  unfold gtags
  split
  · split
    · exact ⟨h.1, h.2.1⟩
    · exact ⟨by simp, by simp⟩
  · exact ⟨by simp, by simp⟩
theorem w64' {i : Nat} (h : i ≤ 4611686018427387903) : wrap64 ((i : Int) + 1) = ((i + 1 : Nat) : Int) := by unfold wrap64; omega
theorem rd_at (l : List ByteArray) (i : Nat) (h : i < l.length) : rdOf ByteArray.empty l (i : Int) = l[i] := by
  rw [rdOf, Int.toNat_natCast, List.getD_eq_getElem?_getD, List.getElem?_eq_getElem h]; rfl
/-- What is told of the rest of the parts. -/
def tagsR (N : Int) (l : List ByteArray) (acc : List Tag) : List Tag × Int × Int := if (tagsL l acc).2 = 0 then ((tagsL l acc).1, N, 0) else ([], 0, (tagsL l acc).2)
theorem hl0_ev (N : Int) (l : List ByteArray) (hl : l.length ≤ 7) (hs : ∀ x, x ∈ l → x.size ≤ 1048576) : ∀ (d i : Nat) (acc : List Tag), i + d = l.length → acc.length ≤ i → Ev (fun k => header_GetTags.l0 k N acc l (l.length : Int) (i : Int)) (tagsR N (l.drop i) acc) := by
  intro d
  induction d with
  | zero =>
    intro i acc hi ha
    rw [List.drop_of_length_le (by omega)]
    exact Ev.step (f := fun _ => some (acc, N, 0)) (fun k => by rw [header_GetTags.l0, if_neg (by omega)]) (Ev.now _)
  | succ d ih =>
    intro i acc hi ha
    have hil : i < l.length := by omega
    have hsz := hs l[i] (List.getElem_mem hil)
    rw [List.drop_eq_getElem_cons hil, tagsR, tagsL]
    by_cases h0 : (wireGet l[i]).2.2 = 0
    · by_cases h6 : (wireGet l[i]).1 > 6
      · have ht : tagOf l[i] = (z77, 2) := by rw [tagOf, if_pos h0, if_pos h6]
        rw [ht, if_neg (show ¬ ((2 : Int) = 0) by decide), if_neg (show ¬ ((2 : Int) = 0) by decide)]
        refine Ev.step (f := fun _ => some ([], 0, 2)) (fun k => ?_) (Ev.now _)
        rw [header_GetTags.l0, if_pos (by omega), if_pos (by omega), if_pos (by omega), rd_at l i hil, wire_GetInt.f, Option.bind_some, if_pos h0, if_pos h6]
      · rcases wireGet_cases l[i] with ⟨_, g1, g2, g3, g4, g5⟩ | ⟨_, _, g3⟩
        · have hw : wrap64 ((wireGet l[i]).2.1 + 16) = (wireGet l[i]).2.1 + 16 := by unfold wrap64; omega
          by_cases hz : (l[i].size : Int) = (wireGet l[i]).2.1 + 16
          · have ht : tagOf l[i] = (⟨(wireGet l[i]).1, l[i].extract (wireGet l[i]).2.1.toNat l[i].size⟩, 0) := by rw [tagOf, if_pos h0, if_neg h6, if_pos hz]
            rw [ht, if_pos rfl]
            refine Ev.step (fun k => ?_) (ih (i + 1) _ (by omega) (by rw [List.length_append, List.length_singleton]; omega))
            rw [header_GetTags.l0, if_pos (by omega), if_pos (by omega), if_pos (by omega), rd_at l i hil, wire_GetInt.f, Option.bind_some, if_pos h0, if_neg h6, hw, if_pos hz, if_pos (by omega), if_pos g5, if_pos (by omega), w64' (by omega)]
          · have ht : tagOf l[i] = (z77, 3) := by rw [tagOf, if_pos h0, if_neg h6, if_neg hz]
            rw [ht, if_neg (show ¬ ((3 : Int) = 0) by decide), if_neg (show ¬ ((3 : Int) = 0) by decide)]
            refine Ev.step (f := fun _ => some ([], 0, 3)) (fun k => ?_) (Ev.now _)
            rw [header_GetTags.l0, if_pos (by omega), if_pos (by omega), if_pos (by omega), rd_at l i hil, wire_GetInt.f, Option.bind_some, if_pos h0, if_neg h6, hw, if_neg hz]
        · omega
    · have ht : tagOf l[i] = (z77, (wireGet l[i]).2.2) := by rw [tagOf, if_neg h0]
      rw [ht, if_neg h0, if_neg h0]
      refine Ev.step (f := fun _ => some ([], 0, (wireGet l[i]).2.2)) (fun k => ?_) (Ev.now _)
      rw [header_GetTags.l0, if_pos (by omega), if_pos (by omega), if_pos (by omega), rd_at l i hil, wire_GetInt.f, Option.bind_some, if_neg h0]
theorem rl0_ev (N : Int) (l : List ByteArray) (hl : l.length ≤ 7) (hs : ∀ x, x ∈ l → x.size ≤ 1048576) : ∀ (d i : Nat) (acc : List Tag), i + d = l.length → acc.length ≤ i → Ev (fun k => tuskref06_GetTags.l0 k l N acc (i : Int)) (tagsR N (l.drop i) acc) := by
  intro d
  induction d with
  | zero =>
    intro i acc hi ha
    rw [List.drop_of_length_le (by omega)]
    exact Ev.step (f := fun _ => some (acc, N, 0)) (fun k => by rw [tuskref06_GetTags.l0, if_neg (by omega)]) (Ev.now _)
  | succ d ih =>
    intro i acc hi ha
    have hil : i < l.length := by omega
    have hsz := hs l[i] (List.getElem_mem hil)
    rw [List.drop_eq_getElem_cons hil, tagsR, tagsL]
    by_cases h0 : (wireGet l[i]).2.2 = 0
    · by_cases h6 : (wireGet l[i]).1 > 6
      · have ht : tagOf l[i] = (z77, 2) := by rw [tagOf, if_pos h0, if_pos h6]
        rw [ht, if_neg (show ¬ ((2 : Int) = 0) by decide), if_neg (show ¬ ((2 : Int) = 0) by decide)]
        refine Ev.step (f := fun _ => some ([], 0, 2)) (fun k => ?_) (Ev.now _)
        rw [tuskref06_GetTags.l0, if_pos (by omega), if_pos (by omega), rd_at l i hil, tuskref01_GetInt.f, Option.bind_some, if_pos h0, if_pos h6]
      · rcases wireGet_cases l[i] with ⟨_, g1, g2, g3, g4, g5⟩ | ⟨_, _, g3⟩
        · have hw : wrap64 ((l[i].size : Int) - (wireGet l[i]).2.1) = (l[i].size : Int) - (wireGet l[i]).2.1 := by unfold wrap64; omega
          by_cases hz : (l[i].size : Int) = (wireGet l[i]).2.1 + 16
          · have ht : tagOf l[i] = (⟨(wireGet l[i]).1, l[i].extract (wireGet l[i]).2.1.toNat l[i].size⟩, 0) := by rw [tagOf, if_pos h0, if_neg h6, if_pos hz]
            rw [ht, if_pos rfl]
            refine Ev.step (fun k => ?_) (ih (i + 1) _ (by omega) (by rw [List.length_append, List.length_singleton]; omega))
            rw [tuskref06_GetTags.l0, if_pos (by omega), if_pos (by omega), rd_at l i hil, tuskref01_GetInt.f, Option.bind_some, if_pos h0, if_neg h6, hw, if_pos (by omega), if_pos (by omega), if_pos g5, if_pos (by omega), w64' (by omega)]
          · have ht : tagOf l[i] = (z77, 3) := by rw [tagOf, if_pos h0, if_neg h6, if_neg hz]
            rw [ht, if_neg (show ¬ ((3 : Int) = 0) by decide), if_neg (show ¬ ((3 : Int) = 0) by decide)]
            refine Ev.step (f := fun _ => some ([], 0, 3)) (fun k => ?_) (Ev.now _)
            rw [tuskref06_GetTags.l0, if_pos (by omega), if_pos (by omega), rd_at l i hil, tuskref01_GetInt.f, Option.bind_some, if_pos h0, if_neg h6, hw, if_neg (by omega)]
        · omega
    · have ht : tagOf l[i] = (z77, (wireGet l[i]).2.2) := by rw [tagOf, if_neg h0]
      rw [ht, if_neg h0, if_neg h0]
      refine Ev.step (f := fun _ => some ([], 0, (wireGet l[i]).2.2)) (fun k => ?_) (Ev.now _)
      rw [tuskref06_GetTags.l0, if_pos (by omega), if_pos (by omega), rd_at l i hil, tuskref01_GetInt.f, Option.bind_some, if_neg h0]
theorem htags_ev {s : ByteArray} (hs : s.size ≤ 1048576) : Ev (fun k => header_GetTags.f k s) (gtags s) := by
  obtain ⟨h1, h2, h3, h4⟩ := list_facts s 7
  have hu : ∀ k, header_GetTags.f k s = if (wireGetList s 7).2.2 = 0 then header_GetTags.l0 k (wireGetList s 7).2.1 [] (wireGetList s 7).1 ((wireGetList s 7).1.length : Int) 0 else some ([], 0, (wireGetList s 7).2.2) := fun k => by
    rw [header_GetTags.f, wire_GetList.f, if_pos (by omega), Option.bind_some]
  refine Ev.congr hu ?_
  unfold gtags
  by_cases h0 : (wireGetList s 7).2.2 = 0
  · simp only [if_pos h0]
    exact hl0_ev _ _ h3 (fun x hx => Nat.le_trans (h4 x hx) hs) _ 0 [] (Nat.zero_add _) (Nat.le_refl _)
  · simp only [if_neg h0]
    exact Ev.now _
theorem rtags_ev {s : ByteArray} (hs : s.size ≤ 1048576) : Ev (fun k => tuskref06_GetTags.f k s) (gtags s) := by
  obtain ⟨h1, h2, h3, h4⟩ := list_facts s 7
  have hu : ∀ k, tuskref06_GetTags.f k s = if (wireGetList s 7).2.2 = 0 then tuskref06_GetTags.l0 k (wireGetList s 7).1 (wireGetList s 7).2.1 [] 0 else some ([], 0, (wireGetList s 7).2.2) := fun k => by
    rw [tuskref06_GetTags.f, tuskref01_GetList.f, if_pos (by omega), Option.bind_some]
  refine Ev.congr hu ?_
  unfold gtags
  by_cases h0 : (wireGetList s 7).2.2 = 0
  · simp only [if_pos h0]
    exact rl0_ev _ _ h3 (fun x hx => Nat.le_trans (h4 x hx) hs) _ 0 [] (Nat.zero_add _) (Nat.le_refl _)
  · simp only [if_neg h0]
    exact Ev.now _
end Go.Proofs.Ytdaklahoainpfaa.PlainB
