/- A header read: a plain function; the reference's reader comes to it. -/
import Derived.Test.YtdaklahoainpfaaTakeR
namespace Go.Proofs.Ytdaklahoainpfaa.Hdec
open Go.RowKit Go.Proofs.YtdaklahoainpfaaW.PrintWords Go.Proofs.YtdaklahoainpfaaW.PrintLast Go.Proofs.YtdaklahoainpfaaW.PrintMore Go.Proofs.Ytdaklahoainpfaa.Plain01 Go.Proofs.Ytdaklahoainpfaa.WireInt Go.Proofs.Ytdaklahoainpfaa.Ref01 Go.Proofs.Ytdaklahoainpfaa.QKinds Go.Proofs.Ytdaklahoainpfaa.QBaseR Go.Proofs.Ytdaklahoainpfaa.PlainR Go.Proofs.Ytdaklahoainpfaa.TakeR
set_option linter.unusedVariables false
set_option linter.unusedSimpArgs false
abbrev RefT := S69
def refs : Nat → ByteArray → Int → List RefT × ByteArray × Int
  | 0, s, e => ([], s, e)
  | n + 1, s, e => (⟨(tkT s e).1, (tkG (tkT s e).2.1 (tkT s e).2.2).1⟩ :: (refs n (tkG (tkT s e).2.1 (tkT s e).2.2).2.1 (tkG (tkT s e).2.1 (tkT s e).2.2).2.2).1, (refs n (tkG (tkT s e).2.1 (tkT s e).2.2).2.1 (tkG (tkT s e).2.1 (tkT s e).2.2).2.2).2)
def hA (s : ByteArray) := tkI s 0
def hR (s : ByteArray) := tkI (hA s).2.1 (hA s).2.2
def hN (s : ByteArray) := tkI (hR s).2.1 (hR s).2.2
def hL (s : ByteArray) := refs (hN s).1.toNat (hN s).2.1 (hN s).2.2
def hP (s : ByteArray) := tkL (hL s).2.1 (hL s).2.2
abbrev Hd := Int × Int × List RefT × List ByteArray × Int
def hend (s : ByteArray) : Hd := if (hP s).2.2 ≠ 0 then (0, 0, [], [], (hP s).2.2) else if (hP s).2.1 ≠ (⟨#[]⟩ : ByteArray) then (0, 0, [], [], 6) else if 6 < (hA s).1 then (0, 0, [], [], 2) else ((hA s).1, (hR s).1, (hL s).1, (hP s).1, 0)
def hdec (s : ByteArray) : Hd := if (hN s).2.2 = 0 ∧ 4 < (hN s).1 then (0, 0, [], [], 8) else hend s
theorem tkI_err (s : ByteArray) {e : Int} (he : e ≠ 0) : tkI s e = (0, s, e) := by rw [tkI, if_neg he]
theorem tkT_err (s : ByteArray) {e : Int} (he : e ≠ 0) : tkT s e = (⟨#[]⟩, s, e) := by rw [tkT, if_neg he]
theorem tkG_err (s : ByteArray) {e : Int} (he : e ≠ 0) : tkG s e = ([], s, e) := by rw [tkG, if_neg he]
theorem tkL_err (s : ByteArray) {e : Int} (he : e ≠ 0) : tkL s e = ([], s, e) := by rw [tkL, if_neg he]
theorem tkI_le (s : ByteArray) (e : Int) : (tkI s e).2.1.size ≤ s.size := by unfold tkI; split; exact cut_le _ _; exact Nat.le_refl _
theorem tkT_le (s : ByteArray) (e : Int) : (tkT s e).2.1.size ≤ s.size := by unfold tkT; split; exact cut_le _ _; exact Nat.le_refl _
theorem tkG_le (s : ByteArray) (e : Int) : (tkG s e).2.1.size ≤ s.size := by unfold tkG; split; exact cut_le _ _; exact Nat.le_refl _
theorem tkL_le (s : ByteArray) (e : Int) : (tkL s e).2.1.size ≤ s.size := by unfold tkL; split; exact cut_le _ _; exact Nat.le_refl _
theorem tkI_nonneg (s : ByteArray) (e : Int) : 0 ≤ (tkI s e).1 := by
  unfold tkI
  split
  · rcases wireGet_cases s with ⟨_, g1, g2, g3, g4, g5⟩ | ⟨h1, _, g3⟩
    · first | exact g1 | omega
    · first | (rw [h1]; decide) | omega
  · exact Int.le_refl _
theorem refs_err (s : ByteArray) {e : Int} (he : e ≠ 0) : ∀ n, (refs n s e).2 = (s, e) := by
  intro n
  induction n with
  | zero => rfl
  | succ n ih => rw [refs, tkT_err s he]; show (refs n (tkG s e).2.1 (tkG s e).2.2).2 = _; rw [tkG_err s he]; exact ih
theorem refs_le (n : Nat) : ∀ (s : ByteArray) (e : Int), (refs n s e).2.1.size ≤ s.size := by
  induction n with
  | zero => intro s e; exact Nat.le_refl _
  | succ n ih => intro s e; exact Nat.le_trans (ih _ _) (Nat.le_trans (tkG_le _ _) (tkT_le _ _))
theorem in_int (s : ByteArray) (e : Int) : tuskref04_In_Int.f s e = some (tkI s e) := by
  rw [tuskref04_In_Int.f]
  by_cases he : e = 0
  · obtain ⟨hn0, hn1⟩ : 0 ≤ (wireGet s).2.1 ∧ (wireGet s).2.1 ≤ s.size := by
      rcases wireGet_cases s with ⟨_, _, _, h3, _, h5⟩ | ⟨_, h2, _⟩
      · exact ⟨by omega, h5⟩
      · rw [h2]; exact ⟨by omega, by omega⟩
    rw [if_pos he, tuskref01_GetInt.f, Option.bind_some, if_pos hn0, if_pos hn1, tkI, if_pos he]; rfl
  · rw [if_neg he, tkI, if_neg he]
theorem in_text (s : ByteArray) (e : Int) (hs : s.size ≤ 1048576) : tuskref04_In_Text.f s e = some (tkT s e) := by
  rw [tuskref04_In_Text.f]
  by_cases he : e = 0
  · obtain ⟨hn0, hn1⟩ : 0 ≤ (wireGetText s).2.1 ∧ (wireGetText s).2.1 ≤ s.size := by
      rcases wireGetText_cases s with ⟨_, h3, h5⟩ | ⟨_, h2, _⟩
      · exact ⟨by omega, h5⟩
      · rw [h2]; exact ⟨by omega, by omega⟩
    rw [if_pos he, tuskref01_GetText.f, if_pos (by omega), Option.bind_some, if_pos hn0, if_pos hn1, tkT, if_pos he]; rfl
  · rw [if_neg he, tkT, if_neg he]
theorem in_list (s : ByteArray) (e : Int) (hs : s.size ≤ 1048576) : tuskref04_In_List.f s e 7 = some (tkL s e) := by
  rw [tuskref04_In_List.f]
  by_cases he : e = 0
  · obtain ⟨hn0, hn1, _⟩ : 0 ≤ (wireGetList s 7).2.1 ∧ (wireGetList s 7).2.1 ≤ s.size ∧ _ := list_facts s 7
    rw [if_pos he, tuskref01_GetList.f, if_pos (by omega), Option.bind_some, if_pos hn0, if_pos hn1, tkL, if_pos he]; rfl
  · rw [if_neg he, tkL, if_neg he]
theorem in_some (s : ByteArray) (e : Int) (hs : s.size ≤ 1048576) : Ev (fun k => tuskref06_Some.f k s e) (tkG s e) := by
  by_cases he : e = 0
  · obtain ⟨hn0, hn1⟩ := gtags_place s
    obtain ⟨K, hK⟩ := rtags_ev hs
    refine ⟨K, fun k hk => ?_⟩
    show tuskref06_Some.f k s e = _
    rw [tuskref06_Some.f, if_pos he, show tuskref06_GetTags.f k s = some (gtags s) from hK k hk, Option.bind_some, if_pos hn0, if_pos hn1, tkG, if_pos he]; rfl
  · refine ⟨0, fun k hk => ?_⟩
    show tuskref06_Some.f k s e = _
    rw [tuskref06_Some.f, if_neg he, tkG, if_neg he]
def pOf (q : List RefT × ByteArray × Int) := tkL q.2.1 q.2.2
theorem get_loop (a r : Int) (n : Nat) (hn : n ≤ 4) : ∀ (d i : Nat) (s : ByteArray) (e : Int) (xs : List RefT), i + d = n → xs.length ≤ i → s.size ≤ 1048576 →
    ∃ L, Ev (fun k => tuskref06_Get.l0 k (n : Int) (i : Int) s e a r xs) (a, r, L, (pOf (refs d s e)).1, (pOf (refs d s e)).2.1, (pOf (refs d s e)).2.2) ∧ ((pOf (refs d s e)).2.2 = 0 → L = xs ++ (refs d s e).1) := by
  intro d
  induction d with
  | zero =>
    intro i s e xs hi hx hs
    refine ⟨xs, ?_, fun _ => (List.append_nil _).symm⟩
    refine Ev.step (f := fun k => tuskref06_Get.j3 k (n : Int) (i : Int) false s e a r xs) (fun k => by rw [tuskref06_Get.l0, if_neg (by omega)]) ?_
    refine Ev.step (f := fun _ => some (a, r, xs, (tkL s e).1, (tkL s e).2.1, (tkL s e).2.2)) (fun k => by rw [tuskref06_Get.j3, if_neg (by decide), in_list s e hs, Option.bind_some]) (Ev.now _)
  | succ d ih =>
    intro i s e xs hi hx hs
    by_cases he : e = 0
    · have hT := tkT_le s e
      have hG := tkG_le (tkT s e).2.1 (tkT s e).2.2
      obtain ⟨L, h1, h2⟩ := ih (i + 1) (tkG (tkT s e).2.1 (tkT s e).2.2).2.1 (tkG (tkT s e).2.1 (tkT s e).2.2).2.2 (xs ++ [⟨(tkT s e).1, (tkG (tkT s e).2.1 (tkT s e).2.2).1⟩]) (by omega) (by rw [List.length_append, List.length_singleton]; omega) (by omega)
      refine ⟨L, ?_, fun h => ?_⟩
      · refine Ev.step (f := fun k => tuskref06_Get.j3 k (n : Int) (i : Int) true s e a r xs) (fun k => by rw [tuskref06_Get.l0, if_pos (by omega), show (e == 0) = true from beq_iff_eq.2 he]) ?_
        obtain ⟨K1, hK1⟩ := in_some (tkT s e).2.1 (tkT s e).2.2 (by omega)
        obtain ⟨K2, hK2⟩ := h1
        refine ⟨K1 + K2 + 1, fun k hk => ?_⟩
        obtain ⟨k, rfl⟩ : ∃ k', k = k' + 1 := ⟨k - 1, by omega⟩
        show tuskref06_Get.j3 (k + 1) (n : Int) (i : Int) true s e a r xs = _
        rw [tuskref06_Get.j3, if_pos rfl, in_text s e hs, Option.bind_some, show tuskref06_Some.f k (tkT s e).2.1 (tkT s e).2.2 = some (tkG (tkT s e).2.1 (tkT s e).2.2) from hK1 k (by omega), Option.bind_some, if_pos (by omega), w64' (by omega)]
        exact hK2 k (by omega)
      · have h3 := h2 h
        rw [h3, List.append_assoc]; rfl
    · refine ⟨xs, ?_, fun h => absurd h ?_⟩
      · have hp : pOf (refs (d + 1) s e) = ([], s, e) := by rw [pOf, refs_err s he, tkL_err s he]
        rw [hp]
        refine Ev.step (f := fun k => tuskref06_Get.j3 k (n : Int) (i : Int) false s e a r xs) (fun k => by rw [tuskref06_Get.l0, if_pos (by omega), show (e == 0) = false from beq_eq_false_iff_ne.2 he]) ?_
        refine Ev.step (f := fun _ => some (a, r, xs, [], s, e)) (fun k => by rw [tuskref06_Get.j3, if_neg (by decide), in_list s e hs, Option.bind_some, tkL_err s he]) (Ev.now _)
      · rw [pOf, refs_err s he, tkL_err s he]; exact he
/-- What the reference's Get tells. -/
theorem get_ev (s : ByteArray) (hs : s.size ≤ 1048576) : ∃ L P t E, Ev (fun k => tuskref06_Get.f k s 0) ((hA s).1, (hR s).1, L, P, t, E) ∧ ((hN s).2.2 = 0 ∧ 4 < (hN s).1 ∧ E = 8 ∨ ¬ ((hN s).2.2 = 0 ∧ 4 < (hN s).1) ∧ E = (hP s).2.2 ∧ t = (hP s).2.1 ∧ P = (hP s).1 ∧ (E = 0 → L = (hL s).1)) := by
  have l1 := tkI_le s 0
  have l2 := tkI_le (hA s).2.1 (hA s).2.2
  have l3 := tkI_le (hR s).2.1 (hR s).2.2
  have hsz : (hN s).2.1.size ≤ 1048576 := by
    have e1 : (hA s).2.1.size ≤ s.size := l1
    have e2 : (hR s).2.1.size ≤ (hA s).2.1.size := l2
    have e3 : (hN s).2.1.size ≤ (hR s).2.1.size := l3
    omega
  have hn0 : 0 ≤ (hN s).1 := tkI_nonneg _ _
  have hu : ∀ k, tuskref06_Get.f k s 0 = if (hN s).2.2 = 0 then tuskref06_Get.j0 k (hA s).1 (hR s).1 (hN s).1 (decide ((hN s).1 > 4)) (hN s).2.1 (hN s).2.2 else tuskref06_Get.j0 k (hA s).1 (hR s).1 (hN s).1 false (hN s).2.1 (hN s).2.2 := fun k => by
    rw [tuskref06_Get.f, in_int s 0, Option.bind_some, in_int, Option.bind_some, in_int, Option.bind_some]; rfl
  have hj0 : ∀ (b : Bool), Ev (fun k => tuskref06_Get.f k s 0) = Ev (fun k => if (hN s).2.2 = 0 then tuskref06_Get.j0 k (hA s).1 (hR s).1 (hN s).1 (decide ((hN s).1 > 4)) (hN s).2.1 (hN s).2.2 else tuskref06_Get.j0 k (hA s).1 (hR s).1 (hN s).1 false (hN s).2.1 (hN s).2.2) := fun _ => by
    congr 1; funext k; exact hu k
  rw [hj0 true]
  clear hu hj0
  by_cases h0 : (hN s).2.2 = 0
  · by_cases h4 : (hN s).1 > 4
    · refine ⟨[], [], (hN s).2.1, 8, ?_, .inl ⟨h0, h4, rfl⟩⟩
      refine Ev.step (f := fun k => tuskref06_Get.j1 k (hA s).1 (hR s).1 (hN s).1 (hN s).2.1 8) (fun k => by rw [if_pos h0, show decide ((hN s).1 > 4) = true from decide_eq_true h4, tuskref06_Get.j0, if_pos rfl]) ?_
      refine Ev.step (f := fun k => tuskref06_Get.l0 k (hN s).1 0 (hN s).2.1 8 (hA s).1 (hR s).1 []) (fun k => by rw [tuskref06_Get.j1]) ?_
      refine Ev.step (f := fun k => tuskref06_Get.j3 k (hN s).1 0 false (hN s).2.1 8 (hA s).1 (hR s).1 []) (fun k => by rw [tuskref06_Get.l0, if_pos (by omega)]; rfl) ?_
      refine Ev.step (f := fun _ => some ((hA s).1, (hR s).1, [], [], (hN s).2.1, 8)) (fun k => by rw [tuskref06_Get.j3, if_neg (by decide), in_list _ _ hsz, Option.bind_some, tkL_err _ (by decide)]) (Ev.now _)
    · obtain ⟨L, h1, h2⟩ := get_loop (hA s).1 (hR s).1 (hN s).1.toNat (by omega) (hN s).1.toNat 0 (hN s).2.1 (hN s).2.2 [] (by omega) (Nat.le_refl _) hsz
      refine ⟨L, (hP s).1, (hP s).2.1, (hP s).2.2, ?_, .inr ⟨fun h => h4 h.2, rfl, rfl, rfl, fun h => h2 h⟩⟩
      refine Ev.step (f := fun k => tuskref06_Get.j1 k (hA s).1 (hR s).1 (hN s).1 (hN s).2.1 (hN s).2.2) (fun k => by rw [if_pos h0, show decide ((hN s).1 > 4) = false from decide_eq_false h4, tuskref06_Get.j0, if_neg (by decide)]) ?_
      refine Ev.step (f := fun k => tuskref06_Get.l0 k (hN s).1 0 (hN s).2.1 (hN s).2.2 (hA s).1 (hR s).1 []) (fun k => by rw [tuskref06_Get.j1]) ?_
      rw [show (((hN s).1.toNat : Nat) : Int) = (hN s).1 from by omega] at h1
      exact h1
  · refine ⟨[], [], (hN s).2.1, (hN s).2.2, ?_, .inr ⟨fun h => h0 h.1, ?_, ?_, ?_, fun h => absurd h h0⟩⟩
    · have hz : (hN s).1 = 0 := by
        unfold hN tkI
        split
        · rename_i hz
          rcases wireGet_cases (hR s).2.1 with ⟨g0, _⟩ | ⟨g1, _⟩
          · exact absurd (show (hN s).2.2 = 0 by rw [hN, tkI, if_pos hz]; exact g0) h0
          · exact g1
        · rfl
      refine Ev.step (f := fun k => tuskref06_Get.j1 k (hA s).1 (hR s).1 (hN s).1 (hN s).2.1 (hN s).2.2) (fun k => by rw [if_neg h0, tuskref06_Get.j0, if_neg (by decide)]) ?_
      refine Ev.step (f := fun k => tuskref06_Get.l0 k (hN s).1 0 (hN s).2.1 (hN s).2.2 (hA s).1 (hR s).1 []) (fun k => by rw [tuskref06_Get.j1]) ?_
      refine Ev.step (f := fun k => tuskref06_Get.j3 k (hN s).1 0 false (hN s).2.1 (hN s).2.2 (hA s).1 (hR s).1 []) (fun k => by rw [tuskref06_Get.l0, if_neg (by omega)]) ?_
      refine Ev.step (f := fun _ => some ((hA s).1, (hR s).1, [], [], (hN s).2.1, (hN s).2.2)) (fun k => by rw [tuskref06_Get.j3, if_neg (by decide), in_list _ _ hsz, Option.bind_some, tkL_err _ h0]) (Ev.now _)
    · rw [hP, hL, refs_err _ h0, tkL_err _ h0]
    · rw [hP, hL, refs_err _ h0, tkL_err _ h0]
    · rw [hP, hL, refs_err _ h0, tkL_err _ h0]
theorem nil_list : (⟨#[]⟩ : ByteArray).toList = [] := by rw [ByteArray.toList_eq]
/-- The error behind End. -/
def eEnd (t : ByteArray) (E : Int) : Int := if E = 0 then if t.toList = [] then 0 else 6 else E
theorem ref_fin (s : ByteArray) (L : List RefT) (P : List ByteArray) (t : ByteArray) (E : Int) (hc : (hN s).2.2 = 0 ∧ 4 < (hN s).1 ∧ E = 8 ∨ ¬ ((hN s).2.2 = 0 ∧ 4 < (hN s).1) ∧ E = (hP s).2.2 ∧ t = (hP s).2.1 ∧ P = (hP s).1 ∧ (E = 0 → L = (hL s).1)) :
    hdec s = if eEnd t E ≠ 0 then (0, 0, [], [], eEnd t E) else if 6 < (hA s).1 then (0, 0, [], [], 2) else ((hA s).1, (hR s).1, L, P, 0) := by
  rcases hc with ⟨h1, h2, rfl⟩ | ⟨h1, rfl, rfl, rfl, h5⟩
  · rw [hdec, if_pos ⟨h1, h2⟩, show eEnd t 8 = 8 from rfl, if_pos (by decide)]
  · rw [hdec, if_neg h1, hend]
    by_cases h0 : (hP s).2.2 = 0
    · rw [if_neg (by omega), eEnd, if_pos h0]
      by_cases ht : (hP s).2.1.toList = []
      · have hq : (hP s).2.1 = (⟨#[]⟩ : ByteArray) := toList_inj (by rw [ht]; exact nil_list.symm)
        rw [if_pos ht, if_neg (fun h => h hq), if_neg (show ¬ ((0 : Int) ≠ 0) from fun h => h rfl), h5 h0]
      · rw [if_neg ht, if_pos (show (6 : Int) ≠ 0 by decide), if_pos (fun h => ht (by rw [h]; exact nil_list))]
    · rw [if_pos h0, eEnd, if_neg h0, if_pos h0]
theorem in_end (t : ByteArray) (E : Int) : tuskref04_In_End.f t E = some (t, eEnd t E) := by
  rw [tuskref04_In_End.f, eEnd]
  split
  · split
    · rename_i h _; rw [h]
    · rfl
  · rfl
end Go.Proofs.Ytdaklahoainpfaa.Hdec
