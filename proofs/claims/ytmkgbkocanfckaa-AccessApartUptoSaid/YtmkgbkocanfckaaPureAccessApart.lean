/- The law AccessApart in plain words: members of different groups are not in each other's way; a group's number is its least member's. -/
import Derived.Test.YtmkgbkocanfckaaQAccessApartU
import Derived.Test.YtmkgbkocanfckaaPlain20
namespace Go.Proofs.Ytmkgbkocanfckaa.PureAccessApart
open Go.RowKit Go.Proofs.YtmkgbkocanfckaaW.PrintWords Go.Proofs.YtmkgbkocanfckaaW.PrintMore Go.Proofs.Ytmkgbkocanfckaa.QKinds Go.Proofs.Ytmkgbkocanfckaa.QBase20 Go.Proofs.Ytmkgbkocanfckaa.Meet Go.Proofs.Ytmkgbkocanfckaa.Edges Go.Proofs.Ytmkgbkocanfckaa.GroupsP Go.Proofs.Ytmkgbkocanfckaa.Groups Go.Proofs.Ytmkgbkocanfckaa.Contracts20 Go.Proofs.Ytmkgbkocanfckaa.Open Go.Proofs.Ytmkgbkocanfckaa.QOpen Go.Proofs.Ytmkgbkocanfckaa.Plain20 Go.Proofs.Ytmkgbkocanfckaa.Works20 Go.Proofs.Ytmkgbkocanfckaa.QAccessApart
set_option linter.unusedVariables false
set_option linter.unusedSimpArgs false
theorem len_ints (g : List Nat) : ((ints g).length : Int) = (g.length : Int) := by rw [ints_len]
section
variable {l : List S26} {gs : List Nat} {F : Nat → Nat}
theorem inner_ev (hs : ∀ x, x ∈ l → Small x) (hl : l.length ≤ 500) (hg : gs.length = l.length) (hF : ∀ i, i < l.length → gs.getD i 0 = F i) (hT : Tells (edgesN l) F) (i : Nat) (hi : i < l.length)
    (h : ∃ K, ∀ k, K ≤ k → tusklaw20_AccessApart.l0 k l (ints gs) (wrap64 ((i : Int) + 1)) = some true) : ∀ (d j : Nat), j + d = i → ∃ K, ∀ k, K ≤ k → tusklaw20_AccessApart.l1 k l (ints gs) (i : Int) (j : Int) = some true := by
  intro d
  induction d with
  | zero =>
    intro j hj
    obtain ⟨K, hK⟩ := h
    refine ⟨K + 1, fun k hk => ?_⟩
    obtain ⟨k, rfl⟩ : ∃ m, k = m + 1 := ⟨k - 1, by omega⟩
    rw [tusklaw20_AccessApart.l1, if_neg (by omega)]
    exact hK k (by omega)
  | succ d ih =>
    intro j hj
    obtain ⟨K, hK⟩ := ih (j + 1) (by omega)
    refine ⟨K + 1, fun k hk => ?_⟩
    obtain ⟨k, rfl⟩ : ∃ m, k = m + 1 := ⟨k - 1, by omega⟩
    have hjl : j < l.length := by omega
    rw [tusklaw20_AccessApart.l1, if_pos (by omega), if_pos (by omega), len_ints, if_pos (by omega), if_pos (by omega), if_pos (by omega), ints_rd, ints_rd, hF i hi, hF j hjl, w64 (by omega)]
    by_cases he : ((F i : Nat) : Int) = ((F j : Nat) : Int)
    · rw [if_pos he]; exact hK k (by omega)
    · rw [if_neg he, if_pos (by omega), tx_get hi, tx_get hjl, own_one _ (hs _ (List.getElem_mem hi)), own_one _ (hs _ (List.getElem_mem hjl))]
      simp only [Option.bind_some]
      rw [if_pos (by omega), clash_p _ _ (hs _ (List.getElem_mem hi)) (hs _ (List.getElem_mem hjl)), Option.bind_some]
      have hno : clashP l[i] l[j] = false := by
        rw [Bool.eq_false_iff]
        intro hc
        refine he (congrArg _ (hT.edge j i (edgesN_mem.2 ⟨by simp only; omega, hi, ?_⟩)).symm)
        have h1 : tx l j = l[j] := tx_get hjl
        have h2 : tx l i = l[i] := tx_get hi
        simp only
        rw [h1, h2, clashP_comm]; exact hc
      rw [hno, if_neg (by decide)]
      exact hK k (by omega)
theorem outer_ev (hs : ∀ x, x ∈ l → Small x) (hl : l.length ≤ 500) (hg : gs.length = l.length) (hF : ∀ i, i < l.length → gs.getD i 0 = F i) (hT : Tells (edgesN l) F) : ∀ (d i : Nat), i + d = l.length → ∃ K, ∀ k, K ≤ k → tusklaw20_AccessApart.l0 k l (ints gs) (i : Int) = some true := by
  intro d
  induction d with
  | zero =>
    intro i hi
    refine ⟨1, fun k hk => ?_⟩
    obtain ⟨k, rfl⟩ : ∃ m, k = m + 1 := ⟨k - 1, by omega⟩
    rw [tusklaw20_AccessApart.l0, if_neg (by omega)]
  | succ d ih =>
    intro i hi
    have hil : i < l.length := by omega
    obtain ⟨K, hK⟩ := inner_ev hs hl hg hF hT i hil (by rw [w64 (by omega)]; exact ih (i + 1) (by omega)) i 0 (by omega)
    refine ⟨K + 2, fun k hk => ?_⟩
    obtain ⟨k, rfl⟩ : ∃ m, k = m + 2 := ⟨k - 2, by omega⟩
    have hle := hT.le i
    have hid := hT.idem i
    rw [tusklaw20_AccessApart.l0, if_pos (by omega), if_pos (by omega), len_ints, if_pos (by omega), ints_rd, hF i hil, if_neg (by omega), if_neg (by omega), if_pos (by omega), if_pos (by omega), ints_rd, hF (F i) (by omega), hid]
    rw [show (((F i : Nat) : Int) != ((F i : Nat) : Int)) = false from by simp, tusklaw20_AccessApart.j1, if_neg (by decide)]
    exact hK k (by omega)
end
theorem pure : tusklaw20_AccessApart.PureU := by
  intro l _ hb
  obtain ⟨hm, hlen⟩ := bulk_mem hb
  have hs : ∀ x, x ∈ l → Small x := fun x hx => small_of_bulk (hm x hx)
  obtain ⟨k1, b, hg1, hg2⟩ := great_f l hs hlen
  cases b with
  | true =>
    refine ⟨k1, ?_⟩
    unfold tusklaw20_AccessApart.f tusklaw20_works.f
    rw [Option.bind_some, if_pos rfl, hg1, Option.bind_some, if_pos rfl]
  | false =>
    have ht := hg2 rfl
    have hl : l.length ≤ 500 := Nat.le_trans (tot_len l) ht
    have hT := groups_tells (n := l.length) (E := edgesN l) (fun e he => by have := edgesN_mem.1 he; omega)
    obtain ⟨K, hK⟩ := outer_ev (gs := groups l.length (edgesN l)) hs hl (groups_len _ _) (fun i hi => groups_get hi) hT l.length 0 (by omega)
    refine ⟨k1 + K + (l.length + 1), ?_⟩
    have e1 := at_rounds (g := fun k => tusklaw20_Great.f k l) (fun k => tusklaw20_Great.mono l k) (show k1 ≤ k1 + K + (l.length + 1) by omega) hg1
    have e2 := at_rounds (g := fun k => tusklaw20_Own.f k l) (fun k => tusklaw20_Own.mono l k) (show l.length + 1 ≤ k1 + K + (l.length + 1) by omega) (own_f l hs hlen)
    have e3 := hK (k1 + K + (l.length + 1)) (by omega)
    unfold tusklaw20_AccessApart.f tusklaw20_works.f
    rw [Option.bind_some, if_pos rfl, e1, Option.bind_some, if_neg (by decide), e2, Option.bind_some]
    unfold access_Groups.f
    rw [if_pos (fits_tot ht), Option.bind_some, if_pos (by rw [List.length_map, groups_len])]
    exact e3
end Go.Proofs.Ytmkgbkocanfckaa.PureAccessApart
namespace Go.Proofs.Ytmkgbkocanfckaa
theorem Pure.AccessApart : QAccessApart.tusklaw20_AccessApart.PureU := PureAccessApart.pure
end Go.Proofs.Ytmkgbkocanfckaa
