/- The law WavesCut in plain words: a plan with a number less is not whole, with one twice it is refused, turned it is out of order. -/
import Derived.Test.YtkfhajdkpbpkdaaQWavesCutU
import Derived.Test.YtkfhajdkpbpkdaaLaw21
import Derived.Test.YtkfhajdkpbpkdaaPlanCut21
namespace Go.Proofs.Ytkfhajdkpbpkdaa.PureWavesCut
open Go.RowKit Go.Proofs.YtkfhajdkpbpkdaaW.PrintWords Go.Proofs.YtkfhajdkpbpkdaaW.PrintMore Go.Proofs.Ytkfhajdkpbpkdaa.QKinds Go.Proofs.Ytkfhajdkpbpkdaa.QBase21 Go.Proofs.Ytkfhajdkpbpkdaa.Meet Go.Proofs.Ytkfhajdkpbpkdaa.Edges21 Go.Proofs.Ytkfhajdkpbpkdaa.Contracts21 Go.Proofs.Ytkfhajdkpbpkdaa.Contracts21b Go.Proofs.Ytkfhajdkpbpkdaa.Plain21 Go.Proofs.Ytkfhajdkpbpkdaa.Plan21 Go.Proofs.Ytkfhajdkpbpkdaa.Pure21 Go.Proofs.Ytkfhajdkpbpkdaa.Check21 Go.Proofs.Ytkfhajdkpbpkdaa.PlanRight21 Go.Proofs.Ytkfhajdkpbpkdaa.PlanCut21 Go.Proofs.Ytkfhajdkpbpkdaa.Law21 Go.Proofs.Ytkfhajdkpbpkdaa.Open Go.Proofs.Ytkfhajdkpbpkdaa.QOpen Go.Proofs.Ytkfhajdkpbpkdaa.QWavesCut
set_option linter.unusedVariables false
set_option linter.unusedSimpArgs false
theorem take_set {P : List (List Int)} {i k : Nat} {r : List Int} (hk : k < P.length) : (P.set i r).take (k + 1) = (P.set i r).take k ++ [if i = k then r else P[k]] := by
  rw [List.take_succ_eq_append_getElem (by rw [List.length_set]; exact hk), List.getElem_set]
theorem take_rev {P : List (List Int)} {k : Nat} (hk : k < P.length) : (P.take (k + 1)).reverse = [P[k]] ++ (P.take k).reverse := by
  rw [List.take_succ_eq_append_getElem hk, List.reverse_append]; rfl
theorem cut_at (a n : Int) (h0 : 1 ≤ n) (h1 : n ≤ 100000) : ∃ k : Nat, wrap64 (Int.tmod (IntKind.u64.wrap a) (IntKind.u64.wrap n)) = (k : Int) ∧ (k : Int) < n ∧ ¬ IntKind.u64.wrap n = 0 := by
  have e : IntKind.u64.wrap n = n := by rw [IntKind.wrap_u64]; omega
  have hu : 0 ≤ IntKind.u64.wrap a := by rw [IntKind.wrap_u64]; omega
  rw [e, Int.tmod_eq_emod_of_nonneg hu]
  have h2 := Int.emod_nonneg (IntKind.u64.wrap a) (show n ≠ 0 by omega)
  have h3 := Int.emod_lt_of_pos (IntKind.u64.wrap a) (show 0 < n by omega)
  refine ⟨(IntKind.u64.wrap a % n).toNat, ?_, by omega, by omega⟩
  unfold wrap64; omega
section
variable {l : List Tx}
theorem row_le (hl : l.length ≤ 500) {r : List Int} (h : r ∈ PL l) : r.length ≤ 1048576 := (plan_small hl).2 r h
theorem mem_in {r : List Int} (h : r ∈ PL l) (x : Int) (hx : x ∈ r) : 0 ≤ x ∧ x < (l.length : Int) := (fine_plan l).1 x (List.mem_flatten.2 ⟨r, h, hx⟩)
theorem plan_le (hl : l.length ≤ 500) : (PL l).length ≤ 65537 := plan_len_le hl
variable (hs : ∀ x, x ∈ l → Small x) (hl : l.length ≤ 500)
include hs hl
theorem few_ev {i : Nat} (hi : i < (PL l).length) (hp : 0 < (PL l)[i].length) : Ev (fun k => waves_Check.f k l ((PL l).set i ((PL l)[i].drop 1))) 12 := by
  have hrow : ∀ q, q ∈ (PL l).set i ((PL l)[i].drop 1) → (∃ r, r ∈ PL l ∧ q.Sublist r) := fun q hq => by
    rcases List.mem_or_eq_of_mem_set hq with h | rfl
    · exact ⟨q, h, List.Sublist.refl _⟩
    · exact ⟨_, List.getElem_mem hi, List.drop_sublist 1 _⟩
  refine check_ev hs hl (res_few (fine_plan l) _ (full_plan l) i hi hp) (fun q hq => ?_) (fun q hq x hx => ?_) ?_ ?_
  · obtain ⟨r, h1, h2⟩ := hrow q hq
    exact Nat.le_trans h2.length_le (row_le hl h1)
  · obtain ⟨r, h1, h2⟩ := hrow q hq
    exact mem_in h1 x (h2.subset hx)
  · have h1 := congrArg List.length (flat_set (PL l) i hi ((PL l)[i].drop 1))
    have h2 := congrArg List.length (flat_at (PL l) i hi)
    have h3 := full_plan l
    simp only [List.length_append, List.length_drop] at h1 h2
    omega
  · have := plan_le hl; rw [List.length_set]; omega
theorem twice_ev {i : Nat} (hi : i < (PL l).length) (hp : 0 < (PL l)[i].length) : Ev (fun k => waves_Check.f k l ((PL l).set i ((PL l)[i] ++ [(PL l)[i][0]]))) 13 := by
  refine check_ev hs hl (res_twice (fine_plan l) _ i hi hp) (fun q hq => ?_) (fun q hq x hx => ?_) ?_ ?_
  · rcases List.mem_or_eq_of_mem_set hq with h | rfl
    · exact row_le hl h
    · have h1 := congrArg List.length (flat_at (PL l) i hi)
      have h3 := full_plan l
      simp only [List.length_append, List.length_singleton] at h1 ⊢
      omega
  · rcases List.mem_or_eq_of_mem_set hq with h | rfl
    · exact mem_in h x hx
    · rcases List.mem_append.1 hx with h | h
      · exact mem_in (List.getElem_mem hi) x h
      · obtain rfl : x = (PL l)[i][0] := by simpa using h
        exact mem_in (List.getElem_mem hi) _ (List.getElem_mem hp)
  · have h1 := congrArg List.length (flat_set (PL l) i hi ((PL l)[i] ++ [(PL l)[i][0]]))
    have h2 := congrArg List.length (flat_at (PL l) i hi)
    have h3 := full_plan l
    simp only [List.length_append, List.length_singleton] at h1 h2
    omega
  · have := plan_le hl; rw [List.length_set]; omega
theorem turned_ev : Ev (fun k => waves_Check.f k l (PL l).reverse) (if 1 < (PL l).length then 9 else 0) := by
  have hr : Res l.length (rows l l.length) (PL l).reverse (if 1 < (PL l).length then 9 else 0) := by
    split
    · rename_i h; exact res_turned l h
    · rename_i h
      have e : (PL l).reverse = PL l := by
        match hP : PL l with
        | [] => rfl
        | [_] => rfl
        | _ :: _ :: _ => rw [hP] at h; simp at h
      rw [e]; exact res_plan l
  refine check_ev hs hl hr (fun q hq => row_le hl (List.mem_reverse.1 hq)) (fun q hq x hx => mem_in (List.mem_reverse.1 hq) x hx) ?_ ?_
  · rw [(perm_rev (PL l)).length_eq, full_plan]; omega
  · have := plan_le hl; rw [List.length_reverse]; omega
theorem own_l : Ev (fun k => tusklaw20_Own.f k l) l := Ev.of (tusklaw20_Own.mono l) (own_f l hs (by omega))
theorem j2_ev (h1 : 1 ≤ (PL l).length) : Ev (fun k => tusklaw21_WavesCut.j2 k l (PL l) (PL l).reverse false) true := by
  refine Ev.step (f := fun k => (tusklaw20_Own.f k l).bind fun t161 => (waves_Check.f k t161 (PL l).reverse).bind fun t164 => if ((PL l).length : Int) = 1 then (if t164 = 0 then some true else if ((PL l).length : Int) > 1 then some (t164 == 9) else some false) else (if ((PL l).length : Int) > 1 then some (t164 == 9) else some false)) (fun k => ?_) ?_
  · rw [tusklaw21_WavesCut.j2, if_neg (by decide)]
  · refine Ev.bind (own_l hs hl) (Ev.bind (turned_ev hs hl) ?_)
    by_cases h : 1 < (PL l).length
    · simp only [if_pos h, if_neg (show ¬ ((PL l).length : Int) = 1 by omega), if_pos (show ((PL l).length : Int) > 1 by omega)]
      exact Ev.now true
    · simp only [if_neg h, if_pos (show ((PL l).length : Int) = 1 by omega), if_true]
      exact Ev.now true
theorem l0_ev {i : Nat} (hi : i < (PL l).length) (hp : 0 < (PL l)[i].length) : ∀ (d k : Nat), k + d = (PL l).length →
    Ev (fun n => tusklaw21_WavesCut.l0 n l (PL l) (i : Int) (((PL l).set i ((PL l)[i].drop 1)).take k) (((PL l).set i ((PL l)[i] ++ [(PL l)[i][0]])).take k) ((PL l).take k).reverse (k : Int)) true := by
  have hP := plan_le hl
  intro d
  induction d with
  | zero =>
    intro k hk
    rw [List.take_of_length_le (by rw [List.length_set]; omega), List.take_of_length_le (by rw [List.length_set]; omega), List.take_of_length_le (by omega)]
    refine Ev.step (f := fun n => (tusklaw20_Own.f n l).bind fun t153 => (waves_Check.f n t153 ((PL l).set i ((PL l)[i].drop 1))).bind fun t156 => if t156 = 12 then (tusklaw20_Own.f n l).bind fun t157 => (waves_Check.f n t157 ((PL l).set i ((PL l)[i] ++ [(PL l)[i][0]]))).bind fun t160 => tusklaw21_WavesCut.j2 n l (PL l) (PL l).reverse (t160 != 13) else tusklaw21_WavesCut.j2 n l (PL l) (PL l).reverse true) (fun n => ?_) ?_
    · rw [tusklaw21_WavesCut.l0, if_neg (by omega)]
    · refine Ev.bind (own_l hs hl) (Ev.bind (few_ev hs hl hi hp) ?_)
      simp only [if_true]
      refine Ev.bind (own_l hs hl) (Ev.bind (twice_ev hs hl hi hp) ?_)
      exact j2_ev hs hl (by omega)
  | succ d ih =>
    intro k hk
    have hkl : k < (PL l).length := by omega
    have hrd : rd_L6 (PL l) (k : Int) = (PL l)[k] := by rw [rd_row, List.getD_eq_getElem?_getD, List.getElem?_eq_getElem hkl]; rfl
    have hle := row_le hl (List.getElem_mem hkl)
    have l1 : (((PL l).set i ((PL l)[i].drop 1)).take k).length ≤ 65537 := by rw [List.length_take, List.length_set]; omega
    have l2 : (((PL l).set i ((PL l)[i] ++ [(PL l)[i][0]])).take k).length ≤ 65537 := by rw [List.length_take, List.length_set]; omega
    have l3 : ((PL l).take k).reverse.length ≤ 65537 := by rw [List.length_reverse, List.length_take]; omega
    refine Ev.step (fun n => ?_) (ih (k + 1) (by omega))
    rw [take_set hkl, take_set hkl, take_rev hkl]
    generalize ((PL l).set i ((PL l)[i].drop 1)).take k = A at *
    generalize ((PL l).set i ((PL l)[i] ++ [(PL l)[i][0]])).take k = B at *
    generalize ((PL l).take k).reverse = C at *
    rw [tusklaw21_WavesCut.l0, if_pos (by omega), hrd]
    simp only [Option.bind_some, List.nil_append, List.length_nil, if_pos (show (0 : Int) ≤ (k : Int) by omega)]
    rw [if_pos (by omega), if_pos (by omega)]
    by_cases e : i = k
    · subst e
      rw [if_pos rfl, if_pos (by omega), if_pos (by omega), if_pos (by omega), if_pos (by omega), if_pos (by omega), if_pos (by simp only [List.length_singleton]; omega), w64 (by omega), if_pos rfl, if_pos rfl]
      have h0 : rd (PL l)[i] 0 = (PL l)[i][0] := by
        show (PL l)[i].getD 0 0 = _
        rw [List.getD_eq_getElem?_getD, List.getElem?_eq_getElem hp]; rfl
      rw [h0]; rfl
    · rw [if_neg (by omega), if_pos (by omega), if_pos (by omega), if_pos (by simp only [List.length_singleton]; omega), w64 (by omega), if_neg e, if_neg e]
end
theorem pure : tusklaw21_WavesCut.PureU := by
  intro l a1 _ _ hb
  obtain ⟨hs, hlen, k1, b, hg1, hg2⟩ := start21 (l := l) (by omega)
  have hj : Ev (fun k => tusklaw21_WavesCut.j0 k l a1 true) true := Ev.step (f := fun _ => some true) (fun k => by rw [tusklaw21_WavesCut.j0, if_pos rfl]) (Ev.now true)
  refine Ev.rounds ?_
  refine Ev.congr (f := fun k => (tusklaw20_Great.f k l).bind fun t102 => if t102 = true then tusklaw21_WavesCut.j0 k l a1 true else tusklaw21_WavesCut.j0 k l a1 ((l.length : Int) == 0)) (fun k => ?_) ?_
  · unfold tusklaw21_WavesCut.f tusklaw21_works.f
    rw [Option.bind_some, if_pos rfl]
  · refine Ev.bind (Ev.of (tusklaw20_Great.mono l) hg1) ?_
    cases b with
    | true => simp only [if_true]; exact hj
    | false =>
      simp only [Bool.false_eq_true, if_false]
      have hl := hg2 rfl
      by_cases h0 : l.length = 0
      · rw [show ((l.length : Int) == 0) = true from by rw [h0]; rfl]; exact hj
      · rw [show ((l.length : Int) == 0) = false from beq_eq_false_iff_ne.2 (by omega)]
        have hP1 : 1 ≤ (PL l).length := by
          have := wave_lt l 0 (by omega); omega
        have hP := plan_le hl
        obtain ⟨i, he, hlt, hz⟩ := cut_at a1 ((PL l).length : Int) (by omega) (by omega)
        have hi : i < (PL l).length := by omega
        have hp : 0 < (PL l)[i].length := by
          have := plan_nonempty l i hi
          rwa [List.getD_eq_getElem?_getD, List.getElem?_eq_getElem hi] at this
        refine Ev.step (f := fun k => (tuskref21_Plan.f k l).bind fun t103 => if IntKind.u64.wrap (t103.length : Int) = 0 then none else tusklaw21_WavesCut.l0 k l t103 (wrap64 (Int.tmod (IntKind.u64.wrap a1) (IntKind.u64.wrap (t103.length : Int)))) [] [] [] 0) (fun k => ?_) ?_
        · rw [tusklaw21_WavesCut.j0, if_neg (by decide)]
        · refine Ev.bind (plan_r hs hl) ?_
          simp only [if_neg hz, he]
          exact l0_ev hs hl hi hp _ 0 (Nat.zero_add _)
end Go.Proofs.Ytkfhajdkpbpkdaa.PureWavesCut
namespace Go.Proofs.Ytkfhajdkpbpkdaa
theorem Pure.WavesCut : QWavesCut.tusklaw21_WavesCut.PureU := PureWavesCut.pure
end Go.Proofs.Ytkfhajdkpbpkdaa
