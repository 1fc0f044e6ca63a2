/- A plan with a number less, or twice, or turned: what is told of it. -/
import Derived.Test.YtkfhajdkpbpkdaaPlanRight21
import Derived.Test.YtkfhajdkpbpkdaaContracts21b
namespace Go.Proofs.Ytkfhajdkpbpkdaa.PlanCut21
open Go.RowKit Go.Proofs.YtkfhajdkpbpkdaaW.PrintWords Go.Proofs.YtkfhajdkpbpkdaaW.PrintMore Go.Proofs.Ytkfhajdkpbpkdaa.QKinds Go.Proofs.Ytkfhajdkpbpkdaa.QBase21 Go.Proofs.Ytkfhajdkpbpkdaa.Edges21 Go.Proofs.Ytkfhajdkpbpkdaa.Contracts21 Go.Proofs.Ytkfhajdkpbpkdaa.Contracts21b Go.Proofs.Ytkfhajdkpbpkdaa.Plain21 Go.Proofs.Ytkfhajdkpbpkdaa.Plan21 Go.Proofs.Ytkfhajdkpbpkdaa.Pure21 Go.Proofs.Ytkfhajdkpbpkdaa.CheckP Go.Proofs.Ytkfhajdkpbpkdaa.Check21 Go.Proofs.Ytkfhajdkpbpkdaa.CheckR21 Go.Proofs.Ytkfhajdkpbpkdaa.PlanRight21
set_option linter.unusedVariables false
set_option linter.unusedSimpArgs false
def Fine (n : Nat) (L : List Int) : Prop := (∀ x, x ∈ L → 0 ≤ x ∧ x < (n : Int)) ∧ L.Nodup
theorem Fine.sub {n : Nat} {L M : List Int} (h : Fine n M) (hs : L.Sublist M) : Fine n L := ⟨fun x hx => h.1 x (hs.subset hx), h.2.sublist hs⟩
theorem pl_fst (P : List (List Int)) : ∀ w, (pl P w).map Prod.fst = (P.take w).flatten
  | 0 => rfl
  | w + 1 => by
    rw [pl, List.map_append, pl_fst P w, List.map_map]
    rw [show (Prod.fst ∘ fun n : Int => (n, (w : Int))) = id from rfl, List.map_id]
    rcases Nat.lt_or_ge w P.length with h | h
    · rw [List.take_succ_eq_append_getElem h, List.flatten_append, List.getD_eq_getElem?_getD, List.getElem?_eq_getElem h]
      simp
    · rw [List.take_of_length_le h, List.take_of_length_le (by omega), List.getD_eq_getElem?_getD, List.getElem?_eq_none h]
      simp
theorem pairs_fst (P : List (List Int)) (w i : Nat) : (pairs P w i).map Prod.fst = (P.take w).flatten ++ (P.getD w []).take i := by
  rw [pairs, List.map_append, pl_fst, List.map_map, show (Prod.fst ∘ fun n : Int => (n, (w : Int))) = id from rfl, List.map_id]
theorem ok_row {n : Nat} {P : List (List Int)} {w : Nat} (h0 : Ok n P w 0) : ∀ i, i ≤ (P.getD w []).length → Fine n ((pairs P w i).map Prod.fst) → Ok n P w i
  | 0, _, _ => h0
  | i + 1, hi, hf => by
    have e := pairs_succ P w i (by omega)
    rw [e, List.map_append] at hf
    have ih := ok_row h0 i (by omega) (hf.sub (List.sublist_append_left _ _))
    have hx := hf.1 ((P.getD w []).getD i 0) (by simp)
    refine ih.step (by omega) rfl hx.1 hx.2 ?_
    rw [has_D]
    refine List.any_eq_false.2 fun p hp hc => ?_
    have hc := of_decide_eq_true hc
    have hn := (List.nodup_append.1 hf.2).2.2 p.1 (List.mem_map.2 ⟨p, hp, rfl⟩) ((P.getD w []).getD i 0) (by simp)
    exact hn hc
theorem ok_col {n : Nat} {P : List (List Int)} : ∀ w, Fine n ((pl P w).map Prod.fst) → Ok n P w 0
  | 0, _ => Ok.zero n P
  | w + 1, hf => by
    have e := pairs_full P w (Nat.le_refl _)
    refine (ok_row (ok_col w (hf.sub ?_)) _ (Nat.le_refl _) (by rw [e]; exact hf)).row rfl
    rw [pl, List.map_append]
    exact List.sublist_append_left _ _
theorem ok_all {n : Nat} {P : List (List Int)} (hf : Fine n P.flatten) : Ok n P P.length 0 := ok_col _ (by rw [pl_fst, List.take_length]; exact hf)
theorem pl_len (P : List (List Int)) : (pl P P.length).length = P.flatten.length := by
  have := congrArg List.length (pl_fst P P.length)
  rw [List.length_map, List.take_length] at this
  exact this
section
variable (l : List Tx)
abbrev PL : List (List Int) := planN (waves l) l.length
theorem fine_plan : Fine l.length (PL l).flatten := by
  have ho := good_ok (plan_good (waves l) l.length) _ (Nat.le_refl _)
  have hn := ho.nodup
  rw [pairs_zero, pl_fst, List.take_length] at hn
  refine ⟨fun x hx => ?_, hn⟩
  rw [← List.take_length (l := PL l), ← pl_fst] at hx
  obtain ⟨p, hp, rfl⟩ := List.mem_map.1 hx
  exact ho.range p (by rw [pairs_zero]; exact hp)
theorem full_plan : (PL l).flatten.length = l.length := by
  have h1 := plan_pl (waves l) l.length
  have h2 := plan_full (waves l) l.length
  rw [pl_len] at h1 h2
  exact Nat.le_antisymm h1 h2
end
theorem flat_set (P : List (List Int)) (i : Nat) (h : i < P.length) (r : List Int) : (P.set i r).flatten = (P.take i).flatten ++ r ++ (P.drop (i + 1)).flatten := by
  rw [List.set_eq_take_append_cons_drop, if_pos h, List.flatten_append, List.flatten_cons, List.append_assoc]
theorem flat_at (P : List (List Int)) (i : Nat) (h : i < P.length) : P.flatten = (P.take i).flatten ++ P[i] ++ (P.drop (i + 1)).flatten := by
  have := flat_set P i h P[i]
  rwa [List.set_getElem_self] at this
section
variable {n : Nat} {P : List (List Int)} (hf : Fine n P.flatten) (R : List (Int × Int))
include hf
theorem res_few (hn : P.flatten.length = n) (i : Nat) (h : i < P.length) (hp : 0 < P[i].length) : Res n R (P.set i (P[i].drop 1)) 12 := by
  have hs : (P.set i (P[i].drop 1)).flatten.Sublist P.flatten := by
    rw [flat_set P i h, flat_at P i h]
    exact ((List.Sublist.refl _).append (List.drop_sublist 1 _)).append (List.Sublist.refl _)
  refine .inr (.inl ⟨ok_all (hf.sub hs), ?_, rfl⟩)
  rw [pl_len, flat_set P i h]
  have := congrArg List.length (flat_at P i h)
  simp only [List.length_append, List.length_drop] at this ⊢
  omega
theorem res_twice (i : Nat) (h : i < P.length) (hp : 0 < P[i].length) : Res n R (P.set i (P[i] ++ [P[i][0]])) 13 := by
  refine .inl ⟨by decide, .inr ⟨i, P[i].length, by decide, ?_⟩⟩
  have e : (P.set i (P[i] ++ [P[i][0]])).getD i [] = P[i] ++ [P[i][0]] := by
    rw [List.getD_eq_getElem?_getD, List.getElem?_set_self h]; rfl
  have hpre : (pairs (P.set i (P[i] ++ [P[i][0]])) i P[i].length).map Prod.fst = (P.take i).flatten ++ P[i] := by
    rw [pairs_fst, e, List.take_left, List.take_set_of_le (Nat.le_refl i)]
  have hsub : ((P.take i).flatten ++ P[i]).Sublist P.flatten := by
    rw [flat_at P i h]; exact List.sublist_append_left _ _
  have hfine := hf.sub hsub
  rw [List.length_set, e]
  refine ⟨h, by simp, ?_, ?_⟩
  · refine ok_row (ok_col i ?_) _ (by rw [e]; simp) (by rw [hpre]; exact hfine)
    rw [pl_fst, List.take_set_of_le (Nat.le_refl i)]
    exact hfine.sub (List.sublist_append_left _ _)
  · have hx : (P[i] ++ [P[i][0]]).getD P[i].length 0 = P[i][0] := by
      rw [List.getD_eq_getElem?_getD, List.getElem?_append_right (Nat.le_refl _), Nat.sub_self]; rfl
    have hm : P[i][0] ∈ (pairs (P.set i (P[i] ++ [P[i][0]])) i P[i].length).map Prod.fst := by
      rw [hpre]; exact List.mem_append_right _ (List.getElem_mem hp)
    have hr := hfine.1 P[i][0] (by rw [← hpre]; exact hm)
    rw [hx, bad, if_neg (by omega), if_pos]
    obtain ⟨p, hp1, hp2⟩ := List.mem_map.1 hm
    exact List.any_eq_true.2 ⟨p, hp1, decide_eq_true hp2⟩
end
section
variable (l : List Tx)
theorem perm_rev (P : List (List Int)) : P.reverse.flatten.Perm P.flatten := (List.reverse_perm P).flatten
theorem fine_turned : Fine l.length (PL l).reverse.flatten := by
  have h := fine_plan l
  have hp := perm_rev (PL l)
  exact ⟨fun x hx => h.1 x (hp.mem_iff.1 hx), hp.nodup_iff.2 h.2⟩
theorem wave_lt (j : Nat) (hj : j < l.length) : (wavesN l l.length).getD j 0 < (PL l).length := by
  have hm := plan_mem (ws := waves l) (n := l.length) j hj
  have e : ((waves l).getD j 0).toNat = (wavesN l l.length).getD j 0 := by unfold waves; rw [ints_get, Int.toNat_natCast]
  rw [e] at hm
  rcases Nat.lt_or_ge ((wavesN l l.length).getD j 0) (PL l).length with h | h
  · exact h
  · rw [List.getD_eq_getElem?_getD, List.getElem?_eq_none h] at hm
    simp at hm
theorem vl_turned (j : Nat) (hj : j < l.length) : vl (pl (PL l).reverse (PL l).reverse.length) (j : Int) = (((PL l).length - 1 - (wavesN l l.length).getD j 0 : Nat) : Int) := by
  have hw := wave_lt l j hj
  have hm := plan_mem (ws := waves l) (n := l.length) j hj
  have e : ((waves l).getD j 0).toNat = (wavesN l l.length).getD j 0 := by unfold waves; rw [ints_get, Int.toNat_natCast]
  rw [e] at hm
  refine vl_mem _ ?_ ((mem_pl _ _ _).2 ⟨(PL l).length - 1 - (wavesN l l.length).getD j 0, by rw [List.length_reverse]; omega, rfl, ?_⟩)
  · rw [pl_fst, List.take_length]; exact (fine_turned l).2
  · show (j : Int) ∈ (PL l).reverse.getD _ []
    rw [List.getD_eq_getElem?_getD, List.getElem?_reverse (by omega), show (PL l).length - 1 - ((PL l).length - 1 - (wavesN l l.length).getD j 0) = (wavesN l l.length).getD j 0 by omega, ← List.getD_eq_getElem?_getD]
    exact hm
theorem wstep_edge (ws : List Nat) (i : Nat) : ∀ m, wstep l ws i m = 0 ∨ ∃ k, k < m ∧ clashP (tx l k) (tx l i) = true
  | 0 => .inl rfl
  | m + 1 => by
    rw [wstep]
    split
    · rename_i hc; exact .inr ⟨m, by omega, hc⟩
    · rcases wstep_edge ws i m with h | ⟨k, h1, h2⟩
      · exact .inl h
      · exact .inr ⟨k, by omega, h2⟩
theorem some_edge (h : 1 < (PL l).length) : ∃ k j, k < j ∧ j < l.length ∧ clashP (tx l k) (tx l j) = true := by
  obtain ⟨j, hj, hw⟩ := plan_reach (waves l) l.length 1 h
  have e : ((waves l).getD j 0).toNat = (wavesN l l.length).getD j 0 := by unfold waves; rw [ints_get, Int.toNat_natCast]
  rw [e, waves_get l j l.length hj] at hw
  rcases wstep_edge l (wavesN l j) j j with h0 | ⟨k, h1, h2⟩
  · omega
  · exact ⟨k, j, h1, hj, h2⟩
theorem res_turned (h : 1 < (PL l).length) : Res l.length (rows l l.length) (PL l).reverse 9 := by
  have hlen : (pl (PL l).reverse (PL l).reverse.length).length = l.length := by rw [pl_len, (perm_rev (PL l)).length_eq, full_plan]
  refine .inr (.inr ⟨ok_all (fine_turned l), by omega, ?_⟩)
  have hgt : ∀ p, p ∈ rows l l.length → vl (pl (PL l).reverse (PL l).reverse.length) p.2 < vl (pl (PL l).reverse (PL l).reverse.length) p.1 := fun p hp => by
    obtain ⟨i, k, rfl, h1, h2, h3, h4⟩ := rows_mem hp
    rw [vl_turned l i h1, vl_turned l k h3]
    have a := waves_lt l h2 h3 h4
    have b := wave_lt l k h3
    omega
  unfold ed
  rw [if_neg, if_pos]
  · obtain ⟨k, j, h1, h2, h3⟩ := some_edge l h
    have hm := rows_has h1 h2 h3 (n := l.length) (by omega)
    exact List.any_eq_true.2 ⟨_, hm, decide_eq_true (hgt _ hm)⟩
  · intro hc
    obtain ⟨p, hp, e⟩ := List.any_eq_true.1 hc
    have e := of_decide_eq_true e
    have := hgt p hp
    omega
/-- The plan itself: nothing is wrong with it. -/
theorem res_plan : Res l.length (rows l l.length) (PL l) 0 := by
  have h : Res l.length (rows l l.length) (PL l) (ed (pl (PL l) (PL l).length) (rows l l.length)) := .inr (.inr ⟨ok_all (fine_plan l), by rw [pl_len, full_plan]; exact Nat.le_refl _, rfl⟩)
  have := plan_right l h
  rwa [this] at h
end
theorem check_ev {l : List Tx} (hs : ∀ x, x ∈ l → Small x) (hl : l.length ≤ 500) {P : List (List Int)} {r : Int} (h : Res l.length (rows l l.length) P r) (hrow : ∀ q, q ∈ P → q.length ≤ 1048576) (hx : ∀ q, q ∈ P → ∀ x, x ∈ q → 0 ≤ x ∧ x < (l.length : Int)) (hpl : P.flatten.length ≤ 1048576) (hP : P.length ≤ 1048576) :
    Go.Proofs.YtkfhajdkpbpkdaaW.PrintWords.Ev (fun k => waves_Check.f k l P) r := by
  obtain ⟨K, hK⟩ := check_r hs hl P hP (rows_all hrow) r h
  refine ⟨K, fun k hk => ?_⟩
  show waves_Check.f k l P = some r
  rw [waves_Check.f, if_pos (fitC_iff.2 ⟨hs, hl, hrow, fun q hq x hxq => WalkArith.wf_i64 (by have := hx q hq x hxq; omega), by rw [pl_len]; exact hpl, hP⟩)]
  exact hK k hk
end Go.Proofs.Ytkfhajdkpbpkdaa.PlanCut21
