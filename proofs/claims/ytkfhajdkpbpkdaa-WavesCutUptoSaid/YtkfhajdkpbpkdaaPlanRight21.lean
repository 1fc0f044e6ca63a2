/- The plan of layer 21 has each number once, in its wave. -/
import Derived.Test.YtkfhajdkpbpkdaaWorks21
namespace Go.Proofs.Ytkfhajdkpbpkdaa.PlanRight21
open Go.RowKit Go.Proofs.YtkfhajdkpbpkdaaW.PrintWords Go.Proofs.YtkfhajdkpbpkdaaW.PrintMore Go.Proofs.Ytkfhajdkpbpkdaa.QKinds Go.Proofs.Ytkfhajdkpbpkdaa.QBase21 Go.Proofs.Ytkfhajdkpbpkdaa.Edges21 Go.Proofs.Ytkfhajdkpbpkdaa.Contracts21 Go.Proofs.Ytkfhajdkpbpkdaa.Plain21 Go.Proofs.Ytkfhajdkpbpkdaa.Plan21 Go.Proofs.Ytkfhajdkpbpkdaa.Pure21 Go.Proofs.Ytkfhajdkpbpkdaa.CheckP Go.Proofs.Ytkfhajdkpbpkdaa.Check21 Go.Proofs.Ytkfhajdkpbpkdaa.CheckR21
set_option linter.unusedVariables false
set_option linter.unusedSimpArgs false
theorem pad_at (p : List (List Int)) (n w : Nat) : (padP p n).getD w [] = p.getD w [] := by
  unfold padP
  rw [List.getD_eq_getElem?_getD, List.getD_eq_getElem?_getD]
  rcases Nat.lt_or_ge w p.length with h | h
  · rw [List.getElem?_append_left h]
  · rw [List.getElem?_append_right h, List.getElem?_eq_none h]
    cases he : (List.replicate (n - p.length) ([] : List Int))[w - p.length]? with
    | none => rfl
    | some r => rw [List.eq_of_mem_replicate (List.mem_of_getElem? he)]; rfl
/-- A wave's members are those whose wave it is, in order. -/
theorem plan_at (ws : List Int) : ∀ (i w : Nat), (planN ws i).getD w [] = ((List.range i).filter fun j => decide ((ws.getD j 0).toNat = w)).map fun (j : Nat) => (j : Int)
  | 0, w => by simp [planN]
  | i + 1, w => by
    have ih := plan_at ws i
    rw [planN, List.range_succ, List.filter_append, List.map_append, ← ih w]
    generalize hx : (ws.getD i 0).toNat = x
    rw [pad_at, List.getD_eq_getElem?_getD, List.getElem?_set]
    by_cases e : x = w
    · subst e
      rw [if_pos rfl, if_pos (by rw [pad_len]; omega)]
      rw [show [i].filter (fun j => decide ((ws.getD j 0).toNat = x)) = [i] from by rw [List.filter_cons, if_pos (by rw [hx]; simp)]; rfl]
      rfl
    · rw [if_neg e, ← List.getD_eq_getElem?_getD, pad_at]
      rw [show [i].filter (fun j => decide ((ws.getD j 0).toNat = w)) = [] from by rw [List.filter_cons, if_neg (by rw [hx]; simp [e])]; rfl]
      simp
theorem mem_plan {ws : List Int} {n w : Nat} {x : Int} (h : x ∈ (planN ws n).getD w []) : ∃ j : Nat, x = (j : Int) ∧ j < n ∧ (ws.getD j 0).toNat = w := by
  rw [plan_at] at h
  obtain ⟨j, hj, rfl⟩ := List.mem_map.1 h
  obtain ⟨h1, h2⟩ := List.mem_filter.1 hj
  exact ⟨j, rfl, List.mem_range.1 h1, of_decide_eq_true h2⟩
theorem plan_mem {ws : List Int} {n : Nat} (j : Nat) (h : j < n) : (j : Int) ∈ (planN ws n).getD (ws.getD j 0).toNat [] := by
  rw [plan_at]
  exact List.mem_map.2 ⟨j, List.mem_filter.2 ⟨List.mem_range.2 h, decide_eq_true rfl⟩, rfl⟩
theorem plan_sorted (ws : List Int) (n w : Nat) : ((planN ws n).getD w []).Pairwise (· < ·) := by
  rw [plan_at]
  exact List.pairwise_map.2 ((List.pairwise_lt_range.filter _).imp (fun h => by omega))
theorem mem_pl (P : List (List Int)) : ∀ (w : Nat) (p : Int × Int), p ∈ pl P w ↔ ∃ w' : Nat, w' < w ∧ p.2 = (w' : Int) ∧ p.1 ∈ P.getD w' []
  | 0, p => by simp [pl]
  | w + 1, p => by
    rw [pl, List.mem_append, mem_pl P w p]
    constructor
    · rintro (⟨w', a, b, c⟩ | h)
      · exact ⟨w', by omega, b, c⟩
      · obtain ⟨x, hx, rfl⟩ := List.mem_map.1 h
        exact ⟨w, by omega, rfl, hx⟩
    · rintro ⟨w', a, b, c⟩
      by_cases e : w' = w
      · subst e
        refine .inr (List.mem_map.2 ⟨p.1, c, ?_⟩)
        rw [← b]
      · exact .inl ⟨w', by omega, b, c⟩
theorem plan_good (ws : List Int) (n : Nat) : ∀ w, w < (planN ws n).length → ∀ i, i < ((planN ws n).getD w []).length → bad n (pairs (planN ws n) w i) (((planN ws n).getD w []).getD i 0) = 0 := by
  intro w _ i hi
  have hx : ((planN ws n).getD w []).getD i 0 = ((planN ws n).getD w [])[i] := by
    rw [List.getD_eq_getElem?_getD, List.getElem?_eq_getElem hi]; rfl
  have hm : ((planN ws n).getD w []).getD i 0 ∈ (planN ws n).getD w [] := by rw [hx]; exact List.getElem_mem hi
  obtain ⟨j, e, hj, hw⟩ := mem_plan hm
  have hnot : ¬ (pairs (planN ws n) w i).any (fun p => decide (p.1 = ((planN ws n).getD w []).getD i 0)) = true := by
    intro hc
    obtain ⟨p, hp, hpe⟩ := List.any_eq_true.1 hc
    have hpe := of_decide_eq_true hpe
    rcases List.mem_append.1 hp with hp | hp
    · obtain ⟨w', a, _, c⟩ := (mem_pl _ _ _).1 hp
      rw [hpe] at c
      obtain ⟨j', e', _, hw'⟩ := mem_plan c
      have : j = j' := by omega
      subst this
      omega
    · obtain ⟨y, hy, rfl⟩ := List.mem_map.1 hp
      obtain ⟨m, hm1, hm2⟩ := List.getElem_of_mem hy
      rw [List.getElem_take] at hm2
      have hm3 : m < i := by rw [List.length_take] at hm1; omega
      have hs := List.pairwise_iff_getElem.1 (plan_sorted ws n w) m i (by omega) hi hm3
      have he : ((planN ws n).getD w [])[m] = ((planN ws n).getD w [])[i] := hm2.trans (hpe.trans hx)
      omega
  rw [bad, if_neg (by omega), if_neg hnot]
theorem plan_full (ws : List Int) (n : Nat) : n ≤ (pl (planN ws n) (planN ws n).length).length := by
  have h := few_of n ((pl (planN ws n) (planN ws n).length).map Prod.fst) (fun x a b => by
    obtain ⟨j, rfl⟩ := Int.eq_ofNat_of_zero_le a
    have hm := plan_mem (ws := ws) (n := n) j (by omega)
    refine List.mem_map.2 ⟨((j : Int), (((ws.getD j 0).toNat : Nat) : Int)), (mem_pl _ _ _).2 ⟨(ws.getD j 0).toNat, ?_, rfl, hm⟩, rfl⟩
    rcases Nat.lt_or_ge (ws.getD j 0).toNat (planN ws n).length with h | h
    · exact h
    · rw [List.getD_eq_getElem?_getD, List.getElem?_eq_none h] at hm
      simp at hm)
  rw [List.length_map] at h
  exact h
theorem wstep_ge (l : List Tx) (ws : List Nat) (i j : Nat) (hc : clashP (tx l j) (tx l i) = true) : ∀ m, j < m → ws.getD j 0 + 1 ≤ wstep l ws i m
  | 0, h => by omega
  | m + 1, h => by
    by_cases e : j = m
    · subst e; rw [wstep, if_pos hc]; omega
    · have := wstep_ge l ws i j hc m (by omega)
      rw [wstep]; split <;> omega
/-- Of two in each other's way the later has the later wave. -/
theorem waves_lt (l : List Tx) {n i k : Nat} (h1 : i < k) (h2 : k < n) (hc : clashP (tx l i) (tx l k) = true) : (wavesN l n).getD i 0 < (wavesN l n).getD k 0 := by
  have a := wstep_ge l (wavesN l k) k i hc k h1
  rw [waves_get l i k h1] at a
  rw [waves_get l k n h2, waves_get l i n (by omega)]
  omega
theorem vl_mem {x w : Int} (ps : List (Int × Int)) : (ps.map Prod.fst).Nodup → (x, w) ∈ ps → vl ps x = w :=
  snoc_rec (P := fun ps => (ps.map Prod.fst).Nodup → (x, w) ∈ ps → vl ps x = w) (fun _ h => by simp at h) (fun ps p ih hn hm => by
    rw [List.map_append, List.nodup_append] at hn
    obtain ⟨n1, _, n3⟩ := hn
    rw [vl_snoc]
    rcases List.mem_append.1 hm with h | h
    · have : x ≠ p.1 := n3 x (List.mem_map.2 ⟨(x, w), h, rfl⟩) p.1 (by simp)
      rw [if_neg (fun e => this e.symm)]
      exact ih n1 h
    · obtain rfl : (x, w) = p := by simpa using h
      rw [if_pos rfl]) ps
theorem res_ok {n : Nat} {R : List (Int × Int)} {P : List (List Int)} {r : Int} (hg : ∀ w, w < P.length → ∀ i, i < (P.getD w []).length → bad n (pairs P w i) ((P.getD w []).getD i 0) = 0) (hf : n ≤ (pl P P.length).length) (h : Res n R P r) : Ok n P P.length 0 := by
  rcases h with ⟨h0, hl⟩ | ⟨_, hfew, _⟩ | ⟨h, _, _⟩
  · rcases hl with ⟨e, _⟩ | ⟨w, i, hne, hw, hi, _, hb⟩
    · exact absurd e h0
    · exact absurd ((hg w hw i hi).symm.trans hb).symm hne
  · omega
  · exact h
/-- What is told of the plan: nothing is wrong with it. -/
theorem plan_right (l : List Tx) {r : Int} (h : Res l.length (rows l l.length) (planN (waves l) l.length) r) : r = 0 := by
  have hg := plan_good (waves l) l.length
  have hf := plan_full (waves l) l.length
  have ho := res_ok hg hf h
  rw [Works21.res_of hg hf h]
  have hn := ho.nodup
  rw [pairs_zero] at hn
  have hv : ∀ j : Nat, j < l.length → vl (pl (planN (waves l) l.length) (planN (waves l) l.length).length) (j : Int) = (((wavesN l l.length).getD j 0 : Nat) : Int) := fun j hj => by
    have hm := plan_mem (ws := waves l) (n := l.length) j hj
    have e : ((waves l).getD j 0).toNat = (wavesN l l.length).getD j 0 := by unfold waves; rw [ints_get, Int.toNat_natCast]
    rw [e] at hm
    refine vl_mem _ hn ((mem_pl _ _ _).2 ⟨(wavesN l l.length).getD j 0, ?_, rfl, hm⟩)
    rcases Nat.lt_or_ge ((wavesN l l.length).getD j 0) (planN (waves l) l.length).length with h | h
    · exact h
    · rw [List.getD_eq_getElem?_getD, List.getElem?_eq_none h] at hm
      simp at hm
  have hlt : ∀ p, p ∈ rows l l.length → vl (pl (planN (waves l) l.length) (planN (waves l) l.length).length) p.1 < vl (pl (planN (waves l) l.length) (planN (waves l) l.length).length) p.2 := fun p hp => by
    obtain ⟨i, k, rfl, h1, h2, h3, h4⟩ := rows_mem hp
    rw [hv i h1, hv k h3]
    have := waves_lt l h2 h3 h4
    omega
  unfold ed
  rw [if_neg, if_neg]
  · intro hc
    obtain ⟨p, hp, e⟩ := List.any_eq_true.1 hc
    have e := of_decide_eq_true e
    have := hlt p hp
    omega
  · intro hc
    obtain ⟨p, hp, e⟩ := List.any_eq_true.1 hc
    have e := of_decide_eq_true e
    have := hlt p hp
    omega
theorem wstep_is (l : List Tx) (ws : List Nat) (i : Nat) : ∀ m, wstep l ws i m = 0 ∨ ∃ k, k < m ∧ wstep l ws i m = ws.getD k 0 + 1
  | 0 => .inl rfl
  | m + 1 => by
    have ih := wstep_is l ws i m
    rw [wstep]
    split
    · rcases Nat.le_total (wstep l ws i m) (ws.getD m 0 + 1) with h | h
      · exact .inr ⟨m, by omega, by omega⟩
      · rcases ih with h0 | ⟨k, h1, h2⟩
        · omega
        · exact .inr ⟨k, by omega, by omega⟩
    · rcases ih with h0 | ⟨k, h1, h2⟩
      · exact .inl h0
      · exact .inr ⟨k, by omega, h2⟩
/-- Below a wave that somebody has each wave has somebody. -/
theorem waves_down (l : List Tx) (n : Nat) : ∀ (j : Nat), j < n → ∀ w, w ≤ (wavesN l n).getD j 0 → ∃ j', j' < n ∧ (wavesN l n).getD j' 0 = w := by
  intro j
  induction j using Nat.strongRecOn with
  | ind j ih =>
    intro hj w hw
    by_cases e : (wavesN l n).getD j 0 = w
    · exact ⟨j, hj, e⟩
    · rw [waves_get l j n hj] at hw e
      rcases wstep_is l (wavesN l j) j j with h0 | ⟨k, h1, h2⟩
      · omega
      · rw [waves_get l k j h1] at h2
        exact ih k h1 (by omega) w (by rw [waves_get l k n (by omega)]; omega)
theorem plan_reach (ws : List Int) : ∀ (i w : Nat), w < (planN ws i).length → ∃ j, j < i ∧ w ≤ (ws.getD j 0).toNat
  | 0, w, h => by simp [planN] at h
  | i + 1, w, h => by
    rw [planN, List.length_set, pad_len] at h
    rcases Nat.lt_or_ge w (planN ws i).length with h1 | h1
    · obtain ⟨j, a, b⟩ := plan_reach ws i w h1; exact ⟨j, by omega, b⟩
    · exact ⟨i, by omega, by omega⟩
theorem plan_nonempty (l : List Tx) (w : Nat) (h : w < (planN (waves l) l.length).length) : 0 < ((planN (waves l) l.length).getD w []).length := by
  obtain ⟨j, hj, hw⟩ := plan_reach _ _ _ h
  have e : ∀ m, ((waves l).getD m 0).toNat = (wavesN l l.length).getD m 0 := fun m => by unfold waves; rw [ints_get, Int.toNat_natCast]
  rw [e] at hw
  obtain ⟨j', hj', hw'⟩ := waves_down l l.length j hj w hw
  have hm := plan_mem (ws := waves l) (n := l.length) j' hj'
  rw [e, hw'] at hm
  exact List.length_pos_of_mem hm
theorem good_row {n : Nat} {P : List (List Int)} (hg : ∀ w, w < P.length → ∀ i, i < (P.getD w []).length → bad n (pairs P w i) ((P.getD w []).getD i 0) = 0) {w : Nat} (hw : w < P.length) (h0 : Ok n P w 0) : ∀ i, i ≤ (P.getD w []).length → Ok n P w i
  | 0, _ => h0
  | i + 1, hi => by
    have ih := good_row hg hw h0 i (by omega)
    have hb := hg w hw i (by omega)
    unfold bad at hb
    split at hb
    · omega
    · split at hb
      · omega
      · rename_i h1 h2
        exact ih.step (by omega) rfl (by omega) (by omega) (by rw [has_D]; exact Bool.eq_false_iff.2 h2)
theorem good_ok {n : Nat} {P : List (List Int)} (hg : ∀ w, w < P.length → ∀ i, i < (P.getD w []).length → bad n (pairs P w i) ((P.getD w []).getD i 0) = 0) : ∀ w, w ≤ P.length → Ok n P w 0
  | 0, _ => Ok.zero n P
  | w + 1, h => (good_row hg (by omega) (good_ok hg w (by omega)) _ (Nat.le_refl _)).row rfl
/-- The plan has at most as many numbers as there are transactions. -/
theorem plan_pl (ws : List Int) (n : Nat) : (pl (planN ws n) (planN ws n).length).length ≤ n := by
  have ho := good_ok (plan_good ws n) _ (Nat.le_refl _)
  have hn := ho.nodup
  rw [pairs_zero] at hn
  have h := (full_of n _ hn (fun x hx => by
    obtain ⟨p, hp, rfl⟩ := List.mem_map.1 hx
    exact ho.range p (by rw [pairs_zero]; exact hp))).1
  rwa [List.length_map] at h
theorem plan_len_le {l : List Tx} (hl : l.length ≤ 500) : (planN (waves l) l.length).length ≤ 65537 := by
  have hf := waves_fit hl
  exact plan_len (waves l) 65537 (fun i hi => by have := hf.2 i hi; omega) l.length (by rw [waves_length]; exact Nat.le_refl _)
end Go.Proofs.Ytkfhajdkpbpkdaa.PlanRight21
