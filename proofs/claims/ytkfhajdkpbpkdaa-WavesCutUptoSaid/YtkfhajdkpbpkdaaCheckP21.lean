/- The placed numbers of a plan as a map: what waves.Check keeps in its map. -/
import Derived.Maps.OwnSet
namespace Go.Proofs.Ytkfhajdkpbpkdaa.CheckP
set_option linter.unusedVariables false
open Go.Maps
def put1 (D : DataW Unit) (p : Int × Int) : DataW Unit := D.put (.int .i64 p.1) (.lit (.int .i64 p.2))
def Dof (ps : List (Int × Int)) : DataW Unit := ps.foldl put1 (.map [])
def va (ps : List (Int × Int)) (x : Int) : Int := ps.foldl (fun a p => if p.1 = x then p.2 + 1 else a) 0
def vl (ps : List (Int × Int)) (x : Int) : Int := ps.foldl (fun a p => if p.1 = x then p.2 else a) 0
theorem Dof_snoc (ps : List (Int × Int)) (p : Int × Int) : Dof (ps ++ [p]) = put1 (Dof ps) p := by simp [Dof]
theorem va_snoc (ps : List (Int × Int)) (p : Int × Int) (x : Int) : va (ps ++ [p]) x = if p.1 = x then p.2 + 1 else va ps x := by simp [va]
theorem vl_snoc (ps : List (Int × Int)) (p : Int × Int) (x : Int) : vl (ps ++ [p]) x = if p.1 = x then p.2 else vl ps x := by simp [vl]
theorem snoc_rec {P : List (Int × Int) → Prop} (h0 : P []) (h1 : ∀ ps p, P ps → P (ps ++ [p])) (ps : List (Int × Int)) : P ps := by
  have : ∀ qs : List (Int × Int), P qs.reverse := fun qs => by
    induction qs with
    | nil => exact h0
    | cons p qs ih => rw [List.reverse_cons]; exact h1 _ _ ih
  simpa using this ps.reverse
theorem tidy_D (ps : List (Int × Int)) : Tidy (Dof ps) :=
  snoc_rec (P := fun ps => Tidy (Dof ps)) tidy_empty (fun ps p h => by rw [Dof_snoc]; exact h.put (by trivial) _) ps
theorem key_ne {a b : Int} (h : a ≠ b) : (Lit.int .i64 a) ≠ (Lit.int .i64 b) := fun e => h (by injection e)
theorem has_D (x : Int) (ps : List (Int × Int)) : Maps.has (Dof ps) (.int .i64 x) = ps.any fun p => decide (p.1 = x) :=
  snoc_rec (P := fun ps => Maps.has (Dof ps) (.int .i64 x) = ps.any fun p => decide (p.1 = x)) rfl (fun ps p h => by
    rw [Dof_snoc, List.any_append, ← h]
    by_cases e : p.1 = x
    · subst e
      rw [put1, has_put_same (tidy_D ps).isMap (by trivial)]; simp
    · rw [put1, has_put_other (key_ne (Ne.symm e))]; simp [e]) ps
theorem at_D (x : Int) (ps : List (Int × Int)) : (Dof ps).atKey (.int .i64 x) (.lit (.int .i64 0)) = .lit (.int .i64 (vl ps x)) :=
  snoc_rec (P := fun ps => (Dof ps).atKey (.int .i64 x) (.lit (.int .i64 0)) = .lit (.int .i64 (vl ps x))) rfl (fun ps p h => by
    rw [Dof_snoc, vl_snoc]
    by_cases e : p.1 = x
    · subst e
      rw [put1, atKey_put_same (tidy_D ps).isMap (by trivial)]; simp
    · rw [put1, atKey_put_other (key_ne (Ne.symm e)), h]; simp [e]) ps
theorem size_D (ps : List (Int × Int)) : (ps.map Prod.fst).Nodup → Maps.size (Dof ps) = ps.length :=
  snoc_rec (P := fun ps => (ps.map Prod.fst).Nodup → Maps.size (Dof ps) = ps.length) (fun _ => rfl) (fun ps p h hn => by
    rw [List.map_append, List.nodup_append] at hn
    obtain ⟨n1, _, n3⟩ := hn
    rw [Dof_snoc, put1, size_put (tidy_D ps), has_D, if_neg, h n1]
    · simp
    · intro hc
      obtain ⟨q, hq, hqe⟩ := List.any_eq_true.1 hc
      exact n3 _ (List.mem_map_of_mem hq) p.1 (by simp) (of_decide_eq_true hqe)) ps
theorem va_pos (x : Int) (ps : List (Int × Int)) : (∀ p, p ∈ ps → 0 ≤ p.2) → 0 ≤ va ps x ∧ (0 < va ps x ↔ ps.any (fun p => decide (p.1 = x)) = true) ∧ (0 < va ps x → vl ps x = va ps x - 1) :=
  snoc_rec (P := fun ps => (∀ p, p ∈ ps → 0 ≤ p.2) → 0 ≤ va ps x ∧ (0 < va ps x ↔ ps.any (fun p => decide (p.1 = x)) = true) ∧ (0 < va ps x → vl ps x = va ps x - 1)) (fun _ => ⟨Int.le_refl _, by simp [va], by simp [va]⟩) (fun ps p h hp => by
    have hh := h (fun q hq => hp q (by simp [hq]))
    have h0 := hp p (by simp)
    rw [va_snoc, vl_snoc, List.any_append]
    by_cases e : p.1 = x
    · simp [e]; omega
    · simp [e]
      refine ⟨hh.1, ?_, hh.2.2⟩
      have := hh.2.1
      simpa using this) ps
/-- The numbers of the first w waves, with their wave. -/
def pl (plan : List (List Int)) : Nat → List (Int × Int)
  | 0 => []
  | w + 1 => pl plan w ++ (plan.getD w []).map fun n => (n, (w : Int))
def pairs (plan : List (List Int)) (w i : Nat) : List (Int × Int) := pl plan w ++ ((plan.getD w []).take i).map fun n => (n, (w : Int))
theorem pairs_zero (plan : List (List Int)) (w : Nat) : pairs plan w 0 = pl plan w := by simp [pairs]
theorem pairs_full (plan : List (List Int)) (w : Nat) {i : Nat} (h : (plan.getD w []).length ≤ i) : pairs plan w i = pl plan (w + 1) := by
  simp only [pairs, pl]; rw [List.take_of_length_le h]
theorem pairs_succ (plan : List (List Int)) (w i : Nat) (h : i < (plan.getD w []).length) : pairs plan w (i + 1) = pairs plan w i ++ [((plan.getD w []).getD i 0, (w : Int))] := by
  simp only [pairs]
  rw [List.take_add_one, List.map_append, List.append_assoc]
  congr 2
  rw [List.getD_eq_getElem?_getD (l := plan.getD w []), List.getElem?_eq_getElem h]; rfl
def bad (n : Nat) (ps : List (Int × Int)) (x : Int) : Int := if x < 0 ∨ (n : Int) ≤ x then 2 else if ps.any (fun p => decide (p.1 = x)) then 13 else 0
/-- All that stands before place (w, i) is in order. -/
structure Ok (n : Nat) (plan : List (List Int)) (w i : Nat) : Prop where
  range : ∀ p, p ∈ pairs plan w i → 0 ≤ p.1 ∧ p.1 < n
  nodup : ((pairs plan w i).map Prod.fst).Nodup
  wave : ∀ p, p ∈ pairs plan w i → 0 ≤ p.2
  earlier : ∀ w' i', (w' < w ∧ i' < (plan.getD w' []).length ∨ w' = w ∧ i' < i) → bad n (pairs plan w' i') ((plan.getD w' []).getD i' 0) = 0
theorem Ok.zero (n : Nat) (plan : List (List Int)) : Ok n plan 0 0 :=
  ⟨by simp [pairs, pl], by simp [pairs, pl], by simp [pairs, pl], by intro w' i' h; omega⟩
theorem Ok.row {n : Nat} {plan : List (List Int)} {w i : Nat} (h : Ok n plan w i) (hi : i = (plan.getD w []).length) : Ok n plan (w + 1) 0 := by
  have e : pairs plan (w + 1) 0 = pairs plan w i := by rw [pairs_zero, pairs_full _ _ (by omega)]
  refine ⟨by rw [e]; exact h.range, by rw [e]; exact h.nodup, by rw [e]; exact h.wave, ?_⟩
  intro w' i' hh
  refine h.earlier w' i' ?_
  rcases hh with ⟨h1, h2⟩ | ⟨h1, h2⟩
  · by_cases e2 : w' = w
    · subst e2; exact .inr ⟨rfl, by omega⟩
    · exact .inl ⟨by omega, h2⟩
  · omega
theorem Ok.step {n : Nat} {plan : List (List Int)} {w i : Nat} (h : Ok n plan w i) (hi : i < (plan.getD w []).length) {x : Int} (hx : x = (plan.getD w []).getD i 0) (h1 : 0 ≤ x) (h2 : x < n)
    (h3 : Maps.has (Dof (pairs plan w i)) (.int .i64 x) = false) : Ok n plan w (i + 1) := by
  rw [has_D] at h3
  have e := pairs_succ plan w i hi
  rw [← hx] at e
  refine ⟨?_, ?_, ?_, ?_⟩
  · rw [e]; intro p hp
    rcases List.mem_append.1 hp with hp | hp
    · exact h.range p hp
    · simp at hp; subst hp; exact ⟨h1, h2⟩
  · rw [e, List.map_append, List.nodup_append]
    refine ⟨h.nodup, by simp, ?_⟩
    intro a ha b hb
    simp at hb
    subst hb
    rintro rfl
    obtain ⟨p, hp, rfl⟩ := List.mem_map.1 ha
    have := List.any_eq_false.1 h3 p hp
    simp at this
  · rw [e]; intro p hp
    rcases List.mem_append.1 hp with hp | hp
    · exact h.wave p hp
    · simp at hp; subst hp; exact Int.natCast_nonneg _
  · intro w' i' hh
    by_cases e2 : w' = w ∧ i' = i
    · obtain ⟨rfl, rfl⟩ := e2
      rw [← hx, bad, if_neg (by omega), h3]; rfl
    · refine h.earlier w' i' ?_
      rcases hh with ⟨a, b⟩ | ⟨a, b⟩
      · exact .inl ⟨a, b⟩
      · exact .inr ⟨a, by omega⟩
theorem Ok.put {n : Nat} {plan : List (List Int)} {w i : Nat} (hi : i < (plan.getD w []).length) {x : Int} (hx : x = (plan.getD w []).getD i 0) : (Dof (pairs plan w i)).put (.int .i64 x) (.lit (.int .i64 (w : Int))) = Dof (pairs plan w (i + 1)) := by
  rw [pairs_succ plan w i hi, Dof_snoc, put1, hx]
/-- What the look at the plan ends with: 0, or what is wrong at the first place that is not in order. -/
def Look (n : Nat) (plan : List (List Int)) (e : Int) : Prop :=
  (e = 0 ∧ Ok n plan plan.length 0) ∨ (∃ w i, e ≠ 0 ∧ w < plan.length ∧ i < (plan.getD w []).length ∧ Ok n plan w i ∧ bad n (pairs plan w i) ((plan.getD w []).getD i 0) = e)
theorem look_range {n : Nat} {plan : List (List Int)} {w i : Nat} (h : Ok n plan w i) (hw : w < plan.length) (hi : i < (plan.getD w []).length) {x : Int} (hx : x = (plan.getD w []).getD i 0) (hc : x < 0 ∨ (n : Int) ≤ x) : Look n plan 2 :=
  .inr ⟨w, i, by decide, hw, hi, h, by rw [← hx, bad, if_pos hc]⟩
theorem look_twice {n : Nat} {plan : List (List Int)} {w i : Nat} (h : Ok n plan w i) (hw : w < plan.length) (hi : i < (plan.getD w []).length) {x : Int} (hx : x = (plan.getD w []).getD i 0) (h1 : 0 ≤ x) (h2 : x < n)
    (h3 : Maps.has (Dof (pairs plan w i)) (.int .i64 x) = true) : Look n plan 13 :=
  .inr ⟨w, i, by decide, hw, hi, h, by rw [has_D] at h3; rw [← hx, bad, if_neg (by omega), h3]; rfl⟩
end Go.Proofs.Ytkfhajdkpbpkdaa.CheckP
