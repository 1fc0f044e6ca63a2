/- What the printed functions of layer 21 come to, in plain words. -/
import Derived.Test.YtkfhajdkpbpkdaaPlain21
import Derived.Test.YtkfhajdkpbpkdaaPlan21
namespace Go.Proofs.Ytkfhajdkpbpkdaa.Pure21
open Go.RowKit Go.Proofs.YtkfhajdkpbpkdaaW.PrintWords Go.Proofs.YtkfhajdkpbpkdaaW.PrintMore Go.Proofs.Ytkfhajdkpbpkdaa.QKinds Go.Proofs.Ytkfhajdkpbpkdaa.QBase21 Go.Proofs.Ytkfhajdkpbpkdaa.Meet Go.Proofs.Ytkfhajdkpbpkdaa.Edges21 Go.Proofs.Ytkfhajdkpbpkdaa.Contracts21 Go.Proofs.Ytkfhajdkpbpkdaa.Plain21 Go.Proofs.Ytkfhajdkpbpkdaa.Plan21
set_option linter.unusedVariables false
set_option linter.unusedSimpArgs false
abbrev Tx := S38
/-- A wave's number, of what was looked at so far. -/
def wstep (l : List Tx) (ws : List Nat) (i : Nat) : Nat → Nat
  | 0 => 0
  | k + 1 => if clashP (tx l k) (tx l i) = true then max (wstep l ws i k) (ws.getD k 0 + 1) else wstep l ws i k
def wavesN (l : List Tx) : Nat → List Nat
  | 0 => []
  | i + 1 => wavesN l i ++ [wstep l (wavesN l i) i i]
theorem waves_len (l : List Tx) : ∀ i, (wavesN l i).length = i
  | 0 => rfl
  | i + 1 => by rw [wavesN, List.length_append, waves_len l i]; rfl
theorem waves_get (l : List Tx) (j : Nat) : ∀ i, j < i → (wavesN l i).getD j 0 = wstep l (wavesN l j) j j
  | 0, h => by omega
  | i + 1, h => by
    rw [wavesN, List.getD_eq_getElem?_getD]
    by_cases hj : j < i
    · rw [List.getElem?_append_left (by rw [waves_len]; exact hj), ← List.getD_eq_getElem?_getD, waves_get l j i hj]
    · obtain rfl : j = i := by omega
      rw [List.getElem?_append_right (by rw [waves_len]; omega), waves_len, Nat.sub_self]; rfl
theorem wstep_le (l : List Tx) (ws : List Nat) (i M : Nat) (h : ∀ k, k < i → ws.getD k 0 < M) : ∀ k, k ≤ i → wstep l ws i k ≤ M
  | 0, _ => Nat.zero_le _
  | k + 1, hk => by
    have h1 := wstep_le l ws i M h k (by omega)
    have h2 := h k (by omega)
    rw [wstep]; split <;> omega
theorem waves_le (l : List Tx) : ∀ i j, j < i → (wavesN l i).getD j 0 ≤ j := by
  have key : ∀ j, wstep l (wavesN l j) j j ≤ j := by
    intro j
    induction j using Nat.strongRecOn with
    | ind j ih => exact wstep_le l (wavesN l j) j j (fun k hk => by rw [waves_get l k j hk]; have := ih k hk; omega) j (Nat.le_refl _)
  intro i j h
  rw [waves_get l j i h]
  exact key j
def ints (g : List Nat) : List Int := g.map fun x : Nat => (x : Int)
theorem ints_len (g : List Nat) : (ints g).length = g.length := by simp [ints]
theorem ints_rd (g : List Nat) (i : Nat) : rd (ints g) (i : Int) = ((g.getD i 0 : Nat) : Int) := by
  unfold rd ints
  rw [Int.toNat_natCast, List.getD_eq_getElem?_getD, List.getElem?_map, List.getD_eq_getElem?_getD]
  cases g[i]? <;> rfl
theorem ints_get (g : List Nat) (i : Nat) : (ints g).getD i 0 = ((g.getD i 0 : Nat) : Int) := by
  have := ints_rd g i
  unfold rd at this
  rwa [Int.toNat_natCast] at this
theorem ints_set (g : List Nat) (i v : Nat) : (ints g).set i (v : Int) = ints (g.set i v) := by unfold ints; rw [List.map_set]
theorem mx_ints (a b : Nat) : mx (a : Int) (b : Int) = ((max a b : Nat) : Int) := by unfold mx; split <;> omega
/-- The waves of a list. -/
def waves (l : List Tx) : List Int := ints (wavesN l l.length)
section
variable {l : List Tx}
theorem of_ev (hs : ∀ x, x ∈ l → Small x) (hl : l.length ≤ 500) : ∀ (d i : Nat), i + d = l.length → ∃ K, ∀ k, K ≤ k → tuskref21_Of.l0 k l (ints (wavesN l i)) (i : Int) = some (waves l) := by
  intro d
  induction d with
  | zero =>
    intro i hi
    refine ⟨1, fun k hk => ?_⟩
    obtain ⟨k, rfl⟩ : ∃ m, k = m + 1 := ⟨k - 1, by omega⟩
    rw [tuskref21_Of.l0, if_neg (by omega), show i = l.length by omega]; rfl
  | succ d ih =>
    intro i hi
    obtain ⟨K, hK⟩ := ih (i + 1) (by omega)
    have hil : i < l.length := by omega
    have inner : ∀ (e j : Nat), j + e = i → ∃ K, ∀ k, K ≤ k → tuskref21_Of.l1 k l (ints (wavesN l i)) (i : Int) (wstep l (wavesN l i) i j : Nat) (j : Int) = some (waves l) := by
      intro e
      induction e with
      | zero =>
        intro j hj
        refine ⟨K + 1, fun k hk => ?_⟩
        obtain ⟨k, rfl⟩ : ∃ m, k = m + 1 := ⟨k - 1, by omega⟩
        obtain rfl : j = i := by omega
        rw [tuskref21_Of.l1, if_neg (by omega), if_pos (by rw [ints_len, waves_len]; omega), w64 (by omega)]
        have := hK k (by omega)
        rw [wavesN] at this
        unfold ints at this ⊢
        rw [List.map_append] at this
        exact this
      | succ e ihe =>
        intro j hj
        obtain ⟨K2, hK2⟩ := ihe (j + 1) (by omega)
        refine ⟨K2 + 4000001, fun k hk => ?_⟩
        obtain ⟨k, rfl⟩ : ∃ m, k = m + 1 := ⟨k - 1, by omega⟩
        have hjl : j < l.length := by omega
        have hn := hK2 k (by omega)
        have hti : tx l i = l[i] := tx_get hil
        have htj : tx l j = l[j] := tx_get hjl
        have hwj := waves_le l i j (by omega)
        rw [wstep, hti, htj] at hn
        rw [tuskref21_Of.l1, if_pos (by omega), if_pos (by omega), if_pos (by omega), if_pos (by omega), if_pos (by omega), tx_get hil, tx_get hjl, clash_r _ _ (hs _ (List.getElem_mem hjl)) (hs _ (List.getElem_mem hil)) k (by omega), Option.bind_some, w64 (by omega)]
        by_cases hc : clashP l[j] l[i] = true
        · rw [if_pos hc] at hn
          rw [if_pos hc, ints_len, waves_len, if_pos (by omega), ints_rd, w64 (by omega), mx_ints]
          exact hn
        · rw [if_neg hc] at hn
          rw [if_neg hc]; exact hn
    obtain ⟨K2, hK2⟩ := inner i 0 (by omega)
    refine ⟨K2 + 1, fun k hk => ?_⟩
    obtain ⟨k, rfl⟩ : ∃ m, k = m + 1 := ⟨k - 1, by omega⟩
    rw [tuskref21_Of.l0, if_pos (by omega)]
    exact hK2 k (by omega)
theorem of_r (hs : ∀ x, x ∈ l → Small x) (hl : l.length ≤ 500) : ∃ K, ∀ k, K ≤ k → tuskref21_Of.f k l = some (waves l) := of_ev hs hl l.length 0 (by omega)
/-- The program's list: the waves of the first i, and noughts. -/
def wfill (l : List Tx) (i : Nat) (cur : Nat) : List Nat := if i < l.length then wavesN l i ++ cur :: List.replicate (l.length - i - 1) 0 else wavesN l l.length
theorem wfill_len {i cur : Nat} (h : i ≤ l.length) : (wfill l i cur).length = l.length := by
  unfold wfill; split <;> simp [waves_len]; omega
theorem wfill_next {i : Nat} (h : i < l.length) : wfill l i (wstep l (wavesN l i) i i) = wfill l (i + 1) 0 := by
  unfold wfill
  rw [if_pos h]
  by_cases h2 : i + 1 < l.length
  · rw [if_pos h2, wavesN, List.append_assoc, show l.length - i - 1 = (l.length - (i + 1) - 1) + 1 by omega, List.replicate_succ]; rfl
  · rw [if_neg h2, show l.length - i - 1 = 0 by omega, show l.length = i + 1 by omega, wavesN]; rfl
theorem wfill_set {i cur v : Nat} (h : i < l.length) : (wfill l i cur).set i v = wfill l i v := by
  unfold wfill
  rw [if_pos h, if_pos h, List.set_append_right _ _ (by rw [waves_len]; exact Nat.le_refl _), waves_len, Nat.sub_self, List.set_cons_zero]
theorem wfill_at {i cur : Nat} (h : i < l.length) : (wfill l i cur).getD i 0 = cur := by
  unfold wfill
  rw [if_pos h, List.getD_eq_getElem?_getD, List.getElem?_append_right (by rw [waves_len]; exact Nat.le_refl _), waves_len, Nat.sub_self]; rfl
theorem wfill_old {i cur j : Nat} (h : i < l.length) (hj : j < i) : (wfill l i cur).getD j 0 = (wavesN l i).getD j 0 := by
  unfold wfill
  rw [if_pos h, List.getD_eq_getElem?_getD, List.getElem?_append_left (by rw [waves_len]; exact hj), ← List.getD_eq_getElem?_getD]
theorem pof_ev (hs : ∀ x, x ∈ l → Small x) (hl : l.length ≤ 500) : ∀ (d i : Nat), i + d = l.length → ∃ K, ∀ k, K ≤ k → waves_Of.l0 k l (ints (wfill l i 0)) (l.length : Int) (i : Int) = some (waves l) := by
  intro d
  induction d with
  | zero =>
    intro i hi
    refine ⟨1, fun k hk => ?_⟩
    obtain ⟨k, rfl⟩ : ∃ m, k = m + 1 := ⟨k - 1, by omega⟩
    rw [waves_Of.l0, if_neg (by omega), wfill, if_neg (by omega)]; rfl
  | succ d ih =>
    intro i hi
    obtain ⟨K, hK⟩ := ih (i + 1) (by omega)
    have hil : i < l.length := by omega
    have inner : ∀ (e j : Nat), j + e = i → ∃ K, ∀ k, K ≤ k → waves_Of.l1 k l (ints (wfill l i (wstep l (wavesN l i) i j))) (i : Int) (l.length : Int) (i : Int) (i : Int) (j : Int) = some (waves l) := by
      intro e
      induction e with
      | zero =>
        intro j hj
        refine ⟨K + 1, fun k hk => ?_⟩
        obtain ⟨k, rfl⟩ : ∃ m, k = m + 1 := ⟨k - 1, by omega⟩
        obtain rfl : j = i := by omega
        rw [waves_Of.l1, if_neg (by omega), w64 (by omega), wfill_next hil]
        exact hK k (by omega)
      | succ e ihe =>
        intro j hj
        obtain ⟨K2, hK2⟩ := ihe (j + 1) (by omega)
        refine ⟨K2 + 1, fun k hk => ?_⟩
        obtain ⟨k, rfl⟩ : ∃ m, k = m + 1 := ⟨k - 1, by omega⟩
        have hjl : j < l.length := by omega
        have hn := hK2 k (by omega)
        have hti : tx l i = l[i] := tx_get hil
        have htj : tx l j = l[j] := tx_get hjl
        have hwj := waves_le l i j (by omega)
        have hcur := wstep_le l (wavesN l i) i 501 (fun k hk => by have := waves_le l i k hk; omega) j (by omega)
        rw [wstep, hti, htj] at hn
        have hll : (ints (wfill l i (wstep l (wavesN l i) i j))).length = l.length := by rw [ints_len, wfill_len (by omega)]
        rw [waves_Of.l1, if_pos (by omega), if_pos (by omega), hll, if_pos (by omega), if_pos (by omega), if_pos (by omega), ints_rd, ints_rd, wfill_at hil, wfill_old hil (by omega), w64 (i := j) (by omega)]
        generalize wstep l (wavesN l i) i j = cur at *
        by_cases hge : (((wavesN l i).getD j 0 : Nat) : Int) ≥ (cur : Int)
        · rw [if_pos hge, if_pos (by omega), if_pos (by omega), tx_get hil, tx_get hjl, clash_p _ _ (hs _ (List.getElem_mem hjl)) (hs _ (List.getElem_mem hil)), Option.bind_some]
          by_cases hc : clashP l[j] l[i] = true
          · rw [if_pos hc, show max cur ((wavesN l i).getD j 0 + 1) = (wavesN l i).getD j 0 + 1 by omega] at hn
            rw [if_pos hc, w64 (by omega), Int.toNat_natCast, ints_set, wfill_set hil]
            exact hn
          · rw [if_neg hc] at hn
            rw [if_neg hc]; exact hn
        · have he : (if clashP l[j] l[i] = true then max cur ((wavesN l i).getD j 0 + 1) else cur) = cur := by split <;> omega
          rw [he] at hn
          rw [if_neg hge]; exact hn
    obtain ⟨K2, hK2⟩ := inner i 0 (by omega)
    refine ⟨K2 + 1, fun k hk => ?_⟩
    obtain ⟨k, rfl⟩ : ∃ m, k = m + 1 := ⟨k - 1, by omega⟩
    rw [waves_Of.l0, if_pos (by omega)]
    exact hK2 k (by omega)
theorem of_p (hs : ∀ x, x ∈ l → Small x) (hl : l.length ≤ 500) : ∃ K, ∀ k, K ≤ k → waves_Of.f k l = some (waves l) := by
  obtain ⟨K, hK⟩ := pof_ev hs hl l.length 0 (by omega)
  refine ⟨K, fun k hk => ?_⟩
  unfold waves_Of.f
  rw [if_pos (by omega), Int.toNat_natCast, if_pos (by omega)]
  have := hK k hk
  have e : ints (wfill l 0 0) = List.replicate l.length 0 := by
    unfold wfill ints
    split
    · rw [wavesN, List.nil_append]
      obtain ⟨m, hm⟩ : ∃ m, l.length = m + 1 := ⟨l.length - 1, by omega⟩
      rw [hm, show m + 1 - 0 - 1 = m by omega, List.replicate_succ]; simp
    · rw [show l.length = 0 by omega]; rfl
  rw [e] at this
  exact this
end
theorem waves_length (l : List Tx) : (waves l).length = l.length := by rw [waves, ints_len, waves_len]
theorem waves_fit {l : List Tx} (hl : l.length ≤ 500) : FitW (waves l) := by
  refine ⟨by rw [waves_length]; omega, fun i hi => ?_⟩
  rw [waves_length] at hi
  have := waves_le l l.length i hi
  rw [waves, ints_get]; omega
theorem plan_r {l : List Tx} (hs : ∀ x, x ∈ l → Small x) (hl : l.length ≤ 500) : ∃ K, ∀ k, K ≤ k → tuskref21_Plan.f k l = some (planN (waves l) l.length) := by
  obtain ⟨K, hK⟩ := of_r hs hl
  refine ⟨K, fun k hk => ?_⟩
  unfold tuskref21_Plan.f
  rw [hK k hk, Option.bind_some, if_pos (waves_fit hl), waves_length]
/-! #### the program's plan -/
theorem rd_row (P : List (List Int)) (x : Nat) : rd_L6 P (x : Int) = P.getD x [] := by simp [rd_L6]
theorem pplan_ev (ws : List Int) (hf : FitW ws) (hn : ws.length ≤ 500) : ∀ (d i : Nat), i + d = ws.length → ∃ K, ∀ k, K ≤ k → waves_Plan.l0 k (planN ws i) ws (ws.length : Int) (i : Int) = some (planN ws ws.length) := by
  have hM := plan_len ws 65537 (fun i hi => by have := hf.2 i hi; omega)
  intro d
  induction d with
  | zero =>
    intro i hi
    refine ⟨1, fun k hk => ?_⟩
    obtain ⟨k, rfl⟩ : ∃ m, k = m + 1 := ⟨k - 1, by omega⟩
    rw [waves_Plan.l0, if_neg (by omega), show i = ws.length by omega]
  | succ d ih =>
    intro i hi
    obtain ⟨K, hK⟩ := ih (i + 1) (by omega)
    obtain ⟨hx0, hx1⟩ := hf.2 i (by omega)
    obtain ⟨x, hx⟩ : ∃ x : Nat, ws.getD i 0 = (x : Int) := ⟨(ws.getD i 0).toNat, by omega⟩
    have hrd : rd ws (i : Int) = (x : Int) := by rw [← hx]; simp [rd]
    have hpl := hM i (by omega)
    rw [hx] at hx0 hx1
    rw [plan_succ hx] at hK
    have hpad : ∀ (e j : Nat), (j = 0 ∨ (planN ws i).length + j ≤ x + 1) → x + 1 - ((planN ws i).length + j) = e → ∃ K, ∀ k, K ≤ k → waves_Plan.l1 k (planN ws i ++ List.replicate j []) (i : Int) (x : Int) ws (ws.length : Int) (i : Int) = some (planN ws ws.length) := by
      intro e
      induction e with
      | zero =>
        intro j hj he
        refine ⟨K + 1, fun k hk => ?_⟩
        obtain ⟨k, rfl⟩ : ∃ m, k = m + 1 := ⟨k - 1, by omega⟩
        have hll : (planN ws i ++ List.replicate j ([] : List Int)).length = (planN ws i).length + j := by rw [List.length_append, List.length_replicate]
        have hp : planN ws i ++ List.replicate j [] = padP (planN ws i) (x + 1) := by
          unfold padP
          rcases hj with rfl | hj
          · rw [show x + 1 - (planN ws i).length = 0 by omega]
          · rw [show x + 1 - (planN ws i).length = j by omega]
        have hr : (rd_L6 (planN ws i ++ List.replicate j []) (x : Int)).length ≤ 500 := by
          rw [rd_row]
          have h1 := plan_rows ws i x
          rw [List.getD_eq_getElem?_getD] at h1 ⊢
          rcases Nat.lt_or_ge x (planN ws i).length with h | h
          · rw [List.getElem?_append_left h]; omega
          · rw [List.getElem?_append_right h]
            cases hh : (List.replicate j ([] : List Int))[x - (planN ws i).length]? with
            | none => simp
            | some r =>
              have := List.mem_of_getElem? hh
              rw [List.eq_of_mem_replicate this]; simp
        rw [waves_Plan.l1, hll, if_neg (by omega), if_pos (by omega), if_pos (by omega), if_pos (by omega), w64 (by omega), rd_row, Int.toNat_natCast, hp]
        exact hK k (by omega)
      | succ e ihe =>
        intro j hj he
        obtain ⟨K2, hK2⟩ := ihe (j + 1) (.inr (by omega)) (by omega)
        refine ⟨K2 + 1, fun k hk => ?_⟩
        obtain ⟨k, rfl⟩ : ∃ m, k = m + 1 := ⟨k - 1, by omega⟩
        have hll : (planN ws i ++ List.replicate j ([] : List Int)).length = (planN ws i).length + j := by rw [List.length_append, List.length_replicate]
        rw [waves_Plan.l1, hll, if_pos (by omega), if_pos (by omega), List.append_assoc, show List.replicate j ([] : List Int) ++ [[]] = List.replicate (j + 1) [] from (List.replicate_succ').symm]
        exact hK2 k (by omega)
    obtain ⟨K2, hK2⟩ := hpad _ 0 (.inl rfl) rfl
    rw [List.replicate_zero, List.append_nil] at hK2
    refine ⟨K2 + 1, fun k hk => ?_⟩
    obtain ⟨k, rfl⟩ : ∃ m, k = m + 1 := ⟨k - 1, by omega⟩
    rw [waves_Plan.l0, if_pos (by omega), if_pos (by omega), if_pos (by omega), hrd]
    exact hK2 k (by omega)
theorem plan_p {l : List Tx} (hs : ∀ x, x ∈ l → Small x) (hl : l.length ≤ 500) : ∃ K, ∀ k, K ≤ k → waves_Plan.f k l = some (planN (waves l) l.length) := by
  obtain ⟨K, hK⟩ := of_p hs hl
  obtain ⟨K2, hK2⟩ := pplan_ev (waves l) (waves_fit hl) (by rw [waves_length]; exact hl) (waves l).length 0 (by omega)
  refine ⟨K + K2, fun k hk => ?_⟩
  unfold waves_Plan.f
  rw [hK k (by omega), Option.bind_some]
  have := hK2 k (by omega)
  rw [waves_length] at this ⊢
  exact this
/-! #### a plan is the same as itself -/
theorem same_ev (P : List (List Int)) (hP : P.length ≤ 1048576) (hr : ∀ r, r ∈ P → r.length ≤ 1048576) : ∀ (d i : Nat), i + d = P.length → ∃ K, ∀ k, K ≤ k → tuskref21_Same.l0 k P P (i : Int) = some true := by
  intro d
  induction d with
  | zero =>
    intro i hi
    refine ⟨1, fun k hk => ?_⟩
    obtain ⟨k, rfl⟩ : ∃ m, k = m + 1 := ⟨k - 1, by omega⟩
    rw [tuskref21_Same.l0, if_neg (by omega)]
  | succ d ih =>
    intro i hi
    obtain ⟨K, hK⟩ := ih (i + 1) (by omega)
    have hil : i < P.length := by omega
    have hrow : rd_L6 P (i : Int) = P[i] := by rw [rd_row, List.getD_eq_getElem?_getD, List.getElem?_eq_getElem hil]; rfl
    have hle := hr P[i] (List.getElem_mem hil)
    have inner : ∀ (e j : Nat), j + e = P[i].length → ∃ K, ∀ k, K ≤ k → tuskref21_Same.l1 k P P (i : Int) (j : Int) = some true := by
      intro e
      induction e with
      | zero =>
        intro j hj
        refine ⟨K + 1, fun k hk => ?_⟩
        obtain ⟨k, rfl⟩ : ∃ m, k = m + 1 := ⟨k - 1, by omega⟩
        rw [tuskref21_Same.l1, if_pos (by omega), if_pos (by omega), hrow, if_neg (by omega), w64 (by omega)]
        exact hK k (by omega)
      | succ e ihe =>
        intro j hj
        obtain ⟨K2, hK2⟩ := ihe (j + 1) (by omega)
        refine ⟨K2 + 1, fun k hk => ?_⟩
        obtain ⟨k, rfl⟩ : ∃ m, k = m + 1 := ⟨k - 1, by omega⟩
        rw [tuskref21_Same.l1, if_pos (by omega), if_pos (by omega), hrow, if_pos (by omega), if_pos (by omega), if_pos (by omega), if_pos (by omega), if_pos rfl, w64 (by omega)]
        exact hK2 k (by omega)
    obtain ⟨K2, hK2⟩ := inner _ 0 (Nat.zero_add _)
    refine ⟨K2 + 1, fun k hk => ?_⟩
    obtain ⟨k, rfl⟩ : ∃ m, k = m + 1 := ⟨k - 1, by omega⟩
    rw [tuskref21_Same.l0, if_pos (by omega), if_pos (by omega), if_pos (by omega), hrow, if_pos rfl]
    exact hK2 k (by omega)
theorem same_f (P : List (List Int)) (hP : P.length ≤ 1048576) (hr : ∀ r, r ∈ P → r.length ≤ 1048576) : ∃ K, ∀ k, K ≤ k → tuskref21_Same.f k P P = some true := by
  obtain ⟨K, hK⟩ := same_ev P hP hr P.length 0 (by omega)
  refine ⟨K, fun k hk => ?_⟩
  unfold tuskref21_Same.f
  rw [if_pos rfl]
  exact hK k hk
theorem plan_small {l : List Tx} (hl : l.length ≤ 500) : (planN (waves l) l.length).length ≤ 1048576 ∧ ∀ r, r ∈ planN (waves l) l.length → r.length ≤ 1048576 := by
  have hf := waves_fit hl
  have h1 := plan_len (waves l) 65537 (fun i hi => by have := hf.2 i hi; omega) l.length (by rw [waves_length]; exact Nat.le_refl _)
  refine ⟨by omega, fun r hr => ?_⟩
  obtain ⟨j, hj, rfl⟩ := List.getElem_of_mem hr
  have := plan_rows (waves l) l.length j
  rw [List.getD_eq_getElem?_getD, List.getElem?_eq_getElem hj] at this
  simp only [Option.getD_some] at this
  omega
end Go.Proofs.Ytkfhajdkpbpkdaa.Pure21
