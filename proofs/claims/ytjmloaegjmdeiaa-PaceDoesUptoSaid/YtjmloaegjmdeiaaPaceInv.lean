/- What every state of pace holds, whatever comes. -/
import Derived.Test.YtjmloaegjmdeiaaPaceBounds
import Derived.Test.YtjmloaegjmdeiaaOpen
namespace Go.Proofs.Ytjmloaegjmdeiaa.PaceInv
open Go.RowKit Go.Proofs.YtjmloaegjmdeiaaW.PrintWords Go.Proofs.YtjmloaegjmdeiaaW.PrintMore Go.Proofs.Ytjmloaegjmdeiaa.State Go.Proofs.Ytjmloaegjmdeiaa.Pace Go.Proofs.Ytjmloaegjmdeiaa.PaceBounds
set_option linter.unusedVariables false
theorem len_le {α : Type} (m : α → Nat) (h : ∀ x, 1 ≤ m x) (l : List α) : l.length ≤ Open.mList m l := by
  unfold Open.mList
  induction l with
  | nil => simp
  | cons x l ih => have := h x; simp only [List.length_cons, List.map_cons, List.sum_cons]; omega
structure Inv (n m : Int) (s : PaceS) : Prop where
  ok : Ok s
  n : s.n = n
  m : s.most = m
  t : s.ticks < waitP s.fails s.most
theorem Inv.lt {n m : Int} {s : PaceS} (h : Inv n m s) : s.ticks < 1000 := by have := h.t; have := @waitP_le s.fails s.most; have := h.ok.m1; omega
theorem start {n m : Int} (hn1 : 1 ≤ n) (hn2 : n ≤ 7) (hm1 : 1 ≤ m) (hm2 : m ≤ 1000) : Inv n m (startP n m) := by
  refine ⟨?_, rfl, rfl, ?_⟩
  · constructor <;> simp only [startP] <;> omega
  · have := @waitP_pos (startP n m).fails (startP n m).most hm1
    have h : (startP n m).ticks = 0 := rfl
    omega
theorem over_iff {s : PaceS} : over s = true ↔ waitP s.fails s.most ≤ s.ticks + 1 := by rw [over, decide_eq_true_eq]
theorem tick_inv {n m : Int} {s : PaceS} (h : Inv n m s) : Inv n m (tickP s).2 ∧ s.view ≤ (tickP s).2.view := by
  obtain ⟨ok, hn, hm, ht⟩ := h
  obtain ⟨f0, f1, t0, t1, m0, m1, n0, n1, v0, v1⟩ := ok
  by_cases h1 : s.view = 4611686018427387903
  · rw [tickP, if_pos h1]
    exact ⟨⟨⟨f0, f1, t0, t1, m0, m1, n0, n1, v0, v1⟩, hn, hm, ht⟩, Int.le_refl _⟩
  by_cases h2 : over s = true
  · rw [tickP, if_neg h1, if_pos h2]
    refine ⟨⟨?_, hn, hm, ?_⟩, ?_⟩
    · constructor <;> simp only <;> omega
    · have := @waitP_pos (s.fails + 1) s.most m0
      simp only
      omega
    · simp only; omega
  · rw [tickP, if_neg h1, if_neg h2]
    rw [over_iff] at h2
    have := @waitP_le s.fails s.most
    refine ⟨⟨?_, hn, hm, ?_⟩, ?_⟩
    · constructor <;> simp only [countP] <;> omega
    · simp only [countP]; omega
    · simp only [countP]; omega
theorem follow_inv {n m : Int} {s : PaceS} (h : Inv n m s) (v : Int) : Inv n m (followP s v).2 ∧ s.view ≤ (followP s v).2.view := by
  by_cases h1 : v ≤ s.view ∨ 4611686018427387903 < v
  · rw [followP, if_pos h1]; exact ⟨h, Int.le_refl _⟩
  · obtain ⟨ok, hn, hm, ht⟩ := h
    obtain ⟨f0, f1, t0, t1, m0, m1, n0, n1, v0, v1⟩ := ok
    rw [followP, if_neg h1]
    have := @waitP_pos s.fails s.most m0
    refine ⟨⟨?_, hn, hm, ?_⟩, ?_⟩
    · constructor <;> simp only <;> omega
    · simp only; omega
    · simp only; omega
theorem enter_inv {n m : Int} {s : PaceS} (h : Inv n m s) (v : Int) : Inv n m (enterP s v).2 ∧ s.view ≤ (enterP s v).2.view := by
  have hf := follow_inv h v
  by_cases h1 : (followP s v).1 = true
  · by_cases hc : v ≤ s.view ∨ 4611686018427387903 < v
    · rw [followP, if_pos hc] at h1; cases h1
    · rw [enterP, if_pos h1]
      obtain ⟨ok, hn, hm, ht⟩ := hf.1
      obtain ⟨f0, f1, t0, t1, m0, m1, n0, n1, v0, v1⟩ := ok
      have e : (followP s v).2.ticks = 0 := by rw [followP, if_neg hc]
      have := @waitP_pos 0 (followP s v).2.most m0
      refine ⟨⟨?_, hn, hm, ?_⟩, hf.2⟩
      · constructor <;> simp only <;> omega
      · simp only; omega
  · rw [enterP, if_neg h1]; exact hf
def later (s : PaceS) (k : Nat) : PaceS := { s with ticks := s.ticks + k }
theorem later_inv {n m : Int} {s : PaceS} (h : Inv n m s) (k : Nat) (hk : s.ticks + k < waitP s.fails s.most) : Inv n m (later s k) := by
  obtain ⟨ok, hn, hm, ht⟩ := h
  obtain ⟨f0, f1, t0, t1, m0, m1, n0, n1, v0, v1⟩ := ok
  have := @waitP_le s.fails s.most
  refine ⟨?_, hn, hm, hk⟩
  constructor <;> simp only [later] <;> omega
theorem later_tick {s : PaceS} (k : Nat) (hk : s.ticks + k + 1 < waitP s.fails s.most) (hv : s.view < 4611686018427387903) : tickP (later s k) = (false, later s (k + 1)) := by
  have h1 : ¬ (later s k).view = 4611686018427387903 := by simp only [later]; omega
  have h2 : ¬ over (later s k) = true := by rw [over_iff]; simp only [later]; omega
  rw [tickP, if_neg h1, if_neg h2]
  simp only [countP, later, Prod.mk.injEq, true_and, PaceS.mk.injEq, and_true]
  omega
theorem later_over {s : PaceS} (k : Nat) (hk : waitP s.fails s.most ≤ s.ticks + k + 1) (hv : s.view < 4611686018427387903) : (tickP (later s k)).1 = true ∧ (tickP (later s k)).2.view = s.view + 1 := by
  have h1 : ¬ (later s k).view = 4611686018427387903 := by simp only [later]; omega
  have h2 : over (later s k) = true := by rw [over_iff]; simp only [later]; omega
  rw [tickP, if_neg h1, if_pos h2]
  exact ⟨rfl, rfl⟩
theorem later_zero (s : PaceS) : later s 0 = s := by simp [later]
end Go.Proofs.Ytjmloaegjmdeiaa.PaceInv
