/- The numbers that the laws of pace make of their arguments. -/
import Derived.Test.YtjmloaegjmdeiaaPaceWorks
namespace Go.Proofs.Ytjmloaegjmdeiaa.PaceBounds
open Go.RowKit Go.Proofs.YtjmloaegjmdeiaaW.PrintWords Go.Proofs.YtjmloaegjmdeiaaW.PrintMore Go.Proofs.Ytjmloaegjmdeiaa.State Go.Proofs.Ytjmloaegjmdeiaa.Pace
set_option linter.unusedVariables false
theorem min2_mn (k k' : IntKind) (x y : Int) : Builtin.min2 (.int k x) (.int k' y) = pure (.int k (mn x y)) := by simp only [Builtin.min2]; rfl
/-- A number of the unsigned reading, cut. -/
theorem cut (a : Int) (m : Nat) (h0 : 0 < m) (h1 : m ≤ 4611686018427387903) : ∃ k : Nat, k < m ∧ wrap64 ((IntKind.u64.wrap a).tmod (m : Int)) = k := by
  refine ⟨((IntKind.u64.wrap a).tmod (m : Int)).toNat, ?_, ?_⟩
  · have e : IntKind.u64.wrap a = a % 18446744073709551616 := by rw [IntKind.wrap_u64]
    rw [e]
    have hn : 0 ≤ a % 18446744073709551616 := by omega
    rw [Int.tmod_eq_emod_of_nonneg hn]
    have := Int.emod_lt_of_pos (a % 18446744073709551616) (show (0 : Int) < m by omega)
    have := Int.emod_nonneg (a % 18446744073709551616) (show (m : Int) ≠ 0 by omega)
    omega
  · have e : IntKind.u64.wrap a = a % 18446744073709551616 := by rw [IntKind.wrap_u64]
    rw [e]
    have hn : 0 ≤ a % 18446744073709551616 := by omega
    rw [Int.tmod_eq_emod_of_nonneg hn]
    have := Int.emod_lt_of_pos (a % 18446744073709551616) (show (0 : Int) < m by omega)
    have := Int.emod_nonneg (a % 18446744073709551616) (show (m : Int) ≠ 0 by omega)
    unfold wrap64
    omega
theorem onePlus (k : Nat) (h : k ≤ 4611686018427387903) : wrap64 (1 + (k : Int)) = (k + 1 : Nat) := by unfold wrap64; omega
def J (w : World) (g : Nat) (s : PaceS) (wr : World) : Prop := wr.heap[g]? = some (obj s) ∧ Below w.heap.size w wr
theorem J.mk {w wr : World} {g : Nat} {s : PaceS} (h : wr.heap[g]? = some (obj s)) (k : Below w.heap.size w wr) : J w g s wr := ⟨h, k⟩
theorem J.on {w wr w' : World} {g : Nat} {s s' : PaceS} (h : J w g s wr) (hg : w.heap.size ≤ g) (hu : Upd wr w' g (obj s')) : J w g s' w' := ⟨hu.here, h.2.trans (hu.below hg h.2.size)⟩
theorem J.drawn {w wr w' : World} {g : Nat} {s : PaceS} (h : J w g s wr) (hd : Drawn0 wr w') : J w g s w' := ⟨blk_drawn h.1 hd, h.2.trans (drawn_below hd _)⟩
theorem J.waitG {w wr : World} {g : Nat} {s : PaceS} (h : J w g s wr) (hs : Ok s) :
    Calls Try.prog 15 #[.pointer (some ⟨g, 0, none⟩)] wr fun e w' => e = .returned (.tuple #[.int .i64 (waitP s.fails s.most), .int .i64 s.ticks]) ∧ J w g s w' :=
  (Pace.wait g s wr h.1 hs).mono fun e w' ⟨he, hd⟩ => ⟨he, h.drawn hd⟩
theorem J.tickG {w wr : World} {g : Nat} {s : PaceS} (h : J w g s wr) (hg : w.heap.size ≤ g) (hs : Ok s) (ht : s.ticks < 1000) :
    Calls Try.prog 9 #[.pointer (some ⟨g, 0, none⟩)] wr fun e w' => e = .returned (.bool (tickP s).1) ∧ J w g (tickP s).2 w' :=
  (Pace.tick g s wr h.1 hs ht).mono fun e w' ⟨he, hu⟩ => ⟨he, h.on hg hu⟩
theorem J.followG {w wr : World} {g : Nat} {s : PaceS} (h : J w g s wr) (hg : w.heap.size ≤ g) (v : Int) :
    Calls Try.prog 13 #[.pointer (some ⟨g, 0, none⟩), .int .i64 v] wr fun e w' => e = .returned (.bool (followP s v).1) ∧ J w g (followP s v).2 w' :=
  (Pace.follow g s v wr h.1).mono fun e w' ⟨he, hu⟩ => ⟨he, h.on hg hu⟩
theorem J.enterG {w wr : World} {g : Nat} {s : PaceS} (h : J w g s wr) (hg : w.heap.size ≤ g) (v : Int) :
    Calls Try.prog 11 #[.pointer (some ⟨g, 0, none⟩), .int .i64 v] wr fun e w' => e = .returned (.bool (enterP s v).1) ∧ J w g (enterP s v).2 w' :=
  (Pace.enter g s v wr h.1).mono fun e w' ⟨he, hu⟩ => ⟨he, h.on hg hu⟩
theorem J.viewG {w wr : World} {g : Nat} {s : PaceS} (h : J w g s wr) :
    Calls Try.prog 16 #[.pointer (some ⟨g, 0, none⟩)] wr fun e w' => e = .returned (.int .i64 s.view) ∧ w' = wr := Pace.view g s wr h.1
theorem followP_on {s : PaceS} {v : Int} (h : s.view < v) (h2 : v ≤ 4611686018427387903) : followP s v = (true, { s with ticks := 0, view := v }) := by rw [followP, if_neg (by omega)]
theorem enterP_on {s : PaceS} {v : Int} (h : s.view < v) (h2 : v ≤ 4611686018427387903) : enterP s v = (true, { s with fails := 0, ticks := 0, view := v }) := by
  have e := followP_on h h2
  rw [enterP, e]
  rfl
end Go.Proofs.Ytjmloaegjmdeiaa.PaceBounds
