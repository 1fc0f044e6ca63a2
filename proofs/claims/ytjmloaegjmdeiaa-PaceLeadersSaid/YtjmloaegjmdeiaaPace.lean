/- The texts of package pace and of its reference come to what the plain functions say. -/
import Derived.Test.YtjmloaegjmdeiaaProg
import Derived.Test.YtjmloaegjmdeiaaState
import Derived.Test.YtjmloaegjmdeiaaWMore
import Derived.Tactics
import Derived.WalkKit
import Derived.KernelRfl
import Derived.LoopTactic
import Derived.Outline
import Derived.Deep.QuietTactic
import Derived.BigQuiet
import Derived.Laws.Shifts
import Derived.Laws.ShiftsVarLaws
namespace Go.Proofs.Ytjmloaegjmdeiaa.Pace
open Go.RowKit Go.Proofs.YtjmloaegjmdeiaaW.PrintWords Go.Proofs.YtjmloaegjmdeiaaW.PrintMore Go.Proofs.Ytjmloaegjmdeiaa.State
attribute [local go_sem] max2_int min2_int max_two min_two
set_option linter.unusedVariables false
set_option linter.unusedSimpArgs false

structure PaceS where
  fails : Int
  ticks : Int
  most : Int
  n : Int
  view : Int
  deriving DecidableEq
def obj (s : PaceS) : Obj := .cells #[.int .i64 s.fails, .int .i64 s.ticks, .int .i64 s.most, .int .i64 s.n, .int .i64 s.view] 40 (0, 0)
/-- Its numbers are where they may be. -/
structure Ok (s : PaceS) : Prop where
  f0 : 0 ≤ s.fails
  f1 : s.fails ≤ s.view
  t0 : 0 ≤ s.ticks
  t1 : s.ticks ≤ 1000
  m0 : 1 ≤ s.most
  m1 : s.most ≤ 1000
  n0 : 1 ≤ s.n
  n1 : s.n ≤ 7
  v0 : 1 ≤ s.view
  v1 : s.view ≤ 4611686018427387903
def waitP (f m : Int) : Int := mn (4 * 2 ^ (min f 16).toNat) m
theorem waitP_pos {f m : Int} (h : 1 ≤ m) : 1 ≤ waitP f m := by
  unfold waitP mn
  have : (1 : Int) ≤ 2 ^ (min f 16).toNat := by
    have := Nat.one_le_two_pow (n := (min f 16).toNat)
    have h2 : ((2 ^ (min f 16).toNat : Nat) : Int) = (2 : Int) ^ (min f 16).toNat := by push_cast; rfl
    omega
  split <;> omega
theorem waitP_le {f m : Int} : waitP f m ≤ m := by unfold waitP mn; split <;> omega

theorem pow16 (f : Int) (h : f ≤ 16) : (4 : Int) * 2 ^ f.toNat ≤ 262144 := by
  have h2 : (2 : Nat) ^ f.toNat ≤ 2 ^ 16 := Nat.pow_le_pow_right (by decide) (by omega)
  have h3 : ((2 ^ f.toNat : Nat) : Int) = (2 : Int) ^ f.toNat := by push_cast; rfl
  omega
theorem pow_pos' (n : Nat) : (1 : Int) ≤ 2 ^ n := by
  have := Nat.one_le_two_pow (n := n)
  have h2 : ((2 ^ n : Nat) : Int) = (2 : Int) ^ n := by push_cast; rfl
  omega
theorem ret2 {a b x y : Int} (h : x = a) (k : y = b) : Ending.returned (.tuple #[.int .i64 x, .int .i64 y]) = .returned (.tuple #[.int .i64 a, .int .i64 b]) := by rw [h, k]
theorem reti {k : IntKind} {a b : Int} (h : a = b) : Ending.returned (.int k a) = .returned (.int k b) := by rw [h]
theorem retb {a b : Bool} (h : a = b) : Ending.returned (.bool a) = .returned (.bool b) := by rw [h]

set_option maxHeartbeats 1000000 in
theorem wait (g : Nat) (s : PaceS) (w : World) (h : w.heap[g]? = some (obj s)) (hs : Ok s) :
    Calls Try.prog 15 #[.pointer (some ⟨g, 0, none⟩)] w fun e w' => e = .returned (.tuple #[.int .i64 (waitP s.fails s.most), .int .i64 s.ticks]) ∧ Drawn0 w w' := by
  have c0 : w.cell? ⟨g, 0, none⟩ = some (.int .i64 s.fails) := cell_blk h
  have c1 : w.cell? ⟨g, 1, none⟩ = some (.int .i64 s.ticks) := cell_blk h
  have c2 : w.cell? ⟨g, 2, none⟩ = some (.int .i64 s.most) := cell_blk h
  obtain ⟨f0, f1, t0, t1, m0, m1, n0, n1, v0, v1⟩ := hs
  clear h
  by_cases hf : 16 < s.fails
  · have e : Aside0 (s.most = waitP s.fails s.most) := ⟨by
      unfold waitP mn
      rw [show min s.fails 16 = 16 from by omega]
      have h2 : (2 : Int) ^ Int.toNat 16 = 65536 := by decide
      rw [h2, if_pos (by omega)]⟩
    go_enter Try.func15, Try.ntmps15
    go_wp2_with fail
    go_quiet (fail)
    go_wp2
    go_ret2
    exact ⟨ret2 e.out rfl, ⟨⟨_, rfl⟩⟩⟩
  · have hb := Aside0.mk (pow16 s.fails (by omega))
    have hp := Aside0.mk (pow_pos' s.fails.toNat)
    have ew : Aside0 (wrap64 (4 * 2 ^ s.fails.toNat) = 4 * 2 ^ s.fails.toNat) := ⟨by have := hb.out; have := hp.out; unfold wrap64; omega⟩
    have e : Aside0 (waitP s.fails s.most = if s.most < 4 * 2 ^ s.fails.toNat then s.most else 4 * 2 ^ s.fails.toNat) := ⟨by
      unfold waitP mn
      rw [show min s.fails 16 = s.fails from by omega]⟩
    have hf' : s.fails ≤ 16 := by omega
    clear hf
    go_enter Try.func15, Try.ntmps15
    go_wp2_with fail
    go_quiet (fail)
    go_wp2
    · have h : s.most < wrap64 (4 * 2 ^ s.fails.toNat) := by assumption
      go_ret2
      exact ⟨ret2 (by rw [e.out, if_pos (by rw [← ew.out]; exact h)]) rfl, ⟨⟨_, rfl⟩⟩⟩
    · have h : wrap64 (4 * 2 ^ s.fails.toNat) ≤ s.most := by assumption
      go_ret2
      exact ⟨ret2 (by rw [e.out, if_neg (by rw [← ew.out]; omega), ew.out]) rfl, ⟨⟨_, rfl⟩⟩⟩

/-- A tick is counted. -/
def countP (s : PaceS) : PaceS := { s with ticks := s.ticks + 1 }
def over (s : PaceS) : Bool := decide (waitP s.fails s.most ≤ s.ticks + 1)
set_option maxHeartbeats 1000000 in
theorem count (g : Nat) (s : PaceS) (w : World) (h : w.heap[g]? = some (obj s)) (hs : Ok s) (ht : s.ticks < 1000) :
    Calls Try.prog 21 #[.pointer (some ⟨g, 0, none⟩)] w fun e w' => e = .returned (.bool (over s)) ∧ Upd w w' g (obj (countP s)) := by
  have c1 : w.cell? ⟨g, 1, none⟩ = some (.int .i64 s.ticks) := cell_blk h
  have z1 : w.frozen? ⟨g, 1, none⟩ = false := free_blk h
  have HU := Aside0.mk ((Upd.refl h).store (j := 1) (.int .i64 (s.ticks + 1)))
  have ht0 := hs.t0
  have hok : Ok (countP s) := ⟨hs.f0, hs.f1, by simp only [countP]; omega, by simp only [countP]; omega, hs.m0, hs.m1, hs.n0, hs.n1, hs.v0, hs.v1⟩
  have HW := Aside0.mk fun w1 (h1 : w1.heap[g]? = some (obj (countP s))) => wait g (countP s) w1 h1 hok
  clear hok h hs
  go_enter Try.func21, Try.ntmps21
  go_wp2_with fail
  refine (HW.out _ HU.out.here).mono ?_
  rintro e w1 ⟨rfl, hd⟩
  have HD := Aside0.mk hd
  have c2 : w1.cell? ⟨g, 1, none⟩ = some (.int .i64 (s.ticks + 1)) := cell_blk (blk_drawn HU.out.here hd)
  clear hd
  go_wp2_with fail
  go_ret
  exact ⟨rfl, HU.out.drawn HD.out⟩

def tickP (s : PaceS) : Bool × PaceS :=
  if s.view = 4611686018427387903 then (false, s)
  else if over s then (true, { s with fails := s.fails + 1, ticks := 0, view := s.view + 1 }) else (false, countP s)
set_option maxHeartbeats 1000000 in
theorem tick (g : Nat) (s : PaceS) (w : World) (h : w.heap[g]? = some (obj s)) (hs : Ok s) (ht : s.ticks < 1000) :
    Calls Try.prog 9 #[.pointer (some ⟨g, 0, none⟩)] w fun e w' => e = .returned (.bool (tickP s).1) ∧ Upd w w' g (obj (tickP s).2) := by
  have c4 : w.cell? ⟨g, 4, none⟩ = some (.int .i64 s.view) := cell_blk h
  have hf0 := hs.f0
  have hf1 := hs.f1
  have hv0 := hs.v0
  have hv1 := hs.v1
  have HR := Aside0.mk (Upd.refl h)
  have HC := Aside0.mk (count g s w h hs ht)
  clear h hs
  by_cases hm : s.view = 4611686018427387903
  · have hb : (s.view == 4611686018427387903) = true := beq_iff_eq.2 hm
    have e1 : Aside0 (tickP s = (false, s)) := ⟨by rw [tickP, if_pos hm]⟩
    clear hm HC
    go_enter Try.func9, Try.ntmps9
    go_wp2_with fail
    go_ret
    rw [e1.out]
    exact ⟨rfl, HR.out⟩
  · have hb : (s.view == 4611686018427387903) = false := beq_eq_false_iff_ne.2 hm
    have hv : s.view < 4611686018427387903 := by omega
    by_cases ho : over s = true
    · have e1 : Aside0 (tickP s = (true, { s with fails := s.fails + 1, ticks := 0, view := s.view + 1 })) := ⟨by rw [tickP, if_neg hm, if_pos ho]⟩
      have HO := Aside0.mk ho
      clear hm ho
      go_enter Try.func9, Try.ntmps9
      go_wp2_with fail
      refine HC.out.mono ?_
      rintro e w1 ⟨rfl, hu⟩
      rw [HO.out]
      have HU := Aside0.mk hu
      have d4 : w1.cell? ⟨g, 4, none⟩ = some (.int .i64 s.view) := cell_blk hu.here
      have d0 : w1.cell? ⟨g, 0, none⟩ = some (.int .i64 s.fails) := cell_blk hu.here
      have d1 : w1.cell? ⟨g, 1, none⟩ = some (.int .i64 (s.ticks + 1)) := cell_blk hu.here
      have z0 : w1.frozen? ⟨g, 0, none⟩ = false := free_blk hu.here
      have z1 : w1.frozen? ⟨g, 1, none⟩ = false := free_blk hu.here
      have z4 : w1.frozen? ⟨g, 4, none⟩ = false := free_blk hu.here
      clear hu
      go_wp2_with fail
      go_ret
      rw [e1.out]
      exact ⟨rfl, ((HU.out.store (j := 4) _).store (j := 0) _).store (j := 1) _⟩
    · have e1 : Aside0 (tickP s = (false, countP s)) := ⟨by rw [tickP, if_neg hm, if_neg ho]⟩
      have HO := Aside0.mk (Bool.eq_false_iff.2 ho)
      clear hm ho
      go_enter Try.func9, Try.ntmps9
      go_wp2_with fail
      refine HC.out.mono ?_
      rintro e w1 ⟨rfl, hu⟩
      rw [HO.out]
      have HU := Aside0.mk hu
      clear hu
      go_wp2_with fail
      go_ret
      rw [e1.out]
      exact ⟨rfl, HU.out⟩

def followP (s : PaceS) (v : Int) : Bool × PaceS := if v ≤ s.view ∨ 4611686018427387903 < v then (false, s) else (true, { s with ticks := 0, view := v })
set_option maxHeartbeats 1000000 in
theorem follow (g : Nat) (s : PaceS) (v : Int) (w : World) (h : w.heap[g]? = some (obj s)) :
    Calls Try.prog 13 #[.pointer (some ⟨g, 0, none⟩), .int .i64 v] w fun e w' => e = .returned (.bool (followP s v).1) ∧ Upd w w' g (obj (followP s v).2) := by
  have c4 : w.cell? ⟨g, 4, none⟩ = some (.int .i64 s.view) := cell_blk h
  have c1 : w.cell? ⟨g, 1, none⟩ = some (.int .i64 s.ticks) := cell_blk h
  have z1 : w.frozen? ⟨g, 1, none⟩ = false := free_blk h
  have z4 : w.frozen? ⟨g, 4, none⟩ = false := free_blk h
  have HR := Aside0.mk (Upd.refl h)
  clear h
  by_cases h1 : v ≤ s.view
  · have e1 : Aside0 (followP s v = (false, s)) := ⟨by rw [followP, if_pos (.inl h1)]⟩
    go_enter Try.func13, Try.ntmps13
    go_wp2_with fail
    go_ret
    rw [e1.out]
    exact ⟨rfl, HR.out⟩
  by_cases h2 : 4611686018427387903 < v
  · have e1 : Aside0 (followP s v = (false, s)) := ⟨by rw [followP, if_pos (.inr h2)]⟩
    have h1' : s.view < v := by omega
    clear h1
    go_enter Try.func13, Try.ntmps13
    go_wp2_with fail
    go_ret
    rw [e1.out]
    exact ⟨rfl, HR.out⟩
  have e1 : Aside0 (followP s v = (true, { s with ticks := 0, view := v })) := ⟨by rw [followP, if_neg (by omega)]⟩
  have h1' : s.view < v := by omega
  have h2' : v ≤ 4611686018427387903 := by omega
  clear h1 h2
  go_enter Try.func13, Try.ntmps13
  go_wp2_with fail
  go_ret
  rw [e1.out]
  exact ⟨rfl, (HR.out.store (j := 4) _).store (j := 1) _⟩

def enterP (s : PaceS) (v : Int) : Bool × PaceS := if (followP s v).1 then (true, { (followP s v).2 with fails := 0 }) else (false, (followP s v).2)
set_option maxHeartbeats 1000000 in
theorem enter (g : Nat) (s : PaceS) (v : Int) (w : World) (h : w.heap[g]? = some (obj s)) :
    Calls Try.prog 11 #[.pointer (some ⟨g, 0, none⟩), .int .i64 v] w fun e w' => e = .returned (.bool (enterP s v).1) ∧ Upd w w' g (obj (enterP s v).2) := by
  have HF := Aside0.mk (follow g s v w h)
  clear h
  by_cases hb : (followP s v).1 = true
  · have e1 : Aside0 (enterP s v = (true, { (followP s v).2 with fails := 0 })) := ⟨by rw [enterP, if_pos hb]⟩
    have HB := Aside0.mk hb
    clear hb
    go_enter Try.func11, Try.ntmps11
    go_wp2_with fail
    refine HF.out.mono ?_
    rintro e w1 ⟨rfl, hu⟩
    rw [HB.out]
    have HU := Aside0.mk hu
    have z0 : w1.frozen? ⟨g, 0, none⟩ = false := free_blk hu.here
    have d0 : w1.cell? ⟨g, 0, none⟩ = some (.int .i64 (followP s v).2.fails) := cell_blk hu.here
    clear hu
    go_wp2_with fail
    go_ret
    rw [e1.out]
    exact ⟨rfl, HU.out.store (j := 0) _⟩
  · have hb' := Bool.eq_false_iff.2 hb
    have e1 : Aside0 (enterP s v = (false, (followP s v).2)) := ⟨by rw [enterP, if_neg hb]⟩
    have HB := Aside0.mk hb'
    clear hb hb'
    go_enter Try.func11, Try.ntmps11
    go_wp2_with fail
    refine HF.out.mono ?_
    rintro e w1 ⟨rfl, hu⟩
    rw [HB.out]
    have HU := Aside0.mk hu
    clear hu
    go_wp2_with fail
    go_ret
    rw [e1.out]
    exact ⟨rfl, HU.out⟩

set_option maxHeartbeats 1000000 in
theorem view (g : Nat) (s : PaceS) (w : World) (h : w.heap[g]? = some (obj s)) :
    Calls Try.prog 16 #[.pointer (some ⟨g, 0, none⟩)] w fun e w' => e = .returned (.int .i64 s.view) ∧ w' = w := by
  have c4 : w.cell? ⟨g, 4, none⟩ = some (.int .i64 s.view) := cell_blk h
  clear h
  go_enter Try.func16, Try.ntmps16
  go_wp2_with fail
  go_ret
  exact ⟨rfl, rfl⟩

def leaderP (n v : Int) : Int := if v < 0 then 0 else v % n
set_option maxHeartbeats 1000000 in
theorem leader (g : Nat) (s : PaceS) (v : Int) (w : World) (h : w.heap[g]? = some (obj s)) (hn0 : 1 ≤ s.n) (hn1 : s.n ≤ 7) :
    Calls Try.prog 18 #[.pointer (some ⟨g, 0, none⟩), .int .i64 v] w fun e w' => e = .returned (.int .i64 (leaderP s.n v)) ∧ w' = w := by
  have c3 : w.cell? ⟨g, 3, none⟩ = some (.int .i64 s.n) := cell_blk h
  clear h
  by_cases hv : v < 0
  · have e1 : Aside0 (leaderP s.n v = 0) := ⟨by rw [leaderP, if_pos hv]⟩
    go_enter Try.func18, Try.ntmps18
    go_wp2_with fail
    go_ret
    rw [e1.out]
    exact ⟨rfl, rfl⟩
  · have e1 : Aside0 (leaderP s.n v = v % s.n) := ⟨by rw [leaderP, if_neg hv]⟩
    go_enter Try.func18, Try.ntmps18
    go_wp2_with fail
    go_ret
    rw [e1.out]
    exact ⟨rfl, rfl⟩

def startP (n m : Int) : PaceS := ⟨0, 0, m, n, 1⟩
def newP (n m : Int) : Bool := decide (1 ≤ n ∧ n ≤ 7 ∧ 1 ≤ m ∧ m ≤ 1000)
def NewPost (n m : Int) (w w' : World) (e : Ending) (o : Obj) : Prop :=
  (newP n m = false ∧ e = .returned (.tuple #[.pointer none, .int .i64 2]) ∧ Below w.heap.size w w') ∨
  (newP n m = true ∧ e = .returned (.tuple #[.pointer (some ⟨w.heap.size, 0, none⟩), .int .i64 0]) ∧ w'.heap[w.heap.size]? = some o ∧ Below w.heap.size w w')
theorem newF {n m : Int} {w : World} {o : Obj} (h : newP n m = false) : NewPost n m w w (.returned (.tuple #[.pointer none, .int .i64 2])) o := .inl ⟨h, rfl, Below.refl _ _⟩
set_option maxHeartbeats 1000000 in
theorem new (n m : Int) (w : World) :
    Calls Try.prog 7 #[.int .i64 n, .int .i64 m] w fun e w' => NewPost n m w w' e (obj (startP n m)) := by
  by_cases hb : newP n m = true
  · have hc : 1 ≤ n ∧ n ≤ 7 ∧ 1 ≤ m ∧ m ≤ 1000 := by simpa [newP] using hb
    obtain ⟨h1, h2, h3, h4⟩ := hc
    have HB := Aside0.mk hb
    clear hb
    go_enter Try.func7, Try.ntmps7
    go_wp2_with fail
    go_ret2
    exact .inr ⟨HB.out, rfl, heap_alloc_new _ _, Below.alloc (Below.refl _ _) (Nat.le_refl _) _⟩
  · have hb' := Bool.eq_false_iff.2 hb
    have hc : n < 1 ∨ 7 < n ∨ m < 1 ∨ 1000 < m := by
      by_cases hq : n < 1 ∨ 7 < n ∨ m < 1 ∨ 1000 < m
      · exact hq
      · exact absurd (by simp only [newP, decide_eq_true_eq]; omega) hb
    have HP := Aside0.mk (newF (w := w) (o := obj (startP n m)) hb')
    clear hb hb'
    by_cases h1 : n < 1
    · clear hc
      go_enter Try.func7, Try.ntmps7
      go_wp2_with fail
      go_ret2
      exact HP.out
    by_cases h2 : 7 < n
    · clear hc
      go_enter Try.func7, Try.ntmps7
      go_wp2_with fail
      go_ret2
      exact HP.out
    by_cases h3 : m < 1
    · clear hc
      go_enter Try.func7, Try.ntmps7
      go_wp2_with fail
      go_ret2
      exact HP.out
    have h4 : 1000 < m := by omega
    clear hc
    go_enter Try.func7, Try.ntmps7
    go_wp2_with fail
    go_ret2
    exact HP.out

/- the reference -/
def robj (s : PaceS) : Obj := .cells #[.int .i64 s.n, .int .i64 s.most, .int .i64 s.view, .int .i64 s.fails, .int .i64 s.ticks] 43 (0, 0)
set_option maxHeartbeats 1000000 in
theorem rnew (n m : Int) (w : World) :
    Calls Try.prog 8 #[.int .i64 n, .int .i64 m] w fun e w' => NewPost n m w w' e (robj (startP n m)) := by
  by_cases hb : newP n m = true
  · have hc : 1 ≤ n ∧ n ≤ 7 ∧ 1 ≤ m ∧ m ≤ 1000 := by simpa [newP] using hb
    obtain ⟨h1, h2, h3, h4⟩ := hc
    have HB := Aside0.mk hb
    clear hb
    go_enter Try.func8, Try.ntmps8
    go_wp2_with fail
    go_ret2
    exact .inr ⟨HB.out, rfl, heap_alloc_new _ _, Below.alloc (Below.refl _ _) (Nat.le_refl _) _⟩
  · have hb' := Bool.eq_false_iff.2 hb
    have hc : n < 1 ∨ 7 < n ∨ m < 1 ∨ 1000 < m := by
      by_cases hq : n < 1 ∨ 7 < n ∨ m < 1 ∨ 1000 < m
      · exact hq
      · exact absurd (by simp only [newP, decide_eq_true_eq]; omega) hb
    have HP := Aside0.mk (newF (w := w) (o := robj (startP n m)) hb')
    clear hb hb'
    by_cases h1 : n < 1
    · clear hc
      go_enter Try.func8, Try.ntmps8
      go_wp2_with fail
      go_ret2
      exact HP.out
    by_cases h2 : 7 < n
    · clear hc
      go_enter Try.func8, Try.ntmps8
      go_wp2_with fail
      go_ret2
      exact HP.out
    by_cases h3 : m < 1
    · clear hc
      go_enter Try.func8, Try.ntmps8
      go_wp2_with fail
      go_ret2
      exact HP.out
    have h4 : 1000 < m := by omega
    clear hc
    go_enter Try.func8, Try.ntmps8
    go_wp2_with fail
    go_ret2
    exact HP.out

set_option maxHeartbeats 1000000 in
theorem rleader (g : Nat) (s : PaceS) (v : Int) (w : World) (h : w.heap[g]? = some (robj s)) (hn0 : 1 ≤ s.n) (hn1 : s.n ≤ 7) :
    Calls Try.prog 19 #[.pointer (some ⟨g, 0, none⟩), .int .i64 v] w fun e w' => e = .returned (.int .i64 (leaderP s.n v)) ∧ w' = w := by
  have c3 : w.cell? ⟨g, 0, none⟩ = some (.int .i64 s.n) := cell_blk h
  clear h
  by_cases hv : v < 0
  · have e1 : Aside0 (leaderP s.n v = 0) := ⟨by rw [leaderP, if_pos hv]⟩
    go_enter Try.func19, Try.ntmps19
    go_wp2_with fail
    go_ret
    exact ⟨congrArg _ (congrArg _ e1.out.symm), rfl⟩
  · have e1 : Aside0 (leaderP s.n v = v % s.n) := ⟨by rw [leaderP, if_neg hv]⟩
    go_enter Try.func19, Try.ntmps19
    go_wp2_with fail
    go_ret
    exact ⟨congrArg _ (congrArg _ e1.out.symm), rfl⟩

set_option maxHeartbeats 1000000 in
theorem rfollow (g : Nat) (s : PaceS) (v : Int) (w : World) (h : w.heap[g]? = some (robj s)) :
    Calls Try.prog 14 #[.pointer (some ⟨g, 0, none⟩), .int .i64 v] w fun e w' => e = .returned (.bool (followP s v).1) ∧ Upd w w' g (robj (followP s v).2) := by
  have c4 : w.cell? ⟨g, 2, none⟩ = some (.int .i64 s.view) := cell_blk h
  have c1 : w.cell? ⟨g, 4, none⟩ = some (.int .i64 s.ticks) := cell_blk h
  have z1 : w.frozen? ⟨g, 4, none⟩ = false := free_blk h
  have z4 : w.frozen? ⟨g, 2, none⟩ = false := free_blk h
  have HR := Aside0.mk (Upd.refl h)
  clear h
  by_cases h1 : v ≤ s.view
  · have e1 : Aside0 (followP s v = (false, s)) := ⟨by rw [followP, if_pos (.inl h1)]⟩
    go_enter Try.func14, Try.ntmps14
    go_wp2_with fail
    go_ret
    rw [e1.out]
    exact ⟨rfl, HR.out⟩
  by_cases h2 : 4611686018427387903 < v
  · have e1 : Aside0 (followP s v = (false, s)) := ⟨by rw [followP, if_pos (.inr h2)]⟩
    have h1' : s.view < v := by omega
    clear h1
    go_enter Try.func14, Try.ntmps14
    go_wp2_with fail
    go_ret
    rw [e1.out]
    exact ⟨rfl, HR.out⟩
  have e1 : Aside0 (followP s v = (true, { s with ticks := 0, view := v })) := ⟨by rw [followP, if_neg (by omega)]⟩
  have h1' : s.view < v := by omega
  have h2' : v ≤ 4611686018427387903 := by omega
  clear h1 h2
  go_enter Try.func14, Try.ntmps14
  go_wp2_with fail
  go_ret
  rw [e1.out]
  exact ⟨rfl, (HR.out.store (j := 2) _).store (j := 4) _⟩

set_option maxHeartbeats 1000000 in
theorem renter (g : Nat) (s : PaceS) (v : Int) (w : World) (h : w.heap[g]? = some (robj s)) :
    Calls Try.prog 12 #[.pointer (some ⟨g, 0, none⟩), .int .i64 v] w fun e w' => e = .returned (.bool (enterP s v).1) ∧ Upd w w' g (robj (enterP s v).2) := by
  have HF := Aside0.mk (rfollow g s v w h)
  clear h
  by_cases hb : (followP s v).1 = true
  · have e1 : Aside0 (enterP s v = (true, { (followP s v).2 with fails := 0 })) := ⟨by rw [enterP, if_pos hb]⟩
    have HB := Aside0.mk hb
    clear hb
    go_enter Try.func12, Try.ntmps12
    go_wp2_with fail
    refine HF.out.mono ?_
    rintro e w1 ⟨rfl, hu⟩
    rw [HB.out]
    have HU := Aside0.mk hu
    have z0 : w1.frozen? ⟨g, 3, none⟩ = false := free_blk hu.here
    have d0 : w1.cell? ⟨g, 3, none⟩ = some (.int .i64 (followP s v).2.fails) := cell_blk hu.here
    clear hu
    go_wp2_with fail
    go_ret
    rw [e1.out]
    exact ⟨rfl, HU.out.store (j := 3) _⟩
  · have hb' := Bool.eq_false_iff.2 hb
    have e1 : Aside0 (enterP s v = (false, (followP s v).2)) := ⟨by rw [enterP, if_neg hb]⟩
    have HB := Aside0.mk hb'
    clear hb hb'
    go_enter Try.func12, Try.ntmps12
    go_wp2_with fail
    refine HF.out.mono ?_
    rintro e w1 ⟨rfl, hu⟩
    rw [HB.out]
    have HU := Aside0.mk hu
    clear hu
    go_wp2_with fail
    go_ret
    rw [e1.out]
    exact ⟨rfl, HU.out⟩

set_option maxHeartbeats 1000000 in
theorem rwait (g : Nat) (s : PaceS) (w : World) (h : w.heap[g]? = some (robj s)) (hs : Ok s) :
    Calls Try.prog 17 #[.pointer (some ⟨g, 0, none⟩)] w fun e w' => e = .returned (.int .i64 (waitP s.fails s.most)) ∧ Drawn0 w w' := by
  have c0 : w.cell? ⟨g, 3, none⟩ = some (.int .i64 s.fails) := cell_blk h
  have c2 : w.cell? ⟨g, 1, none⟩ = some (.int .i64 s.most) := cell_blk h
  obtain ⟨f0, f1, t0, t1, m0, m1, n0, n1, v0, v1⟩ := hs
  clear h
  go_enter Try.func17, Try.ntmps17
  go_wp2_with fail
  have hmf : Aside0 (waitP s.fails s.most = mn (4 * 2 ^ (min s.fails 16).toNat) s.most) := ⟨rfl⟩
  go_loopw [3, 4] (fun v3 v4 wr => ∃ k : Nat, (k : Int) ≤ 16 ∧ (k : Int) ≤ s.fails ∧ v3 = .int .i64 (4 * 2 ^ k) ∧ v4 = .int .i64 k ∧ Drawn0 w wr) (fun _ i _ => 16 - (intOf i).toNat)
  case atStart => exact ⟨0, by omega, by omega, rfl, rfl, Drawn0.refl _⟩
  case round =>
    obtain ⟨k, hk1, hk2, rfl, rfl, n, rfl⟩ := hrel
    have hb := pow16 k (by omega)
    have hp := pow_pos' (k : Int).toNat
    simp only [Int.toNat_natCast] at hb hp
    by_cases hlt : (k : Int) < 16 ∧ (k : Int) < s.fails
    · obtain ⟨hl1, hl2⟩ := hlt
      have hb2 := pow16 (k + 1 : Nat) (by omega)
      have hsucc : (2 : Int) ^ (k + 1) = 2 * 2 ^ k := by rw [Int.pow_succ]; omega
      simp only [Int.toNat_natCast] at hb2
      rw [hsucc] at hb2
      have HS := Aside0.mk hsucc
      clear hsucc
      go_wp2_with fail
      exact ⟨⟨k + 1, by omega, by omega, by rw [HS.out, Int.mul_left_comm], by go_num, ⟨n, rfl⟩⟩, by simp [intOf]; omega⟩
    · have hk : Aside0 ((min s.fails 16).toNat = k) := ⟨by omega⟩
      have hn : ¬ (k : Int) < 16 ∨ ¬ (k : Int) < s.fails := by omega
      have hx : Aside0 (4 * 2 ^ k ≤ (262144 : Int) ∧ (1 : Int) ≤ 2 ^ k) := ⟨hb, hp⟩
      by_cases h16 : s.fails < 16
      · have hke : (k : Int) = s.fails := by omega
        clear hb hp hn hlt hk1 hk2
        go_wp2_with fail
        · have h : s.most < 4 * 2 ^ k := by assumption
          go_ret
          exact ⟨reti (by rw [hmf.out, hk.out, mn, if_pos h]), ⟨n, rfl⟩⟩
        · have h : 4 * 2 ^ k ≤ s.most := by assumption
          go_ret
          exact ⟨reti (by rw [hmf.out, hk.out, mn, if_neg (by omega)]), ⟨n, rfl⟩⟩
      · have hke : (k : Int) = 16 := by omega
        clear hb hp hn hlt hk1 hk2
        go_wp2_with fail
        · have h : s.most < 4 * 2 ^ k := by assumption
          go_ret
          exact ⟨reti (by rw [hmf.out, hk.out, mn, if_pos h]), ⟨n, rfl⟩⟩
        · have h : 4 * 2 ^ k ≤ s.most := by assumption
          go_ret
          exact ⟨reti (by rw [hmf.out, hk.out, mn, if_neg (by omega)]), ⟨n, rfl⟩⟩

set_option maxHeartbeats 1000000 in
theorem rtick (g : Nat) (s : PaceS) (w : World) (h : w.heap[g]? = some (robj s)) (hs : Ok s) (ht : s.ticks < 1000) :
    Calls Try.prog 10 #[.pointer (some ⟨g, 0, none⟩)] w fun e w' => e = .returned (.bool (tickP s).1) ∧ Upd w w' g (robj (tickP s).2) := by
  have c4 : w.cell? ⟨g, 2, none⟩ = some (.int .i64 s.view) := cell_blk h
  have c1 : w.cell? ⟨g, 4, none⟩ = some (.int .i64 s.ticks) := cell_blk h
  have z1 : w.frozen? ⟨g, 4, none⟩ = false := free_blk h
  have hf0 := hs.f0
  have hf1 := hs.f1
  have hv0 := hs.v0
  have hv1 := hs.v1
  have ht0 := hs.t0
  have HR := Aside0.mk (Upd.refl h)
  have HU := Aside0.mk ((Upd.refl h).store (j := 4) (.int .i64 (s.ticks + 1)))
  have hok : Ok (countP s) := ⟨hs.f0, hs.f1, by simp only [countP]; omega, by simp only [countP]; omega, hs.m0, hs.m1, hs.n0, hs.n1, hs.v0, hs.v1⟩
  have HW : Aside0 (∀ w1 : World, w1.heap[g]? = some (robj (countP s)) → Calls Try.prog 17 #[.pointer (some ⟨g, 0, none⟩)] w1 fun e w' => e = .returned (.int .i64 (waitP s.fails s.most)) ∧ Drawn0 w1 w') := ⟨fun w1 h1 => rwait g (countP s) w1 h1 hok⟩
  clear h hs hok
  by_cases hm : s.view = 4611686018427387903
  · have e1 : Aside0 (tickP s = (false, s)) := ⟨by rw [tickP, if_pos hm]⟩
    have hge : 4611686018427387903 ≤ s.view := by omega
    clear hm HW HU
    go_enter Try.func10, Try.ntmps10
    go_wp2_with fail
    go_ret
    rw [e1.out]
    exact ⟨rfl, HR.out⟩
  · have hv : s.view < 4611686018427387903 := by omega
    have hm' := Aside0.mk hm
    clear hm
    go_enter Try.func10, Try.ntmps10
    go_wp2_with fail
    have HW1 := Aside0.mk (HW.out)
    have HU1 := HU.out
    generalize hw1 : w.setCell ⟨g, 4, none⟩ (.int .i64 (s.ticks + 1)) = w1 at HU1 ⊢
    have d4 : w1.cell? ⟨g, 4, none⟩ = some (.int .i64 (s.ticks + 1)) := cell_blk HU1.here
    have d2 : w1.cell? ⟨g, 2, none⟩ = some (.int .i64 s.view) := cell_blk HU1.here
    have d3 : w1.cell? ⟨g, 3, none⟩ = some (.int .i64 s.fails) := cell_blk HU1.here
    have z4 : w1.frozen? ⟨g, 4, none⟩ = false := free_blk HU1.here
    have z2 : w1.frozen? ⟨g, 2, none⟩ = false := free_blk HU1.here
    have z3 : w1.frozen? ⟨g, 3, none⟩ = false := free_blk HU1.here
    have HU2 := Aside0.mk HU1
    clear HU1 hw1 c4 c1 z1 HU
    have HQ := Aside0.mk fun n => Calls.quiet_of ((HW1.out _ (HU2.out.drewN n).here).mono fun e w2 hq => ⟨hq.1, hq.2.out⟩)
    go_quiet (exact HQ.out _)
    by_cases ho : waitP s.fails s.most ≤ s.ticks + 1
    · have e1 : Aside0 (tickP s = (true, { s with fails := s.fails + 1, ticks := 0, view := s.view + 1 })) := ⟨by rw [tickP, if_neg hm'.out, if_pos (by simp only [over, ho, decide_true])]⟩
      go_wp2_with fail
      go_ret
      rw [e1.out]
      exact ⟨rfl, (((HU2.out.drewN _).store (j := 2) _).store (j := 3) _).store (j := 4) _⟩
    · have ho' : s.ticks + 1 < waitP s.fails s.most := by omega
      have e1 : Aside0 (tickP s = (false, countP s)) := ⟨by rw [tickP, if_neg hm'.out, if_neg (by simp only [over, ho, decide_false]; decide)]⟩
      clear ho
      go_wp2_with fail
      go_ret
      rw [e1.out]
      exact ⟨rfl, HU2.out.drewN _⟩
end Go.Proofs.Ytjmloaegjmdeiaa.Pace
