/- A state of the program and one of the reference beside it. -/
import Derived.Test.YtjmloaegjmdeiaaPaceInv
import Derived.Deep.QuietTactic
namespace Go.Proofs.Ytjmloaegjmdeiaa.PacePair
open Go.RowKit Go.Proofs.YtjmloaegjmdeiaaW.PrintWords Go.Proofs.YtjmloaegjmdeiaaW.PrintMore Go.Proofs.Ytjmloaegjmdeiaa.State Go.Proofs.Ytjmloaegjmdeiaa.Pace Go.Proofs.Ytjmloaegjmdeiaa.PaceBounds Go.Proofs.Ytjmloaegjmdeiaa.PaceInv
set_option linter.unusedVariables false
structure JJ (w : World) (g h : Nat) (s t : PaceS) (wr : World) : Prop where
  p : wr.heap[g]? = some (obj s)
  r : wr.heap[h]? = some (robj t)
  below : Below w.heap.size w wr
structure Two (w : World) (g h : Nat) : Prop where
  lg : w.heap.size ≤ g
  lh : w.heap.size ≤ h
  ne : g ≠ h
theorem JJ.onP {w wr w' : World} {g h : Nat} {s t s' : PaceS} (j : JJ w g h s t wr) (c : Two w g h) (hu : Upd wr w' g (obj s')) : JJ w g h s' t w' := ⟨hu.here, hu.other j.r c.ne.symm, j.below.trans (hu.below c.lg j.below.size)⟩
theorem JJ.onR {w wr w' : World} {g h : Nat} {s t t' : PaceS} (j : JJ w g h s t wr) (c : Two w g h) (hu : Upd wr w' h (robj t')) : JJ w g h s t' w' := ⟨hu.other j.p c.ne, hu.here, j.below.trans (hu.below c.lh j.below.size)⟩
theorem JJ.drawn {w wr w' : World} {g h : Nat} {s t : PaceS} (j : JJ w g h s t wr) (hd : Drawn0 wr w') : JJ w g h s t w' := ⟨blk_drawn j.p hd, blk_drawn j.r hd, j.below.trans (drawn_below hd _)⟩
theorem JJ.drew {w wr : World} {g h : Nat} {s t : PaceS} (j : JJ w g h s t wr) : JJ w g h s t wr.drew := ⟨j.p, j.r, j.below.drew⟩
theorem JJ.drewN {w wr : World} {g h : Nat} {s t : PaceS} (j : JJ w g h s t wr) (n : Nat) : JJ w g h s t (wr.drewN n) := j.drawn ⟨n, rfl⟩
theorem JJ.ptick {w wr : World} {g h : Nat} {s t : PaceS} (j : JJ w g h s t wr) (c : Two w g h) (hs : Ok s) (ht : s.ticks < 1000) :
    Calls Try.prog 9 #[.pointer (some ⟨g, 0, none⟩)] wr fun e w' => e = .returned (.bool (tickP s).1) ∧ JJ w g h (tickP s).2 t w' :=
  (Pace.tick g s wr j.p hs ht).mono fun e w' ⟨he, hu⟩ => ⟨he, j.onP c hu⟩
theorem JJ.rtick {w wr : World} {g h : Nat} {s t : PaceS} (j : JJ w g h s t wr) (c : Two w g h) (hs : Ok t) (ht : t.ticks < 1000) :
    Calls Try.prog 10 #[.pointer (some ⟨h, 0, none⟩)] wr fun e w' => e = .returned (.bool (tickP t).1) ∧ JJ w g h s (tickP t).2 w' :=
  (Pace.rtick h t wr j.r hs ht).mono fun e w' ⟨he, hu⟩ => ⟨he, j.onR c hu⟩
theorem JJ.pfollow {w wr : World} {g h : Nat} {s t : PaceS} (j : JJ w g h s t wr) (c : Two w g h) (v : Int) :
    Calls Try.prog 13 #[.pointer (some ⟨g, 0, none⟩), .int .i64 v] wr fun e w' => e = .returned (.bool (followP s v).1) ∧ JJ w g h (followP s v).2 t w' :=
  (Pace.follow g s v wr j.p).mono fun e w' ⟨he, hu⟩ => ⟨he, j.onP c hu⟩
theorem JJ.rfollow {w wr : World} {g h : Nat} {s t : PaceS} (j : JJ w g h s t wr) (c : Two w g h) (v : Int) :
    Calls Try.prog 14 #[.pointer (some ⟨h, 0, none⟩), .int .i64 v] wr fun e w' => e = .returned (.bool (followP t v).1) ∧ JJ w g h s (followP t v).2 w' :=
  (Pace.rfollow h t v wr j.r).mono fun e w' ⟨he, hu⟩ => ⟨he, j.onR c hu⟩
theorem JJ.penter {w wr : World} {g h : Nat} {s t : PaceS} (j : JJ w g h s t wr) (c : Two w g h) (v : Int) :
    Calls Try.prog 11 #[.pointer (some ⟨g, 0, none⟩), .int .i64 v] wr fun e w' => e = .returned (.bool (enterP s v).1) ∧ JJ w g h (enterP s v).2 t w' :=
  (Pace.enter g s v wr j.p).mono fun e w' ⟨he, hu⟩ => ⟨he, j.onP c hu⟩
theorem JJ.renter {w wr : World} {g h : Nat} {s t : PaceS} (j : JJ w g h s t wr) (c : Two w g h) (v : Int) :
    Calls Try.prog 12 #[.pointer (some ⟨h, 0, none⟩), .int .i64 v] wr fun e w' => e = .returned (.bool (enterP t v).1) ∧ JJ w g h s (enterP t v).2 w' :=
  (Pace.renter h t v wr j.r).mono fun e w' ⟨he, hu⟩ => ⟨he, j.onR c hu⟩
theorem JJ.pwait {w wr : World} {g h : Nat} {s t : PaceS} (j : JJ w g h s t wr) (hs : Ok s) :
    Calls Try.prog 15 #[.pointer (some ⟨g, 0, none⟩)] wr fun e w' => e = .returned (.tuple #[.int .i64 (waitP s.fails s.most), .int .i64 s.ticks]) ∧ JJ w g h s t w' :=
  (Pace.wait g s wr j.p hs).mono fun e w' ⟨he, hd⟩ => ⟨he, j.drawn hd⟩
/-- A callee that only reads, met in a world with more draws. -/
abbrev Quiets (P : Program) (f : FuncId) (args : Array Value) (wr : World) (v : Value) : Prop := ∀ n, Calls P f args (wr.drewN n) fun e w'' => e = .returned v ∧ ∃ m, w'' = wr.drewN m
theorem JJ.qview {w wr : World} {g h : Nat} {s t : PaceS} (j : JJ w g h s t wr) : Quiets Try.prog 16 #[.pointer (some ⟨g, 0, none⟩)] wr (.int .i64 s.view) :=
  fun n => Calls.quiet_of_same (Pace.view g s (wr.drewN n) (j.drewN n).p)
theorem JJ.qwait {w wr : World} {g h : Nat} {s t : PaceS} (j : JJ w g h s t wr) (ht : Ok t) : Quiets Try.prog 17 #[.pointer (some ⟨h, 0, none⟩)] wr (.int .i64 (waitP t.fails t.most)) :=
  fun n => Calls.quiet_of ((Pace.rwait h t (wr.drewN n) (j.drewN n).r ht).mono fun e w' hq => ⟨hq.1, hq.2.out⟩)
theorem JJ.qleader {w wr : World} {g h : Nat} {s t : PaceS} (j : JJ w g h s t wr) (hs : Ok s) (v : Int) : Quiets Try.prog 18 #[.pointer (some ⟨g, 0, none⟩), .int .i64 v] wr (.int .i64 (leaderP s.n v)) :=
  fun n => Calls.quiet_of_same (Pace.leader g s v (wr.drewN n) (j.drewN n).p hs.n0 hs.n1)
theorem JJ.qrleader {w wr : World} {g h : Nat} {s t : PaceS} (j : JJ w g h s t wr) (ht : Ok t) (v : Int) : Quiets Try.prog 19 #[.pointer (some ⟨h, 0, none⟩), .int .i64 v] wr (.int .i64 (leaderP t.n v)) :=
  fun n => Calls.quiet_of_same (Pace.rleader h t v (wr.drewN n) (j.drewN n).r ht.n0 ht.n1)
end Go.Proofs.Ytjmloaegjmdeiaa.PacePair
