/- waves.Check and tusklaw21.works in the print's own form. -/
import Derived.Test.YtkfhajdkpbpkdaaWorks21
namespace Go.Proofs.Ytkfhajdkpbpkdaa.Contracts21b
open Go.RowKit Go.Proofs.YtkfhajdkpbpkdaaW.PrintWords Go.Proofs.YtkfhajdkpbpkdaaW.PrintMore Go.Proofs.Ytkfhajdkpbpkdaa.QKinds Go.Proofs.Ytkfhajdkpbpkdaa.QBase21 Go.Proofs.Ytkfhajdkpbpkdaa.Edges21 Go.Proofs.Ytkfhajdkpbpkdaa.Contracts21 Go.Proofs.Ytkfhajdkpbpkdaa.Plain21 Go.Proofs.Ytkfhajdkpbpkdaa.Plan21 Go.Proofs.Ytkfhajdkpbpkdaa.Pure21 Go.Proofs.Ytkfhajdkpbpkdaa.CheckP Go.Proofs.Ytkfhajdkpbpkdaa.Check21 Go.Proofs.Ytkfhajdkpbpkdaa.CheckR21
set_option linter.unusedVariables false
set_option linter.unusedSimpArgs false
/-- What waves.Check's contract asks. -/
def fitC (l : List S38) (P : List (List Int)) : Bool :=
  l.all (fun x => decide (x.f7.length ≤ 1048576) && decide (x.f8.length ≤ 1048576)) && (decide (l.length ≤ 500) && (P.all (fun r => decide (r.length ≤ 1048576) && r.all (fun x => (Lit.int .i64 x).wf)) && (decide ((pl P P.length).length ≤ 1048576) && decide (P.length ≤ 1048576))))
structure FitP (l : List S38) (P : List (List Int)) : Prop where
  small : ∀ x, x ∈ l → Small x
  len : l.length ≤ 500
  rows : ∀ r, r ∈ P → r.length ≤ 1048576
  wf : ∀ r, r ∈ P → ∀ x, x ∈ r → (Lit.int .i64 x).wf = true
  pl : (pl P P.length).length ≤ 1048576
  plen : P.length ≤ 1048576
theorem fitC_iff {l : List S38} {P : List (List Int)} : fitC l P = true ↔ FitP l P := by
  unfold fitC
  simp only [Bool.and_eq_true, decide_eq_true_eq, List.all_eq_true]
  constructor
  · rintro ⟨h1, h2, h3, h4, h5⟩
    exact ⟨fun x hx => ⟨(h1 x hx).1, (h1 x hx).2⟩, h2, fun r hr => (h3 r hr).1, fun r hr => (h3 r hr).2, h4, h5⟩
  · rintro ⟨h1, h2, h3, h4, h5, h6⟩
    exact ⟨fun x hx => ⟨(h1 x hx).h7, (h1 x hx).h8⟩, h2, fun r hr => ⟨h3 r hr, h4 r hr⟩, h5, h6⟩
def waves_Check.f (k : Nat) (l : List S38) (P : List (List Int)) : Option Int := if fitC l P = true then tuskref21_Check.f k l P else none
theorem waves_Check.mono : ∀ a0 a1 k, LeO (waves_Check.f k a0 a1) (waves_Check.f (k + 1) a0 a1) := by
  intro a0 a1 k r h
  unfold waves_Check.f at h ⊢
  split at h
  · rename_i hc; rw [if_pos hc]; exact tuskref21_Check.mono a0 a1 k r h
  · cases h
theorem up {l : List S38} {P : List (List Int)} {r : Int} {k : Nat} (h : tuskref21_Check.f k l P = some r) : ∀ m, k ≤ m → tuskref21_Check.f m l P = some r
  | 0, hm => by obtain rfl : k = 0 := by omega
                exact h
  | m + 1, hm => by
    by_cases e : k = m + 1
    · subst e; exact h
    · exact tuskref21_Check.mono l P m r (up h m (by omega))
theorem rows_all {P : List (List Int)} (h : ∀ r, r ∈ P → r.length ≤ 1048576) (w : Nat) : (P.getD w []).length ≤ 1048576 := by
  rw [List.getD_eq_getElem?_getD]
  cases he : P[w]? with
  | none => simp
  | some r => exact h r (List.mem_of_getElem? he)
theorem waves_Check.calls (k : Nat) (A0 : Option Addr) (c0 : Nat) (l0 : List (S38)) (A1 : Option Addr) (c1 : Nat) (l1 : List (List Int)) (r : Int) (w : World) (hr0 : Kd.C k38 w A0 l0.length l0) (hc0 : l0.length ≤ c0) (hr1 : Kd.C (Kd.slice 3 (Kd.int .i64)) w A1 l1.length l1) (hc1 : l1.length ≤ c1) (h : waves_Check.f k l0 l1 = some r) :
    Calls Try.prog 15 #[.slice A0 l0.length c0, .slice A1 l1.length c1] w fun e w' => e = .returned (.int .i64 r) ∧ Below w.heap.size w w' := by
  unfold waves_Check.f at h
  split at h
  case isFalse => cases h
  case isTrue hc =>
    obtain ⟨hs, hl, hrow, hwf, hpl, hP⟩ := fitC_iff.1 hc
    refine (check_calls l0 l1 A0 c0 A1 c1 w hr0 hc0 hr1 hc1 ⟨by omega, fun x hx => ⟨Nat.le_trans (hs x hx).h7 (by decide), Nat.le_trans (hs x hx).h8 (by decide)⟩⟩ hwf hpl (by omega) hP).mono ?_
    rintro e w' ⟨r', hres, rfl, hb⟩
    obtain ⟨K, hK⟩ := check_r hs hl l1 hP (rows_all hrow) r' hres
    have h1 := hK (max K k) (by omega)
    have h2 := up h (max K k) (by omega)
    obtain rfl : r' = r := by rw [h1] at h2; injection h2
    exact ⟨rfl, hb⟩
def tusklaw21_works.f : Option Bool := some true
theorem tusklaw21_works.calls (r : Bool) (w : World) (h : tusklaw21_works.f = some r) : Calls Try.prog 17 #[] w fun e w' => e = .returned (.bool r) ∧ Below w.heap.size w w' := by
  obtain rfl : true = r := by injection h
  exact Works21.works w
end Go.Proofs.Ytkfhajdkpbpkdaa.Contracts21b
