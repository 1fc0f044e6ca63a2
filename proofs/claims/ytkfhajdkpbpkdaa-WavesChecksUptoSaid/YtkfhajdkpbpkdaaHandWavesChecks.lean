/- The law WavesChecks walked. -/
import Derived.Test.YtkfhajdkpbpkdaaLaw21
import Derived.Test.YtkfhajdkpbpkdaaCheckR21
namespace Go.Proofs.Ytkfhajdkpbpkdaa.HandWavesChecks
open Go.RowKit Go.Proofs.YtkfhajdkpbpkdaaW.PrintWords Go.Proofs.YtkfhajdkpbpkdaaW.PrintMore Go.Proofs.Ytkfhajdkpbpkdaa.QKinds Go.Proofs.Ytkfhajdkpbpkdaa.QBase21 Go.Proofs.Ytkfhajdkpbpkdaa.Edges21 Go.Proofs.Ytkfhajdkpbpkdaa.Contracts21 Go.Proofs.Ytkfhajdkpbpkdaa.Plain21 Go.Proofs.Ytkfhajdkpbpkdaa.Plan21 Go.Proofs.Ytkfhajdkpbpkdaa.Pure21 Go.Proofs.Ytkfhajdkpbpkdaa.Law21 Go.Proofs.Ytkfhajdkpbpkdaa.Open Go.Proofs.Ytkfhajdkpbpkdaa.QOpen Go.Proofs.Ytkfhajdkpbpkdaa.CheckP Go.Proofs.Ytkfhajdkpbpkdaa.Check21 Go.Proofs.Ytkfhajdkpbpkdaa.CheckR21
set_option linter.unusedVariables false
set_option linter.unusedSimpArgs false
theorem fits_small {l : List S38} (hs : ∀ x, x ∈ l → Small x) (hl : l.length ≤ 500) : FitsAll l :=
  ⟨by omega, fun x hx => ⟨Nat.le_trans (hs x hx).h7 (by decide), Nat.le_trans (hs x hx).h8 (by decide)⟩⟩
theorem mList_one (l : List Int) : mList mOne l = l.length + 1 := by
  unfold mList
  congr 1
  induction l with
  | nil => rfl
  | cons a l ih => rw [List.map_cons, List.sum_cons, ih, List.length_cons]; simp [mOne]; omega
/-- What a plan of bounded bulk is. -/
theorem plan_bulk : ∀ (P : List (List Int)) (B : Nat), (P.map (mList mOne)).sum ≤ B → P.length ≤ B ∧ (∀ w, (P.getD w []).length ≤ B)
  | [], B, _ => ⟨Nat.zero_le _, fun w => by simp⟩
  | r :: P, B, h => by
    rw [List.map_cons, List.sum_cons, mList_one] at h
    obtain ⟨h1, h2⟩ := plan_bulk P (B - (r.length + 1)) (by omega)
    refine ⟨by rw [List.length_cons]; omega, fun w => ?_⟩
    cases w with
    | zero => simp; omega
    | succ w => have := h2 w; simp at this ⊢; omega
theorem take_sum (P : List (List Int)) : ∀ w, w ≤ P.length → (pl P w).length + ((P.drop w).map (mList mOne)).sum ≤ (P.map (mList mOne)).sum
  | 0, _ => by simp [pl]
  | w + 1, hw => by
    have ih := take_sum P w (by omega)
    have e : P.drop w = P[w] :: P.drop (w + 1) := List.drop_eq_getElem_cons (by omega)
    rw [e, List.map_cons, List.sum_cons, mList_one] at ih
    simp only [pl, List.length_append, List.length_map]
    rw [List.getD_eq_getElem?_getD, List.getElem?_eq_getElem (by omega)]
    simp only [Option.getD_some]
    omega
theorem pl_bulk (P : List (List Int)) : (pl P P.length).length ≤ (P.map (mList mOne)).sum := by
  have := take_sum P P.length (Nat.le_refl _); omega
set_option maxHeartbeats 2000000 in
theorem walk (l0 : List (S38)) (l1 : List (List Int)) (w : World) (hg0_ : (gList g38) l0) (hg1_ : (gList (gList (gInt .i64))) l1) (A0 : Option Addr) (c0 : Nat) (hr0 : Kd.C k38 w A0 l0.length l0) (hc0 : l0.length ≤ c0) (A1 : Option Addr) (c1 : Nat) (hr1 : Kd.C (Kd.slice 3 (Kd.int .i64)) w A1 l1.length l1) (hc1 : l1.length ≤ c1) (hb : (mList m38) l0 + (mList (mList mOne)) l1 ≤ 1048576) :
    Calls Try.prog 4 #[.slice A0 l0.length c0, .slice A1 l1.length c1] w fun e w' => e = .returned (.bool true) ∧ Below w.heap.size w w' := by
  obtain ⟨hs, hlen, k, b, hg1, hg2⟩ := start21 (l := l0) (by omega)
  have hsum : (l1.map (mList mOne)).sum ≤ 1048576 := by unfold mList at hb; unfold mList; omega
  obtain ⟨hP, hrl⟩ := plan_bulk l1 1048576 hsum
  have hpl := Nat.le_trans (pl_bulk l1) hsum
  have HS := Aside0.mk hs
  have HG := Aside0.mk hg1
  have HL := Aside0.mk hg2
  have HR := Aside0.mk hr0
  have HR1 := Aside0.mk hr1
  have HW := Aside0.mk hg1_
  have HPL := Aside0.mk hpl
  have HRL := Aside0.mk hrl
  clear hs hg1 hg2 hr0 hb hg0_ hg1_ hr1 hsum hpl hrl
  go_enter Try.func4, Try.ntmps4
  go_wp2_with fail
  refine (greatC HG.out HR.out hc0).mono ?_
  rintro e w1 ⟨rfl, hb1⟩
  have HB1 := Aside0.mk hb1
  clear hb1 HG
  cases b
  · have hl5 := HL.out (by simp)
    clear HL
    by_cases h100 : l1.length > 100
    · have h100' : (100 : Int) < (l1.length : Int) := by omega
      go_wp2_with fail
      go_ret
      exact ⟨rfl, HB1.out⟩
    · have h100' : ¬ (100 : Int) < (l1.length : Int) := by omega
      go_wp2_with fail
      refine (ownList HS.out hlen (Kd.C_below HR.out HB1.out) hc0).mono ?_
      rintro e w2 ⟨A2, c2, rfl, hc2, hr2, hb2⟩
      have HB2 := Aside0.mk (below_step HB1.out hb2)
      have HR2 := Aside0.mk hr2
      clear hb2 hr2 HB1
      go_wp2_with fail
      refine (check_calls l0 l1 A2 c2 A1 c1 _ HR2.out hc2 (Kd.C_below HR1.out HB2.out) hc1 (fits_small HS.out hl5) (fun row h x hx => HW.out row h x hx) HPL.out (by omega) hP).mono ?_
      rintro e w3 ⟨r, hres, rfl, hb3⟩
      have HB3 := Aside0.mk (below_step HB2.out hb3)
      obtain ⟨K, hK⟩ := check_r HS.out hl5 l1 hP HRL.out r hres
      have HK := Aside0.mk (hK K (Nat.le_refl _))
      clear hb3 HB2 HR2 hres hK
      go_wp2_with fail
      refine (tuskref21_Check.calls K A0 c0 l0 A1 c1 l1 r _ (Kd.C_below HR.out HB3.out) hc0 (Kd.C_below HR1.out HB3.out) hc1 HK.out).mono ?_
      rintro e w4 ⟨rfl, hb4⟩
      have HB4 := Aside0.mk (below_step HB3.out hb4)
      clear hb4
      go_wp2_with fail
      go_ret
      exact ⟨by simp, HB4.out⟩
  · go_wp2_with fail
    go_ret
    exact ⟨rfl, HB1.out⟩
end Go.Proofs.Ytkfhajdkpbpkdaa.HandWavesChecks
