/- access.Edges and access.Groups: their contracts in the print's own form. -/
import Derived.Test.YtmkgbkocanfckaaGroups
namespace Go.Proofs.Ytmkgbkocanfckaa.Contracts20
open Go.RowKit Go.Proofs.YtmkgbkocanfckaaW.PrintWords Go.Proofs.YtmkgbkocanfckaaW.PrintMore Go.Proofs.Ytmkgbkocanfckaa.QKinds Go.Proofs.Ytmkgbkocanfckaa.Meet Go.Proofs.Ytmkgbkocanfckaa.Edges Go.Proofs.Ytmkgbkocanfckaa.GroupsP Go.Proofs.Ytmkgbkocanfckaa.Groups
set_option linter.unusedVariables false
def asS (e : Int × Int) : S37 := ⟨e.1, e.2⟩
theorem R_asS {w : World} {base : Nat} {ok : Nat → Prop} {v : Value} {xs : List (Int × Int)} (h : kP.R 37 w base ok v xs) : k37.R 37 w base ok v (xs.map asS) := by
  obtain ⟨h0, inner, ho, hr1, hr2⟩ := h
  refine ⟨h0, inner, by rw [List.length_map]; exact ho, by rw [List.length_map]; exact hr1, fun j p hj => ?_⟩
  rw [List.getElem?_map] at hj
  obtain ⟨q, hq, rfl⟩ := Option.map_eq_some_iff.1 hj
  exact hr2 j q hq
def FitsAll (l0 : List S26) : Prop := l0.length ≤ 65536 ∧ ∀ x ∈ l0, x.f7.length ≤ 4611686018427387903 ∧ x.f8.length ≤ 4611686018427387903
instance (l0 : List S26) : Decidable (FitsAll l0) := inferInstanceAs (Decidable (_ ∧ _))
theorem fits_tx {l0 : List S26} (h : FitsAll l0) : ∀ i : Nat, i < l0.length → Fits (tx l0 i) := by
  intro i hi
  have hm : l0[i] ∈ l0 := List.getElem_mem hi
  have he : tx l0 i = l0[i] := by simp [tx, rd_T26, List.getD_eq_getElem?_getD, List.getElem?_eq_getElem hi]
  rw [he]
  exact h.2 _ hm
def access_Edges.f (l0 : List S26) : Option (List S37) := if FitsAll l0 then some ((rows l0 l0.length).map asS) else none
theorem access_Edges.calls (A0 : Option Addr) (c0 : Nat) (l0 : List S26) (r : List S37) (w : World) (hr0 : Kd.C k26 w A0 l0.length l0) (hc0 : l0.length ≤ c0) (h : access_Edges.f l0 = some r) :
    Calls Try.prog 8 #[.slice A0 l0.length c0] w fun e w' => ∃ v0_ : Value, e = .returned (v0_) ∧ Kd.R k37 37 w' w.heap.size (fun _ => True) v0_ r ∧ Below w.heap.size w w' := by
  unfold access_Edges.f at h
  by_cases hc : FitsAll l0
  · rw [if_pos hc] at h
    obtain rfl := Option.some.inj h
    exact (edges A0 c0 l0 w hr0 hc0 hc.1 (fits_tx hc)).mono fun e w' ⟨v, h1, h2, h3⟩ => ⟨v, h1, R_asS h2, h3⟩
  · rw [if_neg hc] at h; cases h
def access_Groups.f (l0 : List S26) : Option (List Int) := if FitsAll l0 then some ((groups l0.length (edgesN l0)).map fun x : Nat => (x : Int)) else none
theorem access_Groups.calls (A0 : Option Addr) (c0 : Nat) (l0 : List S26) (r : List Int) (w : World) (hr0 : Kd.C k26 w A0 l0.length l0) (hc0 : l0.length ≤ c0) (h : access_Groups.f l0 = some r) :
    Calls Try.prog 11 #[.slice A0 l0.length c0] w fun e w' => ∃ v0_ : Value, e = .returned (v0_) ∧ Kd.R (Kd.int .i64) 3 w' w.heap.size (fun _ => True) v0_ r ∧ Below w.heap.size w w' := by
  unfold access_Groups.f at h
  by_cases hc : FitsAll l0
  · rw [if_pos hc] at h
    obtain rfl := Option.some.inj h
    exact groupsC A0 c0 l0 w hr0 hc0 hc.1 (fits_tx hc)
  · rw [if_neg hc] at h; cases h
end Go.Proofs.Ytmkgbkocanfckaa.Contracts20
