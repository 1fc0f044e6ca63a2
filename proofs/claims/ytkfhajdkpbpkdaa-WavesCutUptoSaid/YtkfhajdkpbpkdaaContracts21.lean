/- Edges in plain words; access.Edges's contract in the print's own form. -/
import Derived.Test.YtkfhajdkpbpkdaaEdges21
namespace Go.Proofs.Ytkfhajdkpbpkdaa.Contracts21
open Go.RowKit Go.Proofs.YtkfhajdkpbpkdaaW.PrintWords Go.Proofs.YtkfhajdkpbpkdaaW.PrintMore Go.Proofs.Ytkfhajdkpbpkdaa.QKinds Go.Proofs.Ytkfhajdkpbpkdaa.Meet Go.Proofs.Ytkfhajdkpbpkdaa.Edges21
set_option linter.unusedVariables false
set_option linter.unusedSimpArgs false
/-- The pairs, as plain numbers. -/
def edgesN (l : List S38) : List (Nat × Nat) := (rows l l.length).map fun e => (e.1.toNat, e.2.toNat)
theorem row_mem {l : List S38} {i : Nat} {e : Int × Int} : ∀ {n : Nat}, e ∈ row l i n → ∃ k : Nat, e = ((i : Int), (k : Int)) ∧ i < k ∧ k < n ∧ clashP (tx l i) (tx l k) = true
  | 0, h => by simp [row] at h
  | n + 1, h => by
    rw [row] at h
    rcases List.mem_append.1 h with h | h
    · obtain ⟨k, h1, h2, h3, h4⟩ := row_mem h; exact ⟨k, h1, h2, by omega, h4⟩
    · split at h
      · rename_i hc
        exact ⟨n, by simpa using h, hc.1, by omega, hc.2⟩
      · simp at h
theorem rows_mem {l : List S38} {e : Int × Int} : ∀ {n : Nat}, e ∈ rows l n → ∃ i k : Nat, e = ((i : Int), (k : Int)) ∧ i < n ∧ i < k ∧ k < l.length ∧ clashP (tx l i) (tx l k) = true
  | 0, h => by simp [rows] at h
  | n + 1, h => by
    rw [rows] at h
    rcases List.mem_append.1 h with h | h
    · obtain ⟨i, k, h1, h2, h3⟩ := rows_mem h; exact ⟨i, k, h1, by omega, h3⟩
    · obtain ⟨k, h1, h2, h3, h4⟩ := row_mem h; exact ⟨n, k, h1, by omega, h2, h3, h4⟩
theorem row_has {l : List S38} {i k : Nat} (hik : i < k) (hc : clashP (tx l i) (tx l k) = true) : ∀ {n : Nat}, k < n → ((i : Int), (k : Int)) ∈ row l i n
  | 0, h => by omega
  | n + 1, h => by
    rw [row]
    by_cases hk : k = n
    · subst hk; rw [if_pos ⟨hik, hc⟩]; exact List.mem_append_right _ (by simp)
    · exact List.mem_append_left _ (row_has hik hc (by omega))
theorem rows_has {l : List S38} {i k : Nat} (hik : i < k) (hk : k < l.length) (hc : clashP (tx l i) (tx l k) = true) : ∀ {n : Nat}, i < n → ((i : Int), (k : Int)) ∈ rows l n
  | 0, h => by omega
  | n + 1, h => by
    rw [rows]
    by_cases hi : i = n
    · subst hi; exact List.mem_append_right _ (row_has hik hc hk)
    · exact List.mem_append_left _ (rows_has hik hk hc (by omega))
theorem edgesN_mem {l : List S38} {e : Nat × Nat} : e ∈ edgesN l ↔ e.1 < e.2 ∧ e.2 < l.length ∧ clashP (tx l e.1) (tx l e.2) = true := by
  unfold edgesN
  rw [List.mem_map]
  constructor
  · rintro ⟨a, ha, rfl⟩
    obtain ⟨i, k, rfl, h1, h2, h3, h4⟩ := rows_mem ha
    exact ⟨by simpa using h2, by simpa using h3, by simpa using h4⟩
  · rintro ⟨h1, h2, h3⟩
    exact ⟨((e.1 : Int), (e.2 : Int)), rows_has h1 h2 h3 (by omega), by simp⟩
theorem edgesN_get (l : List S38) (i : Nat) (hi : i < (rows l l.length).length) : (edgesN l)[i]? = some ((edgesN l).getD i (0, 0)) ∧ (rows l l.length).getD i ((0 : Int), (0 : Int)) = ((((edgesN l).getD i (0, 0)).1 : Int), (((edgesN l).getD i (0, 0)).2 : Int)) := by
  have hl : (edgesN l).length = (rows l l.length).length := by simp [edgesN]
  have h1 : (edgesN l)[i]? = some ((edgesN l).getD i (0, 0)) := by rw [List.getD_eq_getElem?_getD, List.getElem?_eq_getElem (by omega)]; rfl
  refine ⟨h1, ?_⟩
  have hm := List.getElem_mem hi
  obtain ⟨a, b, he, _⟩ := rows_mem hm
  rw [List.getD_eq_getElem?_getD, List.getElem?_eq_getElem hi, Option.getD_some]
  have : (edgesN l).getD i (0, 0) = (((rows l l.length)[i]).1.toNat, ((rows l l.length)[i]).2.toNat) := by
    rw [List.getD_eq_getElem?_getD]
    unfold edgesN
    rw [List.getElem?_map, List.getElem?_eq_getElem hi]; rfl
  rw [this, he]
  simp
def asS (e : Int × Int) : S46 := ⟨e.1, e.2⟩
theorem R_asS {w : World} {base : Nat} {ok : Nat → Prop} {v : Value} {xs : List (Int × Int)} (h : kP.R 46 w base ok v xs) : k46.R 46 w base ok v (xs.map asS) := by
  obtain ⟨h0, inner, ho, hr1, hr2⟩ := h
  refine ⟨h0, inner, by rw [List.length_map]; exact ho, by rw [List.length_map]; exact hr1, fun j p hj => ?_⟩
  rw [List.getElem?_map] at hj
  obtain ⟨q, hq, rfl⟩ := Option.map_eq_some_iff.1 hj
  exact hr2 j q hq
def FitsAll (l0 : List S38) : Prop := l0.length ≤ 65536 ∧ ∀ x ∈ l0, x.f7.length ≤ 4611686018427387903 ∧ x.f8.length ≤ 4611686018427387903
instance (l0 : List S38) : Decidable (FitsAll l0) := inferInstanceAs (Decidable (_ ∧ _))
theorem fits_tx {l0 : List S38} (h : FitsAll l0) : ∀ i : Nat, i < l0.length → Fits (tx l0 i) := by
  intro i hi
  have hm : l0[i] ∈ l0 := List.getElem_mem hi
  have he : tx l0 i = l0[i] := by simp [tx, rd_T38, List.getD_eq_getElem?_getD, List.getElem?_eq_getElem hi]
  rw [he]
  exact h.2 _ hm
def access_Edges.f (l0 : List S38) : Option (List S46) := if FitsAll l0 then some ((rows l0 l0.length).map asS) else none
theorem access_Edges.calls (A0 : Option Addr) (c0 : Nat) (l0 : List S38) (r : List S46) (w : World) (hr0 : Kd.C k38 w A0 l0.length l0) (hc0 : l0.length ≤ c0) (h : access_Edges.f l0 = some r) :
    Calls Try.prog 21 #[.slice A0 l0.length c0] w fun e w' => ∃ v0_ : Value, e = .returned (v0_) ∧ Kd.R k46 46 w' w.heap.size (fun _ => True) v0_ r ∧ Below w.heap.size w w' := by
  unfold access_Edges.f at h
  by_cases hc : FitsAll l0
  · rw [if_pos hc] at h
    obtain rfl := Option.some.inj h
    exact (edges A0 c0 l0 w hr0 hc0 hc.1 (fits_tx hc)).mono fun e w' ⟨v, h1, h2, h3⟩ => ⟨v, h1, R_asS h2, h3⟩
  · rw [if_neg hc] at h; cases h
end Go.Proofs.Ytkfhajdkpbpkdaa.Contracts21
