/- Edges of a beginning, in plain words; what is in each other's way stays so. -/
import Derived.Test.YtmkgbkocanfckaaPlain20
namespace Go.Proofs.Ytmkgbkocanfckaa.More20
open Go.RowKit Go.Proofs.YtmkgbkocanfckaaW.PrintWords Go.Proofs.YtmkgbkocanfckaaW.PrintMore Go.Proofs.Ytmkgbkocanfckaa.QKinds Go.Proofs.Ytmkgbkocanfckaa.QBase20 Go.Proofs.Ytmkgbkocanfckaa.Meet Go.Proofs.Ytmkgbkocanfckaa.Edges Go.Proofs.Ytmkgbkocanfckaa.GroupsP Go.Proofs.Ytmkgbkocanfckaa.Groups Go.Proofs.Ytmkgbkocanfckaa.Contracts20 Go.Proofs.Ytmkgbkocanfckaa.Plain20
set_option linter.unusedVariables false
set_option linter.unusedSimpArgs false
theorem tx_take (l : List S26) (n i : Nat) (h : i < n) : tx (l.take n) i = tx l i := by
  unfold tx rd_T26
  rw [Int.toNat_natCast, List.getD_eq_getElem?_getD, List.getD_eq_getElem?_getD, List.getElem?_take, if_pos h]
def fore (n : Nat) (e : Int × Int) : Bool := decide (e.2 < (n : Int))
theorem row_take (l : List S26) (n i : Nat) (hi : i < n) : ∀ m, m ≤ n → row (l.take n) i m = row l i m
  | 0, _ => rfl
  | m + 1, h => by rw [row, row, row_take l n i hi m (by omega), tx_take l n i hi, tx_take l n m (by omega)]
theorem row_filter (l : List S26) (n i : Nat) : ∀ m, (row l i m).filter (fore n) = row l i (min m n)
  | 0 => by simp [row]
  | m + 1 => by
    rw [row, List.filter_append, row_filter l n i m]
    by_cases h : m < n
    · rw [show min m n = m by omega, show min (m + 1) n = m + 1 by omega, row]
      congr 1
      split
      · rw [List.filter_cons, if_pos (by simp [fore]; omega)]; rfl
      · rfl
    · rw [show min m n = n by omega, show min (m + 1) n = n by omega]
      split
      · rw [List.filter_cons, if_neg (by simp [fore]; omega)]; simp
      · simp
theorem row_none (l : List S26) (n i : Nat) (h : n ≤ i + 1) (m : Nat) : (row l i m).filter (fore n) = [] := by
  rw [row_filter, row_nil]; omega
theorem rows_filter (l : List S26) (n : Nat) (hn : n ≤ l.length) : ∀ m, (rows l m).filter (fore n) = rows (l.take n) (min m n)
  | 0 => by simp [rows]
  | m + 1 => by
    rw [rows, List.filter_append, rows_filter l n hn m]
    by_cases h : m < n
    · rw [row_filter, show min l.length n = n by omega, show min m n = m by omega, show min (m + 1) n = m + 1 by omega, rows, List.length_take, show min n l.length = n by omega, row_take l n m h n (Nat.le_refl _)]
    · rw [row_none l n m (by omega), List.append_nil, show min m n = n by omega, show min (m + 1) n = n by omega]
/-- The edges of a beginning are those of the whole. -/
theorem rows_front (l : List S26) (n : Nat) (hn : n ≤ l.length) : rows (l.take n) (l.take n).length = (rows l l.length).filter (fore n) := by
  rw [rows_filter l n hn, List.length_take]
  congr 1; omega
/-- How many of the first i are fore. -/
def cnt (n : Nat) (E : List (Int × Int)) (i : Nat) : Nat := ((E.take i).filter (fore n)).length
theorem cnt_zero (n : Nat) (E : List (Int × Int)) : cnt n E 0 = 0 := by simp [cnt]
theorem cnt_all (n : Nat) (E : List (Int × Int)) : cnt n E E.length = (E.filter (fore n)).length := by simp [cnt]
theorem cnt_yes {n : Nat} {E : List (Int × Int)} {i : Nat} (hi : i < E.length) (h : fore n E[i] = true) : cnt n E (i + 1) = cnt n E i + 1 ∧ (E.filter (fore n))[cnt n E i]? = some E[i] := by
  refine ⟨by unfold cnt; rw [List.take_succ_eq_append_getElem hi, List.filter_append, List.filter_cons, if_pos h, List.length_append]; rfl, ?_⟩
  have e : E.filter (fore n) = (E.take i).filter (fore n) ++ E[i] :: (E.drop (i + 1)).filter (fore n) := by
    conv => lhs; rw [← List.take_append_drop i E, List.filter_append, List.drop_eq_getElem_cons hi, List.filter_cons, if_pos h]
  rw [e]
  unfold cnt
  rw [List.getElem?_append_right (Nat.le_refl _), Nat.sub_self]; rfl
theorem cnt_no {n : Nat} {E : List (Int × Int)} {i : Nat} (hi : i < E.length) (h : fore n E[i] = false) : cnt n E (i + 1) = cnt n E i := by
  unfold cnt
  rw [List.take_succ_eq_append_getElem hi, List.filter_append, List.filter_cons, if_neg (by rw [h]; decide), List.length_append]; rfl
theorem cnt_le (n : Nat) (E : List (Int × Int)) (i : Nat) : cnt n E i ≤ E.length := by
  have h1 := List.length_filter_le (fore n) (E.take i)
  have h2 := List.length_take_le' i E
  unfold cnt; omega
theorem clash_more (x y : S26) (key : ByteArray) (h : clashP x y = true) : clashP { x with f8 := x.f8 ++ [key] } y = true := by
  unfold clashP at h ⊢
  simp only [List.any_append, Bool.or_eq_true] at h ⊢
  rcases h with (h | h) | h
  · exact .inl (.inl (.inl h))
  · exact .inl (.inr (.inl h))
  · exact .inr h
end Go.Proofs.Ytmkgbkocanfckaa.More20
