/- What the row's condition gives: the two tables of mix lie as the program's text lays them. -/
import Derived.Test.YtflnlkaednpenaaDoorRows
import Derived.Test.YtflnlkaednpenaaDoorMixV
import Derived.ProofKit
import Derived.LaidMore
import Derived.OpenShut
import Derived.Stop.Joined
namespace Go.Proofs.YtflnlkaednpenaaDoor.MixT
open Go Go.ChangeShapes Go.WideShapes Go.ChangeAt Go.RowKit Go.Proofs.YtflnlkaednpenaaDoor.MixW Go.Proofs.YtflnlkaednpenaaDoor.MixV
set_option linter.unusedVariables false
theorem own : ownKnob Tryd.prog.godebug = none := by kernel_rfl
theorem gF : Tryd.prog.globalNamed "tusk/mix.firsts" = some 0 := by kernel_rfl
theorem gR : Tryd.prog.globalNamed "tusk/mix.rows" = some 1 := by kernel_rfl
theorem tF : (Tryd.prog.globals[0]?).map (·.type) = some 31 := by kernel_rfl
theorem tR : (Tryd.prog.globals[1]?).map (·.type) = some 51 := by kernel_rfl
abbrev laid2 : List (String × DataW Unit) := [("tusk/mix.firsts", Rows.laid_tusk_mix_firsts), ("tusk/mix.rows", Rows.laid_tusk_mix_rows)]
def lits (k : IntKind) (vs : List Int) : List (DataW Unit) := vs.map fun v => .lit (.int k v)
theorem arr_ints {w : World} {t e : TypeId} {n fuel : Nat} {k : IntKind} {cs : List Value} {vs : List Int} {p : List MemPlace} (hu : Tryd.prog.underlying t = some (.array n e)) (he : Tryd.prog.underlying e = some (.int k)) (hc : Tryd.prog.cellsOf e = 1) (hct : Tryd.prog.cellsOf t = n)
    (h : DataW.trod (fun _ => ()) Tryd.prog w 0 (fun _ => true) false fuel t cs = some (.agg (lits k vs), p)) : cs = vs.map (Value.int k) := by
  obtain ⟨xs, m, rfl, hx, hlen, hn, hel⟩ := DataW.trod_array hu h
  simp only [Prod.mk.injEq, DataW.agg.injEq] at hx
  have hv := hx.1
  rw [hct] at hlen
  have hvl : vs.length = n := by
    have := congrArg List.length hv
    simp [lits] at this
    omega
  apply List.ext_getElem?
  intro i
  by_cases hi : i < n
  · have hi1 : i < cs.length := by omega
    have hi2 : i < xs.length := by omega
    have hi3 : i < vs.length := by omega
    have h1 := hel i hi
    rw [hc, Nat.mul_one, List.getElem?_eq_getElem hi2] at h1
    obtain ⟨q, e1, e2, _⟩ := DataW.trod_int he h1
    have h2 : cs[i]? = some (.int k q) := by
      have := congrArg (fun l => l[0]?) e1
      simpa [List.getElem?_take, List.getElem?_drop] using this
    have h3 := congrArg (fun l => l[i]?) hv
    simp only [lits, List.getElem?_map, List.getElem?_eq_getElem hi2, List.getElem?_eq_getElem hi3, Option.map_some, Option.some.injEq] at h3
    rw [e2] at h3
    simp only [DataW.lit.injEq, Lit.int.injEq, true_and] at h3
    rw [h2, List.getElem?_map, List.getElem?_eq_getElem hi3, Option.map_some, h3]
  · rw [List.getElem?_eq_none (by omega), List.getElem?_eq_none (by rw [List.length_map]; omega)]
def rowI (i : Nat) : List Int := (rowsL.drop (16 * i)).take 16
theorem var_heap {w : World} {n : String} {g : Nat} {cs : Array Value} (hg : Tryd.prog.globalNamed n = some g) (h : w.var? Tryd.prog n = some cs) : ∃ t fr, w.heap[g]? = some (.cells cs t fr) := by
  simp only [World.var?, hg, Option.bind_some] at h
  split at h
  · rename_i c t fr hc
    injection h with h
    subst h
    exact ⟨t, fr, hc⟩
  · cases h
theorem laidR : Rows.laid_tusk_mix_rows = (.agg ((List.range 10).map fun i => .agg (lits .i64 (rowI i))) : DataW Unit) := by rfl
theorem laidF : Rows.laid_tusk_mix_firsts = (.agg (lits .u32 firstsL) : DataW Unit) := by rfl
/-- Ten rows of sixteen. -/
theorem rows_all {w : World} {fuel : Nat} {cs : List Value} {p : List MemPlace} (h : DataW.trod (fun _ => ()) Tryd.prog w 0 (fun _ => true) false fuel 51 cs = some (Rows.laid_tusk_mix_rows, p)) : cs = rowsL.map (Value.int .i64) := by
  rw [laidR] at h
  obtain ⟨xs, m, rfl, hx, hlen, hn, hel⟩ := DataW.trod_array Tryd.underlying51 h
  simp only [Prod.mk.injEq, DataW.agg.injEq] at hx
  have hv := hx.1
  have hc : Tryd.prog.cellsOf 50 = 16 := by kernel_rfl
  rw [show Tryd.prog.cellsOf 51 = 160 by kernel_rfl] at hlen
  have hrow : ∀ i, i < 10 → (cs.drop (i * 16)).take 16 = (rowI i).map (Value.int .i64) := by
    intro i hi
    have hi2 : i < xs.length := by omega
    have h1 := hel i hi
    rw [hc, List.getElem?_eq_getElem hi2] at h1
    have h3 := congrArg (fun l => l[i]?) hv
    simp only [List.getElem?_map, List.getElem?_eq_getElem hi2, Option.map_some, List.getElem?_range hi, Option.some.injEq] at h3
    refine arr_ints (w := w) (fuel := m) (p := xs[i].2) Tryd.underlying50 Tryd.underlying3 (by kernel_rfl) hc ?_
    rw [h1, h3]
  apply List.ext_getElem?
  intro j
  by_cases hj : j < 160
  · have h1 := congrArg (fun l => l[j % 16]?) (hrow (j / 16) (by omega))
    simp only [rowI, List.getElem?_map, List.getElem?_take, List.getElem?_drop] at h1
    rw [if_pos (Nat.mod_lt _ (by decide)), if_pos (Nat.mod_lt _ (by decide)), show j / 16 * 16 + j % 16 = j by omega, show 16 * (j / 16) + j % 16 = j by omega] at h1
    rw [h1, List.getElem?_map]
  · rw [List.getElem?_eq_none (by omega), List.getElem?_eq_none (by rw [List.length_map, show rowsL.length = 160 from rfl]; omega)]
theorem of_laid {W : World} (h : laidMetH Tryd.prog laid2 W) : Vars W := by
  rw [MakeChecks.laidMetH_plain _ _ _ (by kernel_rfl)] at h
  obtain ⟨ps, ⟨g0, t0, cs0, f0, p0, q0, hg0, ht0, hv0, hd0, ⟨g1, t1, cs1, f1, p1, q1, hg1, ht1, hv1, hd1, _, _⟩, _⟩, _, _⟩ := h
  obtain rfl := Option.some.inj (gF.symm.trans hg0)
  obtain rfl := Option.some.inj (gR.symm.trans hg1)
  obtain rfl := Option.some.inj (tF.symm.trans ht0)
  obtain rfl := Option.some.inj (tR.symm.trans ht1)
  rw [laidF] at hd0
  have e0 := arr_ints Tryd.underlying31 Tryd.underlying29 (by kernel_rfl) (by kernel_rfl) hd0
  have e1 := rows_all hd1
  obtain ⟨ta, fa, h0⟩ := var_heap gF hv0
  obtain ⟨tb, fb, h1⟩ := var_heap gR hv1
  have e0' : cs0 = wc firstsL := by rw [wc, ← e0]
  have e1' : cs1 = rc rowsL := by rw [rc, ← e1]
  rw [e0'] at h0
  rw [e1'] at h1
  exact ⟨⟨ta, fa, h0⟩, ⟨tb, fb, h1⟩⟩
theorem door_met (os : Os) (args : Array Value) : laidMetH Tryd.prog laid2 ((World.doorLaid Tryd.prog 400 os).forCall (fun _ _ => 0) ⟨#[], args, []⟩).memory :=
  laidMetH_of_parts3 (fuel := 8) (laidMet_of_run' 8 (by kernel_rfl) (by kernel_rfl)) (by kernel_rfl) (by kernel_rfl)
end Go.Proofs.YtflnlkaednpenaaDoor.MixT
