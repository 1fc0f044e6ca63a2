/- waves.Check walked. -/
import Derived.Test.YtkfhajdkpbpkdaaCheckP21
import Derived.Test.YtkfhajdkpbpkdaaContracts21
import Derived.Maps.OwnOps
import Derived.Maps.OwnSet
import Derived.Deep.LoopGhost
import Derived.Deep.RegionHeld3
import Derived.Sort.AtCall
namespace Go.Proofs.Ytkfhajdkpbpkdaa.Check21
open Go.Maps
open Go.RowKit Go.Proofs.YtkfhajdkpbpkdaaW.PrintWords Go.Proofs.YtkfhajdkpbpkdaaW.PrintMore Go.Proofs.Ytkfhajdkpbpkdaa.QKinds Go.Proofs.Ytkfhajdkpbpkdaa.QBase21 Go.Proofs.Ytkfhajdkpbpkdaa.Edges21 Go.Proofs.Ytkfhajdkpbpkdaa.Contracts21 Go.Proofs.Ytkfhajdkpbpkdaa.CheckP
set_option linter.unusedVariables false
set_option linter.unusedSimpArgs false
theorem law3 : Keyed Try.prog 3 := int_keyed Try.underlying3
theorem zero3 (w : World) : (zeroValue 3).run Try.prog w = .ok (.int .i64 0) w := by kernel_rfl
abbrev Own (w : World) (b : Nat) (ps : List (Int × Int)) : Prop := w.ownsMap Try.prog 3 (plainElem Try.prog 3) b ps.length (Dof ps)
theorem own_mk {w : World} {b n : Nat} {ps : List (Int × Int)} (h : w.ownsMap Try.prog 3 (plainElem Try.prog 3) b n (Dof ps)) (e : ps.length = n) : Own w b ps := by subst e; exact h
def ed (ps : List (Int × Int)) (R : List (Int × Int)) : Int :=
  if R.any (fun p => decide (vl ps p.1 = vl ps p.2)) then 15 else if R.any (fun p => decide (vl ps p.2 < vl ps p.1)) then 9 else 0
/-- e behind the first k edges. -/
def e6 (ps R : List (Int × Int)) (k : Nat) : Int := if (R.take k).any (fun p => decide (vl ps p.2 < vl ps p.1)) then 9 else 0
theorem asS_at (R : List (Int × Int)) (k : Nat) (h : k < R.length) : rd_T46 (R.map asS) (k : Int) = asS (R.getD k (0, 0)) := by
  unfold rd_T46
  rw [Int.toNat_natCast, List.getD_eq_getElem?_getD, List.getD_eq_getElem?_getD, List.getElem?_map, List.getElem?_eq_getElem h]; rfl
theorem e6_step (ps R : List (Int × Int)) (k : Nat) (h : k < R.length) {a b : Int} (hp : R.getD k (0, 0) = (a, b)) : e6 ps R (k + 1) = if vl ps b < vl ps a then 9 else e6 ps R k := by
  have e : R.take (k + 1) = R.take k ++ [(a, b)] := by
    rw [List.take_add_one, ← hp, List.getD_eq_getElem?_getD, List.getElem?_eq_getElem h]; rfl
  unfold e6
  rw [e, List.any_append, show ([(a, b)] : List (Int × Int)).any (fun p => decide (vl ps p.2 < vl ps p.1)) = decide (vl ps b < vl ps a) by simp]
  by_cases hc : vl ps b < vl ps a
  · rw [decide_eq_true hc, Bool.or_true, if_pos rfl, if_pos hc]
  · rw [decide_eq_false hc, Bool.or_false, if_neg hc]
theorem ne_step (ps R : List (Int × Int)) (k : Nat) (h : k < R.length) {a b : Int} (hp : R.getD k (0, 0) = (a, b)) (hne : (R.take k).any (fun p => decide (vl ps p.1 = vl ps p.2)) = false) (hc : vl ps a ≠ vl ps b) :
    (R.take (k + 1)).any (fun p => decide (vl ps p.1 = vl ps p.2)) = false := by
  have e : R.take (k + 1) = R.take k ++ [(a, b)] := by
    rw [List.take_add_one, ← hp, List.getD_eq_getElem?_getD, List.getElem?_eq_getElem h]; rfl
  rw [e, List.any_append, hne]; simp [hc]
theorem ed_eq (ps R : List (Int × Int)) (k : Nat) (h : k < R.length) {a b : Int} (hp : R.getD k (0, 0) = (a, b)) (hc : vl ps a = vl ps b) : ed ps R = 15 := by
  unfold ed
  rw [if_pos]
  refine List.any_eq_true.2 ⟨(a, b), ?_, by simp [hc]⟩
  rw [← hp, List.getD_eq_getElem?_getD, List.getElem?_eq_getElem h]; exact List.getElem_mem h
theorem ed_end (ps R : List (Int × Int)) (hne : (R.take R.length).any (fun p => decide (vl ps p.1 = vl ps p.2)) = false) : ed ps R = e6 ps R R.length := by
  rw [List.take_length] at hne
  unfold ed e6
  rw [hne, List.take_length]; rfl
theorem row_in (l : List S38) (i : Nat) : ∀ (k : Nat) (p : Int × Int), p ∈ row l i k → p.1 = i ∧ 0 ≤ p.2 ∧ p.2 < k
  | 0, p, h => by simp [row] at h
  | k + 1, p, h => by
    simp only [row] at h
    rcases List.mem_append.1 h with h | h
    · have := row_in l i k p h; omega
    · split at h
      · simp at h; subst h; simp; omega
      · simp at h
theorem rows_in (l : List S38) : ∀ (n : Nat) (p : Int × Int), p ∈ rows l n → 0 ≤ p.1 ∧ p.1 < n ∧ 0 ≤ p.2 ∧ p.2 < l.length
  | 0, p, h => by simp [rows] at h
  | n + 1, p, h => by
    simp only [rows] at h
    rcases List.mem_append.1 h with h | h
    · have := rows_in l n p h; omega
    · have := row_in l n _ p h; omega
theorem look_eq {b : Nat} {ps : List (Int × Int)} {W : World} (h : Own W b ps) {x : Int} (hx : (Lit.int .i64 x).wf = true) :
    (Instr.lookup 42 (.map (some b)) (.int .i64 x) false).run Try.prog W = .ok (.int .i64 (vl ps x)) W := by
  obtain ⟨c, h1, h2, _⟩ := World.ownsMap.lookup_int h law3 Try.underlying42 Try.underlying3 (zero3 _) (keyOf_int_mk Try.underlying3 hx)
  rw [at_D] at h2
  injection h2 with h2
  injection h2 with _ h2
  rw [h1, h2]
def Res (n : Nat) (R : List (Int × Int)) (P : List (List Int)) (r : Int) : Prop :=
  (r ≠ 0 ∧ Look n P r) ∨ (Ok n P P.length 0 ∧ (pl P P.length).length < n ∧ r = 12) ∨ (Ok n P P.length 0 ∧ n ≤ (pl P P.length).length ∧ r = ed (pl P P.length) R)
theorem pl_mono (P : List (List Int)) : ∀ (k m : Nat), k ≤ m → (pl P k).length ≤ (pl P m).length
  | k, 0, h => by obtain rfl : k = 0 := by omega
                  exact Nat.le_refl _
  | k, m + 1, h => by
    by_cases e : k = m + 1
    · subst e; exact Nat.le_refl _
    · have := pl_mono P k m (by omega)
      simp only [pl, List.length_append]; omega
theorem pairs_le (P : List (List Int)) (k j : Nat) (hk : k < P.length) : (pairs P k j).length ≤ (pl P P.length).length := by
  have h := pl_mono P (k + 1) P.length hk
  simp only [pl, List.length_append, List.length_map] at h
  simp only [pairs, List.length_append, List.length_map, List.length_take]
  omega
set_option maxHeartbeats 4000000 in
set_option maxRecDepth 100000 in
theorem check_calls (l0 : List S38) (P : List (List Int)) (A0 : Option Addr) (c0 : Nat) (A1 : Option Addr) (c1 : Nat) (w : World) (hr0 : Kd.C k38 w A0 l0.length l0) (hc0 : l0.length ≤ c0)
    (hr1 : Kd.C (Kd.slice 3 (Kd.int .i64)) w A1 P.length P) (hc1 : P.length ≤ c1) (hf : FitsAll l0) (hwf : ∀ row, row ∈ P → ∀ x, x ∈ row → (Lit.int .i64 x).wf = true) (hlen : (pl P P.length).length ≤ 1048576) (hl0 : l0.length ≤ 65536) (hl1 : P.length ≤ 1048576) :
    Calls Try.prog 15 #[.slice A0 l0.length c0, .slice A1 P.length c1] w fun e w' => ∃ r, Res l0.length (rows l0 l0.length) P r ∧ e = .returned (.int .i64 r) ∧ Below w.heap.size w w' := by
  have HR0 := Aside0.mk hr0
  have HR1 := Aside0.mk hr1
  have HWF := Aside0.mk hwf
  have HLEN := Aside0.mk hlen
  have HF := Aside0.mk hf
  clear hr0 hr1 hwf hlen hf
  have hmm := @run_makeMap Try.prog
  go_enter Try.func15, Try.ntmps15
  go_wp2
  go_step3
  go_wp2
  go_step3
  go_wp2
  go_loopg [6, 20] P.length (fun g s6 s20 wx => ∃ k : Nat, k + g = P.length ∧ s20 = .int .i64 k ∧ s6 = .int .i64 0 ∧ Aside0 (Ok l0.length P k 0) ∧ Aside0 (Own wx w.heap.size (pl P k)) ∧ Aside0 (Below w.heap.size w wx))
  case atStart => exact ⟨0, by omega, rfl, rfl, ⟨Ok.zero _ _⟩, ⟨World.ownsMap_made _ _ _ _⟩, ⟨(Below.refl _ _).alloc (Nat.le_refl _) _⟩⟩
  case round =>
    obtain ⟨k, hkg, rfl, rfl, HOK, HOWN, HB⟩ := hrel
    clear hmm
    cases gk with
    | zero =>
      obtain rfl : k = P.length := by omega
      have HPL : Aside0 (Ok l0.length P P.length 0) := ⟨HOK.out⟩
      have hsz : Maps.size (Dof (pl P P.length)) = (pl P P.length).length := size_D _ (by have h := HOK.out.nodup; rw [pairs_zero] at h; exact h)
      have hl : ∀ ty, (Builtin.len_ #[42] ty #[.map (some w.heap.size)]).run Try.prog wr = .ok (.int .i64 ((pl P P.length).length : Int)) wr := fun ty => by
        have h := World.ownsMap.len HOWN.out Try.underlying42 ty
        rw [hsz] at h; exact h
      have hlen := HLEN.out
      by_cases hfew : (pl P P.length).length < l0.length
      · go_wp2_with fail
        (try rw [Exit.noGoto_ret])
        go_ret
        exact ⟨12, .inr (.inl ⟨HPL.out, hfew, rfl⟩), rfl, HB.out⟩
      · have HCE := Aside0.mk (access_Edges.calls A0 c0 l0 _ wr (Kd.C_below HR0.out HB.out) hc0 (if_pos HF.out))
        go_wp2_with (go_at_call 21; refine HCE.out.mono ?_; rintro e w2 ⟨v, rfl, hR, hb2⟩; obtain ⟨A4, c4, rfl, hq1, hq2⟩ := Kd.R_reads hR; have HB2 := Aside0.mk (below_step HB.out hb2); have HOWN2 := Aside0.mk (HOWN.out.kept (grown_of_below hb2 none) (by simp)); have HR2 := Aside0.mk hq2; clear hR hb2 hq1 hq2)
        clear HCE
        have HL : Aside0 (((rows l0 l0.length).map asS).length = (rows l0 l0.length).length) := ⟨List.length_map _⟩
        have hrn : (rows l0 l0.length).length ≤ 4294967296 := by
          have h1 := rows_len l0 l0.length
          have h3 : l0.length * l0.length ≤ 65536 * 65536 := Nat.mul_le_mul hl0 hl0
          omega
        have HB0 := HB2
        have HOWN0 : Aside0 (Own w2 w.heap.size (pl P P.length)) := ⟨HOWN2.out⟩
        have hfew0 : l0.length ≤ (pl P P.length).length := Nat.le_of_not_lt hfew
        clear HB HOWN HB2 HOWN2 hl hfew
        go_loopg [6, 68] ((rows l0 l0.length).map asS).length (fun g s6 s68 wx => ∃ k : Nat, k + g = ((rows l0 l0.length).map asS).length ∧ s68 = .int .i64 k ∧ s6 = .int .i64 (e6 (pl P P.length) (rows l0 l0.length) k) ∧ Aside0 (((rows l0 l0.length).take k).any (fun p => decide (vl (pl P P.length) p.1 = vl (pl P P.length) p.2)) = false) ∧ Aside0 (Own wx w.heap.size (pl P P.length)) ∧ Aside0 (Kd.C k46 wx A4 ((rows l0 l0.length).map asS).length ((rows l0 l0.length).map asS)) ∧ Aside0 (Below w.heap.size w wx))
        case atStart => exact ⟨0, by omega, rfl, rfl, ⟨rfl⟩, HOWN0, HR2, HB0⟩
        case round =>
          clear HOWN0 HR2 HB0
          obtain ⟨k, hkg, rfl, rfl, HNE, HOWN, HR2, HB⟩ := hrel
          cases gk with
          | zero =>
            obtain rfl : k = (rows l0 l0.length).length := by have := HL.out; omega
            have hn : ¬ ((rows l0 l0.length).length : Int) < ((rows l0 l0.length).length : Int) := Int.lt_irrefl _
            go_wp2_with fail
            (try rw [Exit.noGoto_ret])
            go_ret
            exact ⟨_, .inr (.inr ⟨HPL.out, hfew0, (ed_end _ _ HNE.out).symm⟩), rfl, HB.out⟩
          | succ g =>
            have hlt : k < ((rows l0 l0.length).map asS).length := by omega
            obtain ⟨ad4, rfl, hx0, hx1⟩ := at_T46 HR2.out k (by omega) (by omega)
            simp only [Int.toNat_natCast] at hx0 hx1
            rw [asS_at _ _ (by rw [← HL.out]; exact hlt)] at hx0 hx1
            generalize hp : (rows l0 l0.length).getD k (0, 0) = p at *
            obtain ⟨a, b⟩ := p
            simp only [asS] at hx0 hx1
            have hlt2 : k < (rows l0 l0.length).length := by rw [← HL.out]; exact hlt
            clear hlt
            have HLT := Aside0.mk hlt2
            have HP := Aside0.mk hp
            clear hp
            have HM : Aside0 (0 ≤ a ∧ a < l0.length ∧ 0 ≤ b ∧ b < l0.length) := ⟨by
              have h := rows_in l0 l0.length (a, b) (by rw [← HP.out, List.getD_eq_getElem?_getD, List.getElem?_eq_getElem HLT.out]; exact List.getElem_mem HLT.out)
              exact ⟨h.1, h.2.1, h.2.2.1, h.2.2.2⟩⟩
            have HBN : Aside0 (Below w.heap.size w (wr.alloc (.cells #[.int .i64 a, .int .i64 b] 46))) := ⟨below_alloc HB.out _⟩
            have HON : Aside0 (Own (wr.alloc (.cells #[.int .i64 a, .int .i64 b] 46)) w.heap.size (pl P P.length)) := ⟨HOWN.out.alloc _⟩
            have hq1 : (Instr.lookup 42 (.map (some w.heap.size)) (.int .i64 a) false).run Try.prog (wr.alloc (.cells #[.int .i64 a, .int .i64 b] 46)).drew = .ok (.int .i64 (vl (pl P P.length) a)) (wr.alloc (.cells #[.int .i64 a, .int .i64 b] 46)).drew := look_eq HON.out.drew (WalkArith.wf_i64 (by have := HM.out; omega))
            have hq2 : (Instr.lookup 42 (.map (some w.heap.size)) (.int .i64 b) false).run Try.prog (wr.alloc (.cells #[.int .i64 a, .int .i64 b] 46)).drew = .ok (.int .i64 (vl (pl P P.length) b)) (wr.alloc (.cells #[.int .i64 a, .int .i64 b] 46)).drew := look_eq HON.out.drew (WalkArith.wf_i64 (by have := HM.out; omega))
            have HE := Aside0.mk (e6_step (pl P P.length) (rows l0 l0.length) k HLT.out HP.out)
            have HS := Aside0.mk (ne_step (pl P P.length) (rows l0 l0.length) k HLT.out HP.out HNE.out)
            have HQ := Aside0.mk (ed_eq (pl P P.length) (rows l0 l0.length) k HLT.out HP.out)
            have HRN : Aside0 (Kd.C k46 (wr.alloc (.cells #[.int .i64 a, .int .i64 b] 46)) (some ad4) ((rows l0 l0.length).map asS).length ((rows l0 l0.length).map asS)) := ⟨Kd.C_below HR2.out (below_alloc (Below.refl _ _) _)⟩
            generalize vl (pl P P.length) a = va_ at *
            generalize vl (pl P P.length) b = vb_ at *
            go_wp2_with fail
            go_region_with fail
            go_goals
            all_goals
              by_cases he : va_ = vb_
              · go_wp2_with fail
                (try rw [Exit.noGoto_ret])
                go_ret
                exact ⟨15, .inr (.inr ⟨HPL.out, hfew0, (HQ.out he).symm⟩), rfl, below_drew1 HBN.out⟩
              · by_cases hgt : vb_ < va_
                · go_wp2_with fail
                  go_roundg g
                  case measure => omega
                  case rel => exact ⟨k + 1, by have := HL.out; omega, by go_num, by rw [HE.out, if_pos hgt], ⟨HS.out he⟩, ⟨HON.out.drew⟩, ⟨Kd.C_below HRN.out (below_drew1 (Below.refl _ _))⟩, ⟨below_drew1 HBN.out⟩⟩
                · go_wp2_with fail
                  go_roundg g
                  case measure => omega
                  case rel => exact ⟨k + 1, by have := HL.out; omega, by go_num, by rw [HE.out, if_neg (by omega)], ⟨HS.out he⟩, ⟨HON.out.drew⟩, ⟨Kd.C_below HRN.out (below_drew1 (Below.refl _ _))⟩, ⟨below_drew1 HBN.out⟩⟩
    | succ g =>
      have hlt : k < P.length := by omega
      obtain ⟨ad, A2, c2, rfl, hx0, hl2, hi2⟩ := at_L6 HR1.out k (by omega) (by omega)
      simp only [Int.toNat_natCast] at hx0
      replace hx0 := pw_cell_below HB.out hx0
      have HROW : Aside0 (rd_L6 P k = P.getD k []) := ⟨by simp [rd_L6]⟩
      have HMEM : Aside0 (rd_L6 P k ∈ P) := ⟨by rw [HROW.out, List.getD_eq_getElem?_getD, List.getElem?_eq_getElem hlt]; exact List.getElem_mem hlt⟩
      generalize rd_L6 P k = row at *
      have HI2 := Aside0.mk hi2
      have hrl : row.length ≤ 1048576 := by
        have h := pairs_le P k row.length hlt
        rw [pairs, ← HROW.out, List.length_append, List.length_map, List.take_length] at h
        have := HLEN.out; omega
      clear hi2
      go_wp2_with fail
      have HOK0 : Aside0 (Ok l0.length P k 0) := ⟨HOK.out⟩
      have HOWN0 : Aside0 (Own wr w.heap.size (pairs P k 0)) := ⟨by rw [pairs_zero]; exact HOWN.out⟩
      clear HOK HOWN
      go_loopg [6, 27] row.length (fun g2 s6 s27 wy => ∃ j : Nat, j + g2 = row.length ∧ s27 = .int .i64 j ∧ s6 = .int .i64 0 ∧ Aside0 (Ok l0.length P k j) ∧ Aside0 (Own wy w.heap.size (pairs P k j)) ∧ Aside0 (Below w.heap.size w wy))
      case atStart => exact ⟨0, by omega, rfl, rfl, HOK0, HOWN0, HB⟩
      case round =>
        clear HOK0 HOWN0 HB
        obtain ⟨j, hjg, rfl, rfl, HOK, HOWN, HB⟩ := hrel
        cases gk with
        | zero =>
          obtain rfl : j = row.length := by omega
          go_wp2_with fail
          go_roundg g
          case measure => omega
          case rel => exact ⟨k + 1, by omega, by go_num, rfl, ⟨HOK.out.row (by rw [← HROW.out])⟩, ⟨by have h := HOWN.out; rw [pairs_full P k (by rw [← HROW.out]; exact Nat.le_refl _)] at h; exact h⟩, HB⟩
        | succ g2 =>
          have hltj : j < row.length := by omega
          obtain ⟨ad3, rfl, hx1⟩ := Kd.at_int (Kd.C_below HI2.out HB.out) j (by omega) (by omega)
          simp only [Int.toNat_natCast] at hx1
          have hw3 : (Lit.int .i64 (rd row j)).wf = true := HWF.out row HMEM.out _ (by rw [rd, Int.toNat_natCast, List.getD_eq_getElem?_getD, List.getElem?_eq_getElem hltj]; exact List.getElem_mem hltj)
          have HX : Aside0 (rd row j = (P.getD k []).getD j 0) := ⟨by rw [← HROW.out]; rfl⟩
          have HJ : Aside0 (j < (P.getD k []).length) := ⟨by rw [← HROW.out]; exact hltj⟩
          have HK : Aside0 (k < P.length) := ⟨hlt⟩
          have HN : Aside0 ((pairs P k j).length ≤ 1048576) := ⟨Nat.le_trans (pairs_le P k j hlt) HLEN.out⟩
          have HP : Aside0 ((pairs P k (j + 1)).length = (pairs P k j).length + 1) := ⟨by rw [pairs_succ P k j HJ.out]; simp⟩
          generalize rd row j = x at *
          have HKEY : Aside0 (keyOf Try.prog 3 (.int .i64 x) = some (.int .i64 x)) := ⟨keyOf_int_mk Try.underlying3 hw3⟩
          clear hw3
          obtain ⟨hb, HH⟩ : ∃ hb, Maps.has (Dof (pairs P k j)) (.int .i64 x) = hb := ⟨_, rfl⟩
          have HHB := Aside0.mk HH
          by_cases h1 : x < 0
          · go_wp2_with (first
              | (at_lookup; refine wpList_lookup_own_ok_int _ rfl _ _ 42 rfl 3 3 .i64 law3 Try.underlying42 Try.underlying3 (zero3 _) w.heap.size _ _ rfl HOWN.out _ _ rfl HKEY.out ?_; intro c hat hwc; rw [HH]; clear hat hwc))
            (try rw [Exit.noGoto_ret])
            go_ret
            exact ⟨2, .inl ⟨by decide, look_range HOK.out HK.out HJ.out HX.out (.inl h1)⟩, rfl, HB.out⟩
          · by_cases h2 : (l0.length : Int) ≤ x
            · go_wp2_with (first
                | (at_lookup; refine wpList_lookup_own_ok_int _ rfl _ _ 42 rfl 3 3 .i64 law3 Try.underlying42 Try.underlying3 (zero3 _) w.heap.size _ _ rfl HOWN.out _ _ rfl HKEY.out ?_; intro c hat hwc; rw [HH]; clear hat hwc))
              (try rw [Exit.noGoto_ret])
              go_ret
              exact ⟨2, .inl ⟨by decide, look_range HOK.out HK.out HJ.out HX.out (.inr h2)⟩, rfl, HB.out⟩
            · cases hb
              · go_wp2_with (first
                  | (at_lookup; refine wpList_lookup_own_ok_int _ rfl _ _ 42 rfl 3 3 .i64 law3 Try.underlying42 Try.underlying3 (zero3 _) w.heap.size _ _ rfl HOWN.out _ _ rfl HKEY.out ?_; intro c hat hwc; rw [HH]; clear hat hwc)
                  | (at_mapUpdate; refine wpList_mapUpdate_own _ rfl _ _ _ 42 rfl 3 3 law3 Try.underlying42 _ w.heap.size _ _ rfl HOWN.out (by have := HN.out; unfold maxLen; omega) _ _ _ rfl rfl HKEY.out _ [] (plainElem_int Try.underlying3 (WalkArith.wf_i64 (by have := HK.out; omega))) ?_; intro w1 hown1 hgrow1; have HOWN1 := Aside0.mk hown1; have HG1 := Aside0.mk hgrow1; clear hown1 hgrow1))
                go_roundg g2
                case measure => omega
                case rel => exact ⟨j + 1, by omega, by go_num, rfl, ⟨HOK.out.step HJ.out HX.out (by omega) (by omega) HHB.out⟩, ⟨by have h := HOWN1.out; rw [Ok.put (n := 0) HJ.out HX.out] at h; exact own_mk h HP.out⟩, ⟨HB.out.grown HG1.out HB.out.size (fun i hi => by cases hi; exact Nat.le_refl _)⟩⟩
              · go_wp2_with (first
                  | (at_lookup; refine wpList_lookup_own_ok_int _ rfl _ _ 42 rfl 3 3 .i64 law3 Try.underlying42 Try.underlying3 (zero3 _) w.heap.size _ _ rfl HOWN.out _ _ rfl HKEY.out ?_; intro c hat hwc; rw [HH]; clear hat hwc))
                (try rw [Exit.noGoto_ret])
                go_ret
                exact ⟨13, .inl ⟨by decide, look_twice HOK.out HK.out HJ.out HX.out (by omega) (by omega) HHB.out⟩, rfl, HB.out⟩
end Go.Proofs.Ytkfhajdkpbpkdaa.Check21
