/- tuskref21.Plan walked. -/
import Derived.Test.YtkfhajdkpbpkdaaQBase21x
import Derived.Deep.RegionHeld3
import Derived.Deep.LoopGhost
import Derived.Deep.RegionLaw
namespace Go.Proofs.Ytkfhajdkpbpkdaa.Plan21
open Go.RowKit Go.Proofs.YtkfhajdkpbpkdaaW.PrintWords Go.Proofs.YtkfhajdkpbpkdaaW.PrintMore Go.Proofs.Ytkfhajdkpbpkdaa.QKinds Go.Proofs.Ytkfhajdkpbpkdaa.QBase21
set_option linter.unusedVariables false
set_option linter.unusedSimpArgs false
def padP (p : List (List Int)) (n : Nat) : List (List Int) := p ++ List.replicate (n - p.length) []
/-- The plan of the first i waves. -/
def planN (ws : List Int) : Nat → List (List Int)
  | 0 => []
  | i + 1 => (padP (planN ws i) ((ws.getD i 0).toNat + 1)).set (ws.getD i 0).toNat ((padP (planN ws i) ((ws.getD i 0).toNat + 1)).getD (ws.getD i 0).toNat [] ++ [(i : Int)])
theorem pad_len (p : List (List Int)) (n : Nat) : (padP p n).length = max p.length n := by simp [padP]; omega
theorem plan_len (ws : List Int) (M : Nat) (h : ∀ i, i < ws.length → (ws.getD i 0).toNat < M) : ∀ i, i ≤ ws.length → (planN ws i).length ≤ M
  | 0, _ => Nat.zero_le _
  | i + 1, hi => by
    have := plan_len ws M h i (by omega)
    have := h i (by omega)
    rw [planN, List.length_set, pad_len]; omega
theorem plan_rows (ws : List Int) : ∀ i j, ((planN ws i).getD j []).length ≤ i
  | 0, j => by simp [planN]
  | i + 1, j => by
    have hp : ∀ m j, ((padP (planN ws i) m).getD j []).length ≤ i := fun m j => by
      have h1 := plan_rows ws i j
      unfold padP
      rw [List.getD_eq_getElem?_getD] at h1 ⊢
      rcases Nat.lt_or_ge j (planN ws i).length with h | h
      · rw [List.getElem?_append_left h]; exact h1
      · rw [List.getElem?_append_right h]
        cases he : (List.replicate (m - (planN ws i).length) ([] : List Int))[j - (planN ws i).length]? with
        | none => simp
        | some r =>
          have := List.mem_of_getElem? he
          rw [List.eq_of_mem_replicate this]; simp
    rw [planN, List.getD_eq_getElem?_getD, List.getElem?_set]
    split
    · split
      · simp only [Option.getD_some, List.length_append, List.length_singleton]
        have := hp ((ws.getD i 0).toNat + 1) (ws.getD i 0).toNat
        omega
      · simp
    · have := hp ((ws.getD i 0).toNat + 1) j
      rw [List.getD_eq_getElem?_getD] at this
      omega
theorem plan_succ {ws : List Int} {i x : Nat} (hx : ws.getD i 0 = (x : Int)) : planN ws (i + 1) = (padP (planN ws i) (x + 1)).set x ((padP (planN ws i) (x + 1)).getD x [] ++ [(i : Int)]) := by rw [planN, hx, Int.toNat_natCast]
def kRow : Kd (List Int) := Kd.slice 3 (Kd.int .i64)
theorem infoRow : (Try.prog.info? 24).map (fun i => (i.zero, i.size, i.bytes)) = some (some (.slice none 0 0), 1, 24) := by kernel_rfl
theorem app_nil {ops : Array Oper} {rest : List Oper} {o : Oper} {a : Act} {Q : Exit → Act → World → Prop} {w W : World} (hg : o.guard = none) (ho : o.op = .call { callee := .builtin .append, args := #[.tmp 21, .tmp 22], argTypes := #[28, 28] })
    (v : Value) (xs : List (List Int)) (hs : a.eval (.tmp 21) = v) (hx : a.eval (.tmp 22) = .slice (some ⟨W.heap.size, 0, none⟩) 1 1) (HO : Kd.S kRow 24 W w.heap.size (fun _ => True) v xs) (HB : Below w.heap.size w W) (hl : (xs.length + 1) * 24 ≤ 140737488355328)
    (h : ∀ v1 w1, Kd.S kRow 24 w1 w.heap.size (fun _ => True) v1 (xs ++ [[]]) → Below w.heap.size w w1 → wpList Try.prog ops Q rest (a.put o.dst v1) w1) :
    wpList Try.prog ops Q (o :: rest) a (W.alloc (.cells #[.slice none 0 0] 24)) :=
  Kd.S_append kRow (w0 := w) w.heap.size hg (.tmp 21) (.tmp 22) 28 24 (.slice none 0 0) 24 ho Try.underlying28 infoRow rfl (by decide) (by omega) v xs [] [.slice none 0 0] (fun _ => True) (fun _ => False) hs hx ⟨.slice none 0 0, rfl, Kd.R_nil _ _ _ _ _⟩ (fun _ hk => hk.elim) (fun _ _ => trivial) (Kd.S_mono HO (fun _ _ => ⟨trivial, fun h => h⟩)) HB HB.size hl (fun v1 w1 h1 h2 _ _ => h v1 w1 h1 h2)
theorem info3' : (Try.prog.info? 3).map (fun i => (i.zero, i.size, i.bytes)) = some (some (.int .i64 0), 1, 8) := by kernel_rfl
theorem app_row {ops : Array Oper} {o : Oper} {a : Act} {Q : Exit → Act → World → Prop} {Kc : Act → World → Prop} {w W : World} (hw : Region.wanted o (yielded ops a.tmps) = true) (ho : o.op = .call { callee := .builtin .append, args := #[.tmp 35, .tmp 37], argTypes := #[24, 24] })
    (v : Value) (xs : List Int) (x : Int) (ok : Nat → Prop) (hs : a.eval (.tmp 35) = v) (hx : a.eval (.tmp 37) = .slice (some ⟨W.heap.size, 0, none⟩) 1 1) (HO : (Kd.int .i64).R 3 W w.heap.size ok v xs) (hf : ∀ k, W.heap.size ≤ k → ok k) (HB : Below w.heap.size w W) (hl : (xs.length + 1) * 8 ≤ 140737488355328)
    (h : ∀ v1 w1, (Kd.int .i64).R 3 w1 w.heap.size ok v1 (xs ++ [x]) → Below w.heap.size w w1 → W.grownBy w1 v.ownBlock → Kc (a.put o.dst v1) w1) :
    if Region.wanted o (yielded ops a.tmps) = true then Oper.wp Try.prog o a (W.alloc (.cells #[.int .i64 x] 3)) Kc Q else Kc (a.put o.dst undef) (W.alloc (.cells #[.int .i64 x] 3)) :=
  Kd.R_append_step (Kd.int .i64) (w0 := w) w.heap.size hw (.tmp 35) (.tmp 37) 24 3 (.int .i64 0) 8 ho Try.underlying24 info3' rfl (by decide) (by omega) v xs x [.int .i64 x] ok (fun _ => False) hs hx rfl (fun _ hk => hk.elim) hf HO HB HB.size hl (fun v1 w1 h1 h2 h3 _ => h v1 w1 h1 h2 h3)
theorem app_row2 {ops : Array Oper} {o : Oper} {a : Act} {Q : Exit → Act → World → Prop} {Kc : Act → World → Prop} {w W : World} (hw : Region.wanted o (yielded ops a.tmps) = true) (ho : o.op = .call { callee := .builtin .append, args := #[.tmp 35, .tmp 37], argTypes := #[24, 24] })
    (v : Value) (xs : List Int) (x : Int) (ok : Nat → Prop) (hs : a.eval (.tmp 35) = v) (hx : a.eval (.tmp 37) = .slice (some ⟨W.heap.size, 0, none⟩) 1 1) (HO : (Kd.int .i64).R 3 W w.heap.size ok v xs) (hf : ∀ k, W.heap.size ≤ k → ok k) (HB : Below w.heap.size w W) (hl : (xs.length + 1) * 8 ≤ 140737488355328)
    (h : ∀ v1 w1, (Kd.int .i64).R 3 w1 w.heap.size ok v1 (xs ++ [x]) → Below w.heap.size w w1 → W.drew.grownBy w1 v.ownBlock → Kc (a.put o.dst v1) w1) :
    if Region.wanted o (yielded ops a.tmps) = true then Oper.wp Try.prog o a (W.alloc (.cells #[.int .i64 x] 3)).drew Kc Q else Kc (a.put o.dst undef) (W.alloc (.cells #[.int .i64 x] 3)).drew :=
  app_row (w := w) (W := W.drew) hw ho v xs x ok hs hx (Kd.R_drew HO) hf (below_drew1 HB) hl h
set_option maxHeartbeats 4000000 in
set_option maxRecDepth 100000 in
theorem planC (k : Nat) (A0 : Option Addr) (c0 : Nat) (l0 : List S38) (ws : List Int) (w : World) (hr0 : Kd.C k38 w A0 l0.length l0) (hc0 : l0.length ≤ c0) (h : tuskref21_Of.f k l0 = some ws) (hn : ws.length ≤ 65536) (hws : ∀ i, i < ws.length → 0 ≤ ws.getD i 0 ∧ ws.getD i 0 ≤ 65536) :
    Calls Try.prog 14 #[.slice A0 l0.length c0] w fun e w' => ∃ v, e = .returned v ∧ Kd.S kRow 24 w' w.heap.size (fun _ => True) v (planN ws ws.length) ∧ Below w.heap.size w w' := by
  have HOF := Aside0.mk (tuskref21_Of.calls k A0 c0 l0 ws w hr0 hc0 h)
  have HW := Aside0.mk hws
  have HPL := Aside0.mk (plan_len ws 65537 (fun i hi => by have := hws i hi; omega))
  have HPR := Aside0.mk (plan_rows ws)
  clear hr0 h hws
  generalize hnn : ws.length = n at *
  have HN := Aside0.mk hnn
  clear hnn
  go_enter Try.func14, Try.ntmps14
  go_wp2_with fail
  refine HOF.out.mono ?_
  rintro e w1 ⟨v1, rfl, hR, hb1⟩
  obtain ⟨Aw, cw, rfl, hcw, hC⟩ := Kd.R_reads hR
  rw [HN.out] at hcw hC ⊢
  have HC := Aside0.mk hC
  have HB1 := Aside0.mk hb1
  clear hC hb1 HOF hR
  go_wp2_with fail
  go_loopw [4, 5] (fun v4 v5 wr => ∃ (i : Nat) (A4 : Option Addr) (c4 : Nat), i ≤ n ∧ v5 = .int .i64 i ∧ v4 = .slice A4 (planN ws i).length c4 ∧ Aside0 (Kd.S kRow 24 wr w1.heap.size (fun _ => True) v4 (planN ws i)) ∧ Aside0 (Below w1.heap.size w1 wr)) (fun _ i _ => n - (intOf i).toNat)
  case atStart => exact ⟨0, none, 0, by omega, rfl, rfl, ⟨Kd.S_nil _ _ _ _ _⟩, ⟨Below.refl _ _⟩⟩
  case round =>
    obtain ⟨i, A4, c4, hi, rfl, rfl, HS, HB⟩ := hrel
    by_cases hlt : i < n
    · obtain ⟨hx0, hx1⟩ := HW.out i hlt
      have hpl := HPL.out i (by omega)
      obtain ⟨adw, rfl, hcw0⟩ := Kd.at_int HC.out (i : Int) (by omega) (by omega)
      have hrd : rd ws (i : Int) = ws.getD i 0 := by simp [rd]
      rw [Int.toNat_natCast, hrd] at hcw0
      clear hrd
      obtain ⟨x, hx⟩ : ∃ x : Nat, ws.getD i 0 = (x : Int) := ⟨(ws.getD i 0).toNat, by omega⟩
      have HNX := Aside0.mk (plan_succ hx)
      rw [hx] at hx0 hx1 hcw0
      clear hx hx0
      have HCW := Aside0.mk hcw0
      clear hcw0
      go_wp2_with fail
      go_loopw [4] (fun v4 wr => ∃ (j : Nat) (A5 : Option Addr) (c5 : Nat), v4 = .slice A5 ((planN ws i).length + j) c5 ∧ (j = 0 ∨ (planN ws i).length + j ≤ x + 1) ∧ Aside0 (Kd.S kRow 24 wr w1.heap.size (fun _ => True) v4 (planN ws i ++ List.replicate j [])) ∧ Aside0 (Below w1.heap.size w1 wr)) (fun v _ => match v with | .slice _ m _ => x + 1 - m | _ => 0)
      case atStart => exact ⟨0, A4, c4, rfl, .inl rfl, ⟨by rw [List.replicate_zero, List.append_nil]; exact HS.out⟩, HB⟩
      case round =>
        clear HS HB
        obtain ⟨j, A5, c5, rfl, hj, HS, HB⟩ := hrel
        have hcell := pw_cell_below HB.out HCW.out
        by_cases hle : (planN ws i).length + j ≤ x
        · have hd : decide ((((planN ws i).length + j : Nat) : Int) ≤ (x : Int)) = true := decide_eq_true (by omega)
          generalize hL : (planN ws i).length = L at *
          have HL := Aside0.mk hL
          clear hL
          have hlen6 : Aside0 ((planN ws i ++ List.replicate j [] ++ [[]]).length = L + (j + 1)) := ⟨by rw [List.length_append, List.length_append, List.length_replicate, HL.out]; rfl⟩
          have hlen : Aside0 (((planN ws i ++ List.replicate j []).length + 1) * 24 ≤ 140737488355328) := ⟨by rw [List.length_append, List.length_replicate, HL.out]; omega⟩
          go_wp2_with ((with_reducible refine gate_builtin (b := .append) (xs := #[.tmp 21, .tmp 22]) rfl ?_); at_builtin; refine app_nil (w := w1) (by rfl) (by rfl) _ _ (by rfl) (by rfl) HS.out HB.out hlen.out ?_; intro v6 w6 h6 hb6; obtain ⟨A6, c6, e6⟩ := Kd.S_slice h6; rw [hlen6.out] at e6; subst e6; have HS6 := Aside0.mk h6; have HB6 := Aside0.mk hb6; clear h6 hb6)
          go_roundw
          case rel => exact ⟨j + 1, A6, c6, rfl, .inr (by omega), ⟨by rw [List.replicate_succ', ← List.append_assoc]; exact HS6.out⟩, HB6⟩
          case measure => simp only; omega
        · have hd : decide ((((planN ws i).length + j : Nat) : Int) ≤ (x : Int)) = false := decide_eq_false (by omega)
          have hpad : Aside0 (planN ws i ++ List.replicate j [] = padP (planN ws i) (x + 1)) := ⟨by
            unfold padP
            rcases hj with rfl | hj
            · rw [show x + 1 - (planN ws i).length = 0 by omega]
            · rw [show x + 1 - (planN ws i).length = j by omega]⟩
          rw [hpad.out] at HS
          have hpl2 : (padP (planN ws i) (x + 1)).length = (planN ws i).length + j := by rw [← hpad.out, List.length_append, List.length_replicate]
          have hrl : Aside0 (((padP (planN ws i) (x + 1)).getD x []).length ≤ i) := ⟨by
            rw [← hpad.out]
            have h1 := HPR.out i x
            rw [List.getD_eq_getElem?_getD] at h1 ⊢
            rcases Nat.lt_or_ge x (planN ws i).length with h | h
            · rw [List.getElem?_append_left h]; exact h1
            · rw [List.getElem?_append_right h]
              cases he : (List.replicate j ([] : List Int))[x - (planN ws i).length]? with
              | none => simp
              | some r =>
                have := List.mem_of_getElem? he
                rw [List.eq_of_mem_replicate this]; simp⟩
          generalize padP (planN ws i) (x + 1) = P at *
          rw [← hpl2] at HS hle hd ⊢
          clear hj hpad hpl2
          obtain ⟨go, co, eo, hgo1, hgo2, _⟩ := Kd.S_form HS.out (by omega)
          injection eo with ea _ ec
          subst ea
          subst ec
          obtain ⟨oki, c, hcl, hM, hcc, hfr, hok, hH⟩ := Kd.S_elem HS.out [] (x : Int) (by omega) (by omega)
          obtain ⟨vr, rfl, hRr⟩ := hM
          have hcx : wr.cell? ⟨go, x, none⟩ = some vr := by
            have := hcc 0 vr rfl
            rwa [Int.toNat_natCast, show kRow.sz = 1 from rfl, Nat.mul_one, Nat.add_zero] at this
          rw [Int.toNat_natCast] at hRr
          obtain ⟨Ar, cr, rfl⟩ := Kd.R_slice hRr
          generalize hrow : P.getD x [] = row at *
          have HROW := Aside0.mk hrow
          have HRR := Aside0.mk hRr
          have HH := Aside0.mk hH
          have HQ : Aside0 (∀ w', Below wr.heap.size wr w' → w'.cell? (adw.add i) = some (.int .i64 (x : Int)) ∧ w'.cell? ⟨go, x, none⟩ = some (.slice Ar row.length cr)) := ⟨fun w' hb => ⟨pw_cell_below hb hcell, pw_cell_below hb hcx⟩⟩
          have hS0 := HQ.out wr (Below.refl _ _)
          have hi2 : (0 : Int) ≤ (i : Int) := by omega
          have hx2 : (0 : Int) ≤ (x : Int) := by omega
          have hx3 : (x : Int) < (P.length : Int) := by omega
          clear hrow hRr hH hcc hfr hok hcl hcx
          obtain ⟨hs1, hs2⟩ := hS0
          have hal1 : ∀ o, (wr.alloc o).cell? (adw.add i) = some (.int .i64 (x : Int)) := fun o => pw_cell_below ((Below.refl _ _).alloc (Nat.le_refl _) o) hs1
          have hal2 : ∀ o, (wr.alloc o).cell? ⟨go, x, none⟩ = some (.slice Ar row.length cr) := fun o => pw_cell_below ((Below.refl _ _).alloc (Nat.le_refl _) o) hs2
          have hlr : Aside0 ((row.length + 1) * 8 ≤ 140737488355328) := ⟨by have := hrl.out; omega⟩
          have hpos : Aside0 ((0 : Int) ≤ (x : Int) ∧ (x : Int) < (P.length : Int)) := ⟨hx2, hx3⟩
          go_wp2_with fail
          go_region_law ((apply app_row2 (w := w1) (v := .slice Ar row.length cr) (xs := row) (x := (i : Int)) (ok := fun k => oki k ∨ wr.heap.size ≤ k); (case hw => rfl); (case ho => rfl); (case hs => rfl); (case hx => rfl); (case HO => exact Kd.R_mono HRR.out (fun _ h => .inl h)); (case hf => exact fun k hk => .inr hk); (case HB => exact HB.out); (case hl => exact hlr.out); intro v7 w7 h7 hb7 hg7; obtain ⟨A7, c7, rfl⟩ := Kd.R_slice h7; have HR7 := Aside0.mk h7; have HB7 := Aside0.mk hb7; have HH7 := Aside0.mk (Kd.H_grown (Kd.H_widen (Kd.H_drew HH.out)) hg7 (fun k e_ => .inl (HRR.out.1 k e_))); obtain ⟨hcc7, hfr7⟩ := Kd.H_at HH7.out hpos.out.1 hpos.out.2; have hc7 : w7.cell? ⟨go, x, none⟩ = some (.slice Ar row.length cr) := (by have := hcc7 0 _ rfl; rwa [Int.toNat_natCast, show kRow.sz = 1 from rfl, Nat.mul_one, Nat.add_zero] at this); have hf7 : w7.frozen? ⟨go, x, none⟩ = false := (by have := hfr7 0; rwa [Int.toNat_natCast, show kRow.sz = 1 from rfl, Nat.mul_one, Nat.add_zero] at this); have hcw7 := pw_cell_below HB7.out HCW.out; clear h7 hb7 hg7 hcc7 hfr7))
          all_goals
            have HP := Kd.S_seg0 (okp := fun k => oki k ∨ wr.heap.size ≤ k) HH7.out hpos.out.1 hpos.out.2 (seg := [.slice A7 (row.length + 1) c7]) (j := 0) (show 0 + 1 ≤ 1 from by decide) (x' := row ++ [(i : Int)]) (by
              have h := Kd.M_row HR7.out
              rw [List.length_append, List.length_singleton] at h
              exact h) (fun k h => Or.elim (show oki k ∨ wr.heap.size ≤ k from h) Or.inl (fun h2 => Or.inr ⟨trivial, h2⟩))
            have HP1 := Aside0.mk HP.1
            clear HP
            go_wp2_with fail
            go_roundw
            case rel => exact ⟨i + 1, some ⟨go, 0, none⟩, c5, by omega, by go_num, by rw [HNX.out, List.length_set], ⟨by
              rw [HNX.out]
              have h := HP1.out
              simp only [Int.toNat_natCast, show kRow.sz = 1 from rfl, Nat.mul_one, Nat.add_zero] at h
              exact h⟩, ⟨below_set HB7.out hgo1⟩⟩
            case measure => simp [intOf]; omega
    · obtain rfl : i = n := by omega
      go_wp2_with fail
      go_ret
      exact ⟨_, rfl, Kd.S_lower HS.out HB1.out.size, below_then HB1.out HB1.out.size HB.out⟩
def FitW (ws : List Int) : Prop := ws.length ≤ 65536 ∧ ∀ i, i < ws.length → 0 ≤ ws.getD i 0 ∧ ws.getD i 0 ≤ 65536
instance (ws : List Int) : Decidable (FitW ws) := inferInstanceAs (Decidable (_ ∧ _))
def tuskref21_Plan.f (k : Nat) (l0 : List S38) : Option (List (List Int)) := (tuskref21_Of.f k l0).bind fun ws => if FitW ws then some (planN ws ws.length) else none
theorem tuskref21_Plan.mono : ∀ a0 k, LeO (tuskref21_Plan.f k a0) (tuskref21_Plan.f (k + 1) a0) := fun a0 k => LeO.bind (tuskref21_Of.mono a0 k) (fun _ => LeO.refl _)
theorem tuskref21_Plan.calls (k : Nat) (A0 : Option Addr) (c0 : Nat) (l0 : List S38) (r : List (List Int)) (w : World) (hr0 : Kd.C k38 w A0 l0.length l0) (hc0 : l0.length ≤ c0) (h : tuskref21_Plan.f k l0 = some r) :
    Calls Try.prog 14 #[.slice A0 l0.length c0] w fun e w' => ∃ v0_ : Value, e = .returned (v0_) ∧ Kd.S (Kd.slice 3 (Kd.int .i64)) 24 w' w.heap.size (fun _ => True) v0_ r ∧ Below w.heap.size w w' := by
  unfold tuskref21_Plan.f at h
  obtain ⟨ws, h1, h2⟩ := Option.bind_eq_some_iff.mp h
  by_cases hc : FitW ws
  · rw [if_pos hc] at h2
    obtain rfl := Option.some.inj h2
    exact planC k A0 c0 l0 ws w hr0 hc0 h1 hc.1 hc.2
  · rw [if_neg hc] at h2; cases h2
end Go.Proofs.Ytkfhajdkpbpkdaa.Plan21
