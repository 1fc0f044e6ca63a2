/- The law AccessMore walked. -/
import Derived.Test.YtmkgbkocanfckaaLaw20
import Derived.Test.YtmkgbkocanfckaaMore20
import Derived.Test.YtmkgbkocanfckaaOpen
import Derived.Test.YtmkgbkocanfckaaQOpen
import Derived.Deep.RegionHeld3
import Derived.Sort.AtCall
import Derived.Deep.DeepCutAuto
namespace Go.Proofs.Ytmkgbkocanfckaa.HandAccessMore
open Go.RowKit Go.Proofs.YtmkgbkocanfckaaW.PrintWords Go.Proofs.YtmkgbkocanfckaaW.PrintMore Go.Proofs.Ytmkgbkocanfckaa.QKinds Go.Proofs.Ytmkgbkocanfckaa.QBase20 Go.Proofs.Ytmkgbkocanfckaa.Meet Go.Proofs.Ytmkgbkocanfckaa.Edges Go.Proofs.Ytmkgbkocanfckaa.GroupsP Go.Proofs.Ytmkgbkocanfckaa.Groups Go.Proofs.Ytmkgbkocanfckaa.Contracts20 Go.Proofs.Ytmkgbkocanfckaa.Plain20 Go.Proofs.Ytmkgbkocanfckaa.Works20 Go.Proofs.Ytmkgbkocanfckaa.Law20 Go.Proofs.Ytmkgbkocanfckaa.More20 Go.Proofs.Ytmkgbkocanfckaa.Open Go.Proofs.Ytmkgbkocanfckaa.QOpen
set_option linter.unusedVariables false
set_option linter.unusedSimpArgs false
theorem R_grow {α : Type} {d : Kd α} {e : Nat} {W w1 : World} {base : Nat} {ok : Nat → Prop} {v : Value} {xs : List α} (h : d.R e W base ok v xs) {row : Option Nat} (hg : W.grownBy w1 row) (hne : ∀ k, ok k → some k ≠ row) : d.R e w1 base ok v xs :=
  Kd.R_mono (Kd.R_move (Kd.R_bound h) (fun k hk => hg.block k hk.2.2.1 (hne k hk.1))) (fun k hk => hk.1)
theorem R_box {α : Type} {d : Kd α} {e : Nat} {W : World} {base : Nat} {ok : Nat → Prop} {v : Value} {xs : List α} (h : d.R e W base ok v xs) {b j : Nat} (hne : ∀ k, ok k → k ≠ b) (u : Value) : d.R e (W.setCell ⟨b, j, none⟩ u) base ok v xs :=
  Kd.R_move h (fun k hk => Below.heap_setCell W ⟨b, j, none⟩ u k (hne k hk))
theorem clashK {x y : S26} {key : ByteArray} (hsx : Small { x with f8 := x.f8 ++ [key] }) (hsy : Small y) {A0_7 A0_8 A1_7 A1_8 : Option Addr} {c0_7 c0_8 c1_7 c1_8 : Nat} {W : World} (hx : Rd { x with f8 := x.f8 ++ [key] } A0_7 c0_7 A0_8 c0_8 W) (hy : Rd y A1_7 c1_7 A1_8 c1_8 W) {b : Bool} (h : clashP { x with f8 := x.f8 ++ [key] } y = b) :
    Calls Try.prog 13 #[.agg #[.int .i64 x.f0, .string x.f1, .string x.f2, .int .u64 x.f3, .int .u64 x.f4, .string x.f5, .string x.f6, .slice A0_7 x.f7.length c0_7, .slice A0_8 (x.f8.length + 1) c0_8], .agg #[.int .i64 y.f0, .string y.f1, .string y.f2, .int .u64 y.f3, .int .u64 y.f4, .string y.f5, .string y.f6, .slice A1_7 y.f7.length c1_7, .slice A1_8 y.f8.length c1_8]] W fun e w' => e = .returned (.bool b) ∧ Below W.heap.size W w' := by
  have h0 := clashC hsx hsy hx hy h
  simp only [List.length_append, List.length_singleton] at h0
  exact h0
theorem alloc_size (W : World) (o : Obj) : (W.alloc o).heap.size = W.heap.size + 1 := by simp
theorem grown_alloc {W w1 : World} {o : Obj} {row : Option Nat} (h : (W.alloc o).grownBy w1 row) : W.grownBy w1 row := (World.grownBy_alloc W o row).trans h
theorem info9 : (Try.prog.info? 9).map (fun i => (i.zero, i.size, i.bytes)) = some (some (.string ⟨#[]⟩), 1, 16) := by kernel_rfl
theorem append_key {ops : Array Oper} {rest : List Oper} {o : Oper} {a : Act} {Q : Exit → Act → World → Prop} {w W : World} (hg : o.guard = none) (ho : o.op = .call { callee := .builtin .append, args := #[.tmp 33, .tmp 35], argTypes := #[24, 24] })
    (v : Value) (xs : List ByteArray) (key : ByteArray) (ok : Nat → Prop) (hs : a.eval (.tmp 33) = v) (hx : a.eval (.tmp 35) = .slice (some ⟨W.heap.size, 0, none⟩) 1 1) (HO : Kd.string.R 9 W w.heap.size ok v xs) (hf : ∀ k, W.heap.size ≤ k → ok k) (HB : Below w.heap.size w W) (hl : (xs.length + 1) * 16 ≤ 140737488355328)
    (h : ∀ v1 w1, Kd.string.R 9 w1 w.heap.size ok v1 (xs ++ [key]) → Below w.heap.size w w1 → W.grownBy w1 v.ownBlock → wpList Try.prog ops Q rest (a.put o.dst v1) w1) :
    wpList Try.prog ops Q (o :: rest) a (W.alloc (.cells #[.string key] 9)) :=
  Kd.R_append Kd.string (w0 := w) w.heap.size hg (.tmp 33) (.tmp 35) 24 9 (.string ⟨#[]⟩) 16 ho Try.underlying24 info9 rfl (by decide) (by omega) v xs key [.string key] ok (fun _ => False) hs hx rfl (fun _ hk => hk.elim) hf HO HB HB.size hl (fun v1 w1 h1 h2 h3 _ => h v1 w1 h1 h2 h3)
attribute [local go_sem high] eqA
set_option maxHeartbeats 4000000 in
set_option maxRecDepth 100000 in
theorem walk (l0 : List (S26)) (x1 : S26) (x2 : S26) (a3 : ByteArray) (w : World) (hg0_ : (gList g26) l0) (hg1_ : g26 x1) (hg2_ : g26 x2) (A0 : Option Addr) (c0 : Nat) (hr0 : Kd.C k26 w A0 l0.length l0) (hc0 : l0.length ≤ c0) (A1_7 : Option Addr) (c1_7 : Nat) (hr1_7 : Kd.C Kd.string w A1_7 x1.f7.length x1.f7) (hc1_7 : x1.f7.length ≤ c1_7) (A1_8 : Option Addr) (c1_8 : Nat) (hr1_8 : Kd.C Kd.string w A1_8 x1.f8.length x1.f8) (hc1_8 : x1.f8.length ≤ c1_8) (A2_7 : Option Addr) (c2_7 : Nat) (hr2_7 : Kd.C Kd.string w A2_7 x2.f7.length x2.f7) (hc2_7 : x2.f7.length ≤ c2_7) (A2_8 : Option Addr) (c2_8 : Nat) (hr2_8 : Kd.C Kd.string w A2_8 x2.f8.length x2.f8) (hc2_8 : x2.f8.length ≤ c2_8) (hb : (mList m26) l0 + m26 x1 + m26 x2 + mStr a3 ≤ 1048576) :
    Calls Try.prog 6 #[.slice A0 l0.length c0, .agg #[.int .i64 x1.f0, .string x1.f1, .string x1.f2, .int .u64 x1.f3, .int .u64 x1.f4, .string x1.f5, .string x1.f6, .slice A1_7 x1.f7.length c1_7, .slice A1_8 x1.f8.length c1_8], .agg #[.int .i64 x2.f0, .string x2.f1, .string x2.f2, .int .u64 x2.f3, .int .u64 x2.f4, .string x2.f5, .string x2.f6, .slice A2_7 x2.f7.length c2_7, .slice A2_8 x2.f8.length c2_8], .string a3] w fun e w' => e = .returned (.bool true) ∧ Below w.heap.size w w' := by
  obtain ⟨hbm, hlen⟩ := bulk_mem (l := l0) (by omega)
  have hs : ∀ x, x ∈ l0 → Small x := fun x hx => small_of_bulk (hbm x hx)
  have HS := Aside0.mk hs
  have hsm1 : Small x1 := small_of_bulk (x := x1) (by omega)
  have HS1 := Aside0.mk hsm1
  have HS2 := Aside0.mk (small_of_bulk (x := x2) (by omega))
  have hx18 : x1.f8.length ≤ 1048576 := hsm1.h8
  obtain ⟨k0, b0, hg01, hg02⟩ := great_f l0 hs hlen
  obtain ⟨k, b, hg1, hg2⟩ := great_f [x1, x2] (fun x hx => by
    rcases List.mem_cons.1 hx with rfl | hx
    · exact HS1.out
    · rcases List.mem_cons.1 hx with rfl | hx
      · exact HS2.out
      · simp at hx) (by simp)
  have HG := Aside0.mk hg1
  have HG0 := Aside0.mk hg01
  have HG2 : Aside0 (b = false → x1.f8.length ≤ 500) := ⟨fun h => Nat.le_trans (tot_mem (x := x1) (by simp)).2 (hg2 h)⟩
  have HRL := Aside0.mk hr0
  have HR1 : Aside0 (Rd x1 A1_7 c1_7 A1_8 c1_8 w) := ⟨⟨hr1_7, hc1_7, hr1_8, hc1_8⟩⟩
  have HR2 : Aside0 (Rd x2 A2_7 c2_7 A2_8 c2_8 w) := ⟨⟨hr2_7, hc2_7, hr2_8, hc2_8⟩⟩
  have HT := Aside0.mk (two_mk w (cells26 x1 A1_7 c1_7 A1_8 c1_8) (cells26 x2 A2_7 c2_7 A2_8 c2_8))
  have HCM := Aside0.mk (clash_more x1 x2 a3)
  obtain ⟨cb, hcb⟩ : ∃ cb, clashP x1 x2 = cb := ⟨_, rfl⟩
  have HC := Aside0.mk hcb
  rw [hcb] at HCM
  have hfl : Aside0 (b0 = false → tot l0 ≤ 500) := ⟨hg02⟩
  have hsz : a3.size ≤ 1048576 := by unfold mStr at hb; omega
  clear hg1 hg2 hr1_7 hc1_7 hr1_8 hc1_8 hr2_7 hc2_7 hr2_8 hc2_8 hb hg0_ hg1_ hg2_ hcb hg01 hg02 hs hbm hr0 hsm1
  go_enter Try.func6, Try.ntmps6
  go_wp2_with fail
  refine (works _).mono ?_
  rintro e w0 ⟨rfl, hb0⟩
  have HV := Aside0.mk (HT.out.next hb0)
  clear hb0 HT
  go_wp2_with fail
  refine (greatC HG0.out (Kd.C_below HRL.out HV.out.below) hc0).mono ?_
  rintro e w1 ⟨rfl, hb1⟩
  replace HV := Aside0.mk (HV.out.next hb1)
  clear hb1 HG0
  cases b0
  · have hc := HV.out.cells
    go_wp2_with fail
    refine (great2 (HR1.out.below HV.out.below) (HR2.out.below HV.out.below) HG.out).mono ?_
    rintro e w2 ⟨rfl, hb2⟩
    have HW := Aside0.mk (HV.out.next hb2)
    clear hb2 HV hc HG
    cases b
    · by_cases hk5 : (a3.size : Int) > 500
      · go_wp2_with fail
        go_ret
        exact ⟨rfl, HW.out.below⟩
      · have HT := Aside0.mk (hfl.out (by simp))
        have HF := Aside0.mk (fits_tot HT.out)
        have hl5 : l0.length ≤ 500 := Nat.le_trans (tot_len l0) HT.out
        have hx5 : x1.f8.length ≤ 500 := HG2.out (by simp)
        clear hfl HG2
        have hc := HW.out.cells
        go_wp2_with fail
        refine (tusklaw04_Own.calls x1.f0 x1.f1 x1.f2 x1.f3 x1.f4 x1.f5 x1.f6 A1_7 c1_7 x1.f7 A1_8 c1_8 x1.f8 _ _ _ _ _ _ _ _ _ w2 (HR1.out.below HW.out.below).r7 HR1.out.l7 (HR1.out.below HW.out.below).r8 HR1.out.l8 (own_one x1 HS1.out)).mono ?_
        rintro e w3 ⟨v7, v8, rfl, h7, h8, hb3⟩
        have HW3 := Aside0.mk (HW.out.next hb3)
        obtain ⟨V_7, v_7, rfl, l7, r7⟩ := Kd.R_reads h7
        obtain ⟨U_8, u_8, rfl, l8, _⟩ := Kd.R_reads h8
        have HL7 := Aside0.mk l7
        have HBX := Aside0.mk (State.blk_alloc w3 (.cells #[.int .i64 x1.f0, .string x1.f1, .string x1.f2, .int .u64 x1.f3, .int .u64 x1.f4, .string x1.f5, .string x1.f6, .slice V_7 x1.f7.length v_7, .slice U_8 x1.f8.length u_8] 26))
        have h8b : Aside0 (Kd.string.R 9 w3 w2.heap.size (fun k => some k ≠ (Value.slice V_7 x1.f7.length v_7).ownBlock ∧ k ≠ w3.heap.size) (.slice U_8 x1.f8.length u_8) x1.f8) := ⟨Kd.R_mono (Kd.R_bound h8) (fun k hk => ⟨hk.1, by have := hk.2.2.1; omega⟩)⟩
        have h7b : Aside0 (Kd.string.R 9 w3 w2.heap.size (fun k => some k ≠ (Value.slice U_8 x1.f8.length u_8).ownBlock ∧ k < w3.heap.size) (.slice V_7 x1.f7.length v_7) x1.f7) := ⟨Kd.R_mono (Kd.R_bound h7) (fun k hk => ⟨hk.1, hk.2.2.1⟩)⟩
        have hfr : Aside0 (∀ k, w3.heap.size < k → some k ≠ (Value.slice V_7 x1.f7.length v_7).ownBlock ∧ k ≠ w3.heap.size) := ⟨fun k hk => ⟨by have := Kd.R_ne_new h7 (k - w3.heap.size); rwa [show w3.heap.size + (k - w3.heap.size) = k by omega] at this, by omega⟩⟩
        have hnr : Aside0 (some w3.heap.size ≠ (Value.slice U_8 x1.f8.length u_8).ownBlock) := ⟨Kd.R_ne_new h8 0⟩
        have HB3 := Aside0.mk hb3
        clear h7 h8 l7 l8 hc
        have hlit : ∀ (o : Obj), Below w2.heap.size w2 (w3.alloc o) := fun o => HB3.out.alloc HB3.out.size o
        have HLIT := Aside0.mk hlit
        have hlen8 : (x1.f8.length + 1) * 16 ≤ 140737488355328 := by omega
        clear hlit hb3
        go_wp2_with ((with_reducible refine gate_builtin (b := .append) (xs := #[.tmp 33, .tmp 35]) rfl ?_); at_builtin; apply append_key (w := w2) (v := .slice U_8 x1.f8.length u_8) (xs := x1.f8) (key := a3) (ok := fun k => some k ≠ (Value.slice V_7 x1.f7.length v_7).ownBlock ∧ k ≠ w3.heap.size); (case hg => rfl); (case ho => rfl); (case hs => rfl); (case hx => rw [alloc_size]; rfl); (case HO => exact Kd.R_alloc h8b.out _); (case HB => exact HLIT.out _); (case hl => exact hlen8); (case hf => intro k hk; exact hfr.out k (by simp at hk; omega)); intro v1 w4 h1 hb4 hg4; obtain ⟨V_8, v_8, e8⟩ := Kd.R_slice h1; rw [List.length_append, List.length_singleton] at e8; subst e8; have hbx4 := blk_grown HBX.out hg4 hnr.out; have HBX4 := Aside0.mk hbx4; have H7C := Aside0.mk (R_grow (Kd.R_alloc h7b.out _) hg4 (fun k hk => hk.1)); have H8C := Aside0.mk h1; have HB4 := Aside0.mk hb4; have hc4 : w4.cell? ⟨w3.heap.size, 8, none⟩ = some (.slice U_8 x1.f8.length u_8) := (by rw [blk_cell hbx4]; rfl); have hf4 := blk_frozen hbx4 8; clear hb4 h1 hg4 hbx4)
        have HW5 := Aside0.mk (HW.out.next (below_set (j := 8) (v := .slice V_8 (x1.f8.length + 1) v_8) HB4.out HB3.out.size))
        have HX5 := Aside0.mk (blk_put HBX4.out 8 (.slice V_8 (x1.f8.length + 1) v_8) rfl)
        have HRC : Aside0 (Rd { x1 with f8 := x1.f8 ++ [a3] } V_7 v_7 V_8 v_8 (w4.setCell ⟨w3.heap.size, 8, none⟩ (.slice V_8 (x1.f8.length + 1) v_8))) := ⟨⟨(Kd.R_reads' (R_box H7C.out (b := w3.heap.size) (j := 8) (fun k hk => by have := hk.2; omega) (.slice V_8 (x1.f8.length + 1) v_8))).2.2, HL7.out, (by
          have h := R_box H8C.out (b := w3.heap.size) (j := 8) (fun k hk => hk.2) (.slice V_8 (x1.f8.length + 1) v_8)
          have e : (x1.f8 ++ [a3]).length = x1.f8.length + 1 := by simp
          exact (Kd.R_reads' h).2.2), (by
          have h := (Kd.R_reads' H8C.out).2.1
          simpa using h)⟩⟩
        clear H7C H8C HBX4 h7b h8b hfr hnr HL7 HLIT hlen8 HBX
        generalize w4.setCell ⟨w3.heap.size, 8, none⟩ (.slice V_8 (x1.f8.length + 1) v_8) = w5 at *
        have hsc : Aside0 (Small { x1 with f8 := x1.f8 ++ [a3] }) := ⟨⟨HS1.out.h7, by simp only [List.length_append, List.length_singleton]; omega⟩⟩
        have hS0 : w5.cell? ⟨w.heap.size, 0, none⟩ = some (.int .i64 x1.f0) ∧ w5.cell? ⟨w.heap.size, 1, none⟩ = some (.string x1.f1) ∧ w5.cell? ⟨w.heap.size, 2, none⟩ = some (.string x1.f2) ∧ w5.cell? ⟨w.heap.size, 3, none⟩ = some (.int .u64 x1.f3) ∧ w5.cell? ⟨w.heap.size, 4, none⟩ = some (.int .u64 x1.f4) ∧ w5.cell? ⟨w.heap.size, 5, none⟩ = some (.string x1.f5) ∧ w5.cell? ⟨w.heap.size, 6, none⟩ = some (.string x1.f6) ∧ w5.cell? ⟨w.heap.size, 7, none⟩ = some (.slice A1_7 x1.f7.length c1_7) ∧ w5.cell? ⟨w.heap.size, 8, none⟩ = some (.slice A1_8 x1.f8.length c1_8) ∧ w5.cell? ⟨w.heap.size + 1, 0, none⟩ = some (.int .i64 x2.f0) ∧ w5.cell? ⟨w.heap.size + 1, 1, none⟩ = some (.string x2.f1) ∧ w5.cell? ⟨w.heap.size + 1, 2, none⟩ = some (.string x2.f2) ∧ w5.cell? ⟨w.heap.size + 1, 3, none⟩ = some (.int .u64 x2.f3) ∧ w5.cell? ⟨w.heap.size + 1, 4, none⟩ = some (.int .u64 x2.f4) ∧ w5.cell? ⟨w.heap.size + 1, 5, none⟩ = some (.string x2.f5) ∧ w5.cell? ⟨w.heap.size + 1, 6, none⟩ = some (.string x2.f6) ∧ w5.cell? ⟨w.heap.size + 1, 7, none⟩ = some (.slice A2_7 x2.f7.length c2_7) ∧ w5.cell? ⟨w.heap.size + 1, 8, none⟩ = some (.slice A2_8 x2.f8.length c2_8) ∧ w5.cell? ⟨w3.heap.size, 0, none⟩ = some (.int .i64 x1.f0) ∧ w5.cell? ⟨w3.heap.size, 1, none⟩ = some (.string x1.f1) ∧ w5.cell? ⟨w3.heap.size, 2, none⟩ = some (.string x1.f2) ∧ w5.cell? ⟨w3.heap.size, 3, none⟩ = some (.int .u64 x1.f3) ∧ w5.cell? ⟨w3.heap.size, 4, none⟩ = some (.int .u64 x1.f4) ∧ w5.cell? ⟨w3.heap.size, 5, none⟩ = some (.string x1.f5) ∧ w5.cell? ⟨w3.heap.size, 6, none⟩ = some (.string x1.f6) ∧ w5.cell? ⟨w3.heap.size, 7, none⟩ = some (.slice V_7 x1.f7.length v_7) ∧ w5.cell? ⟨w3.heap.size, 8, none⟩ = some (.slice V_8 (x1.f8.length + 1) v_8) := by
          obtain ⟨a1, a2, a3_, a4, a5, a6, a7, a8, a9, b1, b2, b3, b4, b5, b6, b7, b8, b9⟩ := HW5.out.cells
          exact ⟨a1, a2, a3_, a4, a5, a6, a7, a8, a9, b1, b2, b3, b4, b5, b6, b7, b8, b9, (by rw [blk_cell HX5.out]; rfl), (by rw [blk_cell HX5.out]; rfl), (by rw [blk_cell HX5.out]; rfl), (by rw [blk_cell HX5.out]; rfl), (by rw [blk_cell HX5.out]; rfl), (by rw [blk_cell HX5.out]; rfl), (by rw [blk_cell HX5.out]; rfl), (by rw [blk_cell HX5.out]; rfl), (by rw [blk_cell HX5.out]; rfl)⟩
        have HQ : Aside0 (∀ w', Below w5.heap.size w5 w' → w'.cell? ⟨w.heap.size, 0, none⟩ = some (.int .i64 x1.f0) ∧ w'.cell? ⟨w.heap.size, 1, none⟩ = some (.string x1.f1) ∧ w'.cell? ⟨w.heap.size, 2, none⟩ = some (.string x1.f2) ∧ w'.cell? ⟨w.heap.size, 3, none⟩ = some (.int .u64 x1.f3) ∧ w'.cell? ⟨w.heap.size, 4, none⟩ = some (.int .u64 x1.f4) ∧ w'.cell? ⟨w.heap.size, 5, none⟩ = some (.string x1.f5) ∧ w'.cell? ⟨w.heap.size, 6, none⟩ = some (.string x1.f6) ∧ w'.cell? ⟨w.heap.size, 7, none⟩ = some (.slice A1_7 x1.f7.length c1_7) ∧ w'.cell? ⟨w.heap.size, 8, none⟩ = some (.slice A1_8 x1.f8.length c1_8) ∧ w'.cell? ⟨w.heap.size + 1, 0, none⟩ = some (.int .i64 x2.f0) ∧ w'.cell? ⟨w.heap.size + 1, 1, none⟩ = some (.string x2.f1) ∧ w'.cell? ⟨w.heap.size + 1, 2, none⟩ = some (.string x2.f2) ∧ w'.cell? ⟨w.heap.size + 1, 3, none⟩ = some (.int .u64 x2.f3) ∧ w'.cell? ⟨w.heap.size + 1, 4, none⟩ = some (.int .u64 x2.f4) ∧ w'.cell? ⟨w.heap.size + 1, 5, none⟩ = some (.string x2.f5) ∧ w'.cell? ⟨w.heap.size + 1, 6, none⟩ = some (.string x2.f6) ∧ w'.cell? ⟨w.heap.size + 1, 7, none⟩ = some (.slice A2_7 x2.f7.length c2_7) ∧ w'.cell? ⟨w.heap.size + 1, 8, none⟩ = some (.slice A2_8 x2.f8.length c2_8) ∧ w'.cell? ⟨w3.heap.size, 0, none⟩ = some (.int .i64 x1.f0) ∧ w'.cell? ⟨w3.heap.size, 1, none⟩ = some (.string x1.f1) ∧ w'.cell? ⟨w3.heap.size, 2, none⟩ = some (.string x1.f2) ∧ w'.cell? ⟨w3.heap.size, 3, none⟩ = some (.int .u64 x1.f3) ∧ w'.cell? ⟨w3.heap.size, 4, none⟩ = some (.int .u64 x1.f4) ∧ w'.cell? ⟨w3.heap.size, 5, none⟩ = some (.string x1.f5) ∧ w'.cell? ⟨w3.heap.size, 6, none⟩ = some (.string x1.f6) ∧ w'.cell? ⟨w3.heap.size, 7, none⟩ = some (.slice V_7 x1.f7.length v_7) ∧ w'.cell? ⟨w3.heap.size, 8, none⟩ = some (.slice V_8 (x1.f8.length + 1) v_8)) := ⟨fun w' hb => by
          obtain ⟨q0, q1, q2, q3, q4, q5, q6, q7, q8, q9, q10, q11, q12, q13, q14, q15, q16, q17, q18, q19, q20, q21, q22, q23, q24, q25, q26⟩ := hS0
          exact ⟨pw_cell_below hb q0, pw_cell_below hb q1, pw_cell_below hb q2, pw_cell_below hb q3, pw_cell_below hb q4, pw_cell_below hb q5, pw_cell_below hb q6, pw_cell_below hb q7, pw_cell_below hb q8, pw_cell_below hb q9, pw_cell_below hb q10, pw_cell_below hb q11, pw_cell_below hb q12, pw_cell_below hb q13, pw_cell_below hb q14, pw_cell_below hb q15, pw_cell_below hb q16, pw_cell_below hb q17, pw_cell_below hb q18, pw_cell_below hb q19, pw_cell_below hb q20, pw_cell_below hb q21, pw_cell_below hb q22, pw_cell_below hb q23, pw_cell_below hb q24, pw_cell_below hb q25, pw_cell_below hb q26⟩⟩
        clear HX5
        go_upto_region 7 with fail
        go_cut [49] (fun s49 wx => s49 = .bool false ∧ Below w5.heap.size w5 wx)
        case first =>
          cases cb
          case' false =>
            obtain ⟨z0, z1, z2, z3, z4, z5, z6, z7, z8, z9, z10, z11, z12, z13, z14, z15, z16, z17, z18, z19, z20, z21, z22, z23, z24, z25, z26⟩ := hS0
            go_region_with (first
                | (go_at_call_has 14 ((Value.slice A1_7 x1.f7.length c1_7)); refine (ownC HS1.out (HR1.out.below ?_)).mono ?_; (exact below_drew1 HW5.out.below); rintro e wa ⟨B_7, d_7, B_8, d_8, rfl, hra, hba⟩; have HBa := Aside0.mk (below_then (below_drew1 (Below.refl w5.heap.size w5)) (Nat.le_refl _) hba); have HRa := Aside0.mk hra; clear hba hra; (obtain ⟨y0, y1, y2, y3, y4, y5, y6, y7, y8, y9, y10, y11, y12, y13, y14, y15, y16, y17, _⟩ := HQ.out wa HBa.out))
                | (go_at_call_has 14 ((Value.slice A2_7 x2.f7.length c2_7)); refine (ownC HS2.out (HR2.out.below ?_)).mono ?_; (exact (below_then HW5.out.below HW5.out.below.size HBa.out)); rintro e wb ⟨E_7, e_7, E_8, e_8, rfl, hrb, hbb⟩; have HBb := Aside0.mk (below_then HBa.out HBa.out.size hbb); have HRab := Aside0.mk (HRa.out.below hbb); have HRb := Aside0.mk hrb; clear hbb hrb HRa)
                | (go_at_call 13; refine (clashC HS1.out HS2.out ?_ ?_ HC.out).mono ?_; (exact HRab.out); (exact HRb.out); rintro e w7 ⟨rfl, hbc⟩; have HB7 := Aside0.mk (below_then HBb.out HBb.out.size hbc); clear hbc HRab HRb))
          case' true =>
            go_region_held3 (fun w' => w'.cell? ⟨w.heap.size, 0, none⟩ = some (.int .i64 x1.f0) ∧ w'.cell? ⟨w.heap.size, 1, none⟩ = some (.string x1.f1) ∧ w'.cell? ⟨w.heap.size, 2, none⟩ = some (.string x1.f2) ∧ w'.cell? ⟨w.heap.size, 3, none⟩ = some (.int .u64 x1.f3) ∧ w'.cell? ⟨w.heap.size, 4, none⟩ = some (.int .u64 x1.f4) ∧ w'.cell? ⟨w.heap.size, 5, none⟩ = some (.string x1.f5) ∧ w'.cell? ⟨w.heap.size, 6, none⟩ = some (.string x1.f6) ∧ w'.cell? ⟨w.heap.size, 7, none⟩ = some (.slice A1_7 x1.f7.length c1_7) ∧ w'.cell? ⟨w.heap.size, 8, none⟩ = some (.slice A1_8 x1.f8.length c1_8) ∧ w'.cell? ⟨w.heap.size + 1, 0, none⟩ = some (.int .i64 x2.f0) ∧ w'.cell? ⟨w.heap.size + 1, 1, none⟩ = some (.string x2.f1) ∧ w'.cell? ⟨w.heap.size + 1, 2, none⟩ = some (.string x2.f2) ∧ w'.cell? ⟨w.heap.size + 1, 3, none⟩ = some (.int .u64 x2.f3) ∧ w'.cell? ⟨w.heap.size + 1, 4, none⟩ = some (.int .u64 x2.f4) ∧ w'.cell? ⟨w.heap.size + 1, 5, none⟩ = some (.string x2.f5) ∧ w'.cell? ⟨w.heap.size + 1, 6, none⟩ = some (.string x2.f6) ∧ w'.cell? ⟨w.heap.size + 1, 7, none⟩ = some (.slice A2_7 x2.f7.length c2_7) ∧ w'.cell? ⟨w.heap.size + 1, 8, none⟩ = some (.slice A2_8 x2.f8.length c2_8) ∧ w'.cell? ⟨w3.heap.size, 0, none⟩ = some (.int .i64 x1.f0) ∧ w'.cell? ⟨w3.heap.size, 1, none⟩ = some (.string x1.f1) ∧ w'.cell? ⟨w3.heap.size, 2, none⟩ = some (.string x1.f2) ∧ w'.cell? ⟨w3.heap.size, 3, none⟩ = some (.int .u64 x1.f3) ∧ w'.cell? ⟨w3.heap.size, 4, none⟩ = some (.int .u64 x1.f4) ∧ w'.cell? ⟨w3.heap.size, 5, none⟩ = some (.string x1.f5) ∧ w'.cell? ⟨w3.heap.size, 6, none⟩ = some (.string x1.f6) ∧ w'.cell? ⟨w3.heap.size, 7, none⟩ = some (.slice V_7 x1.f7.length v_7) ∧ w'.cell? ⟨w3.heap.size, 8, none⟩ = some (.slice V_8 (x1.f8.length + 1) v_8)) (first | assumption | exact hS0)
              (first
                | (go_at_call_has 14 ((Value.slice A1_7 x1.f7.length c1_7)); refine (ownC HS1.out (HR1.out.below (below_drew1 HW5.out.below))).mono ?_; rintro e wa ⟨B_7, d_7, B_8, d_8, rfl, hra, hba⟩; have HBa := Aside0.mk (below_then (below_drew1 (Below.refl w5.heap.size w5)) (Nat.le_refl _) hba); have hSa := HQ.out wa HBa.out; have HRa := Aside0.mk hra; clear hba hra)
                | (go_at_call_has 14 ((Value.slice A2_7 x2.f7.length c2_7)); have t_ := HRa; clear t_; refine (ownC HS2.out (HR2.out.below (below_then HW5.out.below HW5.out.below.size HBa.out))).mono ?_; rintro e wb ⟨E_7, e_7, E_8, e_8, rfl, hrb, hbb⟩; have HBb := Aside0.mk (below_then HBa.out HBa.out.size hbb); have hSb := HQ.out wb HBb.out; have HRab := Aside0.mk (HRa.out.below hbb); have HRb := Aside0.mk hrb; clear hbb hrb HRa)
                | (go_at_call 13; have t_ := HRab; clear t_; refine (clashC HS1.out HS2.out HRab.out HRb.out HC.out).mono ?_; rintro e wc ⟨rfl, hbc⟩; have HBc := Aside0.mk (below_then HBb.out HBb.out.size hbc); have hSc := HQ.out wc HBc.out; clear hbc HRab HRb)
                | (go_at_call_has 14 ((Value.slice A2_7 x2.f7.length c2_7)); refine (ownC HS2.out (HR2.out.below (below_then HW5.out.below HW5.out.below.size HBc.out))).mono ?_; rintro e wd ⟨F_7, f_7, F_8, f_8, rfl, hrd, hbd⟩; have HBd := Aside0.mk (below_then HBc.out HBc.out.size hbd); have hSd := HQ.out wd HBd.out; have HRd := Aside0.mk hrd; clear hbd hrd)
                | (go_at_call 13; refine (clashK hsc.out HS2.out (HRC.out.below HBd.out) HRd.out (HCM.out (by simp))).mono ?_; rintro e w7 ⟨rfl, hbe⟩; have HB7 := Aside0.mk (below_then HBd.out HBd.out.size hbe); have hS7 := HQ.out w7 HB7.out; clear hbe))
          all_goals
            go_wp2_with fail
            go_meet
            exact ⟨rfl, HB7.out⟩
        case rest =>
          obtain ⟨rfl, hb7⟩ := hcut
          have HW7 := Aside0.mk (HW5.out.next hb7)
          clear HQ HC HCM HRC hsc hb7 HW5 hS0
          go_wp2_with fail
          refine (ownList HS.out hlen (Kd.C_below HRL.out HW7.out.below) hc0).mono ?_
          rintro e w8 ⟨Ao, co, rfl, hco, hro, hb8⟩
          have HW8 := Aside0.mk (HW7.out.next hb8)
          have HRO := Aside0.mk hro
          clear hb8 HW7 hro
          go_wp2_with fail
          refine (edgesK HF.out HRO.out hco).mono ?_
          rintro e w9 ⟨Ae, ce, rfl, hce, hre, hb9⟩
          have HW9 := Aside0.mk (HW8.out.next hb9)
          have HRE := Aside0.mk hre
          clear hb9 HW8 hre HRO
          go_wp2_with fail
          have hn2 : l0.length / 2 ≤ l0.length := Nat.div_le_self _ _
          have hts : Aside0 (∀ x, x ∈ l0.take (l0.length / 2) → Small x) := ⟨fun x hx => HS.out x (List.mem_of_mem_take hx)⟩
          have htl : (l0.take (l0.length / 2)).length = l0.length / 2 := by rw [List.length_take]; omega
          have hct := Kd.C_take (Kd.C_below HRL.out HW9.out.below) hn2
          have hft : FitsAll (l0.take (l0.length / 2)) := ⟨by rw [htl]; omega, fun x hx => HF.out.2 x (List.mem_of_mem_take hx)⟩
          have HFT := Aside0.mk hft
          have HFR := Aside0.mk (rows_front l0 (l0.length / 2) hn2)
          have hcc : l0.length / 2 ≤ c0 := by omega
          have hol := ownList hts.out (by rw [htl]; omega) hct (by rw [htl]; exact hcc)
          have HM := Aside0.mk fun (e : Int × Int) (he : e ∈ rows l0 l0.length) => rows_mem he
          have hmb : (rows l0 l0.length).length ≤ 250000 := Nat.le_trans (rows_len l0 l0.length) (Nat.mul_le_mul hl5 hl5)
          generalize l0.take (l0.length / 2) = lt at *
          rw [htl] at hol hct
          refine hol.mono ?_
          rintro e wx ⟨Ap, cp, rfl, hcp, hrp, hbx⟩
          have HWX := Aside0.mk (HW9.out.next hbx)
          have HREX := Aside0.mk (Kd.C_below HRE.out hbx)
          clear hbx HW9 HRE hol hct hts
          rw [← htl] at hcp hrp
          have hed := edgesK HFT.out hrp hcp
          rw [HFR.out] at hed
          rw [htl] at hed
          have HED := Aside0.mk hed
          clear hed hrp
          generalize rows l0 l0.length = E at *
          have h2i : (l0.length : Int) / 2 = ((l0.length / 2 : Nat) : Int) := by omega
          generalize l0.length / 2 = n2 at *
          generalize hm : E.length = m at *
          generalize hmf : (E.filter (fore n2)).length = mf at *
          have HMM := Aside0.mk hm
          have HMF := Aside0.mk hmf
          clear hm hmf htl HFR HFT
          have hfl : mf ≤ m := by rw [← HMF.out, ← HMM.out]; exact List.length_filter_le _ _
          go_wp2_with fail
          refine HED.out.mono ?_
          rintro e wy ⟨Af, cf, rfl, hcf, hrf, hby⟩
          have HB := Aside0.mk (HWX.out.next hby).below
          have HRE := Aside0.mk (Kd.C_below HREX.out hby)
          have HRF := Aside0.mk hrf
          clear hby hrf HREX HWX HED hcp
          have HN2 := Aside0.mk h2i
          clear h2i
          generalize hnl : l0.length = nl at *
          clear hnl
          go_wp2_with fail
          go_loopw [13, 14] (fun v13 v14 wr => ∃ i : Nat, i ≤ m ∧ v14 = .int .i64 i ∧ v13 = .int .i64 (cnt n2 E i : Nat) ∧ Drawn0 wy wr) (fun _ i _ => m - (intOf i).toNat)
          case atStart => exact ⟨0, by omega, rfl, by rw [cnt_zero]; rfl, Drawn0.refl _⟩
          case round =>
            obtain ⟨i, hi, rfl, rfl, ⟨⟨q, rfl⟩⟩⟩ := hrel
            have hcl := cnt_le n2 E i
            have hcl1 := cnt_le n2 E (i + 1)
            by_cases hlt : i < m
            · have hi2 : i < E.length := by rw [HMM.out]; exact hlt
              have hmem := HM.out E[i] (List.getElem_mem hi2)
              have hyes := Aside0.mk (@cnt_yes n2 E i hi2)
              have hno := Aside0.mk (@cnt_no n2 E i hi2)
              obtain ⟨ad1, c1, rfl, _, hK1, hcs1⟩ := Kd.C_get (Kd.C_drewN HRE.out q) z37 (i : Int) (by omega) (by omega)
              rw [Int.toNat_natCast] at hK1 hcs1
              have g1 : (E.map asS).getD i z37 = asS E[i] := by rw [List.getD_eq_getElem?_getD, List.getElem?_map, List.getElem?_eq_getElem hi2]; rfl
              rw [g1] at hK1
              clear g1
              obtain ⟨a, c, hE, ha1, ha2, ha3, _⟩ := hmem
              generalize E[i] = e at *
              subst hE
              obtain ⟨_, _, rfl, rfl, rfl⟩ := hK1
              have hx0 : wy.cell? (ad1.add (i * 2)) = some (.int .i64 (a : Int)) := hcs1 0 _ rfl
              have hx1 : wy.cell? ⟨(ad1.add (i * 2)).block, (ad1.add (i * 2)).off + 1, none⟩ = some (.int .i64 (c : Int)) := by rw [← add_field _ _ 1 (by omega)]; exact hcs1 1 _ rfl
              have d1 : decide (c ≤ a) = false := decide_eq_false (by omega)
              have d2 : decide (nl ≤ c) = false := decide_eq_false (by omega)
              clear hcs1 hi2
              rw [HMM.out] at hcl hcl1
              by_cases hc2 : c < n2
              · have hfo : fore n2 ((a : Int), (c : Int)) = true := by simp [fore]; omega
                obtain ⟨hy1, hy2⟩ := hyes.out hfo
                have HY1 := Aside0.mk hy1
                have hkl : cnt n2 E i < mf := by rw [← HMF.out]; exact (List.getElem?_eq_some_iff.1 hy2).1
                obtain ⟨ad2, c2, rfl, _, hK2, hcs2⟩ := Kd.C_get (Kd.C_drewN HRF.out q) z37 (cnt n2 E i : Int) (by omega) (by omega)
                rw [Int.toNat_natCast] at hK2 hcs2
                have g2 : ((E.filter (fore n2)).map asS).getD (cnt n2 E i) z37 = asS ((a : Int), (c : Int)) := by rw [List.getD_eq_getElem?_getD, List.getElem?_map, hy2]; rfl
                rw [g2] at hK2
                clear g2 hy2 hyes hno hfo hy1
                generalize cnt n2 E i = kk at *
                obtain ⟨_, _, rfl, rfl, rfl⟩ := hK2
                have hy0 : wy.cell? (ad2.add (kk * 2)) = some (.int .i64 (a : Int)) := hcs2 0 _ rfl
                have hy1 : wy.cell? ⟨(ad2.add (kk * 2)).block, (ad2.add (kk * 2)).off + 1, none⟩ = some (.int .i64 (c : Int)) := by rw [← add_field _ _ 1 (by omega)]; exact hcs2 1 _ rfl
                have d3 : decide ((c : Int) < (nl : Int) / 2) = true := decide_eq_true (by rw [HN2.out]; omega)
                have d4 : decide (mf ≤ kk) = false := decide_eq_false (by omega)
                clear hcs2
                go_wp2_with fail
                go_quiet (fail)
                go_wp2_with fail
                go_quiet (fail)
                go_wp2_with fail
                go_roundw
                case rel => exact ⟨i + 1, by omega, by go_num, by rw [HY1.out]; go_num, ⟨⟨_, rfl⟩⟩⟩
                case measure => simp [intOf]; omega
              · have hfo : fore n2 ((a : Int), (c : Int)) = false := by simp [fore]; omega
                have HY1 := Aside0.mk (hno.out hfo)
                have d3 : decide ((c : Int) < (nl : Int) / 2) = false := decide_eq_false (by rw [HN2.out]; omega)
                clear hyes hno hfo
                generalize hkk : cnt n2 E i = kk at *
                clear hkk
                go_wp2_with fail
                go_quiet (fail)
                go_wp2_with fail
                go_roundw
                case rel => exact ⟨i + 1, by omega, by go_num, by rw [HY1.out], ⟨⟨_, rfl⟩⟩⟩
                case measure => simp [intOf]; omega
            · obtain rfl : i = m := by omega
              have hke : Aside0 (cnt n2 E i = mf) := ⟨by rw [← HMM.out, cnt_all, HMF.out]⟩
              rw [hke.out]
              have hmm : ((mf : Int) == (mf : Int)) = true := by simp
              go_wp2_with fail
              go_ret
              exact ⟨rfl, pw_below_drewN HB.out _⟩
    · go_wp2_with fail
      go_ret
      exact ⟨rfl, HW.out.below⟩
  · go_wp2_with fail
    go_ret
    exact ⟨rfl, HV.out.below⟩
end Go.Proofs.Ytmkgbkocanfckaa.HandAccessMore
