/- tusklaw20.works walked: it answers true. -/
import Derived.Test.YtmkgbkocanfckaaPlain20
import Derived.Test.YtmkgbkocanfckaaState
import Derived.Deep.RegionHeld3
import Derived.ChangeKeysEq
import Derived.Sort.AtCall
namespace Go.Proofs.Ytmkgbkocanfckaa.Works20
open Go.RowKit Go.Proofs.YtmkgbkocanfckaaW.PrintWords Go.Proofs.YtmkgbkocanfckaaW.PrintMore Go.Proofs.Ytmkgbkocanfckaa.QKinds Go.Proofs.Ytmkgbkocanfckaa.QBase20 Go.Proofs.Ytmkgbkocanfckaa.Meet Go.Proofs.Ytmkgbkocanfckaa.Edges Go.Proofs.Ytmkgbkocanfckaa.GroupsP Go.Proofs.Ytmkgbkocanfckaa.Groups Go.Proofs.Ytmkgbkocanfckaa.Contracts20 Go.Proofs.Ytmkgbkocanfckaa.Plain20
set_option linter.unusedVariables false
set_option linter.unusedSimpArgs false
theorem C_block {α : Type} {d : Kd α} {W : World} {b : Nat} {e : TypeId} {cells : List Value} {xs : List α} (hb : W.heap[b]? = some (.cells cells.toArray e (0, 0))) (hn : xs.length ≤ 9223372036854775807) (hr : Reps (d.K W) d.sz xs cells) : d.C W (some ⟨b, 0, none⟩) xs.length xs := by
  refine ⟨rfl, hn, fun _ => ⟨_, rfl, fun j p hj => ⟨(cells.drop (j * d.sz)).take d.sz, d.K_len (hr.2 j p hj), hr.2 j p hj, fun i u hu => ?_⟩⟩⟩
  rw [add_plain, blk_cell hb, List.getElem?_toArray]
  rw [List.getElem?_take] at hu
  split at hu
  · rw [List.getElem?_drop] at hu; exact hu
  · cases hu
theorem C_none {α : Type} (d : Kd α) (W : World) : d.C W none ([] : List α).length [] := ⟨rfl, by simp, fun h => absurd h (Nat.lt_irrefl 0)⟩
def sa : ByteArray := ⟨#[97]⟩
def sb : ByteArray := ⟨#[98]⟩
def t0 : S26 := { z26 with f8 := [sa] }
def t1 : S26 := { z26 with f7 := [sa] }
def t2 : S26 := { z26 with f8 := [sb] }
theorem C_one {W : World} {b : Nat} {x : ByteArray} (hb : W.heap[b]? = some (.cells #[.string x] 9 (0, 0))) : Kd.string.C W (some ⟨b, 0, none⟩) [x].length [x] :=
  C_block (cells := [.string x]) hb (by simp) (Reps.snoc (Reps.none _ _) (show Kd.string.K W x [.string x] from rfl) rfl)
def cells0 (b : Nat) : List Value := [.int .i64 0, .string ⟨#[]⟩, .string ⟨#[]⟩, .int .u64 0, .int .u64 0, .string ⟨#[]⟩, .string ⟨#[]⟩, .slice none 0 0, .slice (some ⟨b, 0, none⟩) 1 1]
def cells1 (b : Nat) : List Value := [.int .i64 0, .string ⟨#[]⟩, .string ⟨#[]⟩, .int .u64 0, .int .u64 0, .string ⟨#[]⟩, .string ⟨#[]⟩, .slice (some ⟨b, 0, none⟩) 1 1, .slice none 0 0]
theorem K0 {W : World} {b : Nat} {x : ByteArray} (hb : W.heap[b]? = some (.cells #[.string x] 9 (0, 0))) : k26.K W { z26 with f8 := [x] } (cells0 b) :=
  k26_mk W { z26 with f8 := [x] } (A7 := none) (c7 := 0) (Nat.le_refl _) (C_none _ _) (c8 := 1) (Nat.le_refl _) (C_one hb)
theorem K1 {W : World} {b : Nat} {x : ByteArray} (hb : W.heap[b]? = some (.cells #[.string x] 9 (0, 0))) : k26.K W { z26 with f7 := [x] } (cells1 b) :=
  k26_mk W { z26 with f7 := [x] } (c7 := 1) (Nat.le_refl _) (C_one hb) (A8 := none) (c8 := 0) (Nat.le_refl _) (C_none _ _)
theorem edges3 : rows [t0, t1, t2] 3 = [(0, 1)] := by decide +kernel
theorem groups3 : groups 3 (edgesN [t0, t1, t2]) = [0, 0, 2] := by decide +kernel
theorem clash01 : clashP t0 t1 = true := by decide +kernel
theorem clash12 : clashP t1 t2 = false := by decide +kernel
/-- The literal's blocks. -/
structure Lit (b : Nat) (W : World) : Prop where
  h0 : W.heap[b]? = some (.cells #[.string sa] 9 (0, 0))
  h1 : W.heap[b + 1]? = some (.cells #[.string sa] 9 (0, 0))
  h2 : W.heap[b + 1 + 1]? = some (.cells #[.string sb] 9 (0, 0))
  h3 : W.heap[b + 1 + 1 + 1]? = some (.cells (cells0 b ++ cells1 (b + 1) ++ cells0 (b + 1 + 1)).toArray 26 (0, 0))
def litW (w : World) : World := (((w.alloc (.cells #[.string sa] 9)).alloc (.cells #[.string sa] 9)).alloc (.cells #[.string sb] 9)).alloc (.cells (cells0 w.heap.size ++ cells1 (w.heap.size + 1) ++ cells0 (w.heap.size + 1 + 1)).toArray 26)
theorem Lit.below {b : Nat} {W W1 : World} (h : Lit b W) (k : Below W.heap.size W W1) : Lit b W1 := ⟨State.blk_below h.h0 k, State.blk_below h.h1 k, State.blk_below h.h2 k, State.blk_below h.h3 k⟩
theorem lit_below (w : World) : Below w.heap.size w (litW w) := ((((Below.refl _ _).alloc (Nat.le_refl _) _).alloc (by simp) _).alloc (by simp; omega) _).alloc (by simp; omega) _
theorem lit_mk (w : World) : Lit w.heap.size (litW w) := by
  have a0 := State.blk_alloc w (.cells #[.string sa] 9)
  have a1 := State.blk_alloc (w.alloc (.cells #[.string sa] 9)) (.cells #[.string sa] 9)
  have a2 := State.blk_alloc ((w.alloc (.cells #[.string sa] 9)).alloc (.cells #[.string sa] 9)) (.cells #[.string sb] 9)
  have a3 := State.blk_alloc (((w.alloc (.cells #[.string sa] 9)).alloc (.cells #[.string sa] 9)).alloc (.cells #[.string sb] 9)) (.cells (cells0 w.heap.size ++ cells1 (w.heap.size + 1) ++ cells0 (w.heap.size + 1 + 1)).toArray 26)
  have sz : ∀ (W : World) (o : Obj), (W.alloc o).heap.size = W.heap.size + 1 := fun W o => by simp
  rw [sz] at a1
  rw [sz, sz] at a2
  rw [sz, sz, sz] at a3
  have s : ∀ (W : World) (o : Obj), Below W.heap.size W (W.alloc o) := fun W o => (Below.refl _ _).alloc (Nat.le_refl _) o
  exact ⟨State.blk_below (State.blk_below (State.blk_below a0 (s _ _)) (s _ _)) (s _ _), State.blk_below (State.blk_below a1 (s _ _)) (s _ _), State.blk_below a2 (s _ _), a3⟩
theorem Lit.C {b : Nat} {W : World} (h : Lit b W) : Kd.C k26 W (some ⟨b + 1 + 1 + 1, 0, none⟩) [t0, t1, t2].length [t0, t1, t2] :=
  C_block h.h3 (by simp) ((((Reps.none (k26.K W) 9).snoc (K0 h.h0) rfl).snoc (K1 h.h1) rfl).snoc (K0 h.h2) rfl)
theorem eqA (d : Nat) (w : World) (x0 y0 x1 y1 : Int) :
    (Op.equalIn (d + 2) 37 (.agg #[.int .i64 x0, .int .i64 x1]) (.agg #[.int .i64 y0, .int .i64 y1])).run Try.prog w = .ok (x0 == y0 && (x1 == y1)) w := by
  obtain ⟨i_, hi_, hz_⟩ := Option.map_eq_some_iff.1 (show (Try.prog.info? 3).map (fun i => i.size) = some 1 from by kernel_rfl)
  rw [run_equalIn_array (P := Try.prog) w (d + 1) _ _ Try.underlying37 hi_]
  have hc_ : Try.prog.cellsOf 3 = 1 := by kernel_rfl
  simp only [show List.range 2 = [0, 1] from rfl, Op.eqItems, hc_]
  go_simp
  repeat (first | rfl | (split <;> simp_all))
theorem fits3 : FitsAll [t0, t1, t2] := by decide
theorem ef : access_Edges.f [t0, t1, t2] = some [⟨0, 1⟩] := by
  unfold access_Edges.f
  rw [if_pos fits3]
  show some ((rows [t0, t1, t2] 3).map asS) = _
  rw [edges3]; rfl
theorem gf : access_Groups.f [t0, t1, t2] = some [0, 0, 2] := by
  unfold access_Groups.f
  rw [if_pos fits3]
  show some ((groups 3 (edgesN [t0, t1, t2])).map _) = _
  rw [groups3]; rfl
theorem cf {x y : S26} (hx : Small x) (hy : Small y) {b : Bool} (h : clashP x y = b) : access_Clash.f x.f0 x.f1 x.f2 x.f3 x.f4 x.f5 x.f6 x.f7 x.f8 y.f0 y.f1 y.f2 y.f3 y.f4 y.f5 y.f6 y.f7 y.f8 = some b := by rw [← h]; exact clash_p x y hx hy
theorem sm0 : Small t0 := ⟨by decide, by decide⟩
theorem sm1 : Small t1 := ⟨by decide, by decide⟩
theorem sm2 : Small t2 := ⟨by decide, by decide⟩
theorem clash_01 {b : Nat} {W : World} (h : Lit b W) : Calls Try.prog 13 #[.agg #[.int .i64 0, .string ⟨#[]⟩, .string ⟨#[]⟩, .int .u64 0, .int .u64 0, .string ⟨#[]⟩, .string ⟨#[]⟩, .slice none 0 0, .slice (some ⟨b, 0, none⟩) 1 1], .agg #[.int .i64 0, .string ⟨#[]⟩, .string ⟨#[]⟩, .int .u64 0, .int .u64 0, .string ⟨#[]⟩, .string ⟨#[]⟩, .slice (some ⟨b + 1, 0, none⟩) 1 1, .slice none 0 0]] W fun e w' => e = .returned (.bool true) ∧ Below W.heap.size W w' :=
  access_Clash.calls 0 ⟨#[]⟩ ⟨#[]⟩ 0 0 ⟨#[]⟩ ⟨#[]⟩ none 0 [] (some ⟨b, 0, none⟩) 1 [sa] 0 ⟨#[]⟩ ⟨#[]⟩ 0 0 ⟨#[]⟩ ⟨#[]⟩ (some ⟨b + 1, 0, none⟩) 1 [sa] none 0 [] true W (C_none _ _) (Nat.le_refl _) (C_one h.h0) (Nat.le_refl _) (C_one h.h1) (Nat.le_refl _) (C_none _ _) (Nat.le_refl _) (cf sm0 sm1 clash01)
theorem clash_12 {b : Nat} {W : World} (h : Lit b W) : Calls Try.prog 13 #[.agg #[.int .i64 0, .string ⟨#[]⟩, .string ⟨#[]⟩, .int .u64 0, .int .u64 0, .string ⟨#[]⟩, .string ⟨#[]⟩, .slice (some ⟨b + 1, 0, none⟩) 1 1, .slice none 0 0], .agg #[.int .i64 0, .string ⟨#[]⟩, .string ⟨#[]⟩, .int .u64 0, .int .u64 0, .string ⟨#[]⟩, .string ⟨#[]⟩, .slice none 0 0, .slice (some ⟨b + 1 + 1, 0, none⟩) 1 1]] W fun e w' => e = .returned (.bool false) ∧ Below W.heap.size W w' :=
  access_Clash.calls 0 ⟨#[]⟩ ⟨#[]⟩ 0 0 ⟨#[]⟩ ⟨#[]⟩ (some ⟨b + 1, 0, none⟩) 1 [sa] none 0 [] 0 ⟨#[]⟩ ⟨#[]⟩ 0 0 ⟨#[]⟩ ⟨#[]⟩ none 0 [] (some ⟨b + 1 + 1, 0, none⟩) 1 [sb] false W (C_one h.h1) (Nat.le_refl _) (C_none _ _) (Nat.le_refl _) (C_none _ _) (Nat.le_refl _) (C_one h.h2) (Nat.le_refl _) (cf sm1 sm2 clash12)
attribute [local go_sem high] eqA
set_option maxHeartbeats 4000000 in
set_option maxRecDepth 100000 in
theorem works (w : World) : Calls Try.prog 16 #[] w fun e w' => e = .returned (.bool true) ∧ Below w.heap.size w w' := by
  have HL := Aside0.mk (lit_mk w)
  have HB := Aside0.mk (lit_below w)
  go_enter Try.func16, Try.ntmps16
  go_wp2_with fail
  change Calls _ _ _ (litW w) _
  generalize litW w = W at HL HB ⊢
  refine (access_Edges.calls (some ⟨w.heap.size + 1 + 1 + 1, 0, none⟩) 3 [t0, t1, t2] [⟨0, 1⟩] W HL.out.C (by decide) ef).mono ?_
  rintro e w1 ⟨v1, rfl, hR1, hb1⟩
  have HL1 := Aside0.mk (HL.out.below hb1)
  have HB1 := Aside0.mk (HB.out.trans (hb1.mono HB.out.size))
  clear HL HB hb1
  go_wp2_with fail
  refine (access_Groups.calls (some ⟨w.heap.size + 1 + 1 + 1, 0, none⟩) 3 [t0, t1, t2] [0, 0, 2] w1 HL1.out.C (by decide) gf).mono ?_
  rintro e w2 ⟨v2, rfl, hR2, hb2⟩
  have HL2 := Aside0.mk (HL1.out.below hb2)
  have HB2 := Aside0.mk (HB1.out.trans (hb2.mono HB1.out.size))
  replace hR1 := Kd.R_below hR1 hb2
  clear HL1 HB1 hb2
  obtain ⟨ge, ce, rfl, _, _, _⟩ := Kd.R_form hR1 (by decide)
  obtain ⟨gg, cg, rfl, _, _, _⟩ := Kd.R_form hR2 (by decide)
  have e01 : w2.cell? ⟨ge, 0, none⟩ = some (.int .i64 0) ∧ w2.cell? ⟨ge, 1, none⟩ = some (.int .i64 1) := by
    obtain ⟨ad, c, ea, _, hK, hcs⟩ := Kd.C_get (Kd.R_reads' hR1).2.2 z37 0 (by decide) (by decide)
    injection ea with ea
    subst ea
    obtain ⟨_, _, rfl, rfl, rfl⟩ := hK
    exact ⟨hcs 0 _ rfl, hcs 1 _ rfl⟩
  have g12 : w2.cell? ⟨gg, 1, none⟩ = some (.int .i64 0) ∧ w2.cell? ⟨gg, 2, none⟩ = some (.int .i64 2) :=
    ⟨(Kd.R_celln 0 hR2 1 (by decide) (by decide)).1, (Kd.R_celln 0 hR2 2 (by decide) (by decide)).1⟩
  have hblk : ∀ (j : Nat), w2.cell? ⟨w.heap.size + 1 + 1 + 1, j, none⟩ = (cells0 w.heap.size ++ cells1 (w.heap.size + 1) ++ cells0 (w.heap.size + 1 + 1))[j]? := fun j => by rw [blk_cell HL2.out.h3, List.getElem?_toArray]
  have HS : Aside0 (∀ w', Below w2.heap.size w2 w' → w'.cell? ⟨w.heap.size + 1 + 1 + 1, 0, none⟩ = some (.int .i64 0) ∧ w'.cell? ⟨w.heap.size + 1 + 1 + 1, 1, none⟩ = some (.string ⟨#[]⟩) ∧ w'.cell? ⟨w.heap.size + 1 + 1 + 1, 2, none⟩ = some (.string ⟨#[]⟩) ∧ w'.cell? ⟨w.heap.size + 1 + 1 + 1, 3, none⟩ = some (.int .u64 0) ∧ w'.cell? ⟨w.heap.size + 1 + 1 + 1, 4, none⟩ = some (.int .u64 0) ∧ w'.cell? ⟨w.heap.size + 1 + 1 + 1, 5, none⟩ = some (.string ⟨#[]⟩) ∧ w'.cell? ⟨w.heap.size + 1 + 1 + 1, 6, none⟩ = some (.string ⟨#[]⟩) ∧ w'.cell? ⟨w.heap.size + 1 + 1 + 1, 7, none⟩ = some (.slice none 0 0) ∧ w'.cell? ⟨w.heap.size + 1 + 1 + 1, 8, none⟩ = some (.slice (some ⟨w.heap.size, 0, none⟩) 1 1) ∧ w'.cell? ⟨w.heap.size + 1 + 1 + 1, 9, none⟩ = some (.int .i64 0) ∧ w'.cell? ⟨w.heap.size + 1 + 1 + 1, 10, none⟩ = some (.string ⟨#[]⟩) ∧ w'.cell? ⟨w.heap.size + 1 + 1 + 1, 11, none⟩ = some (.string ⟨#[]⟩) ∧ w'.cell? ⟨w.heap.size + 1 + 1 + 1, 12, none⟩ = some (.int .u64 0) ∧ w'.cell? ⟨w.heap.size + 1 + 1 + 1, 13, none⟩ = some (.int .u64 0) ∧ w'.cell? ⟨w.heap.size + 1 + 1 + 1, 14, none⟩ = some (.string ⟨#[]⟩) ∧ w'.cell? ⟨w.heap.size + 1 + 1 + 1, 15, none⟩ = some (.string ⟨#[]⟩) ∧ w'.cell? ⟨w.heap.size + 1 + 1 + 1, 16, none⟩ = some (.slice (some ⟨w.heap.size + 1, 0, none⟩) 1 1) ∧ w'.cell? ⟨w.heap.size + 1 + 1 + 1, 17, none⟩ = some (.slice none 0 0) ∧ w'.cell? ⟨w.heap.size + 1 + 1 + 1, 18, none⟩ = some (.int .i64 0) ∧ w'.cell? ⟨w.heap.size + 1 + 1 + 1, 19, none⟩ = some (.string ⟨#[]⟩) ∧ w'.cell? ⟨w.heap.size + 1 + 1 + 1, 20, none⟩ = some (.string ⟨#[]⟩) ∧ w'.cell? ⟨w.heap.size + 1 + 1 + 1, 21, none⟩ = some (.int .u64 0) ∧ w'.cell? ⟨w.heap.size + 1 + 1 + 1, 22, none⟩ = some (.int .u64 0) ∧ w'.cell? ⟨w.heap.size + 1 + 1 + 1, 23, none⟩ = some (.string ⟨#[]⟩) ∧ w'.cell? ⟨w.heap.size + 1 + 1 + 1, 24, none⟩ = some (.string ⟨#[]⟩) ∧ w'.cell? ⟨w.heap.size + 1 + 1 + 1, 25, none⟩ = some (.slice none 0 0) ∧ w'.cell? ⟨w.heap.size + 1 + 1 + 1, 26, none⟩ = some (.slice (some ⟨w.heap.size + 1 + 1, 0, none⟩) 1 1) ∧ w'.cell? ⟨ge, 0, none⟩ = some (.int .i64 0) ∧ w'.cell? ⟨ge, 1, none⟩ = some (.int .i64 1) ∧ w'.cell? ⟨gg, 1, none⟩ = some (.int .i64 0) ∧ w'.cell? ⟨gg, 2, none⟩ = some (.int .i64 2)) := ⟨fun w' hb => ⟨pw_cell_below hb (hblk 0), pw_cell_below hb (hblk 1), pw_cell_below hb (hblk 2), pw_cell_below hb (hblk 3), pw_cell_below hb (hblk 4), pw_cell_below hb (hblk 5), pw_cell_below hb (hblk 6), pw_cell_below hb (hblk 7), pw_cell_below hb (hblk 8), pw_cell_below hb (hblk 9), pw_cell_below hb (hblk 10), pw_cell_below hb (hblk 11), pw_cell_below hb (hblk 12), pw_cell_below hb (hblk 13), pw_cell_below hb (hblk 14), pw_cell_below hb (hblk 15), pw_cell_below hb (hblk 16), pw_cell_below hb (hblk 17), pw_cell_below hb (hblk 18), pw_cell_below hb (hblk 19), pw_cell_below hb (hblk 20), pw_cell_below hb (hblk 21), pw_cell_below hb (hblk 22), pw_cell_below hb (hblk 23), pw_cell_below hb (hblk 24), pw_cell_below hb (hblk 25), pw_cell_below hb (hblk 26), pw_cell_below hb e01.1, pw_cell_below hb e01.2, pw_cell_below hb g12.1, pw_cell_below hb g12.2⟩⟩
  clear hblk e01 g12 hR1 hR2
  have hS0 := HS.out w2 (Below.refl _ _)
  go_wp2_with fail
  go_region_held3 (fun w' => w'.cell? ⟨w.heap.size + 1 + 1 + 1, 0, none⟩ = some (.int .i64 0) ∧ w'.cell? ⟨w.heap.size + 1 + 1 + 1, 1, none⟩ = some (.string ⟨#[]⟩) ∧ w'.cell? ⟨w.heap.size + 1 + 1 + 1, 2, none⟩ = some (.string ⟨#[]⟩) ∧ w'.cell? ⟨w.heap.size + 1 + 1 + 1, 3, none⟩ = some (.int .u64 0) ∧ w'.cell? ⟨w.heap.size + 1 + 1 + 1, 4, none⟩ = some (.int .u64 0) ∧ w'.cell? ⟨w.heap.size + 1 + 1 + 1, 5, none⟩ = some (.string ⟨#[]⟩) ∧ w'.cell? ⟨w.heap.size + 1 + 1 + 1, 6, none⟩ = some (.string ⟨#[]⟩) ∧ w'.cell? ⟨w.heap.size + 1 + 1 + 1, 7, none⟩ = some (.slice none 0 0) ∧ w'.cell? ⟨w.heap.size + 1 + 1 + 1, 8, none⟩ = some (.slice (some ⟨w.heap.size, 0, none⟩) 1 1) ∧ w'.cell? ⟨w.heap.size + 1 + 1 + 1, 9, none⟩ = some (.int .i64 0) ∧ w'.cell? ⟨w.heap.size + 1 + 1 + 1, 10, none⟩ = some (.string ⟨#[]⟩) ∧ w'.cell? ⟨w.heap.size + 1 + 1 + 1, 11, none⟩ = some (.string ⟨#[]⟩) ∧ w'.cell? ⟨w.heap.size + 1 + 1 + 1, 12, none⟩ = some (.int .u64 0) ∧ w'.cell? ⟨w.heap.size + 1 + 1 + 1, 13, none⟩ = some (.int .u64 0) ∧ w'.cell? ⟨w.heap.size + 1 + 1 + 1, 14, none⟩ = some (.string ⟨#[]⟩) ∧ w'.cell? ⟨w.heap.size + 1 + 1 + 1, 15, none⟩ = some (.string ⟨#[]⟩) ∧ w'.cell? ⟨w.heap.size + 1 + 1 + 1, 16, none⟩ = some (.slice (some ⟨w.heap.size + 1, 0, none⟩) 1 1) ∧ w'.cell? ⟨w.heap.size + 1 + 1 + 1, 17, none⟩ = some (.slice none 0 0) ∧ w'.cell? ⟨w.heap.size + 1 + 1 + 1, 18, none⟩ = some (.int .i64 0) ∧ w'.cell? ⟨w.heap.size + 1 + 1 + 1, 19, none⟩ = some (.string ⟨#[]⟩) ∧ w'.cell? ⟨w.heap.size + 1 + 1 + 1, 20, none⟩ = some (.string ⟨#[]⟩) ∧ w'.cell? ⟨w.heap.size + 1 + 1 + 1, 21, none⟩ = some (.int .u64 0) ∧ w'.cell? ⟨w.heap.size + 1 + 1 + 1, 22, none⟩ = some (.int .u64 0) ∧ w'.cell? ⟨w.heap.size + 1 + 1 + 1, 23, none⟩ = some (.string ⟨#[]⟩) ∧ w'.cell? ⟨w.heap.size + 1 + 1 + 1, 24, none⟩ = some (.string ⟨#[]⟩) ∧ w'.cell? ⟨w.heap.size + 1 + 1 + 1, 25, none⟩ = some (.slice none 0 0) ∧ w'.cell? ⟨w.heap.size + 1 + 1 + 1, 26, none⟩ = some (.slice (some ⟨w.heap.size + 1 + 1, 0, none⟩) 1 1) ∧ w'.cell? ⟨ge, 0, none⟩ = some (.int .i64 0) ∧ w'.cell? ⟨ge, 1, none⟩ = some (.int .i64 1) ∧ w'.cell? ⟨gg, 1, none⟩ = some (.int .i64 0) ∧ w'.cell? ⟨gg, 2, none⟩ = some (.int .i64 2)) (first | assumption | exact hS0)
    (first
      | (go_at_call_has 13 ((Value.slice (some ⟨w.heap.size, 0, none⟩) 1 1)); refine (clash_01 (HL2.out.below ?_)).mono ?_; (exact below_drew1 (Below.refl _ _)); rintro e w4 ⟨rfl, hb4⟩; have HB4 := Aside0.mk (below_then (below_drew1 (Below.refl w2.heap.size w2)) (Nat.le_refl _) hb4); have hS4 := HS.out w4 HB4.out; clear hb4)
      | (go_at_call 13; refine (clash_12 (HL2.out.below HB4.out)).mono ?_; rintro e w5 ⟨rfl, hb5⟩; have HB5 := Aside0.mk (below_then HB4.out HB4.out.size hb5); have hS5 := HS.out w5 HB5.out; clear hb5))
  go_wp2_with fail
  go_ret
  exact ⟨rfl, HB2.out.trans (HB5.out.mono HB2.out.size)⟩
def tusklaw20_works.f : Option Bool := some true
theorem tusklaw20_works.calls (r : Bool) (w : World) (h : tusklaw20_works.f = some r) : Calls Try.prog 16 #[] w fun e w' => e = .returned (.bool r) ∧ Below w.heap.size w w' := by
  obtain rfl := Option.some.inj h
  exact works w
end Go.Proofs.Ytmkgbkocanfckaa.Works20
