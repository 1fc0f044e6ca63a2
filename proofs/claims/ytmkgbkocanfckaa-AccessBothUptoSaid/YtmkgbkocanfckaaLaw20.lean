/- What the hand walks of layer 20 share. -/
import Derived.Test.YtmkgbkocanfckaaWorks20
namespace Go.Proofs.Ytmkgbkocanfckaa.Law20
open Go.RowKit Go.Proofs.YtmkgbkocanfckaaW.PrintWords Go.Proofs.YtmkgbkocanfckaaW.PrintMore Go.Proofs.Ytmkgbkocanfckaa.QKinds Go.Proofs.Ytmkgbkocanfckaa.QBase20 Go.Proofs.Ytmkgbkocanfckaa.Meet Go.Proofs.Ytmkgbkocanfckaa.Edges Go.Proofs.Ytmkgbkocanfckaa.GroupsP Go.Proofs.Ytmkgbkocanfckaa.Groups Go.Proofs.Ytmkgbkocanfckaa.Contracts20 Go.Proofs.Ytmkgbkocanfckaa.Plain20 Go.Proofs.Ytmkgbkocanfckaa.Works20
set_option linter.unusedVariables false
set_option linter.unusedSimpArgs false
/-- The rows of a transaction are read. -/
structure Rd (x : S26) (A7 : Option Addr) (c7 : Nat) (A8 : Option Addr) (c8 : Nat) (w : World) : Prop where
  r7 : Kd.C Kd.string w A7 x.f7.length x.f7
  l7 : x.f7.length ≤ c7
  r8 : Kd.C Kd.string w A8 x.f8.length x.f8
  l8 : x.f8.length ≤ c8
theorem Rd.below {x : S26} {A7 A8 : Option Addr} {c7 c8 : Nat} {w w1 : World} (h : Rd x A7 c7 A8 c8 w) (k : Below w.heap.size w w1) : Rd x A7 c7 A8 c8 w1 := ⟨Kd.C_below h.r7 k, h.l7, Kd.C_below h.r8 k, h.l8⟩
theorem Rd.K {x : S26} {A7 A8 : Option Addr} {c7 c8 : Nat} {w : World} (h : Rd x A7 c7 A8 c8 w) : k26.K w x [.int .i64 x.f0, .string x.f1, .string x.f2, .int .u64 x.f3, .int .u64 x.f4, .string x.f5, .string x.f6, .slice A7 x.f7.length c7, .slice A8 x.f8.length c8] := k26_mk w x h.l7 h.r7 h.l8 h.r8
def cells26 (x : S26) (A7 : Option Addr) (c7 : Nat) (A8 : Option Addr) (c8 : Nat) : List Value := [.int .i64 x.f0, .string x.f1, .string x.f2, .int .u64 x.f3, .int .u64 x.f4, .string x.f5, .string x.f6, .slice A7 x.f7.length c7, .slice A8 x.f8.length c8]
theorem alloc_b (W : World) (o : Obj) : Below W.heap.size W (W.alloc o) := (Below.refl _ _).alloc (Nat.le_refl _) o
/-- Are two too many? On a list of two that was made for it. -/
theorem great2 {x y : S26} {A0_7 A0_8 A1_7 A1_8 : Option Addr} {c0_7 c0_8 c1_7 c1_8 : Nat} {W : World} (hx : Rd x A0_7 c0_7 A0_8 c0_8 W) (hy : Rd y A1_7 c1_7 A1_8 c1_8 W) {k : Nat} {b : Bool} (h : tusklaw20_Great.f k [x, y] = some b) :
    Calls Try.prog 7 #[.slice (some ⟨W.heap.size, 0, none⟩) 2 2] (W.alloc (.cells #[.int .i64 x.f0, .string x.f1, .string x.f2, .int .u64 x.f3, .int .u64 x.f4, .string x.f5, .string x.f6, .slice A0_7 x.f7.length c0_7, .slice A0_8 x.f8.length c0_8, .int .i64 y.f0, .string y.f1, .string y.f2, .int .u64 y.f3, .int .u64 y.f4, .string y.f5, .string y.f6, .slice A1_7 y.f7.length c1_7, .slice A1_8 y.f8.length c1_8] 26)) fun e w' => e = .returned (.bool b) ∧ Below W.heap.size W w' := by
  have hx' := hx.below (alloc_b W (.cells #[.int .i64 x.f0, .string x.f1, .string x.f2, .int .u64 x.f3, .int .u64 x.f4, .string x.f5, .string x.f6, .slice A0_7 x.f7.length c0_7, .slice A0_8 x.f8.length c0_8, .int .i64 y.f0, .string y.f1, .string y.f2, .int .u64 y.f3, .int .u64 y.f4, .string y.f5, .string y.f6, .slice A1_7 y.f7.length c1_7, .slice A1_8 y.f8.length c1_8] 26))
  have hy' := hy.below (alloc_b W (.cells #[.int .i64 x.f0, .string x.f1, .string x.f2, .int .u64 x.f3, .int .u64 x.f4, .string x.f5, .string x.f6, .slice A0_7 x.f7.length c0_7, .slice A0_8 x.f8.length c0_8, .int .i64 y.f0, .string y.f1, .string y.f2, .int .u64 y.f3, .int .u64 y.f4, .string y.f5, .string y.f6, .slice A1_7 y.f7.length c1_7, .slice A1_8 y.f8.length c1_8] 26))
  refine (tusklaw20_Great.calls k (some ⟨W.heap.size, 0, none⟩) 2 [x, y] b _ (C_block (cells := cells26 x A0_7 c0_7 A0_8 c0_8 ++ cells26 y A1_7 c1_7 A1_8 c1_8) (State.blk_alloc W _) (by simp) (((Reps.none (k26.K _) 9).snoc hx'.K rfl).snoc hy'.K rfl)) (Nat.le_refl _) h).mono ?_
  rintro e w' ⟨rfl, hd⟩
  exact ⟨rfl, below_then (alloc_b W _) (alloc_b W _).size hd.below⟩
theorem ownC {x : S26} (hs : Small x) {A0_7 A0_8 : Option Addr} {c0_7 c0_8 : Nat} {W : World} (hx : Rd x A0_7 c0_7 A0_8 c0_8 W) :
    Calls Try.prog 14 #[.agg #[.int .i64 x.f0, .string x.f1, .string x.f2, .int .u64 x.f3, .int .u64 x.f4, .string x.f5, .string x.f6, .slice A0_7 x.f7.length c0_7, .slice A0_8 x.f8.length c0_8]] W fun e w' => ∃ A1_7 c1_7 A1_8 c1_8, e = .returned (.agg #[.int .i64 x.f0, .string x.f1, .string x.f2, .int .u64 x.f3, .int .u64 x.f4, .string x.f5, .string x.f6, .slice A1_7 x.f7.length c1_7, .slice A1_8 x.f8.length c1_8]) ∧ Rd x A1_7 c1_7 A1_8 c1_8 w' ∧ Below W.heap.size W w' := by
  refine (tusklaw04_Own.calls x.f0 x.f1 x.f2 x.f3 x.f4 x.f5 x.f6 A0_7 c0_7 x.f7 A0_8 c0_8 x.f8 _ _ _ _ _ _ _ _ _ W hx.r7 hx.l7 hx.r8 hx.l8 (own_one x hs)).mono ?_
  rintro e w' ⟨v7, v8, rfl, h7, h8, hb⟩
  obtain ⟨A7, c7, rfl, l7, r7⟩ := Kd.R_reads h7
  obtain ⟨A8, c8, rfl, l8, r8⟩ := Kd.R_reads h8
  exact ⟨A7, c7, A8, c8, rfl, ⟨r7, l7, r8, l8⟩, hb⟩
theorem clashC {x y : S26} (hsx : Small x) (hsy : Small y) {A0_7 A0_8 A1_7 A1_8 : Option Addr} {c0_7 c0_8 c1_7 c1_8 : Nat} {W : World} (hx : Rd x A0_7 c0_7 A0_8 c0_8 W) (hy : Rd y A1_7 c1_7 A1_8 c1_8 W) {b : Bool} (h : clashP x y = b) :
    Calls Try.prog 13 #[.agg #[.int .i64 x.f0, .string x.f1, .string x.f2, .int .u64 x.f3, .int .u64 x.f4, .string x.f5, .string x.f6, .slice A0_7 x.f7.length c0_7, .slice A0_8 x.f8.length c0_8], .agg #[.int .i64 y.f0, .string y.f1, .string y.f2, .int .u64 y.f3, .int .u64 y.f4, .string y.f5, .string y.f6, .slice A1_7 y.f7.length c1_7, .slice A1_8 y.f8.length c1_8]] W fun e w' => e = .returned (.bool b) ∧ Below W.heap.size W w' :=
  access_Clash.calls x.f0 x.f1 x.f2 x.f3 x.f4 x.f5 x.f6 A0_7 c0_7 x.f7 A0_8 c0_8 x.f8 y.f0 y.f1 y.f2 y.f3 y.f4 y.f5 y.f6 A1_7 c1_7 y.f7 A1_8 c1_8 y.f8 b W hx.r7 hx.l7 hx.r8 hx.l8 hy.r7 hy.l7 hy.r8 hy.l8 (cf hsx hsy h)
/-- Two boxes made at the call's begin, and all since. -/
structure Two (w : World) (b : Nat) (cx cy : List Value) (W : World) : Prop where
  below : Below w.heap.size w W
  hb : w.heap.size ≤ b
  h0 : W.heap[b]? = some (.cells cx.toArray 26 (0, 0))
  h1 : W.heap[b + 1]? = some (.cells cy.toArray 26 (0, 0))
theorem Two.next {w : World} {b : Nat} {cx cy : List Value} {W W1 : World} (h : Two w b cx cy W) (k : Below W.heap.size W W1) : Two w b cx cy W1 :=
  ⟨below_then h.below h.below.size k, h.hb, State.blk_below h.h0 k, State.blk_below h.h1 k⟩
theorem two_mk (w : World) (cx cy : List Value) : Two w w.heap.size cx cy ((w.alloc (.cells cx.toArray 26)).alloc (.cells cy.toArray 26)) := by
  have a1 := State.blk_alloc (w.alloc (.cells cx.toArray 26)) (.cells cy.toArray 26)
  have sz : ∀ (W : World) (o : Obj), (W.alloc o).heap.size = W.heap.size + 1 := fun W o => by simp
  rw [sz] at a1
  exact ⟨((Below.refl _ _).alloc (Nat.le_refl _) _).alloc (by simp) _, Nat.le_refl _, State.blk_below (State.blk_alloc w _) (alloc_b _ _), a1⟩
theorem Two.c0 {w : World} {b : Nat} {cx cy : List Value} {W : World} (h : Two w b cx cy W) (j : Nat) : W.cell? ⟨b, j, none⟩ = cx[j]? := by rw [blk_cell h.h0, List.getElem?_toArray]
theorem Two.c1 {w : World} {b : Nat} {cx cy : List Value} {W : World} (h : Two w b cx cy W) (j : Nat) : W.cell? ⟨b + 1, j, none⟩ = cy[j]? := by rw [blk_cell h.h1, List.getElem?_toArray]
theorem Two.cells {w : World} {b : Nat} {x y : S26} {A0_7 A0_8 A1_7 A1_8 : Option Addr} {c0_7 c0_8 c1_7 c1_8 : Nat} {W : World} (h : Two w b (cells26 x A0_7 c0_7 A0_8 c0_8) (cells26 y A1_7 c1_7 A1_8 c1_8) W) :
    W.cell? ⟨b, 0, none⟩ = some (.int .i64 x.f0) ∧ W.cell? ⟨b, 1, none⟩ = some (.string x.f1) ∧ W.cell? ⟨b, 2, none⟩ = some (.string x.f2) ∧ W.cell? ⟨b, 3, none⟩ = some (.int .u64 x.f3) ∧ W.cell? ⟨b, 4, none⟩ = some (.int .u64 x.f4) ∧ W.cell? ⟨b, 5, none⟩ = some (.string x.f5) ∧ W.cell? ⟨b, 6, none⟩ = some (.string x.f6) ∧ W.cell? ⟨b, 7, none⟩ = some (.slice A0_7 x.f7.length c0_7) ∧ W.cell? ⟨b, 8, none⟩ = some (.slice A0_8 x.f8.length c0_8) ∧ W.cell? ⟨b + 1, 0, none⟩ = some (.int .i64 y.f0) ∧ W.cell? ⟨b + 1, 1, none⟩ = some (.string y.f1) ∧ W.cell? ⟨b + 1, 2, none⟩ = some (.string y.f2) ∧ W.cell? ⟨b + 1, 3, none⟩ = some (.int .u64 y.f3) ∧ W.cell? ⟨b + 1, 4, none⟩ = some (.int .u64 y.f4) ∧ W.cell? ⟨b + 1, 5, none⟩ = some (.string y.f5) ∧ W.cell? ⟨b + 1, 6, none⟩ = some (.string y.f6) ∧ W.cell? ⟨b + 1, 7, none⟩ = some (.slice A1_7 y.f7.length c1_7) ∧ W.cell? ⟨b + 1, 8, none⟩ = some (.slice A1_8 y.f8.length c1_8) :=
  ⟨h.c0 0, h.c0 1, h.c0 2, h.c0 3, h.c0 4, h.c0 5, h.c0 6, h.c0 7, h.c0 8, h.c1 0, h.c1 1, h.c1 2, h.c1 3, h.c1 4, h.c1 5, h.c1 6, h.c1 7, h.c1 8⟩
theorem ownList {l : List S26} (hs : ∀ x, x ∈ l → Small x) (hl : l.length ≤ 1048576) {A : Option Addr} {c : Nat} {W : World} (hr : Kd.C k26 W A l.length l) (hc : l.length ≤ c) :
    Calls Try.prog 9 #[.slice A l.length c] W fun e w' => ∃ A' c', e = .returned (.slice A' l.length c') ∧ l.length ≤ c' ∧ Kd.C k26 w' A' l.length l ∧ Below W.heap.size W w' := by
  refine (tusklaw20_Own.calls _ A c l l W hr hc (own_f l hs hl)).mono ?_
  rintro e w' ⟨v, rfl, h, hb⟩
  obtain ⟨A', c', rfl, h1, h2⟩ := Kd.S_reads h
  exact ⟨A', c', rfl, h1, h2, hb⟩
theorem edgesK {l : List S26} (hf : FitsAll l) {A : Option Addr} {c : Nat} {W : World} (hr : Kd.C k26 W A l.length l) (hc : l.length ≤ c) :
    Calls Try.prog 8 #[.slice A l.length c] W fun e w' => ∃ A' c', e = .returned (.slice A' (rows l l.length).length c') ∧ (rows l l.length).length ≤ c' ∧ Kd.C k37 w' A' (rows l l.length).length ((rows l l.length).map asS) ∧ Below W.heap.size W w' := by
  refine (access_Edges.calls A c l _ W hr hc (if_pos hf)).mono ?_
  rintro e w' ⟨v, rfl, h, hb⟩
  obtain ⟨A', c', rfl, h1, h2⟩ := Kd.R_reads h
  rw [List.length_map] at h1 h2 ⊢
  exact ⟨A', c', rfl, h1, h2, hb⟩
theorem redgesK {l : List S26} (hs : ∀ x, x ∈ l → Small x) (hl : l.length ≤ 500) {A : Option Addr} {c : Nat} {W : World} (hr : Kd.C k26 W A l.length l) (hc : l.length ≤ c) :
    Calls Try.prog 10 #[.slice A l.length c] W fun e w' => ∃ A' c', e = .returned (.slice A' (rows l l.length).length c') ∧ (rows l l.length).length ≤ c' ∧ Kd.C k39 w' A' (rows l l.length).length ((rows l l.length).map asE) ∧ Below W.heap.size W w' := by
  refine (tuskref20_Edges.calls 5000000 A c l _ W hr hc (edges_r l hs hl _ (Nat.le_refl _))).mono ?_
  rintro e w' ⟨v, rfl, h, hb⟩
  obtain ⟨A', c', rfl, h1, h2⟩ := Kd.R_reads h
  rw [List.length_map] at h1 h2 ⊢
  exact ⟨A', c', rfl, h1, h2, hb⟩
theorem groupsK {l : List S26} (hf : FitsAll l) {A : Option Addr} {c : Nat} {W : World} (hr : Kd.C k26 W A l.length l) (hc : l.length ≤ c) :
    Calls Try.prog 11 #[.slice A l.length c] W fun e w' => ∃ A' c', e = .returned (.slice A' l.length c') ∧ l.length ≤ c' ∧ Kd.C (Kd.int .i64) w' A' l.length (ints (groups l.length (edgesN l))) ∧ Below W.heap.size W w' := by
  refine (access_Groups.calls A c l _ W hr hc (if_pos hf)).mono ?_
  rintro e w' ⟨v, rfl, h, hb⟩
  obtain ⟨A', c', rfl, h1, h2⟩ := Kd.R_reads h
  rw [List.length_map, groups_len] at h1 h2 ⊢
  exact ⟨A', c', rfl, h1, h2, hb⟩
theorem rgroupsK {l : List S26} (hs : ∀ x, x ∈ l → Small x) (hl : l.length ≤ 500) {A : Option Addr} {c : Nat} {W : World} (hr : Kd.C k26 W A l.length l) (hc : l.length ≤ c) :
    Calls Try.prog 12 #[.slice A l.length c] W fun e w' => ∃ A' c', e = .returned (.slice A' l.length c') ∧ l.length ≤ c' ∧ Kd.C (Kd.int .i64) w' A' l.length (ints (groups l.length (edgesN l))) ∧ Below W.heap.size W w' := by
  obtain ⟨k, hk⟩ := groups_r l hs hl
  refine (tuskref20_Groups.calls k A c l _ W hr hc hk).mono ?_
  rintro e w' ⟨v, rfl, h, hb⟩
  obtain ⟨A', c', rfl, h1, h2⟩ := Kd.R_reads h
  rw [ints_len, groups_len] at h1 h2 ⊢
  exact ⟨A', c', rfl, h1, h2, hb⟩
theorem rclashC {x y : S26} (hsx : Small x) (hsy : Small y) {A0_7 A0_8 A1_7 A1_8 : Option Addr} {c0_7 c0_8 c1_7 c1_8 : Nat} {W : World} (hx : Rd x A0_7 c0_7 A0_8 c0_8 W) (hy : Rd y A1_7 c1_7 A1_8 c1_8 W) {b : Bool} (h : clashP x y = b) :
    Calls Try.prog 15 #[.agg #[.int .i64 x.f0, .string x.f1, .string x.f2, .int .u64 x.f3, .int .u64 x.f4, .string x.f5, .string x.f6, .slice A0_7 x.f7.length c0_7, .slice A0_8 x.f8.length c0_8], .agg #[.int .i64 y.f0, .string y.f1, .string y.f2, .int .u64 y.f3, .int .u64 y.f4, .string y.f5, .string y.f6, .slice A1_7 y.f7.length c1_7, .slice A1_8 y.f8.length c1_8]] W fun e w' => e = .returned (.bool b) ∧ Below W.heap.size W w' :=
  tuskref20_Clash.calls 4000000 x.f0 x.f1 x.f2 x.f3 x.f4 x.f5 x.f6 A0_7 c0_7 x.f7 A0_8 c0_8 x.f8 y.f0 y.f1 y.f2 y.f3 y.f4 y.f5 y.f6 A1_7 c1_7 y.f7 A1_8 c1_8 y.f8 b W hx.r7 hx.l7 hx.r8 hx.l8 hy.r7 hy.l7 hy.r8 hy.l8 (by rw [← h]; exact clash_r x y hsx hsy _ (Nat.le_refl _))
theorem greatC {l : List S26} {k : Nat} {b : Bool} (h : tusklaw20_Great.f k l = some b) {A : Option Addr} {c : Nat} {W : World} (hr : Kd.C k26 W A l.length l) (hc : l.length ≤ c) :
    Calls Try.prog 7 #[.slice A l.length c] W fun e w' => e = .returned (.bool b) ∧ Below W.heap.size W w' :=
  (tusklaw20_Great.calls k A c l b W hr hc h).mono fun e w' ⟨he, hd⟩ => ⟨he, hd.below⟩
theorem bcell {W w1 : World} (hb : Below W.heap.size W w1) : (∀ b o, b < W.heap.size → w1.cell? ⟨b, o, none⟩ = W.cell? ⟨b, o, none⟩) ∧ (∀ b o, b < W.heap.size → w1.frozen? ⟨b, o, none⟩ = W.frozen? ⟨b, o, none⟩) :=
  ⟨fun b o h => hb.cell (p := ⟨b, o, none⟩) h, fun b o h => hb.frozen (p := ⟨b, o, none⟩) h⟩
end Go.Proofs.Ytmkgbkocanfckaa.Law20
