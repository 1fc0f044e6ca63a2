/- What the hand walks of layer 21 share. -/
import Derived.Test.YtkfhajdkpbpkdaaPure21
import Derived.Test.YtkfhajdkpbpkdaaState
namespace Go.Proofs.Ytkfhajdkpbpkdaa.Law21
open Go.RowKit Go.Proofs.YtkfhajdkpbpkdaaW.PrintWords Go.Proofs.YtkfhajdkpbpkdaaW.PrintMore Go.Proofs.Ytkfhajdkpbpkdaa.QKinds Go.Proofs.Ytkfhajdkpbpkdaa.QBase21 Go.Proofs.Ytkfhajdkpbpkdaa.Meet Go.Proofs.Ytkfhajdkpbpkdaa.Edges21 Go.Proofs.Ytkfhajdkpbpkdaa.Contracts21 Go.Proofs.Ytkfhajdkpbpkdaa.Plain21 Go.Proofs.Ytkfhajdkpbpkdaa.Plan21 Go.Proofs.Ytkfhajdkpbpkdaa.Pure21 Go.Proofs.Ytkfhajdkpbpkdaa.Open Go.Proofs.Ytkfhajdkpbpkdaa.QOpen
set_option linter.unusedVariables false
set_option linter.unusedSimpArgs false
theorem C_block {α : Type} {d : Kd α} {W : World} {b : Nat} {e : TypeId} {cells : List Value} {xs : List α} (hb : W.heap[b]? = some (.cells cells.toArray e (0, 0))) (hn : xs.length ≤ 9223372036854775807) (hr : Reps (d.K W) d.sz xs cells) : d.C W (some ⟨b, 0, none⟩) xs.length xs := by
  refine ⟨rfl, hn, fun _ => ⟨_, rfl, fun j p hj => ⟨(cells.drop (j * d.sz)).take d.sz, d.K_len (hr.2 j p hj), hr.2 j p hj, fun i u hu => ?_⟩⟩⟩
  rw [add_plain, blk_cell hb, List.getElem?_toArray]
  rw [List.getElem?_take] at hu
  split at hu
  · rw [List.getElem?_drop] at hu; exact hu
  · cases hu
theorem alloc_b (W : World) (o : Obj) : Below W.heap.size W (W.alloc o) := (Below.refl _ _).alloc (Nat.le_refl _) o
/-- A list of one row that was made for it. -/
theorem C_row1 {W : World} {A : Option Addr} {c : Nat} {ws : List Int} (hr : (Kd.int .i64).C W A ws.length ws) (hc : ws.length ≤ c) {b : Nat} (hb : W.heap[b]? = some (.cells #[.slice A ws.length c] 24 (0, 0))) : kRow.C W (some ⟨b, 0, none⟩) [ws].length [ws] :=
  C_block (cells := [.slice A ws.length c]) hb (by simp) ((Reps.none (kRow.K W) 1).snoc (show kRow.K W ws [.slice A ws.length c] from ⟨A, c, rfl, hc, hr⟩) rfl)
theorem greatC {l : List Tx} {k : Nat} {b : Bool} (h : tusklaw20_Great.f k l = some b) {A : Option Addr} {c : Nat} {W : World} (hr : Kd.C k38 W A l.length l) (hc : l.length ≤ c) :
    Calls Try.prog 8 #[.slice A l.length c] W fun e w' => e = .returned (.bool b) ∧ Below W.heap.size W w' :=
  (tusklaw20_Great.calls k A c l b W hr hc h).mono fun e w' ⟨he, hd⟩ => ⟨he, hd.below⟩
theorem ownList {l : List Tx} (hs : ∀ x, x ∈ l → Small x) (hl : l.length ≤ 1048576) {A : Option Addr} {c : Nat} {W : World} (hr : Kd.C k38 W A l.length l) (hc : l.length ≤ c) :
    Calls Try.prog 10 #[.slice A l.length c] W fun e w' => ∃ A' c', e = .returned (.slice A' l.length c') ∧ l.length ≤ c' ∧ Kd.C k38 w' A' l.length l ∧ Below W.heap.size W w' := by
  refine (tusklaw20_Own.calls _ A c l l W hr hc (own_f l hs hl)).mono ?_
  rintro e w' ⟨v, rfl, h, hb⟩
  obtain ⟨A', c', rfl, h1, h2⟩ := Kd.S_reads h
  exact ⟨A', c', rfl, h1, h2, hb⟩
section
variable {l : List Tx} (hs : ∀ x, x ∈ l → Small x) (hl : l.length ≤ 500) {A : Option Addr} {c : Nat} {W : World} (hr : Kd.C k38 W A l.length l) (hc : l.length ≤ c)
include hs hl hr hc
theorem ofK : Calls Try.prog 9 #[.slice A l.length c] W fun e w' => ∃ A' c', e = .returned (.slice A' l.length c') ∧ l.length ≤ c' ∧ (Kd.int .i64).C w' A' (waves l).length (waves l) ∧ Below W.heap.size W w' := by
  obtain ⟨k, hk⟩ := of_p hs hl
  refine (waves_Of.calls k A c l _ W hr hc (hk k (Nat.le_refl _))).mono ?_
  rintro e w' ⟨v, rfl, h, hb⟩
  obtain ⟨A', c', rfl, h1, h2⟩ := Kd.R_reads h
  exact ⟨A', c', by rw [waves_length], by rw [waves_length] at h1; exact h1, h2, hb⟩
theorem rofK : Calls Try.prog 11 #[.slice A l.length c] W fun e w' => ∃ A' c', e = .returned (.slice A' l.length c') ∧ l.length ≤ c' ∧ (Kd.int .i64).C w' A' (waves l).length (waves l) ∧ Below W.heap.size W w' := by
  obtain ⟨k, hk⟩ := of_r hs hl
  refine (tuskref21_Of.calls k A c l _ W hr hc (hk k (Nat.le_refl _))).mono ?_
  rintro e w' ⟨v, rfl, h, hb⟩
  obtain ⟨A', c', rfl, h1, h2⟩ := Kd.R_reads h
  exact ⟨A', c', by rw [waves_length], by rw [waves_length] at h1; exact h1, h2, hb⟩
theorem planK : Calls Try.prog 13 #[.slice A l.length c] W fun e w' => ∃ A' c', e = .returned (.slice A' (planN (waves l) l.length).length c') ∧ (planN (waves l) l.length).length ≤ c' ∧ kRow.C w' A' (planN (waves l) l.length).length (planN (waves l) l.length) ∧ Below W.heap.size W w' := by
  obtain ⟨k, hk⟩ := plan_p hs hl
  refine (waves_Plan.calls k A c l _ W hr hc (hk k (Nat.le_refl _))).mono ?_
  rintro e w' ⟨v, rfl, h, hb⟩
  obtain ⟨A', c', rfl, h1, h2⟩ := Kd.S_reads h
  exact ⟨A', c', rfl, h1, h2, hb⟩
theorem rplanK : Calls Try.prog 14 #[.slice A l.length c] W fun e w' => ∃ A' c', e = .returned (.slice A' (planN (waves l) l.length).length c') ∧ (planN (waves l) l.length).length ≤ c' ∧ kRow.C w' A' (planN (waves l) l.length).length (planN (waves l) l.length) ∧ Below W.heap.size W w' := by
  obtain ⟨k, hk⟩ := plan_r hs hl
  refine (tuskref21_Plan.calls k A c l _ W hr hc (hk k (Nat.le_refl _))).mono ?_
  rintro e w' ⟨v, rfl, h, hb⟩
  obtain ⟨A', c', rfl, h1, h2⟩ := Kd.S_reads h
  exact ⟨A', c', rfl, h1, h2, hb⟩
end
theorem sameK {P : List (List Int)} (hP : P.length ≤ 1048576) (hr : ∀ r, r ∈ P → r.length ≤ 1048576) {A A' : Option Addr} {c c' : Nat} {W : World} (h : kRow.C W A P.length P) (hc : P.length ≤ c) (h' : kRow.C W A' P.length P) (hc' : P.length ≤ c') :
    Calls Try.prog 12 #[.slice A P.length c, .slice A' P.length c'] W fun e w' => e = .returned (.bool true) ∧ Below W.heap.size W w' := by
  obtain ⟨k, hk⟩ := same_f P hP hr
  exact (tuskref21_Same.calls k A c P A' c' P true W h hc h' hc' (hk k (Nat.le_refl _))).mono fun e w' ⟨he, hd⟩ => ⟨he, hd.below⟩
theorem sameLit {l : List Tx} (hl : l.length ≤ 500) {A3 A4 : Option Addr} {c3 c4 : Nat} {W : World} (h3 : (Kd.int .i64).C W A3 (waves l).length (waves l)) (hc3 : l.length ≤ c3) (h4 : (Kd.int .i64).C W A4 (waves l).length (waves l)) (hc4 : l.length ≤ c4) :
    Calls Try.prog 12 #[.slice (some ⟨W.heap.size, 0, none⟩) 1 1, .slice (some ⟨W.heap.size + 1, 0, none⟩) 1 1] ((W.alloc (.cells #[.slice A3 l.length c3] 24)).alloc (.cells #[.slice A4 l.length c4] 24)) fun e w' => e = .returned (.bool true) ∧ Below W.heap.size W w' := by
  have hB := alloc_b W (.cells #[.slice A3 l.length c3] 24)
  have hB2 := alloc_b (W.alloc (.cells #[.slice A3 l.length c3] 24)) (.cells #[.slice A4 l.length c4] 24)
  have hBB := below_step hB hB2
  have k1 := State.blk_below (State.blk_alloc W (.cells #[.slice A3 l.length c3] 24)) hB2
  have k2 := State.blk_alloc (W.alloc (.cells #[.slice A3 l.length c3] 24)) (.cells #[.slice A4 l.length c4] 24)
  rw [show (W.alloc (.cells #[.slice A3 l.length c3] 24)).heap.size = W.heap.size + 1 by simp] at k2
  have hwl := waves_length l
  rw [← hwl] at k1 k2 hc3 hc4 hBB ⊢
  refine (sameK (P := [waves l]) (by simp) (fun r hr => by rcases List.mem_cons.1 hr with rfl | hr; (rw [hwl]; omega); simp at hr) (C_row1 (Kd.C_below h3 hBB) hc3 k1) (by simp) (C_row1 (Kd.C_below h4 hBB) hc4 k2) (by simp)).mono ?_
  rintro e w' ⟨he, hb⟩
  exact ⟨he, below_step hBB hb⟩
theorem start21 {l : List Tx} (hb : (mList m38) l ≤ 1048576) : (∀ x, x ∈ l → Small x) ∧ l.length ≤ 1048576 ∧ ∃ k b, tusklaw20_Great.f k l = some b ∧ (b = false → l.length ≤ 500) := by
  obtain ⟨hm, hlen⟩ := bulk_mem hb
  have hs : ∀ x, x ∈ l → Small x := fun x hx => small_of_bulk (hm x hx)
  obtain ⟨k, b, h1, h2⟩ := great_f l hs hlen
  exact ⟨hs, hlen, k, b, h1, fun h => Nat.le_trans (tot_len l) (h2 h)⟩
end Go.Proofs.Ytkfhajdkpbpkdaa.Law21
