/- What the laws of layer 19 share: the program's desk, bundled; works. -/
import Derived.Test.YtiaanhjnjkmnfaaTick19
namespace Go.Proofs.Ytiaanhjnjkmnfaa.Law19
open Go.RowKit Go.Proofs.YtiaanhjnjkmnfaaW.PrintWords Go.Proofs.YtiaanhjnjkmnfaaW.PrintMore Go.Proofs.YtiaanhjnjkmnfaaW.PrintLast Go.Proofs.Ytiaanhjnjkmnfaa.QKinds Go.Proofs.Ytiaanhjnjkmnfaa.Desk19 Go.Proofs.Ytiaanhjnjkmnfaa.Want19 Go.Proofs.Ytiaanhjnjkmnfaa.Tick19
set_option linter.unusedVariables false
set_option linter.unusedSimpArgs false
/-- A desk that was made behind w0. -/
def Own (D : Sort19) (r : Nat) (w0 w : World) (g : Nat) (ws : List Wi) : Prop := ∃ v ps, St D r w g v ps ws ∧ ∀ k, Bl g v ps k → w0.heap.size ≤ k
abbrev RowA (w : World) (v : Value) (xs : List S46) : Prop := k46.R 46 w 0 (fun _ => True) v xs
theorem R_away {D : Sort19} {r : Nat} {w w1 : World} {g : Nat} {v : Value} {ps : List Nat} {ws : List Wi} (h : St D r w g v ps ws) (hf : Fr w w1 (Bl g v ps)) {α : Type} {d : Kd α} {e base : Nat} {u : Value} {xs : List α} (hR : d.R e w base (fun _ => True) u xs) (hq : ∀ q, q ∈ e :: d.E → q ≠ D.Td ∧ q ≠ D.Tp ∧ q ≠ D.Tw) : d.R e w1 base (fun _ => True) u xs :=
  R_fr hR hf (fun k _ hb q hq2 cs hc => by
    obtain ⟨h1, h2, h3⟩ := hq q hq2
    exact h.not_bl hc h1 h2 h3 hb)
theorem Own.below {D : Sort19} {r : Nat} {w0 w w1 : World} {g : Nat} {ws : List Wi} (h : Own D r w0 w g ws) (hb : Below w.heap.size w w1) : Own D r w0 w1 g ws := by
  obtain ⟨v, ps, hs, hk⟩ := h
  exact ⟨v, ps, hs.below hb, hk⟩
section
variable {r : Nat} {w0 w : World} {g : Nat} {ws : List Wi} (h : Own sp r w0 w g ws) (hB : Below w0.heap.size w0 w) (hn : ws.length ≤ 64)
include h hB hn
theorem tickJ {t : Nat} (hr : 1 ≤ r) (hr2 : r ≤ 1000) (hw : ∀ x, x ∈ ws → Wf r t x) (ht : t ≤ 1000000000) :
    Calls Try.prog 17 #[.pointer (some ⟨g, 0, none⟩)] w fun e w' => ∃ A c, e = .returned (.slice A (asks r ws).length c) ∧ (RowA w' (.slice A (asks r ws).length c) ((asks r ws).map asS) ∧ Own sp r w0 w' g (ticks r ws)) ∧ Below w0.heap.size w0 w' ∧ ∀ u xs, RowA w u xs → RowA w' u xs := by
  obtain ⟨v, ps, hs, hk⟩ := h
  obtain ⟨A0, c0, rfl, _⟩ := St.slice hs
  refine (tick r t g A0 c0 ps ws w hs hr hr2 (fun i hi => hw _ (by rw [List.getD_eq_getElem?_getD, List.getElem?_eq_getElem hi]; exact List.getElem_mem hi)) ht hn).mono ?_
  rintro e w' ⟨v1, rfl, h1, h2, h3⟩
  obtain ⟨A, c, e1⟩ := Kd.R_slice h1
  rw [List.length_map] at e1
  subst e1
  exact ⟨A, c, rfl, ⟨Kd.R_lower h1 (Nat.zero_le _), ⟨_, _, h2, hk⟩⟩, hB.trans (h3.below hk hB.size), fun u xs hu => R_away hs h3 hu (by decide)⟩
theorem wantJ {id : ByteArray} {A : Option Addr} {c : Nat} {fr : List Int} (hA : (Kd.int .i64).C w A fr.length fr) (hc : fr.length ≤ c) (hfl : fr.length ≤ 1048576) :
    Calls Try.prog 15 #[.pointer (some ⟨g, 0, none⟩), .string id, .slice A fr.length c] w fun e w' => e = .returned (.int .i64 (wantE ws id fr)) ∧ Own sp r w0 w' g (want1 ws id fr) ∧ Below w0.heap.size w0 w' ∧ ∀ u xs, RowA w u xs → RowA w' u xs := by
  have H := h
  obtain ⟨v, ps, hs, hk⟩ := h
  obtain ⟨A0, c0, rfl, _⟩ := St.slice hs
  by_cases h0 : fr.length = 0
  · have hE : wantE ws id fr = 12 := by rw [wantE, if_pos h0]
    have h1 : want1 ws id fr = ws := by rw [want1, hE, if_neg (by decide)]
    obtain rfl := List.eq_nil_of_length_eq_zero h0
    rw [hE, h1]
    refine (want_few g id A c w).mono ?_
    rintro e w' ⟨rfl, rfl⟩
    exact ⟨rfl, H, hB, fun _ _ h => h⟩
  · cases hh : hasId ws id
    · by_cases h64 : ws.length = 64
      · have hE : wantE ws id fr = 4 := by rw [wantE, if_neg h0, hh, if_neg (by decide), if_pos h64]
        have h1 : want1 ws id fr = ws := by rw [want1, hE, if_neg (by decide)]
        rw [hE, h1]
        refine (want_full r g A0 c0 ps ws id A c fr w hs hn (by omega) hh h64).mono ?_
        rintro e w' ⟨rfl, hb⟩
        exact ⟨rfl, H.below hb, below_step hB hb, fun _ _ h => Kd.R_below h hb⟩
      · have hE : wantE ws id fr = 0 := by rw [wantE, if_neg h0, hh, if_neg (by decide), if_neg h64]
        have h1 : want1 ws id fr = ws ++ [⟨id, fr, 0, 0⟩] := by rw [want1, hE, if_pos rfl]
        rw [hE, h1]
        refine (want_ok r g A0 c0 ps ws id A c fr w hs hn (by omega) hA hc hfl hh (by omega)).mono ?_
        rintro e w' ⟨rfl, v', ps', h2, h3, h4⟩
        refine ⟨rfl, ⟨v', ps', h2, fun k hk2 => ?_⟩, hB.trans (h3.below hk hB.size), fun u xs hu => R_away hs h3 hu (by decide)⟩
        rcases h4 k hk2 with h5 | h5
        · exact hk k h5
        · exact Nat.le_trans hB.size h5
    · have hE : wantE ws id fr = 13 := by rw [wantE, if_neg h0, hh, if_pos rfl]
      have h1 : want1 ws id fr = ws := by rw [want1, hE, if_neg (by decide)]
      rw [hE, h1]
      refine (want_twice r g A0 c0 ps ws id A c fr w hs hn (by omega) hh).mono ?_
      rintro e w' ⟨rfl, hb⟩
      exact ⟨rfl, H.below hb, below_step hB hb, fun _ _ h => Kd.R_below h hb⟩
end
theorem newJ {w0 w : World} (r : Nat) (hB : Below w0.heap.size w0 w) (h1 : 1 ≤ r) (h2 : r ≤ 1000) :
    Calls Try.prog 14 #[.int .i64 (r : Int)] w fun e w' => ∃ g, e = .returned (.tuple #[.pointer (some ⟨g, 0, none⟩), .int .i64 0]) ∧ Own sp r w0 w' g [] ∧ Below w0.heap.size w0 w' ∧ Below w.heap.size w w' := by
  refine (new_ok r w h1 h2).mono ?_
  rintro e w' ⟨g, rfl, hs, hg, hb⟩
  refine ⟨g, rfl, ⟨_, _, hs, fun k hk => ?_⟩, below_step hB hb, hb⟩
  rcases hk with rfl | hk | hk
  · rw [hg]; exact hB.size
  · cases hk
  · cases hk
def sa : ByteArray := ⟨#[97]⟩
def w1 : List Wi := [⟨sa, [5, 6], 0, 0⟩]
theorem ask1 : asks 3 w1 = [(sa, 5)] ∧ asks 3 (ticks 3 w1) = [] ∧ asks 3 (ticks 3 (ticks 3 w1)) = [] ∧ asks 3 (ticks 3 (ticks 3 (ticks 3 w1))) = [(sa, 6)] := ⟨rfl, rfl, rfl, rfl⟩
theorem wf_ticks {r t : Nat} (hr : 1 ≤ r) {ws : List Wi} (h : ∀ x, x ∈ ws → Wf r t x) : ∀ x, x ∈ ticks r ws → Wf r (t + 1) x := by
  intro x hx
  obtain ⟨y, hy, rfl⟩ := List.mem_map.1 hx
  exact (h y hy).tick hr
theorem ticks_len (r : Nat) (ws : List Wi) : (ticks r ws).length = ws.length := by simp [ticks]
theorem C_block {α : Type} {d : Kd α} {W : World} {b : Nat} {e : TypeId} {cells : List Value} {xs : List α} (hb : W.heap[b]? = some (.cells cells.toArray e (0, 0))) (hn : xs.length ≤ 9223372036854775807) (hr : Reps (d.K W) d.sz xs cells) : d.C W (some ⟨b, 0, none⟩) xs.length xs := by
  refine ⟨rfl, hn, fun _ => ⟨_, rfl, fun j p hj => ⟨(cells.drop (j * d.sz)).take d.sz, d.K_len (hr.2 j p hj), hr.2 j p hj, fun i u hu => ?_⟩⟩⟩
  rw [add_plain, blk_cell hb, List.getElem?_toArray]
  rw [List.getElem?_take] at hu
  split at hu
  · rw [List.getElem?_drop] at hu; exact hu
  · cases hu
theorem reps_ints (W : World) : ∀ r : List Int, Reps ((Kd.int .i64).K W) 1 r (r.map (Value.int .i64)) := fun r => by
  refine ⟨by simp, fun j p hp => ?_⟩
  show ((r.map (Value.int .i64)).drop (j * 1)).take 1 = [Value.int .i64 p]
  have hj : j < r.length := (List.getElem?_eq_some_iff.1 hp).1
  rw [Nat.mul_one, List.drop_eq_getElem_cons (by simpa using hj)]
  simp [(List.getElem?_eq_some_iff.1 hp).2]
theorem C_56 (W : World) : (Kd.int .i64).C (W.alloc (.cells #[.int .i64 5, .int .i64 6] 3)) (some ⟨W.heap.size, 0, none⟩) [(5 : Int), 6].length [5, 6] :=
  C_block (cells := [.int .i64 5, .int .i64 6]) (State.blk_alloc W _) (by simp) (reps_ints _ [5, 6])
theorem wf1 : ∀ x, x ∈ w1 → Wf 3 0 x := by
  intro x hx
  obtain rfl : x = ⟨sa, [5, 6], 0, 0⟩ := by simpa [w1] using hx
  exact ⟨by decide, by decide, ⟨by decide, fun _ => rfl⟩, by decide⟩
theorem row1 {W : World} {A : Option Addr} {c : Nat} {id : ByteArray} {to_ : Int} (h : RowA W (.slice A 1 c) [⟨id, to_⟩]) : ∃ b, A = some ⟨b, 0, none⟩ ∧ 1 ≤ c ∧ W.cell? ⟨b, 0, none⟩ = some (.string id) ∧ W.cell? ⟨b, 1, none⟩ = some (.int .i64 to_) := by
  obtain ⟨b, cap, e, _⟩ := Kd.R_form h (by simp)
  injection e with e1 _ e3
  subst e1
  obtain ⟨_, hc, hC⟩ := Kd.R_reads' h
  obtain ⟨ad, e, h1, h2⟩ := at_T46 hC 0 (by decide) (by simp)
  injection e with e
  subst e
  exact ⟨b, rfl, hc, h1, h2⟩
set_option maxHeartbeats 4000000 in
theorem works (w : World) : Calls Try.prog 7 #[] w fun e w' => e = .returned (.bool true) ∧ Below w.heap.size w w' := by
  go_enter Try.func7, Try.ntmps7
  go_wp2_with fail
  refine (newJ 3 (Below.refl w.heap.size w) (by decide) (by decide)).mono ?_
  rintro e wa ⟨g, rfl, ho, hb, hb2⟩
  have HO := Aside0.mk ho
  have HB := Aside0.mk hb
  clear ho hb hb2
  go_wp2_with fail
  refine (wantJ (HO.out.below (below_alloc (Below.refl _ _) _)) (below_step HB.out (below_alloc (Below.refl _ _) _)) (by decide) (C_56 wa) (by decide) (by decide)).mono ?_
  rintro e wb ⟨rfl, ho, hb, _⟩
  have HO := Aside0.mk (show Own sp 3 w wb g w1 from ho)
  have HB := Aside0.mk hb
  clear ho hb
  rw [show wantE [] (⟨#[97]⟩ : ByteArray) [5, 6] = 0 from rfl]
  go_wp2_with fail
  refine (tickJ HO.out HB.out (by decide) (by decide) (by decide) wf1 (by decide)).mono ?_
  rintro e wc ⟨A1, c1, rfl, ⟨hr1, ho⟩, hb, _⟩
  have HR1 := Aside0.mk hr1
  have HO1 := Aside0.mk ho
  have HB1 := Aside0.mk hb
  clear hr1 ho hb HO HB
  rw [show (asks 3 w1).length = 1 from rfl] at HR1 ⊢
  go_wp2_with fail
  refine (tickJ HO1.out HB1.out (by decide) (by decide) (by decide) (wf_ticks (by decide) wf1) (by decide)).mono ?_
  rintro e wd ⟨A2, c2, rfl, ⟨_, ho⟩, hb, hk⟩
  have HR2 := Aside0.mk (hk _ _ HR1.out)
  have HO2 := Aside0.mk ho
  have HB2 := Aside0.mk hb
  clear ho hb HO1 HB1 HR1 hk
  rw [show (asks 3 (ticks 3 w1)).length = 0 from rfl]
  go_wp2_with fail
  refine (tickJ HO2.out HB2.out (by decide) (by decide) (by decide) (wf_ticks (by decide) (wf_ticks (by decide) wf1)) (by decide)).mono ?_
  rintro e we ⟨A3, c3, rfl, ⟨_, ho⟩, hb, hk⟩
  have HR3 := Aside0.mk (hk _ _ HR2.out)
  have HO3 := Aside0.mk ho
  have HB3 := Aside0.mk hb
  clear ho hb HO2 HB2 HR2 hk
  rw [show (asks 3 (ticks 3 (ticks 3 w1))).length = 0 from rfl]
  go_wp2_with fail
  refine (tickJ HO3.out HB3.out (by decide) (by decide) (by decide) (wf_ticks (by decide) (wf_ticks (by decide) (wf_ticks (by decide) wf1))) (by decide)).mono ?_
  rintro e wf ⟨A4, c4, rfl, ⟨hr4, ho⟩, hb, hk⟩
  have hr3 := hk _ _ HR3.out
  have HB4 := Aside0.mk hb
  clear ho hb HO3 HB3 HR3 hk
  rw [show (asks 3 (ticks 3 (ticks 3 (ticks 3 w1)))).length = 1 from rfl] at hr4 ⊢
  obtain ⟨b1, rfl, hc1, hx1, hx2⟩ := row1 (id := ⟨#[97]⟩) (to_ := 5) hr3
  obtain ⟨b4, rfl, hc4, hy1, hy2⟩ := row1 (id := ⟨#[97]⟩) (to_ := 6) hr4
  clear hr3 hr4
  go_wp2_with fail
  go_ret
  exact ⟨rfl, HB4.out⟩
end Go.Proofs.Ytiaanhjnjkmnfaa.Law19
