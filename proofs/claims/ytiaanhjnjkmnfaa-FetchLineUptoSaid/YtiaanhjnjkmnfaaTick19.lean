/- The program's desk walked: Tick. -/
import Derived.Test.YtiaanhjnjkmnfaaWant19
import Derived.BigRegion
import Derived.IntWalk
namespace Go.Proofs.Ytiaanhjnjkmnfaa.Tick19
open Go.RowKit Go.Proofs.YtiaanhjnjkmnfaaW.PrintWords Go.Proofs.YtiaanhjnjkmnfaaW.PrintMore Go.Proofs.YtiaanhjnjkmnfaaW.PrintLast Go.Proofs.Ytiaanhjnjkmnfaa.QKinds Go.Proofs.Ytiaanhjnjkmnfaa.Desk19 Go.Proofs.Ytiaanhjnjkmnfaa.Want19
set_option linter.unusedVariables false
set_option linter.unusedSimpArgs false
def asS (e : ByteArray × Int) : S46 := ⟨e.1, e.2⟩
theorem infoAsk : (Try.prog.info? 46).map (fun i => (i.zero, i.size, i.bytes)) = some (some (.agg #[.string ⟨#[]⟩, .int .i64 0]), 2, 24) := by kernel_rfl
theorem app_ask {ops : Array Oper} {o : Oper} {a : Act} {Q : Exit → Act → World → Prop} {Kc : Act → World → Prop} {W : World} {base : Nat} (hw : Region.wanted o (yielded ops a.tmps) = true) (ho : o.op = .call { callee := .builtin .append, args := #[.tmp 27, .tmp 43], argTypes := #[43, 43] })
    (v : Value) (xs : List S46) (x : S46) (hs : a.eval (.tmp 27) = v) (hx : a.eval (.tmp 43) = .slice (some ⟨W.heap.size, 0, none⟩) 1 1) (HO : k46.R 46 W base (fun _ => True) v xs) (hB : base ≤ W.heap.size) (hl : (xs.length + 1) * 24 ≤ 140737488355328)
    (h : ∀ v1 w1, k46.R 46 w1 base (fun _ => True) v1 (xs ++ [x]) → W.grownBy w1 v.ownBlock → Kc (a.put o.dst v1) w1) :
    if Region.wanted o (yielded ops a.tmps) = true then Oper.wp Try.prog o a (W.alloc (.cells #[.string x.f0, .int .i64 x.f1] 46)) Kc Q else Kc (a.put o.dst undef) (W.alloc (.cells #[.string x.f0, .int .i64 x.f1] 46)) :=
  Kd.R_append_step k46 (w0 := W) base hw (.tmp 27) (.tmp 43) 43 46 (.agg #[.string ⟨#[]⟩, .int .i64 0]) 24 ho Try.underlying43 infoAsk rfl (by decide) (by decide) v xs x [.string x.f0, .int .i64 x.f1] (fun _ => True) (fun _ => False) hs hx (k46_mkM _ _ _ _) (fun _ hk => hk.elim) (fun _ _ => trivial) HO ⟨rfl, rfl, rfl, Nat.le_refl _, fun _ _ => rfl⟩ hB hl (fun v1 w1 h1 _ h3 _ => h v1 w1 h1 h3)
theorem app_ask2 {ops : Array Oper} {o : Oper} {a : Act} {Q : Exit → Act → World → Prop} {Kc : Act → World → Prop} {W : World} {base : Nat} (hw : Region.wanted o (yielded ops a.tmps) = true) (ho : o.op = .call { callee := .builtin .append, args := #[.tmp 27, .tmp 43], argTypes := #[43, 43] })
    (v : Value) (xs : List S46) (x : S46) (hs : a.eval (.tmp 27) = v) (hx : a.eval (.tmp 43) = .slice (some ⟨W.heap.size, 0, none⟩) 1 1) (HO : k46.R 46 W base (fun _ => True) v xs) (hB : base ≤ W.heap.size) (hl : (xs.length + 1) * 24 ≤ 140737488355328)
    (h : ∀ v1 w1, k46.R 46 w1 base (fun _ => True) v1 (xs ++ [x]) → W.drew.grownBy w1 v.ownBlock → Kc (a.put o.dst v1) w1) :
    if Region.wanted o (yielded ops a.tmps) = true then Oper.wp Try.prog o a (W.alloc (.cells #[.string x.f0, .int .i64 x.f1] 46)).drew Kc Q else Kc (a.put o.dst undef) (W.alloc (.cells #[.string x.f0, .int .i64 x.f1] 46)).drew :=
  app_ask (W := W.drew) hw ho v xs x hs hx (Kd.R_drew HO) hB hl h
theorem left_due {r t : Nat} {x : Wi} (h : Wf r t x) (hr : 1 ≤ r) : (isDue r x = true → sp.b r x = 1) ∧ (isDue r x = false → 2 ≤ sp.b r x ∧ x.asked ≠ 0) := by
  obtain ⟨_, _, ⟨h3, h4⟩, _⟩ := h
  constructor
  · intro hd
    have hd : x.asked = 0 ∨ r ≤ x.ago + 1 := by simpa [isDue] using hd
    show (if x.asked = 0 then (1 : Int) else (r : Int) - (x.ago : Int)) = 1
    split
    · rfl
    · omega
  · intro hd
    have hd : ¬ (x.asked = 0 ∨ r ≤ x.ago + 1) := by simpa [isDue] using hd
    show 2 ≤ (if x.asked = 0 then (1 : Int) else (r : Int) - (x.ago : Int)) ∧ _
    rw [if_neg (by omega)]
    omega
theorem ne_typed {w : World} {p t t2 : Nat} {cs : Array Value} {v : Value} (h : w.heap[p]? = some (.cells cs t (0, 0))) (hty : ∀ k, v.ownBlock = some k → ∃ cells, w.heap[k]? = some (.cells cells t2 (0, 0))) (hne : t ≠ t2) : some p ≠ v.ownBlock := by
  intro e
  obtain ⟨cells, hc⟩ := hty p e.symm
  rw [h] at hc
  injection hc with hc
  injection hc with _ hc
  exact hne hc
theorem four {w : World} {p t c m : Nat} {A : Addr} {id : ByteArray} {fr : List Int} {b : Value} {tw : Int} (h : w.heap[p]? = some (.cells #[.string id, .slice (some A) fr.length c, .int .i64 (m : Int), b] t (0, 0))) (hR : (Kd.int .i64).R 3 w 0 (fun _ => True) (.slice (some A) fr.length c) fr) (hm : m < fr.length) (ht : tw = rd fr (m : Int)) :
    w.cell? ⟨p, 0, none⟩ = some (.string id) ∧ w.cell? ⟨p, 1, none⟩ = some (.slice (some A) fr.length c) ∧ w.cell? ⟨p, 2, none⟩ = some (.int .i64 (m : Int)) ∧ w.cell? (A.add m) = some (.int .i64 tw) := by
  obtain ⟨ad, e, hc⟩ := Kd.at_int (Kd.R_reads' hR).2.2 (m : Int) (by omega) (by omega)
  injection e with e
  subst e
  rw [Int.toNat_natCast, ← ht] at hc
  exact ⟨by rw [blk_cell h]; rfl, by rw [blk_cell h]; rfl, by rw [blk_cell h]; rfl, hc⟩
set_option maxHeartbeats 4000000 in
theorem tick (r t g : Nat) (A0 : Option Addr) (c0 : Nat) (ps : List Nat) (ws : List Wi) (w : World) (h : St sp r w g (.slice A0 ws.length c0) ps ws) (hr : 1 ≤ r) (hr2 : r ≤ 1000) (hw : ∀ i, i < ws.length → Wf r t (ws.getD i noWi)) (ht : t ≤ 1000000000) (hn : ws.length ≤ 64) :
    Calls Try.prog 17 #[.pointer (some ⟨g, 0, none⟩)] w fun e w' => ∃ v1, e = .returned v1 ∧ k46.R 46 w' w.heap.size (fun _ => True) v1 ((asks r ws).map asS) ∧ St sp r w' g (.slice A0 ws.length c0) ps (ticks r ws) ∧ Fr w w' (Bl g (.slice A0 ws.length c0) ps) := by
  have HS := Aside0.mk h
  obtain ⟨hg0, hg1⟩ := gcell h
  have HW := Aside0.mk hw
  clear h hw
  go_enter Try.func17, Try.ntmps17
  go_wp2_with fail
  go_loopw [3, 11] (fun v3 v11 wr => ∃ (k : Nat) (A : Option Addr) (c : Nat), k ≤ ws.length ∧ v11 = .int .i64 k ∧ v3 = .slice A (asks r (ws.take k)).length c ∧ Aside0 (k46.R 46 wr w.heap.size (fun _ => True) v3 ((asks r (ws.take k)).map asS)) ∧ Aside0 (St sp r wr g (.slice A0 ws.length c0) ps (half r ws k)) ∧ Aside0 (Fr w wr (Bl g (.slice A0 ws.length c0) ps))) (fun _ v11 _ => ws.length - (intOf v11).toNat)
  case atStart => exact ⟨0, none, 0, by omega, rfl, rfl, ⟨Kd.R_nil _ _ _ _ _⟩, ⟨by rw [half_zero]; exact HS.out⟩, ⟨Fr.refl _ _⟩⟩
  case round =>
    obtain ⟨k, A3, c3, hk, rfl, rfl, HR, HT, HF⟩ := hrel
    clear hg0 hg1
    by_cases hlt : k < ws.length
    · have hkh : k < (half r ws k).length := by rw [half_len]; exact hlt
      obtain ⟨hnn, hcap, ad, rfl, hcell⟩ := St.at_ptr HT.out hkh
      clear hnn
      obtain ⟨A2, c2, hw2, hR2⟩ := HT.out.wish k hkh
      rw [half_get r ws k hlt] at hw2 hR2
      have hwf := HW.out k hlt
      generalize hx : ws.getD k noWi = x at *
      have HX := Aside0.mk hx
      have HWF := Aside0.mk hwf
      have HLD := Aside0.mk (left_due hwf hr)
      clear hx hwf
      have hpm : ps.getD k 0 ∈ ps := getD_mem (by rw [HT.out.len]; exact hkh)
      have HPM := Aside0.mk hpm
      have HW2 := Aside0.mk hw2
      have HR2 := Aside0.mk hR2
      cases hd : isDue r x
      · obtain ⟨hL1, hL2⟩ := HLD.out.2 hd
        have hL3 : sp.b r x ≤ 1000 := by
          show (if x.asked = 0 then (1 : Int) else (r : Int) - (x.ago : Int)) ≤ 1000
          rw [if_neg hL2]; omega
        have HB1 : Aside0 (sp.b r (tick1 r x) = sp.b r x - 1 ∧ sp.a r (tick1 r x) = sp.a r x ∧ (tick1 r x).id = x.id ∧ (tick1 r x).fr = x.fr) := ⟨by
          have e : tick1 r x = { x with ago := x.ago + 1 } := by unfold tick1; rw [hd]; rfl
          rw [e]
          refine ⟨?_, rfl, rfl, rfl⟩
          show (if x.asked = 0 then (1 : Int) else (r : Int) - ((x.ago + 1 : Nat) : Int)) = (if x.asked = 0 then (1 : Int) else (r : Int) - (x.ago : Int)) - 1
          rw [if_neg hL2, if_neg hL2]; omega⟩
        have HSU := Aside0.mk (half_succ r ws k hlt)
        have HAS : Aside0 (asks r (ws.take (k + 1)) = asks r (ws.take k)) := ⟨by rw [asks_succ r ws k hlt, HX.out, hd]; rfl⟩
        have hp3 : wr.cell? ⟨ps.getD k 0, 3, none⟩ = some (.int .i64 (sp.b r x)) := by rw [blk_cell hw2]; rfl
        have hf3 : wr.frozen? ⟨ps.getD k 0, 3, none⟩ = false := blk_frozen hw2 3
        have HP : Aside0 (WishAt sp r (wr.setCell ⟨ps.getD k 0, 3, none⟩ (.int .i64 (sp.b r x - 1))) (ps.getD k 0) (tick1 r x)) := ⟨A2, c2, by
          rw [HB1.out.2.2.2, HB1.out.2.2.1, HB1.out.2.1, HB1.out.1]
          exact State.blk_set hw2 _, by
          rw [HB1.out.2.2.2]
          exact Kd.R_set hR2 hw2 (by decide) 3 _⟩
        have HFX : Aside0 (Fr wr (wr.setCell ⟨ps.getD k 0, 3, none⟩ (.int .i64 (sp.b r x - 1))) (fun q => q = ps.getD k 0)) := ⟨Fr.set (bl := fun q => q = ps.getD k 0) (Fr.refl _ _) (.inl rfl) _⟩
        have HST := Aside0.mk (HT.out.put hkh HFX.out (fun _ h => .inl h) (fun q hq cs => by subst hq; exact HT.out.put_ty hkh cs) HP.out)
        have HRA := Aside0.mk (Kd.R_set HR.out hw2 (by decide) 3 (.int .i64 (sp.b r x - 1)))
        generalize hp : ps.getD k 0 = p at *
        generalize hL : sp.b r x = L at *
        have hpos : decide (0 < L - 1) = true := decide_eq_true (by omega)
        clear hw2 hR2 hd hL
        go_wp2_with fail
        go_roundw
        case rel => exact ⟨k + 1, A3, c3, by omega, by go_num, by rw [HAS.out], ⟨by rw [HAS.out]; exact HRA.out⟩, ⟨by rw [HSU.out, HX.out]; exact HST.out⟩, ⟨HF.out.trans HFX.out (fun q hq => .inl (.inr (.inr (by rw [hq]; exact HPM.out))))⟩⟩
        case measure => simp [intOf]; omega
      · have hL1 := HLD.out.1 hd
        have hp3 : wr.cell? ⟨ps.getD k 0, 3, none⟩ = some (.int .i64 1) := by rw [blk_cell hw2, hL1]; rfl
        have hf3 : wr.frozen? ⟨ps.getD k 0, 3, none⟩ = false := blk_frozen hw2 3
        have hmlt : x.asked % x.fr.length < x.fr.length := Nat.mod_lt _ HWF.out.ne
        have HTO : Aside0 (toOf x = rd x.fr ((x.asked % x.fr.length : Nat) : Int)) := ⟨by rw [rd, Int.toNat_natCast]; rfl⟩
        have HMM : Aside0 ((x.asked % x.fr.length + 1) % x.fr.length = (x.asked + 1) % x.fr.length) := ⟨Nat.mod_add_mod _ _ _⟩
        have hfl := HWF.out.le
        have HB1 : Aside0 (sp.b r (tick1 r x) = (r : Int) ∧ sp.a r (tick1 r x) = (((x.asked + 1) % x.fr.length : Nat) : Int) ∧ (tick1 r x).id = x.id ∧ (tick1 r x).fr = x.fr) := ⟨by
          have e : tick1 r x = { x with asked := x.asked + 1, ago := 0 } := by unfold tick1; rw [hd]; rfl
          rw [e]
          refine ⟨?_, rfl, rfl, rfl⟩
          show (if x.asked + 1 = 0 then (1 : Int) else (r : Int) - ((0 : Nat) : Int)) = (r : Int)
          rw [if_neg (by omega)]; omega⟩
        have HSU := Aside0.mk (half_succ r ws k hlt)
        have HAS : Aside0 (asks r (ws.take (k + 1)) = asks r (ws.take k) ++ [(x.id, toOf x)]) := ⟨by rw [asks_succ r ws k hlt, HX.out, hd]; rfl⟩
        have HAL : Aside0 ((asks r (ws.take k)).length ≤ 64) := ⟨Nat.le_trans (asks_len _ _) (by rw [List.length_take]; omega)⟩
        have hb1 := State.blk_set (j := 3) hw2 (.int .i64 0)
        have hR1 := Kd.R_set hR2 hw2 (by decide) 3 (.int .i64 0)
        have hRA := Kd.R_set HR.out hw2 (by decide) 3 (.int .i64 0)
        have hg1 := gcell HT.out
        have hgn : g ≠ ps.getD k 0 := fun e => HT.out.ne_g hpm e.symm
        have hF1 : Fr wr (wr.setCell ⟨ps.getD k 0, 3, none⟩ (.int .i64 0)) (fun q => q = ps.getD k 0 ∨ (Value.slice A3 (asks r (ws.take k)).length c3).ownBlock = some q) := Fr.set (Fr.refl _ _) (.inl (.inl rfl)) _
        have hg0 : (wr.setCell ⟨ps.getD k 0, 3, none⟩ (.int .i64 0)).heap[g]? = some (.cells #[.int .i64 (r : Int), .slice (some ad) ws.length c0] sp.Td (0, 0)) := (Below.heap_setCell _ _ _ _ hgn).trans HT.out.dk
        have hsz : (wr.setCell ⟨ps.getD k 0, 3, none⟩ (.int .i64 0)).heap.size = wr.heap.size := by simp [World.setCell]
        generalize hp : ps.getD k 0 = p at *
        have hz : ¬ (0 : Int) < 0 := by omega
        clear hw2 hR2 hd hg1
        go_wp2_with fail
        clear hp3 hf3
        have hb1 : (wr.setCell ⟨p, 3, none⟩ (.int .i64 0)).heap[p]? = some (.cells #[.string x.id, .slice A2 x.fr.length c2, .int .i64 (sp.a r x), .int .i64 0] sp.Tw (0, 0)) := hb1
        generalize hW : wr.setCell ⟨p, 3, none⟩ (.int .i64 0) = W at *
        clear hW
        have hac : sp.a r x = ((x.asked % x.fr.length : Nat) : Int) := rfl
        rw [hac] at hb1
        generalize x.asked % x.fr.length = m at *
        obtain ⟨adf, eA, hcf⟩ := Kd.at_int (Kd.R_reads' hR1).2.2 (m : Int) (by omega) (by omega)
        subst eA
        rw [← HTO.out, Int.toNat_natCast] at hcf
        have HQ : Aside0 (∀ w', Below W.heap.size W w' → w'.cell? ⟨p, 0, none⟩ = some (.string x.id) ∧ w'.cell? ⟨p, 1, none⟩ = some (.slice (some adf) x.fr.length c2) ∧ w'.cell? ⟨p, 2, none⟩ = some (.int .i64 (m : Int)) ∧ w'.cell? (adf.add m) = some (.int .i64 (toOf x))) := ⟨fun w' hb => by
          have hb' := State.blk_below hb1 hb
          exact ⟨by rw [blk_cell hb']; rfl, by rw [blk_cell hb']; rfl, by rw [blk_cell hb']; rfl, pw_cell_below hb hcf⟩⟩
        have hS1 := HQ.out W.drew (below_drew1 (Below.refl _ _))
        have HB1' := Aside0.mk hb1
        have HG1 := Aside0.mk hg0
        have HR1 := Aside0.mk hR1
        have HRA := Aside0.mk hRA
        have HF1 := Aside0.mk hF1
        have HSZ := Aside0.mk hsz
        have hm0 : (0 : Int) ≤ (m : Int) := by omega
        have hm1 : (m : Int) < (x.fr.length : Int) := by omega
        clear hb1 hg0 hR1 hRA hF1 hcf hac hsz
        generalize toOf x = tw at *
        have HML : Aside0 (m < x.fr.length) := ⟨by omega⟩
        go_region_held3 (fun w' => w'.cell? ⟨p, 0, none⟩ = some (.string x.id) ∧ w'.cell? ⟨p, 1, none⟩ = some (.slice (some adf) x.fr.length c2) ∧ w'.cell? ⟨p, 2, none⟩ = some (.int .i64 (m : Int)) ∧ w'.cell? (adf.add m) = some (.int .i64 tw)) (first | assumption | exact HQ.out _ (below_alloc (below_drew1 (Below.refl _ _)) _))
          ((apply app_ask2 (v := .slice A3 (asks r (ws.take k)).length c3) (xs := (asks r (ws.take k)).map asS) (x := ⟨x.id, tw⟩) (base := w.heap.size); (case hw => rfl); (case ho => rfl); (case hs => rfl); (case hx => rfl); (case HO => exact HRA.out); (case hB => have := HF.out.size; have := HSZ.out; show w.heap.size ≤ W.heap.size; omega); (case hl => have := HAL.out; rw [List.length_map]; omega); intro v5 w5 hrow hg5; obtain ⟨A5, c5, e5⟩ := Kd.R_slice hrow; rw [List.length_append, List.length_map, List.length_singleton] at e5; subst e5; have hty := Kd.R_typed HRA.out; have hb5 : w5.heap[p]? = some (.cells #[.string x.id, .slice (some adf) x.fr.length c2, .int .i64 (m : Int), .int .i64 0] sp.Tw (0, 0)) := ((hg5.block p (State.lt_of_blk HB1'.out) (ne_typed HB1'.out hty (by decide))).trans HB1'.out); have hg5' : w5.heap[g]? = some (.cells #[.int .i64 (r : Int), .slice (some ad) ws.length c0] sp.Td (0, 0)) := ((hg5.block g (State.lt_of_blk HG1.out) (ne_typed HG1.out hty (by decide))).trans HG1.out); have hR5 := Kd.R_over' (Kd.R_drew HR1.out) hty (by decide) hg5; have hF5 := (HF1.out.drew).grown hg5 (fun q hq => .inl (.inr hq)); have hs5 := four hb5 hR5 HML.out HTO.out; clear hty hg5; have HROW := Aside0.mk hrow; have HB5 := Aside0.mk hb5; have HG5 := Aside0.mk hg5'; have HR5 := Aside0.mk hR5; have HF5 := Aside0.mk hF5; clear hrow hb5 hg5' hR5 hF5))
        have hc1 : w5.cell? ⟨p, 1, none⟩ = some (.slice (some adf) x.fr.length c2) := by rw [blk_cell HB5.out]; rfl
        have hc2 : w5.cell? ⟨p, 2, none⟩ = some (.int .i64 (m : Int)) := by rw [blk_cell HB5.out]; rfl
        have hc3 : w5.cell? ⟨p, 3, none⟩ = some (.int .i64 0) := by rw [blk_cell HB5.out]; rfl
        have hcg : w5.cell? ⟨g, 0, none⟩ = some (.int .i64 (r : Int)) := by rw [blk_cell HG5.out]; rfl
        have hz2 : w5.frozen? ⟨p, 2, none⟩ = false := blk_frozen HB5.out 2
        have hz3 : w5.frozen? ⟨p, 3, none⟩ = false := blk_frozen HB5.out 3
        have e1 : IntKind.i64.wrap ((m : Int) + 1) = (m : Int) + 1 := IntWalk.i64_in _ (by omega)
        have e2 : ((m : Int) + 1).tmod (x.fr.length : Int) = (((m + 1) % x.fr.length : Nat) : Int) := by
          rw [Int.tmod_eq_emod_of_nonneg (by omega)]; rfl
        have hl0 : ((x.fr.length : Int) == 0) = false := beq_eq_false_iff_ne.2 (by omega)
        go_wp2_with fail
        go_region
        all_goals
          clear e1 e2
          have hbf := State.blk_set (j := 3) (State.blk_set (j := 2) HB5.out (.int .i64 (((m + 1) % x.fr.length : Nat) : Int))) (.int .i64 (r : Int))
          have hx2 := State.blk_set (j := 2) HB5.out (.int .i64 (((m + 1) % x.fr.length : Nat) : Int))
          have HP : Aside0 (WishAt sp r ((w5.setCell ⟨p, 2, none⟩ (.int .i64 (((m + 1) % x.fr.length : Nat) : Int))).setCell ⟨p, 3, none⟩ (.int .i64 (r : Int))) (ps.getD k 0) (tick1 r x)) := ⟨some adf, c2, by
            rw [HB1.out.2.2.2, HB1.out.2.2.1, HB1.out.2.1, HB1.out.1, hp, ← HMM.out]
            exact hbf, by
            rw [HB1.out.2.2.2]
            exact Kd.R_set (Kd.R_set HR5.out HB5.out (by decide) 2 _) hx2 (by decide) 3 _⟩
          have HFX : Aside0 (Fr wr ((w5.setCell ⟨p, 2, none⟩ (.int .i64 (((m + 1) % x.fr.length : Nat) : Int))).setCell ⟨p, 3, none⟩ (.int .i64 (r : Int))) (fun q => q = p ∨ (Value.slice A3 (asks r (ws.take k)).length c3).ownBlock = some q)) := ⟨(HF5.out.set (.inl (.inl rfl)) _).set (.inl (.inl rfl)) _⟩
          have HST := Aside0.mk (HT.out.put hkh HFX.out (fun q hq => hq.elim (fun h => .inl (h.trans hp.symm)) (fun h => .inr (by
            obtain ⟨cs, hc⟩ := Kd.R_typed HR.out q h
            exact HT.out.not_bl hc (by decide) (by decide) (by decide)))) (fun q hq cs hc => by
              rcases hq with h | h
              · subst h; rw [← hp] at hc; exact HT.out.put_ty hkh cs hc
              · obtain ⟨cs2, hc2⟩ := Kd.R_typed HR.out q h
                rw [hc] at hc2
                injection hc2 with hc2
                injection hc2 with _ hc2
                exact absurd hc2 (by decide)) HP.out)
          have HRB := Aside0.mk (Kd.R_set (Kd.R_set HROW.out HB5.out (by decide) 2 (.int .i64 (((m + 1) % x.fr.length : Nat) : Int))) hx2 (by decide) 3 (.int .i64 (r : Int)))
          have HBA := Aside0.mk (fun q (hq : (Value.slice A3 (asks r (ws.take k)).length c3).ownBlock = some q) => Kd.R_base HR.out q hq)
          clear hbf hx2
          go_wp2_with fail
          go_roundw
          case rel => exact ⟨k + 1, A5, c5, by omega, by go_num, by rw [HAS.out, List.length_append, List.length_singleton], ⟨by
            have h := Kd.R_drew HRB.out
            rw [HAS.out, List.map_append]
            exact h⟩, ⟨by
            have h := HST.out.drewN 1
            rw [HSU.out, HX.out]
            exact h⟩, ⟨by
            have h := (HF.out.trans HFX.out (fun q hq => by
              rcases hq with h | h
              · exact .inl (.inr (.inr (by rw [h]; exact HPM.out)))
              · exact .inr (HBA.out q h))).drew
            exact h⟩⟩
          case measure => simp [intOf]; omega
    · obtain rfl : k = ws.length := by omega
      have hall : Aside0 (asks r (ws.take ws.length) = asks r ws ∧ half r ws ws.length = ticks r ws) := ⟨by rw [List.take_length], half_all r ws⟩
      go_wp2_with fail
      go_ret
      exact ⟨_, rfl, by have := HR.out; rw [hall.out.1] at this; rw [hall.out.1]; exact this, by have := HT.out; rw [hall.out.2] at this; exact this, HF.out⟩
end Go.Proofs.Ytiaanhjnjkmnfaa.Tick19
