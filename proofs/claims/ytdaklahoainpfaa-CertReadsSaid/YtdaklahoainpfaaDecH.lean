/- header.Decode walked. -/
import Derived.Test.YtdaklahoainpfaaDecR
namespace Go.Proofs.Ytdaklahoainpfaa.DecH
open Go.RowKit Go.Proofs.YtdaklahoainpfaaW.PrintWords Go.Proofs.YtdaklahoainpfaaW.PrintLast Go.Proofs.YtdaklahoainpfaaW.PrintMore Go.Proofs.Ytdaklahoainpfaa.Plain01 Go.Proofs.Ytdaklahoainpfaa.WireInt Go.Proofs.Ytdaklahoainpfaa.Ref01 Go.Proofs.Ytdaklahoainpfaa.QKinds Go.Proofs.Ytdaklahoainpfaa.QBaseR Go.Proofs.Ytdaklahoainpfaa.PlainR Go.Proofs.Ytdaklahoainpfaa.TakeR Go.Proofs.Ytdaklahoainpfaa.Hdec Go.Proofs.Ytdaklahoainpfaa.State Go.Proofs.Ytdaklahoainpfaa.DecR
set_option linter.unusedVariables false
set_option linter.unusedSimpArgs false
abbrev zeroH : Obj := .cells #[.int .i64 0, .int .i64 0, .slice none 0 0, .slice none 0 0] 25 (0, 0)
/-- Where things lie in the loop. -/
structure HJ (w W : World) (gb : Nat) (s : ByteArray) (e a r : Int) (u : Value) (xs : List RefT) : Prop where
  z : W.heap[w.heap.size]? = some zeroH
  d : W.heap[w.heap.size + 1]? = some (rdo s e)
  y : W.heap[gb]? = some (.cells #[.int .i64 a, .int .i64 r, u, .slice none 0 0] 25 (0, 0))
  own : Kd.S k69 69 W w.heap.size (fun _ => True) u xs
  b : Below w.heap.size w W
  ge : w.heap.size + 2 ≤ gb
theorem HJ.own2 {w W W' : World} {gb : Nat} {s s' : ByteArray} {e e' a r : Int} {u : Value} {xs : List RefT} (h : HJ w W gb s e a r u xs) (hU : Upd W W' (w.heap.size + 1) (rdo s' e')) : Kd.S k69 69 W' w.heap.size (fun k => True ∧ k < W.heap.size) u xs :=
  Kd.S_oldK (Kd.S_types h.own h.d (by decide)) (Upd.keep hU)
theorem HJ.take {w W W' : World} {gb : Nat} {s s' : ByteArray} {e e' a r : Int} {u : Value} {xs : List RefT} (h : HJ w W gb s e a r u xs) (hU : Upd W W' (w.heap.size + 1) (rdo s' e')) : HJ w W' gb s' e' a r u xs :=
  ⟨hU.other h.z (by omega), hU.here, hU.other h.y (by have := h.ge; omega), Kd.S_mono (h.own2 hU) (fun _ hk => hk.1), Upd.under hU h.b (by omega), h.ge⟩
theorem HJ.drew {w W : World} {gb : Nat} {s : ByteArray} {e a r : Int} {u : Value} {xs : List RefT} (h : HJ w W gb s e a r u xs) : HJ w W.drew gb s e a r u xs :=
  ⟨h.z, h.d, h.y, Kd.S_drew h.own, below_drew1 h.b, h.ge⟩
theorem HJ.alloc {w W : World} {gb : Nat} {s : ByteArray} {e a r : Int} {u : Value} {xs : List RefT} (h : HJ w W gb s e a r u xs) (o : Obj) : HJ w (W.alloc o) gb s e a r u xs :=
  ⟨blk_alloc h.z _, blk_alloc h.d _, blk_alloc h.y _, Kd.S_alloc h.own _, below_alloc h.b _, h.ge⟩
theorem HJ.cells {w W : World} {gb : Nat} {s : ByteArray} {e a r : Int} {u : Value} {xs : List RefT} (h : HJ w W gb s e a r u xs) : W.cell? ⟨gb, 2, none⟩ = some u ∧ W.cell? ⟨gb, 0, none⟩ = some (.int .i64 a) ∧ W.cell? ⟨gb, 1, none⟩ = some (.int .i64 r) ∧ W.cell? ⟨gb, 3, none⟩ = some (.slice none 0 0) ∧ W.frozen? ⟨gb, 2, none⟩ = false ∧ W.frozen? ⟨gb, 3, none⟩ = false :=
  ⟨(blk_cell h.y 2).trans rfl, (blk_cell h.y 0).trans rfl, (blk_cell h.y 1).trans rfl, (blk_cell h.y 3).trans rfl, blk_frozen h.y 2, blk_frozen h.y 3⟩
theorem HJ.rdr {w W : World} {gb : Nat} {s : ByteArray} {e a r : Int} {u : Value} {xs : List RefT} (h : HJ w W gb s e a r u xs) : W.cell? ⟨w.heap.size + 1, 0, none⟩ = some (.string s) ∧ W.cell? ⟨w.heap.size + 1, 1, none⟩ = some (.int .i64 e) :=
  ⟨(blk_cell h.d 0).trans rfl, (blk_cell h.d 1).trans rfl⟩
theorem HJ.res {w W : World} {gb : Nat} {s : ByteArray} {e a r : Int} {u : Value} {xs : List RefT} (h : HJ w W gb s e a r u xs) : (W.cell? ⟨w.heap.size, 0, none⟩ = some (.int .i64 0) ∧ W.cell? ⟨w.heap.size, 1, none⟩ = some (.int .i64 0) ∧ W.cell? ⟨w.heap.size, 2, none⟩ = some (.slice none 0 0) ∧ W.cell? ⟨w.heap.size, 3, none⟩ = some (.slice none 0 0)) ∧ W.frozen? ⟨w.heap.size, 0, none⟩ = false ∧ W.frozen? ⟨w.heap.size, 1, none⟩ = false ∧ W.frozen? ⟨w.heap.size, 2, none⟩ = false ∧ W.frozen? ⟨w.heap.size, 3, none⟩ = false :=
  ⟨⟨(blk_cell h.z 0).trans rfl, (blk_cell h.z 1).trans rfl, (blk_cell h.z 2).trans rfl, (blk_cell h.z 3).trans rfl⟩, blk_frozen h.z 0, blk_frozen h.z 1, blk_frozen h.z 2, blk_frozen h.z 3⟩
theorem HJ.grown {w W w5 : World} {gb : Nat} {s : ByteArray} {e a r : Int} {u v1 : Value} {xs ys : List RefT} (h : HJ w W gb s e a r u xs) (hg : W.grownBy w5 u.ownBlock) : w5.heap[w.heap.size]? = some zeroH ∧ w5.heap[w.heap.size + 1]? = some (rdo s e) ∧ w5.heap[gb]? = some (.cells #[.int .i64 a, .int .i64 r, u, .slice none 0 0] 25 (0, 0)) :=
  ⟨blk_grown h.z hg (Kd.S_ne h.own h.z (by decide)), blk_grown h.d hg (Kd.S_ne h.own h.d (by decide)), blk_grown h.y hg (Kd.S_ne h.own h.y (by decide))⟩
theorem HJ.push {w W w5 : World} {gb : Nat} {s : ByteArray} {e a r : Int} {u v1 : Value} {xs ys : List RefT} (h : HJ w W gb s e a r u xs) (hg : W.grownBy w5 u.ownBlock) (ho : Kd.S k69 69 w5 w.heap.size (fun _ => True) v1 ys) (hb : Below w.heap.size w w5) : HJ w (w5.setCell ⟨gb, 2, none⟩ v1) gb s e a r v1 ys := by
  obtain ⟨h1, h2, h3⟩ := h.grown (v1 := v1) (ys := ys) hg
  have hge := h.ge
  exact ⟨blk_far h1 (show w.heap.size ≠ gb by omega) _, blk_far h2 (show w.heap.size + 1 ≠ gb by omega) _, blk_put h3 2 _ rfl, Kd.S_set ho h3 (by decide) 2 v1, below_set hb (by omega), hge⟩
theorem infoRef : (Try.prog.info? 69).map (fun i => (i.zero, i.size, i.bytes)) = some (some (.agg #[(.string ⟨#[]⟩), (.slice none 0 0)]), 2, 40) := by kernel_rfl
theorem app_ref {ops : Array Oper} {o : Oper} {a : Act} {Q : Exit → Act → World → Prop} {Kc : Act → World → Prop} {W : World} (hw : Region.wanted o (yielded ops a.tmps) = true) (ho : o.op = .call { callee := .builtin .append, args := #[.tmp 31, .tmp 37], argTypes := #[22, 22] })
    (w : World) (v : Value) (xs : List RefT) (d : ByteArray) (tg : List Tag) (A : Option Addr) (c : Nat) (hs : a.eval (.tmp 31) = v) (hx : a.eval (.tmp 37) = .slice (some ⟨W.heap.size, 0, none⟩) 1 1)
    (HR : k77.R 77 W w.heap.size (fun _ => True) (.slice A tg.length c) tg) (HO : Kd.S k69 69 W w.heap.size (fun k => True ∧ ¬ (some k = (.slice A tg.length c : Value).ownBlock)) v xs) (HB : Below w.heap.size w W) (hl : (xs.length + 1) * 40 ≤ 140737488355328)
    (h : ∀ v1 w1, Kd.S k69 69 w1 w.heap.size (fun _ => True) v1 (xs ++ [⟨d, tg⟩]) → Below w.heap.size w w1 → W.grownBy w1 v.ownBlock → Kc (a.put o.dst v1) w1) :
    if Region.wanted o (yielded ops a.tmps) = true then Oper.wp Try.prog o a (W.alloc (.cells #[.string d, .slice A tg.length c] 69)) Kc Q else Kc (a.put o.dst undef) (W.alloc (.cells #[.string d, .slice A tg.length c] 69)) := by
  have hR2 := Kd.R_apart' HR (Kd.S_typed HO) (by decide)
  exact Kd.S_append_step k69 (w0 := w) w.heap.size hw (.tmp 31) (.tmp 37) 22 69 (.agg #[(.string ⟨#[]⟩), (.slice none 0 0)]) 40 ho Try.underlying22 infoRef rfl (by decide) (by decide) v xs ⟨d, tg⟩ [.string d, .slice A tg.length c] (fun _ => True) (fun k_ => some k_ = (.slice A tg.length c : Value).ownBlock) hs hx
    (k69_mkM _ _ _ (⟨d, tg⟩ : RefT) (Kd.R_mono (Kd.R_tight rfl hR2) (fun _ h_ => h_))) (fun k_ hk_ => hR2.1 k_ hk_.symm) (fun _ _ => trivial) HO HB HB.size hl (fun v1 w1 h1 h2 h3 _ => h v1 w1 h1 h2 h3)
theorem n_small {s : ByteArray} (h : ¬ ((hN s).2.2 = 0 ∧ 4 < (hN s).1)) : (hN s).1 ≤ 4 := by
  by_cases h0 : (hN s).2.2 = 0
  · by_cases h4 : 4 < (hN s).1
    · exact absurd ⟨h0, h4⟩ h
    · omega
  · have hz : (hN s).1 = 0 := by
      unfold hN tkI
      split
      · rename_i hz
        rcases wireGet_cases (hR s).2.1 with ⟨g0, _⟩ | ⟨g1, _⟩
        · exact absurd (show (hN s).2.2 = 0 by rw [hN, tkI, if_pos hz]; exact g0) h0
        · exact g1
      · rfl
    omega
/-- What the end tells. -/
def fin (p : List ByteArray × ByteArray × Int) (a r : Int) (l : List RefT) : Hd := if p.2.2 ≠ 0 then (0, 0, [], [], p.2.2) else if p.2.1 ≠ (⟨#[]⟩ : ByteArray) then (0, 0, [], [], 6) else if 6 < a then (0, 0, [], [], 2) else (a, r, l, p.1, 0)
def header_Decode.f (a0 : ByteArray) : Option (Int × Int × List RefT × List ByteArray × Int) := if a0.size ≤ 1048576 then some (hdec a0) else none
set_option maxHeartbeats 8000000 in
set_option maxRecDepth 100000 in
theorem header_Decode.calls (a0 : ByteArray) (r1 r2 : Int) (r3 : List RefT) (r4 : List ByteArray) (r5 : Int) (w : World) (h : header_Decode.f a0 = some (r1, r2, r3, r4, r5)) :
    Calls Try.prog 9 #[.string a0] w fun e w' => ∃ v2_ v3_ : Value, e = .returned (.tuple #[.agg #[.int .i64 r1, .int .i64 r2, v2_, v3_], .int .i64 r5]) ∧ Kd.S k69 69 w' w.heap.size (fun _ => True) v2_ r3 ∧ Kd.R Kd.string 9 w' w.heap.size (fun _ => True) v3_ r4 ∧ Below w.heap.size w w' := by
  have hu25 := Try.underlying25
  have hu63 := Try.underlying63
  by_cases hs : a0.size ≤ 1048576
  · rw [header_Decode.f, if_pos hs] at h
    injection h with h
    have s1 : (hA a0).2.1.size ≤ 1048576 := Nat.le_trans (tkI_le _ _) hs
    have s2 : (hR a0).2.1.size ≤ 1048576 := Nat.le_trans (tkI_le _ _) s1
    have s3 : (hN a0).2.1.size ≤ 1048576 := Nat.le_trans (tkI_le _ _) s2
    have hn0 : 0 ≤ (hN a0).1 := tkI_nonneg _ _
    have T1 : Aside0 (∀ (W : World) (g : Nat), W.heap[g]? = some (rdo a0 0) → Calls Try.prog 31 #[.pointer (some ⟨g, 0, none⟩), .func (.func 32) #[] #[]] W fun x w' => x = .returned (.int .i64 (hA a0).1) ∧ Upd W w' g (rdo (hA a0).2.1 (hA a0).2.2)) := ⟨fun W g h => takeI h hs⟩
    have T2 : Aside0 (∀ (W : World) (g : Nat), W.heap[g]? = some (rdo (hA a0).2.1 (hA a0).2.2) → Calls Try.prog 31 #[.pointer (some ⟨g, 0, none⟩), .func (.func 32) #[] #[]] W fun x w' => x = .returned (.int .i64 (hR a0).1) ∧ Upd W w' g (rdo (hR a0).2.1 (hR a0).2.2)) := ⟨fun W g h => takeI h s1⟩
    have T3 : Aside0 (∀ (W : World) (g : Nat), W.heap[g]? = some (rdo (hR a0).2.1 (hR a0).2.2) → Calls Try.prog 31 #[.pointer (some ⟨g, 0, none⟩), .func (.func 32) #[] #[]] W fun x w' => x = .returned (.int .i64 (hN a0).1) ∧ Upd W w' g (rdo (hN a0).2.1 (hN a0).2.2)) := ⟨fun W g h => takeI h s2⟩
    have HH : Aside0 (((hN a0).2.2 = 0 ∧ 4 < (hN a0).1 → (0, 0, [], [], 8) = ((r1, r2, r3, r4, r5) : Hd)) ∧ (¬ ((hN a0).2.2 = 0 ∧ 4 < (hN a0).1) → (hN a0).1 ≤ 4 ∧ fin (pOf (refs (hN a0).1.toNat (hN a0).2.1 (hN a0).2.2)) (hA a0).1 (hR a0).1 (refs (hN a0).1.toNat (hN a0).2.1 (hN a0).2.2).1 = (r1, r2, r3, r4, r5))) :=
      ⟨fun hc => by rw [hdec, if_pos hc] at h; exact h, fun hc => ⟨n_small hc, by rw [hdec, if_neg hc] at h; exact h⟩⟩
    clear h hs s1 s2
    generalize hA a0 = xa at *
    generalize hR a0 = xr at *
    generalize hN a0 = xn at *
    obtain ⟨a, sa, ea⟩ := xa
    obtain ⟨r, sr, er⟩ := xr
    obtain ⟨n, sn, en⟩ := xn
    dsimp only at T1 T2 T3 HH s3 hn0
    go_enter Try.func9, Try.ntmps9
    go_wp2_with fail
    have hD0 : ((w.alloc (.cells #[.int .i64 0, .int .i64 0, .slice none 0 0, .slice none 0 0] 25)).alloc (.cells #[.string a0, .int .i64 0] 63)).heap[w.heap.size + 1]? = some (rdo a0 0) := by
      have h := heap_alloc_new (w.alloc (.cells #[.int .i64 0, .int .i64 0, .slice none 0 0, .slice none 0 0] 25)) (.cells #[.string a0, .int .i64 0] 63)
      rw [show (w.alloc (.cells #[.int .i64 0, .int .i64 0, .slice none 0 0, .slice none 0 0] 25)).heap.size = w.heap.size + 1 from by simp] at h; exact h
    have hB0 : Below w.heap.size w ((w.alloc (.cells #[.int .i64 0, .int .i64 0, .slice none 0 0, .slice none 0 0] 25)).alloc (.cells #[.string a0, .int .i64 0] 63)) := below_alloc (below_alloc (Below.refl _ _) _) _
    have hZ0 : ((w.alloc (.cells #[.int .i64 0, .int .i64 0, .slice none 0 0, .slice none 0 0] 25)).alloc (.cells #[.string a0, .int .i64 0] 63)).heap[w.heap.size]? = some zeroH := blk_alloc (heap_alloc_new w _) _
    generalize (w.alloc (.cells #[.int .i64 0, .int .i64 0, .slice none 0 0, .slice none 0 0] 25)).alloc (.cells #[.string a0, .int .i64 0] 63) = W0 at *
    refine (T1.out W0 _ hD0).mono ?_
    rintro y w1 ⟨rfl, hU1⟩
    have HD1 := Aside0.mk hU1.here
    have HZ1 := Aside0.mk (hU1.other hZ0 (by omega))
    have HB1 := Aside0.mk (Upd.under hU1 hB0 (by omega))
    clear hU1 hD0 hB0 hZ0 T1
    go_wp2_with fail
    refine (T2.out w1 _ HD1.out).mono ?_
    rintro y w2 ⟨rfl, hU2⟩
    have HD2 := Aside0.mk hU2.here
    have HZ2 := Aside0.mk (hU2.other HZ1.out (by omega))
    have HB2 := Aside0.mk (Upd.under hU2 HB1.out (by omega))
    have hlt : w.heap.size + 1 < w2.heap.size := State.lt_of_blk hU2.here
    clear hU2 HD1 HZ1 HB1 T2
    go_wp2_with fail
    have hJ : HJ w (w2.alloc (.cells #[.int .i64 a, .int .i64 r, .slice none 0 0, .slice none 0 0] 25)) w2.heap.size sr er a r (.slice none 0 0) [] := ⟨blk_alloc HZ2.out _, blk_alloc HD2.out _, heap_alloc_new _ _, Kd.S_nil _ _ _ _ _, below_alloc HB2.out _, by omega⟩
    generalize w2.alloc (.cells #[.int .i64 a, .int .i64 r, .slice none 0 0, .slice none 0 0] 25) = W3 at *
    generalize w2.heap.size = gb at *
    refine (T3.out W3 _ hJ.d).mono ?_
    rintro y w3 ⟨rfl, hU3⟩
    have HJ3 := Aside0.mk (hJ.take hU3)
    clear hJ hU3 HD2 HZ2 HB2 T3
    have hge := HJ3.out.ge
    obtain ⟨hr0, hr1⟩ := HJ3.out.rdr
    by_cases hc : en = 0 ∧ 4 < n
    · have hres := HH.out.1 hc
      obtain ⟨rfl, h4⟩ := hc
      clear HH hlt
      simp only [Prod.mk.injEq] at hres
      obtain ⟨rfl, rfl, rfl, rfl, rfl⟩ := hres
      have hn4 : decide (n > 4) = true := decide_eq_true h4
      obtain ⟨⟨hz0, hz1, hz2, hz3⟩, hzf0, hzf1, hzf2, hzf3⟩ := HJ3.out.res
      go_wp2_with fail
      have hU := put4 HJ3.out.z (.int .i64 0) (.int .i64 0) (.slice none 0 0) (.slice none 0 0)
      have HB3 := Upd.under hU HJ3.out.b (Nat.le_refl _)
      refine bodyPost_ret (results_ct rfl _ _ w.heap.size 25 #[.int .i64 0, .int .i64 0, .slice none 0 0, .slice none 0 0] (0, 0) _ rfl hU.here Try.underlying25 rfl (by kernel_rfl)) rfl ?_
      exact ⟨_, _, rfl, Kd.S_nil _ _ _ _ _, Kd.R_nil _ _ _ _ _, HB3⟩
    · obtain ⟨hn4, hres⟩ := HH.out.2 hc
      have HRES := Aside0.mk hres
      clear HH hlt hres
      go_upto_region 4 with (fail)
      go_cut [25] (fun v25 wc => v25 = .bool false ∧ wc = w3)
      case first =>
        by_cases he : en = 0
        · subst he
          have hn5 : decide (n > 4) = false := decide_eq_false (by omega)
          go_wp2_with fail
          go_meet
          case rel => exact ⟨rfl, rfl⟩
        · have hb : (en == 0) = false := beq_eq_false_iff_ne.2 he
          go_wp2_with fail
          go_meet
          case rel => exact ⟨rfl, rfl⟩
      case rest =>
        obtain ⟨rfl, rfl⟩ := hcut
        clear hr0 hr1 hc
        go_wp2_with fail
        go_loopw [28] (fun v28 wr => ∃ (d : Nat) (s : ByteArray) (e : Int) (A : Option Addr) (c : Nat) (xs : List RefT), v28 = .int .i64 (n - (d : Int)) ∧ (d : Int) ≤ n ∧ (xs.length : Int) + d = n ∧ s.size ≤ 1048576 ∧ Aside0 (HJ w wr gb s e a r (.slice A xs.length c) xs) ∧ Aside0 (xs ++ (refs d s e).1 = (refs n.toNat sn en).1 ∧ (refs d s e).2 = (refs n.toNat sn en).2)) (fun v _ => (n - intOf v).toNat)
        case atStart => exact ⟨n.toNat, sn, en, none, 0, [], by rw [show n - (n.toNat : Int) = 0 by omega], by omega, by rw [List.length_nil]; omega, s3, HJ3, ⟨by rw [List.nil_append], rfl⟩⟩
        case round =>
          clear HJ3
          obtain ⟨d, s, e, A, c, xs, rfl, hd, hx, hs, HJ0, HL⟩ := hrel
          cases d with
          | zero =>
            have hlt : decide (n - ((0 : Nat) : Int) < n) = false := decide_eq_false (by omega)
            have hp : fin (tkL s e) a r xs = (r1, r2, r3, r4, r5) := by
              have hl1 : xs = (refs n.toNat sn en).1 := (List.append_nil xs).symm.trans HL.out.1
              have hl2 : (refs n.toNat sn en).2 = (s, e) := HL.out.2.symm
              have h := HRES.out
              rw [pOf, hl2, ← hl1] at h
              exact h
            have HL8 := Aside0.mk (fun (W : World) (h : W.heap[w.heap.size + 1]? = some (rdo s e)) => takeL h hs)
            clear HRES HL
            generalize tkL s e = pp at *
            obtain ⟨P, sp, ep⟩ := pp
            dsimp only at HL8 hp
            have HP := Aside0.mk hp
            clear hp
            have hge0 := HJ0.out.ge
            go_wp2_with fail
            refine (HL8.out _ HJ0.out.d).mono ?_
            rintro y8 w8 ⟨A8, c8, rfl, hR8, hU8⟩
            have HJ8 := Aside0.mk (HJ0.out.take hU8)
            have HR8 := Aside0.mk (Kd.R_lower hR8 HJ0.out.b.size)
            clear hU8 hR8 HL8
            obtain ⟨hy2, hy0, hy1, hy3, hyf2, hyf3⟩ := HJ8.out.cells
            go_upto_region 11 with (fail)
            have hZ9 := blk_far HJ8.out.z (p := ⟨gb, 3, none⟩) (show w.heap.size ≠ gb by omega) (.slice A8 P.length c8)
            have hD9 := blk_far HJ8.out.d (p := ⟨gb, 3, none⟩) (show w.heap.size + 1 ≠ gb by omega) (.slice A8 P.length c8)
            have hY9 : (w8.setCell ⟨gb, 3, none⟩ (.slice A8 P.length c8)).heap[gb]? = some (.cells #[.int .i64 a, .int .i64 r, .slice A xs.length c, .slice A8 P.length c8] 25 (0, 0)) := blk_put HJ8.out.y 3 _ rfl
            have hB9 : Below w.heap.size w (w8.setCell ⟨gb, 3, none⟩ (.slice A8 P.length c8)) := below_set HJ8.out.b (by omega)
            have hS9 := Kd.S_set HJ8.out.own HJ8.out.y (by decide) 3 (.slice A8 P.length c8)
            have hR9 := Kd.R_set HR8.out HJ8.out.y (by decide) 3 (.slice A8 P.length c8)
            clear hy2 hy0 hy1 hy3 hyf2 hyf3 HJ8 HR8 HJ0
            generalize w8.setCell ⟨gb, 3, none⟩ (.slice A8 P.length c8) = w9 at *
            have hr0 : w9.cell? ⟨w.heap.size + 1, 0, none⟩ = some (.string sp) := (blk_cell hD9 0).trans rfl
            have hr1 : w9.cell? ⟨w.heap.size + 1, 1, none⟩ = some (.int .i64 ep) := (blk_cell hD9 1).trans rfl
            have hy0 : w9.cell? ⟨gb, 0, none⟩ = some (.int .i64 a) := (blk_cell hY9 0).trans rfl
            have hy1 : w9.cell? ⟨gb, 1, none⟩ = some (.int .i64 r) := (blk_cell hY9 1).trans rfl
            have hy2 : w9.cell? ⟨gb, 2, none⟩ = some (.slice A xs.length c) := (blk_cell hY9 2).trans rfl
            have hy3 : w9.cell? ⟨gb, 3, none⟩ = some (.slice A8 P.length c8) := (blk_cell hY9 3).trans rfl
            have hz0 : w9.cell? ⟨w.heap.size, 0, none⟩ = some (.int .i64 0) := (blk_cell hZ9 0).trans rfl
            have hz1 : w9.cell? ⟨w.heap.size, 1, none⟩ = some (.int .i64 0) := (blk_cell hZ9 1).trans rfl
            have hz2 : w9.cell? ⟨w.heap.size, 2, none⟩ = some (.slice none 0 0) := (blk_cell hZ9 2).trans rfl
            have hz3 : w9.cell? ⟨w.heap.size, 3, none⟩ = some (.slice none 0 0) := (blk_cell hZ9 3).trans rfl
            have hzf0 := blk_frozen hZ9 0
            have hzf1 := blk_frozen hZ9 1
            have hzf2 := blk_frozen hZ9 2
            have hzf3 := blk_frozen hZ9 3
            have HZ9 := Aside0.mk hZ9
            have HB9 := Aside0.mk hB9
            have HS9 := Aside0.mk hS9
            have HR9 := Aside0.mk hR9
            clear hZ9 hD9 hY9 hB9 hS9 hR9
            have hn_ : ¬ (w.heap.size = w.heap.size + 1) := by omega
            have hn_' : ¬ (w.heap.size + 1 = w.heap.size) := by omega
            have hP := HP.out
            clear HP
            unfold fin at hP
            by_cases he : ep = 0
            · subst he
              rw [if_neg (show ¬ ((0 : Int) ≠ 0) from fun h => h rfl)] at hP
              by_cases hsp : sp = (⟨#[]⟩ : ByteArray)
              · subst hsp
                rw [if_neg (fun h => h rfl)] at hP
                by_cases h6 : 6 < a
                · rw [if_pos h6] at hP
                  simp only [Prod.mk.injEq] at hP
                  obtain ⟨rfl, rfl, rfl, rfl, rfl⟩ := hP
                  have hb : decide (a > 6) = true := decide_eq_true h6
                  go_wp2_with fail
                  have hU := put4 HZ9.out (.int .i64 0) (.int .i64 0) (.slice none 0 0) (.slice none 0 0)
                  have HB3 := Upd.under hU HB9.out (Nat.le_refl _)
                  refine bodyPost_ret (results_ct rfl _ _ w.heap.size 25 #[.int .i64 0, .int .i64 0, .slice none 0 0, .slice none 0 0] (0, 0) _ rfl hU.here Try.underlying25 rfl (by kernel_rfl)) rfl ?_
                  exact ⟨_, _, rfl, Kd.S_nil _ _ _ _ _, Kd.R_nil _ _ _ _ _, HB3⟩
                · rw [if_neg h6] at hP
                  simp only [Prod.mk.injEq] at hP
                  obtain ⟨rfl, rfl, rfl, rfl, rfl⟩ := hP
                  have hb : decide (a > 6) = false := decide_eq_false h6
                  go_wp2_with fail
                  have hU := put4 HZ9.out (.int .i64 a) (.int .i64 r) (.slice A xs.length c) (.slice A8 P.length c8)
                  have HB3 := Upd.under hU HB9.out (Nat.le_refl _)
                  have HS3 := Kd.S_mono (Kd.S_keep (Kd.S_types HS9.out HZ9.out (by decide)) (Upd.keep hU) (fun _ h => h.2)) (fun _ h => h.1)
                  have HR3 := Kd.R_mono (Kd.R_keep (Kd.R_types HR9.out HZ9.out (by decide)) (Upd.keep hU) (fun _ h => h.2)) (fun _ h => h.1)
                  refine bodyPost_ret (results_ct rfl _ _ w.heap.size 25 #[.int .i64 a, .int .i64 r, .slice A xs.length c, .slice A8 P.length c8] (0, 0) _ rfl hU.here Try.underlying25 rfl (by kernel_rfl)) rfl ?_
                  exact ⟨_, _, rfl, HS3, HR3, HB3⟩
              · rw [if_pos hsp] at hP
                simp only [Prod.mk.injEq] at hP
                obtain ⟨rfl, rfl, rfl, rfl, rfl⟩ := hP
                have hb : (!sp.toList.isEmpty) = true := by rw [Bool.not_eq_true', List.isEmpty_eq_false_iff]; exact fun h => hsp (toList_inj (by rw [h]; exact nil_list.symm))
                go_wp2_with fail
                have hU := put4 HZ9.out (.int .i64 0) (.int .i64 0) (.slice none 0 0) (.slice none 0 0)
                have HB3 := Upd.under hU HB9.out (Nat.le_refl _)
                refine bodyPost_ret (results_ct rfl _ _ w.heap.size 25 #[.int .i64 0, .int .i64 0, .slice none 0 0, .slice none 0 0] (0, 0) _ rfl hU.here Try.underlying25 rfl (by kernel_rfl)) rfl ?_
                exact ⟨_, _, rfl, Kd.S_nil _ _ _ _ _, Kd.R_nil _ _ _ _ _, HB3⟩
            · rw [if_pos he] at hP
              simp only [Prod.mk.injEq] at hP
              obtain ⟨rfl, rfl, rfl, rfl, rfl⟩ := hP
              have hb : (ep != 0) = true := bne_iff_ne.2 he
              go_wp2_with fail
              go_region
              go_wp2_with fail
              have hU := put4 HZ9.out (.int .i64 0) (.int .i64 0) (.slice none 0 0) (.slice none 0 0)
              have HB3 := Upd.under hU HB9.out (Nat.le_refl _)
              refine bodyPost_ret (results_ct rfl _ _ w.heap.size 25 #[.int .i64 0, .int .i64 0, .slice none 0 0, .slice none 0 0] (0, 0) _ rfl hU.here Try.underlying25 rfl (by kernel_rfl)) rfl ?_
              exact ⟨_, _, rfl, Kd.S_nil _ _ _ _ _, Kd.R_nil _ _ _ _ _, below_drew1 HB3⟩
          | succ d =>
            have hlt : decide (n - ((d + 1 : Nat) : Int) < n) = true := decide_eq_true (by omega)
            have HT : Aside0 (∀ (W : World), W.heap[w.heap.size + 1]? = some (rdo s e) → Calls Try.prog 33 #[.pointer (some ⟨w.heap.size + 1, 0, none⟩), .func (.func 27) #[] #[]] W fun x w' => x = .returned (.string (tkT s e).1) ∧ Upd W w' (w.heap.size + 1) (rdo (tkT s e).2.1 (tkT s e).2.2)) := ⟨fun W h => takeT h hs⟩
            have ht : (tkT s e).2.1.size ≤ 1048576 := Nat.le_trans (tkT_le _ _) hs
            have HG : Aside0 (∀ (W : World), W.heap[w.heap.size + 1]? = some (rdo (tkT s e).2.1 (tkT s e).2.2) → Calls Try.prog 34 #[.pointer (some ⟨w.heap.size + 1, 0, none⟩), .func (.func 11) #[] #[]] W fun x w' => ∃ A c, x = .returned (.slice A (tkG (tkT s e).2.1 (tkT s e).2.2).1.length c) ∧ k77.R 77 w' W.heap.size (fun _ => True) (.slice A (tkG (tkT s e).2.1 (tkT s e).2.2).1.length c) (tkG (tkT s e).2.1 (tkT s e).2.2).1 ∧ Upd W w' (w.heap.size + 1) (rdo (tkG (tkT s e).2.1 (tkT s e).2.2).2.1 (tkG (tkT s e).2.1 (tkT s e).2.2).2.2)) := ⟨fun W h => takeG h ht⟩
            have hg : (tkG (tkT s e).2.1 (tkT s e).2.2).2.1.size ≤ 1048576 := Nat.le_trans (tkG_le _ _) ht
            rw [refs] at HL
            generalize tkT s e = tt at *
            obtain ⟨tx, ts, te⟩ := tt
            dsimp only at HT HG HL hg
            generalize tkG ts te = gg at *
            obtain ⟨gx, gs, ge⟩ := gg
            dsimp only at HG HL hg
            clear ht hs
            have HJd := Aside0.mk HJ0.out.drew
            have hy0 := HJd.out.cells.1
            have hxl : (xs.length + 1) * 40 ≤ 140737488355328 := by omega
            go_upto_region 8 with (fail)
            go_region_law (first
              | (refine goes_ Try.func33 (by kernel_rfl) rfl #[.pointer (some ⟨w.heap.size + 1, 0, none⟩), .func (.func 27) #[] #[]] (by rfl) (by rfl) (by rfl) (by simp only [List.map_toArray, List.map_cons, List.map_nil]; rfl) ?_; refine (HT.out _ HJd.out.d).mono ?_; rintro y4 w4 ⟨rfl, hU4⟩; refine ⟨_, rfl, ?_⟩; have HJ4 := Aside0.mk (HJd.out.take hU4); have hy4 := HJ4.out.cells.1; clear hU4)
              | (refine goes_ Try.func34 (by kernel_rfl) rfl #[.pointer (some ⟨w.heap.size + 1, 0, none⟩), .func (.func 11) #[] #[]] (by rfl) (by rfl) (by rfl) (by simp only [List.map_toArray, List.map_cons, List.map_nil]; rfl) ?_; refine (HG.out _ HJ4.out.d).mono ?_; rintro y6 w6 ⟨A6, c6, rfl, hR6, hU6⟩; refine ⟨_, rfl, ?_⟩; have HJ6 := Aside0.mk (HJ4.out.take hU6); have HO6 : Aside0 (Kd.S k69 69 w6 w.heap.size (fun k => True ∧ ¬ (some k = (.slice A6 gx.length c6 : Value).ownBlock)) (.slice A xs.length c) xs) := ⟨Kd.S_mono (Kd.S_told (HJ4.out.own2 hU6) (Kd.R_base hR6)) (fun _ hk => ⟨trivial, fun h => hk.1.2 h⟩)⟩; have HR6 := Aside0.mk (Kd.R_lower hR6 HJ4.out.b.size); have hy6 := HJ6.out.cells.1; have ha6 : ∀ o, (w6.alloc o).cell? ⟨gb, 2, none⟩ = some (.slice A xs.length c) := (fun o => (HJ6.out.alloc o).cells.1); clear hU6 hR6)
              | (apply app_ref (w := w) (v := .slice A xs.length c) (xs := xs) (d := tx) (tg := gx) (A := A6) (c := c6); (case hw => rfl); (case ho => rfl); (case hs => rfl); (case hx => rfl); (case HR => exact HR6.out); (case HO => exact HO6.out); (case HB => exact HJ6.out.b); (case hl => exact hxl); intro v7 w7 hS7 hB7 hG7; obtain ⟨A7, c7, e7⟩ := Kd.S_slice hS7; subst e7; have hy7 : w7.cell? ⟨gb, 2, none⟩ = some (.slice A xs.length c) := (blk_cell (HJ6.out.grown (v1 := .slice A xs.length c) (ys := xs) hG7).2.2 2).trans rfl; have hf7 : w7.frozen? ⟨gb, 2, none⟩ = false := blk_frozen (HJ6.out.grown (v1 := .slice A xs.length c) (ys := xs) hG7).2.2 2; have HJ8 := Aside0.mk (HJ6.out.push hG7 hS7 hB7); clear hS7 hB7 hG7))
            all_goals
              have hw : IntKind.i64.wrap (n - ((d : Int) + 1) + 1) = n - (d : Int) := by rw [IntWalk.i64_in _ (by omega)]; omega
              have hln : (xs ++ [(⟨tx, gx⟩ : RefT)]).length = xs.length + 1 := by rw [List.length_append, List.length_singleton]
              rw [hln] at HJ8
              go_wp2_with fail
              go_roundw
              case rel =>
                refine ⟨d, gs, ge, A7, c7, xs ++ [(⟨tx, gx⟩ : RefT)], rfl, by omega, by rw [hln]; omega, hg, ⟨?_⟩, ⟨?_⟩⟩
                · rw [hln]; exact HJ8.out
                · exact ⟨by rw [List.append_assoc]; exact HL.out.1, HL.out.2⟩
              case measure => show (n - (n - (d : Int))).toNat < (n - (n - ((d : Int) + 1))).toNat; omega
  · rw [header_Decode.f, if_neg hs] at h; cases h
end Go.Proofs.Ytdaklahoainpfaa.DecH
