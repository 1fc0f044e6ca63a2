/- The law AccessTells walked. -/
import Derived.Test.YtmkgbkocanfckaaLaw20
import Derived.Test.YtmkgbkocanfckaaOpen
import Derived.Test.YtmkgbkocanfckaaQOpen
import Derived.Deep.RegionHeld3
import Derived.Sort.AtCall
namespace Go.Proofs.Ytmkgbkocanfckaa.HandAccessTells
open Go.RowKit Go.Proofs.YtmkgbkocanfckaaW.PrintWords Go.Proofs.YtmkgbkocanfckaaW.PrintMore Go.Proofs.Ytmkgbkocanfckaa.QKinds Go.Proofs.Ytmkgbkocanfckaa.QBase20 Go.Proofs.Ytmkgbkocanfckaa.Meet Go.Proofs.Ytmkgbkocanfckaa.Edges Go.Proofs.Ytmkgbkocanfckaa.GroupsP Go.Proofs.Ytmkgbkocanfckaa.Groups Go.Proofs.Ytmkgbkocanfckaa.Contracts20 Go.Proofs.Ytmkgbkocanfckaa.Plain20 Go.Proofs.Ytmkgbkocanfckaa.Works20 Go.Proofs.Ytmkgbkocanfckaa.Law20 Go.Proofs.Ytmkgbkocanfckaa.Open Go.Proofs.Ytmkgbkocanfckaa.QOpen
set_option linter.unusedVariables false
set_option linter.unusedSimpArgs false
set_option maxHeartbeats 4000000 in
set_option maxRecDepth 100000 in
theorem walk (l0 : List (S26)) (x1 : S26) (x2 : S26) (w : World) (hg0_ : (gList g26) l0) (hg1_ : g26 x1) (hg2_ : g26 x2) (A0 : Option Addr) (c0 : Nat) (hr0 : Kd.C k26 w A0 l0.length l0) (hc0 : l0.length ≤ c0) (A1_7 : Option Addr) (c1_7 : Nat) (hr1_7 : Kd.C Kd.string w A1_7 x1.f7.length x1.f7) (hc1_7 : x1.f7.length ≤ c1_7) (A1_8 : Option Addr) (c1_8 : Nat) (hr1_8 : Kd.C Kd.string w A1_8 x1.f8.length x1.f8) (hc1_8 : x1.f8.length ≤ c1_8) (A2_7 : Option Addr) (c2_7 : Nat) (hr2_7 : Kd.C Kd.string w A2_7 x2.f7.length x2.f7) (hc2_7 : x2.f7.length ≤ c2_7) (A2_8 : Option Addr) (c2_8 : Nat) (hr2_8 : Kd.C Kd.string w A2_8 x2.f8.length x2.f8) (hc2_8 : x2.f8.length ≤ c2_8) (hb : (mList m26) l0 + m26 x1 + m26 x2 ≤ 1048576) :
    Calls Try.prog 3 #[.slice A0 l0.length c0, .agg #[.int .i64 x1.f0, .string x1.f1, .string x1.f2, .int .u64 x1.f3, .int .u64 x1.f4, .string x1.f5, .string x1.f6, .slice A1_7 x1.f7.length c1_7, .slice A1_8 x1.f8.length c1_8], .agg #[.int .i64 x2.f0, .string x2.f1, .string x2.f2, .int .u64 x2.f3, .int .u64 x2.f4, .string x2.f5, .string x2.f6, .slice A2_7 x2.f7.length c2_7, .slice A2_8 x2.f8.length c2_8]] w fun e w' => e = .returned (.bool true) ∧ Below w.heap.size w w' := by
  obtain ⟨hbm, hlen⟩ := bulk_mem (l := l0) (by omega)
  have hs : ∀ x, x ∈ l0 → Small x := fun x hx => small_of_bulk (hbm x hx)
  have HS := Aside0.mk hs
  have HS1 := Aside0.mk (small_of_bulk (x := x1) (by omega))
  have HS2 := Aside0.mk (small_of_bulk (x := x2) (by omega))
  obtain ⟨k0, b0, hg01, hg02⟩ := great_f l0 hs hlen
  obtain ⟨k, b, hg1, hg2⟩ := great_f [x1, x2] (fun x hx => by
    rcases List.mem_cons.1 hx with rfl | hx
    · exact HS1.out
    · rcases List.mem_cons.1 hx with rfl | hx
      · exact HS2.out
      · simp at hx) (by simp)
  have HG := Aside0.mk hg1
  have HG0 := Aside0.mk hg01
  have HRL := Aside0.mk hr0
  have HR1 : Aside0 (Rd x1 A1_7 c1_7 A1_8 c1_8 w) := ⟨⟨hr1_7, hc1_7, hr1_8, hc1_8⟩⟩
  have HR2 : Aside0 (Rd x2 A2_7 c2_7 A2_8 c2_8 w) := ⟨⟨hr2_7, hc2_7, hr2_8, hc2_8⟩⟩
  have HV := Aside0.mk (two_mk w (cells26 x1 A1_7 c1_7 A1_8 c1_8) (cells26 x2 A2_7 c2_7 A2_8 c2_8))
  obtain ⟨cb, hcb⟩ : ∃ cb, clashP x1 x2 = cb := ⟨_, rfl⟩
  have HC := Aside0.mk hcb
  have hfl : Aside0 (b0 = false → tot l0 ≤ 500) := ⟨hg02⟩
  have heq : (cb != cb) = false := by simp
  clear hg1 hg2 hr1_7 hc1_7 hr1_8 hc1_8 hr2_7 hc2_7 hr2_8 hc2_8 hb hg0_ hg1_ hg2_ hcb hg01 hg02 hs hbm hr0
  go_enter Try.func3, Try.ntmps3
  go_wp2_with fail
  refine (greatC HG0.out (Kd.C_below HRL.out HV.out.below) hc0).mono ?_
  rintro e w1 ⟨rfl, hb1⟩
  replace HV := Aside0.mk (HV.out.next hb1)
  clear hb1 HG0
  cases b0
  · have hc := HV.out.cells
    go_wp2_with fail
    refine (great2 (HR1.out.below HV.out.below) (HR2.out.below HV.out.below) HG.out).mono ?_
    rintro e w2 ⟨rfl, hb2⟩
    have HW := Aside0.mk (HV.out.next hb2)
    clear hb2 HV hc HG
    cases b
    · have HT := Aside0.mk (hfl.out (by simp))
      have HF := Aside0.mk (fits_tot HT.out)
      have hl5 : l0.length ≤ 500 := Nat.le_trans (tot_len l0) HT.out
      clear hfl
      go_wp2_with fail
      refine (ownList HS.out hlen (Kd.C_below HRL.out HW.out.below) hc0).mono ?_
      rintro e w3 ⟨Ao, co, rfl, hco, hro, hb3⟩
      have HW3 := Aside0.mk (HW.out.next hb3)
      have HRO := Aside0.mk hro
      clear hb3 HW hro
      go_wp2_with fail
      refine (edgesK HF.out HRO.out hco).mono ?_
      rintro e w4 ⟨Ae, ce, rfl, hce, hre, hb4⟩
      have HW4 := Aside0.mk (HW3.out.next hb4)
      have HRE := Aside0.mk hre
      clear hb4 HW3 hre HRO
      go_wp2_with fail
      refine (redgesK HS.out hl5 (Kd.C_below HRL.out HW4.out.below) hc0).mono ?_
      rintro e w5 ⟨Ar, cr, rfl, hcr, hrr, hb5⟩
      have HW5 := Aside0.mk (HW4.out.next hb5)
      have HRE5 := Aside0.mk (Kd.C_below HRE.out hb5)
      have HRR := Aside0.mk hrr
      clear hb5 HW4 hrr HRE
      go_wp2_with fail
      refine (ownList HS.out hlen (Kd.C_below HRL.out HW5.out.below) hc0).mono ?_
      rintro e w6 ⟨Ap, cp, rfl, hcp, hrp, hb6⟩
      have HW6 := Aside0.mk (HW5.out.next hb6)
      have HRE6 := Aside0.mk (Kd.C_below HRE5.out hb6)
      have HRR6 := Aside0.mk (Kd.C_below HRR.out hb6)
      have HRP := Aside0.mk hrp
      clear hb6 HW5 hrp HRE5 HRR
      go_wp2_with fail
      refine (groupsK HF.out HRP.out hcp).mono ?_
      rintro e w7 ⟨Ag, cg, rfl, hcg, hrg, hb7⟩
      have HW7 := Aside0.mk (HW6.out.next hb7)
      have HRE7 := Aside0.mk (Kd.C_below HRE6.out hb7)
      have HRR7 := Aside0.mk (Kd.C_below HRR6.out hb7)
      have HRG := Aside0.mk hrg
      clear hb7 HW6 hrg HRE6 HRR6 HRP
      go_wp2_with fail
      refine (rgroupsK HS.out hl5 (Kd.C_below HRL.out HW7.out.below) hc0).mono ?_
      rintro e w8 ⟨Ah, ch, rfl, hch, hrh, hb8⟩
      have HW8 := Aside0.mk (HW7.out.next hb8)
      have HRE8 := Aside0.mk (Kd.C_below HRE7.out hb8)
      have HRR8 := Aside0.mk (Kd.C_below HRR7.out hb8)
      have HRG8 := Aside0.mk (Kd.C_below HRG.out hb8)
      have HRH := Aside0.mk hrh
      clear hb8 HW7 hrh HRE7 HRR7 HRG HF HT
      have hS0 := HW8.out.cells
      have HQ := Aside0.mk fun w' hb => (HW8.out.next (W1 := w') hb).cells
      have hmb : (rows l0 l0.length).length ≤ 250000 := Nat.le_trans (rows_len l0 l0.length) (Nat.mul_le_mul hl5 hl5)
      have HM := Aside0.mk fun (e : Int × Int) (he : e ∈ rows l0 l0.length) => rows_mem he
      generalize rows l0 l0.length = E at *
      generalize hm : E.length = m at *
      have HM0 := Aside0.mk hm
      clear hm
      generalize groups l0.length (edgesN l0) = G at *
      generalize hn : l0.length = n at *
      clear hn
      have hmm : (m != m) = false := by simp
      have hnn : (n != n) = false := by simp
      have hmi : ((m : Int) != (m : Int)) = false := by simp
      have hni : ((n : Int) != (n : Int)) = false := by simp
      go_wp2_with fail
      go_region_held3 (fun w' => w'.cell? ⟨w.heap.size, 0, none⟩ = some (.int .i64 x1.f0) ∧ w'.cell? ⟨w.heap.size, 1, none⟩ = some (.string x1.f1) ∧ w'.cell? ⟨w.heap.size, 2, none⟩ = some (.string x1.f2) ∧ w'.cell? ⟨w.heap.size, 3, none⟩ = some (.int .u64 x1.f3) ∧ w'.cell? ⟨w.heap.size, 4, none⟩ = some (.int .u64 x1.f4) ∧ w'.cell? ⟨w.heap.size, 5, none⟩ = some (.string x1.f5) ∧ w'.cell? ⟨w.heap.size, 6, none⟩ = some (.string x1.f6) ∧ w'.cell? ⟨w.heap.size, 7, none⟩ = some (.slice A1_7 x1.f7.length c1_7) ∧ w'.cell? ⟨w.heap.size, 8, none⟩ = some (.slice A1_8 x1.f8.length c1_8) ∧ w'.cell? ⟨w.heap.size + 1, 0, none⟩ = some (.int .i64 x2.f0) ∧ w'.cell? ⟨w.heap.size + 1, 1, none⟩ = some (.string x2.f1) ∧ w'.cell? ⟨w.heap.size + 1, 2, none⟩ = some (.string x2.f2) ∧ w'.cell? ⟨w.heap.size + 1, 3, none⟩ = some (.int .u64 x2.f3) ∧ w'.cell? ⟨w.heap.size + 1, 4, none⟩ = some (.int .u64 x2.f4) ∧ w'.cell? ⟨w.heap.size + 1, 5, none⟩ = some (.string x2.f5) ∧ w'.cell? ⟨w.heap.size + 1, 6, none⟩ = some (.string x2.f6) ∧ w'.cell? ⟨w.heap.size + 1, 7, none⟩ = some (.slice A2_7 x2.f7.length c2_7) ∧ w'.cell? ⟨w.heap.size + 1, 8, none⟩ = some (.slice A2_8 x2.f8.length c2_8)) (first | assumption | exact hS0)
        (first
          | (go_at_call_has 14 ((Value.slice A1_7 x1.f7.length c1_7)); refine (ownC HS1.out (HR1.out.below (below_drew1 HW8.out.below))).mono ?_; rintro e wa ⟨B_7, d_7, B_8, d_8, rfl, hra, hba⟩; have HBa := Aside0.mk (below_then (below_drew1 (Below.refl w8.heap.size w8)) (Nat.le_refl _) hba); have hSa := HQ.out wa HBa.out; have HRa := Aside0.mk hra; clear hba hra)
          | (go_at_call_has 14 ((Value.slice A2_7 x2.f7.length c2_7)); refine (ownC HS2.out (HR2.out.below (below_then HW8.out.below HW8.out.below.size HBa.out))).mono ?_; rintro e wb ⟨E_7, e_7, E_8, e_8, rfl, hrb, hbb⟩; have HBb := Aside0.mk (below_then HBa.out HBa.out.size hbb); have hSb := HQ.out wb HBb.out; have HRab := Aside0.mk (HRa.out.below hbb); have HRb := Aside0.mk hrb; clear hbb hrb)
          | (go_at_call 13; refine (clashC HS1.out HS2.out HRab.out HRb.out HC.out).mono ?_; rintro e wc ⟨rfl, hbc⟩; have HBc := Aside0.mk (below_then HBb.out HBb.out.size hbc); have hSc := HQ.out wc HBc.out; clear hbc)
          | (go_at_call 15; refine (rclashC HS1.out HS2.out (HR1.out.below (below_then HW8.out.below HW8.out.below.size HBc.out)) (HR2.out.below (below_then HW8.out.below HW8.out.below.size HBc.out)) HC.out).mono ?_; rintro e wd ⟨rfl, hbd⟩; have HBd := Aside0.mk (below_then HBc.out HBc.out.size hbd); have hSd := HQ.out wd HBd.out; clear hbd))
      have HB := Aside0.mk (below_then HW8.out.below HW8.out.below.size HBd.out)
      have HRE := Aside0.mk (Kd.C_below HRE8.out HBd.out)
      have HRR := Aside0.mk (Kd.C_below HRR8.out HBd.out)
      have HRG := Aside0.mk (Kd.C_below HRG8.out HBd.out)
      have HRI := Aside0.mk (Kd.C_below HRH.out HBd.out)
      clear HRE8 HRR8 HRG8 HRH HBa HBb HBc HBd hSa hSb hSc hSd HW8 HQ hS0 HRa HRab HRb heq HC
      go_wp2_with fail
      go_loopw [11] (fun v11 wr => ∃ i : Nat, i ≤ m ∧ v11 = .int .i64 i ∧ Drawn0 wd wr) (fun i _ => m - (intOf i).toNat)
      case atStart => exact ⟨0, by omega, rfl, Drawn0.refl _⟩
      case round =>
        obtain ⟨i, hi, rfl, ⟨⟨q, rfl⟩⟩⟩ := hrel
        by_cases hlt : i < m
        · obtain ⟨ad1, c1, rfl, _, hK1, hcs1⟩ := Kd.C_get (Kd.C_drewN HRE.out q) z37 (i : Int) (by omega) (by omega)
          obtain ⟨ad2, c2, rfl, _, hK2, hcs2⟩ := Kd.C_get (Kd.C_drewN HRR.out q) z39 (i : Int) (by omega) (by omega)
          rw [Int.toNat_natCast] at hK1 hcs1 hK2 hcs2
          have hi2 : i < E.length := by rw [HM0.out]; exact hlt
          have g1 : (E.map asS).getD i z37 = asS E[i] := by rw [List.getD_eq_getElem?_getD, List.getElem?_map, List.getElem?_eq_getElem hi2]; rfl
          have g2 : (E.map asE).getD i z39 = asE E[i] := by rw [List.getD_eq_getElem?_getD, List.getElem?_map, List.getElem?_eq_getElem hi2]; rfl
          rw [g1] at hK1
          rw [g2] at hK2
          clear g1 g2
          generalize E[i] = e at *
          obtain ⟨p, r⟩ := e
          obtain ⟨_, _, rfl, rfl, rfl⟩ := hK1
          obtain ⟨_, _, rfl, rfl, rfl⟩ := hK2
          have hx0 : wd.cell? (ad1.add (i * 2)) = some (.int .i64 p) := hcs1 0 _ rfl
          have hx1 : wd.cell? ⟨(ad1.add (i * 2)).block, (ad1.add (i * 2)).off + 1, none⟩ = some (.int .i64 r) := by rw [← add_field _ _ 1 (by omega)]; exact hcs1 1 _ rfl
          have hy0 : wd.cell? (ad2.add (i * 2)) = some (.int .i64 p) := hcs2 0 _ rfl
          have hy1 : wd.cell? ⟨(ad2.add (i * 2)).block, (ad2.add (i * 2)).off + 1, none⟩ = some (.int .i64 r) := by rw [← add_field _ _ 1 (by omega)]; exact hcs2 1 _ rfl
          have hpp : (p != p) = false := by simp
          have hrr : (r != r) = false := by simp
          clear hcs1 hcs2 hi2
          go_wp2_with fail
          go_quiet (fail)
          go_wp2_with fail
          go_roundw
          case rel => exact ⟨i + 1, by omega, by go_num, ⟨⟨_, rfl⟩⟩⟩
          case measure => simp [intOf]; omega
        · obtain rfl : i = m := by omega
          clear hlt hmm hmi
          go_wp2_with fail
          go_loopw [12] (fun v12 wr => ∃ j : Nat, j ≤ n ∧ v12 = .int .i64 j ∧ Drawn0 wd wr) (fun j _ => n - (intOf j).toNat)
          case atStart => exact ⟨0, by omega, rfl, ⟨⟨_, rfl⟩⟩⟩
          case round =>
            obtain ⟨j, hj, rfl, ⟨⟨q2, rfl⟩⟩⟩ := hrel
            by_cases hlt : j < n
            · obtain ⟨ad1, rfl, hx⟩ := Kd.at_int (Kd.C_drewN HRG.out q2) (j : Int) (by omega) (by omega)
              obtain ⟨ad2, rfl, hy⟩ := Kd.at_int (Kd.C_drewN HRI.out q2) (j : Int) (by omega) (by omega)
              rw [Int.toNat_natCast] at hx hy
              replace hx : wd.cell? _ = _ := hx
              replace hy : wd.cell? _ = _ := hy
              generalize rd (ints G) (j : Int) = p at hx hy
              have hpp : (p != p) = false := by simp
              go_wp2_with fail
              go_quiet (fail)
              go_wp2_with fail
              go_roundw
              case rel => exact ⟨j + 1, by omega, by go_num, ⟨⟨_, rfl⟩⟩⟩
              case measure => simp [intOf]; omega
            · obtain rfl : j = n := by omega
              go_wp2_with fail
              go_ret
              exact ⟨rfl, pw_below_drewN HB.out _⟩
    · go_wp2_with fail
      go_ret
      exact ⟨rfl, HW.out.below⟩
  · go_wp2_with fail
    go_ret
    exact ⟨rfl, HV.out.below⟩
end Go.Proofs.Ytmkgbkocanfckaa.HandAccessTells
