/- The law FetchLine walked. -/
import Derived.Test.YtiaanhjnjkmnfaaLine19
import Derived.Test.YtiaanhjnjkmnfaaOpen
import Derived.Test.YtiaanhjnjkmnfaaQOpen
namespace Go.Proofs.Ytiaanhjnjkmnfaa.HandFetchLine
open Go.RowKit Go.Proofs.YtiaanhjnjkmnfaaW.PrintWords Go.Proofs.YtiaanhjnjkmnfaaW.PrintMore Go.Proofs.YtiaanhjnjkmnfaaW.PrintLast Go.Proofs.Ytiaanhjnjkmnfaa.QKinds Go.Proofs.Ytiaanhjnjkmnfaa.Desk19 Go.Proofs.Ytiaanhjnjkmnfaa.Want19 Go.Proofs.Ytiaanhjnjkmnfaa.Line19 Go.Proofs.Ytiaanhjnjkmnfaa.Open Go.Proofs.Ytiaanhjnjkmnfaa.QOpen
set_option linter.unusedVariables false
set_option linter.unusedSimpArgs false
/-- What is lined up behind i rounds, of which n came out. -/
def qu (l : List ByteArray) (i n : Nat) : List ByteArray := (l.take i).drop n
theorem qu_push {l : List ByteArray} {i n : Nat} (hi : i < l.length) (hn : n ≤ i) : qu l i n ++ [l[i]] = qu l (i + 1) n := by
  unfold qu
  rw [List.take_succ_eq_append_getElem hi, List.drop_append_of_le_length (by rw [List.length_take]; omega)]
theorem qu_len {l : List ByteArray} {i n : Nat} (hi : i ≤ l.length) : (qu l i n).length = i - n := by
  unfold qu; rw [List.length_drop, List.length_take]; omega
theorem qu_head {l : List ByteArray} {i n : Nat} (hi : i ≤ l.length) (hn : n < i) : qu l i n = l[n]'(by omega) :: qu l i (n + 1) := by
  unfold qu
  rw [List.drop_eq_getElem_cons (by rw [List.length_take]; omega), List.getElem_take]
theorem rd_str {l : List ByteArray} {n : Nat} (h : n < l.length) : rdOf ByteArray.empty l (n : Int) = l[n] := by
  rw [rdOf, Int.toNat_natCast, List.getD_eq_getElem?_getD, List.getElem?_eq_getElem h]; rfl
theorem str_len : ∀ l : List ByteArray, l.length ≤ (l.map mStr).sum
  | [] => Nat.le_refl _
  | x :: l => by have := str_len l; simp [mStr]; omega
theorem bool_len : ∀ l : List Bool, l.length ≤ (l.map mOne).sum
  | [] => Nat.le_refl _
  | x :: l => by have := bool_len l; simp [mOne]; omega
theorem cellS {w : World} {ad : Addr} {l : List ByteArray} (h : Kd.string.C w (some ad) l.length l) {i : Nat} (hi : i < l.length) : w.cell? (ad.add i) = some (.string l[i]) := by
  obtain ⟨ad', e, hx⟩ := Kd.at_string h (i : Int) (by omega) (by omega)
  injection e with e
  subst e
  rw [Int.toNat_natCast, rd_str hi] at hx
  exact hx
theorem cellB {w : World} {ad : Addr} {l : List Bool} (h : Kd.bool.C w (some ad) l.length l) {i : Nat} (hi : i < l.length) : w.cell? (ad.add i) = some (.bool l[i]) := by
  obtain ⟨ad', e, hx⟩ := Kd.at_bool h (i : Int) (by omega) (by omega)
  injection e with e
  subst e
  rw [Int.toNat_natCast, rdOf, Int.toNat_natCast, List.getD_eq_getElem?_getD, List.getElem?_eq_getElem hi] at hx
  exact hx
theorem some_of {α : Type} {d : Kd α} {w : World} {A : Option Addr} {n : Nat} {l : List α} (h : d.C w A n l) (hn : 0 < n) : ∃ ad, A = some ad := by
  obtain ⟨ad, e, _⟩ := h.2.2 hn
  exact ⟨ad, e⟩
theorem min2_mn (k k' : IntKind) (x y : Int) : Builtin.min2 (.int k x) (.int k' y) = pure (.int k (mn x y)) := by simp only [Builtin.min2]; rfl
attribute [local go_sem] min2_mn
set_option maxHeartbeats 8000000 in
set_option maxRecDepth 100000 in
theorem walk (l0 : List ByteArray) (l1 : List Bool) (w : World) (hg0_ : (gList gAny) l0) (hg1_ : (gList gAny) l1) (A0 : Option Addr) (c0 : Nat) (hr0 : Kd.C Kd.string w A0 l0.length l0) (hc0 : l0.length ≤ c0) (A1 : Option Addr) (c1 : Nat) (hr1 : Kd.C Kd.bool w A1 l1.length l1) (hc1 : l1.length ≤ c1) (hb : (mList mStr) l0 + (mList mOne) l1 ≤ 1048576) :
    Calls Try.prog 3 #[.slice A0 l0.length c0, .slice A1 l1.length c1] w fun e w' => e = .returned (.bool true) ∧ Below w.heap.size w w' := by
  have hL0 : l0.length ≤ 1048576 := by have := str_len l0; unfold mList at hb; omega
  have hL1 : l1.length ≤ 1048576 := by have := bool_len l1; unfold mList at hb; omega
  have HR0 := Aside0.mk hr0
  have HR1 := Aside0.mk hr1
  clear hr0 hr1 hb hg0_ hg1_
  go_enter Try.func3, Try.ntmps3
  go_wp2_with fail
  refine (Law19.works _).mono ?_
  rintro e wa ⟨rfl, hb⟩
  have HB := Aside0.mk hb
  clear hb
  go_wp2_with fail
  refine (new HB.out).mono ?_
  rintro e wb ⟨g, rfl, hln⟩
  have HN := Aside0.mk hln
  clear hln HB
  go_wp2_with fail
  go_loopw [6, 7] (fun v6 v7 wr => ∃ (i n : Nat), i ≤ l0.length ∧ i ≤ 100 ∧ n ≤ i ∧ v7 = .int .i64 i ∧ v6 = .int .i64 n ∧ Aside0 (Ln w wr g (qu l0 i n))) (fun _ v7 _ => l0.length - (intOf v7).toNat)
  case atStart => exact ⟨0, 0, by omega, by omega, by omega, rfl, rfl, HN⟩
  case round =>
    clear HN
    obtain ⟨i, n, hi, hi2, hn, rfl, rfl, HN⟩ := hrel
    by_cases hlt : i < l0.length ∧ i < 100
    · obtain ⟨hlt, h100⟩ := hlt
      obtain ⟨ad, rfl⟩ := some_of HR0.out (by omega)
      have hx := cellS (Kd.C_below HR0.out HN.out.below) hlt
      have HP := Aside0.mk (qu_push hlt hn)
      have HQL : Aside0 ((qu l0 i n).length ≤ 1048576) := ⟨by rw [qu_len hi]; omega⟩
      have hdi : decide ((i : Int) < (l0.length : Int)) = true := decide_eq_true (by omega)
      have hd1 : decide ((i : Int) < 100) = true := decide_eq_true (by omega)
      generalize hy : l0[i] = y at *
      clear hy
      go_wp2_with fail
      refine (push y HN.out HQL.out).mono ?_
      rintro e wc ⟨rfl, hln⟩
      rw [HP.out] at hln
      have HN2 := Aside0.mk hln
      clear hln HN HP HQL hx
      by_cases htk : i < l1.length
      · obtain ⟨ad1, rfl⟩ := some_of HR1.out (by omega)
        have hz := cellB (Kd.C_below HR1.out HN2.out.below) htk
        have hdt : decide ((l1.length : Int) ≤ (i : Int)) = false := decide_eq_false (by omega)
        have HH := Aside0.mk (qu_head (l := l0) (i := i + 1) (n := n) (by omega) (by omega))
        have HQ3 : Aside0 ((qu l0 (i + 1) (n + 1)).length ≤ 1048576) := ⟨by rw [qu_len (by omega)]; omega⟩
        have HN3 : Aside0 (Ln w wc g (l0[n]'(by omega) :: qu l0 (i + 1) (n + 1))) := ⟨by rw [← HH.out]; exact HN2.out⟩
        have HCB : Aside0 (∀ w', Below w.heap.size w w' → w'.cell? (ad1.add i) = some (.bool l1[i]) ∧ w'.cell? (ad.add n) = some (.string (l0[n]'(by omega)))) := ⟨fun w' hb => ⟨cellB (Kd.C_below HR1.out hb) htk, cellS (Kd.C_below HR0.out hb) (by omega)⟩⟩
        generalize l1[i] = b at *
        generalize hy : l0[n]'(by omega) = y at *
        cases b
        · go_wp2_with fail
          refine (next_no HN3.out HQ3.out).mono ?_
          rintro e wd ⟨rfl, hln⟩
          rw [← HH.out] at hln
          have HN4 := Aside0.mk hln
          obtain ⟨hz4, hx4⟩ := HCB.out _ HN4.out.below
          clear hln
          go_wp2_with fail
          refine (len HN4.out).mono ?_
          rintro e we ⟨rfl, hln⟩
          have HN5 := Aside0.mk hln
          clear hln
          rw [qu_len (show i + 1 ≤ l0.length by omega), show ((i + 1 - n : Nat) : Int) = (i : Int) + 1 - (n : Int) by omega]
          go_wp2_with fail
          go_roundw
          case rel => exact ⟨i + 1, n, by omega, by omega, by omega, by go_num, rfl, HN5⟩
          case measure => simp [intOf]; omega
        · go_wp2_with fail
          refine (next_yes HN3.out HQ3.out).mono ?_
          rintro e wd ⟨rfl, hln⟩
          have HN4 := Aside0.mk hln
          obtain ⟨hz4, hx4⟩ := HCB.out _ HN4.out.below
          clear hln
          go_wp2_with fail
          refine (len HN4.out).mono ?_
          rintro e we ⟨rfl, hln⟩
          have HN5 := Aside0.mk hln
          clear hln
          rw [qu_len (show i + 1 ≤ l0.length by omega), show ((i + 1 - (n + 1) : Nat) : Int) = (i : Int) + 1 - ((n : Int) + 1) by omega]
          go_wp2_with fail
          go_roundw
          case rel => exact ⟨i + 1, n + 1, by omega, by omega, by omega, by go_num, by go_num, HN5⟩
          case measure => simp [intOf]; omega
      · have hdt : decide ((l1.length : Int) ≤ (i : Int)) = true := decide_eq_true (by omega)
        go_wp2_with fail
        go_roundw
        case rel => exact ⟨i + 1, n, by omega, by omega, by omega, by go_num, rfl, HN2⟩
        case measure => simp [intOf]; omega
    · have hi3 : i ≤ l0.length := hi
      by_cases hll : i < l0.length
      all_goals
        go_wp2_with fail
        go_loopw [6] (fun v6 wr => ∃ (n : Nat), n ≤ i ∧ v6 = .int .i64 n ∧ Aside0 (Ln w wr g (qu l0 i n))) (fun v6 _ => i - (intOf v6).toNat)
        case atStart => exact ⟨n, hn, rfl, HN⟩
        case round =>
          clear HN
          obtain ⟨n, hn, rfl, HN⟩ := hrel
          go_wp2_with fail
          refine (len HN.out).mono ?_
          rintro e wc ⟨rfl, hln⟩
          have HN2 := Aside0.mk hln
          clear hln HN
          rw [qu_len hi3]
          by_cases hlt2 : n < i
          · have hd2 : decide ((0 : Int) < ((i - n : Nat) : Int)) = true := decide_eq_true (by omega)
            have HH := Aside0.mk (qu_head (l := l0) hi3 hlt2)
            have HQ3 : Aside0 ((qu l0 i (n + 1)).length ≤ 1048576) := ⟨by rw [qu_len hi3]; omega⟩
            have HN3 : Aside0 (Ln w wc g (l0[n]'(by omega) :: qu l0 i (n + 1))) := ⟨by rw [← HH.out]; exact HN2.out⟩
            obtain ⟨ad, rfl⟩ := some_of HR0.out (by omega)
            have HCB : Aside0 (∀ w', Below w.heap.size w w' → w'.cell? (ad.add n) = some (.string (l0[n]'(by omega)))) := ⟨fun w' hb => cellS (Kd.C_below HR0.out hb) (by omega)⟩
            have hd3 : decide ((l0.length : Int) ≤ (n : Int)) = false := decide_eq_false (by omega)
            generalize hy : l0[n]'(by omega) = y at *
            go_wp2_with fail
            refine (next_yes HN3.out HQ3.out).mono ?_
            rintro e wd ⟨rfl, hln⟩
            have HN4 := Aside0.mk hln
            have hx4 := HCB.out _ HN4.out.below
            clear hln
            go_wp2_with fail
            go_roundw
            case rel => exact ⟨n + 1, by omega, by go_num, HN4⟩
            case measure => simp [intOf]; omega
          · obtain rfl : n = i := by omega
            rw [Nat.sub_self]
            have HE : Aside0 (Ln w wc g []) := ⟨by
              have h := HN2.out
              rw [show qu l0 n n = [] from List.eq_nil_of_length_eq_zero (by rw [qu_len hi3]; omega)] at h
              exact h⟩
            go_wp2_with fail
            refine (next_none _ HE.out).mono ?_
            rintro e wd ⟨rfl, hln⟩
            have HN4 := Aside0.mk hln
            clear hln
            go_wp2_with fail
            all_goals
              go_ret
              first
                | exact ⟨congrArg (fun b => Ending.returned (.bool b)) (beq_iff_eq.2 (show (n : Int) = 100 by omega)), HN4.out.below⟩
                | exact ⟨congrArg (fun b => Ending.returned (.bool b)) (beq_iff_eq.2 (show (n : Int) = (l0.length : Int) by omega)), HN4.out.below⟩
end Go.Proofs.Ytiaanhjnjkmnfaa.HandFetchLine
