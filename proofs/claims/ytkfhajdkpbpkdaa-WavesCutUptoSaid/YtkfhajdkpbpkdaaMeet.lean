/- access.meet walked: whether two lists of keys have one in common. -/
import Derived.Test.YtkfhajdkpbpkdaaQBaseSlx1
import Derived.Tactics
import Derived.WalkKit
import Derived.KernelRfl
import Derived.LoopTactic
import Derived.Outline
import Derived.Deep.QuietTactic
import Derived.BigQuiet
namespace Go.Proofs.Ytkfhajdkpbpkdaa.Meet
open Go.RowKit Go.Proofs.YtkfhajdkpbpkdaaW.PrintWords Go.Proofs.YtkfhajdkpbpkdaaW.PrintMore Go.Proofs.Ytkfhajdkpbpkdaa.QBaseSl
set_option linter.unusedVariables false
set_option linter.unusedSimpArgs false
def has (l : List ByteArray) (x : ByteArray) : Bool := l.any fun y => decide (x = y)
theorem toList_inj {a b : ByteArray} (h : a.toList = b.toList) : a = b := by
  rw [ByteArray.toList_eq, ByteArray.toList_eq] at h
  exact ByteArray.ext (Array.toList_inj.1 h)
theorem index_f (l : List ByteArray) (x : ByteArray) (hl : l.length ≤ 4611686018427387903) : ∀ (d i : Nat), i + d = l.length → ∃ r : Int, slices_Index_string_string.l0 (d + 1) l x (l.length : Int) i = some r ∧ decide (r ≥ 0) = has (l.drop i) x := by
  intro d
  induction d with
  | zero =>
    intro i hi
    refine ⟨-1, ?_, ?_⟩
    · rw [slices_Index_string_string.l0, if_neg (by omega)]
    · rw [List.drop_of_length_le (by omega)]
      rfl
  | succ d ih =>
    intro i hi
    have hlt : i < l.length := by omega
    have hx : rdOf ByteArray.empty l (i : Int) = l[i] := by simp [rdOf, List.getD_eq_getElem?_getD, List.getElem?_eq_getElem hlt]
    have e2 : wrap64 ((i : Int) + 1) = ((i + 1 : Nat) : Int) := by unfold wrap64; omega
    rw [slices_Index_string_string.l0, if_pos (by omega), if_pos (by omega), if_pos (by omega), hx, List.drop_eq_getElem_cons hlt]
    by_cases he : x.toList = l[i].toList
    · rw [if_pos he]
      refine ⟨_, rfl, ?_⟩
      rw [decide_eq_true (show (i : Int) ≥ 0 from by omega), has, List.any_cons, decide_eq_true (toList_inj he)]
      rfl
    · rw [if_neg he, e2]
      obtain ⟨r, h1, h2⟩ := ih (i + 1) (by omega)
      refine ⟨r, h1, ?_⟩
      have hne : ¬ x = l[i] := fun h => he (by rw [h])
      rw [h2, has, has, List.any_cons, decide_eq_false hne, Bool.false_or]
theorem contains (A0 : Option Addr) (c0 : Nat) (l0 : List ByteArray) (a1 : ByteArray) (w : World) (hr0 : Kd.C Kd.string w A0 l0.length l0) (hc0 : l0.length ≤ c0) (hl : l0.length ≤ 4611686018427387903) :
    Calls Try.prog 27 #[.slice A0 l0.length c0, .string a1] w fun e w' => e = .returned (.bool (has l0 a1)) ∧ Drawn0 w w' := by
  obtain ⟨r, h1, h2⟩ := index_f l0 a1 hl l0.length 0 (by omega)
  refine slices_Contains_string_string.calls (l0.length + 1) A0 c0 l0 a1 _ w hr0 hc0 ?_
  unfold slices_Contains_string_string.f slices_Index_string_string.f
  have h0 : ((0 : Nat) : Int) = 0 := rfl
  rw [h0] at h1
  rw [h1, Option.bind_some, h2, List.drop_zero]
/-- What a call of the closure needs: the captured list lies in its box. -/
structure Box (w : World) (B : Nat) (l1 : List ByteArray) : Prop where
  out : ∃ A1 c1, w.cell? ⟨B, 0, none⟩ = some (.slice A1 l1.length c1) ∧ Kd.C Kd.string w A1 l1.length l1 ∧ l1.length ≤ c1
theorem Box.drewN {w : World} {B : Nat} {l1 : List ByteArray} (h : Box w B l1) (n : Nat) : Box (w.drewN n) B l1 := by
  obtain ⟨A1, c1, h1, h2, h3⟩ := h
  exact ⟨A1, c1, h1, Kd.C_drewN h2 n, h3⟩
set_option maxHeartbeats 1000000 in
theorem closure (B : Nat) (l1 : List ByteArray) (x : ByteArray) (w : World) (h : Box w B l1) (hl : l1.length ≤ 4611686018427387903) :
    Calls Try.prog 26 #[.string x, .pointer (some ⟨B, 0, none⟩)] w fun e w' => e = .returned (.bool (has l1 x)) ∧ Drawn0 w w' := by
  obtain ⟨A1, c1, h1, h2, h3⟩ := h
  have HC := Aside0.mk (contains A1 c1 l1 x w h2 h3 hl)
  clear h2
  go_enter Try.func26, Try.ntmps26
  go_wp2_with fail
  refine HC.out.mono ?_
  rintro e w1 ⟨rfl, hd⟩
  have HD := Aside0.mk hd
  clear hd
  go_wp2_with fail
  go_ret
  exact ⟨rfl, HD.out⟩
set_option maxHeartbeats 1000000 in
theorem index (A0 : Option Addr) (c0 : Nat) (l0 l1 : List ByteArray) (B : Nat) (w : World) (hr0 : Kd.C Kd.string w A0 l0.length l0) (hc0 : l0.length ≤ c0) (hb : Box w B l1) (hl0 : l0.length ≤ 4611686018427387903) (hl : l1.length ≤ 4611686018427387903) :
    Calls Try.prog 28 #[.slice A0 l0.length c0, .func (.func 26) #[] #[.pointer (some ⟨B, 0, none⟩)]] w fun e w' => (∃ r, e = .returned (.int .i64 r) ∧ decide (r ≥ 0) = l0.any (has l1)) ∧ Drawn0 w w' := by
  have HR := Aside0.mk hr0
  have HB := Aside0.mk hb
  clear hr0 hb
  go_enter Try.func28, Try.ntmps28
  go_wp2_with fail
  go_loopw [8] (fun v8 wr => ∃ i : Nat, i ≤ l0.length ∧ v8 = .int .i64 i ∧ Drawn0 w wr ∧ (l0.take i).any (has l1) = false) (fun i _ => l0.length - (intOf i).toNat)
  case atStart => exact ⟨0, by omega, rfl, Drawn0.refl _, rfl⟩
  case round =>
    obtain ⟨i, hi, rfl, ⟨n, rfl⟩, hno⟩ := hrel
    by_cases hlt : i < l0.length
    · obtain ⟨ad, rfl, hcells⟩ := (Kd.C_drewN HR.out n).2.2 (by omega)
      obtain ⟨c, hc1, hc2, hc3⟩ := hcells i l0[i] (List.getElem?_eq_getElem hlt)
      obtain rfl : c = [.string l0[i]] := hc2
      have hcell := hc3 0 _ rfl
      simp only [show Kd.string.sz = 1 from rfl, Nat.mul_one, Nat.add_zero] at hcell
      clear hcells hc3
      have HC := Aside0.mk (closure B l1 l0[i] (w.drewN n) (HB.out.drewN n) hl)
      go_wp2_with fail
      refine HC.out.mono ?_
      rintro e w1 ⟨rfl, ⟨m, rfl⟩⟩
      have htake : (l0.take (i + 1)).any (has l1) = has l1 l0[i] := by
        rw [List.take_succ_eq_append_getElem hlt, List.any_append, hno]
        simp
      by_cases hb : has l1 l0[i] = true
      · rw [hb]
        have hany : Aside0 (decide ((i : Int) ≥ 0) = l0.any (has l1)) := ⟨by
          rw [decide_eq_true (show (i : Int) ≥ 0 from by omega), eq_comm, List.any_eq_true]
          exact ⟨l0[i], List.getElem_mem hlt, hb⟩⟩
        clear hb htake
        go_wp2_with fail
        go_ret
        exact ⟨⟨_, rfl, hany.out⟩, ⟨_, rfl⟩⟩
      · have hb := Bool.eq_false_iff.2 hb
        rw [hb] at htake ⊢
        have HT := Aside0.mk htake
        clear htake hb
        go_wp2_with fail
        go_roundw
        case rel => exact ⟨i + 1, by omega, by go_num, ⟨_, rfl⟩, HT.out⟩
        case measure => simp [intOf]; omega
    · obtain rfl : i = l0.length := by omega
      rw [List.take_length] at hno
      go_wp2_with fail
      go_ret
      exact ⟨⟨_, rfl, by rw [hno]; rfl⟩, ⟨_, rfl⟩⟩
set_option maxHeartbeats 1000000 in
theorem containsFunc (A0 : Option Addr) (c0 : Nat) (l0 l1 : List ByteArray) (B : Nat) (w : World) (hr0 : Kd.C Kd.string w A0 l0.length l0) (hc0 : l0.length ≤ c0) (hb : Box w B l1) (hl0 : l0.length ≤ 4611686018427387903) (hl : l1.length ≤ 4611686018427387903) :
    Calls Try.prog 25 #[.slice A0 l0.length c0, .func (.func 26) #[] #[.pointer (some ⟨B, 0, none⟩)]] w fun e w' => e = .returned (.bool (l0.any (has l1))) ∧ Drawn0 w w' := by
  have HI := Aside0.mk (index A0 c0 l0 l1 B w hr0 hc0 hb hl0 hl)
  clear hr0 hb
  go_enter Try.func25, Try.ntmps25
  go_wp2_with fail
  refine HI.out.mono ?_
  rintro e w1 ⟨⟨r, rfl, hr⟩, hd⟩
  have HD := Aside0.mk hd
  have HE := Aside0.mk hr
  clear hd hr
  go_wp2_with fail
  go_ret
  exact ⟨congrArg (fun b => Ending.returned (.bool b)) HE.out, HD.out⟩
set_option maxHeartbeats 1000000 in
theorem meet (A0 A1 : Option Addr) (c0 c1 : Nat) (l0 l1 : List ByteArray) (w : World) (hr0 : Kd.C Kd.string w A0 l0.length l0) (hc0 : l0.length ≤ c0) (hr1 : Kd.C Kd.string w A1 l1.length l1) (hc1 : l1.length ≤ c1) (hl0 : l0.length ≤ 4611686018427387903) (hl1 : l1.length ≤ 4611686018427387903) :
    Calls Try.prog 23 #[.slice A0 l0.length c0, .slice A1 l1.length c1] w fun e w' => e = .returned (.bool (l0.any (has l1))) ∧ Below w.heap.size w w' := by
  have hB : Below w.heap.size w (w.alloc (.cells #[.slice A1 l1.length c1] 36)) := (Below.refl _ _).alloc (Nat.le_refl _) _
  have HC := Aside0.mk (containsFunc A0 c0 l0 l1 w.heap.size (w.alloc (.cells #[.slice A1 l1.length c1] 36)) (Kd.C_below hr0 hB) hc0 ⟨A1, c1, by have h := heap_alloc_new w (.cells #[.slice A1 l1.length c1] 36); simp only [World.cell?, h]; rfl, Kd.C_below hr1 hB, hc1⟩ hl0 hl1)
  have HB := Aside0.mk hB
  clear hB hr0 hr1
  go_enter Try.func23, Try.ntmps23
  go_wp2_with fail
  refine HC.out.mono ?_
  rintro e w1 ⟨rfl, ⟨m, rfl⟩⟩
  go_wp2_with fail
  go_ret
  exact ⟨rfl, pw_below_drewN HB.out m⟩
def access_meet.f (l0 l1 : List ByteArray) : Option Bool := if l0.length ≤ 4611686018427387903 ∧ l1.length ≤ 4611686018427387903 then some (l0.any (has l1)) else none
theorem access_meet.calls (A0 : Option Addr) (c0 : Nat) (l0 : List ByteArray) (A1 : Option Addr) (c1 : Nat) (l1 : List ByteArray) (r : Bool) (w : World) (hr0 : Kd.C Kd.string w A0 l0.length l0) (hc0 : l0.length ≤ c0) (hr1 : Kd.C Kd.string w A1 l1.length l1) (hc1 : l1.length ≤ c1) (h : access_meet.f l0 l1 = some r) :
    Calls Try.prog 23 #[.slice A0 l0.length c0, .slice A1 l1.length c1] w fun e w' => e = .returned (.bool r) ∧ Below w.heap.size w w' := by
  unfold access_meet.f at h
  by_cases hc : l0.length ≤ 4611686018427387903 ∧ l1.length ≤ 4611686018427387903
  · rw [if_pos hc] at h
    obtain rfl := Option.some.inj h
    exact meet A0 A1 c0 c1 l0 l1 w hr0 hc0 hr1 hc1 hc.1 hc.2
  · rw [if_neg hc] at h; cases h
end Go.Proofs.Ytkfhajdkpbpkdaa.Meet
