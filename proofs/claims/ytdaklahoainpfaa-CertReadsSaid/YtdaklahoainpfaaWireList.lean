/- wire.List comes to what the plain function wireList says. -/
import Derived.Test.YtdaklahoainpfaaRef01
import Derived.Test.YtdaklahoainpfaaBuilder
import Derived.LoopTactic
import Derived.Outline
namespace Go.Proofs.Ytdaklahoainpfaa.WireList
open Go.RowKit Go.Proofs.YtdaklahoainpfaaW.PrintWords Go.Proofs.Ytdaklahoainpfaa.Plain01 Go.Proofs.Ytdaklahoainpfaa.Builder
set_option linter.unusedVariables false
set_option linter.unusedSimpArgs false

def wire_List.f (l0 : List ByteArray) : Option ByteArray := if (wireList l0).size ≤ 140737488355328 then some (wireList l0) else none
def pref (l : List ByteArray) (k : Nat) : ByteArray := wireInt (l.length : Int) ++ wireCat (l.take k)
theorem pref_succ (l : List ByteArray) (k : Nat) (h : k < l.length) : pref l (k + 1) = pref l k ++ wireText l[k] := by
  rw [pref, pref, wireCat_take l k h, ByteArray.append_assoc]
theorem pref_le (l : List ByteArray) (k : Nat) : (pref l k).size ≤ (wireList l).size := by
  rw [pref, wireList, ba_append_size, ba_append_size]
  have := wireCat_le l k
  omega
theorem pref_zero (l : List ByteArray) : pref l 0 = ⟨#[]⟩ ++ wireInt (l.length : Int) := by
  apply ByteArray.ext; simp [pref, wireCat]
theorem pref_all (l : List ByteArray) : pref l l.length = wireList l := by rw [pref, wireList, List.take_length]

def JList (l : List ByteArray) (w : World) (k : Nat) (wr : World) : Prop := k ≤ l.length ∧ Holds w.heap.size w.heap.size (pref l k) wr ∧ Below w.heap.size w wr

set_option maxHeartbeats 2000000 in
set_option maxRecDepth 100000 in
theorem wire_List.calls (A0 : Option Addr) (c0 : Nat) (l0 : List ByteArray) (r : ByteArray) (w : World) (hr0 : Kd.C Kd.string w A0 l0.length l0) (hc0 : l0.length ≤ c0) (h : wire_List.f l0 = some r) :
    Calls Try.prog 43 #[.slice A0 l0.length c0] w fun e w' => e = .returned (.string r) ∧ Below w.heap.size w w' := by
  have hsz : (wireList l0).size ≤ 140737488355328 := by
    unfold wire_List.f at h
    split at h
    · assumption
    · cases h
  rw [wire_List.f, if_pos hsz] at h
  obtain rfl := Option.some.inj h
  clear h
  have hlen : l0.length ≤ 9223372036854775807 := hr0.2.1
  have hi := wireInt_size (l0.length : Int)
  have hp0 := pref_le l0 0
  rw [pref_zero] at hp0
  rw [ba_append_size] at hp0
  have HR := Aside0.mk hr0
  clear hr0
  go_enter Try.func43, Try.ntmps43
  go_wp2_with fail
  refine (WireInt.wire_Int.calls _ _ _ rfl).mono ?_
  rintro e w1 ⟨rfl, hb1⟩
  have HB1 := Aside0.mk hb1
  clear hb1
  have hh1 := Aside0.mk ((holds_fresh w).below HB1.out)
  go_wp2_with fail
  refine (write w.heap.size w.heap.size ⟨#[]⟩ _ _ hh1.out (by omega) (by have := HB1.out.size; simp at this; omega)).mono ?_
  rintro e w2 ⟨rfl, hh2, hb2⟩
  rw [← pref_zero] at hh2
  have HJ := Aside0.mk (show JList l0 w 0 w2 from ⟨by omega, hh2, (((Below.refl _ w).alloc (Nat.le_refl _) _).trans (HB1.out.mono (by simp))).trans hb2⟩)
  clear hh2 hb2 hh1 HB1
  go_wp2_with fail
  go_loopw [12] (fun v12 wr => ∃ k : Nat, k ≤ l0.length ∧ v12 = .int .i64 k ∧ Aside0 (JList l0 w k wr)) (fun i _ => l0.length - (intOf i).toNat)
  case atStart => exact ⟨0, by omega, rfl, HJ⟩
  case round =>
    obtain ⟨k, hk, rfl, HJ⟩ := hrel
    by_cases hlt : k < l0.length
    · obtain ⟨ad, rfl, hcells⟩ := HR.out.2.2 (by omega)
      obtain ⟨c, hc1, hc2, hc3⟩ := hcells k l0[k] (List.getElem?_eq_getElem hlt)
      obtain rfl : c = [.string l0[k]] := hc2
      have hcell := pw_cell_below HJ.out.2.2 (hc3 0 _ rfl)
      simp only [show Kd.string.sz = 1 from rfl, Nat.mul_one, Nat.add_zero] at hcell
      clear hcells hc3
      have hle := pref_le l0 (k + 1)
      rw [pref_succ l0 k hlt, ba_append_size] at hle
      go_wp2_with fail
      refine (Ref01.wire_Text.calls _ _ _ (if_pos (by omega))).mono ?_
      rintro e w3 ⟨rfl, hb3⟩
      have HB3 := Aside0.mk hb3
      clear hb3
      go_wp2_with fail
      refine (write w.heap.size w.heap.size (pref l0 k) _ _ (HJ.out.2.1.below HB3.out) (by omega) (by have := HB3.out.size; have := HJ.out.2.2.size; omega)).mono ?_
      rintro e w4 ⟨rfl, hh4, hb4⟩
      rw [← pref_succ l0 k hlt] at hh4
      have HJ4 := Aside0.mk (show JList l0 w (k + 1) w4 from ⟨by omega, hh4, (HJ.out.2.2.trans (HB3.out.mono HJ.out.2.2.size)).trans hb4⟩)
      clear hh4 hb4
      go_wp2_with fail
      go_roundw
      case rel => exact ⟨k + 1, by omega, by go_num, HJ4⟩
      case measure => simp [intOf]; omega
    · obtain rfl : k = l0.length := by omega
      have hh := HJ.out.2.1
      rw [pref_all] at hh
      have HH := Aside0.mk hh
      clear hh
      go_wp2_with fail
      refine (string_ w.heap.size w.heap.size (wireList l0) _ HH.out HJ.out.2.2.size).mono ?_
      rintro e w5 ⟨rfl, hb5⟩
      have HB5 := Aside0.mk (HJ.out.2.2.trans hb5)
      clear hb5
      go_wp2_with fail
      go_ret
      exact ⟨rfl, HB5.out⟩

end Go.Proofs.Ytdaklahoainpfaa.WireList
