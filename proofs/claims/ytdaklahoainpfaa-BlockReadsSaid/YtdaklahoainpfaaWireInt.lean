/- wire.GetInt and wire.Int come to what the plain functions wireGet and wireInt say. -/
import Derived.Test.YtdaklahoainpfaaProg
import Derived.Below
import Derived.Deep.Draws
import Derived.OwnWalk
import Derived.Tactics
import Derived.WalkKit
import Derived.KernelRfl
import Derived.WalkMore
import Derived.Scope
import Derived.ScopeJumps
import Derived.LoopTactic
import Derived.Outline
import Derived.Laws.BitsLemmas
import Derived.Laws.Bits64
import Derived.Laws.BitsAllLaws
import Derived.Lib.Hide
import Derived.Test.YtdaklahoainpfaaPlain01
namespace Go.Proofs.Ytdaklahoainpfaa.WireInt
open Go.RowKit Go.Proofs.YtdaklahoainpfaaW.PrintWords Go.Proofs.Ytdaklahoainpfaa.Plain01
set_option linter.unusedVariables false
set_option linter.unusedSimpArgs false

def wire_GetInt.f (a0 : ByteArray) : Option (Int × Int × Int) := some (wireGet a0)

section
variable {P : Program} {a : Act} {w : World} {Q : Exit → Act → World → Prop}
/-- A scope with a label to which the run jumps back: what stands behind the label is walked once. -/
theorem wp_scope_goto {c rest : Code} (l : Nat) (J : Act → World → Prop) (μ : Act → World → Nat) (hf : findLabel c l = some (Code.seq .skip rest))
    (pass : ∀ a w, J a w → rest.wp P (Exit.jump l (fun a' w' => J a' w' ∧ μ a' w' < μ a w) Q) a w)
    (first : (∀ a w, J a w → rest.wp P (Exit.jump l J Q) a w) → c.wp P (Exit.jump l J Q) a w) : (Code.scope c).wp P Q a w :=
  wp_scope_jumps l J μ hf (first fun a w hJ => wp_mono (pass a w hJ) fun e a' w' h => by
    cases e <;> first | exact h | exact ⟨h.1, h.2.1⟩) fun a w hJ => wp_seq (wp_skip (pass a w hJ))
end
theorem c_and (c : Nat) (h : c < 256) : bits .and .u8 (c : Int) 128 = if 128 ≤ c then 128 else 0 := by
  have e : ((128 : Nat) : Int) = 128 := rfl
  rw [← e, u8_and_nat c 128 h (by decide)]
  have h2 := nat_bit 7 c
  simp only [Nat.reducePow] at h2
  rw [h2]
  split <;> omega
theorem c_andNot (c : Nat) (h : c < 256) : bits .andNot .u8 (c : Int) 128 = ((c % 128 : Nat) : Int) := by
  have e : ((128 : Nat) : Int) = 128 := rfl
  rw [← e, u8_andNot_nat c 128 h (by decide)]
  have h2 := nat_mask7 c
  rw [show (255 - 128 : Nat) = 127 from rfl, h2]
theorem c_lt {c : Nat} {z : Int} (h : z = if 128 ≤ c then 128 else 0) (h0 : (z != 0) = false) : ¬ 128 ≤ c := by
  intro hx
  rw [if_pos hx] at h
  subst h
  simp at h0
theorem n_or (n c i : Nat) (hn : n < 128 ^ i) (hi : i ≤ 8) (hc : c < 128) :
    bits .or .u64 (n : Int) (IntKind.u64.wrap (IntKind.u64.wrap (c : Int) * 2 ^ (7 * i))) = ((n + c * 128 ^ i : Nat) : Int) := by
  have e : (128 : Nat) ^ i = 2 ^ (7 * i) := by rw [Nat.pow_mul]
  have hb : (2 : Nat) ^ (7 * i) ≤ 2 ^ 56 := Nat.pow_le_pow_right (by decide) (by omega)
  have hp : 0 < (2 : Nat) ^ (7 * i) := Nat.pow_pos (by decide)
  have hm : c * 2 ^ (7 * i) < 18446744073709551616 := by
    have : c * 2 ^ (7 * i) ≤ 127 * 2 ^ 56 := Nat.mul_le_mul (by omega) hb
    omega
  have e1 : IntKind.u64.wrap (c : Int) = (c : Int) := by rw [IntKind.wrap_u64]; omega
  have e2 : (c : Int) * 2 ^ (7 * i) = ((c * 2 ^ (7 * i) : Nat) : Int) := by push_cast; rfl
  have e3 : IntKind.u64.wrap ((c * 2 ^ (7 * i) : Nat) : Int) = ((c * 2 ^ (7 * i) : Nat) : Int) := by rw [IntKind.wrap_u64]; omega
  rw [e1, e2, e3, u64_or_nat n _ (by omega) hm, Nat.or_comm, nat_join (7 * i) _ n (Nat.mul_mod_left _ _) (by omega), e]
  congr 1
  omega
theorem bt_nat (s : ByteArray) (i : Nat) (h : i < s.size) : bt s (i : Int) = (s[i].toNat : Int) := by
  simp [bt, h]
theorem wireGetL_at (s : ByteArray) (i n : Nat) (hi : i ≤ 8) (hl : i < s.size) :
    wireGetL s (9 - i) n =
      if 128 ≤ s[i].toNat then wireGetL s (9 - (i + 1)) (n + s[i].toNat % 128 * 128 ^ i)
      else if 4611686018427387903 < n + s[i].toNat % 128 * 128 ^ i then (0, 0, 2)
      else if s[i].toNat = 0 ∧ 1 < i + 1 then (0, 0, 3)
      else (((n + s[i].toNat % 128 * 128 ^ i : Nat) : Int), ((i + 1 : Nat) : Int), 0) := by
  obtain ⟨d, hd⟩ : ∃ d, 9 - i = d + 1 := ⟨8 - i, by omega⟩
  obtain rfl : i = 8 - d := by omega
  have e1 : 9 - (8 - d + 1) = d := by omega
  rw [hd, e1, wireGetL, if_neg (by omega), bt_nat s _ hl]
  rfl
theorem ret3 {a b c x y z : Int} (h : (x, y, z) = (a, b, c)) : Ending.returned (.tuple #[.int .i64 x, .int .i64 y, .int .i64 z]) = .returned (.tuple #[.int .i64 a, .int .i64 b, .int .i64 c]) := by
  injection h with h1 h; injection h with h2 h3; rw [h1, h2, h3]

/-- What holds at each jump. -/
def JGet (a0 : ByteArray) (r1 r2 r3 : Int) (w : World) (a' : Act) (w' : World) : Prop := w' = w ∧ ∃ (n i : Nat) (u1 u7 u8 u9 u10 u11 u12 u13 u14 u15 u16 u17 u18 u19 u20 u21 u22 u23 u24 u25 u26 u27 u28 u29 u30 u31 u32 u33 u34 u35 u36 u37 u38 u39 u40 u41 u42 u43 u44 : Value), a' = { tmps := #[.string a0, u1, .int .i64 0, .int .i64 0, .int .i64 0, .int .u64 n, .int .i64 i, u7, u8, u9, u10, u11, u12, u13, u14, u15, u16, u17, u18, u19, u20, u21, u22, u23, u24, u25, u26, u27, u28, u29, u30, u31, u32, u33, u34, u35, u36, u37, u38, u39, u40, u41, u42, u43, u44], defers := [] } ∧ i ≤ 9 ∧ i ≤ a0.size ∧ n < 128 ^ i ∧ Aside0 (wireGetL a0 (9 - i) n = (r1, r2, r3))
set_option maxHeartbeats 4000000 in
set_option maxRecDepth 100000 in
theorem wire_GetInt.calls (a0 : ByteArray) (r1 r2 r3 : Int) (w : World) (h : wire_GetInt.f a0 = some (r1, r2, r3)) :
    Calls Try.prog 32 #[.string a0] w fun e w' => e = .returned (.tuple #[.int .i64 r1, .int .i64 r2, .int .i64 r3]) ∧ Drawn0 w w' := by
  go_enter Try.func32, Try.ntmps32
  go_wp2
  have H := Aside0.mk (Option.some.inj h)
  clear h
  refine wp_scope_goto 0 (JGet a0 r1 r2 r3 w) (fun a' _ => 9 - (intOf (a'.tmps.getD 6 undef)).toNat) rfl ?_ ?_
  · rintro a' w' ⟨rfl, n, i, u1, u7, u8, u9, u10, u11, u12, u13, u14, u15, u16, u17, u18, u19, u20, u21, u22, u23, u24, u25, u26, u27, u28, u29, u30, u31, u32, u33, u34, u35, u36, u37, u38, u39, u40, u41, u42, u43, u44, rfl, h9, hsz, hn, H⟩
    by_cases e9 : i = 9
    · subst e9
      have H0 : (0, 0, 2) = (r1, r2, r3) := H.out
      clear H
      have H := Aside0.mk H0
      clear H0
      go_wp2
      simp only [Exit.jump]
      go_ret3
      exact ⟨ret3 H.out, Drawn0.refl _⟩
    · have e9b : ((i : Int) == 9) = false := by rw [beq_eq_false_iff_ne]; omega
      by_cases es : i = a0.size
      · have esb : ((i : Int) == (a0.size : Int)) = true := by rw [beq_iff_eq]; omega
        have H0 : (0, 0, 1) = (r1, r2, r3) := by
          have h := H.out
          obtain ⟨d, hd⟩ : ∃ d, 9 - i = d + 1 := ⟨8 - i, by omega⟩
          rwa [hd, wireGetL, if_pos (by omega)] at h
        clear H
        have H := Aside0.mk H0
        clear H0 es
        go_wp2
        simp only [Exit.jump]
        go_ret3
        exact ⟨ret3 H.out, Drawn0.refl _⟩
      · have esb : ((i : Int) == (a0.size : Int)) = false := by rw [beq_eq_false_iff_ne]; omega
        have hlt : i < a0.size := by omega
        have hc := a0[i].toNat_lt
        have H1 := H.out
        rw [wireGetL_at a0 i n (by omega) hlt] at H1
        have F1 := Aside0.mk (c_and a0[i].toNat hc)
        have F2 := Aside0.mk (n_or n (a0[i].toNat % 128) i hn (by omega) (Nat.mod_lt _ (by decide)))
        have F3 := Aside0.mk (c_andNot a0[i].toNat hc)
        clear H
        have H := Aside0.mk H1
        clear H1
        go_wp2
        · rename_i hb
          rw [F1.out] at hb
          have h128 : 128 ≤ a0[i].toNat := by
            by_cases hx : 128 ≤ a0[i].toNat
            · exact hx
            · rw [if_neg hx] at hb; simp at hb
          have H1 := H.out
          rw [if_pos h128] at H1
          go_step3
          simp only [Exit.then, Exit.jump]
          rw [F3.out, F2.out]
          refine ⟨rfl, ⟨rfl, _, i + 1, _, _, _, _, _, _, _, _, _, _, _, _, _, _, _, _, _, _, _, _, _, _, _, _, _, _, _, _, _, _, _, _, _, _, _, _, _, _, _, rfl, by omega, by omega, ?_, ⟨H1⟩⟩, by simp [intOf]; omega⟩
          have h1 : a0[i].toNat % 128 * 128 ^ i ≤ 127 * 128 ^ i := Nat.mul_le_mul_right _ (by omega)
          rw [Nat.pow_succ]
          omega
        · have h0 : (bits .and .u8 (a0[i].toNat : Int) 128 != 0) = false := by assumption
          have h1 : 4611686018427387903 < bits .or .u64 (n : Int) (IntKind.u64.wrap (IntKind.u64.wrap (bits .andNot .u8 (a0[i].toNat : Int) 128) * 2 ^ (7 * i))) := by assumption
          simp only [Exit.jump]
          go_ret3
          rw [F3.out, F2.out] at h1
          have H1 := H.out
          rw [if_neg (c_lt F1.out h0), if_pos (by omega)] at H1
          exact ⟨ret3 H1, Drawn0.refl _⟩
        · have h0 : (bits .and .u8 (a0[i].toNat : Int) 128 != 0) = false := by assumption
          have h1 : bits .or .u64 (n : Int) (IntKind.u64.wrap (IntKind.u64.wrap (bits .andNot .u8 (a0[i].toNat : Int) 128) * 2 ^ (7 * i))) ≤ 4611686018427387903 := by assumption
          have h2 : a0[i].toNat = 0 := by assumption
          have h3 : 1 < (i : Int) + 1 := by assumption
          simp only [Exit.jump]
          go_ret3
          rw [F3.out, F2.out] at h1
          have H1 := H.out
          rw [if_neg (c_lt F1.out h0), if_neg (by omega), if_pos ⟨h2, by omega⟩] at H1
          exact ⟨ret3 H1, Drawn0.refl _⟩
        · have h0 : (bits .and .u8 (a0[i].toNat : Int) 128 != 0) = false := by assumption
          have h1 : bits .or .u64 (n : Int) (IntKind.u64.wrap (IntKind.u64.wrap (bits .andNot .u8 (a0[i].toNat : Int) 128) * 2 ^ (7 * i))) ≤ 4611686018427387903 := by assumption
          have h2 : a0[i].toNat = 0 := by assumption
          have h3 : (i : Int) + 1 ≤ 1 := by assumption
          simp only [Exit.jump]
          go_ret3
          rw [F3.out, F2.out] at h1
          have e0 := c_andNot 0 (by decide)
          have e1 := n_or n (0 % 128) i hn (by omega) (by decide)
          simp only [Nat.zero_mod, Int.ofNat_zero, Int.cast_ofNat_Int, Nat.zero_mul, Nat.add_zero] at e0 e1
          rw [e0, e1]
          have H1 := H.out
          rw [if_neg (c_lt F1.out h0), if_neg (by omega), if_neg (by omega), h2] at H1
          have hv : wrap64 ((n : Nat) : Int) = ((n : Nat) : Int) := by unfold wrap64; omega
          rw [hv]
          exact ⟨ret3 (by simpa using H1), Drawn0.refl _⟩
        · have h0 : (bits .and .u8 (a0[i].toNat : Int) 128 != 0) = false := by assumption
          have h1 : bits .or .u64 (n : Int) (IntKind.u64.wrap (IntKind.u64.wrap (bits .andNot .u8 (a0[i].toNat : Int) 128) * 2 ^ (7 * i))) ≤ 4611686018427387903 := by assumption
          have h2 : ¬ a0[i].toNat = 0 := by assumption
          simp only [Exit.jump]
          go_ret3
          rw [F3.out, F2.out] at h1 ⊢
          have H1 := H.out
          rw [if_neg (c_lt F1.out h0), if_neg (by omega), if_neg (by omega)] at H1
          have hv : wrap64 ((n + a0[i].toNat % 128 * 128 ^ i : Nat) : Int) = ((n + a0[i].toNat % 128 * 128 ^ i : Nat) : Int) := by unfold wrap64; omega
          rw [hv]
          exact ⟨ret3 H1, Drawn0.refl _⟩
  · intro hrest
    go_wp2
    go_step3
    rename_i K hK
    simp only [Exit.then]
    exact hK _ _ (hrest _ _ ⟨rfl, 0, 0, _, _, _, _, _, _, _, _, _, _, _, _, _, _, _, _, _, _, _, _, _, _, _, _, _, _, _, _, _, _, _, _, _, _, _, _, _, _, _, rfl, by omega, by omega, by decide, H⟩)

def wire_Int.f (a0 : Int) : Option ByteArray := some (wireInt a0)

theorem c_or (c : Nat) (h : c < 256) : bits .or .u8 (c : Int) 128 = ((c % 128 + 128 : Nat) : Int) := by
  have e : ((128 : Nat) : Int) = 128 := rfl
  rw [← e, u8_or_nat c 128 h (by decide)]
  have : ∀ c : Fin 256, (c.val ||| 128) = c.val % 128 + 128 := by decide +kernel
  rw [this ⟨c, h⟩]
theorem byteinfo : (Try.prog.info? 5).map (fun i => (i.zero, i.size, i.bytes)) = some (some (.int .u8 0), 1, 1) := by kernel_rfl
/-- What holds at each jump. -/
def JInt (r : ByteArray) (w : World) (a' : Act) (w' : World) : Prop := ∃ (m k : Nat) (xs : List Int) (v u1 u4 u5 u6 u7 u8 u9 u10 u11 u12 u13 u14 u15 u16 u17 u18 u19 u20 u21 u22 u23 u24 u25 : Value), a' = { tmps := #[.int .i64 (m : Int), u1, .string ⟨#[]⟩, v, u4, u5, u6, u7, u8, u9, u10, u11, u12, u13, u14, u15, u16, u17, u18, u19, u20, u21, u22, u23, u24, u25], defers := [] } ∧ m < 128 ^ k ∧ k ≤ 9 ∧ 1 ≤ k ∧ m ≤ 4611686018427387903 ∧ xs.length + k ≤ 9 ∧ Aside0 (strOfNums (xs ++ encF k m) = r) ∧ Aside0 (w'.ownsRow w.heap.size 5 1 v xs.length (nums .u8 xs)) ∧ Aside0 (Below w.heap.size w w')

set_option maxHeartbeats 4000000 in
set_option maxRecDepth 100000 in
theorem wire_Int.calls (a0 : Int) (r : ByteArray) (w : World) (h : wire_Int.f a0 = some r) :
    Calls Try.prog 42 #[.int .i64 a0] w fun e w' => e = .returned (.string r) ∧ Below w.heap.size w w' := by
  have H := Aside0.mk (Option.some.inj h)
  clear h
  by_cases h0 : a0 < 0
  · have hr : (⟨#[]⟩ : ByteArray) = r := by rw [← H.out, wireInt, if_pos h0]
    subst hr
    go_enter Try.func42, Try.ntmps42
    go_wp2
    refine wp_scope_straight ?_
    go_wp2
    rw [Exit.noGoto_ret]
    go_ret
    exact ⟨rfl, by repeat (first | exact Below.refl _ _ | apply below_alloc | apply pw_below_drewN)⟩
  by_cases h1 : 4611686018427387903 < a0
  · have hr : (⟨#[]⟩ : ByteArray) = r := by rw [← H.out, wireInt, if_neg h0, if_pos h1]
    subst hr
    go_enter Try.func42, Try.ntmps42
    go_wp2
    refine wp_scope_straight ?_
    go_wp2
    rw [Exit.noGoto_ret]
    go_ret
    exact ⟨rfl, by repeat (first | exact Below.refl _ _ | apply below_alloc | apply pw_below_drewN)⟩
  have hr : strOfNums (encF 9 a0.toNat) = r := by rw [← H.out, wireInt, if_neg h0, if_neg h1]
  clear H
  obtain ⟨n, rfl⟩ := Int.eq_ofNat_of_zero_le (show 0 ≤ a0 by omega)
  rw [Int.toNat_natCast] at hr
  have hn : n ≤ 4611686018427387903 := by omega
  have H := Aside0.mk hr
  clear hr h0 h1
  go_enter Try.func42, Try.ntmps42
  go_wp2
  refine wp_scope_goto 0 (JInt r w) (fun a' _ => (intOf (a'.tmps.getD 0 undef)).toNat) rfl ?_ ?_
  · rintro a' w' ⟨m, k, xs, v, u1, u4, u5, u6, u7, u8, u9, u10, u11, u12, u13, u14, u15, u16, u17, u18, u19, u20, u21, u22, u23, u24, u25, rfl, hm, hk9, hk1, hmm, hxs, HE, HO, HB⟩
    have hsz := Aside0.mk HB.out.size
    by_cases hlt : 128 ≤ m
    · have e1 : Aside0 (bits .or .u8 ((m : Int) % 256) 128 = ((m % 128 + 128 : Nat) : Int)) := ⟨by
        have h := c_or (m % 256) (Nat.mod_lt _ (by decide))
        rw [Nat.mod_mod_of_dvd m (by decide : 128 ∣ 256)] at h
        exact h⟩
      go_wp2_with (at_builtin; refine print_append_num (w0 := w) w.heap.size rfl _ _ 86 5 .u8 1 rfl Try.underlying86 byteinfo (by decide) v xs _ rfl rfl HO.out HB.out hsz.out (by omega) ?_; intro v1 w1 ho1 hb1 hg1 hat1; rw [e1.out] at ho1; have HO1 := Aside0.mk ho1; have HB1 := Aside0.mk hb1; clear ho1 hb1 hg1 hat1)
      go_step3
      simp only [Exit.then, Exit.jump]
      obtain ⟨j, rfl⟩ : ∃ j, k = j + 1 := ⟨k - 1, by omega⟩
      have hj : m / 128 < 128 ^ j := by rw [Nat.pow_succ] at hm; omega
      have hj1 : 1 ≤ j := by
        rcases Nat.eq_zero_or_pos j with rfl | h
        · simp at hj; omega
        · exact h
      have HE1 : strOfNums ((xs ++ [((m % 128 + 128 : Nat) : Int)]) ++ encF j (m / 128)) = r := by
        have h := HE.out
        rw [encF, if_neg (by omega)] at h
        rw [← h, List.append_assoc]
        rfl
      refine ⟨rfl, ⟨m / 128, j, _, _, _, _, _, _, _, _, _, _, _, _, _, _, _, _, _, _, _, _, _, _, _, _, _, rfl, hj, by omega, hj1, by omega, ?_, ⟨HE1⟩, HO1, HB1⟩, ?_⟩
      · rw [List.length_append, List.length_singleton]; omega
      · simp [intOf]; omega
    · have HE1 : strOfNums (xs ++ [(m : Int)]) = r := by
        have h := HE.out
        obtain ⟨j, rfl⟩ : ∃ j, k = j + 1 := ⟨k - 1, by omega⟩
        rwa [encF, if_pos (by omega)] at h
      clear HE
      have HE := Aside0.mk HE1
      clear HE1
      go_wp2_with (at_builtin; refine print_append_num (w0 := w) w.heap.size rfl _ _ 86 5 .u8 1 rfl Try.underlying86 byteinfo (by decide) v xs _ rfl rfl HO.out HB.out hsz.out (by omega) ?_; intro v1 w1 ho1 hb1 hg1 hat1; have hcv := own_string (P := Try.prog) Try.underlying86 Try.underlying5 Try.underlying9 ho1; have HB1 := Aside0.mk hb1; clear ho1 hb1 hg1 hat1)
      simp only [Exit.jump]
      go_ret
      exact ⟨by rw [← HE.out]; rfl, HB1.out⟩
  · intro hrest
    go_wp2
    go_step3
    rename_i K hK
    simp only [Exit.then]
    exact hK _ _ (hrest _ _ ⟨n, 9, [], _, _, _, _, _, _, _, _, _, _, _, _, _, _, _, _, _, _, _, _, _, _, _, _, rfl, by omega, by omega, by omega, hn, by simp, H, ⟨own_nil _ _ _ _⟩, ⟨Below.refl _ _⟩⟩)

end Go.Proofs.Ytdaklahoainpfaa.WireInt
