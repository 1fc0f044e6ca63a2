/- block.Mark and block.Unmark walked. -/
import Derived.Test.YtgfnleapjldbkaaProg
import Derived.Test.YtgfnleapjldbkaaWMore
import Derived.Tactics
import Derived.WalkKit
import Derived.KernelRfl
import Derived.LoopTactic
import Derived.Outline
import Derived.Deep.QuietTactic
import Derived.BigQuiet
import Derived.Laws.Shifts
import Derived.Laws.ShiftsVarLaws
import Derived.Lib.ConvBytes
import Derived.Laws.BytesArg
import Derived.Laws.IdiomStrings
import Derived.Laws.BitsLemmas
import Derived.Laws.NewBlocks
namespace Go.Proofs.Ytgfnleapjldbkaa.BlockMark
open Go.RowKit Go.Proofs.YtgfnleapjldbkaaW.PrintWords Go.Proofs.YtgfnleapjldbkaaW.PrintMore
set_option linter.unusedVariables false
set_option linter.unusedSimpArgs false
def u8 (x : Int) : UInt8 := UInt8.ofNat x.toNat
theorem u8_nat {x : Int} (h0 : 0 ≤ x) (h1 : x < 256) : ((u8 x).toNat : Int) = x := by
  unfold u8
  rw [UInt8.toNat_ofNat']
  omega
/-- A round's eight bytes, the greatest first. -/
def markL (r : Int) : List UInt8 := [u8 (r / 72057594037927936), u8 (r / 281474976710656 % 256), u8 (r / 1099511627776 % 256), u8 (r / 4294967296 % 256), u8 (r / 16777216 % 256), u8 (r / 65536 % 256), u8 (r / 256 % 256), u8 (r % 256)]
def markB (r : Int) : ByteArray := ⟨(markL r).toArray⟩
def markObj (r : Int) : Obj := .cells #[.int .u8 (r / 72057594037927936), .int .u8 (r / 281474976710656 % 256), .int .u8 (r / 1099511627776 % 256), .int .u8 (r / 4294967296 % 256), .int .u8 (r / 16777216 % 256), .int .u8 (r / 65536 % 256), .int .u8 (r / 256 % 256), .int .u8 (r % 256)] 41
theorem mark_conv (r : Int) (w : World) (h1 : 1 ≤ r) (h2 : r ≤ 4611686018427387903) :
    (convert 42 9 (.slice (some ⟨w.heap.size, 0, none⟩) 8 8)).run Try.prog (w.alloc (markObj r)) = .ok (.string (markB r)) (w.alloc (markObj r)) := by
  refine run_convert_bytes_back (P := Try.prog) (w.alloc (markObj r)) 42 9 5 ⟨w.heap.size, 0, none⟩ 8 (markL r) Try.underlying42 Try.underlying5 Try.underlying9 ?_
  intro j hj
  have hc : ∀ j : Nat, (w.alloc (markObj r)).cell? ⟨w.heap.size, j, none⟩ = #[Value.int .u8 (r / 72057594037927936), .int .u8 (r / 281474976710656 % 256), .int .u8 (r / 1099511627776 % 256), .int .u8 (r / 4294967296 % 256), .int .u8 (r / 16777216 % 256), .int .u8 (r / 65536 % 256), .int .u8 (r / 256 % 256), .int .u8 (r % 256)][j]? := by
    intro j
    have h := heap_alloc_new w (markObj r)
    unfold markObj at h
    unfold markObj
    simp only [World.cell?, h]
    rfl
  match j, hj with
  | 0, _ => rw [show (⟨w.heap.size, 0, none⟩ : Addr).add 0 = ⟨w.heap.size, 0, none⟩ from rfl, hc, show (markL r)[0] = u8 (r / 72057594037927936) from rfl, u8_nat (by omega) (by omega)]; rfl
  | 1, _ => rw [show (⟨w.heap.size, 0, none⟩ : Addr).add 1 = ⟨w.heap.size, 1, none⟩ from rfl, hc, show (markL r)[1] = u8 (r / 281474976710656 % 256) from rfl, u8_nat (by omega) (by omega)]; rfl
  | 2, _ => rw [show (⟨w.heap.size, 0, none⟩ : Addr).add 2 = ⟨w.heap.size, 2, none⟩ from rfl, hc, show (markL r)[2] = u8 (r / 1099511627776 % 256) from rfl, u8_nat (by omega) (by omega)]; rfl
  | 3, _ => rw [show (⟨w.heap.size, 0, none⟩ : Addr).add 3 = ⟨w.heap.size, 3, none⟩ from rfl, hc, show (markL r)[3] = u8 (r / 4294967296 % 256) from rfl, u8_nat (by omega) (by omega)]; rfl
  | 4, _ => rw [show (⟨w.heap.size, 0, none⟩ : Addr).add 4 = ⟨w.heap.size, 4, none⟩ from rfl, hc, show (markL r)[4] = u8 (r / 16777216 % 256) from rfl, u8_nat (by omega) (by omega)]; rfl
  | 5, _ => rw [show (⟨w.heap.size, 0, none⟩ : Addr).add 5 = ⟨w.heap.size, 5, none⟩ from rfl, hc, show (markL r)[5] = u8 (r / 65536 % 256) from rfl, u8_nat (by omega) (by omega)]; rfl
  | 6, _ => rw [show (⟨w.heap.size, 0, none⟩ : Addr).add 6 = ⟨w.heap.size, 6, none⟩ from rfl, hc, show (markL r)[6] = u8 (r / 256 % 256) from rfl, u8_nat (by omega) (by omega)]; rfl
  | 7, _ => rw [show (⟨w.heap.size, 0, none⟩ : Addr).add 7 = ⟨w.heap.size, 7, none⟩ from rfl, hc, show (markL r)[7] = u8 (r % 256) from rfl, u8_nat (by omega) (by omega)]; rfl
set_option maxHeartbeats 1000000 in
theorem mark (r : Int) (id : ByteArray) (w : World) (h1 : 1 ≤ r) (h2 : r ≤ 4611686018427387903) (h3 : (id.size : Int) = 32) :
    Calls Try.prog 5 #[.int .i64 r, .string id] w fun e w' => e = .returned (.string (markB r ++ id)) ∧ Below w.heap.size w w' := by
  have HC := Aside0.mk (mark_conv r w h1 h2)
  go_enter Try.func5, Try.ntmps5
  go_wp2_with fail
  refine wp_loop_rounds 9 ?_
  iterate 9 (rw [rounds_succ]; go_wp2_with fail)
  have hc := HC.out
  unfold markObj at hc
  rw [hc]
  clear hc
  have hs : (markB r).size = 8 := rfl
  have h3' : id.size = 32 := by omega
  go_wp2_with fail
  go_ret
  exact ⟨rfl, (Below.refl _ _).alloc (Nat.le_refl _) _⟩
def byteN (s : ByteArray) (k : Nat) : Nat := (s.data.toList.getD k 0).toNat
theorem byteN_lt (s : ByteArray) (k : Nat) : byteN s k < 256 := UInt8.toNat_lt _
/-- The number that so many first bytes are, the greatest first. -/
def beN (s : ByteArray) : Nat → Nat
  | 0 => 0
  | k + 1 => beN s k * 256 + byteN s k
theorem beN_lt (s : ByteArray) (k : Nat) : beN s k < 256 ^ k := by
  induction k with
  | zero => simp [beN]
  | succ k ih => have := byteN_lt s k; rw [beN, Nat.pow_succ]; omega
theorem n_or8 (n b : Nat) (hn : n < 72057594037927936) (hb : b < 256) : bits .or .u64 (IntKind.u64.wrap ((n : Int) * 256)) (IntKind.u64.wrap (b : Int)) = ((n * 256 + b : Nat) : Int) := by
  have e1 : IntKind.u64.wrap (b : Int) = (b : Int) := by rw [IntKind.wrap_u64]; omega
  have e2 : IntKind.u64.wrap ((n : Int) * 256) = ((n * 256 : Nat) : Int) := by rw [IntKind.wrap_u64]; omega
  rw [e1, e2, u64_or_nat _ _ (by omega) (by omega), nat_join 8 (n * 256) b (Nat.mul_mod_left _ _) (by omega)]
theorem conv_bytes (t : ByteArray) (w : World) : ∃ w1 c, (convert 9 42 (.string t)).run Try.prog w = .ok (.slice (some ⟨w.heap.size, 0, none⟩) t.size c) w1 ∧ Below w.heap.size w w1 ∧ ∀ j, j < t.size → w1.cell? ⟨w.heap.size, j, none⟩ = some (.int .u8 (byteN t j)) := by
  refine ⟨_, _, Lib.run_convert_string_bytes (P := Try.prog) w 9 42 5 t Try.underlying9 Try.underlying42 Try.underlying5, ?_, fun j hj => Lib.bytesWorld_cell w 5 t j hj⟩
  refine ⟨rfl, rfl, rfl, ?_, fun i hi => Lib.bytesWorld_at_old w 5 t i hi⟩
  have := Lib.bytesWorld_size w 5 t
  omega
theorem below_drewN {B : Nat} {w w1 : World} (h : Below B w w1) (n : Nat) : Below B w (w1.drewN n) := ⟨h.os, h.tape, h.output, h.size, h.block⟩
/-- What Unmark says of a mark that is long enough. -/
def unmarkP (s : ByteArray) : Int × ByteArray × Bool :=
  if (beN (s.extract 0 8) 8 : Int) < 1 ∨ 4611686018427387903 < (beN (s.extract 0 8) 8 : Int) then (0, ⟨#[]⟩, false) else ((beN (s.extract 0 8) 8 : Int), s.extract 8 40, true)
set_option maxHeartbeats 1000000 in
theorem unmark (s : ByteArray) (w : World) (h1 : (s.size : Int) = 40) :
    Calls Try.prog 6 #[.string s] w fun e w' => e = .returned (.tuple #[.int .i64 (unmarkP s).1, .string (unmarkP s).2.1, .bool (unmarkP s).2.2]) ∧ Below w.heap.size w w' := by
  obtain ⟨w1, c, hrun, hb, hcell⟩ := conv_bytes (s.extract 0 8) w
  have hsz : (s.extract 0 8).size = 8 := by rw [ByteArray.size_extract]; omega
  rw [hsz] at hrun hcell
  have HB := Aside0.mk hb
  have HC := Aside0.mk hcell
  have HP : Aside0 (unmarkP s = if (beN (s.extract 0 8) 8 : Int) < 1 ∨ 4611686018427387903 < (beN (s.extract 0 8) 8 : Int) then (0, ⟨#[]⟩, false) else ((beN (s.extract 0 8) 8 : Int), s.extract 8 40, true)) := ⟨rfl⟩
  clear hb hcell hsz
  go_enter Try.func6, Try.ntmps6
  go_wp2_with fail
  generalize s.extract 0 8 = t at *
  go_loopw [5, 15] (fun v5 v15 wr => ∃ i : Nat, i ≤ 8 ∧ v5 = .int .u64 (beN t i) ∧ v15 = .int .i64 i ∧ wr = w1) (fun _ i _ => 8 - (intOf i).toNat)
  case atStart => exact ⟨0, by omega, rfl, rfl, rfl⟩
  case round =>
    obtain ⟨i, hi, rfl, rfl, rfl⟩ := hrel
    by_cases hlt : i < 8
    · have hc := HC.out i hlt
      have hl : beN t i < 72057594037927936 := by
        have h := beN_lt t i
        have h2 : (256 : Nat) ^ i ≤ 256 ^ 7 := Nat.pow_le_pow_right (by decide) (by omega)
        omega
      have HE := Aside0.mk (n_or8 (beN t i) (byteN t i) hl (byteN_lt t i))
      clear hl
      go_wp2_with fail
      exact ⟨⟨i + 1, by omega, by rw [HE.out]; rfl, by go_num, by first | rfl | trivial⟩, by simp [intOf]; omega⟩
    · obtain rfl : i = 8 := by omega
      have hl := beN_lt t 8
      by_cases h1 : (beN t 8 : Int) < 1
      · rw [if_pos (.inl h1)] at HP
        go_wp2_with fail
        go_ret3
        rw [HP.out]
        exact ⟨rfl, HB.out⟩
      by_cases h2 : 4611686018427387903 < (beN t 8 : Int)
      · rw [if_pos (.inr h2)] at HP
        go_wp2_with fail
        go_ret3
        rw [HP.out]
        exact ⟨rfl, HB.out⟩
      rw [if_neg (by omega)] at HP
      have g1 : 1 ≤ (beN t 8 : Int) := by omega
      have g2 : (beN t 8 : Int) ≤ 4611686018427387903 := by omega
      clear h1 h2 hl
      go_wp2_with fail
      have hs40 : s.size = 40 := by omega
      first | go_quiet (fail) | go_region
      all_goals go_wp2_with fail
      all_goals go_ret3
      all_goals rw [HP.out]
      all_goals exact ⟨rfl, below_drewN HB.out _⟩

def block_Mark.f (a0 : Int) (a1 : ByteArray) : Option ByteArray := some (if 1 ≤ a0 ∧ a0 ≤ 4611686018427387903 ∧ (a1.size : Int) = 32 then markB a0 ++ a1 else ⟨#[]⟩)
def block_Unmark.f (a0 : ByteArray) : Option (Int × ByteArray × Bool) := some (if (a0.size : Int) = 40 then unmarkP a0 else (0, ⟨#[]⟩, false))
set_option maxHeartbeats 1000000 in
theorem block_Mark.calls (a0 : Int) (a1 : ByteArray) (r1 : ByteArray) (w : World) (h : block_Mark.f a0 a1 = some r1) :
    Calls Try.prog 5 #[.int .i64 a0, .string a1] w fun e w' => e = .returned (.string r1) ∧ Below w.heap.size w w' := by
  have h := Option.some.inj h
  by_cases hc : 1 ≤ a0 ∧ a0 ≤ 4611686018427387903 ∧ (a1.size : Int) = 32
  · rw [if_pos hc] at h
    subst h
    exact mark a0 a1 w hc.1 hc.2.1 hc.2.2
  · rw [if_neg hc] at h
    subst h
    by_cases h1 : a0 < 1
    · go_enter Try.func5, Try.ntmps5
      go_wp2_with fail
      go_ret
      exact ⟨rfl, Below.refl _ _⟩
    by_cases h2 : 4611686018427387903 < a0
    · go_enter Try.func5, Try.ntmps5
      go_wp2_with fail
      go_ret
      exact ⟨rfl, Below.refl _ _⟩
    have hb : ((a1.size : Int) != 32) = true := by rw [bne_iff_ne]; omega
    go_enter Try.func5, Try.ntmps5
    go_wp2_with fail
    go_ret
    exact ⟨rfl, Below.refl _ _⟩
set_option maxHeartbeats 1000000 in
theorem block_Unmark.calls (a0 : ByteArray) (r1 : Int) (r2 : ByteArray) (r3 : Bool) (w : World) (h : block_Unmark.f a0 = some (r1, r2, r3)) :
    Calls Try.prog 6 #[.string a0] w fun e w' => e = .returned (.tuple #[.int .i64 r1, .string r2, .bool r3]) ∧ Below w.heap.size w w' := by
  have h := Option.some.inj h
  by_cases hc : (a0.size : Int) = 40
  · rw [if_pos hc] at h
    have h2 := unmark a0 w hc
    rw [h] at h2
    exact h2
  · rw [if_neg hc] at h
    obtain ⟨rfl, rfl, rfl⟩ : 0 = r1 ∧ ⟨#[]⟩ = r2 ∧ false = r3 := by simpa using h
    have hb : ((a0.size : Int) != 40) = true := by rw [bne_iff_ne]; omega
    go_enter Try.func6, Try.ntmps6
    go_wp2_with fail
    go_ret3
    exact ⟨rfl, Below.refl _ _⟩
end Go.Proofs.Ytgfnleapjldbkaa.BlockMark
