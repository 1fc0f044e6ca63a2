/- The law WavesFront in plain words: the waves of a beginning are those of the whole; those of readers alone, of writers of one key. -/
import Derived.Test.YtkfhajdkpbpkdaaQWavesFrontU
import Derived.Test.YtkfhajdkpbpkdaaLaw21
namespace Go.Proofs.Ytkfhajdkpbpkdaa.PureWavesFront
open Go.RowKit Go.Proofs.YtkfhajdkpbpkdaaW.PrintWords Go.Proofs.YtkfhajdkpbpkdaaW.PrintMore Go.Proofs.Ytkfhajdkpbpkdaa.QKinds Go.Proofs.Ytkfhajdkpbpkdaa.QBase21 Go.Proofs.Ytkfhajdkpbpkdaa.Meet Go.Proofs.Ytkfhajdkpbpkdaa.Edges21 Go.Proofs.Ytkfhajdkpbpkdaa.Contracts21 Go.Proofs.Ytkfhajdkpbpkdaa.Contracts21b Go.Proofs.Ytkfhajdkpbpkdaa.Plain21 Go.Proofs.Ytkfhajdkpbpkdaa.Plan21 Go.Proofs.Ytkfhajdkpbpkdaa.Pure21 Go.Proofs.Ytkfhajdkpbpkdaa.Law21 Go.Proofs.Ytkfhajdkpbpkdaa.Open Go.Proofs.Ytkfhajdkpbpkdaa.QOpen Go.Proofs.Ytkfhajdkpbpkdaa.QWavesFront
set_option linter.unusedVariables false
set_option linter.unusedSimpArgs false
theorem tx_take {l : List Tx} {n i : Nat} (h : i < n) : tx (l.take n) i = tx l i := by
  unfold tx rd_T38
  rw [Int.toNat_natCast, List.getD_eq_getElem?_getD, List.getElem?_take, if_pos h, ← List.getD_eq_getElem?_getD]
theorem wstep_take {l : List Tx} {n i : Nat} (ws : List Nat) (h : i < n) : ∀ k, k ≤ i → wstep (l.take n) ws i k = wstep l ws i k
  | 0, _ => rfl
  | k + 1, hk => by rw [wstep, wstep, tx_take (show k < n by omega), tx_take h, wstep_take ws h k (by omega)]
theorem waves_take {l : List Tx} {n : Nat} : ∀ i, i ≤ n → wavesN (l.take n) i = wavesN l i
  | 0, _ => rfl
  | i + 1, h => by rw [wavesN, wavesN, waves_take i (by omega), wstep_take _ (by omega) i (Nat.le_refl _)]
theorem wavesN_take {l : List Tx} {n : Nat} : ∀ d, (wavesN l (n + d)).take n = wavesN l n
  | 0 => by rw [Nat.add_zero, List.take_of_length_le (by rw [waves_len]; exact Nat.le_refl _)]
  | d + 1 => by
    rw [← Nat.add_assoc, wavesN, List.take_append_of_le_length (by rw [waves_len]; omega), wavesN_take d]
theorem front {l : List Tx} {n : Nat} (h : n ≤ l.length) : (waves l).take n = waves (l.take n) := by
  unfold waves ints
  rw [← List.map_take, show l.length = n + (l.length - n) by omega, wavesN_take, List.length_take, show min n l.length = n by omega, waves_take n (Nat.le_refl _)]
/-- The waves where all are alike. -/
theorem tx_rep (t : Tx) {n i : Nat} (h : i < n) : tx (List.replicate n t) i = t := by
  unfold tx rd_T38
  rw [Int.toNat_natCast, List.getD_eq_getElem?_getD, List.getElem?_replicate, if_pos h]; rfl
theorem wstep_no {t : Tx} {n : Nat} (hc : clashP t t = false) (ws : List Nat) {i : Nat} (hi : i < n) : ∀ k, k ≤ i → wstep (List.replicate n t) ws i k = 0
  | 0, _ => rfl
  | k + 1, hk => by rw [wstep, tx_rep t (by omega), tx_rep t hi, hc, if_neg (by decide), wstep_no hc ws hi k (by omega)]
theorem wstep_yes {t : Tx} {n : Nat} (hc : clashP t t = true) (ws : List Nat) {i : Nat} (hi : i < n) (hw : ∀ k, k < i → ws.getD k 0 = k) : ∀ k, k ≤ i → wstep (List.replicate n t) ws i k = k
  | 0, _ => rfl
  | k + 1, hk => by rw [wstep, tx_rep t (by omega), tx_rep t hi, hc, if_pos rfl, wstep_yes hc ws hi hw k (by omega), hw k (by omega)]; omega
theorem get_no {t : Tx} {n : Nat} (hc : clashP t t = false) {i : Nat} (hi : i < n) : (wavesN (List.replicate n t) n).getD i 0 = 0 := by
  rw [waves_get _ i n hi, wstep_no hc _ hi i (Nat.le_refl _)]
theorem get_yes {t : Tx} {n : Nat} (hc : clashP t t = true) : ∀ i, i < n → (wavesN (List.replicate n t) n).getD i 0 = i := by
  intro i
  induction i using Nat.strongRecOn with
  | ind i ih =>
    intro hi
    rw [waves_get _ i n hi]
    refine wstep_yes hc _ hi (fun k hk => ?_) i (Nat.le_refl _)
    have := ih k hk (by omega)
    rw [waves_get _ k n (by omega)] at this
    rw [waves_get _ k i hk]; exact this
def ka : ByteArray := ⟨#[97, 58, 97]⟩
def tw : Tx := ⟨0, (⟨#[]⟩ : ByteArray), (⟨#[]⟩ : ByteArray), 0, 0, (⟨#[]⟩ : ByteArray), (⟨#[]⟩ : ByteArray), [], [ka]⟩
def tr : Tx := ⟨0, (⟨#[]⟩ : ByteArray), (⟨#[]⟩ : ByteArray), 0, 0, (⟨#[]⟩ : ByteArray), (⟨#[]⟩ : ByteArray), [ka], []⟩
def tt (s : Bool) : Tx := if s = true then tw else tr
theorem clash_tt (s : Bool) : clashP (tt s) (tt s) = s := by cases s <;> decide
theorem small_tt (s : Bool) : Small (tt s) := by cases s <;> exact ⟨by decide, by decide⟩
theorem get_tt (s : Bool) {n i : Nat} (hi : i < n) : rd (waves (List.replicate n (tt s))) (i : Int) = if s = true then (i : Int) else 0 := by
  unfold waves
  rw [ints_rd, List.length_replicate]
  cases s
  · rw [get_no (clash_tt false) hi]; rfl
  · rw [get_yes (clash_tt true) i hi]; rfl
theorem l1_ev (s : Bool) (n : Nat) (hn : n ≤ 500) : ∀ (d i : Nat), i + d = n → Ev (fun k => tusklaw21_WavesFront.l1 k s (n : Int) (waves (List.replicate n (tt s))) (i : Int)) true := by
  intro d
  induction d with
  | zero =>
    intro i hi
    refine Ev.step (f := fun _ => some true) (fun k => ?_) (Ev.now true)
    rw [tusklaw21_WavesFront.l1, if_neg (by omega), waves_length, List.length_replicate]
    simp
  | succ d ih =>
    intro i hi
    refine Ev.step (fun k => ?_) (ih (i + 1) (by omega))
    have hl : i < (waves (List.replicate n (tt s))).length := by rw [waves_length, List.length_replicate]; omega
    have hg := get_tt s (n := n) (i := i) (by omega)
    rw [tusklaw21_WavesFront.l1, if_pos (by omega)]
    cases s
    · rw [if_neg (by decide), if_pos (by omega), if_pos (by omega), hg]
      simp only [Bool.false_eq_true, if_false, if_true]
      rw [w64 (by omega)]
    · rw [if_pos rfl, if_pos (by omega), if_pos (by omega), hg, if_pos rfl, if_pos rfl, w64 (by omega)]
theorem l0_ev (s : Bool) (n : Nat) (hn : n ≤ 500) : ∀ (d i : Nat), i + d = n → Ev (fun k => tusklaw21_WavesFront.l0 k s (n : Int) (List.replicate i (tt s)) (i : Int)) true := by
  intro d
  induction d with
  | zero =>
    intro i hi
    obtain rfl : i = n := by omega
    obtain ⟨K, hK⟩ := of_p (l := List.replicate i (tt s)) (fun x hx => by rw [List.eq_of_mem_replicate hx]; exact small_tt s) (by rw [List.length_replicate]; exact hn)
    refine Ev.step (f := fun k => (waves_Of.f k (List.replicate i (tt s))).bind fun t => tusklaw21_WavesFront.l1 k s (i : Int) t 0) (fun k => ?_) (Ev.bind (a := waves (List.replicate i (tt s))) ⟨K, hK⟩ (l1_ev s i hn i 0 (by omega)))
    rw [tusklaw21_WavesFront.l0, if_neg (by omega)]
  | succ d ih =>
    intro i hi
    refine Ev.step (fun k => ?_) (ih (i + 1) (by omega))
    rw [tusklaw21_WavesFront.l0, if_pos (by omega), List.replicate_succ' , w64 (by omega)]
    cases s
    · rw [if_neg (by decide), if_pos (by rw [List.length_replicate]; omega)]; rfl
    · rw [if_pos rfl, if_pos (by rw [List.length_replicate]; omega)]; rfl
theorem cut_at (a n : Int) (h0 : 0 ≤ n) (h1 : n ≤ 500) : ∃ k : Nat, wrap64 (Int.tmod (IntKind.u64.wrap a) (IntKind.u64.wrap (wrap64 (n + 1)))) = (k : Int) ∧ (k : Int) ≤ n ∧ ¬ IntKind.u64.wrap (wrap64 (n + 1)) = 0 := by
  have e : IntKind.u64.wrap (wrap64 (n + 1)) = n + 1 := by
    have : wrap64 (n + 1) = n + 1 := by unfold wrap64; omega
    rw [this, IntKind.wrap_u64]
    omega
  have hu : 0 ≤ IntKind.u64.wrap a := by rw [IntKind.wrap_u64]; omega
  rw [e, Int.tmod_eq_emod_of_nonneg hu]
  have h2 := Int.emod_nonneg (IntKind.u64.wrap a) (show n + 1 ≠ 0 by omega)
  have h3 := Int.emod_lt_of_pos (IntKind.u64.wrap a) (show 0 < n + 1 by omega)
  refine ⟨(IntKind.u64.wrap a % (n + 1)).toNat, ?_, by omega, by omega⟩
  unfold wrap64; omega
theorem pure : tusklaw21_WavesFront.PureU := by
  intro l a1 s _ _ hb
  obtain ⟨hs, hlen, k1, b, hg1, hg2⟩ := start21 (l := l) (by omega)
  cases b with
  | true =>
    refine ⟨k1, ?_⟩
    unfold tusklaw21_WavesFront.f tusklaw21_works.f
    rw [Option.bind_some, if_pos rfl, hg1, Option.bind_some, if_pos rfl]
  | false =>
    have hl := hg2 rfl
    obtain ⟨n, hn, hle, hz⟩ := cut_at a1 (l.length : Int) (by omega) (by omega)
    have hst : ∀ x, x ∈ l.take n → Small x := fun x hx => hs x (List.mem_of_mem_take hx)
    have hlt : (l.take n).length = n := by rw [List.length_take]; omega
    refine Ev.rounds ?_
    refine Ev.congr (f := fun k => (tusklaw20_Great.f k l).bind fun t102 => if t102 = true then some true else (tusklaw20_Own.f k l).bind fun t103 => (waves_Of.f k t103).bind fun t106 => (tusklaw20_Own.f k (l.take n)).bind fun t113 => (waves_Of.f k t113).bind fun t116 => if (t106.length : Int) = (l.length : Int) then (if (n : Int) ≤ (t106.length : Int) then (tuskref21_Same.f k [t106.take n] [t116]).bind fun t130 => tusklaw21_WavesFront.j0 k s (n : Int) (!t130) else none) else tusklaw21_WavesFront.j0 k s (n : Int) true) (fun k => ?_) ?_
    · unfold tusklaw21_WavesFront.f tusklaw21_works.f
      rw [Option.bind_some, if_pos rfl, hn]
      simp only [if_neg hz, if_pos hle, if_pos (show (0 : Int) ≤ (n : Int) by omega), Int.toNat_natCast]
    · refine Ev.bind (Ev.of (tusklaw20_Great.mono l) hg1) ?_
      simp only [Bool.false_eq_true, if_false]
      refine Ev.bind (Ev.of (tusklaw20_Own.mono l) (own_f l hs hlen)) ?_
      refine Ev.bind (of_p hs hl) ?_
      refine Ev.bind (Ev.of (tusklaw20_Own.mono _) (own_f (l.take n) hst (by omega))) ?_
      refine Ev.bind (of_p hst (by omega)) ?_
      simp only [waves_length, if_true, if_pos hle, front (show n ≤ l.length by omega)]
      refine Ev.bind (a := true) (same_f [waves (l.take n)] (by simp) (fun r hr => by simp at hr; subst hr; rw [waves_length]; omega)) ?_
      refine Ev.step (f := fun k => tusklaw21_WavesFront.l0 k s (n : Int) [] 0) (fun k => ?_) (l0_ev s n (by omega) n 0 (by omega))
      rw [tusklaw21_WavesFront.j0]; rfl
end Go.Proofs.Ytkfhajdkpbpkdaa.PureWavesFront
namespace Go.Proofs.Ytkfhajdkpbpkdaa
theorem Pure.WavesFront : QWavesFront.tusklaw21_WavesFront.PureU := PureWavesFront.pure
end Go.Proofs.Ytkfhajdkpbpkdaa
