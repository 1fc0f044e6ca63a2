/- tuskref21.Check answers what waves.Check answers. -/
import Derived.Test.YtkfhajdkpbpkdaaCheck21
import Derived.Test.YtkfhajdkpbpkdaaPlain21
namespace Go.Proofs.Ytkfhajdkpbpkdaa.CheckR21
open Go.RowKit Go.Proofs.YtkfhajdkpbpkdaaW.PrintWords Go.Proofs.YtkfhajdkpbpkdaaW.PrintMore Go.Proofs.Ytkfhajdkpbpkdaa.QKinds Go.Proofs.Ytkfhajdkpbpkdaa.QBase21 Go.Proofs.Ytkfhajdkpbpkdaa.Edges21 Go.Proofs.Ytkfhajdkpbpkdaa.Contracts21 Go.Proofs.Ytkfhajdkpbpkdaa.CheckP Go.Proofs.Ytkfhajdkpbpkdaa.Check21 Go.Proofs.Ytkfhajdkpbpkdaa.Plain21
set_option linter.unusedVariables false
set_option linter.unusedSimpArgs false
set_option linter.unusedSectionVars false
def Ev {α : Type} (f : Nat → Option α) (r : α) : Prop := ∃ K, ∀ k, K ≤ k → f k = some r
theorem Ev.step {α : Type} {f g : Nat → Option α} {r : α} (hg : Ev g r) (h : ∀ k, f (k + 1) = g k) : Ev f r := by
  obtain ⟨K, hK⟩ := hg
  refine ⟨K + 1, fun k hk => ?_⟩
  obtain ⟨m, rfl⟩ : ∃ m, k = m + 1 := ⟨k - 1, by omega⟩
  rw [h]; exact hK m (by omega)
theorem Ev.const {α : Type} (r : α) : Ev (fun _ => some r) r := ⟨0, fun _ _ => rfl⟩
theorem full_of (n : Nat) : ∀ L : List Int, L.Nodup → (∀ x, x ∈ L → 0 ≤ x ∧ x < (n : Int)) → L.length ≤ n ∧ (n ≤ L.length → ∀ x : Int, 0 ≤ x → x < (n : Int) → x ∈ L) := by
  induction n with
  | zero =>
    intro L _ h
    cases L with
    | nil => exact ⟨Nat.le_refl _, fun _ x a b => by omega⟩
    | cons y ys => have := h y (by simp); omega
  | succ n ih =>
    intro L hn h
    by_cases hm : (n : Int) ∈ L
    · have h1 := ih (L.erase (n : Int)) (hn.erase _) (fun x hx => by
        have := hn.mem_erase_iff.1 hx
        have h2 := h x this.2
        have h3 := this.1
        omega)
      have h2 := List.length_erase_of_mem hm
      have h3 : 0 < L.length := List.length_pos_of_mem hm
      refine ⟨by omega, fun hle x a b => ?_⟩
      by_cases e : x = (n : Int)
      · rw [e]; exact hm
      · exact List.mem_of_mem_erase (h1.2 (by omega) x a (by omega))
    · have h1 := ih L hn (fun x hx => by
        have h2 := h x hx
        have h3 : x ≠ (n : Int) := fun e => hm (e ▸ hx)
        omega)
      exact ⟨by omega, fun hle => by omega⟩
theorem few_of (n : Nat) : ∀ L : List Int, (∀ x : Int, 0 ≤ x → x < (n : Int) → x ∈ L) → n ≤ L.length := by
  induction n with
  | zero => intro L _; exact Nat.zero_le _
  | succ n ih =>
    intro L h
    have hm := h (n : Int) (by omega) (by omega)
    have h1 := ih (L.erase (n : Int)) (fun x a b => (List.mem_erase_of_ne (by omega)).2 (h x a (by omega)))
    have h2 := List.length_erase_of_mem hm
    have h3 : 0 < L.length := List.length_pos_of_mem hm
    omega
def atL (n : Nat) (ps : List (Int × Int)) : List Int := (List.range n).map fun (x : Nat) => va ps (x : Int)
theorem atL_len (n : Nat) (ps : List (Int × Int)) : (atL n ps).length = n := by simp [atL]
theorem rd_atL {n : Nat} {ps : List (Int × Int)} {x : Int} (h0 : 0 ≤ x) (h1 : x < (n : Int)) : rd (atL n ps) x = va ps x := by
  obtain ⟨m, rfl⟩ := Int.eq_ofNat_of_zero_le h0
  unfold rd atL
  rw [List.getD_eq_getElem?_getD, List.getElem?_map, List.getElem?_range (by simp at h1 ⊢; omega)]
  rfl
theorem atL_set {n : Nat} {ps : List (Int × Int)} {x w : Int} (h0 : 0 ≤ x) (h1 : x < (n : Int)) : (atL n ps).set x.toNat (w + 1) = atL n (ps ++ [(x, w)]) := by
  apply List.ext_getElem
  · simp [atL]
  · intro m a b
    simp only [List.getElem_set, atL, List.getElem_map, List.getElem_range, va_snoc]
    by_cases e : x = (m : Int)
    · rw [if_pos (by omega), if_pos e]
    · rw [if_neg (by omega), if_neg e]
theorem atL_nil (n : Nat) : atL n [] = List.replicate n 0 := by
  apply List.ext_getElem
  · simp [atL]
  · intro m a b; simp [atL, va]
theorem T50_at (R : List (Int × Int)) (k : Nat) (h : k < R.length) : rd_T50 (R.map asE) (k : Int) = asE R[k] := by
  unfold rd_T50
  rw [Int.toNat_natCast, List.getD_eq_getElem?_getD, List.getElem?_map, List.getElem?_eq_getElem h]; rfl
def eqv (ps : List (Int × Int)) (p : Int × Int) : Bool := decide (va ps p.1 = va ps p.2)
def gtv (ps : List (Int × Int)) (p : Int × Int) : Bool := decide (va ps p.2 < va ps p.1)
theorem l4_ev (n : Nat) (ps R : List (Int × Int)) (hR : ∀ p, p ∈ R → 0 ≤ p.1 ∧ p.1 < (n : Int) ∧ 0 ≤ p.2 ∧ p.2 < (n : Int)) (hl : R.length ≤ 1000000) : ∀ (d i : Nat), i + d = R.length →
    Ev (fun k => tuskref21_Check.l4 k (atL n ps) (R.map asE) (i : Int)) (if (R.drop i).any (gtv ps) then 9 else 0) := by
  intro d
  induction d with
  | zero =>
    intro i hi
    refine (Ev.const _).step fun k => ?_
    rw [tuskref21_Check.l4, if_neg (by rw [List.length_map]; omega), List.drop_eq_nil_of_le (by omega)]; rfl
  | succ d ih =>
    intro i hi
    have hlt : i < R.length := by omega
    have hp := hR _ (List.getElem_mem hlt)
    have e : R.drop i = R[i] :: R.drop (i + 1) := List.drop_eq_getElem_cons hlt
    rw [e, List.any_cons]
    have un : ∀ k, tuskref21_Check.l4 (k + 1) (atL n ps) (R.map asE) (i : Int) = if va ps R[i].1 > va ps R[i].2 then some 9 else tuskref21_Check.l4 k (atL n ps) (R.map asE) ((i + 1 : Nat) : Int) := fun k => by
      rw [tuskref21_Check.l4, T50_at R i hlt, if_pos (by rw [List.length_map]; omega), if_pos (by omega), if_pos (show 0 ≤ (asE R[i]).f0 from hp.1), if_pos (show (asE R[i]).f0 < ((atL n ps).length : Int) from by rw [atL_len]; exact hp.2.1), if_pos (show 0 ≤ (asE R[i]).f1 from hp.2.2.1), if_pos (show (asE R[i]).f1 < ((atL n ps).length : Int) from by rw [atL_len]; exact hp.2.2.2), w64 (by omega), show rd (atL n ps) (asE R[i]).f0 = va ps R[i].1 from rd_atL hp.1 hp.2.1, show rd (atL n ps) (asE R[i]).f1 = va ps R[i].2 from rd_atL hp.2.2.1 hp.2.2.2]
    by_cases hc : va ps R[i].1 > va ps R[i].2
    · have : gtv ps R[i] = true := decide_eq_true hc
      rw [this]
      refine (Ev.const _).step fun k => ?_
      rw [un, if_pos hc]; rfl
    · have : gtv ps R[i] = false := decide_eq_false hc
      rw [this, Bool.false_or]
      refine (ih (i + 1) (by omega)).step fun k => ?_
      rw [un, if_neg hc]
def edv (ps R : List (Int × Int)) : Int := if R.any (eqv ps) then 15 else if R.any (gtv ps) then 9 else 0
theorem l3_ev (n : Nat) (ps R : List (Int × Int)) (hR : ∀ p, p ∈ R → 0 ≤ p.1 ∧ p.1 < (n : Int) ∧ 0 ≤ p.2 ∧ p.2 < (n : Int)) (hl : R.length ≤ 1000000) : ∀ (d i : Nat), i + d = R.length →
    Ev (fun k => tuskref21_Check.l3 k (atL n ps) (R.map asE) (i : Int)) (if (R.drop i).any (eqv ps) then 15 else if R.any (gtv ps) then 9 else 0) := by
  intro d
  induction d with
  | zero =>
    intro i hi
    have h4 := l4_ev n ps R hR hl R.length 0 (by omega)
    rw [List.drop_zero] at h4
    rw [List.drop_eq_nil_of_le (show R.length ≤ i by omega)]
    refine Ev.step h4 fun k => ?_
    rw [tuskref21_Check.l3, if_neg (by rw [List.length_map]; omega)]; rfl
  | succ d ih =>
    intro i hi
    have hlt : i < R.length := by omega
    have hp := hR _ (List.getElem_mem hlt)
    have e : R.drop i = R[i] :: R.drop (i + 1) := List.drop_eq_getElem_cons hlt
    rw [e, List.any_cons]
    have un : ∀ k, tuskref21_Check.l3 (k + 1) (atL n ps) (R.map asE) (i : Int) = if va ps R[i].1 = va ps R[i].2 then some 15 else tuskref21_Check.l3 k (atL n ps) (R.map asE) ((i + 1 : Nat) : Int) := fun k => by
      rw [tuskref21_Check.l3, T50_at R i hlt, if_pos (by rw [List.length_map]; omega), if_pos (by omega), if_pos (show 0 ≤ (asE R[i]).f0 from hp.1), if_pos (show (asE R[i]).f0 < ((atL n ps).length : Int) from by rw [atL_len]; exact hp.2.1), if_pos (show 0 ≤ (asE R[i]).f1 from hp.2.2.1), if_pos (show (asE R[i]).f1 < ((atL n ps).length : Int) from by rw [atL_len]; exact hp.2.2.2), w64 (by omega), show rd (atL n ps) (asE R[i]).f0 = va ps R[i].1 from rd_atL hp.1 hp.2.1, show rd (atL n ps) (asE R[i]).f1 = va ps R[i].2 from rd_atL hp.2.2.1 hp.2.2.2]
    by_cases hc : va ps R[i].1 = va ps R[i].2
    · have : eqv ps R[i] = true := decide_eq_true hc
      rw [this]
      refine (Ev.const _).step fun k => ?_
      rw [un, if_pos hc]; rfl
    · have : eqv ps R[i] = false := decide_eq_false hc
      rw [this, Bool.false_or]
      refine (ih (i + 1) (by omega)).step fun k => ?_
      rw [un, if_neg hc]
theorem any_same {f g : Int × Int → Bool} : ∀ (R : List (Int × Int)), (∀ p, p ∈ R → f p = g p) → R.any f = R.any g
  | [], _ => rfl
  | p :: R, h => by rw [List.any_cons, List.any_cons, h p (by simp), any_same R fun q hq => h q (by simp [hq])]
theorem pl_wave (P : List (List Int)) : ∀ (w : Nat) (p : Int × Int), p ∈ pl P w → 0 ≤ p.2
  | 0, p, h => by simp [pl] at h
  | w + 1, p, h => by
    simp only [pl] at h
    rcases List.mem_append.1 h with h | h
    · exact pl_wave P w p h
    · obtain ⟨x, _, rfl⟩ := List.mem_map.1 h; exact Int.natCast_nonneg _
theorem pairs_wave (P : List (List Int)) (w i : Nat) (p : Int × Int) (h : p ∈ pairs P w i) : 0 ≤ p.2 := by
  rcases List.mem_append.1 h with h | h
  · exact pl_wave P w p h
  · obtain ⟨x, _, rfl⟩ := List.mem_map.1 h; exact Int.natCast_nonneg _
section
variable {l : List S38} (hs : ∀ x, x ∈ l → Small x) (hl : l.length ≤ 500)
theorem rows_small (l : List S38) (hl : l.length ≤ 500) : (rows l l.length).length ≤ 1000000 := by
  have h1 := rows_len l l.length
  have h3 : l.length * l.length ≤ 500 * 500 := Nat.mul_le_mul hl hl
  omega
include hs hl
theorem l2_end (ps : List (Int × Int)) : Ev (fun k => tuskref21_Check.l2 k l (atL l.length ps) (l.length : Int)) (edv ps (rows l l.length)) := by
  obtain ⟨K, hK⟩ := l3_ev l.length ps (rows l l.length) (rows_in l l.length) (rows_small l hl) (rows l l.length).length 0 (by omega)
  refine Ev.step (g := fun k => (tuskref20_Edges.f k l).bind fun t => tuskref21_Check.l3 k (atL l.length ps) t 0) ⟨max K 5000000, fun k hk => ?_⟩ fun k => ?_
  · show (tuskref20_Edges.f k l).bind _ = _
    rw [edges_r l hs hl k (by omega), Option.bind_some]
    have h := hK k (by omega)
    rw [List.drop_zero] at h
    exact h
  · rw [tuskref21_Check.l2, if_neg (by omega)]
theorem l2_un (ps : List (Int × Int)) (i : Nat) (hi : i < l.length) (k : Nat) : tuskref21_Check.l2 (k + 1) l (atL l.length ps) (i : Int) = if va ps (i : Int) = 0 then some 12 else tuskref21_Check.l2 k l (atL l.length ps) ((i + 1 : Nat) : Int) := by
  rw [tuskref21_Check.l2, if_pos (by omega), if_pos (by omega), if_pos (by rw [atL_len]; omega), rd_atL (by omega) (by omega), w64 (by omega)]
theorem l2_ok (ps : List (Int × Int)) (h : ∀ x : Int, 0 ≤ x → x < (l.length : Int) → va ps x ≠ 0) : ∀ (d i : Nat), i + d = l.length → Ev (fun k => tuskref21_Check.l2 k l (atL l.length ps) (i : Int)) (edv ps (rows l l.length)) := by
  intro d
  induction d with
  | zero => intro i hi; rw [show i = l.length by omega]; exact l2_end hs hl ps
  | succ d ih =>
    intro i hi
    refine (ih (i + 1) (by omega)).step fun k => ?_
    rw [l2_un hs hl ps i (by omega), if_neg (h _ (by omega) (by omega))]
theorem l2_few (ps : List (Int × Int)) (x : Nat) (hx : x < l.length) (h : va ps (x : Int) = 0) : ∀ (d i : Nat), i + d = x → Ev (fun k => tuskref21_Check.l2 k l (atL l.length ps) (i : Int)) 12 := by
  intro d
  induction d with
  | zero =>
    intro i hi
    refine (Ev.const _).step fun k => ?_
    rw [l2_un hs hl ps i (by omega), show i = x by omega, if_pos h]
  | succ d ih =>
    intro i hi
    by_cases hc : va ps (i : Int) = 0
    · refine (Ev.const _).step fun k => ?_
      rw [l2_un hs hl ps i (by omega), if_pos hc]
    · refine (ih (i + 1) (by omega)).step fun k => ?_
      rw [l2_un hs hl ps i (by omega), if_neg hc]
theorem l1_un (P : List (List Int)) (hP : P.length ≤ 1048576) (n : Nat) (hn : n = l.length) (w i : Nat) (hw : w < P.length) (hi : i < (P.getD w []).length) (x : Int) (hx : x = (P.getD w []).getD i 0) (hrl : (P.getD w []).length ≤ 1048576) :
    (bad n (pairs P w i) x = 0 → ∀ r, Ev (fun k => tuskref21_Check.l1 k l P (atL n (pairs P w (i + 1))) (w : Int) ((i + 1 : Nat) : Int)) r → Ev (fun k => tuskref21_Check.l1 k l P (atL n (pairs P w i)) (w : Int) (i : Int)) r) ∧
    (bad n (pairs P w i) x ≠ 0 → Ev (fun k => tuskref21_Check.l1 k l P (atL n (pairs P w i)) (w : Int) (i : Int)) (bad n (pairs P w i) x)) := by
  subst hn
  have hrow : rd_L6 P (w : Int) = P.getD w [] := by unfold rd_L6; rw [Int.toNat_natCast]
  have hxx : rd (P.getD w []) (i : Int) = x := by rw [hx]; unfold rd; rw [Int.toNat_natCast]
  have un : ∀ k, tuskref21_Check.l1 (k + 1) l P (atL l.length (pairs P w i)) (w : Int) (i : Int) = if x < 0 then tuskref21_Check.j2 k l P (atL l.length (pairs P w i)) (w : Int) (i : Int) x true else tuskref21_Check.j2 k l P (atL l.length (pairs P w i)) (w : Int) (i : Int) x (decide (x ≥ (l.length : Int))) := fun k => by
    rw [tuskref21_Check.l1, hrow, hxx, if_pos (by omega), if_pos (by omega), if_pos (by omega), if_pos (by omega)]
  have jt : ∀ k, tuskref21_Check.j2 (k + 1) l P (atL l.length (pairs P w i)) (w : Int) (i : Int) x true = some 2 := fun k => by rw [tuskref21_Check.j2, if_pos rfl]
  have hwave : ∀ p, p ∈ pairs P w i → 0 ≤ p.2 := pairs_wave P w i
  have hv := va_pos x (pairs P w i) hwave
  by_cases h1 : x < 0
  · have hb : bad l.length (pairs P w i) x = 2 := by rw [bad, if_pos (.inl h1)]
    refine ⟨fun h => by rw [hb] at h; exact absurd h (by decide), fun _ => ?_⟩
    rw [hb]
    refine Ev.step (Ev.step (f := fun k => tuskref21_Check.j2 k l P (atL l.length (pairs P w i)) (w : Int) (i : Int) x true) (Ev.const (2 : Int)) jt) fun k => ?_
    rw [un, if_pos h1]
  · by_cases h2 : (l.length : Int) ≤ x
    · have hb : bad l.length (pairs P w i) x = 2 := by rw [bad, if_pos (.inr h2)]
      refine ⟨fun h => by rw [hb] at h; exact absurd h (by decide), fun _ => ?_⟩
      rw [hb]
      refine Ev.step (Ev.step (f := fun k => tuskref21_Check.j2 k l P (atL l.length (pairs P w i)) (w : Int) (i : Int) x true) (Ev.const (2 : Int)) jt) fun k => ?_
      rw [un, if_neg h1, decide_eq_true (show x ≥ (l.length : Int) from h2)]
    · have jf : ∀ k, tuskref21_Check.j2 (k + 1) l P (atL l.length (pairs P w i)) (w : Int) (i : Int) x false = if va (pairs P w i) x > 0 then some 13 else tuskref21_Check.l1 k l P (atL l.length (pairs P w (i + 1))) (w : Int) ((i + 1 : Nat) : Int) := fun k => by
        rw [tuskref21_Check.j2, if_neg (by decide), if_pos (by omega), if_pos (by rw [atL_len]; omega), rd_atL (by omega) (by omega), w64 (show w ≤ 4611686018427387903 by omega), w64 (show i ≤ 4611686018427387903 by omega)]
        have hset := atL_set (n := l.length) (ps := pairs P w i) (x := x) (w := (w : Int)) (by omega) (by omega)
        rw [show (((w + 1 : Nat) : Int)) = (w : Int) + 1 by omega, hset, hx, ← pairs_succ P w i hi]
      have un2 : ∀ k, tuskref21_Check.l1 (k + 1) l P (atL l.length (pairs P w i)) (w : Int) (i : Int) = tuskref21_Check.j2 k l P (atL l.length (pairs P w i)) (w : Int) (i : Int) x false := fun k => by
        rw [un, if_neg h1, decide_eq_false (show ¬ x ≥ (l.length : Int) from h2)]
      have hb : bad l.length (pairs P w i) x = if (pairs P w i).any (fun p => decide (p.1 = x)) then 13 else 0 := by rw [bad, if_neg (by omega)]
      by_cases h3 : (pairs P w i).any (fun p => decide (p.1 = x)) = true
      · rw [hb, if_pos h3]
        refine ⟨fun h => absurd h (by decide), fun _ => ?_⟩
        refine Ev.step (Ev.step (Ev.const (13 : Int)) fun k => ?_) un2
        rw [jf, if_pos (hv.2.1.2 h3)]
      · rw [hb, if_neg h3]
        refine ⟨fun _ r hr => ?_, fun h => absurd rfl h⟩
        refine Ev.step (Ev.step hr fun k => ?_) un2
        rw [jf, if_neg (fun h => h3 (hv.2.1.1 h))]
theorem l1_end (P : List (List Int)) (hP : P.length ≤ 1048576) (w : Nat) (hw : w < P.length) (r : Int) (h : Ev (fun k => tuskref21_Check.l0 k l P (atL l.length (pl P (w + 1))) ((w + 1 : Nat) : Int)) r) :
    Ev (fun k => tuskref21_Check.l1 k l P (atL l.length (pairs P w (P.getD w []).length)) (w : Int) (((P.getD w []).length : Nat) : Int)) r := by
  refine Ev.step h fun k => ?_
  have hrow : rd_L6 P (w : Int) = P.getD w [] := by unfold rd_L6; rw [Int.toNat_natCast]
  rw [tuskref21_Check.l1, hrow, if_pos (by omega), if_pos (by omega), if_neg (by omega), w64 (by omega), pairs_full P w (Nat.le_refl _)]
theorem l0_in (P : List (List Int)) (w : Nat) (hw : w < P.length) (r : Int) (h : Ev (fun k => tuskref21_Check.l1 k l P (atL l.length (pairs P w 0)) (w : Int) ((0 : Nat) : Int)) r) :
    Ev (fun k => tuskref21_Check.l0 k l P (atL l.length (pl P w)) (w : Int)) r := by
  refine Ev.step h fun k => ?_
  rw [tuskref21_Check.l0, if_pos (by omega), pairs_zero]; rfl
/-- From place (w, i) back to the wave's begin. -/
theorem back1 (P : List (List Int)) (hP : P.length ≤ 1048576) (w : Nat) (hw : w < P.length) (hrl : (P.getD w []).length ≤ 1048576) (r : Int) : ∀ (i : Nat), i ≤ (P.getD w []).length → (∀ i', i' < i → bad l.length (pairs P w i') ((P.getD w []).getD i' 0) = 0) →
    Ev (fun k => tuskref21_Check.l1 k l P (atL l.length (pairs P w i)) (w : Int) (i : Int)) r → Ev (fun k => tuskref21_Check.l0 k l P (atL l.length (pl P w)) (w : Int)) r
  | 0, _, _, h => l0_in hs hl P w hw r h
  | i + 1, hi, hg, h => back1 P hP w hw hrl r i (by omega) (fun i' h' => hg i' (by omega)) ((l1_un hs hl P hP _ rfl w i hw (by omega) _ rfl hrl).1 (hg i (by omega)) r h)
/-- From a wave's begin back to the plan's. -/
theorem back0 (P : List (List Int)) (hP : P.length ≤ 1048576) (hrl : ∀ w, (P.getD w []).length ≤ 1048576) (r : Int) : ∀ (w : Nat), w ≤ P.length → (∀ w' i', w' < w → i' < (P.getD w' []).length → bad l.length (pairs P w' i') ((P.getD w' []).getD i' 0) = 0) →
    Ev (fun k => tuskref21_Check.l0 k l P (atL l.length (pl P w)) (w : Int)) r → Ev (fun k => tuskref21_Check.l0 k l P (atL l.length (pl P 0)) 0) r
  | 0, _, _, h => h
  | w + 1, hw, hg, h => back0 P hP hrl r w (by omega) (fun w' i' a b => hg w' i' (by omega) b) (back1 hs hl P hP w (by omega) (hrl w) r _ (Nat.le_refl _) (fun i' a => hg w i' (by omega) a) (l1_end hs hl P hP w (by omega) r h))
theorem check_r (P : List (List Int)) (hP : P.length ≤ 1048576) (hrl : ∀ w, (P.getD w []).length ≤ 1048576) (r : Int) (h : Res l.length (rows l l.length) P r) : ∃ K, ∀ k, K ≤ k → tuskref21_Check.f k l P = some r := by
  have fin : Ev (fun k => tuskref21_Check.l0 k l P (atL l.length (pl P 0)) 0) r → ∃ K, ∀ k, K ≤ k → tuskref21_Check.f k l P = some r := fun ⟨K, hK⟩ => ⟨K, fun k hk => by
    rw [tuskref21_Check.f, if_pos (by omega), if_pos (by omega)]
    have := hK k hk
    rw [show pl P 0 = [] from rfl, atL_nil] at this
    exact this⟩
  have fin2 : Ok l.length P P.length 0 → Ev (fun k => tuskref21_Check.l2 k l (atL l.length (pl P P.length)) 0) r → ∃ K, ∀ k, K ≤ k → tuskref21_Check.f k l P = some r := fun ho he => by
    refine fin (back0 hs hl P hP hrl r P.length (Nat.le_refl _) (fun w' i' a b => ho.earlier w' i' (.inl ⟨a, b⟩)) ?_)
    refine Ev.step he fun k => ?_
    rw [tuskref21_Check.l0, if_neg (by omega)]
  have memv : ∀ x : Int, 0 < va (pl P P.length) x ↔ x ∈ (pl P P.length).map Prod.fst := fun x => by
    have hv := va_pos x (pl P P.length) (fun p hp => pairs_wave P P.length 0 p (by rw [pairs_zero]; exact hp))
    rw [hv.2.1]
    simp [List.any_eq_true]
  rcases h with ⟨h0, hlook⟩ | ⟨ho, hfew, rfl⟩ | ⟨ho, hall, rfl⟩
  · rcases hlook with ⟨e, _⟩ | ⟨w, i, hne, hw, hi, ho, hb⟩
    · exact absurd e h0
    · refine fin (back0 hs hl P hP hrl r w (by omega) (fun w' i' a b => ho.earlier w' i' (.inl ⟨a, b⟩)) ?_)
      refine back1 hs hl P hP w hw (hrl w) r i (by omega) (fun i' a => ho.earlier w i' (.inr ⟨rfl, a⟩)) ?_
      have := (l1_un hs hl P hP _ rfl w i hw hi _ rfl (hrl w)).2 (by rw [hb]; exact hne)
      rw [hb] at this
      exact this
  · refine fin2 ho ?_
    obtain ⟨x, a, b, c⟩ : ∃ x : Int, 0 ≤ x ∧ x < (l.length : Int) ∧ x ∉ (pl P P.length).map Prod.fst := by
      apply Classical.byContradiction
      intro hc
      have := few_of l.length ((pl P P.length).map Prod.fst) (fun x a b => Classical.byContradiction fun h => hc ⟨x, a, b, h⟩)
      rw [List.length_map] at this; omega
    obtain ⟨m, rfl⟩ := Int.eq_ofNat_of_zero_le a
    have hz : va (pl P P.length) (m : Int) = 0 := by
      have h1 := (va_pos (m : Int) (pl P P.length) (fun p hp => pairs_wave P P.length 0 p (by rw [pairs_zero]; exact hp))).1
      have h2 : ¬ 0 < va (pl P P.length) (m : Int) := fun h => c ((memv _).1 h)
      omega
    exact l2_few hs hl (pl P P.length) m (by omega) hz m 0 (by omega)
  · refine fin2 ho ?_
    have hfull : ∀ x : Int, 0 ≤ x → x < (l.length : Int) → 0 < va (pl P P.length) x := fun x a b => by
      have hn := ho.nodup
      have hr := ho.range
      rw [pairs_zero] at hn hr
      have := (full_of l.length ((pl P P.length).map Prod.fst) hn (fun y hy => by
        obtain ⟨p, hp, rfl⟩ := List.mem_map.1 hy
        exact hr p hp)).2 (by rw [List.length_map]; exact hall) x a b
      exact (memv x).2 this
    have hvl : ∀ x : Int, 0 ≤ x → x < (l.length : Int) → vl (pl P P.length) x = va (pl P P.length) x - 1 := fun x a b =>
      (va_pos x (pl P P.length) (fun p hp => pairs_wave P P.length 0 p (by rw [pairs_zero]; exact hp))).2.2 (hfull x a b)
    have hed : ed (pl P P.length) (rows l l.length) = edv (pl P P.length) (rows l l.length) := by
      have hm := rows_in l l.length
      unfold ed edv
      rw [any_same (f := fun p => decide (vl (pl P P.length) p.1 = vl (pl P P.length) p.2)) (g := eqv (pl P P.length)) _ (fun p hp => by
        have h := hm p hp
        unfold eqv
        rw [hvl p.1 h.1 h.2.1, hvl p.2 h.2.2.1 h.2.2.2]
        by_cases e : va (pl P P.length) p.1 = va (pl P P.length) p.2
        · rw [e]; simp
        · rw [decide_eq_false e, decide_eq_false (by omega)]), any_same (f := fun p => decide (vl (pl P P.length) p.2 < vl (pl P P.length) p.1)) (g := gtv (pl P P.length)) _ (fun p hp => by
        have h := hm p hp
        unfold gtv
        rw [hvl p.1 h.1 h.2.1, hvl p.2 h.2.2.1 h.2.2.2]
        by_cases e : va (pl P P.length) p.2 < va (pl P P.length) p.1
        · rw [decide_eq_true e, decide_eq_true (by omega)]
        · rw [decide_eq_false e, decide_eq_false (by omega)])]
    rw [hed]
    exact l2_ok hs hl (pl P P.length) (fun x a b => by have := hfull x a b; omega) l.length 0 (by omega)
end
end Go.Proofs.Ytkfhajdkpbpkdaa.CheckR21
