/- A region of a large frame whose operations are each fixed by those that they wait for, the last of them the one store: whatever the order, one end. The frame is a variable. -/
import Derived.Test.YtflnlkaednpenaaDoorMixR
import Derived.Orders
namespace Go.Proofs.YtflnlkaednpenaaDoor.MixI
open Go.RowKit Go.Proofs.YtflnlkaednpenaaDoor.State
set_option linter.unusedVariables false
set_option linter.unusedSimpArgs false
/-- What is known of the frame between the regions. -/
structure Fr (N : Nat) (p0 p1 p2 : Value) (a : Act) : Prop where
  size : a.tmps.size = N
  defers : a.defers = []
  s0 : a.tmps.getD 0 undef = p0
  s1 : a.tmps.getD 1 undef = p1
  s2 : a.tmps.getD 2 undef = p2
theorem getD_set_ne (xs : Array Value) (i j : Nat) (v : Value) (h : i ≠ j) : (xs.setIfInBounds i v).getD j undef = xs.getD j undef := by
  simp [Array.getD_eq_getD_getElem?, Array.getElem?_setIfInBounds_ne h]
theorem getD_set_eq (xs : Array Value) (i : Nat) (v : Value) (h : i < xs.size) : (xs.setIfInBounds i v).getD i undef = v := by
  simp [Array.getD_eq_getD_getElem?, h]
theorem Fr.put {N : Nat} {p0 p1 p2 : Value} {a : Act} (h : Fr N p0 p1 p2 a) (d : Nat) (hd : 3 ≤ d) (v : Value) : Fr N p0 p1 p2 (a.put (some d) v) :=
  ⟨by simp [Act.put, h.size], h.defers, by rw [← h.s0]; exact getD_set_ne _ _ _ _ (by omega), by rw [← h.s1]; exact getD_set_ne _ _ _ _ (by omega), by rw [← h.s2]; exact getD_set_ne _ _ _ _ (by omega)⟩
theorem count_set : ∀ (l : List Bool) (i : Nat), l[i]? = some false → (l.set i true).count false + 1 = l.count false
  | [], i, h => by simp at h
  | x :: l, 0, h => by
    simp at h; subst h; simp
  | x :: l, i + 1, h => by
    have ih := count_set l i (by simpa using h)
    simp only [List.set_cons_succ, List.count_cons]
    omega
def lst (listed : Array Bool) (i : Nat) : Prop := listed[i]? = some true
theorem lst_set {listed : Array Bool} {i j : Nat} (h : lst (listed.setIfInBounds i true) j) : j = i ∨ lst listed j := by
  unfold lst at *
  by_cases e : i = j
  · exact .inl e.symm
  · rw [Array.getElem?_setIfInBounds_ne e] at h; exact .inr h
theorem lst_mono {listed : Array Bool} {i j : Nat} (h : lst listed j) : lst (listed.setIfInBounds i true) j := by
  unfold lst at *
  by_cases e : i = j
  · subst e
    have := (Array.getElem?_eq_some_iff.1 h).1
    simp [this]
  · rw [Array.getElem?_setIfInBounds_ne e]; exact h
theorem lst_self {listed : Array Bool} {i : Nat} (h : i < listed.size) : lst (listed.setIfInBounds i true) i := by
  unfold lst; simp [h]
section
variable {P : Program} {ops : Array Oper} {Q : Exit → Act → World → Prop} {w0 W2 : World} {n b N : Nat} {p0 p1 p2 : Value} {V : Nat → Value}
structure Inv (ops : Array Oper) (w0 W2 : World) (n b N : Nat) (p0 p1 p2 : Value) (V : Nat → Value) (listed : Array Bool) (a : Act) (w : World) : Prop where
  size : listed.size = n + 1
  fr : Fr N p0 p1 p2 a
  closed : ∀ i o, ops[i]? = some o → lst listed i → ∀ e ∈ o.after.toList, lst listed e.on
  vals : ∀ i, i < n → lst listed i → a.tmps.getD (b + i) undef = V i
  world : (¬ lst listed n ∧ w = w0.drew) ∨ ((∀ i, i ≤ n → lst listed i) ∧ w = W2)
theorem ready_mem {listed : Array Bool} {i : Nat} (h : i ∈ Region.ready .any ops listed) :
    ∃ o, ops[i]? = some o ∧ ¬ lst listed i ∧ ∀ e ∈ o.after.toList, Region.binds .any e = true → lst listed e.on := by
  simp only [Region.ready, List.mem_filter, List.mem_range, Bool.and_eq_true, Bool.not_eq_true'] at h
  obtain ⟨hi, h1, h2⟩ := h
  have ho : ops[i]? = some ops[i] := by simp [hi]
  refine ⟨ops[i], ho, ?_, ?_⟩
  · unfold lst
    intro hl
    simp [Array.getD_eq_getD_getElem?, hl] at h1
  · intro e he hb
    rw [ho] at h2
    simp only [Option.map_some, Option.getD_some] at h2
    have h3 := Array.all_eq_true_iff_forall_mem.1 h2 e (by simpa using he)
    rw [hb] at h3
    unfold lst
    simp only [Bool.not_true, Bool.false_or, Array.getD_eq_getD_getElem?] at h3
    cases hx : listed[e.on]? with
    | none => rw [hx] at h3; cases h3
    | some x => rw [hx] at h3; simp at h3; rw [h3]
theorem mem_ready {listed : Array Bool} {i : Nat} {o : Oper} (ho : ops[i]? = some o) (hs : i < listed.size) (hl : ¬ lst listed i) (hd : ∀ e ∈ o.after.toList, lst listed e.on) : i ∈ Region.ready .any ops listed := by
  have hi : i < ops.size := (Array.getElem?_eq_some_iff.1 ho).1
  simp only [Region.ready, List.mem_filter, List.mem_range, Bool.and_eq_true, Bool.not_eq_true']
  refine ⟨hi, ?_, ?_⟩
  · unfold lst at hl
    cases hx : listed[i]? with
    | none =>
      have := Array.getElem?_eq_none_iff.1 hx
      omega
    | some x =>
      cases x with
      | false => simp [Array.getD_eq_getD_getElem?, hx]
      | true => exact absurd hx hl
  · rw [ho]
    simp only [Option.map_some, Option.getD_some]
    rw [Array.all_eq_true_iff_forall_mem]
    intro e he
    have h := hd e (by simpa using he)
    unfold lst at h
    simp [Array.getD_eq_getD_getElem?, h]
theorem region_inv (hm : P.follows .mixedOrders = true) {id : Nat} {a0 : Act} (hb : 3 ≤ b) (hN : b + n ≤ N) (hs : ops.size = n + 1)
    (hdst : ∀ i o, ops[i]? = some o → o.dst = if i < n then some (b + i) else none)
    (hg : ∀ (i : Nat) (o : Oper), ops[i]? = some o → o.guard = none)
    (hall : ∀ L : Nat → Prop, (∀ i o, ops[i]? = some o → L i → ∀ e ∈ o.after.toList, L e.on) → (∀ o, ops[n]? = some o → ∀ e ∈ o.after.toList, L e.on) → ∀ j, j < n → L j)
    (hless : ∀ i o, ops[i]? = some o → ∀ e ∈ o.after.toList, Region.binds .any e = true ∧ e.on < i)
    (hrun : ∀ i o, i < n → ops[i]? = some o → ∀ a : Act, Fr N p0 p1 p2 a → (∀ e ∈ o.after.toList, a.tmps.getD (b + e.on) undef = V e.on) → ∀ K : Act → World → Prop, K (a.put o.dst (V i)) w0.drew → o.wp P a w0.drew K Q)
    (hlast : ∀ o, ops[n]? = some o → ∀ a : Act, Fr N p0 p1 p2 a → (∀ e ∈ o.after.toList, a.tmps.getD (b + e.on) undef = V e.on) → ∀ K : Act → World → Prop, K a W2 → o.wp P a w0.drew K Q)
    (hF : Fr N p0 p1 p2 a0) (hend : ∀ a, Fr N p0 p1 p2 a → Q .normal a W2) : (Code.region id ops true).wp P Q a0 w0 := by
  have key : ∀ (fuel : Nat) (listed : Array Bool) (a : Act) (w : World), Inv ops w0 W2 n b N p0 p1 p2 V listed a w → listed.toList.count false ≤ fuel → wpAny P .any ops Q fuel listed a w := by
    intro fuel
    induction fuel with
    | zero =>
      intro listed a w hI hc
      have hAll : ∀ i, i ≤ n → lst listed i := by
        intro i hi
        have hlt : i < listed.size := by rw [hI.size]; omega
        unfold lst
        cases hx : listed[i]? with
        | none => have := Array.getElem?_eq_none_iff.1 hx; omega
        | some x =>
          cases x with
          | true => rfl
          | false =>
            have : false ∈ listed.toList := List.mem_of_getElem? (i := i) (by simpa using hx)
            have := List.count_pos_iff.2 this
            omega
      refine ⟨?_, ?_⟩
      · cases hr : Region.ready .any ops listed with
        | nil => rfl
        | cons i l =>
          obtain ⟨o, ho, hn, _⟩ := ready_mem (ops := ops) (listed := listed) (i := i) (by rw [hr]; exact List.mem_cons_self)
          have := (Array.getElem?_eq_some_iff.1 ho).1
          exact absurd (hAll i (by omega)) hn
      · rcases hI.world with ⟨h, _⟩ | ⟨_, rfl⟩
        · exact absurd (hAll n (Nat.le_refl _)) h
        · exact hend a hI.fr
    | succ fuel ih =>
      intro listed a w hI hc
      refine ⟨?_, ?_⟩
      · intro hr
        have hAll : ∀ i, i ≤ n → lst listed i := by
          intro i
          induction i using Nat.strongRecOn with
          | _ i ihi =>
            intro hi
            have hlt : i < ops.size := by omega
            have ho : ops[i]? = some ops[i] := by simp [hlt]
            apply Classical.byContradiction
            intro hl
            have hmem := mem_ready (listed := listed) ho (by rw [hI.size]; omega) hl (fun e he => ihi e.on (hless i _ ho e he).2 (by have := (hless i _ ho e he).2; omega))
            rw [hr] at hmem
            cases hmem
        rcases hI.world with ⟨h, _⟩ | ⟨_, rfl⟩
        · exact absurd (hAll n (Nat.le_refl _)) h
        · exact hend a hI.fr
      · intro i hi
        obtain ⟨o, ho, hn, hd0⟩ := ready_mem hi
        have hd : ∀ e ∈ o.after.toList, lst listed e.on := fun e he => hd0 e he (hless i o ho e he).1
        have hlt : i < n + 1 := by rw [← hs]; exact (Array.getElem?_eq_some_iff.1 ho).1
        have hw : w = w0.drew := by
          rcases hI.world with ⟨_, h⟩ | ⟨h, _⟩
          · exact h
          · exact absurd (h i (by omega)) hn
        have hnl : ¬ lst listed n := by
          rcases hI.world with ⟨h, _⟩ | ⟨h, _⟩
          · exact h
          · exact absurd (h i (by omega)) hn
        have hcnt : (listed.setIfInBounds i true).toList.count false ≤ fuel := by
          have hx : listed.toList[i]? = some false := by
            have hlt2 : i < listed.size := by rw [hI.size]; exact hlt
            unfold lst at hn
            cases hx : listed[i]? with
            | none => have := Array.getElem?_eq_none_iff.1 hx; omega
            | some x =>
              cases x with
              | true => exact absurd hx hn
              | false => simpa using hx
          have := count_set listed.toList i hx
          simp only [Array.toList_setIfInBounds]
          omega
        have hcl : ∀ j o2, ops[j]? = some o2 → lst (listed.setIfInBounds i true) j → ∀ e ∈ o2.after.toList, lst (listed.setIfInBounds i true) e.on := by
          intro j o2 ho2 hj e he
          rcases lst_set hj with rfl | h
          · rw [ho] at ho2; injection ho2 with ho2; subst ho2
            exact lst_mono (hd e he)
          · exact lst_mono (hI.closed j o2 ho2 h e he)
        have hvd : i ≤ n → ∀ e ∈ o.after.toList, a.tmps.getD (b + e.on) undef = V e.on := fun hin e he => hI.vals e.on (by have := (hless i o ho e he).2; omega) (hd e he)
        unfold wpOp
        simp only [ho]
        rw [if_pos (by simp [Region.wanted, hg i o ho])]
        left
        subst hw
        by_cases hin : i < n
        · refine hrun i o hin ho a hI.fr (hvd (by omega)) _ (ih _ _ _ ?_ hcnt)
          have hdd := hdst i o ho
          rw [if_pos hin] at hdd
          rw [hdd]
          refine ⟨by simp [hI.size], hI.fr.put _ (by omega) _, hcl, ?_, .inl ⟨?_, rfl⟩⟩
          · intro j hj hl
            by_cases e : i = j
            · subst e; exact getD_set_eq _ _ _ (by rw [hI.fr.size]; omega)
            · rcases lst_set hl with rfl | h
              · exact absurd rfl e
              · rw [← hI.vals j hj h]; exact getD_set_ne _ _ _ _ (by omega)
          · intro hl
            rcases lst_set hl with h | h
            · omega
            · exact hnl h
        · obtain rfl : i = n := by omega
          have hdd := hdst i o ho
          rw [if_neg (by omega)] at hdd
          refine hlast o ho a hI.fr (hvd (Nat.le_refl _)) _ (ih _ _ _ ?_ hcnt)
          have hA : ∀ j, j ≤ i → lst (listed.setIfInBounds i true) j := by
            intro j hj
            by_cases e : j = i
            · subst e; exact lst_self (by rw [hI.size]; omega)
            · exact lst_mono (hall (lst listed) (fun j o2 h2 hl => hI.closed j o2 h2 hl) (fun o2 h2 => by rw [ho] at h2; injection h2 with h2; subst h2; exact hd) j (by omega))
          refine ⟨by simp [hI.size], hI.fr, hcl, ?_, .inr ⟨hA, rfl⟩⟩
          intro j hj hl
          exact hI.vals j hj (hall (lst listed) (fun j o2 h2 hl => hI.closed j o2 h2 hl) (fun o2 h2 => by rw [ho] at h2; injection h2 with h2; subst h2; exact hd) j hj)
  refine wp_region_any hm (key ops.size _ a0 _ ⟨by simp [hs], hF, ?_, ?_, .inl ⟨?_, rfl⟩⟩ ?_)
  · intro i o ho hl
    unfold lst at hl
    simp [Array.getElem?_replicate] at hl
  · intro i hi hl
    unfold lst at hl
    simp [Array.getElem?_replicate] at hl
  · intro hl
    unfold lst at hl
    simp [Array.getElem?_replicate] at hl
  · simp
end
section
variable {P : Program} {ops : Array Oper} {Q : Exit → Act → World → Prop} {w0 : World} {n : Nat} {V : Nat → Value} {dst : Nat → Nat} {F : Act → Prop} {R : World → Prop}
structure Inv2 (ops : Array Oper) (n : Nat) (V : Nat → Value) (dst : Nat → Nat) (F : Act → Prop) (R : World → Prop) (listed : Array Bool) (a : Act) (w : World) : Prop where
  size : listed.size = n
  fr : F a
  closed : ∀ i o, ops[i]? = some o → lst listed i → ∀ e ∈ o.after.toList, lst listed e.on
  vals : ∀ i, i < n → lst listed i → a.tmps.getD (dst i) undef = V i
  world : R w
/-- A region whose operations each yield what they must in every world that meets R, and lead to such a world: whatever the order, one end. -/
theorem region_inv2 (hm : P.follows .mixedOrders = true) {id : Nat} {a0 : Act} (hs : ops.size = n)
    (hdst : ∀ (i : Nat) (o : Oper), ops[i]? = some o → o.dst = some (dst i)) (hinj : ∀ i j, i < n → j < n → dst i = dst j → i = j)
    (hg : ∀ (i : Nat) (o : Oper), ops[i]? = some o → o.guard = none)
    (hless : ∀ i o, ops[i]? = some o → ∀ e ∈ o.after.toList, Region.binds .any e = true ∧ e.on < i)
    (hput : ∀ i a v, i < n → F a → F (a.put (some (dst i)) v)) (hsz : ∀ i a, i < n → F a → dst i < a.tmps.size)
    (hrun : ∀ i o, ops[i]? = some o → ∀ (a : Act) (w : World), F a → R w → (∀ e ∈ o.after.toList, a.tmps.getD (dst e.on) undef = V e.on) → ∀ K : Act → World → Prop, (∀ w2, R w2 → K (a.put o.dst (V i)) w2) → o.wp P a w K Q)
    (hF : F a0) (hR : R w0.drew) (hend : ∀ a w, F a → (∀ i, i < n → a.tmps.getD (dst i) undef = V i) → R w → Q .normal a w) : (Code.region id ops true).wp P Q a0 w0 := by
  have key : ∀ (fuel : Nat) (listed : Array Bool) (a : Act) (w : World), Inv2 ops n V dst F R listed a w → listed.toList.count false ≤ fuel → wpAny P .any ops Q fuel listed a w := by
    intro fuel
    induction fuel with
    | zero =>
      intro listed a w hI hc
      have hAll : ∀ i, i < n → lst listed i := by
        intro i hi
        have hlt : i < listed.size := by rw [hI.size]; omega
        unfold lst
        cases hx : listed[i]? with
        | none => have := Array.getElem?_eq_none_iff.1 hx; omega
        | some x =>
          cases x with
          | true => rfl
          | false =>
            have : false ∈ listed.toList := List.mem_of_getElem? (i := i) (by simpa using hx)
            have := List.count_pos_iff.2 this
            omega
      refine ⟨?_, hend a w hI.fr (fun i hi => hI.vals i hi (hAll i hi)) hI.world⟩
      cases hr : Region.ready .any ops listed with
      | nil => rfl
      | cons i l =>
        obtain ⟨o, ho, hn, _⟩ := ready_mem (ops := ops) (listed := listed) (i := i) (by rw [hr]; exact List.mem_cons_self)
        have := (Array.getElem?_eq_some_iff.1 ho).1
        exact absurd (hAll i (by omega)) hn
    | succ fuel ih =>
      intro listed a w hI hc
      refine ⟨?_, ?_⟩
      · intro hr
        have hAll : ∀ i, i < n → lst listed i := by
          intro i
          induction i using Nat.strongRecOn with
          | _ i ihi =>
            intro hi
            have hlt : i < ops.size := by omega
            have ho : ops[i]? = some ops[i] := by simp [hlt]
            apply Classical.byContradiction
            intro hl
            have hmem := mem_ready (listed := listed) ho (by rw [hI.size]; omega) hl (fun e he => ihi e.on (hless i _ ho e he).2 (by have := (hless i _ ho e he).2; omega))
            rw [hr] at hmem
            cases hmem
        exact hend a w hI.fr (fun i hi => hI.vals i hi (hAll i hi)) hI.world
      · intro i hi
        obtain ⟨o, ho, hn, hd0⟩ := ready_mem hi
        have hd : ∀ e ∈ o.after.toList, lst listed e.on := fun e he => hd0 e he (hless i o ho e he).1
        have hlt : i < n := by rw [← hs]; exact (Array.getElem?_eq_some_iff.1 ho).1
        have hcnt : (listed.setIfInBounds i true).toList.count false ≤ fuel := by
          have hx : listed.toList[i]? = some false := by
            have hlt2 : i < listed.size := by rw [hI.size]; exact hlt
            unfold lst at hn
            cases hx : listed[i]? with
            | none => have := Array.getElem?_eq_none_iff.1 hx; omega
            | some x =>
              cases x with
              | true => exact absurd hx hn
              | false => simpa using hx
          have := count_set listed.toList i hx
          simp only [Array.toList_setIfInBounds]
          omega
        unfold wpOp
        simp only [ho]
        rw [if_pos (by simp [Region.wanted, hg i o ho])]
        left
        refine hrun i o ho a w hI.fr hI.world (fun e he => hI.vals e.on (by have := (hless i o ho e he).2; omega) (hd e he)) _ (fun w2 hw2 => ih _ _ _ ?_ hcnt)
        rw [hdst i o ho]
        refine ⟨by simp [hI.size], hput i a _ hlt hI.fr, ?_, ?_, hw2⟩
        · intro j o2 ho2 hj e he
          rcases lst_set hj with rfl | h
          · rw [ho] at ho2; injection ho2 with ho2; subst ho2
            exact lst_mono (hd e he)
          · exact lst_mono (hI.closed j o2 ho2 h e he)
        · intro j hj hl
          by_cases e : i = j
          · subst e; exact getD_set_eq _ _ _ (hsz i a hlt hI.fr)
          · rcases lst_set hl with rfl | h
            · exact absurd rfl e
            · rw [← hI.vals j hj h]; exact getD_set_ne _ _ _ _ (fun h2 => e (hinj i j hlt hj h2))
  refine wp_region_any hm (key ops.size _ a0 _ ⟨by simp [hs], hF, ?_, ?_, hR⟩ ?_)
  · intro i o ho hl
    unfold lst at hl
    simp [Array.getElem?_replicate] at hl
  · intro i hi hl
    unfold lst at hl
    simp [Array.getElem?_replicate] at hl
  · simp
end
end Go.Proofs.YtflnlkaednpenaaDoor.MixI
