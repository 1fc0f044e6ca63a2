/- The region law for operations with guards; the last region of MixFront. -/
import Derived.Test.YtflnlkaednpenaaDoorMixM
import Derived.Test.YtflnlkaednpenaaDoorMixL
namespace Go.Proofs.YtflnlkaednpenaaDoor.MixG
open Go.RowKit Go.Proofs.YtflnlkaednpenaaDoorW.PrintWords Go.Proofs.YtflnlkaednpenaaDoorW.PrintLast Go.Proofs.YtflnlkaednpenaaDoorW.PrintMore Go.Proofs.YtflnlkaednpenaaDoor.State Go.Proofs.YtflnlkaednpenaaDoor.MixI Go.Proofs.YtflnlkaednpenaaDoor.MixJ Go.Proofs.YtflnlkaednpenaaDoor.MixL
set_option linter.unusedVariables false
set_option linter.unusedSimpArgs false
section
variable {P : Program} {ops : Array Oper} {Q : Exit → Act → World → Prop} {w0 : World} {n : Nat} {V : Nat → Value} {dst : Nat → Nat} {F : Act → Prop} {R : World → Prop}
/-- A region whose operations each yield what they must in every world that meets R, and lead to such a world: whatever the order, one end. -/
theorem region_inv3 (hm : P.follows .mixedOrders = true) {id : Nat} {a0 : Act} (hs : ops.size = n)
    (hdst : ∀ (i : Nat) (o : Oper), ops[i]? = some o → o.dst = some (dst i)) (hinj : ∀ i j, i < n → j < n → dst i = dst j → i = j)
    (hg : ∀ (i : Nat) (o : Oper), ops[i]? = some o → o.guard = none ∨ ∃ j b, o.guard = some (j, b) ∧ V j = .bool b ∧ ∃ e ∈ o.after.toList, e.on = j)
    (hless : ∀ i o, ops[i]? = some o → ∀ e ∈ o.after.toList, Region.binds .any e = true ∧ e.on < i)
    (hput : ∀ i a v, i < n → F a → F (a.put (some (dst i)) v)) (hsz : ∀ i a, i < n → F a → dst i < a.tmps.size)
    (hrun : ∀ i o, ops[i]? = some o → ∀ (a : Act) (w : World), F a → R w → (∀ e ∈ o.after.toList, a.tmps.getD (dst e.on) undef = V e.on) → ∀ K : Act → World → Prop, (∀ w2, R w2 → K (a.put o.dst (V i)) w2) → o.wp P a w K Q)
    (hF : F a0) (hR : R w0.drew) (hend : ∀ a w, F a → (∀ i, i < n → a.tmps.getD (dst i) undef = V i) → R w → Q .normal a w) : (Code.region id ops true).wp P Q a0 w0 := by
  have key : ∀ (fuel : Nat) (listed : Array Bool) (a : Act) (w : World), Inv2 ops n V dst F R listed a w → listed.toList.count false ≤ fuel → wpAny P .any ops Q fuel listed a w := by
    intro fuel
    induction fuel with
    | zero =>
      intro listed a w hI hc
      have hAll : ∀ i, i < n → lst listed i := by
        intro i hi
        have hlt : i < listed.size := by rw [hI.size]; omega
        unfold lst
        cases hx : listed[i]? with
        | none => have := Array.getElem?_eq_none_iff.1 hx; omega
        | some x =>
          cases x with
          | true => rfl
          | false =>
            have : false ∈ listed.toList := List.mem_of_getElem? (i := i) (by simpa using hx)
            have := List.count_pos_iff.2 this
            omega
      refine ⟨?_, hend a w hI.fr (fun i hi => hI.vals i hi (hAll i hi)) hI.world⟩
      cases hr : Region.ready .any ops listed with
      | nil => rfl
      | cons i l =>
        obtain ⟨o, ho, hn, _⟩ := Go.Proofs.YtflnlkaednpenaaDoor.MixI.ready_mem (ops := ops) (listed := listed) (i := i) (by rw [hr]; exact List.mem_cons_self)
        have := (Array.getElem?_eq_some_iff.1 ho).1
        exact absurd (hAll i (by omega)) hn
    | succ fuel ih =>
      intro listed a w hI hc
      refine ⟨?_, ?_⟩
      · intro hr
        have hAll : ∀ i, i < n → lst listed i := by
          intro i
          induction i using Nat.strongRecOn with
          | _ i ihi =>
            intro hi
            have hlt : i < ops.size := by omega
            have ho : ops[i]? = some ops[i] := by simp [hlt]
            apply Classical.byContradiction
            intro hl
            have hmem := Go.Proofs.YtflnlkaednpenaaDoor.MixI.mem_ready (listed := listed) ho (by rw [hI.size]; omega) hl (fun e he => ihi e.on (hless i _ ho e he).2 (by have := (hless i _ ho e he).2; omega))
            rw [hr] at hmem
            cases hmem
        exact hend a w hI.fr (fun i hi => hI.vals i hi (hAll i hi)) hI.world
      · intro i hi
        obtain ⟨o, ho, hn, hd0⟩ := Go.Proofs.YtflnlkaednpenaaDoor.MixI.ready_mem hi
        have hd : ∀ e ∈ o.after.toList, lst listed e.on := fun e he => hd0 e he (hless i o ho e he).1
        have hlt : i < n := by rw [← hs]; exact (Array.getElem?_eq_some_iff.1 ho).1
        have hcnt : (listed.setIfInBounds i true).toList.count false ≤ fuel := by
          have hx : listed.toList[i]? = some false := by
            have hlt2 : i < listed.size := by rw [hI.size]; exact hlt
            unfold lst at hn
            cases hx : listed[i]? with
            | none => have := Array.getElem?_eq_none_iff.1 hx; omega
            | some x =>
              cases x with
              | true => exact absurd hx hn
              | false => simpa using hx
          have := count_set listed.toList i hx
          simp only [Array.toList_setIfInBounds]
          omega
        unfold wpOp
        simp only [ho]
        have hwant : Region.wanted o (yielded ops a.tmps) = true := by
          rcases hg i o ho with h | ⟨j, b, hgj, hvj, e, he, hej⟩
          · simp [Region.wanted, h]
          · have hjl := hd e he
            rw [hej] at hjl
            have hj : j < n := by have := (hless i o ho e he).2; omega
            have hv := hI.vals j hj hjl
            rw [hvj] at hv
            have hlt3 := hsz j a hj hI.fr
            have hv2 : a.tmps[dst j]? = some (.bool b) := by
              rw [Array.getD_eq_getD_getElem?, Array.getElem?_eq_getElem hlt3] at hv
              rw [Array.getElem?_eq_getElem hlt3]
              exact congrArg some hv
            have hoj : ops[j]? = some (ops[j]'(by omega)) := by simp
            simp [Region.wanted, hgj, yielded, hoj, hdst j _ hoj, hv2]
        rw [if_pos hwant]
        left
        refine hrun i o ho a w hI.fr hI.world (fun e he => hI.vals e.on (by have := (hless i o ho e he).2; omega) (hd e he)) _ (fun w2 hw2 => ih _ _ _ ?_ hcnt)
        rw [hdst i o ho]
        refine ⟨by simp [hI.size], hput i a _ hlt hI.fr, ?_, ?_, hw2⟩
        · intro j o2 ho2 hj e he
          rcases lst_set hj with rfl | h
          · rw [ho] at ho2; injection ho2 with ho2; subst ho2
            exact lst_mono (hd e he)
          · exact lst_mono (hI.closed j o2 ho2 h e he)
        · intro j hj hl
          by_cases e : i = j
          · subst e; exact Go.Proofs.YtflnlkaednpenaaDoor.MixI.getD_set_eq _ _ _ (hsz i a hlt hI.fr)
          · rcases lst_set hl with rfl | h
            · exact absurd rfl e
            · rw [← hI.vals j hj h]; exact Go.Proofs.YtflnlkaednpenaaDoor.MixI.getD_set_ne _ _ _ _ (fun h2 => e (hinj i j hlt hj h2))
  refine wp_region_any hm (key ops.size _ a0 _ ⟨by simp [hs], hF, ?_, ?_, hR⟩ ?_)
  · intro i o ho hl
    unfold lst at hl
    simp [Array.getElem?_replicate] at hl
  · intro i hi hl
    unfold lst at hl
    simp [Array.getElem?_replicate] at hl
  · simp
end

/-- A region's operations: of each the operation, its slot, its guard, what it waits for. -/
structure Shape3 (ops : Array Oper) (opl : List Op) (gds : List (Option (Nat × Bool))) (aft : List (List Nat)) (dsts : List Nat) : Prop where
  op : ops.toList.map (·.op) = opl
  dst : ops.toList.map (·.dst) = dsts.map some
  guard : ops.toList.map (·.guard) = gds
  aft : ops.toList.map (fun o => o.after.toList.map fun e => (e.on, Region.binds .any e)) = aft.map (·.map (·, true))
theorem aft_mem3 {ops : Array Oper} {opl : List Op} {gds : List (Option (Nat × Bool))} {aft : List (List Nat)} {dsts : List Nat} {i : Nat} {o : Oper} (h : Shape3 ops opl gds aft dsts) (ho : ops[i]? = some o) :
    (∀ e ∈ o.after.toList, Region.binds .any e = true ∧ e.on ∈ aft.getD i []) ∧ (∀ j ∈ aft.getD i [], ∃ e ∈ o.after.toList, e.on = j) := by
  have h1 := congrArg (fun l => l[i]?) h.aft
  have ho2 : ops.toList[i]? = some o := by simpa using ho
  simp only [List.getElem?_map, ho2, Option.map_some] at h1
  cases hx : aft[i]? with
  | none => rw [hx] at h1; cases h1
  | some l =>
    rw [hx] at h1
    simp only [Option.map_some, Option.some.injEq] at h1
    have hg : aft.getD i [] = l := by rw [List.getD_eq_getElem?_getD, hx]; rfl
    rw [hg]
    constructor
    · intro e he
      have hm : (e.on, Region.binds .any e) ∈ l.map (fun x => (x, true)) := by rw [← h1]; exact List.mem_map_of_mem (f := fun e : Edge => (e.on, Region.binds .any e)) he
      obtain ⟨x, hx1, hx2⟩ := List.mem_map.1 hm
      injection hx2 with h3 h4
      exact ⟨h4.symm, h3 ▸ hx1⟩
    · intro j hj
      have hm : (j, true) ∈ o.after.toList.map (fun e => (e.on, Region.binds .any e)) := by rw [h1]; exact List.mem_map_of_mem (f := fun x => (x, true)) hj
      obtain ⟨e, he, hx2⟩ := List.mem_map.1 hm
      injection hx2 with h3 h4
      exact ⟨e, he, h3⟩
theorem shape_run3 {id : Nat} {ops : Array Oper} {Q : Exit → Act → World → Prop} {a0 : Act} {w0 : World} {opl : List Op} {gds : List (Option (Nat × Bool))} {aft : List (List Nat)} {dsts : List Nat} (n N : Nat) (F : Act → Prop) (V : Nat → Value) (R : World → Prop)
    (h : Shape3 ops opl gds aft dsts) (hn : opl.length = n) (hdl : dsts.length = n) (hgl : gds.length = n) (hc1 : ((List.range n).all fun i => (aft.getD i []).all (· < i)) = true) (hnd : ∀ i, i < n → ∀ j, j < n → dsts.getD i 0 = dsts.getD j 0 → i = j) (hdn : ∀ d ∈ dsts, d < N)
    (hgd : ∀ i j b, i < n → gds.getD i none = some (j, b) → V j = .bool b ∧ j ∈ aft.getD i [])
    (hFN : ∀ a, F a → a.tmps.size = N) (hput : ∀ a d v, d ∈ dsts → F a → F (a.put (some d) v))
    (hrun : ∀ (i : Nat) (op : Op), i < n → opl[i]? = some op → ∀ (o : Oper) (a : Act) (w : World), o.op = op → F a → R w → (∀ j ∈ aft.getD i [], a.tmps.getD (dsts.getD j 0) undef = V j) → ∀ K : Act → World → Prop, (∀ w2, R w2 → K (a.put o.dst (V i)) w2) → o.wp Tryd.prog a w K Q)
    (hF : F a0) (hR : R w0.drew) (hend : ∀ a w, F a → (∀ i, i < n → a.tmps.getD (dsts.getD i 0) undef = V i) → R w → Q .normal a w) : (Code.region id ops true).wp Tryd.prog Q a0 w0 := by
  have hs : ops.size = n := by
    have := congrArg List.length h.op
    simpa [hn] using this
  have hop : ∀ (i : Nat) (o : Oper), ops[i]? = some o → opl[i]? = some o.op := by
    intro i o ho
    have h1 := congrArg (fun l => l[i]?) h.op
    have ho2 : ops.toList[i]? = some o := by simpa using ho
    simp only [List.getElem?_map, ho2, Option.map_some] at h1
    exact h1.symm
  have hlt : ∀ (i : Nat) (o : Oper), ops[i]? = some o → i < n := fun i o ho => by rw [← hs]; exact (Array.getElem?_eq_some_iff.1 ho).1
  have hle : ∀ i, i < n → ∀ j ∈ aft.getD i [], j < i := by
    intro i hi j hj
    have h1 := List.all_eq_true.1 hc1 i (List.mem_range.2 hi)
    simpa using List.all_eq_true.1 h1 j hj
  have hmem : ∀ i, i < n → dsts.getD i 0 ∈ dsts := fun i hi => by
    have : i < dsts.length := by omega
    rw [List.getD_eq_getElem?_getD, List.getElem?_eq_getElem this]; exact List.getElem_mem _
  refine region_inv3 (n := n) (V := V) (dst := fun i => dsts.getD i 0) (F := F) (R := R) (by kernel_rfl) hs ?_ ?_ ?_ ?_ ?_ ?_ ?_ hF hR hend
  · intro i o ho
    have h1 := congrArg (fun l => l[i]?) h.dst
    have ho2 : ops.toList[i]? = some o := by simpa using ho
    simp only [List.getElem?_map, ho2, Option.map_some] at h1
    have hi : i < dsts.length := by have := hlt i o ho; omega
    rw [List.getElem?_eq_getElem hi] at h1
    simp only [Option.map_some, Option.some.injEq] at h1
    rw [h1, List.getD_eq_getElem?_getD, List.getElem?_eq_getElem hi]; rfl
  · intro i j hi hj he
    exact hnd i hi j hj he
  · intro i o ho
    have hi := hlt i o ho
    have h1 := congrArg (fun l => l.getD i none) h.guard
    have ho2 : ops.toList[i]? = some o := by simpa using ho
    simp only [List.getD_eq_getElem?_getD, List.getElem?_map, ho2, Option.map_some, Option.getD_some] at h1
    cases hx : o.guard with
    | none => exact .inl rfl
    | some jb =>
      obtain ⟨j, b⟩ := jb
      right
      have h2 := hgd i j b hi (by rw [List.getD_eq_getElem?_getD, ← h1, hx])
      obtain ⟨e, he, hej⟩ := (aft_mem3 h ho).2 j h2.2
      exact ⟨j, b, rfl, h2.1, e, he, hej⟩
  · intro i o ho e he
    obtain ⟨h1, h2⟩ := (aft_mem3 h ho).1 e he
    exact ⟨h1, hle i (hlt i o ho) _ h2⟩
  · intro i a v hi hF
    exact hput a _ v (hmem i hi) hF
  · intro i a hi hF
    rw [hFN a hF]; exact hdn _ (hmem i hi)
  · intro i o ho a w hF hR2 hv K hK
    refine hrun i o.op (hlt i o ho) (hop i o ho) o a w rfl hF hR2 ?_ K hK
    intro j hj
    obtain ⟨e, he, rfl⟩ := (aft_mem3 h ho).2 j hj
    exact hv e he
section runs
variable {ρ : Operand → Value} {o : Oper} {w : World}
theorem r_eqi {x : Operand} {k : Int} (h : o.op = .binOp .eql 3 x (.const (.int .i64 k)) 3) (e : ρ x = .int .i64 k) (hc : ρ (.const (.int .i64 k)) = .int .i64 k) : (execOp ρ o).run Tryd.prog w = .ok (.value (.bool true)) w := by
  simp [execOp, h, e, hc, go_sem]
theorem r_eqs {x y : Operand} {p : ByteArray} (h : o.op = .binOp .eql 9 x y 9) (e : ρ x = .string p) (f : ρ y = .string p) : (execOp ρ o).run Tryd.prog w = .ok (.value (.bool true)) w := by
  simp [execOp, h, e, f, go_sem]
theorem r_pick {x y z : Operand} {v : Value} (h : o.op = .pick x y z) (e : ρ x = .bool true) (f : ρ y = v) : (execOp ρ o).run Tryd.prog w = .ok (.value v) w := by
  simp [execOp, h, e, f, go_sem]
theorem r_cut {x : Operand} {s : ByteArray} (h : o.op = .slice 9 x none (some (.const (.int .i64 16))) none) (e : ρ x = .string s) (hc : ρ (.const (.int .i64 16)) = .int .i64 16) (hs : s.size = 32) : (execOp ρ o).run Tryd.prog w = .ok (.value (.string (s.extract 0 16))) w := by
  have h2 : (16 : Int) ≤ (s.size : Int) := by omega
  have hx := run_slice_string_h (P := Tryd.prog) w 9 s Tryd.underlying9 .i64 16 (by decide) h2
  simp [execOp, h, e, hc, go_sem, hs]
theorem r_calls {f : Nat} {x y : Operand} {v u : Value} (hf1 : f = 9 ∨ f = 11) (h : o.op = .call { callee := .value (.func f), args := #[x, y], argTypes := #[9, 9] }) (hf : ρ (.func f) = .func (.func f) #[] #[]) (e : ρ x = v) (g : ρ y = u) :
    (execOp ρ o).run Tryd.prog w = .ok (.enter f #[v, u]) w := by
  rcases hf1 with rfl | rfl <;> simp [execOp, h, hf, e, g, go_sem]
end runs
structure FrF (key a b x : ByteArray) (c : Act) : Prop where
  size : c.tmps.size = 69
  defers : c.defers = []
  k : c.tmps.getD 0 undef = .string key
  a : c.tmps.getD 1 undef = .string a
  b : c.tmps.getD 2 undef = .string b
  x : c.tmps.getD 11 undef = .string x
def ops_f : List Op := [.move (.tmp 11), .call { callee := .builtin .len, args := #[.tmp 47], argTypes := #[9] }, .binOp .eql 3 (.tmp 48) (.const (.int .i64 32)) 3, .move (.tmp 49), .move (.tmp 0), .move (.tmp 1), .move (.tmp 2), .binOp .add 9 (.tmp 52) (.tmp 53) 9, .call { callee := .value (.func 9), args := #[.tmp 51, .tmp 54], argTypes := #[9, 9] }, .move (.tmp 11), .binOp .eql 9 (.tmp 55) (.tmp 56) 9, .pick (.tmp 50) (.tmp 57) (.const (.bool false)), .move (.tmp 58), .move (.tmp 0), .move (.tmp 1), .move (.tmp 2), .binOp .add 9 (.tmp 61) (.tmp 62) 9, .call { callee := .value (.func 11), args := #[.tmp 60, .tmp 63], argTypes := #[9, 9] }, .move (.tmp 11), .slice 9 (.tmp 65) none (some (.const (.int .i64 16))) none, .binOp .eql 9 (.tmp 64) (.tmp 66) 9, .pick (.tmp 59) (.tmp 67) (.const (.bool false)), .assign (.tmp 68)]
def gds_f : List (Option (Nat × Bool)) := [none, none, none, none, some (3, true), some (3, true), some (3, true), some (3, true), some (3, true), some (3, true), some (3, true), none, none, some (12, true), some (12, true), some (12, true), some (12, true), some (12, true), some (12, true), some (12, true), some (12, true), none, none]
def aft_f : List (List Nat) := [[], [0], [1], [2], [3], [3], [3], [5, 6, 3], [4, 7, 3, 3], [3], [8, 9, 3], [3, 10], [11, 8], [12], [12], [12], [14, 15, 12], [13, 16, 12, 12], [12], [18, 12], [17, 19, 12], [12, 20], [21, 17, 0, 1, 2, 3, 4, 5, 6, 7, 8, 9, 10, 11, 12, 13, 14, 15, 16, 17, 18, 19, 20, 21]]
def dst_f : List Nat := [47, 48, 49, 50, 51, 52, 53, 54, 55, 56, 57, 58, 59, 60, 61, 62, 63, 64, 65, 66, 67, 68, 8]
def val_f (key a b x : ByteArray) : Nat → Value
  | 0 => .string x
  | 1 => .int .i64 32
  | 2 => .bool true
  | 3 => .bool true
  | 4 => .string key
  | 5 => .string a
  | 6 => .string b
  | 7 => .string (a ++ b)
  | 8 => .string x
  | 9 => .string x
  | 10 => .bool true
  | 11 => .bool true
  | 12 => .bool true
  | 13 => .string key
  | 14 => .string a
  | 15 => .string b
  | 16 => .string (a ++ b)
  | 17 => .string (x.extract 0 16)
  | 18 => .string x
  | 19 => .string (x.extract 0 16)
  | 20 => .bool true
  | 21 => .bool true
  | _ => .bool true
theorem step_f {id : Nat} {ops : Array Oper} {Q : Exit → Act → World → Prop} {a0 : Act} {w0 : World} (key a b x : ByteArray) (R : World → Prop) (h : Shape3 ops ops_f gds_f aft_f dst_f) (hz : x.size = 32) (hab : a.size + b.size ≤ 9223372036854775807)
    (hK : ∀ w, R w → Calls Tryd.prog 9 #[.string key, .string (a ++ b)] w fun e w2 => e = .returned (.string x) ∧ R w2)
    (hS : ∀ w, R w → Calls Tryd.prog 11 #[.string key, .string (a ++ b)] w fun e w2 => e = .returned (.string (x.extract 0 16)) ∧ R w2)
    (hF : FrF key a b x a0) (hR : R w0.drew) (hend : ∀ c w, c.defers = [] → c.tmps.getD 8 undef = .bool true → R w → Q .normal c w) : (Code.region id ops true).wp Tryd.prog Q a0 w0 := by
  have hx : (x.size : Int) = 32 := by omega
  refine shape_run3 23 69 (FrF key a b x) (val_f key a b x) R h rfl rfl rfl (by decide) (by decide) (by decide) ?_ (fun c h => h.size) ?_ ?_ hF hR (fun c w h1 h2 h3 => hend c w h1.defers (h2 22 (by decide)) h3)
  · intro i j b2 hi hg
    match i, hi with
    | 0, _ => cases hg
    | 1, _ => cases hg
    | 2, _ => cases hg
    | 3, _ => cases hg
    | 4, _ => injection hg with hg; injection hg with h1 h2; subst h1; subst h2; exact ⟨rfl, by decide⟩
    | 5, _ => injection hg with hg; injection hg with h1 h2; subst h1; subst h2; exact ⟨rfl, by decide⟩
    | 6, _ => injection hg with hg; injection hg with h1 h2; subst h1; subst h2; exact ⟨rfl, by decide⟩
    | 7, _ => injection hg with hg; injection hg with h1 h2; subst h1; subst h2; exact ⟨rfl, by decide⟩
    | 8, _ => injection hg with hg; injection hg with h1 h2; subst h1; subst h2; exact ⟨rfl, by decide⟩
    | 9, _ => injection hg with hg; injection hg with h1 h2; subst h1; subst h2; exact ⟨rfl, by decide⟩
    | 10, _ => injection hg with hg; injection hg with h1 h2; subst h1; subst h2; exact ⟨rfl, by decide⟩
    | 11, _ => cases hg
    | 12, _ => cases hg
    | 13, _ => injection hg with hg; injection hg with h1 h2; subst h1; subst h2; exact ⟨rfl, by decide⟩
    | 14, _ => injection hg with hg; injection hg with h1 h2; subst h1; subst h2; exact ⟨rfl, by decide⟩
    | 15, _ => injection hg with hg; injection hg with h1 h2; subst h1; subst h2; exact ⟨rfl, by decide⟩
    | 16, _ => injection hg with hg; injection hg with h1 h2; subst h1; subst h2; exact ⟨rfl, by decide⟩
    | 17, _ => injection hg with hg; injection hg with h1 h2; subst h1; subst h2; exact ⟨rfl, by decide⟩
    | 18, _ => injection hg with hg; injection hg with h1 h2; subst h1; subst h2; exact ⟨rfl, by decide⟩
    | 19, _ => injection hg with hg; injection hg with h1 h2; subst h1; subst h2; exact ⟨rfl, by decide⟩
    | 20, _ => injection hg with hg; injection hg with h1 h2; subst h1; subst h2; exact ⟨rfl, by decide⟩
    | 21, _ => cases hg
    | 22, _ => cases hg
    | i + 23, hi => exact absurd hi (by omega)
  · intro c d v hd hF
    have h0 : d ≠ 0 ∧ d ≠ 1 ∧ d ≠ 2 ∧ d ≠ 11 := by
      have hall : dst_f.all (fun d => d != 0 && d != 1 && d != 2 && d != 11) = true := by decide
      have := List.all_eq_true.1 hall d hd
      simpa [and_assoc] using this
    obtain ⟨h1, h2, h3, h4⟩ := h0
    exact ⟨by simp [Act.put, hF.size], hF.defers, by rw [← hF.k]; exact Go.Proofs.YtflnlkaednpenaaDoor.MixI.getD_set_ne _ _ _ _ h1, by rw [← hF.a]; exact Go.Proofs.YtflnlkaednpenaaDoor.MixI.getD_set_ne _ _ _ _ h2, by rw [← hF.b]; exact Go.Proofs.YtflnlkaednpenaaDoor.MixI.getD_set_ne _ _ _ _ h3, by rw [← hF.x]; exact Go.Proofs.YtflnlkaednpenaaDoor.MixI.getD_set_ne _ _ _ _ h4⟩
  intro i op hi hop o c w ho hF hR hv K hK2
  match i, hi with
  | 0, _ => injection hop with hop; subst hop; exact upon_val (r_move ho hF.x) (hK2 _ hR)
  | 1, _ => injection hop with hop; subst hop; exact upon_val (v := .int .i64 32) (by rw [← hx]; exact r_len ho (hv 0 (by decide))) (hK2 _ hR)
  | 2, _ => injection hop with hop; subst hop; exact upon_val (r_eqi ho (hv 1 (by decide)) rfl) (hK2 _ hR)
  | 3, _ => injection hop with hop; subst hop; exact upon_val (r_move ho (hv 2 (by decide))) (hK2 _ hR)
  | 4, _ => injection hop with hop; subst hop; exact upon_val (r_move ho hF.k) (hK2 _ hR)
  | 5, _ => injection hop with hop; subst hop; exact upon_val (r_move ho hF.a) (hK2 _ hR)
  | 6, _ => injection hop with hop; subst hop; exact upon_val (r_move ho hF.b) (hK2 _ hR)
  | 7, _ => injection hop with hop; subst hop; exact upon_val (r_cat ho (hv 5 (by decide)) (hv 6 (by decide)) (by omega)) (hK2 _ hR)
  | 8, _ => injection hop with hop; subst hop; exact upon_call (r_calls (.inl rfl) ho rfl (hv 4 (by decide)) (hv 7 (by decide))) (hK w hR) hK2
  | 9, _ => injection hop with hop; subst hop; exact upon_val (r_move ho hF.x) (hK2 _ hR)
  | 10, _ => injection hop with hop; subst hop; exact upon_val (r_eqs ho (hv 8 (by decide)) (hv 9 (by decide))) (hK2 _ hR)
  | 11, _ => injection hop with hop; subst hop; exact upon_val (r_pick ho (hv 3 (by decide)) (hv 10 (by decide))) (hK2 _ hR)
  | 12, _ => injection hop with hop; subst hop; exact upon_val (r_move ho (hv 11 (by decide))) (hK2 _ hR)
  | 13, _ => injection hop with hop; subst hop; exact upon_val (r_move ho hF.k) (hK2 _ hR)
  | 14, _ => injection hop with hop; subst hop; exact upon_val (r_move ho hF.a) (hK2 _ hR)
  | 15, _ => injection hop with hop; subst hop; exact upon_val (r_move ho hF.b) (hK2 _ hR)
  | 16, _ => injection hop with hop; subst hop; exact upon_val (r_cat ho (hv 14 (by decide)) (hv 15 (by decide)) (by omega)) (hK2 _ hR)
  | 17, _ => injection hop with hop; subst hop; exact upon_call (r_calls (.inr rfl) ho rfl (hv 13 (by decide)) (hv 16 (by decide))) (hS w hR) hK2
  | 18, _ => injection hop with hop; subst hop; exact upon_val (r_move ho hF.x) (hK2 _ hR)
  | 19, _ => injection hop with hop; subst hop; exact upon_val (r_cut ho (hv 18 (by decide)) rfl hz) (hK2 _ hR)
  | 20, _ => injection hop with hop; subst hop; exact upon_val (r_eqs ho (hv 17 (by decide)) (hv 19 (by decide))) (hK2 _ hR)
  | 21, _ => injection hop with hop; subst hop; exact upon_val (r_pick ho (hv 12 (by decide)) (hv 20 (by decide))) (hK2 _ hR)
  | 22, _ => injection hop with hop; subst hop; exact upon_val (r_assign ho (hv 21 (by decide))) (hK2 _ hR)
  | i + 23, hi => exact absurd hi (by omega)
end Go.Proofs.YtflnlkaednpenaaDoor.MixG
