/- The region of (mix.Key).Sum that begins with an empty text: whatever the order, one end. -/
import Derived.Test.YtflnlkaednpenaaDoorMixS
import Derived.Test.YtflnlkaednpenaaDoorMixJ
import Derived.Test.YtflnlkaednpenaaDoorRepeatR
namespace Go.Proofs.YtflnlkaednpenaaDoor.MixL
open Go.RowKit Go.Proofs.YtflnlkaednpenaaDoorW.PrintWords Go.Proofs.YtflnlkaednpenaaDoorW.PrintLast Go.Proofs.YtflnlkaednpenaaDoorW.PrintMore Go.Proofs.YtflnlkaednpenaaDoor.State Go.Proofs.YtflnlkaednpenaaDoor.MixW Go.Proofs.YtflnlkaednpenaaDoor.MixV Go.Proofs.YtflnlkaednpenaaDoor.MixI Go.Proofs.YtflnlkaednpenaaDoor.MixJ
set_option linter.unusedVariables false
set_option linter.unusedSimpArgs false
structure Shape2 (ops : Array Oper) (opl : List Op) (aft : List (List Nat)) (dsts : List Nat) : Prop where
  op : ops.toList.map (·.op) = opl
  dst : ops.toList.map (·.dst) = dsts.map some
  guard : ops.toList.map (·.guard.isNone) = List.replicate opl.length true
  aft : ops.toList.map (fun o => o.after.toList.map fun e => (e.on, Region.binds .any e)) = aft.map (·.map (·, true))
theorem aft_mem2 {ops : Array Oper} {opl : List Op} {aft : List (List Nat)} {dsts : List Nat} {i : Nat} {o : Oper} (h : Shape2 ops opl aft dsts) (ho : ops[i]? = some o) :
    (∀ e ∈ o.after.toList, Region.binds .any e = true ∧ e.on ∈ aft.getD i []) ∧ (∀ j ∈ aft.getD i [], ∃ e ∈ o.after.toList, e.on = j) := by
  have h1 := congrArg (fun l => l[i]?) h.aft
  have ho2 : ops.toList[i]? = some o := by simpa using ho
  simp only [List.getElem?_map, ho2, Option.map_some] at h1
  cases hx : aft[i]? with
  | none => rw [hx] at h1; cases h1
  | some l =>
    rw [hx] at h1
    simp only [Option.map_some, Option.some.injEq] at h1
    have hg : aft.getD i [] = l := by rw [List.getD_eq_getElem?_getD, hx]; rfl
    rw [hg]
    constructor
    · intro e he
      have hm : (e.on, Region.binds .any e) ∈ l.map (fun x => (x, true)) := by rw [← h1]; exact List.mem_map_of_mem (f := fun e : Edge => (e.on, Region.binds .any e)) he
      obtain ⟨x, hx1, hx2⟩ := List.mem_map.1 hm
      injection hx2 with h3 h4
      exact ⟨h4.symm, h3 ▸ hx1⟩
    · intro j hj
      have hm : (j, true) ∈ o.after.toList.map (fun e => (e.on, Region.binds .any e)) := by rw [h1]; exact List.mem_map_of_mem (f := fun x => (x, true)) hj
      obtain ⟨e, he, hx2⟩ := List.mem_map.1 hm
      injection hx2 with h3 h4
      exact ⟨e, he, h3⟩
theorem shape_run2 {id : Nat} {ops : Array Oper} {Q : Exit → Act → World → Prop} {a0 : Act} {w0 : World} {opl : List Op} {aft : List (List Nat)} {dsts : List Nat} (n N s : Nat) (ps : Value) (V : Nat → Value) (R : World → Prop)
    (h : Shape2 ops opl aft dsts) (hn : opl.length = n) (hdl : dsts.length = n) (hc1 : ((List.range n).all fun i => (aft.getD i []).all (· < i)) = true) (hnd : ∀ i, i < n → ∀ j, j < n → dsts.getD i 0 = dsts.getD j 0 → i = j) (hdn : ∀ d ∈ dsts, d < N ∧ d ≠ s)
    (hrun : ∀ (i : Nat) (op : Op), i < n → opl[i]? = some op → ∀ (o : Oper) (a : Act) (w : World), o.op = op → a.tmps.getD s undef = ps → R w → (∀ j ∈ aft.getD i [], a.tmps.getD (dsts.getD j 0) undef = V j) → ∀ K : Act → World → Prop, (∀ w2, R w2 → K (a.put o.dst (V i)) w2) → o.wp Tryd.prog a w K Q)
    (hF1 : a0.tmps.size = N) (hF2 : a0.defers = []) (hF3 : a0.tmps.getD s undef = ps) (hR : R w0.drew)
    (hend : ∀ a w, a.tmps.size = N → a.defers = [] → a.tmps.getD s undef = ps → (∀ i, i < n → a.tmps.getD (dsts.getD i 0) undef = V i) → R w → Q .normal a w) : (Code.region id ops true).wp Tryd.prog Q a0 w0 := by
  have hs : ops.size = n := by
    have := congrArg List.length h.op
    simpa [hn] using this
  have hop : ∀ (i : Nat) (o : Oper), ops[i]? = some o → opl[i]? = some o.op := by
    intro i o ho
    have h1 := congrArg (fun l => l[i]?) h.op
    have ho2 : ops.toList[i]? = some o := by simpa using ho
    simp only [List.getElem?_map, ho2, Option.map_some] at h1
    exact h1.symm
  have hlt : ∀ (i : Nat) (o : Oper), ops[i]? = some o → i < n := fun i o ho => by rw [← hs]; exact (Array.getElem?_eq_some_iff.1 ho).1
  have hle : ∀ i, i < n → ∀ j ∈ aft.getD i [], j < i := by
    intro i hi j hj
    have h1 := List.all_eq_true.1 hc1 i (List.mem_range.2 hi)
    simpa using List.all_eq_true.1 h1 j hj
  have hmem : ∀ i, i < n → dsts.getD i 0 ∈ dsts := fun i hi => by
    have : i < dsts.length := by omega
    rw [List.getD_eq_getElem?_getD, List.getElem?_eq_getElem this]; exact List.getElem_mem _
  refine region_inv2 (n := n) (V := V) (dst := fun i => dsts.getD i 0) (F := fun a => a.tmps.size = N ∧ a.defers = [] ∧ a.tmps.getD s undef = ps) (R := R) (by kernel_rfl) hs ?_ ?_ ?_ ?_ ?_ ?_ ?_ ⟨hF1, hF2, hF3⟩ hR (fun a w h1 h2 h3 => hend a w h1.1 h1.2.1 h1.2.2 h2 h3)
  · intro i o ho
    have h1 := congrArg (fun l => l[i]?) h.dst
    have ho2 : ops.toList[i]? = some o := by simpa using ho
    simp only [List.getElem?_map, ho2, Option.map_some] at h1
    have hi : i < dsts.length := by have := hlt i o ho; omega
    rw [List.getElem?_eq_getElem hi] at h1
    simp only [Option.map_some, Option.some.injEq] at h1
    rw [h1, List.getD_eq_getElem?_getD, List.getElem?_eq_getElem hi]; rfl
  · intro i j hi hj he
    exact hnd i hi j hj he
  · intro i o ho
    have h1 := congrArg (fun l => l[i]?) h.guard
    have ho2 : ops.toList[i]? = some o := by simpa using ho
    simp only [List.getElem?_map, ho2, Option.map_some, List.getElem?_replicate] at h1
    split at h1
    · simp at h1; exact h1
    · cases h1
  · intro i o ho e he
    obtain ⟨h1, h2⟩ := (aft_mem2 h ho).1 e he
    exact ⟨h1, hle i (hlt i o ho) _ h2⟩
  · intro i a v hi hF
    refine ⟨by simp [Act.put, hF.1], hF.2.1, ?_⟩
    rw [← hF.2.2]
    exact Go.Proofs.YtflnlkaednpenaaDoor.MixI.getD_set_ne _ _ _ _ (hdn _ (hmem i hi)).2
  · intro i a hi hF
    rw [hF.1]; exact (hdn _ (hmem i hi)).1
  · intro i o ho a w hF hR2 hv K hK
    refine hrun i o.op (hlt i o ho) (hop i o ho) o a w rfl hF.2.2 hR2 ?_ K hK
    intro j hj
    obtain ⟨e, he, rfl⟩ := (aft_mem2 h ho).2 j hj
    exact hv e he
section runs
variable {ρ : Operand → Value} {o : Oper} {w : World}
theorem r_field {x : Operand} {g : Nat} (h : o.op = .fieldAddr 35 x 0) (e : ρ x = .pointer (some ⟨g, 0, none⟩)) : (execOp ρ o).run Tryd.prog w = .ok (.value (.pointer (some ⟨g, 0, none⟩))) w := by
  simp [execOp, h, e, go_sem]
theorem r_loads {x : Operand} {p : Addr} {v : Value} (h : o.op = .load 9 x) (e : ρ x = .pointer (some p)) (c : w.cell? p = some v) : (execOp ρ o).run Tryd.prog w = .ok (.value v) w := by
  simp [execOp, h, e, go_sem, c]
theorem r_len {x : Operand} {s : ByteArray} (h : o.op = .call { callee := .builtin .len, args := #[x], argTypes := #[9] }) (e : ρ x = .string s) : (execOp ρ o).run Tryd.prog w = .ok (.value (.int .i64 s.size)) w := by
  simp [execOp, h, e, go_sem]
theorem r_sub {y : Operand} {q : Int} (h : o.op = .binOp .sub 3 (.const (.int .i64 64)) y 3) (hc : ρ (.const (.int .i64 64)) = .int .i64 64) (f : ρ y = .int .i64 q) (h0 : 0 ≤ q) (h1 : q ≤ 64) : (execOp ρ o).run Tryd.prog w = .ok (.value (.int .i64 (64 - q))) w := by
  have hw : IntKind.i64.wrap (64 - q) = 64 - q := (i64_w _).trans (IntWalk.wrap64_in _ ⟨by omega, by omega⟩)
  simp [execOp, h, hc, f, go_sem, hw]
theorem r_cat {x y : Operand} {p q : ByteArray} (h : o.op = .binOp .add 9 x y 9) (e : ρ x = .string p) (f : ρ y = .string q) (hs : p.size + q.size ≤ 9223372036854775807) : (execOp ρ o).run Tryd.prog w = .ok (.value (.string (p ++ q))) w := by
  simp [execOp, h, e, f, go_sem, hs]
theorem r_assign {x : Operand} {v : Value} (h : o.op = .assign x) (e : ρ x = v) : (execOp ρ o).run Tryd.prog w = .ok (.value v) w := by
  unfold execOp; rw [h]; subst e; rfl
theorem r_call1 {x : Operand} {v : Value} (h : o.op = .call { callee := .value (.func 14), args := #[x], argTypes := #[3] }) (hf : ρ (.func 14) = .func (.func 14) #[] #[]) (e : ρ x = v) :
    (execOp ρ o).run Tryd.prog w = .ok (.enter 14 #[v]) w := by
  simp [execOp, h, hf, e, go_sem]
theorem r_call2 {x y : Operand} {v u : Value} (h : o.op = .call { callee := .value (.func 24), args := #[x, y], argTypes := #[9, 3] }) (hf : ρ (.func 24) = .func (.func 24) #[] #[]) (e : ρ x = v) (f : ρ y = u) :
    (execOp ρ o).run Tryd.prog w = .ok (.enter 24 #[v, u]) w := by
  simp [execOp, h, hf, e, f, go_sem]
theorem r_call3 {x y z : Operand} {v u t : Value} (h : o.op = .call { callee := .value (.func 15), args := #[x, y, z], argTypes := #[31, 9, 3] }) (hf : ρ (.func 15) = .func (.func 15) #[] #[]) (e : ρ x = v) (f : ρ y = u) (g : ρ z = t) :
    (execOp ρ o).run Tryd.prog w = .ok (.enter 15 #[v, u, t]) w := by
  simp [execOp, h, hf, e, f, g, go_sem]
end runs
def ops_k : List Op := [.fieldAddr 35 (.tmp 2) 0, .load 9 (.tmp 14), .call { callee := .builtin .len, args := #[.tmp 15], argTypes := #[9] }, .call { callee := .value (.func 14), args := #[.tmp 16], argTypes := #[3] },
  .fieldAddr 35 (.tmp 2) 0, .load 9 (.tmp 18), .fieldAddr 35 (.tmp 2) 0, .load 9 (.tmp 20), .call { callee := .builtin .len, args := #[.tmp 21], argTypes := #[9] }, .binOp .sub 3 (.const (.int .i64 64)) (.tmp 22) 3,
  .call { callee := .value (.func 24), args := #[.const (.string ⟨#[0]⟩), .tmp 23], argTypes := #[9, 3] }, .binOp .add 9 (.tmp 19) (.tmp 24) 9, .call { callee := .value (.func 15), args := #[.tmp 17, .tmp 25, .const (.int .i64 0)], argTypes := #[31, 9, 3] }, .assign (.tmp 26)]
def aft_k : List (List Nat) := [[], [0], [1], [2], [], [4], [], [6], [7], [8], [9, 3], [5, 10], [3, 11, 10], [12, 12, 0, 1, 2, 3, 4, 5, 6, 7, 8, 9, 10, 11, 12]]
def dst_k : List Nat := [14, 15, 16, 17, 18, 19, 20, 21, 22, 23, 24, 25, 26, 4]
def val_k (g : Nat) (k pad res : ByteArray) (hv : Array Value) : Nat → Value
  | 0 => .pointer (some ⟨g, 0, none⟩)
  | 1 => .string k
  | 2 => .int .i64 k.size
  | 3 => .agg hv
  | 4 => .pointer (some ⟨g, 0, none⟩)
  | 5 => .string k
  | 6 => .pointer (some ⟨g, 0, none⟩)
  | 7 => .string k
  | 8 => .int .i64 k.size
  | 9 => .int .i64 (64 - (k.size : Int))
  | 10 => .string pad
  | 11 => .string (k ++ pad)
  | 12 => .string res
  | _ => .string res
theorem upon_call {o : Oper} {a : Act} {w : World} {K : Act → World → Prop} {Q : Exit → Act → World → Prop} {f : Nat} {vs : Array Value} {v : Value} {R : World → Prop} (h : (execOp a.eval o).run Tryd.prog w = .ok (.enter f vs) w) (hc : Calls Tryd.prog f vs w fun e w2 => e = .returned v ∧ R w2) (hK : ∀ w2, R w2 → K (a.put o.dst v) w2) : o.wp Tryd.prog a w K Q := by
  unfold Oper.wp; rw [h]
  refine hc.mono ?_
  rintro e w2 ⟨rfl, hw⟩
  exact hK w2 hw
theorem step_k {id : Nat} {ops : Array Oper} {Q : Exit → Act → World → Prop} {a0 : Act} {w0 : World} (g : Nat) (k pad res : ByteArray) (hv : Array Value) (R : World → Prop) (h : Shape2 ops ops_k aft_k dst_k) (hk : k.size ≤ 32) (hp : pad.size ≤ 64)
    (hcell : ∀ w, R w → w.cell? ⟨g, 0, none⟩ = some (.string k))
    (hB : ∀ w, R w → Calls Tryd.prog 14 #[.int .i64 k.size] w fun e w2 => e = .returned (.agg hv) ∧ R w2)
    (hP : ∀ w, R w → Calls Tryd.prog 24 #[.string ⟨#[0]⟩, .int .i64 (64 - (k.size : Int))] w fun e w2 => e = .returned (.string pad) ∧ R w2)
    (hF : ∀ w, R w → Calls Tryd.prog 15 #[.agg hv, .string (k ++ pad), .int .i64 0] w fun e w2 => e = .returned (.string res) ∧ R w2)
    (hF1 : a0.tmps.size = 31) (hF2 : a0.defers = []) (hF3 : a0.tmps.getD 2 undef = .pointer (some ⟨g, 0, none⟩)) (hR : R w0.drew)
    (hend : ∀ a w, a.defers = [] → a.tmps.getD 4 undef = .string res → R w → Q .normal a w) : (Code.region id ops true).wp Tryd.prog Q a0 w0 := by
  refine shape_run2 14 31 2 (.pointer (some ⟨g, 0, none⟩)) (val_k g k pad res hv) R h rfl rfl (by decide) (by decide) (by decide) ?_ hF1 hF2 hF3 hR (fun a w h1 h2 h3 h4 h5 => hend a w h2 (h4 13 (by decide)) h5)
  intro i op hi hop o a w ho hs hR hv2 K hK
  match i, hi with
  | 0, _ => injection hop with hop; subst hop; exact upon_val (r_field ho hs) (hK _ hR)
  | 1, _ => injection hop with hop; subst hop; exact upon_val (r_loads ho (hv2 0 (by decide)) (hcell w hR)) (hK _ hR)
  | 2, _ => injection hop with hop; subst hop; exact upon_val (r_len ho (hv2 1 (by decide))) (hK _ hR)
  | 3, _ => injection hop with hop; subst hop; exact upon_call (r_call1 ho rfl (hv2 2 (by decide))) (hB w hR) hK
  | 4, _ => injection hop with hop; subst hop; exact upon_val (r_field ho hs) (hK _ hR)
  | 5, _ => injection hop with hop; subst hop; exact upon_val (r_loads ho (hv2 4 (by decide)) (hcell w hR)) (hK _ hR)
  | 6, _ => injection hop with hop; subst hop; exact upon_val (r_field ho hs) (hK _ hR)
  | 7, _ => injection hop with hop; subst hop; exact upon_val (r_loads ho (hv2 6 (by decide)) (hcell w hR)) (hK _ hR)
  | 8, _ => injection hop with hop; subst hop; exact upon_val (r_len ho (hv2 7 (by decide))) (hK _ hR)
  | 9, _ => injection hop with hop; subst hop; exact upon_val (r_sub ho rfl (hv2 8 (by decide)) (by omega) (by omega)) (hK _ hR)
  | 10, _ => injection hop with hop; subst hop; exact upon_call (r_call2 ho rfl rfl (hv2 9 (by decide))) (hP w hR) hK
  | 11, _ => injection hop with hop; subst hop; exact upon_val (r_cat ho (hv2 5 (by decide)) (hv2 10 (by decide)) (by omega)) (hK _ hR)
  | 12, _ => injection hop with hop; subst hop; exact upon_call (r_call3 ho rfl (hv2 3 (by decide)) (hv2 11 (by decide)) rfl) (hF w hR) hK
  | 13, _ => injection hop with hop; subst hop; exact upon_val (r_assign ho (hv2 12 (by decide))) (hK _ hR)
end Go.Proofs.YtflnlkaednpenaaDoor.MixL
