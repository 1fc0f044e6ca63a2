/- The three kinds of statement of a stir, over a variable frame. -/
import Derived.Test.YtflnlkaednpenaaDoorMixI
namespace Go.Proofs.YtflnlkaednpenaaDoor.MixJ
open Go.RowKit Go.Proofs.YtflnlkaednpenaaDoorW.PrintWords Go.Proofs.YtflnlkaednpenaaDoor.State Go.Proofs.YtflnlkaednpenaaDoor.MixW Go.Proofs.YtflnlkaednpenaaDoor.MixI
set_option linter.unusedVariables false
set_option linter.unusedSimpArgs false
section runs
variable {ρ : Operand → Value} {o : Oper} {w : World}
theorem r_move {x : Operand} {v : Value} (h : o.op = .move x) (e : ρ x = v) : (execOp ρ o).run Tryd.prog w = .ok (.value v) w := by
  unfold execOp; rw [h]; subst e; rfl
theorem r_nil {x : Operand} {p : Addr} (h : o.op = .nilCheck x) (e : ρ x = .pointer (some p)) : (execOp ρ o).run Tryd.prog w = .ok (.value (.pointer (some p))) w := by
  simp [execOp, h, e, go_sem]
theorem r_idx {x y : Operand} {g : Nat} {k : Int} (h : o.op = .indexAddr 49 x y) (e : ρ x = .pointer (some ⟨g, 0, none⟩)) (f : ρ y = .int .i64 k) (h0 : 0 ≤ k) (h1 : k < 16) :
    (execOp ρ o).run Tryd.prog w = .ok (.value (.pointer (some ⟨g, k.toNat, none⟩))) w := by
  have hu := Tryd.underlying49
  have h1' : k.toNat < 16 := by omega
  simp [execOp, h, e, f, go_sem, hu, h0, h1]
theorem r_idxr {x y : Operand} {g : Nat} {k : Int} (h : o.op = .indexAddr 50 x y) (e : ρ x = .pointer (some ⟨g, 0, none⟩)) (f : ρ y = .int .i64 k) (h0 : 0 ≤ k) (h1 : k < 16) :
    (execOp ρ o).run Tryd.prog w = .ok (.value (.pointer (some ⟨g, k.toNat, none⟩))) w := by
  have hu := Tryd.underlying50
  simp [execOp, h, e, f, go_sem, hu, h0, h1]
theorem r_load {x : Operand} {p : Addr} {v : Value} (h : o.op = .load 29 x) (e : ρ x = .pointer (some p)) (c : w.cell? p = some v) : (execOp ρ o).run Tryd.prog w = .ok (.value v) w := by
  simp [execOp, h, e, go_sem, c]
theorem r_loadr {x : Operand} {p : Addr} {v : Value} (h : o.op = .load 3 x) (e : ρ x = .pointer (some p)) (c : w.cell? p = some v) : (execOp ρ o).run Tryd.prog w = .ok (.value v) w := by
  simp [execOp, h, e, go_sem, c]
theorem r_add {x y : Operand} {p q : Int} (h : o.op = .binOp .add 29 x y 29) (e : ρ x = .int .u32 p) (f : ρ y = .int .u32 q) : (execOp ρ o).run Tryd.prog w = .ok (.value (.int .u32 ((p + q) % 4294967296))) w := by
  simp [execOp, h, e, f, go_sem]
  exact IntKind.wrap_u32 _
theorem r_xor {x y : Operand} {p q : Int} (h : o.op = .binOp .xor 29 x y 29) (e : ρ x = .int .u32 p) (f : ρ y = .int .u32 q) : (execOp ρ o).run Tryd.prog w = .ok (.value (.int .u32 (Go.bits .xor .u32 p q))) w := by
  simp [execOp, h, e, f, go_sem]
theorem r_store {x y : Operand} {p : Addr} {v : Int} {u : Value} (h : o.op = .store 29 x y) (e : ρ x = .pointer (some p)) (f : ρ y = .int .u32 v) (c : w.cell? p = some u) (z : w.frozen? p = false) : (execOp ρ o).run Tryd.prog w = .ok .skip (w.setCell p (.int .u32 v)) := by
  simp [execOp, h, e, f, go_sem, c, z]
theorem r_call {x : Operand} {k : Int} {v : Value} (h : o.op = .call { callee := .value (.func 35), args := #[x, .const (.int .i64 k)], argTypes := #[29, 3] }) (e : ρ x = v) (hc : ρ (.const (.int .i64 k)) = .int .i64 k) (hf : ρ (.func 35) = .func (.func 35) #[] #[]) :
    (execOp ρ o).run Tryd.prog w = .ok (.enter 35 #[v, .int .i64 k]) w := by
  simp [execOp, h, e, hc, hf, go_sem]
end runs
theorem upon_val {o : Oper} {a : Act} {w : World} {K : Act → World → Prop} {Q : Exit → Act → World → Prop} {v : Value} (h : (execOp a.eval o).run Tryd.prog w = .ok (.value v) w) (hK : K (a.put o.dst v) w) : o.wp Tryd.prog a w K Q := by
  unfold Oper.wp; rw [h]; exact hK
structure Shape (ops : Array Oper) (opl : List Op) (aft : List (List Nat)) (b : Nat) : Prop where
  op : ops.toList.map (·.op) = opl
  dst : ops.toList.map (·.dst) = (List.range (opl.length - 1)).map (fun i => some (b + i)) ++ [none]
  guard : ops.toList.map (·.guard.isNone) = List.replicate opl.length true
  aft : ops.toList.map (fun o => o.after.toList.map fun e => (e.on, Region.binds .any e)) = aft.map (·.map (·, true))
/-- What the last waits for, and what these wait for, so many times. -/
def clo (aft : List (List Nat)) (n : Nat) : Nat → List Nat
  | 0 => aft.getD n []
  | k + 1 => clo aft n k ++ (clo aft n k).flatMap fun j => aft.getD j []
theorem aft_mem {ops : Array Oper} {opl : List Op} {aft : List (List Nat)} {b i : Nat} {o : Oper} (h : Shape ops opl aft b) (ho : ops[i]? = some o) :
    (∀ e ∈ o.after.toList, Region.binds .any e = true ∧ e.on ∈ aft.getD i []) ∧ (∀ j ∈ aft.getD i [], ∃ e ∈ o.after.toList, e.on = j) := by
  have h1 := congrArg (fun l => l[i]?) h.aft
  have ho2 : ops.toList[i]? = some o := by simpa using ho
  simp only [List.getElem?_map, ho2, Option.map_some] at h1
  cases hx : aft[i]? with
  | none => rw [hx] at h1; cases h1
  | some l =>
    rw [hx] at h1
    simp only [Option.map_some, Option.some.injEq] at h1
    have hg : aft.getD i [] = l := by rw [List.getD_eq_getElem?_getD, hx]; rfl
    rw [hg]
    constructor
    · intro e he
      have hm : (e.on, Region.binds .any e) ∈ l.map (fun x => (x, true)) := by rw [← h1]; exact List.mem_map_of_mem (f := fun e : Edge => (e.on, Region.binds .any e)) he
      obtain ⟨x, hx1, hx2⟩ := List.mem_map.1 hm
      injection hx2 with h3 h4
      exact ⟨h4.symm, h3 ▸ hx1⟩
    · intro j hj
      have hm : (j, true) ∈ o.after.toList.map (fun e => (e.on, Region.binds .any e)) := by rw [h1]; exact List.mem_map_of_mem (f := fun x => (x, true)) hj
      obtain ⟨e, he, hx2⟩ := List.mem_map.1 hm
      injection hx2 with h3 h4
      exact ⟨e, he, h3⟩
theorem shape_run {id : Nat} {ops : Array Oper} {Q : Exit → Act → World → Prop} {a0 : Act} {w0 W2 : World} {opl : List Op} {aft : List (List Nat)} (n b N : Nat) {p0 p1 p2 : Value} (V : Nat → Value)
    (h : Shape ops opl aft b) (hb : 3 ≤ b) (hN : b + n ≤ N) (hn : opl.length = n + 1) (hc1 : ((List.range (n + 1)).all fun i => (aft.getD i []).all (· < i)) = true) (hc2 : ((List.range n).all fun j => (clo aft n 2).contains j) = true)
    (hrun : ∀ (i : Nat) (op : Op), i < n → opl[i]? = some op → ∀ (o : Oper) (a : Act), o.op = op → Fr N p0 p1 p2 a → (∀ j ∈ aft.getD i [], a.tmps.getD (b + j) undef = V j) → ∀ K : Act → World → Prop, K (a.put o.dst (V i)) w0.drew → o.wp Tryd.prog a w0.drew K Q)
    (hlast : ∀ op : Op, opl[n]? = some op → ∀ (o : Oper) (a : Act), o.op = op → (∀ j ∈ aft.getD n [], a.tmps.getD (b + j) undef = V j) → (execOp a.eval o).run Tryd.prog w0.drew = .ok .skip W2)
    (hF : Fr N p0 p1 p2 a0) (hend : ∀ a, Fr N p0 p1 p2 a → Q .normal a W2) : (Code.region id ops true).wp Tryd.prog Q a0 w0 := by
  have hs : ops.size = n + 1 := by
    have := congrArg List.length h.op
    simpa [hn] using this
  have hop : ∀ (i : Nat) (o : Oper), ops[i]? = some o → opl[i]? = some o.op := by
    intro i o ho
    have h1 := congrArg (fun l => l[i]?) h.op
    have ho2 : ops.toList[i]? = some o := by simpa using ho
    simp only [List.getElem?_map, ho2, Option.map_some] at h1
    exact h1.symm
  have hlt : ∀ (i : Nat) (o : Oper), ops[i]? = some o → i < n + 1 := fun i o ho => by rw [← hs]; exact (Array.getElem?_eq_some_iff.1 ho).1
  have hle : ∀ i, i < n + 1 → ∀ j ∈ aft.getD i [], j < i := by
    intro i hi j hj
    have h1 := List.all_eq_true.1 hc1 i (List.mem_range.2 hi)
    simpa using List.all_eq_true.1 h1 j hj
  have hdst : ∀ (i : Nat) (o : Oper), ops[i]? = some o → o.dst = if i < n then some (b + i) else none := by
    intro i o ho
    have h1 := congrArg (fun l => l[i]?) h.dst
    have ho2 : ops.toList[i]? = some o := by simpa using ho
    simp only [List.getElem?_map, ho2, Option.map_some] at h1
    have hl := hlt i o ho
    by_cases hi : i < n
    · rw [if_pos hi]
      rw [List.getElem?_append_left (by simp [hn]; omega)] at h1
      simp [hn, hi] at h1
      exact h1
    · rw [if_neg hi]
      obtain rfl : i = n := by omega
      rw [List.getElem?_append_right (by simp [hn])] at h1
      simp [hn] at h1
      exact h1
  refine region_inv (V := V) (by kernel_rfl) hb hN hs hdst ?_ ?_ ?_ ?_ ?_ hF hend
  · intro i o ho
    have h1 := congrArg (fun l => l[i]?) h.guard
    have ho2 : ops.toList[i]? = some o := by simpa using ho
    simp only [List.getElem?_map, ho2, Option.map_some, List.getElem?_replicate] at h1
    split at h1
    · simp at h1; exact h1
    · cases h1
  · intro L hcl hla j hj
    have key : ∀ k, ∀ j ∈ clo aft n k, j < n ∧ L j := by
      intro k
      induction k with
      | zero =>
        intro j hj
        have ho : ops[n]? = some (ops[n]'(by omega)) := by simp
        obtain ⟨e, he, rfl⟩ := (aft_mem h ho).2 j hj
        exact ⟨hle n (by omega) _ hj, hla _ ho e he⟩
      | succ k ih =>
        intro j hj
        rw [clo] at hj
        rcases List.mem_append.1 hj with hj | hj
        · exact ih j hj
        · obtain ⟨i, hi, hj⟩ := List.mem_flatMap.1 hj
          obtain ⟨h1, h2⟩ := ih i hi
          have ho : ops[i]? = some (ops[i]'(by omega)) := by simp
          obtain ⟨e, he, rfl⟩ := (aft_mem h ho).2 j hj
          have := hle i (by omega) _ hj
          exact ⟨by omega, hcl i _ ho h2 e he⟩
    have h2 := List.all_eq_true.1 hc2 j (List.mem_range.2 hj)
    exact (key 2 j (by simpa using h2)).2
  · intro i o ho e he
    obtain ⟨h1, h2⟩ := (aft_mem h ho).1 e he
    exact ⟨h1, hle i (hlt i o ho) _ h2⟩
  · intro i o hi ho a hF hv K hK
    refine hrun i o.op hi (hop i o ho) o a rfl hF ?_ K hK
    intro j hj
    obtain ⟨e, he, rfl⟩ := (aft_mem h ho).2 j hj
    exact hv e he
  · intro o ho a hF hv K hK
    have h1 := hlast o.op (hop n o ho) o a rfl (fun j hj => by
      obtain ⟨e, he, rfl⟩ := (aft_mem h ho).2 j hj
      exact hv e he)
    unfold Oper.wp
    rw [h1]
    have hd := hdst n o ho
    rw [if_neg (by omega)] at hd
    show K (a.put o.dst undef) W2
    rw [hd]
    exact hK
def ops_rot (b : Nat) (d a : Int) (k : Int) : List Op := [.move (.tmp 0), .move (.tmp 0), .nilCheck (.tmp (b + 1)), .indexAddr 49 (.tmp (b + 2)) (.const (.int .i64 d)), .load 29 (.tmp (b + 3)), .move (.tmp 0), .nilCheck (.tmp (b + 5)), .indexAddr 49 (.tmp (b + 6)) (.const (.int .i64 a)), .load 29 (.tmp (b + 7)), .binOp .xor 29 (.tmp (b + 4)) (.tmp (b + 8)) 29, .call { callee := .value (.func 35), args := #[.tmp (b + 9), .const (.int .i64 k)], argTypes := #[29, 3] }, .nilCheck (.tmp (b + 0)), .indexAddr 49 (.tmp (b + 11)) (.const (.int .i64 d)), .store 29 (.tmp (b + 12)) (.tmp (b + 10))]
def aft_rot : List (List Nat) := [[], [], [1], [2], [3], [], [5], [6], [7], [4, 8], [9], [0], [11, 0, 1, 2, 3, 4, 5, 6, 7, 8, 9, 10], [12, 10, 10, 0, 1, 2, 3, 4, 5, 6, 7, 8, 9, 10]]
def val_rot (gw : Nat) (d a yd ya r : Int) : Nat → Value
  | 0 => .pointer (some ⟨gw, 0, none⟩)
  | 1 => .pointer (some ⟨gw, 0, none⟩)
  | 2 => .pointer (some ⟨gw, 0, none⟩)
  | 3 => .pointer (some ⟨gw, d.toNat, none⟩)
  | 4 => .int .u32 yd
  | 5 => .pointer (some ⟨gw, 0, none⟩)
  | 6 => .pointer (some ⟨gw, 0, none⟩)
  | 7 => .pointer (some ⟨gw, a.toNat, none⟩)
  | 8 => .int .u32 ya
  | 9 => .int .u32 (Go.bits .xor .u32 yd ya)
  | 10 => .int .u32 (rot (Go.bits .xor .u32 yd ya) r)
  | 11 => .pointer (some ⟨gw, 0, none⟩)
  | 12 => .pointer (some ⟨gw, d.toNat, none⟩)
  | _ => undef
set_option maxHeartbeats 1000000 in
theorem step_rot {id : Nat} {ops : Array Oper} {Q : Exit → Act → World → Prop} {a0 : Act} {w : World} {N gw gm gr : Nat} {yd ya : Int} (b : Nat) (d a : Int) (k r : Int) (hC : ∀ (x : Int) (W : World), Calls Tryd.prog 35 #[.int .u32 x, .int .i64 k] W fun e w2 => e = .returned (.int .u32 (rot x r)) ∧ w2 = W) (h : Shape ops (ops_rot b d a k) aft_rot b) (hb : 3 ≤ b) (hN : b + 13 ≤ N)
    (hd0 : 0 ≤ d) (hd1 : d < 16) (ha0 : 0 ≤ a) (ha1 : a < 16) (hcd : w.cell? ⟨gw, d.toNat, none⟩ = some (.int .u32 yd)) (hca : w.cell? ⟨gw, a.toNat, none⟩ = some (.int .u32 ya)) (hf : w.frozen? ⟨gw, d.toNat, none⟩ = false)
    (hF : Fr N (.pointer (some ⟨gw, 0, none⟩)) (.pointer (some ⟨gm, 0, none⟩)) (.pointer (some ⟨gr, 0, none⟩)) a0) (hend : ∀ a2 W2, Fr N (.pointer (some ⟨gw, 0, none⟩)) (.pointer (some ⟨gm, 0, none⟩)) (.pointer (some ⟨gr, 0, none⟩)) a2 → W2 = w.drew.setCell ⟨gw, d.toNat, none⟩ (.int .u32 (rot (Go.bits .xor .u32 yd ya) r)) → Q .normal a2 W2) : (Code.region id ops true).wp Tryd.prog Q a0 w := by
  refine shape_run 13 b N (val_rot gw d a yd ya r) h hb hN rfl (by decide) (by decide) ?_ ?_ hF (fun a2 h2 => hend a2 _ h2 rfl)
  · intro i op hi hop o a ho hF hv K hK
    match i, hi with
    | 0, _ =>
      injection hop with hop; subst hop
      exact upon_val (r_move ho hF.s0) hK
    | 1, _ =>
      injection hop with hop; subst hop
      exact upon_val (r_move ho hF.s0) hK
    | 2, _ =>
      injection hop with hop; subst hop
      exact upon_val (r_nil ho (hv 1 (by decide))) hK
    | 3, _ =>
      injection hop with hop; subst hop
      exact upon_val (r_idx ho (hv 2 (by decide)) rfl hd0 hd1) hK
    | 4, _ =>
      injection hop with hop; subst hop
      exact upon_val (r_load ho (hv 3 (by decide)) hcd) hK
    | 5, _ =>
      injection hop with hop; subst hop
      exact upon_val (r_move ho hF.s0) hK
    | 6, _ =>
      injection hop with hop; subst hop
      exact upon_val (r_nil ho (hv 5 (by decide))) hK
    | 7, _ =>
      injection hop with hop; subst hop
      exact upon_val (r_idx ho (hv 6 (by decide)) rfl ha0 ha1) hK
    | 8, _ =>
      injection hop with hop; subst hop
      exact upon_val (r_load ho (hv 7 (by decide)) hca) hK
    | 9, _ =>
      injection hop with hop; subst hop
      exact upon_val (r_xor ho (hv 4 (by decide)) (hv 8 (by decide))) hK
    | 10, _ =>
      injection hop with hop; subst hop
      unfold Oper.wp
      rw [r_call ho (hv 9 (by decide)) rfl rfl]
      refine (hC _ _).mono ?_
      rintro e w2 ⟨rfl, hw2⟩
      rw [hw2]
      exact hK
    | 11, _ =>
      injection hop with hop; subst hop
      exact upon_val (r_nil ho (hv 0 (by decide))) hK
    | 12, _ =>
      injection hop with hop; subst hop
      exact upon_val (r_idx ho (hv 11 (by decide)) rfl hd0 hd1) hK
  · intro op hop o a ho hv
    injection hop with hop; subst hop
    exact r_store ho (hv 12 (by decide)) (hv 10 (by decide)) hcd hf
def ops_sum (b : Nat) (d a : Int) : List Op := [.move (.tmp 0), .nilCheck (.tmp (b + 0)), .indexAddr 49 (.tmp (b + 1)) (.const (.int .i64 d)), .load 29 (.tmp (b + 2)), .move (.tmp 0), .nilCheck (.tmp (b + 4)), .indexAddr 49 (.tmp (b + 5)) (.const (.int .i64 a)), .load 29 (.tmp (b + 6)), .binOp .add 29 (.tmp (b + 3)) (.tmp (b + 7)) 29, .nilCheck (.tmp (b + 0)), .indexAddr 49 (.tmp (b + 9)) (.const (.int .i64 d)), .store 29 (.tmp (b + 10)) (.tmp (b + 8))]
def aft_sum : List (List Nat) := [[], [0], [1], [2], [], [4], [5], [6], [3, 7], [0], [9, 0, 1, 2, 3, 4, 5, 6, 7, 8], [10, 8, 0, 1, 2, 3, 4, 5, 6, 7, 8]]
def val_sum (gw : Nat) (d a yd ya : Int) : Nat → Value
  | 0 => .pointer (some ⟨gw, 0, none⟩)
  | 1 => .pointer (some ⟨gw, 0, none⟩)
  | 2 => .pointer (some ⟨gw, d.toNat, none⟩)
  | 3 => .int .u32 yd
  | 4 => .pointer (some ⟨gw, 0, none⟩)
  | 5 => .pointer (some ⟨gw, 0, none⟩)
  | 6 => .pointer (some ⟨gw, a.toNat, none⟩)
  | 7 => .int .u32 ya
  | 8 => .int .u32 ((yd + ya) % 4294967296)
  | 9 => .pointer (some ⟨gw, 0, none⟩)
  | 10 => .pointer (some ⟨gw, d.toNat, none⟩)
  | _ => undef
set_option maxHeartbeats 1000000 in
theorem step_sum {id : Nat} {ops : Array Oper} {Q : Exit → Act → World → Prop} {a0 : Act} {w : World} {N gw gm gr : Nat} {yd ya : Int} (b : Nat) (d a : Int) (h : Shape ops (ops_sum b d a) aft_sum b) (hb : 3 ≤ b) (hN : b + 11 ≤ N)
    (hd0 : 0 ≤ d) (hd1 : d < 16) (ha0 : 0 ≤ a) (ha1 : a < 16) (hcd : w.cell? ⟨gw, d.toNat, none⟩ = some (.int .u32 yd)) (hca : w.cell? ⟨gw, a.toNat, none⟩ = some (.int .u32 ya)) (hf : w.frozen? ⟨gw, d.toNat, none⟩ = false)
    (hF : Fr N (.pointer (some ⟨gw, 0, none⟩)) (.pointer (some ⟨gm, 0, none⟩)) (.pointer (some ⟨gr, 0, none⟩)) a0) (hend : ∀ a2 W2, Fr N (.pointer (some ⟨gw, 0, none⟩)) (.pointer (some ⟨gm, 0, none⟩)) (.pointer (some ⟨gr, 0, none⟩)) a2 → W2 = w.drew.setCell ⟨gw, d.toNat, none⟩ (.int .u32 ((yd + ya) % 4294967296)) → Q .normal a2 W2) : (Code.region id ops true).wp Tryd.prog Q a0 w := by
  refine shape_run 11 b N (val_sum gw d a yd ya) h hb hN rfl (by decide) (by decide) ?_ ?_ hF (fun a2 h2 => hend a2 _ h2 rfl)
  · intro i op hi hop o a ho hF hv K hK
    match i, hi with
    | 0, _ =>
      injection hop with hop; subst hop
      exact upon_val (r_move ho hF.s0) hK
    | 1, _ =>
      injection hop with hop; subst hop
      exact upon_val (r_nil ho (hv 0 (by decide))) hK
    | 2, _ =>
      injection hop with hop; subst hop
      exact upon_val (r_idx ho (hv 1 (by decide)) rfl hd0 hd1) hK
    | 3, _ =>
      injection hop with hop; subst hop
      exact upon_val (r_load ho (hv 2 (by decide)) hcd) hK
    | 4, _ =>
      injection hop with hop; subst hop
      exact upon_val (r_move ho hF.s0) hK
    | 5, _ =>
      injection hop with hop; subst hop
      exact upon_val (r_nil ho (hv 4 (by decide))) hK
    | 6, _ =>
      injection hop with hop; subst hop
      exact upon_val (r_idx ho (hv 5 (by decide)) rfl ha0 ha1) hK
    | 7, _ =>
      injection hop with hop; subst hop
      exact upon_val (r_load ho (hv 6 (by decide)) hca) hK
    | 8, _ =>
      injection hop with hop; subst hop
      exact upon_val (r_add ho (hv 3 (by decide)) (hv 7 (by decide))) hK
    | 9, _ =>
      injection hop with hop; subst hop
      exact upon_val (r_nil ho (hv 0 (by decide))) hK
    | 10, _ =>
      injection hop with hop; subst hop
      exact upon_val (r_idx ho (hv 9 (by decide)) rfl hd0 hd1) hK
  · intro op hop o a ho hv
    injection hop with hop; subst hop
    exact r_store ho (hv 10 (by decide)) (hv 8 (by decide)) hcd hf
def ops_add (b : Nat) (d a : Int) (k : Int) : List Op := [.move (.tmp 0), .nilCheck (.tmp (b + 0)), .indexAddr 49 (.tmp (b + 1)) (.const (.int .i64 d)), .load 29 (.tmp (b + 2)), .move (.tmp 0), .nilCheck (.tmp (b + 4)), .indexAddr 49 (.tmp (b + 5)) (.const (.int .i64 a)), .load 29 (.tmp (b + 6)), .move (.tmp 1), .move (.tmp 2), .nilCheck (.tmp (b + 9)), .indexAddr 50 (.tmp (b + 10)) (.const (.int .i64 k)), .load 3 (.tmp (b + 11)), .nilCheck (.tmp (b + 8)), .indexAddr 49 (.tmp (b + 13)) (.tmp (b + 12)), .load 29 (.tmp (b + 14)), .binOp .add 29 (.tmp (b + 7)) (.tmp (b + 15)) 29, .binOp .add 29 (.tmp (b + 3)) (.tmp (b + 16)) 29, .nilCheck (.tmp (b + 0)), .indexAddr 49 (.tmp (b + 18)) (.const (.int .i64 d)), .store 29 (.tmp (b + 19)) (.tmp (b + 17))]
def aft_add : List (List Nat) := [[], [0], [1], [2], [], [4], [5], [6], [], [], [9], [10], [11], [8], [13, 12], [14], [7, 15], [3, 16], [0], [18, 0, 1, 2, 3, 4, 5, 6, 7, 8, 9, 10, 11, 12, 13, 14, 15, 16, 17], [19, 17, 0, 1, 2, 3, 4, 5, 6, 7, 8, 9, 10, 11, 12, 13, 14, 15, 16, 17]]
def val_add (gw gm gr : Nat) (d a k yd ya ym q : Int) : Nat → Value
  | 0 => .pointer (some ⟨gw, 0, none⟩)
  | 1 => .pointer (some ⟨gw, 0, none⟩)
  | 2 => .pointer (some ⟨gw, d.toNat, none⟩)
  | 3 => .int .u32 yd
  | 4 => .pointer (some ⟨gw, 0, none⟩)
  | 5 => .pointer (some ⟨gw, 0, none⟩)
  | 6 => .pointer (some ⟨gw, a.toNat, none⟩)
  | 7 => .int .u32 ya
  | 8 => .pointer (some ⟨gm, 0, none⟩)
  | 9 => .pointer (some ⟨gr, 0, none⟩)
  | 10 => .pointer (some ⟨gr, 0, none⟩)
  | 11 => .pointer (some ⟨gr, k.toNat, none⟩)
  | 12 => .int .i64 q
  | 13 => .pointer (some ⟨gm, 0, none⟩)
  | 14 => .pointer (some ⟨gm, q.toNat, none⟩)
  | 15 => .int .u32 ym
  | 16 => .int .u32 ((ya + ym) % 4294967296)
  | 17 => .int .u32 ((yd + (ya + ym) % 4294967296) % 4294967296)
  | 18 => .pointer (some ⟨gw, 0, none⟩)
  | 19 => .pointer (some ⟨gw, d.toNat, none⟩)
  | _ => undef
set_option maxHeartbeats 1000000 in
theorem step_add {id : Nat} {ops : Array Oper} {Q : Exit → Act → World → Prop} {a0 : Act} {w : World} {N gw gm gr : Nat} {yd ya ym q : Int} (b : Nat) (d a : Int) (k : Int) (hk0 : 0 ≤ k) (hk1 : k < 16) (h : Shape ops (ops_add b d a k) aft_add b) (hb : 3 ≤ b) (hN : b + 20 ≤ N)
    (hd0 : 0 ≤ d) (hd1 : d < 16) (ha0 : 0 ≤ a) (ha1 : a < 16) (hcd : w.cell? ⟨gw, d.toNat, none⟩ = some (.int .u32 yd)) (hca : w.cell? ⟨gw, a.toNat, none⟩ = some (.int .u32 ya)) (hf : w.frozen? ⟨gw, d.toNat, none⟩ = false) (hcr : w.cell? ⟨gr, k.toNat, none⟩ = some (.int .i64 q)) (hq0 : 0 ≤ q) (hq1 : q < 16) (hcm : w.cell? ⟨gm, q.toNat, none⟩ = some (.int .u32 ym))
    (hF : Fr N (.pointer (some ⟨gw, 0, none⟩)) (.pointer (some ⟨gm, 0, none⟩)) (.pointer (some ⟨gr, 0, none⟩)) a0) (hend : ∀ a2 W2, Fr N (.pointer (some ⟨gw, 0, none⟩)) (.pointer (some ⟨gm, 0, none⟩)) (.pointer (some ⟨gr, 0, none⟩)) a2 → W2 = w.drew.setCell ⟨gw, d.toNat, none⟩ (.int .u32 ((yd + (ya + ym) % 4294967296) % 4294967296)) → Q .normal a2 W2) : (Code.region id ops true).wp Tryd.prog Q a0 w := by
  refine shape_run 20 b N (val_add gw gm gr d a k yd ya ym q) h hb hN rfl (by decide) (by decide) ?_ ?_ hF (fun a2 h2 => hend a2 _ h2 rfl)
  · intro i op hi hop o a ho hF hv K hK
    match i, hi with
    | 0, _ =>
      injection hop with hop; subst hop
      exact upon_val (r_move ho hF.s0) hK
    | 1, _ =>
      injection hop with hop; subst hop
      exact upon_val (r_nil ho (hv 0 (by decide))) hK
    | 2, _ =>
      injection hop with hop; subst hop
      exact upon_val (r_idx ho (hv 1 (by decide)) rfl hd0 hd1) hK
    | 3, _ =>
      injection hop with hop; subst hop
      exact upon_val (r_load ho (hv 2 (by decide)) hcd) hK
    | 4, _ =>
      injection hop with hop; subst hop
      exact upon_val (r_move ho hF.s0) hK
    | 5, _ =>
      injection hop with hop; subst hop
      exact upon_val (r_nil ho (hv 4 (by decide))) hK
    | 6, _ =>
      injection hop with hop; subst hop
      exact upon_val (r_idx ho (hv 5 (by decide)) rfl ha0 ha1) hK
    | 7, _ =>
      injection hop with hop; subst hop
      exact upon_val (r_load ho (hv 6 (by decide)) hca) hK
    | 8, _ =>
      injection hop with hop; subst hop
      exact upon_val (r_move ho hF.s1) hK
    | 9, _ =>
      injection hop with hop; subst hop
      exact upon_val (r_move ho hF.s2) hK
    | 10, _ =>
      injection hop with hop; subst hop
      exact upon_val (r_nil ho (hv 9 (by decide))) hK
    | 11, _ =>
      injection hop with hop; subst hop
      exact upon_val (r_idxr ho (hv 10 (by decide)) rfl hk0 hk1) hK
    | 12, _ =>
      injection hop with hop; subst hop
      exact upon_val (r_loadr ho (hv 11 (by decide)) hcr) hK
    | 13, _ =>
      injection hop with hop; subst hop
      exact upon_val (r_nil ho (hv 8 (by decide))) hK
    | 14, _ =>
      injection hop with hop; subst hop
      exact upon_val (r_idx ho (hv 13 (by decide)) (hv 12 (by decide)) hq0 hq1) hK
    | 15, _ =>
      injection hop with hop; subst hop
      exact upon_val (r_load ho (hv 14 (by decide)) hcm) hK
    | 16, _ =>
      injection hop with hop; subst hop
      exact upon_val (r_add ho (hv 7 (by decide)) (hv 15 (by decide))) hK
    | 17, _ =>
      injection hop with hop; subst hop
      exact upon_val (r_add ho (hv 3 (by decide)) (hv 16 (by decide))) hK
    | 18, _ =>
      injection hop with hop; subst hop
      exact upon_val (r_nil ho (hv 0 (by decide))) hK
    | 19, _ =>
      injection hop with hop; subst hop
      exact upon_val (r_idx ho (hv 18 (by decide)) rfl hd0 hd1) hK
    | i + 20, hi => exact absurd hi (by omega)
  · intro op hop o a ho hv
    injection hop with hop; subst hop
    exact r_store ho (hv 19 (by decide)) (hv 17 (by decide)) hcd hf
end Go.Proofs.YtflnlkaednpenaaDoor.MixJ
