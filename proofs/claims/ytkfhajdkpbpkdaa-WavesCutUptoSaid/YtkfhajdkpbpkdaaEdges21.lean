/- access.Edges walked. -/
import Derived.Test.YtkfhajdkpbpkdaaQBase21x1
import Derived.Test.YtkfhajdkpbpkdaaQBase21x2
import Derived.Test.YtkfhajdkpbpkdaaMeet
import Derived.Deep.RegionHeld3
namespace Go.Proofs.Ytkfhajdkpbpkdaa.Edges21
open Go.RowKit Go.Proofs.YtkfhajdkpbpkdaaW.PrintWords Go.Proofs.YtkfhajdkpbpkdaaW.PrintMore Go.Proofs.Ytkfhajdkpbpkdaa.QKinds Go.Proofs.Ytkfhajdkpbpkdaa.QBase21 Go.Proofs.Ytkfhajdkpbpkdaa.Meet
set_option linter.unusedVariables false
set_option linter.unusedSimpArgs false
def clashP (x y : S38) : Bool := x.f8.any (has y.f8) || x.f8.any (has y.f7) || x.f7.any (has y.f8)
/-- Lists that are no longer than can be. -/
def Fits (x : S38) : Prop := x.f7.length ≤ 4611686018427387903 ∧ x.f8.length ≤ 4611686018427387903
theorem clash_f {x y : S38} (hx : Fits x) (hy : Fits y) : access_Clash.f x.f0 x.f1 x.f2 x.f3 x.f4 x.f5 x.f6 x.f7 x.f8 y.f0 y.f1 y.f2 y.f3 y.f4 y.f5 y.f6 y.f7 y.f8 = some (clashP x y) := by
  unfold access_Clash.f access_meet.f clashP
  rw [if_pos ⟨hx.2, hy.2⟩, if_pos ⟨hx.2, hy.1⟩, if_pos ⟨hx.1, hy.2⟩, Option.bind_some]
  cases x.f8.any (has y.f8)
  · rw [if_neg (by decide), Option.bind_some]
    cases x.f8.any (has y.f7)
    · rw [if_neg (by decide), Option.bind_some]; rfl
    · rw [if_pos rfl]; rfl
  · rw [if_pos rfl]; rfl
def kP : Kd (Int × Int) := Kd.pair (Kd.int .i64) (Kd.int .i64)
theorem infoP : (Try.prog.info? 46).map (fun i => (i.zero, i.size, i.bytes)) = some (some (.agg #[(.int .i64 0), (.int .i64 0)]), 2, 16) := by kernel_rfl
def tx (l : List S38) (i : Nat) : S38 := rd_T38 l i
/-- Those after number i, below n, that are in its way. -/
def row (l : List S38) (i : Nat) : Nat → List (Int × Int)
  | 0 => []
  | n + 1 => row l i n ++ if i < n ∧ clashP (tx l i) (tx l n) = true then [((i : Int), (n : Int))] else []
def rows (l : List S38) : Nat → List (Int × Int)
  | 0 => []
  | n + 1 => rows l n ++ row l n l.length
theorem append_edge {ops : Array Oper} {rest : List Oper} {o : Oper} {a : Act} {Q : Exit → Act → World → Prop} {w W : World} (hg : o.guard = none) (ho : o.op = .call { callee := .builtin .append, args := #[.tmp 28, .tmp 32], argTypes := #[44, 44] })
    (v : Value) (xs : List (Int × Int)) (i k : Int) (hs : a.eval (.tmp 28) = v) (hx : a.eval (.tmp 32) = .slice (some ⟨W.heap.size, 0, none⟩) 1 1) (HO : kP.R 46 W w.heap.size (fun _ => True) v xs) (HB : Below w.heap.size w W) (hl : (xs.length + 1) * 16 ≤ 140737488355328)
    (h : ∀ v1 w1, kP.R 46 w1 w.heap.size (fun _ => True) v1 (xs ++ [(i, k)]) → Below w.heap.size w w1 → wpList Try.prog ops Q rest (a.put o.dst v1) w1) :
    wpList Try.prog ops Q (o :: rest) a (W.alloc (.cells #[.int .i64 i, .int .i64 k] 46)) :=
  Kd.R_append kP (w0 := w) w.heap.size hg (.tmp 28) (.tmp 32) 44 46 (.agg #[(.int .i64 0), (.int .i64 0)]) 16 ho Try.underlying44 infoP rfl (by decide) (by omega) v xs (i, k) [.int .i64 i, .int .i64 k] (fun _ => True) (fun _ => False) hs hx ⟨[.int .i64 i], [.int .i64 k], rfl, rfl, rfl⟩ (fun _ hk => hk.elim) (fun _ _ => trivial) HO HB HB.size hl (fun v1 w1 h1 h2 _ _ => h v1 w1 h1 h2)
theorem row_nil (l : List S38) (i : Nat) : ∀ n, n ≤ i + 1 → row l i n = []
  | 0, _ => rfl
  | n + 1, h => by rw [row, row_nil l i n (by omega), if_neg (by omega)]; rfl
theorem row_len (l : List S38) (i : Nat) : ∀ n, (row l i n).length ≤ n
  | 0 => Nat.le_refl _
  | n + 1 => by
    have := row_len l i n
    rw [row, List.length_append]
    split <;> simp <;> omega
theorem rows_len (l : List S38) : ∀ n, (rows l n).length ≤ n * l.length
  | 0 => by simp [rows]
  | n + 1 => by
    have := rows_len l n
    have := row_len l n l.length
    rw [rows, List.length_append, Nat.succ_mul]
    omega
set_option maxHeartbeats 4000000 in
set_option maxRecDepth 100000 in
theorem edges (A0 : Option Addr) (c0 : Nat) (l0 : List (S38)) (w : World) (hr0 : Kd.C k38 w A0 l0.length l0) (hc0 : l0.length ≤ c0) (hl : l0.length ≤ 65536) (hf : ∀ i : Nat, i < l0.length → Fits (tx l0 i)) :
    Calls Try.prog 21 #[.slice A0 l0.length c0] w fun e w' => ∃ v, e = .returned v ∧ Kd.R kP 46 w' w.heap.size (fun _ => True) v (rows l0 l0.length) ∧ Below w.heap.size w w' := by
  have HR := Aside0.mk hr0
  have HF := Aside0.mk hf
  clear hr0 hf
  go_enter Try.func21, Try.ntmps21
  go_wp2_with fail
  go_loopw [3, 8] (fun v3 v8 wr => ∃ i : Nat, i ≤ l0.length ∧ v8 = .int .i64 i ∧ Aside0 (Kd.R kP 46 wr w.heap.size (fun _ => True) v3 (rows l0 i)) ∧ Aside0 (Below w.heap.size w wr)) (fun _ i _ => l0.length - (intOf i).toNat)
  case atStart => exact ⟨0, by omega, rfl, ⟨Kd.R_nil _ _ _ _ _⟩, ⟨Below.refl _ _⟩⟩
  case round =>
    obtain ⟨i, hi, rfl, HO, HB⟩ := hrel
    by_cases hlt : i < l0.length
    · go_wp2_with fail
      have HO0 : Aside0 (Kd.R kP 46 wr w.heap.size (fun _ => True) u3 (rows l0 i ++ row l0 i (i + 1))) := ⟨by rw [row_nil l0 i (i + 1) (Nat.le_refl _), List.append_nil]; exact HO.out⟩
      clear HO
      go_loopw [3, 5] (fun v3 v5 wr => ∃ k : Nat, i + 1 ≤ k ∧ k ≤ l0.length ∧ v5 = .int .i64 k ∧ Aside0 (Kd.R kP 46 wr w.heap.size (fun _ => True) v3 (rows l0 i ++ row l0 i k)) ∧ Aside0 (Below w.heap.size w wr)) (fun _ k _ => l0.length - (intOf k).toNat)
      case atStart => exact ⟨i + 1, by omega, by omega, by go_num, HO0, HB⟩
      case round =>
        clear HO0 HB
        obtain ⟨k, hk0, hk, rfl, HO, HB⟩ := hrel
        by_cases hltk : k < l0.length
        · obtain ⟨ad, A7, c7, A8, c8, rfl, hx0, hx1, hx2, hx3, hx4, hx5, hx6, hx7, hx8, hl7, hi7, hl8, hi8⟩ := at_T38 HR.out i (by omega) (by omega)
          obtain ⟨ad2, B7, d7, B8, d8, e2, hy0, hy1, hy2, hy3, hy4, hy5, hy6, hy7, hy8, hm7, hj7, hm8, hj8⟩ := at_T38 HR.out k (by omega) (by omega)
          obtain rfl : ad = ad2 := by injection e2
          clear e2
          simp only [Int.toNat_natCast] at hx0 hx1 hx2 hx3 hx4 hx5 hx6 hx7 hx8 hy0 hy1 hy2 hy3 hy4 hy5 hy6 hy7 hy8
          have hfx := HF.out i hlt
          have hfy := HF.out k hltk
          have hrow : row l0 i (k + 1) = row l0 i k ++ if i < k ∧ clashP (tx l0 i) (tx l0 k) = true then [((i : Int), (k : Int))] else [] := rfl
          unfold tx at hfx hfy hrow
          generalize rd_T38 l0 i = x at *
          generalize rd_T38 l0 k = y at *
          have HS : Aside0 (∀ w', Below w.heap.size w w' → (w'.cell? (ad.add (i * 9)) = some (.int .i64 x.f0) ∧ w'.cell? ⟨(ad.add (i * 9)).block, (ad.add (i * 9)).off + 1, none⟩ = some (.string x.f1) ∧ w'.cell? ⟨(ad.add (i * 9)).block, (ad.add (i * 9)).off + 2, none⟩ = some (.string x.f2) ∧ w'.cell? ⟨(ad.add (i * 9)).block, (ad.add (i * 9)).off + 3, none⟩ = some (.int .u64 x.f3) ∧ w'.cell? ⟨(ad.add (i * 9)).block, (ad.add (i * 9)).off + 4, none⟩ = some (.int .u64 x.f4) ∧ w'.cell? ⟨(ad.add (i * 9)).block, (ad.add (i * 9)).off + 5, none⟩ = some (.string x.f5) ∧ w'.cell? ⟨(ad.add (i * 9)).block, (ad.add (i * 9)).off + 6, none⟩ = some (.string x.f6) ∧ w'.cell? ⟨(ad.add (i * 9)).block, (ad.add (i * 9)).off + 7, none⟩ = some (.slice A7 x.f7.length c7) ∧ w'.cell? ⟨(ad.add (i * 9)).block, (ad.add (i * 9)).off + 8, none⟩ = some (.slice A8 x.f8.length c8)) ∧ (w'.cell? (ad.add (k * 9)) = some (.int .i64 y.f0) ∧ w'.cell? ⟨(ad.add (k * 9)).block, (ad.add (k * 9)).off + 1, none⟩ = some (.string y.f1) ∧ w'.cell? ⟨(ad.add (k * 9)).block, (ad.add (k * 9)).off + 2, none⟩ = some (.string y.f2) ∧ w'.cell? ⟨(ad.add (k * 9)).block, (ad.add (k * 9)).off + 3, none⟩ = some (.int .u64 y.f3) ∧ w'.cell? ⟨(ad.add (k * 9)).block, (ad.add (k * 9)).off + 4, none⟩ = some (.int .u64 y.f4) ∧ w'.cell? ⟨(ad.add (k * 9)).block, (ad.add (k * 9)).off + 5, none⟩ = some (.string y.f5) ∧ w'.cell? ⟨(ad.add (k * 9)).block, (ad.add (k * 9)).off + 6, none⟩ = some (.string y.f6) ∧ w'.cell? ⟨(ad.add (k * 9)).block, (ad.add (k * 9)).off + 7, none⟩ = some (.slice B7 y.f7.length d7) ∧ w'.cell? ⟨(ad.add (k * 9)).block, (ad.add (k * 9)).off + 8, none⟩ = some (.slice B8 y.f8.length d8))) := ⟨fun w' hb => ⟨⟨pw_cell_below hb hx0, pw_cell_below hb hx1, pw_cell_below hb hx2, pw_cell_below hb hx3, pw_cell_below hb hx4, pw_cell_below hb hx5, pw_cell_below hb hx6, pw_cell_below hb hx7, pw_cell_below hb hx8⟩, ⟨pw_cell_below hb hy0, pw_cell_below hb hy1, pw_cell_below hb hy2, pw_cell_below hb hy3, pw_cell_below hb hy4, pw_cell_below hb hy5, pw_cell_below hb hy6, pw_cell_below hb hy7, pw_cell_below hb hy8⟩⟩⟩
          have hS0 := HS.out wr HB.out
          have HCL := Aside0.mk fun w' (hb : Below w.heap.size w w') => access_Clash.calls x.f0 x.f1 x.f2 x.f3 x.f4 x.f5 x.f6 A7 c7 x.f7 A8 c8 x.f8 y.f0 y.f1 y.f2 y.f3 y.f4 y.f5 y.f6 B7 d7 y.f7 B8 d8 y.f8 (clashP x y) w' (Kd.C_below hi7 hb) hl7 (Kd.C_below hi8 hb) hl8 (Kd.C_below hj7 hb) hm7 (Kd.C_below hj8 hb) hm8 (clash_f hfx hfy)
          have HROW := Aside0.mk hrow
          generalize clashP x y = bc at hrow HCL HROW
          cases bc
          · clear hx0 hx1 hx2 hx3 hx4 hx5 hx6 hx7 hx8 hy0 hy1 hy2 hy3 hy4 hy5 hy6 hy7 hy8 hi7 hi8 hj7 hj8 hfx hfy hrow
            go_wp2_with fail
            go_region_held3 (fun w' => (w'.cell? (ad.add (i * 9)) = some (.int .i64 x.f0) ∧ w'.cell? ⟨(ad.add (i * 9)).block, (ad.add (i * 9)).off + 1, none⟩ = some (.string x.f1) ∧ w'.cell? ⟨(ad.add (i * 9)).block, (ad.add (i * 9)).off + 2, none⟩ = some (.string x.f2) ∧ w'.cell? ⟨(ad.add (i * 9)).block, (ad.add (i * 9)).off + 3, none⟩ = some (.int .u64 x.f3) ∧ w'.cell? ⟨(ad.add (i * 9)).block, (ad.add (i * 9)).off + 4, none⟩ = some (.int .u64 x.f4) ∧ w'.cell? ⟨(ad.add (i * 9)).block, (ad.add (i * 9)).off + 5, none⟩ = some (.string x.f5) ∧ w'.cell? ⟨(ad.add (i * 9)).block, (ad.add (i * 9)).off + 6, none⟩ = some (.string x.f6) ∧ w'.cell? ⟨(ad.add (i * 9)).block, (ad.add (i * 9)).off + 7, none⟩ = some (.slice A7 x.f7.length c7) ∧ w'.cell? ⟨(ad.add (i * 9)).block, (ad.add (i * 9)).off + 8, none⟩ = some (.slice A8 x.f8.length c8)) ∧ (w'.cell? (ad.add (k * 9)) = some (.int .i64 y.f0) ∧ w'.cell? ⟨(ad.add (k * 9)).block, (ad.add (k * 9)).off + 1, none⟩ = some (.string y.f1) ∧ w'.cell? ⟨(ad.add (k * 9)).block, (ad.add (k * 9)).off + 2, none⟩ = some (.string y.f2) ∧ w'.cell? ⟨(ad.add (k * 9)).block, (ad.add (k * 9)).off + 3, none⟩ = some (.int .u64 y.f3) ∧ w'.cell? ⟨(ad.add (k * 9)).block, (ad.add (k * 9)).off + 4, none⟩ = some (.int .u64 y.f4) ∧ w'.cell? ⟨(ad.add (k * 9)).block, (ad.add (k * 9)).off + 5, none⟩ = some (.string y.f5) ∧ w'.cell? ⟨(ad.add (k * 9)).block, (ad.add (k * 9)).off + 6, none⟩ = some (.string y.f6) ∧ w'.cell? ⟨(ad.add (k * 9)).block, (ad.add (k * 9)).off + 7, none⟩ = some (.slice B7 y.f7.length d7) ∧ w'.cell? ⟨(ad.add (k * 9)).block, (ad.add (k * 9)).off + 8, none⟩ = some (.slice B8 y.f8.length d8))) (first | assumption | exact hS0)
              (first
                | (go_at_call 18; refine (HCL.out _ (below_drew1 HB.out)).mono ?_; rintro e w4 ⟨rfl, hb4⟩; have HBw := Aside0.mk (below_then (below_drew1 HB.out) (below_drew1 HB.out).size hb4); have HOw := Aside0.mk (Kd.R_below (Kd.R_drew HO.out) hb4); have hS4 := HS.out w4 ((below_drew1 HB.out).trans (hb4.mono (below_drew1 HB.out).size)); clear hb4))
            go_wp2_with fail
            go_roundw
            case rel => exact ⟨k + 1, by omega, by omega, by go_num, ⟨by rw [HROW.out, if_neg (by simp), List.append_nil]; exact HOw.out⟩, HBw⟩
            case measure => simp [intOf]; omega
          · have HLEN : Aside0 (((rows l0 i ++ row l0 i k).length + 1) * 16 ≤ 140737488355328) := ⟨by have h1 := rows_len l0 i; have h2 := row_len l0 i k; have h3 : i * l0.length ≤ 65536 * 65536 := Nat.mul_le_mul (by omega) hl; rw [List.length_append]; omega⟩
            clear hx0 hx1 hx2 hx3 hx4 hx5 hx6 hx7 hx8 hy0 hy1 hy2 hy3 hy4 hy5 hy6 hy7 hy8 hi7 hi8 hj7 hj8 hfx hfy hrow
            go_wp2_with fail
            go_region_held3 (fun w' => (w'.cell? (ad.add (i * 9)) = some (.int .i64 x.f0) ∧ w'.cell? ⟨(ad.add (i * 9)).block, (ad.add (i * 9)).off + 1, none⟩ = some (.string x.f1) ∧ w'.cell? ⟨(ad.add (i * 9)).block, (ad.add (i * 9)).off + 2, none⟩ = some (.string x.f2) ∧ w'.cell? ⟨(ad.add (i * 9)).block, (ad.add (i * 9)).off + 3, none⟩ = some (.int .u64 x.f3) ∧ w'.cell? ⟨(ad.add (i * 9)).block, (ad.add (i * 9)).off + 4, none⟩ = some (.int .u64 x.f4) ∧ w'.cell? ⟨(ad.add (i * 9)).block, (ad.add (i * 9)).off + 5, none⟩ = some (.string x.f5) ∧ w'.cell? ⟨(ad.add (i * 9)).block, (ad.add (i * 9)).off + 6, none⟩ = some (.string x.f6) ∧ w'.cell? ⟨(ad.add (i * 9)).block, (ad.add (i * 9)).off + 7, none⟩ = some (.slice A7 x.f7.length c7) ∧ w'.cell? ⟨(ad.add (i * 9)).block, (ad.add (i * 9)).off + 8, none⟩ = some (.slice A8 x.f8.length c8)) ∧ (w'.cell? (ad.add (k * 9)) = some (.int .i64 y.f0) ∧ w'.cell? ⟨(ad.add (k * 9)).block, (ad.add (k * 9)).off + 1, none⟩ = some (.string y.f1) ∧ w'.cell? ⟨(ad.add (k * 9)).block, (ad.add (k * 9)).off + 2, none⟩ = some (.string y.f2) ∧ w'.cell? ⟨(ad.add (k * 9)).block, (ad.add (k * 9)).off + 3, none⟩ = some (.int .u64 y.f3) ∧ w'.cell? ⟨(ad.add (k * 9)).block, (ad.add (k * 9)).off + 4, none⟩ = some (.int .u64 y.f4) ∧ w'.cell? ⟨(ad.add (k * 9)).block, (ad.add (k * 9)).off + 5, none⟩ = some (.string y.f5) ∧ w'.cell? ⟨(ad.add (k * 9)).block, (ad.add (k * 9)).off + 6, none⟩ = some (.string y.f6) ∧ w'.cell? ⟨(ad.add (k * 9)).block, (ad.add (k * 9)).off + 7, none⟩ = some (.slice B7 y.f7.length d7) ∧ w'.cell? ⟨(ad.add (k * 9)).block, (ad.add (k * 9)).off + 8, none⟩ = some (.slice B8 y.f8.length d8))) (first | assumption | exact hS0)
              (first
                | (go_at_call 18; refine (HCL.out _ (below_drew1 HB.out)).mono ?_; rintro e w4 ⟨rfl, hb4⟩; have HBw := Aside0.mk (below_then (below_drew1 HB.out) (below_drew1 HB.out).size hb4); have HOw := Aside0.mk (Kd.R_below (Kd.R_drew HO.out) hb4); have hS4 := HS.out w4 ((below_drew1 HB.out).trans (hb4.mono (below_drew1 HB.out).size)); clear hb4))
            go_wp2_with ((with_reducible refine gate_builtin (b := .append) (xs := #[.tmp 28, .tmp 32]) rfl ?_); at_builtin; refine append_edge (by rfl) (by rfl) _ _ _ _ (by rfl) (by rfl) HOw.out HBw.out HLEN.out ?_; intro v1 w5 ho5 hb5; have HO5 := Aside0.mk ho5; have HB5 := Aside0.mk hb5; clear ho5 hb5)
            go_roundw
            case rel => exact ⟨k + 1, by omega, by omega, by go_num, ⟨by rw [HROW.out, if_pos ⟨by omega, trivial⟩, ← List.append_assoc]; exact HO5.out⟩, HB5⟩
            case measure => simp [intOf]; omega
        · obtain rfl : k = l0.length := by omega
          go_wp2_with fail
          go_roundw
          case rel => exact ⟨i + 1, by omega, by go_num, HO, HB⟩
          case measure => simp [intOf]; omega
    · obtain rfl : i = l0.length := by omega
      go_wp2_with fail
      go_ret
      exact ⟨_, rfl, HO.out, HB.out⟩
end Go.Proofs.Ytkfhajdkpbpkdaa.Edges21
