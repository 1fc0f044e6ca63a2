/- The program's line walked. -/
import Derived.Test.YtiaanhjnjkmnfaaLaw19
namespace Go.Proofs.Ytiaanhjnjkmnfaa.Line19
open Go.RowKit Go.Proofs.YtiaanhjnjkmnfaaW.PrintWords Go.Proofs.YtiaanhjnjkmnfaaW.PrintMore Go.Proofs.YtiaanhjnjkmnfaaW.PrintLast Go.Proofs.Ytiaanhjnjkmnfaa.QKinds Go.Proofs.Ytiaanhjnjkmnfaa.Desk19 Go.Proofs.Ytiaanhjnjkmnfaa.Want19
set_option linter.unusedVariables false
set_option linter.unusedSimpArgs false
/-- A line that was made behind w0. -/
structure Ln (w0 w : World) (g : Nat) (q : List ByteArray) : Prop where
  st : ∃ v, w.heap[g]? = some (.cells #[v] 60 (0, 0)) ∧ Kd.string.Q 9 w w0.heap.size (fun _ => True) v q
  ge : w0.heap.size ≤ g
  below : Below w0.heap.size w0 w
theorem Ln.next {w0 w w1 : World} {g : Nat} {q : List ByteArray} (h : Ln w0 w g q) (hb : Below w.heap.size w w1) : Ln w0 w1 g q := by
  obtain ⟨⟨v, h1, h2⟩, h3, h4⟩ := h
  exact ⟨⟨v, State.blk_below h1 hb, Kd.Q_below h2 hb⟩, h3, below_step h4 hb⟩
theorem new {w0 w : World} (hB : Below w0.heap.size w0 w) :
    Calls Try.prog 8 #[] w fun e w' => ∃ g, e = .returned (.pointer (some ⟨g, 0, none⟩)) ∧ Ln w0 w' g [] := by
  have HB := Aside0.mk hB
  clear hB
  go_enter Try.func8, Try.ntmps8
  go_wp2_with fail
  go_ret
  exact ⟨_, rfl, ⟨_, State.blk_alloc _ _, Kd.Q_nil _ _ _ _ _⟩, HB.out.size, below_step HB.out (below_alloc (Below.refl _ _) _)⟩
theorem infoStr : (Try.prog.info? 9).map (fun i => (i.zero, i.size, i.bytes)) = some (some (.string ⟨#[]⟩), 1, 16) := by kernel_rfl
set_option maxHeartbeats 2000000 in
theorem push {w0 w : World} {g : Nat} {q : List ByteArray} (id : ByteArray) (h : Ln w0 w g q) (hl : q.length ≤ 1048576) :
    Calls Try.prog 9 #[.pointer (some ⟨g, 0, none⟩), .string id] w fun e w' => e = .returned (.tuple #[]) ∧ Ln w0 w' g (q ++ [id]) := by
  obtain ⟨⟨v, h1, h2⟩, h3, h4⟩ := h
  have HV := Aside0.mk h2
  have HB := Aside0.mk h4
  have hc : w.cell? ⟨g, 0, none⟩ = some v := by rw [blk_cell h1]; rfl
  have H1 := Aside0.mk h1
  clear h1 h2 h4
  go_enter Try.func9, Try.ntmps9
  go_wp2_with ((with_reducible refine gate_builtin (b := .append) (xs := #[.tmp 8, .tmp 10]) rfl ?_); at_builtin; refine Kd.Q_append Kd.string (w0 := w0) w0.heap.size (by rfl) (.tmp 8) (.tmp 10) 22 9 (.string ⟨#[]⟩) 16 (by rfl) Try.underlying22 infoStr rfl (by decide) (by decide) v q id [.string id] (fun _ => True) (fun _ => False) (by rfl) (by rfl) rfl (fun _ hk => hk.elim) (fun _ _ => trivial) HV.out HB.out HB.out.size (by omega) ?_; intro v1 w1 hq1 hb1 hg1 hat1; have hne := Kd.Q_ne HV.out H1.out (by decide); have h1 := (hg1.block g (State.lt_of_blk H1.out) hne).trans H1.out; have HQ1 := Aside0.mk hq1; have HB1 := Aside0.mk hb1; have HH1 := Aside0.mk h1; obtain ⟨A1, c1, e1, _⟩ := Kd.Q_slice hq1; rw [List.length_append, List.length_singleton] at e1; subst e1; have hc1 : w1.cell? ⟨g, 0, none⟩ = some v := (by rw [blk_cell h1]; rfl); have hf1 : w1.frozen? ⟨g, 0, none⟩ = false := blk_frozen h1 0; clear hq1 hb1 hg1 hat1 hne h1)
  go_end0
  exact ⟨rfl, ⟨_, State.blk_set HH1.out _, Kd.Q_set HQ1.out HH1.out (by decide) 0 _⟩, h3, below_set HB1.out h3⟩
theorem yes (x : ByteArray) (w : World) : Calls Try.prog 11 #[.string x] w fun e w' => e = .returned (.bool true) ∧ w = w' := by
  go_enter Try.func11, Try.ntmps11
  go_wp2_with fail
  go_ret
  exact ⟨rfl, rfl⟩
theorem no (x : ByteArray) (w : World) : Calls Try.prog 10 #[.string x] w fun e w' => e = .returned (.bool false) ∧ w = w' := by
  go_enter Try.func10, Try.ntmps10
  go_wp2_with fail
  go_ret
  exact ⟨rfl, rfl⟩
theorem len {w0 w : World} {g : Nat} {q : List ByteArray} (h : Ln w0 w g q) :
    Calls Try.prog 13 #[.pointer (some ⟨g, 0, none⟩)] w fun e w' => e = .returned (.int .i64 (q.length : Int)) ∧ Ln w0 w' g q := by
  have H := Aside0.mk h
  obtain ⟨⟨v, h1, h2⟩, h3, h4⟩ := h
  obtain ⟨A, c, rfl, _⟩ := Kd.Q_slice h2
  have hc : w.cell? ⟨g, 0, none⟩ = some (.slice A q.length c) := by rw [blk_cell h1]; rfl
  clear h1 h2 h4
  go_enter Try.func13, Try.ntmps13
  go_wp2_with fail
  go_ret
  exact ⟨rfl, H.out⟩
theorem next_none {w0 w : World} {g : Nat} (f : Value) (h : Ln w0 w g []) :
    Calls Try.prog 12 #[.pointer (some ⟨g, 0, none⟩), f] w fun e w' => e = .returned (.tuple #[.string ⟨#[]⟩, .bool false]) ∧ Ln w0 w' g [] := by
  have H := Aside0.mk h
  obtain ⟨⟨v, h1, h2⟩, h3, h4⟩ := h
  obtain ⟨A, c, rfl, _⟩ := Kd.Q_slice h2
  have hc : w.cell? ⟨g, 0, none⟩ = some (.slice A ([] : List ByteArray).length c) := by rw [blk_cell h1]; rfl
  clear h1 h2 h4
  go_enter Try.func12, Try.ntmps12
  go_wp2_with fail
  go_ret2
  exact ⟨rfl, H.out⟩
section
variable {w0 w : World} {g : Nat} {x : ByteArray} {q : List ByteArray} (h : Ln w0 w g (x :: q)) (hl : q.length ≤ 1048576)
include h hl
set_option maxHeartbeats 2000000 in
theorem next_no : Calls Try.prog 12 #[.pointer (some ⟨g, 0, none⟩), .func (.func 10) #[] #[]] w fun e w' => e = .returned (.tuple #[.string ⟨#[]⟩, .bool false]) ∧ Ln w0 w' g (x :: q) := by
  have H := Aside0.mk h
  obtain ⟨⟨v, h1, h2⟩, h3, h4⟩ := h
  obtain ⟨b, o, c, rfl, _⟩ := Kd.Q_form h2 (by simp)
  have hx := (Kd.Q_cell ByteArray.empty h2 0 (by decide) (by simp)).1
  have hc : w.cell? ⟨g, 0, none⟩ = some (.slice (some ⟨b, o, none⟩) (x :: q).length c) := by rw [blk_cell h1]; rfl
  have hx : w.cell? ⟨b, o, none⟩ = some (.string x) := hx
  have hle := (Kd.Q_reads' h2).2.1
  have he : (((x :: q).length : Int) == 0) = false := beq_eq_false_iff_ne.2 (by simp only [List.length_cons]; omega)
  have hpos : (0 : Int) < ((x :: q).length : Int) := by simp only [List.length_cons]; omega
  generalize hL : (x :: q).length = L at *
  clear h1 h2 h4 hL
  go_enter Try.func12, Try.ntmps12
  go_wp2_with (go_at_call 10; refine (no _ _).mono ?_; rintro e w1 ⟨rfl, rfl⟩)
  go_ret2
  exact ⟨rfl, H.out⟩
set_option maxHeartbeats 2000000 in
theorem next_yes : Calls Try.prog 12 #[.pointer (some ⟨g, 0, none⟩), .func (.func 11) #[] #[]] w fun e w' => e = .returned (.tuple #[.string x, .bool true]) ∧ Ln w0 w' g q := by
  obtain ⟨⟨v, h1, h2⟩, h3, h4⟩ := h
  obtain ⟨b, o, c, rfl, _⟩ := Kd.Q_form h2 (by simp)
  have hx := (Kd.Q_cell ByteArray.empty h2 0 (by decide) (by simp)).1
  have hc : w.cell? ⟨g, 0, none⟩ = some (.slice (some ⟨b, o, none⟩) (x :: q).length c) := by rw [blk_cell h1]; rfl
  have hf : w.frozen? ⟨g, 0, none⟩ = false := blk_frozen h1 0
  have hx : w.cell? ⟨b, o, none⟩ = some (.string x) := hx
  have hle := (Kd.Q_reads' h2).2.1
  have he : (((x :: q).length : Int) == 0) = false := beq_eq_false_iff_ne.2 (by simp only [List.length_cons]; omega)
  have hpos : (0 : Int) < ((x :: q).length : Int) := by simp only [List.length_cons]; omega
  have HD := Aside0.mk (Kd.Q_drop (k := 1) h2 (by simp))
  have H1 := Aside0.mk h1
  have HB := Aside0.mk h4
  have hL2 : (x :: q).length ≤ 1048577 := by simp only [List.length_cons]; omega
  have hL3 : Aside0 ((x :: q).length - 1 = q.length) := ⟨by simp⟩
  generalize hL : (x :: q).length = L at *
  clear h1 h2 h4 hL
  go_enter Try.func12, Try.ntmps12
  go_wp2_with (go_at_call 11; refine (yes _ _).mono ?_; rintro e w1 ⟨rfl, rfl⟩)
  · have heq : c = 1 := by assumption
    subst heq
    go_ret2
    have hd := HD.out
    rw [if_pos rfl] at hd
    exact ⟨rfl, ⟨_, State.blk_set H1.out _, Kd.Q_set hd H1.out (by decide) 0 _⟩, h3, below_set HB.out h3⟩
  · have hne : ¬ c = 1 := by assumption
    go_ret2
    have hd := HD.out
    rw [if_neg hne] at hd
    exact ⟨rfl, ⟨_, State.blk_set H1.out _, Kd.Q_set hd H1.out (by decide) 0 _⟩, h3, below_set HB.out h3⟩
end
end Go.Proofs.Ytiaanhjnjkmnfaa.Line19
