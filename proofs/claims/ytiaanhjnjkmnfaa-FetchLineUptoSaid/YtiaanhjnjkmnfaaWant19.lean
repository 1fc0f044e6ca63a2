/- The program's desk walked: New, Want, Tick. -/
import Derived.Test.YtiaanhjnjkmnfaaDesk19
import Derived.Tactics
import Derived.WalkKit
import Derived.KernelRfl
import Derived.LoopTactic
import Derived.Outline
import Derived.WalkSpells
import Derived.Deep.QuietTactic
import Derived.BigQuiet
import Derived.Deep.RegionHeld3
import Derived.Sort.AtCall
import Derived.Deep.LoopGhost
import Derived.Deep.RegionLaw
namespace Go.Proofs.Ytiaanhjnjkmnfaa.Want19
open Go.RowKit Go.Proofs.YtiaanhjnjkmnfaaW.PrintWords Go.Proofs.YtiaanhjnjkmnfaaW.PrintMore Go.Proofs.YtiaanhjnjkmnfaaW.PrintLast Go.Proofs.Ytiaanhjnjkmnfaa.QKinds Go.Proofs.Ytiaanhjnjkmnfaa.Desk19
set_option linter.unusedVariables false
set_option linter.unusedSimpArgs false
def same (x y : ByteArray) : Bool := x.toList == y.toList
def hasId (ws : List Wi) (id : ByteArray) : Bool := ws.any fun x => same x.id id
set_option maxHeartbeats 1000000 in
theorem closure (p B : Nat) (x y : ByteArray) (w : World) (h1 : w.cell? ⟨p, 0, none⟩ = some (.string x)) (h2 : w.cell? ⟨B, 0, none⟩ = some (.string y)) :
    Calls Try.prog 31 #[.pointer (some ⟨p, 0, none⟩), .pointer (some ⟨B, 0, none⟩)] w fun e w' => e = .returned (.bool (same x y)) ∧ Drawn0 w w' := by
  go_enter Try.func31, Try.ntmps31
  go_wp2_with fail
  go_quiet (fail)
  go_wp2_with fail
  go_ret
  exact ⟨rfl, ⟨_, rfl⟩⟩
theorem is_calls (y : ByteArray) (w : World) :
    Calls Try.prog 26 #[.string y] w fun e w' => e = .returned (.func (.func 31) #[] #[.pointer (some ⟨w.heap.size, 0, none⟩)]) ∧ w' = w.alloc (.cells #[.string y] 9) := by
  go_enter Try.func26, Try.ntmps26
  go_wp2_with fail
  go_ret
  exact ⟨rfl, rfl⟩
theorem empty_row (w : World) : (Kd.int .i64).R 3 (w.alloc (.cells #[] 3)) w.heap.size (fun _ => True) (.slice (some ⟨w.heap.size, 0, none⟩) 0 0) [] :=
  Kd.R_of_own (enc := Value.int .i64) (h1 := fun _ => rfl) ⟨rfl, .inr ⟨w.heap.size, 0, #[], rfl, Nat.le_refl _, State.blk_alloc _ _, Nat.le_refl _, by unfold maxLen; omega, rfl, rfl⟩⟩ (fun _ _ => trivial)
theorem infoInt : (Try.prog.info? 3).map (fun i => (i.zero, i.size, i.bytes)) = some (some (.int .i64 0), 1, 8) := by kernel_rfl
set_option maxHeartbeats 1000000 in
theorem clone (A : Option Addr) (c : Nat) (l : List Int) (w : World) (hr : (Kd.int .i64).C w A l.length l) (hc : l.length ≤ c) (h0 : 0 < l.length) (hl : l.length ≤ 1048576) :
    Calls Try.prog 27 #[.slice A l.length c] w fun e w' => ∃ A' c', e = .returned (.slice A' l.length c') ∧ (Kd.int .i64).R 3 w' w.heap.size (fun _ => True) (.slice A' l.length c') l ∧ Below w.heap.size w w' := by
  obtain ⟨ad, rfl, _⟩ := hr.2.2 h0
  have HR := Aside0.mk hr
  clear hr
  have heq := fun (w : World) => Lib.run_eql_slice_nil (P := Try.prog) w 33 3 (some ad) l.length c 0 0 Try.underlying33
  go_enter Try.func27, Try.ntmps27
  have HE := Aside0.mk (empty_row w)
  have HRA := Aside0.mk (Kd.C_alloc HR.out (.cells #[] 3))
  have hB := Aside0.mk (below_alloc (Below.refl w.heap.size w) (.cells #[] 3))
  go_wp2_with ((with_reducible refine gate_builtin (b := .append) (xs := #[.tmp 5, .tmp 6]) rfl ?_); at_builtin; refine Kd.R_append_row (Value.int .i64) (0 : Int) (h1 := fun _ => rfl) (w0 := w) w.heap.size (by rfl) (.tmp 5) (.tmp 6) 33 3 (.int .i64 0) 8 (by rfl) Try.underlying33 infoInt rfl (by decide) (.slice (some ⟨w.heap.size, 0, none⟩) 0 0) [] l (some ad) l.length c (fun _ => True) (by rfl) (by rfl) (fun _ _ => trivial) HE.out HRA.out hB.out hB.out.size (by simp; omega) ?_; intro v1 w1 hr1 hb1 hg1 hat1; have HR1 := Aside0.mk hr1; have HB1 := Aside0.mk hb1; clear hr1 hb1 hg1 hat1)
  obtain ⟨A', c', rfl⟩ := Kd.R_slice HR1.out
  go_ret
  exact ⟨A', c', rfl, HR1.out, HB1.out⟩
set_option maxHeartbeats 1000000 in
theorem new_ok (r : Nat) (w : World) (h1 : 1 ≤ r) (h2 : r ≤ 1000) :
    Calls Try.prog 14 #[.int .i64 (r : Int)] w fun e w' => ∃ g, e = .returned (.tuple #[.pointer (some ⟨g, 0, none⟩), .int .i64 0]) ∧ St sp r w' g (.slice none 0 0) [] [] ∧ g = w.heap.size ∧ Below w.heap.size w w' := by
  have hd1 : decide ((r : Int) < 1) = false := decide_eq_false (by omega)
  have hd2 : decide ((1000 : Int) < (r : Int)) = false := decide_eq_false (by omega)
  go_enter Try.func14, Try.ntmps14
  go_wp2_with fail
  go_ret2
  refine ⟨_, rfl, ⟨State.blk_alloc _ _, Kd.R_nil _ _ _ _ _, List.nodup_nil, rfl, fun i hi => absurd hi (Nat.not_lt_zero _)⟩, rfl, below_alloc (Below.refl _ _) _⟩
theorem new_bad (a : Int) (w : World) (h1 : a < 1 ∨ 1000 < a) :
    Calls Try.prog 14 #[.int .i64 a] w fun e w' => e = .returned (.tuple #[.pointer none, .int .i64 2]) ∧ w = w' := by
  rcases h1 with h1 | h1
  · have hd1 : decide (a < 1) = true := decide_eq_true h1
    go_enter Try.func14, Try.ntmps14
    go_wp2_with fail
    go_ret2
    exact ⟨rfl, rfl⟩
  · have hd1 : decide (a < 1) = false := decide_eq_false (by omega)
    have hd2 : decide ((1000 : Int) < a) = true := decide_eq_true h1
    go_enter Try.func14, Try.ntmps14
    go_wp2_with fail
    go_ret2
    exact ⟨rfl, rfl⟩
/-- Where the first wish for it stands. -/
def IdxIs (ws : List Wi) (id : ByteArray) (r : Int) : Prop :=
  (∃ i : Nat, r = (i : Int) ∧ i < ws.length ∧ same (ws.getD i noWi).id id = true ∧ ∀ j, j < i → same (ws.getD j noWi).id id = false) ∨ (r = -1 ∧ ∀ j, j < ws.length → same (ws.getD j noWi).id id = false)
theorem idx_has {ws : List Wi} {id : ByteArray} {r : Int} (h : IdxIs ws id r) : decide (0 ≤ r) = hasId ws id := by
  rcases h with ⟨i, rfl, h1, h2, _⟩ | ⟨rfl, h1⟩
  · rw [decide_eq_true (by omega), eq_comm, hasId, List.any_eq_true]
    exact ⟨ws.getD i noWi, by rw [List.getD_eq_getElem?_getD, List.getElem?_eq_getElem h1]; exact List.getElem_mem h1, h2⟩
  · rw [decide_eq_false (by omega), eq_comm, hasId, List.any_eq_false]
    intro x hx
    obtain ⟨j, hj, rfl⟩ := List.getElem_of_mem hx
    have := h1 j hj
    rw [List.getD_eq_getElem?_getD, List.getElem?_eq_getElem hj] at this
    simpa using this
theorem St.at_ptr {D : Sort19} {r : Nat} {w : World} {g : Nat} {A : Option Addr} {c n : Nat} {ps : List Nat} {ws : List Wi} (h : St D r w g (.slice A n c) ps ws) {i : Nat} (hi : i < ws.length) : n = ws.length ∧ n ≤ c ∧ ∃ ad, A = some ad ∧ w.cell? (ad.add i) = some (.pointer (some ⟨ps.getD i 0, 0, none⟩)) := by
  obtain ⟨h1, h2, h3⟩ := Kd.R_reads' h.row
  obtain ⟨ad, e, hc⟩ := kPtr_at h3 i (by rw [h.len]; exact hi)
  exact ⟨by rw [h1, h.len], h2, ad, e, hc⟩
theorem St.slice {D : Sort19} {r : Nat} {w : World} {g : Nat} {v : Value} {ps : List Nat} {ws : List Wi} (h : St D r w g v ps ws) : ∃ A c, v = .slice A ws.length c ∧ ws.length ≤ c := by
  obtain ⟨A, c, e⟩ := Kd.R_slice h.row
  subst e
  have := (Kd.R_reads' h.row).2.1
  exact ⟨A, c, by rw [h.len], by rw [h.len] at this; exact this⟩
set_option maxHeartbeats 1000000 in
theorem index (r : Nat) (g B : Nat) (A : Option Addr) (c : Nat) (ps : List Nat) (ws : List Wi) (id : ByteArray) (w : World) (h : St sp r w g (.slice A ws.length c) ps ws) (hb : w.cell? ⟨B, 0, none⟩ = some (.string id)) (hl : ws.length ≤ 1000000) :
    Calls Try.prog 30 #[.slice A ws.length c, .func (.func 31) #[] #[.pointer (some ⟨B, 0, none⟩)]] w fun e w' => (∃ r, e = .returned (.int .i64 r) ∧ IdxIs ws id r) ∧ Drawn0 w w' := by
  have HS := Aside0.mk h
  have HB := Aside0.mk hb
  clear h hb
  go_enter Try.func30, Try.ntmps30
  go_wp2_with fail
  go_loopw [8] (fun v8 wr => ∃ i : Nat, i ≤ ws.length ∧ v8 = .int .i64 i ∧ Drawn0 w wr ∧ Aside0 (∀ j, j < i → same (ws.getD j noWi).id id = false)) (fun i _ => ws.length - (intOf i).toNat)
  case atStart => exact ⟨0, by omega, rfl, Drawn0.refl _, ⟨fun j hj => absurd hj (Nat.not_lt_zero _)⟩⟩
  case round =>
    obtain ⟨i, hi, rfl, ⟨n, rfl⟩, HNO⟩ := hrel
    by_cases hlt : i < ws.length
    · obtain ⟨_, hcap, ad, rfl, hcell⟩ := St.at_ptr (HS.out.drewN n) hlt
      obtain ⟨A2, c2, hw2, _⟩ := (HS.out.drewN n).wish i hlt
      have HC := Aside0.mk (closure (ps.getD i 0) B (ws.getD i noWi).id id (w.drewN n) (by rw [blk_cell hw2]; rfl) HB.out)
      generalize ps.getD i 0 = p at *
      clear hw2
      go_wp2_with fail
      refine HC.out.mono ?_
      rintro e w1 ⟨rfl, ⟨m, rfl⟩⟩
      cases hs : same (ws.getD i noWi).id id
      · have HN2 : Aside0 (∀ j, j < i + 1 → same (ws.getD j noWi).id id = false) := ⟨fun j hj => by
          by_cases e : j = i
          · subst e; exact hs
          · exact HNO.out j (by omega)⟩
        clear hs
        go_wp2_with fail
        go_roundw
        case rel => exact ⟨i + 1, by omega, by go_num, ⟨_, rfl⟩, HN2⟩
        case measure => simp [intOf]; omega
      · have HI : Aside0 (IdxIs ws id (i : Int)) := ⟨.inl ⟨i, rfl, hlt, hs, HNO.out⟩⟩
        clear hs
        go_wp2_with fail
        go_ret
        exact ⟨⟨_, rfl, HI.out⟩, ⟨_, rfl⟩⟩
    · obtain rfl : i = ws.length := by omega
      go_wp2_with fail
      go_ret
      exact ⟨⟨_, rfl, .inr ⟨rfl, HNO.out⟩⟩, ⟨_, rfl⟩⟩
set_option maxHeartbeats 1000000 in
theorem contains (r : Nat) (g B : Nat) (A : Option Addr) (c : Nat) (ps : List Nat) (ws : List Wi) (id : ByteArray) (w : World) (h : St sp r w g (.slice A ws.length c) ps ws) (hb : w.cell? ⟨B, 0, none⟩ = some (.string id)) (hl : ws.length ≤ 1000000) :
    Calls Try.prog 25 #[.slice A ws.length c, .func (.func 31) #[] #[.pointer (some ⟨B, 0, none⟩)]] w fun e w' => e = .returned (.bool (hasId ws id)) ∧ Drawn0 w w' := by
  have HI := Aside0.mk (index r g B A c ps ws id w h hb hl)
  clear h hb
  go_enter Try.func25, Try.ntmps25
  go_wp2_with fail
  refine HI.out.mono ?_
  rintro e w1 ⟨⟨r, rfl, hr⟩, hd⟩
  have HD := Aside0.mk hd
  have HE := Aside0.mk (idx_has hr)
  clear hd hr
  go_wp2_with fail
  go_ret
  exact ⟨congrArg (fun b => Ending.returned (.bool b)) HE.out, HD.out⟩
def wantE (ws : List Wi) (id : ByteArray) (fr : List Int) : Int := if fr.length = 0 then 12 else if hasId ws id = true then 13 else if ws.length = 64 then 4 else 0
def want1 (ws : List Wi) (id : ByteArray) (fr : List Int) : List Wi := if wantE ws id fr = 0 then ws ++ [⟨id, fr, 0, 0⟩] else ws
theorem gcell {D : Sort19} {r : Nat} {w : World} {g : Nat} {v : Value} {ps : List Nat} {ws : List Wi} (h : St D r w g v ps ws) : w.cell? ⟨g, 0, none⟩ = some (.int .i64 (r : Int)) ∧ w.cell? ⟨g, 1, none⟩ = some v := ⟨by rw [blk_cell h.dk]; rfl, by rw [blk_cell h.dk]; rfl⟩
theorem box_cell (w : World) (v : Value) (t : TypeId) : (w.drew.alloc (.cells #[v] t)).cell? ⟨w.heap.size, 0, none⟩ = some v := by
  have h := State.blk_alloc w.drew (.cells #[v] t)
  rw [show w.drew.heap.size = w.heap.size from rfl] at h
  rw [blk_cell h]; rfl
theorem box_below (w : World) (o : Obj) : Below w.heap.size w (w.drew.alloc o) := below_alloc (below_drew1 (Below.refl _ _)) _
theorem box_drawn {w w2 : World} {o : Obj} (h : Drawn0 (w.drew.alloc o) w2) : Below w.heap.size w w2 := by
  obtain ⟨n, rfl⟩ := h
  exact pw_below_drewN (box_below w o) n
theorem want_few (g : Nat) (id : ByteArray) (A : Option Addr) (c : Nat) (w : World) :
    Calls Try.prog 15 #[.pointer (some ⟨g, 0, none⟩), .string id, .slice A 0 c] w fun e w' => e = .returned (.int .i64 12) ∧ w = w' := by
  go_enter Try.func15, Try.ntmps15
  go_wp2_with fail
  go_ret
  exact ⟨rfl, rfl⟩
theorem infoPtr : (Try.prog.info? 65).map (fun i => (i.zero, i.size, i.bytes)) = some (some (.pointer none), 1, 8) := by kernel_rfl
theorem app_ptr {ops : Array Oper} {o : Oper} {a : Act} {Q : Exit → Act → World → Prop} {Kc : Act → World → Prop} {W : World} (hw : Region.wanted o (yielded ops a.tmps) = true) (ho : o.op = .call { callee := .builtin .append, args := #[.tmp 30, .tmp 36], argTypes := #[61, 61] })
    (v : Value) (ps : List Nat) (p : Nat) (hs : a.eval (.tmp 30) = v) (hx : a.eval (.tmp 36) = .slice (some ⟨W.heap.size, 0, none⟩) 1 1) (HO : kPtr.R 65 W 0 (fun _ => True) v ps) (hl : (ps.length + 1) * 8 ≤ 140737488355328)
    (h : ∀ v1 w1, kPtr.R 65 w1 0 (fun _ => True) v1 (ps ++ [p]) → W.grownBy w1 v.ownBlock → (v1.ownBlock = v.ownBlock ∨ ∃ b, v1.ownBlock = some b ∧ W.heap.size ≤ b) → Kc (a.put o.dst v1) w1) :
    if Region.wanted o (yielded ops a.tmps) = true then Oper.wp Try.prog o a (W.alloc (.cells #[.pointer (some ⟨p, 0, none⟩)] 65)) Kc Q else Kc (a.put o.dst undef) (W.alloc (.cells #[.pointer (some ⟨p, 0, none⟩)] 65)) :=
  Kd.R_append_step kPtr (w0 := W) 0 hw (.tmp 30) (.tmp 36) 61 65 (.pointer none) 8 ho Try.underlying61 infoPtr rfl (by decide) (by decide) v ps p [.pointer (some ⟨p, 0, none⟩)] (fun _ => True) (fun _ => False) hs hx rfl (fun _ hk => hk.elim) (fun _ _ => trivial) HO ⟨rfl, rfl, rfl, Nat.le_refl _, fun _ hi => absurd hi (Nat.not_lt_zero _)⟩ (Nat.zero_le _) hl (fun v1 w1 h1 _ h3 h4 => h v1 w1 h1 h3 h4)
theorem alloc_size (W : World) (o : Obj) : (W.alloc o).heap.size = W.heap.size + 1 := by simp
theorem g_grown {D : Sort19} {r : Nat} {w w5 : World} {o : Obj} {g : Nat} {v : Value} {ps : List Nat} {ws : List Wi} (h : St D r w g v ps ws) (hg : (w.alloc o).grownBy w5 v.ownBlock) : w5.cell? ⟨g, 1, none⟩ = some v ∧ w5.frozen? ⟨g, 1, none⟩ = false := by
  have hgW : (w.alloc o).heap[g]? = some (.cells #[.int .i64 (r : Int), v] D.Td (0, 0)) := State.blk_below h.dk (below_alloc (Below.refl _ _) _)
  have hg5 := (hg.block g (State.lt_of_blk hgW) (fun e => h.g_row e.symm)).trans hgW
  exact ⟨by rw [blk_cell hg5]; rfl, blk_frozen hg5 1⟩
section
variable (r g : Nat) (A0 : Option Addr) (c0 : Nat) (ps : List Nat) (ws : List Wi) (id : ByteArray) (A : Option Addr) (c : Nat) (fr : List Int) (w : World) (h : St sp r w g (.slice A0 ws.length c0) ps ws) (hn : ws.length ≤ 64) (h0 : 0 < fr.length)
include h hn h0
set_option maxHeartbeats 2000000 in
theorem want_twice (hh : hasId ws id = true) :
    Calls Try.prog 15 #[.pointer (some ⟨g, 0, none⟩), .string id, .slice A fr.length c] w fun e w' => e = .returned (.int .i64 13) ∧ Below w.heap.size w w' := by
  have HS := Aside0.mk h
  obtain ⟨hg0, hg1⟩ := gcell h
  have HQ : Aside0 (∀ w', Below w.heap.size w w' → w'.cell? ⟨g, 1, none⟩ = some (.slice A0 ws.length c0)) := ⟨fun w' hb => pw_cell_below hb hg1⟩
  have hlen : ((fr.length : Int) == 0) = false := beq_eq_false_iff_ne.2 (by omega)
  have HH := Aside0.mk hh
  clear h hg0 hh
  go_enter Try.func15, Try.ntmps15
  go_wp2_with fail
  go_region_held3 (fun w' => w'.cell? ⟨g, 1, none⟩ = some (.slice A0 ws.length c0)) (first | assumption | exact HQ.out _ (box_below w _))
    (first
      | (go_at_call 26; refine (is_calls _ _).mono ?_; rintro e w1 ⟨rfl, rfl⟩)
      | (go_at_call 25; refine (contains r g w.heap.size A0 c0 ps ws id _ (HS.out.below (box_below w _)) (box_cell w _ _) (by omega)).mono ?_; rintro e w2 ⟨rfl, hd2⟩; have HB2 := Aside0.mk (box_drawn hd2); have hS2 := HQ.out _ HB2.out; clear hd2))
  rw [HH.out]
  go_wp2_with fail
  go_ret
  exact ⟨rfl, HB2.out⟩
set_option maxHeartbeats 2000000 in
theorem want_full (hh : hasId ws id = false) (h64 : ws.length = 64) :
    Calls Try.prog 15 #[.pointer (some ⟨g, 0, none⟩), .string id, .slice A fr.length c] w fun e w' => e = .returned (.int .i64 4) ∧ Below w.heap.size w w' := by
  have HS := Aside0.mk h
  obtain ⟨hg0, hg1⟩ := gcell h
  have HQ : Aside0 (∀ w', Below w.heap.size w w' → w'.cell? ⟨g, 1, none⟩ = some (.slice A0 ws.length c0)) := ⟨fun w' hb => pw_cell_below hb hg1⟩
  have hlen : ((fr.length : Int) == 0) = false := beq_eq_false_iff_ne.2 (by omega)
  have hl64 : ((ws.length : Int) == 64) = true := beq_iff_eq.2 (by omega)
  have HH := Aside0.mk hh
  clear h hg0 hh h64
  go_enter Try.func15, Try.ntmps15
  go_wp2_with fail
  go_region_held3 (fun w' => w'.cell? ⟨g, 1, none⟩ = some (.slice A0 ws.length c0)) (first | assumption | exact HQ.out _ (box_below w _))
    (first
      | (go_at_call 26; refine (is_calls _ _).mono ?_; rintro e w1 ⟨rfl, rfl⟩)
      | (go_at_call 25; refine (contains r g w.heap.size A0 c0 ps ws id _ (HS.out.below (box_below w _)) (box_cell w _ _) (by omega)).mono ?_; rintro e w2 ⟨rfl, hd2⟩; have HB2 := Aside0.mk (box_drawn hd2); have hS2 := HQ.out _ HB2.out; clear hd2))
  rw [HH.out]
  go_wp2_with fail
  go_ret
  exact ⟨rfl, HB2.out⟩
set_option maxHeartbeats 4000000 in
theorem want_ok (hA : (Kd.int .i64).C w A fr.length fr) (hc : fr.length ≤ c) (hfl : fr.length ≤ 1048576) (hh : hasId ws id = false) (h64 : ws.length < 64) :
    Calls Try.prog 15 #[.pointer (some ⟨g, 0, none⟩), .string id, .slice A fr.length c] w fun e w' => e = .returned (.int .i64 0) ∧ ∃ v' ps', St sp r w' g v' ps' (ws ++ [⟨id, fr, 0, 0⟩]) ∧ Fr w w' (Bl g (.slice A0 ws.length c0) ps) ∧ ∀ k, Bl g v' ps' k → Bl g (.slice A0 ws.length c0) ps k ∨ w.heap.size ≤ k := by
  have HS := Aside0.mk h
  obtain ⟨hg0, hg1⟩ := gcell h
  have HQ : Aside0 (∀ w', Below w.heap.size w w' → w'.cell? ⟨g, 1, none⟩ = some (.slice A0 ws.length c0)) := ⟨fun w' hb => pw_cell_below hb hg1⟩
  have hlen : ((fr.length : Int) == 0) = false := beq_eq_false_iff_ne.2 (by omega)
  have hl64 : ((ws.length : Int) == 64) = false := beq_eq_false_iff_ne.2 (by omega)
  have HH := Aside0.mk hh
  have HA := Aside0.mk hA
  clear h hg0 hh hA
  go_enter Try.func15, Try.ntmps15
  go_wp2_with fail
  go_region_held3 (fun w' => w'.cell? ⟨g, 1, none⟩ = some (.slice A0 ws.length c0)) (first | assumption | exact HQ.out _ (box_below w _))
    (first
      | (go_at_call 26; refine (is_calls _ _).mono ?_; rintro e w1 ⟨rfl, rfl⟩)
      | (go_at_call 25; refine (contains r g w.heap.size A0 c0 ps ws id _ (HS.out.below (box_below w _)) (box_cell w _ _) (by omega)).mono ?_; rintro e w2 ⟨rfl, hd2⟩; have HB2 := Aside0.mk (box_drawn hd2); have hS2 := HQ.out _ HB2.out; clear hd2))
  rw [HH.out]
  have HA2 := Aside0.mk (Kd.C_below HA.out (below_drew1 HB2.out))
  have HS2 := Aside0.mk (HS.out.below (below_drew1 HB2.out))
  have HQ2 : Aside0 (∀ w', Below w2.drew.heap.size w2.drew w' → w'.cell? ⟨g, 1, none⟩ = some (.slice A0 ws.length c0)) := ⟨fun w' hb => pw_cell_below hb hS2⟩
  clear HS HA HH
  go_wp2_with fail
  go_region_law (first
      | (refine goes_ Try.func27 (by kernel_rfl) rfl #[.slice A fr.length c] (by rfl) (by rfl) (by rfl) (by simp only [List.map_toArray, List.map_cons, List.map_nil]; rfl) ?_; refine (clone A c fr _ HA2.out hc h0 hfl).mono ?_; rintro e w3 ⟨A3, c3, rfl, hr3, hb3⟩; refine ⟨_, rfl, ?_⟩; have HR3 := Aside0.mk hr3; have HB3 := Aside0.mk hb3; have hS3 := HQ2.out _ hb3; have ha1 : ∀ o, (w3.alloc o).cell? ⟨g, 1, none⟩ = some (.slice A0 ws.length c0) := (fun o => pw_cell_below (below_alloc (Below.refl _ _) o) hS3); have ha2 : ∀ o o', ((w3.alloc o).alloc o').cell? ⟨g, 1, none⟩ = some (.slice A0 ws.length c0) := (fun o o' => pw_cell_below (below_alloc (below_alloc (Below.refl _ _) o) o') hS3); clear hr3 hb3)
      | (apply app_ptr (v := .slice A0 ws.length c0) (ps := ps) (p := w3.heap.size); (case hw => rfl); (case ho => rfl); (case hs => rfl); (case hx => rw [alloc_size]; rfl); (case HO => exact Kd.R_alloc (HS2.out.below HB3.out).row _); (case hl => have := HS2.out.len; omega); intro v1 w5 hrow hg5 hat; obtain ⟨A5, c5, e5⟩ := Kd.R_slice hrow; rw [List.length_append, List.length_singleton] at e5; subst e5; have HROW := Aside0.mk hrow; have HG5 := Aside0.mk hg5; have HAT := Aside0.mk hat; obtain ⟨hS5, hF5⟩ := g_grown (HS2.out.below HB3.out) hg5; clear hrow hg5 hat))
  all_goals
    obtain ⟨hst, hfr, hbl⟩ := St.push (x := ⟨id, fr, 0, 0⟩) HS2.out HB3.out (Kd.R_lower HR3.out (Nat.zero_le _)) HG5.out HROW.out HAT.out
    have HST := Aside0.mk hst
    have HFR := Aside0.mk hfr
    have HBL := Aside0.mk hbl
    clear hst hfr hbl
    go_wp2_with fail
    go_ret
    exact ⟨rfl, _, _, HST.out, (Fr.of_below (below_drew1 HB2.out) _).trans HFR.out (fun k hk => .inl hk), fun k hk => (HBL.out k hk).imp (fun h => h) (fun h => Nat.le_trans (below_drew1 HB2.out).size h)⟩
end
end Go.Proofs.Ytiaanhjnjkmnfaa.Want19
