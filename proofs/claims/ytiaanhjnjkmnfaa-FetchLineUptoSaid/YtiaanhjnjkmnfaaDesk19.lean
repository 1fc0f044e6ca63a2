/- A desk of wishes in memory, the program's or the reference's; what is wanted, in plain words. -/
import Derived.Test.YtiaanhjnjkmnfaaQBase19x
import Derived.Test.YtiaanhjnjkmnfaaState
namespace Go.Proofs.Ytiaanhjnjkmnfaa.Desk19
open Go.RowKit Go.Proofs.YtiaanhjnjkmnfaaW.PrintWords Go.Proofs.YtiaanhjnjkmnfaaW.PrintMore Go.Proofs.Ytiaanhjnjkmnfaa.QKinds
set_option linter.unusedVariables false
set_option linter.unusedSimpArgs false
/-- A wish: how often it was asked, and ticks since. -/
structure Wi where
  id : ByteArray
  fr : List Int
  asked : Nat
  ago : Nat
def noWi : Wi := ⟨ByteArray.empty, [], 0, 0⟩
def isDue (r : Nat) (x : Wi) : Bool := decide (x.asked = 0) || decide (r ≤ x.ago + 1)
def tick1 (r : Nat) (x : Wi) : Wi := if isDue r x = true then { x with asked := x.asked + 1, ago := 0 } else { x with ago := x.ago + 1 }
def toOf (x : Wi) : Int := x.fr.getD (x.asked % x.fr.length) 0
def asks (r : Nat) (ws : List Wi) : List (ByteArray × Int) := ws.filterMap fun x => if isDue r x = true then some (x.id, toOf x) else none
def ticks (r : Nat) (ws : List Wi) : List Wi := ws.map (tick1 r)
/-- What holds of a wish behind t ticks. -/
structure Wf (r t : Nat) (x : Wi) : Prop where
  ne : 0 < x.fr.length
  le : x.fr.length ≤ 1048576
  ag : x.ago < r ∧ (x.asked = 0 → x.ago = 0)
  at_ : x.asked ≤ t
theorem Wf.tick {r t : Nat} {x : Wi} (hr : 1 ≤ r) (h : Wf r t x) : Wf r (t + 1) (tick1 r x) := by
  obtain ⟨h1, h2, h3, h4⟩ := h
  unfold tick1
  split
  · exact ⟨h1, h2, ⟨by show 0 < r; omega, fun _ => rfl⟩, by show x.asked + 1 ≤ t + 1; omega⟩
  · rename_i hd
    have hd : ¬ (x.asked = 0 ∨ r ≤ x.ago + 1) := by simpa [isDue] using hd
    exact ⟨h1, h2, ⟨by show x.ago + 1 < r; omega, fun (h : x.asked = 0) => by omega⟩, by show x.asked ≤ t + 1; omega⟩
theorem Wf.later {r t : Nat} {x : Wi} (h : Wf r t x) (n : Nat) (hn : t ≤ n) : Wf r n x := ⟨h.ne, h.le, h.ag, Nat.le_trans h.at_ hn⟩
/-- Which of the two: the types of desk, row and wish; the last two numbers of a wish. -/
structure Sort19 where
  Td : Nat
  Tp : Nat
  Tw : Nat
  a : Nat → Wi → Int
  b : Nat → Wi → Int
  ok : (Td ≠ 3 ∧ Tp ≠ 3 ∧ Tw ≠ 3) ∧ Td ≠ Tp ∧ Td ≠ Tw ∧ Tp ≠ Tw
def sp : Sort19 := ⟨63, 65, 70, fun _ x => ((x.asked % x.fr.length : Nat) : Int), fun r x => if x.asked = 0 then 1 else (r : Int) - (x.ago : Int), by decide⟩
def sr : Sort19 := ⟨74, 76, 78, fun _ x => (x.asked : Int), fun _ x => (x.ago : Int), by decide⟩
/-- Behind it all but these blocks of w are as they were. -/
structure Fr (w w' : World) (bl : Nat → Prop) : Prop where
  os : w'.os = w.os
  tape : w'.tape = w.tape
  output : w'.output = w.output
  size : w.heap.size ≤ w'.heap.size
  rest : ∀ k, k < w.heap.size → ¬ bl k → w'.heap[k]? = w.heap[k]?
section
variable {w w1 w2 : World} {bl bl1 : Nat → Prop}
theorem Fr.refl (w : World) (bl : Nat → Prop) : Fr w w bl := ⟨rfl, rfl, rfl, Nat.le_refl _, fun _ _ _ => rfl⟩
theorem Fr.trans (h : Fr w w1 bl) (k : Fr w1 w2 bl1) (hs : ∀ k, bl1 k → bl k ∨ w.heap.size ≤ k) : Fr w w2 bl :=
  ⟨k.os.trans h.os, k.tape.trans h.tape, k.output.trans h.output, Nat.le_trans h.size k.size, fun i hi hn => (k.rest i (Nat.lt_of_lt_of_le hi h.size) (fun hb => (hs i hb).elim hn (by omega))).trans (h.rest i hi hn)⟩
theorem Fr.of_below (h : Below w.heap.size w w1) (bl : Nat → Prop) : Fr w w1 bl := ⟨h.os, h.tape, h.output, h.size, fun i hi _ => h.block i hi⟩
theorem Fr.below_then (h : Fr w w1 bl) (k : Below w1.heap.size w1 w2) : Fr w w2 bl := h.trans (Fr.of_below k (fun _ => False)) (fun _ hk => hk.elim)
theorem Fr.drewN (h : Fr w w1 bl) (n : Nat) : Fr w (w1.drewN n) bl := ⟨h.os, h.tape, h.output, h.size, h.rest⟩
theorem Fr.drew (h : Fr w w1 bl) : Fr w w1.drew bl := ⟨h.os, h.tape, h.output, h.size, h.rest⟩
theorem Fr.drawn (h : Fr w w1 bl) (k : Drawn0 w1 w2) : Fr w w2 bl := by
  obtain ⟨n, rfl⟩ := k
  exact h.drewN n
theorem Fr.alloc (h : Fr w w1 bl) (o : Obj) : Fr w (w1.alloc o) bl := h.below_then ((Below.refl _ _).alloc (Nat.le_refl _) o)
theorem Fr.set (h : Fr w w1 bl) {g j : Nat} (hg : bl g ∨ w.heap.size ≤ g) (v : Value) : Fr w (w1.setCell ⟨g, j, none⟩ v) bl :=
  ⟨h.os, h.tape, h.output, by simpa [World.setCell] using h.size, fun i hi hn => (Below.heap_setCell w1 ⟨g, j, none⟩ v i (fun e => by have e : i = g := e; subst e; rcases hg with hg | hg; exact hn hg; omega)).trans (h.rest i hi hn)⟩
theorem Fr.grown (h : Fr w w1 bl) {row : Option Nat} (hg : w1.grownBy w2 row) (hr : ∀ k, row = some k → bl k ∨ w.heap.size ≤ k) : Fr w w2 bl :=
  ⟨hg.os.trans h.os, hg.tape.trans h.tape, hg.output.trans h.output, Nat.le_trans h.size hg.size, fun i hi hn => (hg.block i (Nat.lt_of_lt_of_le hi h.size) (fun e => by rcases hr i e.symm with h2 | h2; exact hn h2; omega)).trans (h.rest i hi hn)⟩
theorem Fr.below (h : Fr w w1 bl) {B : Nat} (hb : ∀ k, bl k → B ≤ k) (hB : B ≤ w.heap.size) : Below B w w1 :=
  ⟨h.os, h.tape, h.output, h.size, fun i hi => h.rest i (Nat.lt_of_lt_of_le hi hB) (fun hk => by have := hb i hk; omega)⟩
theorem Fr.wide (h : Fr w w1 bl) (hs : ∀ k, bl k → bl1 k ∨ w.heap.size ≤ k) : Fr w w1 bl1 := (Fr.refl w bl1).trans h hs
theorem Fr.blk (h : Fr w w1 bl) {g : Nat} {o : Obj} (hg : w.heap[g]? = some o) (hn : ¬ bl g) : w1.heap[g]? = some o := (h.rest g (State.lt_of_blk hg) hn).trans hg
/-- A row of types that the changed blocks have not. -/
theorem R_fr {α : Type} {d : Kd α} {e base : Nat} {ok : Nat → Prop} {v : Value} {xs : List α} (h : d.R e w base ok v xs) (hf : Fr w w1 bl) (hn : ∀ k, ok k → bl k → ∀ q, q ∈ e :: d.E → ∀ cs, w.heap[k]? ≠ some (.cells cs q (0, 0))) : d.R e w1 base ok v xs :=
  Kd.R_mono (Kd.R_step (Kd.R_bound h) (fun k hk hlt => hf.rest k hlt (fun hb => by
    obtain ⟨h1, _, _, q, hq, cs, hc⟩ := hk
    exact hn k h1 hb q hq cs hc))) (fun _ hk => hk.1)
end
theorem one_ptr (p : Nat) : (Value.pointer (some ⟨p, 0, none⟩)).oneCell' = true := rfl
def kPtr : Kd Nat := Kd.scalar (fun p => .pointer (some ⟨p, 0, none⟩)) one_ptr
theorem kPtr_at {w : World} {A : Option Addr} {n : Nat} {ps : List Nat} (h : kPtr.C w A n ps) (i : Nat) (h1 : i < n) : ∃ ad, A = some ad ∧ w.cell? (ad.add i) = some (.pointer (some ⟨ps.getD i 0, 0, none⟩)) := by
  obtain ⟨ad, e, hc⟩ := ReadsOf.at_ (Kd.reads_of_C (enc := fun p : Nat => Value.pointer (some ⟨p, 0, none⟩)) (d := (0 : Nat)) (h1 := one_ptr) h) (i : Int) (by omega) (by omega)
  rw [Int.toNat_natCast] at hc
  exact ⟨ad, e, by rw [hc, rdOf, Int.toNat_natCast]⟩
/-- A wish at block p. -/
structure WishV (D : Sort19) (r : Nat) (w : World) (p : Nat) (x : Wi) (A : Option Addr) (c : Nat) : Prop where
  blk : w.heap[p]? = some (.cells #[.string x.id, .slice A x.fr.length c, .int .i64 (D.a r x), .int .i64 (D.b r x)] D.Tw (0, 0))
  row : (Kd.int .i64).R 3 w 0 (fun _ => True) (.slice A x.fr.length c) x.fr
def WishAt (D : Sort19) (r : Nat) (w : World) (p : Nat) (x : Wi) : Prop := ∃ A c, WishV D r w p x A c
/-- The desk's own blocks. -/
def Bl (g : Nat) (v : Value) (ps : List Nat) (k : Nat) : Prop := k = g ∨ v.ownBlock = some k ∨ k ∈ ps
structure St (D : Sort19) (r : Nat) (w : World) (g : Nat) (v : Value) (ps : List Nat) (ws : List Wi) : Prop where
  dk : w.heap[g]? = some (.cells #[.int .i64 (r : Int), v] D.Td (0, 0))
  row : kPtr.R D.Tp w 0 (fun _ => True) v ps
  nd : ps.Nodup
  len : ps.length = ws.length
  wish : ∀ i, i < ws.length → WishAt D r w (ps.getD i 0) (ws.getD i noWi)
section
variable {D : Sort19} {r : Nat} {w w1 : World} {g : Nat} {v : Value} {ps : List Nat} {ws : List Wi}
theorem getD_mem {l : List Nat} {i : Nat} (h : i < l.length) : l.getD i 0 ∈ l := by
  rw [List.getD_eq_getElem?_getD, List.getElem?_eq_getElem h]; exact List.getElem_mem h
theorem St.mem (h : St D r w g v ps ws) {p : Nat} (hp : p ∈ ps) : ∃ i, i < ws.length ∧ ps.getD i 0 = p := by
  obtain ⟨i, hi, rfl⟩ := List.getElem_of_mem hp
  exact ⟨i, by rw [← h.len]; exact hi, by rw [List.getD_eq_getElem?_getD, List.getElem?_eq_getElem hi]; rfl⟩
/-- The types of the desk's own blocks. -/
theorem St.ty (h : St D r w g v ps ws) {k : Nat} (hk : Bl g v ps k) : ∃ cs t, w.heap[k]? = some (.cells cs t (0, 0)) ∧ (t = D.Td ∨ t = D.Tp ∨ t = D.Tw) ∧ t ≠ 3 := by
  rcases hk with rfl | hk | hk
  · exact ⟨_, _, h.dk, .inl rfl, D.ok.1.1⟩
  · obtain ⟨cs, hc⟩ := Kd.R_typed h.row k hk
    exact ⟨cs, _, hc, .inr (.inl rfl), D.ok.1.2.1⟩
  · obtain ⟨i, hi, rfl⟩ := h.mem hk
    obtain ⟨A, c, hb, _⟩ := h.wish i hi
    exact ⟨_, _, hb, .inr (.inr rfl), D.ok.1.2.2⟩
theorem St.lt (h : St D r w g v ps ws) {k : Nat} (hk : Bl g v ps k) : k < w.heap.size := by
  obtain ⟨cs, t, hb, _⟩ := h.ty hk
  exact State.lt_of_blk hb
/-- The rows of whom to ask are none of these blocks. -/
theorem St.fr_int (h : St D r w g v ps ws) {u : Value} {l : List Int} (hR : (Kd.int .i64).R 3 w 0 (fun _ => True) u l) (hf : Fr w w1 (Bl g v ps)) : (Kd.int .i64).R 3 w1 0 (fun _ => True) u l :=
  R_fr hR hf (fun k _ hb q hq cs hc => by
    obtain ⟨cs2, t, h1, _, h3⟩ := h.ty hb
    rw [hc] at h1
    injection h1 with h1
    injection h1 with _ h1
    have hq : q = 3 := by simpa [Kd.int, Kd.scalar] using hq
    exact h3 (h1.symm.trans hq))
/-- Another's blocks are changed: the desk is as it was. -/
theorem St.move {bl : Nat → Prop} (h : St D r w g v ps ws) (hf : Fr w w1 bl) (hd : ∀ k, Bl g v ps k → ¬ bl k) (ht : ∀ k, bl k → ∀ cs, w.heap[k]? ≠ some (.cells cs 3 (0, 0))) : St D r w1 g v ps ws := by
  refine ⟨hf.blk h.dk (hd g (.inl rfl)), ?_, h.nd, h.len, fun i hi => ?_⟩
  · exact Kd.R_mono (Kd.R_step (Kd.R_mono (ok' := fun k => v.ownBlock = some k) (by
      obtain ⟨h1, inner, ho, hr⟩ := h.row
      exact (⟨fun k hk => hk, inner, ho, hr⟩ : kPtr.R D.Tp w 0 (fun k => v.ownBlock = some k) v ps)) (fun _ hk => hk)) (fun k hk hlt => hf.rest k hlt (hd k (.inr (.inl hk))))) (fun _ _ => trivial)
  · obtain ⟨A, c, hb, hR⟩ := h.wish i hi
    exact ⟨A, c, hf.blk hb (hd _ (.inr (.inr (getD_mem (by rw [h.len]; exact hi))))), R_fr hR hf (fun k _ hb q hq cs hc => by
      have hq : q = 3 := by simpa [Kd.int, Kd.scalar] using hq
      subst hq; exact ht k hb cs hc)⟩
theorem St.below (h : St D r w g v ps ws) (hb : Below w.heap.size w w1) : St D r w1 g v ps ws := h.move (Fr.of_below hb (fun _ => False)) (fun _ _ h => h) (fun _ h => h.elim)
theorem St.drewN (h : St D r w g v ps ws) (n : Nat) : St D r (w.drewN n) g v ps ws := h.below (pw_below_drewN (Below.refl _ _) n)
theorem St.ne_g (h : St D r w g v ps ws) {p : Nat} (hp : p ∈ ps) : p ≠ g := by
  rintro rfl
  obtain ⟨i, hi, rfl⟩ := h.mem hp
  obtain ⟨A, c, hb, _⟩ := h.wish i hi
  have := h.dk.symm.trans hb
  injection this with this
  injection this with _ this
  exact D.ok.2.2.1 this
theorem St.ne_row (h : St D r w g v ps ws) {p : Nat} (hp : p ∈ ps) : v.ownBlock ≠ some p := by
  intro he
  obtain ⟨i, hi, rfl⟩ := h.mem hp
  obtain ⟨A, c, hb, _⟩ := h.wish i hi
  obtain ⟨cs, hc⟩ := Kd.R_typed h.row _ he
  have := hc.symm.trans hb
  injection this with this
  injection this with _ this
  exact D.ok.2.2.2 this
/-- One wish is changed, and blocks that are not the desk's. -/
theorem St.put {bl : Nat → Prop} (h : St D r w g v ps ws) {i : Nat} (hi : i < ws.length) {x : Wi} (hf : Fr w w1 bl) (hbl : ∀ k, bl k → k = ps.getD i 0 ∨ ¬ Bl g v ps k) (hty : ∀ k, bl k → ∀ cs, w.heap[k]? ≠ some (.cells cs 3 (0, 0))) (hx : WishAt D r w1 (ps.getD i 0) x) : St D r w1 g v ps (ws.set i x) := by
  have hil : i < ps.length := by rw [h.len]; exact hi
  have hm := getD_mem hil
  have away : ∀ k, Bl g v ps k → k ≠ ps.getD i 0 → ¬ bl k := fun k hk hne hb => (hbl k hb).elim hne (fun hn => hn hk)
  refine ⟨hf.blk h.dk (away g (.inl rfl) (fun e => h.ne_g hm e.symm)), ?_, h.nd, by rw [List.length_set]; exact h.len, fun j hj => ?_⟩
  · exact Kd.R_mono (Kd.R_step (Kd.R_mono (ok' := fun k => v.ownBlock = some k) (by
      obtain ⟨h1, inner, ho, hr⟩ := h.row
      exact (⟨fun k hk => hk, inner, ho, hr⟩ : kPtr.R D.Tp w 0 (fun k => v.ownBlock = some k) v ps)) (fun _ hk => hk)) (fun k hk hlt => hf.rest k hlt (away k (.inr (.inl hk)) (fun e => h.ne_row hm (by rw [hk, e]))))) (fun _ _ => trivial)
  · rw [List.length_set] at hj
    by_cases e : i = j
    · subst e
      rw [show (ws.set i x).getD i noWi = x from by rw [List.getD_eq_getElem?_getD, List.getElem?_set_self hj]; rfl]
      exact hx
    · rw [show (ws.set i x).getD j noWi = ws.getD j noWi from by rw [List.getD_eq_getElem?_getD, List.getElem?_set_ne e, List.getD_eq_getElem?_getD]]
      obtain ⟨A, c, hb, hR⟩ := h.wish j hj
      have hjl : j < ps.length := by rw [h.len]; exact hj
      refine ⟨A, c, hf.blk hb (away _ (.inr (.inr (getD_mem hjl))) (fun he => e ?_)), R_fr hR hf (fun k _ hb q hq cs hc => by
        have hq : q = 3 := by simpa [Kd.int, Kd.scalar] using hq
        subst hq; exact hty k hb cs hc)⟩
      rw [List.getD_eq_getElem?_getD, List.getD_eq_getElem?_getD, List.getElem?_eq_getElem hil, List.getElem?_eq_getElem hjl] at he
      exact ((List.getElem_inj h.nd).1 (by simpa using he)).symm
theorem St.put_ty (h : St D r w g v ps ws) {i : Nat} (hi : i < ws.length) : ∀ cs, w.heap[ps.getD i 0]? ≠ some (.cells cs 3 (0, 0)) := by
  intro cs hc
  obtain ⟨cs2, t, h1, _, h3⟩ := h.ty (.inr (.inr (getD_mem (by rw [h.len]; exact hi))))
  rw [hc] at h1
  injection h1 with h1
  injection h1 with _ h1
  exact h3 h1.symm
/-- A block of another type is none of the desk's. -/
theorem St.not_bl (h : St D r w g v ps ws) {k t : Nat} {cs : Array Value} (hc : w.heap[k]? = some (.cells cs t (0, 0))) (h1 : t ≠ D.Td) (h2 : t ≠ D.Tp) (h3 : t ≠ D.Tw) : ¬ Bl g v ps k := by
  intro hk
  obtain ⟨cs2, t2, hc2, ht, _⟩ := h.ty hk
  rw [hc] at hc2
  injection hc2 with hc2
  injection hc2 with _ hc2
  subst hc2
  rcases ht with e | e | e
  · exact h1 e
  · exact h2 e
  · exact h3 e
theorem St.g_row (h : St D r w g v ps ws) : v.ownBlock ≠ some g := by
  intro he
  obtain ⟨cs, hc⟩ := Kd.R_typed h.row _ he
  have := hc.symm.trans h.dk
  injection this with this
  injection this with _ this
  exact D.ok.2.1 this.symm
/-- A wish more. -/
theorem St.push {w3 w5 : World} {v1 : Value} {x : Wi} {A : Option Addr} {c : Nat} (h : St D r w g v ps ws) (hb : Below w.heap.size w w3) (hr : (Kd.int .i64).R 3 w3 0 (fun _ => True) (.slice A x.fr.length c) x.fr)
    (hg : (w3.alloc (.cells #[.string x.id, .slice A x.fr.length c, .int .i64 (D.a r x), .int .i64 (D.b r x)] D.Tw)).grownBy w5 v.ownBlock) (hrow : kPtr.R D.Tp w5 0 (fun _ => True) v1 (ps ++ [w3.heap.size]))
    (hat : v1.ownBlock = v.ownBlock ∨ ∃ b, v1.ownBlock = some b ∧ (w3.alloc (.cells #[.string x.id, .slice A x.fr.length c, .int .i64 (D.a r x), .int .i64 (D.b r x)] D.Tw)).heap.size ≤ b) :
    St D r (w5.setCell ⟨g, 1, none⟩ v1) g v1 (ps ++ [w3.heap.size]) (ws ++ [x]) ∧ Fr w (w5.setCell ⟨g, 1, none⟩ v1) (Bl g v ps) ∧ ∀ k, Bl g v1 (ps ++ [w3.heap.size]) k → Bl g v ps k ∨ w.heap.size ≤ k := by
  have h3 := h.below hb
  have hsz : (w3.alloc (.cells #[.string x.id, .slice A x.fr.length c, .int .i64 (D.a r x), .int .i64 (D.b r x)] D.Tw)).heap.size = w3.heap.size + 1 := by simp
  have hnew := State.blk_alloc w3 (.cells #[.string x.id, .slice A x.fr.length c, .int .i64 (D.a r x), .int .i64 (D.b r x)] D.Tw)
  have hW : Fr w3 (w3.alloc (.cells #[.string x.id, .slice A x.fr.length c, .int .i64 (D.a r x), .int .i64 (D.b r x)] D.Tw)) (Bl g v ps) := (Fr.refl w3 _).alloc _
  have f5 : Fr w3 w5 (Bl g v ps) := hW.grown hg (fun k hk => .inl (.inr (.inl hk)))
  have f6 : Fr w3 (w5.setCell ⟨g, 1, none⟩ v1) (Bl g v ps) := f5.set (.inl (.inl rfl)) v1
  have hgW : (w3.alloc (.cells #[.string x.id, .slice A x.fr.length c, .int .i64 (D.a r x), .int .i64 (D.b r x)] D.Tw)).heap[g]? = some (.cells #[.int .i64 (r : Int), v] D.Td (0, 0)) := State.blk_below h3.dk (below_alloc (Below.refl _ _) _)
  have hg5 : w5.heap[g]? = some (.cells #[.int .i64 (r : Int), v] D.Td (0, 0)) := (hg.block g (State.lt_of_blk hgW) (fun e => h.g_row e.symm)).trans hgW
  have old : ∀ p o, p ∈ ps → w3.heap[p]? = some o → (w5.setCell ⟨g, 1, none⟩ v1).heap[p]? = some o := fun p o hp ho => by
    have hpW : (w3.alloc (.cells #[.string x.id, .slice A x.fr.length c, .int .i64 (D.a r x), .int .i64 (D.b r x)] D.Tw)).heap[p]? = some o := State.blk_below ho (below_alloc (Below.refl _ _) _)
    have hp5 : w5.heap[p]? = some o := (hg.block p (State.lt_of_blk hpW) (fun e => h.ne_row hp e.symm)).trans hpW
    exact (Below.heap_setCell w5 ⟨g, 1, none⟩ v1 p (h.ne_g hp)).trans hp5
  refine ⟨⟨State.blk_set hg5 v1, ?_, ?_, ?_, fun i hi => ?_⟩, ?_, ?_⟩
  · exact Kd.R_set hrow hg5 (fun q hq => by
      have hq : q = D.Tp := by simpa [kPtr, Kd.scalar] using hq
      subst hq; exact fun e => D.ok.2.1 e.symm) 1 v1
  · rw [List.nodup_append]
    refine ⟨h.nd, by simp, fun a ha b hb2 => ?_⟩
    obtain rfl : b = w3.heap.size := by simpa using hb2
    have := h3.lt (.inr (.inr ha))
    omega
  · rw [List.length_append, List.length_append, h.len]; rfl
  · rw [List.length_append, List.length_singleton] at hi
    by_cases hl : i < ws.length
    · have hpl : i < ps.length := by rw [h.len]; exact hl
      rw [show (ps ++ [w3.heap.size]).getD i 0 = ps.getD i 0 from by rw [List.getD_eq_getElem?_getD, List.getElem?_append_left hpl, List.getD_eq_getElem?_getD], show (ws ++ [x]).getD i noWi = ws.getD i noWi from by rw [List.getD_eq_getElem?_getD, List.getElem?_append_left hl, List.getD_eq_getElem?_getD]]
      obtain ⟨A2, c2, hb2, hR2⟩ := h3.wish i hl
      exact ⟨A2, c2, old _ _ (getD_mem hpl) hb2, h3.fr_int hR2 f6⟩
    · obtain rfl : i = ws.length := by omega
      rw [show (ps ++ [w3.heap.size]).getD ws.length 0 = w3.heap.size from by rw [← h.len, List.getD_eq_getElem?_getD, List.getElem?_append_right (Nat.le_refl _), Nat.sub_self]; rfl, show (ws ++ [x]).getD ws.length noWi = x from by rw [List.getD_eq_getElem?_getD, List.getElem?_append_right (Nat.le_refl _), Nat.sub_self]; rfl]
      refine ⟨A, c, ?_, h3.fr_int hr f6⟩
      have hn5 := (hg.block _ (by rw [hsz]; omega) (fun e => by have := h3.lt (.inr (.inl e.symm)); omega)).trans hnew
      exact (Below.heap_setCell w5 ⟨g, 1, none⟩ v1 _ (fun e => by have e : w3.heap.size = g := e; have := State.lt_of_blk h3.dk; omega)).trans hn5
  · exact (Fr.of_below hb (Bl g v ps)).trans f6 (fun k hk => .inl hk)
  · rintro k (rfl | hk | hk)
    · exact .inl (.inl rfl)
    · rcases hat with e | ⟨b, e, hle⟩
      · exact .inl (.inr (.inl (by rw [← e]; exact hk)))
      · rw [e] at hk
        injection hk with hk
        subst hk
        have := hb.size
        exact .inr (by omega)
    · rcases List.mem_append.1 hk with hk | hk
      · exact .inl (.inr (.inr hk))
      · obtain rfl : k = w3.heap.size := by simpa using hk
        exact .inr hb.size
/-- Behind k rounds of a tick. -/
def half (r : Nat) (ws : List Wi) (k : Nat) : List Wi := (ws.take k).map (tick1 r) ++ ws.drop k
theorem half_zero (r : Nat) (ws : List Wi) : half r ws 0 = ws := by simp [half]
theorem half_all (r : Nat) (ws : List Wi) : half r ws ws.length = ticks r ws := by simp [half, ticks]
theorem half_len (r : Nat) (ws : List Wi) (k : Nat) : (half r ws k).length = ws.length := by simp [half]; omega
theorem half_get (r : Nat) (ws : List Wi) (k : Nat) (h : k < ws.length) : (half r ws k).getD k noWi = ws.getD k noWi := by
  rw [half, List.getD_eq_getElem?_getD, List.getElem?_append_right (by simp; omega), List.getD_eq_getElem?_getD]
  simp [List.length_take, show min k ws.length = k by omega]
theorem half_succ (r : Nat) (ws : List Wi) (k : Nat) (h : k < ws.length) : half r ws (k + 1) = (half r ws k).set k (tick1 r (ws.getD k noWi)) := by
  have e : ws.getD k noWi = ws[k] := by rw [List.getD_eq_getElem?_getD, List.getElem?_eq_getElem h]; rfl
  rw [half, half, e, List.take_succ_eq_append_getElem h, List.map_append, List.set_append_right _ _ (by simp; omega), List.drop_eq_getElem_cons h]
  have hl : ((ws.take k).map (tick1 r)).length = k := by simp; omega
  rw [hl, Nat.sub_self, List.set_cons_zero]
  simp
theorem asks_succ (r : Nat) (ws : List Wi) (k : Nat) (h : k < ws.length) : asks r (ws.take (k + 1)) = if isDue r (ws.getD k noWi) = true then asks r (ws.take k) ++ [((ws.getD k noWi).id, toOf (ws.getD k noWi))] else asks r (ws.take k) := by
  have e : ws.getD k noWi = ws[k] := by rw [List.getD_eq_getElem?_getD, List.getElem?_eq_getElem h]; rfl
  rw [asks, List.take_succ_eq_append_getElem h, List.filterMap_append, e, ← asks]
  split
  · rename_i hd; simp [hd]
  · rename_i hd; simp [hd]
theorem asks_len (r : Nat) (ws : List Wi) : (asks r ws).length ≤ ws.length := List.length_filterMap_le _ _
end
end Go.Proofs.Ytiaanhjnjkmnfaa.Desk19
