/- Groups of a graph on the numbers below n: linked roots, and the least number of each group (plain lists). -/
namespace Go.Proofs.Ytmkgbkocanfckaa.GroupsP
set_option linter.unusedVariables false
set_option linter.unusedSimpArgs false
def lk (u : List Nat) (i : Nat) : Nat := u.getD i i
def rt (u : List Nat) : Nat → Nat → Nat
  | 0, i => i
  | f + 1, i => if lk u i = i then i else rt u f (lk u i)
def root (u : List Nat) (i : Nat) : Nat := rt u i i
def Low (u : List Nat) : Prop := ∀ i, lk u i ≤ i
theorem rt_fix {u : List Nat} {i : Nat} (h : lk u i = i) : ∀ f, rt u f i = i
  | 0 => rfl
  | f + 1 => by rw [rt, if_pos h]
theorem rt_stable {u : List Nat} (hl : Low u) : ∀ (i f : Nat), i ≤ f → rt u f i = rt u i i := by
  intro i
  induction i using Nat.strongRecOn with
  | ind i ih =>
    intro f hf
    by_cases h : lk u i = i
    · rw [rt_fix h, rt_fix h]
    · have hlt : lk u i < i := Nat.lt_of_le_of_ne (hl i) h
      obtain ⟨f, rfl⟩ : ∃ m, f = m + 1 := ⟨f - 1, by omega⟩
      obtain ⟨j, hj⟩ : ∃ j, i = j + 1 := ⟨i - 1, by omega⟩
      have e1 : rt u (f + 1) i = rt u f (lk u i) := by rw [rt, if_neg h]
      have e2 : rt u i i = rt u j (lk u i) := by
        conv => lhs; arg 2; rw [hj]
        rw [rt, if_neg h]
      rw [e1, e2, ih _ hlt f (by omega), ih _ hlt j (by omega)]
theorem root_fix {u : List Nat} {i : Nat} (h : lk u i = i) : root u i = i := rt_fix h i
theorem root_step {u : List Nat} (hl : Low u) (i : Nat) : root u i = root u (lk u i) := by
  by_cases h : lk u i = i
  · rw [h]
  · have hlt : lk u i < i := Nat.lt_of_le_of_ne (hl i) h
    obtain ⟨j, hj⟩ : ∃ j, i = j + 1 := ⟨i - 1, by omega⟩
    have e2 : rt u i i = rt u j (lk u i) := by
      conv => lhs; arg 2; rw [hj]
      rw [rt, if_neg h]
    unfold root
    rw [e2, rt_stable hl _ j (by omega)]
theorem root_is {u : List Nat} (hl : Low u) : ∀ i, lk u (root u i) = root u i := by
  intro i
  induction i using Nat.strongRecOn with
  | ind i ih =>
    by_cases h : lk u i = i
    · rw [root_fix h, h]
    · rw [root_step hl]; exact ih _ (Nat.lt_of_le_of_ne (hl i) h)
theorem root_le {u : List Nat} (hl : Low u) : ∀ i, root u i ≤ i := by
  intro i
  induction i using Nat.strongRecOn with
  | ind i ih =>
    by_cases h : lk u i = i
    · rw [root_fix h]; exact Nat.le_refl _
    · have hlt := Nat.lt_of_le_of_ne (hl i) h
      rw [root_step hl]; exact Nat.le_trans (ih _ hlt) (hl i)
theorem root_root {u : List Nat} (hl : Low u) (i : Nat) : root u (root u i) = root u i := root_fix (root_is hl i)
theorem lk_set (u : List Nat) (b a j : Nat) (hb : b < u.length) : lk (u.set b a) j = if j = b then a else lk u j := by
  unfold lk
  rw [List.getD_eq_getElem?_getD, List.getElem?_set]
  by_cases h : b = j
  · subst h; rw [if_pos rfl, if_pos hb, if_pos rfl]; rfl
  · rw [if_neg h, if_neg (Ne.symm h), ← List.getD_eq_getElem?_getD]
theorem low_set {u : List Nat} (hl : Low u) {a b : Nat} (hab : a ≤ b) (hb : b < u.length) : Low (u.set b a) := by
  intro j
  rw [lk_set u b a j hb]
  split
  · subst_vars; exact hab
  · exact hl j
/-- Two roots are linked. -/
theorem root_link {u : List Nat} (hl : Low u) {a b : Nat} (hab : a ≤ b) (hb : b < u.length) (fa : lk u a = a) (fb : lk u b = b) : ∀ j, root (u.set b a) j = if root u j = b then a else root u j := by
  intro j
  have hl' := low_set hl hab hb
  induction j using Nat.strongRecOn with
  | ind j ih =>
    by_cases h : lk u j = j
    · rw [root_fix h]
      by_cases hj : j = b
      · subst hj
        rw [if_pos rfl, root_step hl', lk_set u j a j hb, if_pos rfl]
        apply root_fix
        rw [lk_set u j a a hb]
        split
        · rfl
        · exact fa
      · rw [if_neg hj]
        apply root_fix
        rw [lk_set u b a j hb, if_neg hj, h]
    · have hj : j ≠ b := fun e => h (by rw [e, fb])
      have hlt := Nat.lt_of_le_of_ne (hl j) h
      rw [root_step hl', lk_set u b a j hb, if_neg hj, ih _ hlt, ← root_step hl]
def link (u : List Nat) (e : Nat × Nat) : List Nat := u.set (max (root u e.1) (root u e.2)) (min (root u e.1) (root u e.2))
theorem link_len (u : List Nat) (e : Nat × Nat) : (link u e).length = u.length := by simp [link]
theorem link_low {u : List Nat} (hl : Low u) (e : Nat × Nat) (h1 : e.1 < u.length) (h2 : e.2 < u.length) : Low (link u e) := by
  have k1 := root_le hl e.1
  have k2 := root_le hl e.2
  exact low_set hl (by omega) (by omega)
theorem link_root {u : List Nat} (hl : Low u) (e : Nat × Nat) (h1 : e.1 < u.length) (h2 : e.2 < u.length) (j : Nat) :
    root (link u e) j = if root u j = root u e.1 ∨ root u j = root u e.2 then min (root u e.1) (root u e.2) else root u j := by
  have k1 := root_le hl e.1
  have k2 := root_le hl e.2
  have f1 := root_is hl e.1
  have f2 := root_is hl e.2
  have fa : lk u (min (root u e.1) (root u e.2)) = min (root u e.1) (root u e.2) := by
    rcases Nat.le_total (root u e.1) (root u e.2) with h | h
    · rw [Nat.min_eq_left h]; exact f1
    · rw [Nat.min_eq_right h]; exact f2
  have fb : lk u (max (root u e.1) (root u e.2)) = max (root u e.1) (root u e.2) := by
    rcases Nat.le_total (root u e.1) (root u e.2) with h | h
    · rw [Nat.max_eq_right h]; exact f2
    · rw [Nat.max_eq_left h]; exact f1
  rw [link, root_link hl (by omega) (by omega) fa fb j]
  by_cases c : root u j = max (root u e.1) (root u e.2)
  · rw [if_pos c, if_pos (by omega)]
  · rw [if_neg c]
    by_cases d : root u j = root u e.1 ∨ root u j = root u e.2
    · rw [if_pos d]; omega
    · rw [if_neg d]
def links (u : List Nat) (E : List (Nat × Nat)) : List Nat := E.foldl link u
inductive Conn (E : List (Nat × Nat)) : Nat → Nat → Prop where
  | refl (i : Nat) : Conn E i i
  | fwd {i j k : Nat} : Conn E i j → (j, k) ∈ E → Conn E i k
  | bwd {i j k : Nat} : Conn E i j → (k, j) ∈ E → Conn E i k
theorem Conn.trans {E : List (Nat × Nat)} {i j k : Nat} (h : Conn E i j) (g : Conn E j k) : Conn E i k := by
  induction g with
  | refl => exact h
  | fwd _ he ih => exact .fwd ih he
  | bwd _ he ih => exact .bwd ih he
theorem Conn.symm {E : List (Nat × Nat)} {i j : Nat} (h : Conn E i j) : Conn E j i := by
  induction h with
  | refl => exact .refl _
  | fwd _ he ih => exact Conn.trans (.bwd (.refl _) he) ih
  | bwd _ he ih => exact Conn.trans (.fwd (.refl _) he) ih
theorem Conn.mono {E F : List (Nat × Nat)} (hs : ∀ e, e ∈ E → e ∈ F) {i j : Nat} (h : Conn E i j) : Conn F i j := by
  induction h with
  | refl => exact .refl _
  | fwd _ he ih => exact .fwd ih (hs _ he)
  | bwd _ he ih => exact .bwd ih (hs _ he)
/-- F tells each one's group by its least member. -/
structure Tells (E : List (Nat × Nat)) (F : Nat → Nat) : Prop where
  conn : ∀ i, Conn E i (F i)
  edge : ∀ x y, (x, y) ∈ E → F x = F y
  le : ∀ i, F i ≤ i
theorem Tells.same {E : List (Nat × Nat)} {F : Nat → Nat} (h : Tells E F) {i j : Nat} (hc : Conn E i j) : F i = F j := by
  induction hc with
  | refl => rfl
  | fwd _ he ih => exact ih.trans (h.edge _ _ he)
  | bwd _ he ih => exact ih.trans (h.edge _ _ he).symm
theorem Tells.idem {E : List (Nat × Nat)} {F : Nat → Nat} (h : Tells E F) (i : Nat) : F (F i) = F i := (h.same (h.conn i)).symm
theorem tells_snoc {E : List (Nat × Nat)} {u : List Nat} (hl : Low u) (e : Nat × Nat) (h1 : e.1 < u.length) (h2 : e.2 < u.length) (h : Tells E (root u)) : Tells (E ++ [e]) (root (link u e)) := by
  have hm : ∀ {i j}, Conn E i j → Conn (E ++ [e]) i j := fun hc => hc.mono (fun _ hx => List.mem_append_left _ hx)
  have he : (e.1, e.2) ∈ E ++ [e] := by simp
  have c12 : Conn (E ++ [e]) (root u e.1) (root u e.2) := ((hm (h.conn e.1)).symm.trans (.fwd (.refl _) he)).trans (hm (h.conn e.2))
  refine ⟨fun i => ?_, fun x y hxy => ?_, root_le (link_low hl e h1 h2)⟩
  · rw [link_root hl e h1 h2]
    split
    · rename_i hc
      have c1 : Conn (E ++ [e]) i (root u e.1) := by
        rcases hc with hc | hc
        · rw [← hc]; exact hm (h.conn i)
        · exact (hc ▸ hm (h.conn i)).trans c12.symm
      rcases Nat.le_total (root u e.1) (root u e.2) with hh | hh
      · rw [Nat.min_eq_left hh]; exact c1
      · rw [Nat.min_eq_right hh]; exact c1.trans c12
    · exact hm (h.conn i)
  · rw [link_root hl e h1 h2, link_root hl e h1 h2]
    rcases List.mem_append.1 hxy with hin | hin
    · rw [h.edge x y hin]
    · have hxy2 : (x, y) = e := by simpa using hin
      subst hxy2
      rw [if_pos (.inl rfl), if_pos (.inr rfl)]
theorem links_tells {n : Nat} : ∀ (E2 E : List (Nat × Nat)) (u : List Nat), u.length = n → Low u → (∀ e, e ∈ E2 → e.1 < n ∧ e.2 < n) → Tells E (root u) → (links u E2).length = n ∧ Low (links u E2) ∧ Tells (E ++ E2) (root (links u E2)) := by
  intro E2
  induction E2 with
  | nil => intro E u h1 h2 _ h; rw [List.append_nil]; exact ⟨h1, h2, h⟩
  | cons e E2 ih =>
    intro E u h1 h2 hb h
    have := hb e (by simp)
    have hr := ih (E ++ [e]) (link u e) (by rw [link_len, h1]) (link_low h2 e (by omega) (by omega)) (fun x hx => hb x (by simp [hx])) (tells_snoc h2 e (by omega) (by omega) h)
    rw [List.append_assoc] at hr
    exact hr
theorem lk_range (n i : Nat) : lk (List.range n) i = i := by
  unfold lk
  rw [List.getD_eq_getElem?_getD]
  rcases Nat.lt_or_ge i n with h | h
  · rw [List.getElem?_eq_getElem (by simpa using h)]; simp
  · rw [List.getElem?_eq_none (by simpa using h)]; rfl
theorem low_range (n : Nat) : Low (List.range n) := fun i => by rw [lk_range]; exact Nat.le_refl _
theorem tells_range (n : Nat) : Tells [] (root (List.range n)) :=
  ⟨fun i => by rw [root_fix (lk_range n i)]; exact .refl _, fun _ _ h => by simp at h, fun i => by rw [root_fix (lk_range n i)]; exact Nat.le_refl _⟩
/-- The groups of n under the edges E. -/
def groups (n : Nat) (E : List (Nat × Nat)) : List Nat := (List.range n).map (root (links (List.range n) E))
theorem groups_tells {n : Nat} {E : List (Nat × Nat)} (hb : ∀ e, e ∈ E → e.1 < n ∧ e.2 < n) : Tells E (root (links (List.range n) E)) := by
  have := (links_tells E [] (List.range n) (by simp) (low_range n) hb (tells_range n)).2.2
  simpa using this
/-- The last loop of the program: the first k are told already. -/
def told (u : List Nat) (k : Nat) : List Nat := ((List.range k).map (root u)) ++ u.drop k
theorem told_len (u : List Nat) (k : Nat) (h : k ≤ u.length) : (told u k).length = u.length := by simp [told]; omega
theorem told_lk (u : List Nat) (k j : Nat) (h : k ≤ u.length) : lk (told u k) j = if j < k then root u j else lk u j := by
  unfold lk told
  rw [List.getD_eq_getElem?_getD]
  by_cases hj : j < k
  · rw [if_pos hj, List.getElem?_append_left (by simpa using hj)]
    simp [List.getElem?_map, List.getElem?_range, hj]
  · rw [if_neg hj, List.getElem?_append_right (by simpa using hj), List.getElem?_drop]
    simp only [List.length_map, List.length_range]
    rw [show k + (j - k) = j from by omega, ← List.getD_eq_getElem?_getD]
theorem told_low {u : List Nat} (hl : Low u) (k : Nat) (h : k ≤ u.length) : Low (told u k) := by
  intro j
  rw [told_lk u k j h]
  split
  · exact root_le hl j
  · exact hl j
theorem told_root {u : List Nat} (hl : Low u) (k : Nat) (h : k ≤ u.length) : ∀ j, root (told u k) j = root u j := by
  intro j
  have hl' := told_low hl k h
  induction j using Nat.strongRecOn with
  | ind j ih =>
    by_cases hf : lk (told u k) j = j
    · rw [root_fix hf]
      rw [told_lk u k j h] at hf
      by_cases hj : j < k
      · rw [if_pos hj] at hf; exact hf.symm
      · rw [if_neg hj] at hf; exact (root_fix hf).symm
    · have hlt := Nat.lt_of_le_of_ne (hl' j) hf
      rw [root_step hl', ih _ hlt, told_lk u k j h]
      split
      · exact root_root hl j
      · exact (root_step hl j).symm
theorem told_next {u : List Nat} (hl : Low u) (k : Nat) (h : k < u.length) : (told u k).set k (root (told u k) k) = told u (k + 1) := by
  rw [told_root hl k (by omega)]
  unfold told
  rw [List.set_append_right _ _ (by simp), List.range_succ, List.map_append, List.length_map, List.length_range, Nat.sub_self, List.drop_eq_getElem_cons h, List.set_cons_zero, List.append_assoc]
  rfl
theorem told_all (u : List Nat) : told u u.length = (List.range u.length).map (root u) := by simp [told]
theorem told_zero (u : List Nat) : told u 0 = u := by simp [told]
/-! #### the document's way: the least numbers go along the pairs -/
def gstep (g : List Nat) (e : Nat × Nat) : List Nat := (g.set e.1 (min (g.getD e.1 0) (g.getD e.2 0))).set e.2 (min (g.getD e.1 0) (g.getD e.2 0))
def ground (E : List (Nat × Nat)) (g : List Nat) : List Nat := E.foldl gstep g
def grounds (E : List (Nat × Nat)) : Nat → List Nat → List Nat
  | 0, g => g
  | t + 1, g => grounds E t (ground E g)
structure Inv (n : Nat) (F : Nat → Nat) (g : List Nat) : Prop where
  len : g.length = n
  lo : ∀ i, i < n → F i ≤ g.getD i 0
  hi : ∀ i, i < n → g.getD i 0 ≤ i
def Done (F : Nat → Nat) (g : List Nat) (i : Nat) : Prop := g.getD i 0 = F i
theorem gstep_len (g : List Nat) (e : Nat × Nat) : (gstep g e).length = g.length := by simp [gstep]
theorem gstep_get {g : List Nat} {e : Nat × Nat} (h1 : e.1 < g.length) (h2 : e.2 < g.length) (i : Nat) : (gstep g e).getD i 0 = if i = e.1 ∨ i = e.2 then min (g.getD e.1 0) (g.getD e.2 0) else g.getD i 0 := by
  unfold gstep
  rw [List.getD_eq_getElem?_getD, List.getElem?_set]
  by_cases c2 : e.2 = i
  · subst c2; rw [if_pos rfl, if_pos (by simpa using h2), if_pos (.inr rfl)]; rfl
  · rw [if_neg c2, List.getElem?_set]
    by_cases c1 : e.1 = i
    · subst c1; rw [if_pos rfl, if_pos h1, if_pos (.inl rfl)]; rfl
    · rw [if_neg c1, if_neg (by omega), ← List.getD_eq_getElem?_getD]
section
variable {n : Nat} {E : List (Nat × Nat)} {F : Nat → Nat} {g : List Nat}
theorem inv_step (hF : Tells E F) (e : Nat × Nat) (he : e ∈ E) (hlt : e.1 < e.2) (hn : e.2 < n) (h : Inv n F g) : Inv n F (gstep g e) := by
  have heq := hF.edge e.1 e.2 he
  have a1 := h.lo e.1 (by omega)
  have a2 := h.lo e.2 hn
  have b1 := h.hi e.1 (by omega)
  have b2 := h.hi e.2 hn
  refine ⟨by rw [gstep_len, h.len], fun i hi => ?_, fun i hi => ?_⟩
  · rw [gstep_get (by rw [h.len]; omega) (by rw [h.len]; omega)]
    split
    · rename_i hc
      have : F i = F e.1 := by rcases hc with rfl | rfl <;> simp [heq]
      omega
    · exact h.lo i hi
  · rw [gstep_get (by rw [h.len]; omega) (by rw [h.len]; omega)]
    split
    · omega
    · exact h.hi i hi
theorem done_step (hF : Tells E F) (e : Nat × Nat) (he : e ∈ E) (hlt : e.1 < e.2) (hn : e.2 < n) (h : Inv n F g) {i : Nat} (hi : i < n) (hd : Done F g i) : Done F (gstep g e) i := by
  have heq := hF.edge e.1 e.2 he
  have a1 := h.lo e.1 (by omega)
  have a2 := h.lo e.2 hn
  unfold Done at hd ⊢
  rw [gstep_get (by rw [h.len]; omega) (by rw [h.len]; omega)]
  split
  · rename_i hc
    rcases hc with rfl | rfl <;> omega
  · exact hd
theorem done_both (hF : Tells E F) (e : Nat × Nat) (he : e ∈ E) (hlt : e.1 < e.2) (hn : e.2 < n) (h : Inv n F g) (hd : Done F g e.1 ∨ Done F g e.2) : Done F (gstep g e) e.1 ∧ Done F (gstep g e) e.2 := by
  have heq := hF.edge e.1 e.2 he
  have a1 := h.lo e.1 (by omega)
  have a2 := h.lo e.2 hn
  unfold Done at hd ⊢
  rw [gstep_get (by rw [h.len]; omega) (by rw [h.len]; omega), gstep_get (by rw [h.len]; omega) (by rw [h.len]; omega), if_pos (.inl rfl), if_pos (.inr rfl)]
  omega
theorem round_all (hF : Tells E F) (hE : ∀ e, e ∈ E → e.1 < e.2 ∧ e.2 < n) : ∀ (E2 : List (Nat × Nat)) (g : List Nat), (∀ e, e ∈ E2 → e ∈ E) → Inv n F g →
    Inv n F (ground E2 g) ∧ (∀ i, i < n → Done F g i → Done F (ground E2 g) i) ∧ (∀ e, e ∈ E2 → Done F g e.1 ∨ Done F g e.2 → Done F (ground E2 g) e.1 ∧ Done F (ground E2 g) e.2) := by
  intro E2
  induction E2 with
  | nil => intro g _ h; exact ⟨h, fun _ _ h => h, fun e he => by simp at he⟩
  | cons e E2 ih =>
    intro g hs h
    have he := hs e (by simp)
    obtain ⟨e1, e2⟩ := hE e he
    have hi := inv_step hF e he e1 e2 h
    obtain ⟨r1, r2, r3⟩ := ih (gstep g e) (fun x hx => hs x (by simp [hx])) hi
    refine ⟨r1, fun i hlt hd => r2 i hlt (done_step hF e he e1 e2 h hlt hd), fun x hx hd => ?_⟩
    rcases List.mem_cons.1 hx with rfl | hx
    · obtain ⟨d1, d2⟩ := done_both hF x he e1 e2 h hd
      exact ⟨r2 _ (by omega) d1, r2 _ e2 d2⟩
    · obtain ⟨x1, x2⟩ := hE x (hs x (by simp [hx]))
      refine r3 x hx ?_
      rcases hd with hd | hd
      · exact .inl (done_step hF e he e1 e2 h (by omega) hd)
      · exact .inr (done_step hF e he e1 e2 h x2 hd)
instance (F : Nat → Nat) (g : List Nat) (i : Nat) : Decidable (Done F g i) := inferInstanceAs (Decidable (g.getD i 0 = F i))
def count (F : Nat → Nat) (g : List Nat) (n : Nat) : Nat := (List.range n).countP (fun i => decide (Done F g i))
theorem countP_lt {p q : Nat → Bool} : ∀ (l : List Nat), (∀ x, x ∈ l → p x = true → q x = true) → (∃ x, x ∈ l ∧ q x = true ∧ p x = false) → l.countP p < l.countP q := by
  intro l
  induction l with
  | nil => intro _ h; obtain ⟨x, hx, _⟩ := h; simp at hx
  | cons a l ih =>
    intro hpq hx
    have hle : l.countP p ≤ l.countP q := List.countP_mono_left (fun x hx h => hpq x (by simp [hx]) h)
    obtain ⟨x, hx, h1, h2⟩ := hx
    rcases List.mem_cons.1 hx with rfl | hx
    · rw [List.countP_cons, List.countP_cons, h1, h2]; simp; omega
    · have := ih (fun y hy => hpq y (by simp [hy])) ⟨x, hx, h1, h2⟩
      rw [List.countP_cons, List.countP_cons]
      by_cases hp : p a = true
      · rw [hp, hpq a (by simp) hp]; simp; omega
      · rw [Bool.eq_false_iff.2 hp, if_neg (by decide)]; split <;> omega
theorem count_full (h : count F g n = n) : ∀ i, i < n → Done F g i := by
  intro i hi
  by_cases hd : Done F g i
  · exact hd
  · exfalso
    have : (List.range n).countP (fun i => decide (Done F g i)) < (List.range n).countP (fun _ => true) := countP_lt _ (fun _ _ _ => rfl) ⟨i, by simpa using hi, rfl, by simpa using hd⟩
    rw [List.countP_true, List.length_range] at this
    unfold count at h
    omega
theorem count_le : count F g n ≤ n := by
  have := List.countP_le_length (p := fun i => decide (Done F g i)) (l := List.range n)
  simpa [count] using this
theorem count_up (hF : Tells E F) (hE : ∀ e, e ∈ E → e.1 < e.2 ∧ e.2 < n) (h : Inv n F g) (hn : ¬ ∀ i, i < n → Done F g i) : count F g n < count F (ground E g) n := by
  obtain ⟨r1, r2, r3⟩ := round_all hF hE E g (fun _ h => h) h
  have hex : ∃ x y, (x, y) ∈ E ∧ (Done F g x ∨ Done F g y) ∧ ¬ (Done F g x ∧ Done F g y) := by
    refine Classical.byContradiction fun hno => hn fun i hi => ?_
    have hpres : ∀ {a b}, Conn E a b → Done F g a → Done F g b := by
      intro a b hc
      induction hc with
      | refl => exact fun h => h
      | fwd _ he ih => exact fun ha => Classical.byContradiction fun hb => hno ⟨_, _, he, .inl (ih ha), fun hh => hb hh.2⟩
      | bwd _ he ih => exact fun ha => Classical.byContradiction fun hb => hno ⟨_, _, he, .inr (ih ha), fun hh => hb hh.1⟩
    refine hpres (hF.conn i).symm ?_
    have hFi := hF.le i
    have k1 := h.lo (F i) (by omega)
    have k2 := h.hi (F i) (by omega)
    have k3 := hF.idem i
    unfold Done
    omega
  obtain ⟨x, y, he, hor, hnot⟩ := hex
  have hb := hE _ he
  simp only at hb
  have hd := r3 _ he hor
  refine countP_lt _ (fun i hi hd => ?_) ?_
  · have := r2 i (by simpa using hi) (by simpa using hd)
    simpa using this
  · by_cases hx : Done F g x
    · exact ⟨y, by simp; omega, by simpa using hd.2, by simpa using fun hy => hnot ⟨hx, hy⟩⟩
    · exact ⟨x, by simp; omega, by simpa using hd.1, by simpa using hx⟩
theorem grounds_done (hF : Tells E F) (hE : ∀ e, e ∈ E → e.1 < e.2 ∧ e.2 < n) : ∀ (t : Nat) (g : List Nat), Inv n F g → n ≤ count F g n + t → Inv n F (grounds E t g) ∧ ∀ i, i < n → Done F (grounds E t g) i := by
  intro t
  induction t with
  | zero => intro g h hc; have h1 := count_le (F := F) (g := g) (n := n); exact ⟨h, count_full (F := F) (g := g) (n := n) (by omega)⟩
  | succ t ih =>
    intro g h hc
    obtain ⟨r1, r2, r3⟩ := round_all hF hE E g (fun _ h => h) h
    refine ih (ground E g) r1 ?_
    by_cases hd : ∀ i, i < n → Done F g i
    · have : count F (ground E g) n = n := by
        have hh : ∀ x, x ∈ List.range n → decide (Done F (ground E g) x) = true := fun x hx => by simpa using r2 x (by simpa using hx) (hd x (by simpa using hx))
        unfold count
        rw [List.countP_eq_length.2 hh, List.length_range]
      omega
    · have := count_up hF hE h hd
      omega
end
theorem inv_range {n : Nat} {E : List (Nat × Nat)} {F : Nat → Nat} (hF : Tells E F) : Inv n F (List.range n) := by
  have hg : ∀ i, i < n → (List.range n).getD i 0 = i := fun i hi => by
    rw [List.getD_eq_getElem?_getD, List.getElem?_eq_getElem (by simpa using hi)]; simp
  exact ⟨by simp, fun i hi => by rw [hg i hi]; exact hF.le i, fun i hi => by rw [hg i hi]; exact Nat.le_refl _⟩
/-- Both ways tell the same groups. -/
theorem groups_eq {n : Nat} {E : List (Nat × Nat)} (hE : ∀ e, e ∈ E → e.1 < e.2 ∧ e.2 < n) : grounds E n (List.range n) = groups n E := by
  have hF := groups_tells (n := n) (E := E) (fun e he => by have := hE e he; omega)
  obtain ⟨h1, h2⟩ := grounds_done hF hE n (List.range n) (inv_range hF) (by omega)
  apply List.ext_getElem?
  intro i
  rcases Nat.lt_or_ge i n with hi | hi
  · have h3 := h2 i hi
    unfold Done at h3
    rw [List.getD_eq_getElem?_getD] at h3
    rw [List.getElem?_eq_getElem (by rw [h1.len]; exact hi)] at h3 ⊢
    unfold groups
    rw [List.getElem?_map, List.getElem?_range hi]
    simpa using h3
  · rw [List.getElem?_eq_none (by rw [h1.len]; exact hi), List.getElem?_eq_none (by simp [groups]; exact hi)]
theorem groups_len (n : Nat) (E : List (Nat × Nat)) : (groups n E).length = n := by simp [groups]
theorem groups_get {n : Nat} {E : List (Nat × Nat)} {i : Nat} (hi : i < n) : (groups n E).getD i 0 = root (links (List.range n) E) i := by
  unfold groups
  rw [List.getD_eq_getElem?_getD, List.getElem?_map, List.getElem?_range hi]; rfl
end Go.Proofs.Ytmkgbkocanfckaa.GroupsP
