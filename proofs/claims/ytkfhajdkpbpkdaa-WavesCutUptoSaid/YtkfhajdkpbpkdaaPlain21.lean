/- What the printed functions of layer 20 come to, in plain words. -/
import Derived.Test.YtkfhajdkpbpkdaaQBase21x
import Derived.Test.YtkfhajdkpbpkdaaContracts21
import Derived.Test.YtkfhajdkpbpkdaaOpen
import Derived.Test.YtkfhajdkpbpkdaaQOpen
namespace Go.Proofs.Ytkfhajdkpbpkdaa.Plain21
open Go.RowKit Go.Proofs.YtkfhajdkpbpkdaaW.PrintWords Go.Proofs.YtkfhajdkpbpkdaaW.PrintMore Go.Proofs.Ytkfhajdkpbpkdaa.QKinds Go.Proofs.Ytkfhajdkpbpkdaa.QBase21 Go.Proofs.Ytkfhajdkpbpkdaa.Meet Go.Proofs.Ytkfhajdkpbpkdaa.Edges21 Go.Proofs.Ytkfhajdkpbpkdaa.Contracts21 Go.Proofs.Ytkfhajdkpbpkdaa.Open Go.Proofs.Ytkfhajdkpbpkdaa.QOpen
set_option linter.unusedVariables false
set_option linter.unusedSimpArgs false
theorem w64 {i : Nat} (h : i ≤ 4611686018427387903) : wrap64 ((i : Int) + 1) = ((i + 1 : Nat) : Int) := by unfold wrap64; omega
theorem has_ev (l : List ByteArray) (x : ByteArray) (hl : l.length ≤ 1048576) : ∀ (d i : Nat), i + d = l.length → ∀ k, d < k → tuskref04_Has.l0 k l x (i : Int) = some (has (l.drop i) x) := by
  intro d
  induction d with
  | zero =>
    intro i hi k hk
    obtain ⟨k, rfl⟩ : ∃ m, k = m + 1 := ⟨k - 1, by omega⟩
    rw [tuskref04_Has.l0, if_neg (by omega), List.drop_of_length_le (by omega)]; rfl
  | succ d ih =>
    intro i hi k hk
    obtain ⟨k, rfl⟩ : ∃ m, k = m + 1 := ⟨k - 1, by omega⟩
    have hlt : i < l.length := by omega
    have hx : rdOf ByteArray.empty l (i : Int) = l[i] := by simp [rdOf, List.getD_eq_getElem?_getD, List.getElem?_eq_getElem hlt]
    rw [tuskref04_Has.l0, if_pos (by omega), if_pos (by omega), hx, List.drop_eq_getElem_cons hlt]
    by_cases he : l[i].toList = x.toList
    · rw [if_pos he, has, List.any_cons, decide_eq_true (toList_inj he).symm]; rfl
    · rw [if_neg he, w64 (by omega), ih (i + 1) (by omega) k (by omega)]
      have hne : ¬ x = l[i] := fun h => he (by rw [h])
      rw [has, has, List.any_cons, decide_eq_false hne, Bool.false_or]
theorem has_f (l : List ByteArray) (x : ByteArray) (hl : l.length ≤ 1048576) (k : Nat) (hk : l.length < k) : tuskref04_Has.f k l x = some (has l x) := by
  have := has_ev l x hl l.length 0 (by omega) k hk
  rwa [List.drop_zero] at this
def clashA (a b : S38) (i : Nat) : Bool := (a.f8.drop i).any fun y => has b.f8 y || has b.f7 y
def clashB (a b : S38) (i : Nat) : Bool := (b.f8.drop i).any fun y => has a.f7 y
theorem clash_b (a b : S38) (h1 : a.f7.length ≤ 1048576) (h3 : b.f8.length ≤ 1048576) : ∀ (d i : Nat), i + d = b.f8.length → ∀ k, d + 1048576 < k → tuskref20_Clash.l1 k (i : Int) a.f0 a.f1 a.f2 a.f3 a.f4 a.f5 a.f6 a.f7 a.f8 b.f0 b.f1 b.f2 b.f3 b.f4 b.f5 b.f6 b.f7 b.f8 = some (clashB a b i) := by
  intro d
  induction d with
  | zero =>
    intro i hi k hk
    obtain ⟨k, rfl⟩ : ∃ m, k = m + 1 := ⟨k - 1, by omega⟩
    rw [tuskref20_Clash.l1, if_neg (by omega), clashB, List.drop_of_length_le (by omega)]; rfl
  | succ d ih =>
    intro i hi k hk
    obtain ⟨k, rfl⟩ : ∃ m, k = m + 1 := ⟨k - 1, by omega⟩
    have hlt : i < b.f8.length := by omega
    have hx : rdOf ByteArray.empty b.f8 (i : Int) = b.f8[i] := by simp [rdOf, List.getD_eq_getElem?_getD, List.getElem?_eq_getElem hlt]
    rw [tuskref20_Clash.l1, if_pos (by omega), if_pos (by omega), hx, has_f _ _ h1 k (by omega), Option.bind_some, clashB, List.drop_eq_getElem_cons hlt, List.any_cons]
    cases has a.f7 b.f8[i]
    · rw [if_neg (by decide), w64 (by omega), ih (i + 1) (by omega) k (by omega), Bool.false_or]; rfl
    · rw [if_pos rfl]; rfl
theorem clash_a (a b : S38) (h1 : a.f7.length ≤ 1048576) (h2 : a.f8.length ≤ 1048576) (h3 : b.f8.length ≤ 1048576) (h4 : b.f7.length ≤ 1048576) : ∀ (d i : Nat), i + d = a.f8.length → ∀ k, d + 1 + b.f8.length + 1048576 < k → tuskref20_Clash.l0 k (i : Int) a.f0 a.f1 a.f2 a.f3 a.f4 a.f5 a.f6 a.f7 a.f8 b.f0 b.f1 b.f2 b.f3 b.f4 b.f5 b.f6 b.f7 b.f8 = some (clashA a b i || clashB a b 0) := by
  intro d
  induction d with
  | zero =>
    intro i hi k hk
    obtain ⟨k, rfl⟩ : ∃ m, k = m + 1 := ⟨k - 1, by omega⟩
    have := clash_b a b h1 h3 b.f8.length 0 (by omega) k (by omega)
    rw [tuskref20_Clash.l0, if_neg (by omega), clashA, List.drop_of_length_le (by omega)]
    exact this
  | succ d ih =>
    intro i hi k hk
    obtain ⟨k, rfl⟩ : ∃ m, k = m + 1 := ⟨k - 1, by omega⟩
    have hlt : i < a.f8.length := by omega
    have hx : rdOf ByteArray.empty a.f8 (i : Int) = a.f8[i] := by simp [rdOf, List.getD_eq_getElem?_getD, List.getElem?_eq_getElem hlt]
    rw [tuskref20_Clash.l0, if_pos (by omega), if_pos (by omega), hx, has_f _ _ h3 k (by omega), Option.bind_some, has_f _ _ h4 k (by omega), clashA, List.drop_eq_getElem_cons hlt, List.any_cons]
    cases has b.f8 a.f8[i]
    · rw [if_neg (by decide), Option.bind_some]
      cases has b.f7 a.f8[i]
      · rw [if_neg (by decide), w64 (by omega), ih (i + 1) (by omega) k (by omega), Bool.false_or, Bool.false_or]; rfl
      · rw [if_pos rfl]; rfl
    · rw [if_pos rfl]; rfl
theorem any_or {α : Type} (l : List α) (p q : α → Bool) : l.any (fun y => p y || q y) = (l.any p || l.any q) := by
  induction l with
  | nil => rfl
  | cons x l ih => rw [List.any_cons, List.any_cons, List.any_cons, ih]; cases p x <;> cases q x <;> cases l.any p <;> rfl
theorem has_mem {l : List ByteArray} {x : ByteArray} : has l x = true ↔ x ∈ l := by
  unfold has
  rw [List.any_eq_true]
  constructor
  · rintro ⟨y, hy, he⟩; rw [of_decide_eq_true he]; exact hy
  · intro h; exact ⟨x, h, decide_eq_true rfl⟩
theorem meet_comm (l m : List ByteArray) : l.any (has m) = m.any (has l) := by
  rw [Bool.eq_iff_iff, List.any_eq_true, List.any_eq_true]
  constructor
  · rintro ⟨x, hx, h⟩; exact ⟨x, has_mem.1 h, has_mem.2 hx⟩
  · rintro ⟨x, hx, h⟩; exact ⟨x, has_mem.1 h, has_mem.2 hx⟩
theorem clash_ref (a b : S38) : (clashA a b 0 || clashB a b 0) = clashP a b := by
  unfold clashA clashB clashP
  rw [List.drop_zero, List.drop_zero, any_or]
  have : (b.f8.any fun y => has a.f7 y) = a.f7.any (has b.f8) := meet_comm _ _
  rw [this]
theorem clashP_comm (a b : S38) : clashP a b = clashP b a := by
  unfold clashP
  rw [meet_comm a.f8 b.f8, meet_comm a.f8 b.f7, meet_comm a.f7 b.f8]
  cases b.f8.any (has a.f8) <;> cases b.f7.any (has a.f8) <;> cases b.f8.any (has a.f7) <;> rfl
structure Small (a : S38) : Prop where
  h7 : a.f7.length ≤ 1048576
  h8 : a.f8.length ≤ 1048576
theorem clash_r (a b : S38) (ha : Small a) (hb : Small b) (k : Nat) (hk : 4000000 ≤ k) : tuskref20_Clash.f k a.f0 a.f1 a.f2 a.f3 a.f4 a.f5 a.f6 a.f7 a.f8 b.f0 b.f1 b.f2 b.f3 b.f4 b.f5 b.f6 b.f7 b.f8 = some (clashP a b) := by
  have h1 := ha.h7
  have h2 := ha.h8
  have h3 := hb.h8
  have := clash_a a b ha.h7 ha.h8 hb.h8 hb.h7 a.f8.length 0 (by omega) k (by omega)
  rw [clash_ref] at this
  exact this
theorem clash_p (a b : S38) (ha : Small a) (hb : Small b) : access_Clash.f a.f0 a.f1 a.f2 a.f3 a.f4 a.f5 a.f6 a.f7 a.f8 b.f0 b.f1 b.f2 b.f3 b.f4 b.f5 b.f6 b.f7 b.f8 = some (clashP a b) :=
  clash_f ⟨by have := ha.h7; omega, by have := ha.h8; omega⟩ ⟨by have := hb.h7; omega, by have := hb.h8; omega⟩
/-! #### how much there is -/
def tot (l : List S38) : Nat := (l.map fun x => 1 + x.f7.length + x.f8.length).sum
theorem tot_cons (x : S38) (l : List S38) : tot (x :: l) = 1 + x.f7.length + x.f8.length + tot l := by simp [tot]
theorem tx_get {l : List S38} {i : Nat} (h : i < l.length) : rd_T38 l (i : Int) = l[i] := by simp [rd_T38, List.getD_eq_getElem?_getD, List.getElem?_eq_getElem h]
theorem great_ev (l : List S38) (hs : ∀ x, x ∈ l → Small x) (hl : l.length ≤ 1048576) : ∀ (d i : Nat), i + d = l.length → ∀ (s : Nat), s ≤ 8000000 → ∀ k, d < k → ∃ b, tusklaw20_Great.l0 k l (s : Int) (i : Int) = some b ∧ (b = false → s + tot (l.drop i) ≤ 500) := by
  intro d
  induction d with
  | zero =>
    intro i hi s hsb k hk
    obtain ⟨k, rfl⟩ : ∃ m, k = m + 1 := ⟨k - 1, by omega⟩
    rw [tusklaw20_Great.l0, if_neg (by omega), List.drop_of_length_le (by omega)]
    refine ⟨_, rfl, fun h => ?_⟩
    have := of_decide_eq_false h
    simp [tot]; omega
  | succ d ih =>
    intro i hi s hsb k hk
    obtain ⟨k, rfl⟩ : ∃ m, k = m + 1 := ⟨k - 1, by omega⟩
    have hlt : i < l.length := by omega
    have hsm := hs l[i] (List.getElem_mem hlt)
    have h7 := hsm.h7
    have h8 := hsm.h8
    rw [tusklaw20_Great.l0, if_pos (by omega), tx_get hlt]
    by_cases hc : (s : Int) ≤ 500
    · rw [if_pos hc, if_pos (by omega), List.drop_eq_getElem_cons hlt, tot_cons]
      have e1 : wrap64 ((wrap64 ((wrap64 ((s : Int) + 1)) + ((l[i].f7).length : Int))) + ((l[i].f8).length : Int)) = ((s + (1 + l[i].f7.length + l[i].f8.length) : Nat) : Int) := by unfold wrap64; omega
      rw [e1, w64 (by omega)]
      obtain ⟨b, hb, hf⟩ := ih (i + 1) (by omega) (s + (1 + l[i].f7.length + l[i].f8.length)) (by omega) k (by omega)
      exact ⟨b, hb, fun h => by have := hf h; omega⟩
    · rw [if_neg hc]
      exact ⟨_, rfl, fun h => by have := of_decide_eq_false h; omega⟩
theorem great_f (l : List S38) (hs : ∀ x, x ∈ l → Small x) (hl : l.length ≤ 1048576) : ∃ k b, tusklaw20_Great.f k l = some b ∧ (b = false → tot l ≤ 500) := by
  obtain ⟨b, h1, h2⟩ := great_ev l hs hl l.length 0 (by omega) 0 (by omega) (l.length + 1) (by omega)
  exact ⟨_, b, h1, fun h => by have := h2 h; rw [List.drop_zero] at this; omega⟩
theorem tot_len (l : List S38) : l.length ≤ tot l := by
  induction l with
  | nil => simp [tot]
  | cons x l ih => rw [tot_cons, List.length_cons]; omega
theorem tot_mem {l : List S38} {x : S38} (h : x ∈ l) : x.f7.length ≤ tot l ∧ x.f8.length ≤ tot l := by
  induction l with
  | nil => simp at h
  | cons y l ih =>
    rw [tot_cons]
    rcases List.mem_cons.1 h with rfl | h
    · omega
    · have := ih h; omega
theorem small_of_bulk {x : S38} (h : m38 x ≤ 1048576) : Small x := by
  unfold m38 mList mOne at h
  have key : ∀ l : List ByteArray, l.length ≤ (l.map mStr).sum := fun l => by
    induction l with
    | nil => simp
    | cons y l ih => simp [mStr]; omega
  have h7 := key x.f7
  have h8 := key x.f8
  exact ⟨by omega, by omega⟩
theorem bulk_mem {l : List S38} (h : (mList m38) l ≤ 1048576) : (∀ x, x ∈ l → m38 x ≤ 1048576) ∧ l.length ≤ 1048576 := by
  unfold mList at h
  have key : ∀ l : List S38, l.length ≤ (l.map m38).sum ∧ ∀ x, x ∈ l → m38 x ≤ (l.map m38).sum := fun l => by
    induction l with
    | nil => simp
    | cons y l ih =>
      refine ⟨by simp [m38]; omega, fun x hx => ?_⟩
      simp only [List.map_cons, List.sum_cons]
      rcases List.mem_cons.1 hx with rfl | hx
      · omega
      · have := ih.2 x hx; omega
  obtain ⟨k1, k2⟩ := key l
  exact ⟨fun x hx => by have := k2 x hx; omega, by omega⟩
/-- What is not too great is small enough for all contracts. -/
theorem fits_tot {l : List S38} (h : tot l ≤ 500) : FitsAll l := by
  have := tot_len l
  exact ⟨by omega, fun x hx => by have := tot_mem hx; omega⟩
/-! #### copies -/
theorem own_one (x : S38) (hx : Small x) : tusklaw04_Own.f x.f0 x.f1 x.f2 x.f3 x.f4 x.f5 x.f6 x.f7 x.f8 = some (x.f0, x.f1, x.f2, x.f3, x.f4, x.f5, x.f6, x.f7, x.f8) := by
  have h7 := hx.h7
  have h8 := hx.h8
  unfold tusklaw04_Own.f
  simp only [Option.bind_some, List.length_nil, List.nil_append, Nat.zero_add]
  rw [if_pos (by omega), if_pos (by omega)]
theorem own_ev (l : List S38) (hs : ∀ x, x ∈ l → Small x) (hl : l.length ≤ 1048576) : ∀ (d i : Nat), i + d = l.length → ∀ k, d < k → tusklaw20_Own.l0 k l (l.take i) (i : Int) = some l := by
  intro d
  induction d with
  | zero =>
    intro i hi k hk
    obtain ⟨k, rfl⟩ : ∃ m, k = m + 1 := ⟨k - 1, by omega⟩
    rw [tusklaw20_Own.l0, if_neg (by omega), List.take_of_length_le (by omega)]
  | succ d ih =>
    intro i hi k hk
    obtain ⟨k, rfl⟩ : ∃ m, k = m + 1 := ⟨k - 1, by omega⟩
    have hlt : i < l.length := by omega
    rw [tusklaw20_Own.l0, if_pos (by omega), if_pos (by omega), tx_get hlt, own_one _ (hs _ (List.getElem_mem hlt)), Option.bind_some, if_pos (by rw [List.length_take]; omega), w64 (by omega)]
    have := ih (i + 1) (by omega) k (by omega)
    rw [List.take_succ_eq_append_getElem hlt] at this
    exact this
theorem own_f (l : List S38) (hs : ∀ x, x ∈ l → Small x) (hl : l.length ≤ 1048576) : tusklaw20_Own.f (l.length + 1) l = some l := own_ev l hs hl l.length 0 (by omega) _ (by omega)
/-! #### the document's edges -/
def asE (e : Int × Int) : S50 := ⟨e.1, e.2⟩
def eb (c : Nat) : Nat → Nat
  | 0 => c + 1000
  | d + 1 => eb c d + 600
theorem eb_ge (c : Nat) : ∀ d, c + 1000 ≤ eb c d
  | 0 => Nat.le_refl _
  | d + 1 => Nat.le_trans (eb_ge c d) (Nat.le_add_right _ _)
theorem eb_le (c : Nat) : ∀ d, eb c d = c + 1000 + d * 600
  | 0 => by simp [eb]
  | d + 1 => by rw [eb, eb_le c d, Nat.succ_mul, Nat.add_assoc]
theorem edges_ev (c : Nat) (hc0 : 4000000 ≤ c) (l : List S38) (hs : ∀ x, x ∈ l → Small x) (hl : l.length ≤ 500) : ∀ (d i : Nat), i + d = l.length →
    (∀ k, eb c d ≤ k → tuskref20_Edges.l0 k l ((rows l i).map asE) (i : Int) = some ((rows l l.length).map asE)) := by
  intro d
  induction d with
  | zero =>
    intro i hi k hk
    rw [eb] at hk
    obtain ⟨k, rfl⟩ : ∃ m, k = m + 1 := ⟨k - 1, by omega⟩
    rw [tuskref20_Edges.l0, if_neg (by omega)]
    rw [show i = l.length by omega]
  | succ d ih =>
    intro i hi k hk
    have hge := eb_ge c d
    rw [eb] at hk
    generalize eb c d = B at *
    obtain ⟨k, rfl⟩ : ∃ m, k = m + 1 := ⟨k - 1, by omega⟩
    have hlt : i < l.length := by omega
    have inner : ∀ (e j : Nat), j + e = l.length → i + 1 ≤ j → ∀ k, e + 1 + B ≤ k → tuskref20_Edges.l1 k l ((rows l i ++ row l i j).map asE) (i : Int) (j : Int) = some ((rows l l.length).map asE) := by
      intro e
      induction e with
      | zero =>
        intro j hj hij k hk
        obtain ⟨k, rfl⟩ : ∃ m, k = m + 1 := ⟨k - 1, by omega⟩
        rw [tuskref20_Edges.l1, if_neg (by omega), w64 (by omega)]
        have := ih (i + 1) (by omega) k (by omega)
        rw [rows] at this
        rw [show j = l.length by omega]
        exact this
      | succ e ihe =>
        intro j hj hij k hk
        obtain ⟨k, rfl⟩ : ∃ m, k = m + 1 := ⟨k - 1, by omega⟩
        have hjl : j < l.length := by omega
        have hti : tx l i = l[i] := tx_get hlt
        have htj : tx l j = l[j] := tx_get hjl
        have hrow : row l i (j + 1) = row l i j ++ if i < j ∧ clashP (tx l i) (tx l j) = true then [((i : Int), (j : Int))] else [] := rfl
        have hnext := ihe (j + 1) (by omega) (by omega) k (by omega)
        rw [hrow, hti, htj] at hnext
        rw [tuskref20_Edges.l1, if_pos (by omega), if_pos (by omega), if_pos (by omega), if_pos (by omega), tx_get hlt, tx_get hjl, clash_r _ _ (hs _ (List.getElem_mem hlt)) (hs _ (List.getElem_mem hjl)) k (by omega), Option.bind_some, w64 (by omega)]
        by_cases hc : clashP l[i] l[j] = true
        · rw [if_pos ⟨by omega, hc⟩] at hnext
          rw [if_pos hc, if_pos (by
            have h1 := rows_len l i
            have h2 := row_len l i j
            have h3 : i * l.length ≤ 500 * 500 := Nat.mul_le_mul (by omega) hl
            rw [List.length_map, List.length_append]; omega)]
          rw [← List.append_assoc, List.map_append] at hnext
          exact hnext
        · rw [if_neg (fun h => hc h.2), List.append_nil] at hnext
          rw [if_neg hc]
          exact hnext
    rw [tuskref20_Edges.l0, if_pos (by omega), w64 (by omega)]
    have := inner (l.length - (i + 1)) (i + 1) (by omega) (by omega) k (by omega)
    rw [row_nil l i (i + 1) (Nat.le_refl _), List.append_nil] at this
    exact this
theorem edges_r (l : List S38) (hs : ∀ x, x ∈ l → Small x) (hl : l.length ≤ 500) (k : Nat) (hk : 5000000 ≤ k) : tuskref20_Edges.f k l = some ((rows l l.length).map asE) := by
  have := edges_ev 4000000 (Nat.le_refl _) l hs hl l.length 0 (by omega) k (by rw [eb_le]; omega)
  exact this
end Go.Proofs.Ytkfhajdkpbpkdaa.Plain21
