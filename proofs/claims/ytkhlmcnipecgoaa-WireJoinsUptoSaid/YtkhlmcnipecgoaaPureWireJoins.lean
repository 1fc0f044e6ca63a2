/- Proved: the statement WireJoins where its arguments are of bulk at most 1048576 (the row says so): lists, one behind the other, are got one by one. -/
import Derived.Test.YtkhlmcnipecgoaaQWireJoinsU
import Derived.Test.YtkhlmcnipecgoaaPlain03
namespace Go.Proofs.Ytkhlmcnipecgoaa.Pure
open Go.RowKit Go.Proofs.Ytkhlmcnipecgoaa.QWireJoins Go.Proofs.YtkhlmcnipecgoaaW.PrintWords Go.Proofs.YtkhlmcnipecgoaaW.PrintLast
open Go.Proofs.Ytkhlmcnipecgoaa.WireInt Go.Proofs.Ytkhlmcnipecgoaa.WireList Go.Proofs.Ytkhlmcnipecgoaa.Ref01 Go.Proofs.Ytkhlmcnipecgoaa.Plain01 Go.Proofs.Ytkhlmcnipecgoaa.Plain02 Go.Proofs.Ytkhlmcnipecgoaa.Plain03 Go.Proofs.Ytkhlmcnipecgoaa.Open
namespace WireJoins

theorem works_true : tusklaw01_works.f = some true := by
  unfold tusklaw01_works.f wire_GetInt.f wire_Int.f wire_List.f
  simp only [Option.bind_some]
  have e1 : wireGet ⟨#[172, 2]⟩ = (300, 2, 0) := by decide +kernel
  have e2 : wireGet ⟨#[128, 0]⟩ = (0, 0, 3) := by decide +kernel
  have e3 : wireInt 300 = ⟨#[172, 2]⟩ := by decide +kernel
  have e4 : wireList [(⟨#[97]⟩ : ByteArray), ⟨#[]⟩] = ⟨#[2, 1, 97, 0]⟩ := by decide +kernel
  rw [e1, e2, e3, e4]
  simp [ByteArray.toList_eq]
  decide
theorem l2_true (b : List ByteArray) (hb : b.length ≤ 1048576) : ∀ (d i k : Nat), i + d = b.length → d < k → tusklaw01_WireJoins.l2 k b b (i : Int) = some true := by
  intro d
  induction d with
  | zero =>
    intro i k hi hk
    obtain ⟨k, rfl⟩ : ∃ m, k = m + 1 := ⟨k - 1, by omega⟩
    rw [tusklaw01_WireJoins.l2, if_neg (by omega)]
  | succ d ih =>
    intro i k hi hk
    obtain ⟨k, rfl⟩ : ∃ m, k = m + 1 := ⟨k - 1, by omega⟩
    rw [tusklaw01_WireJoins.l2, if_pos (by omega), if_pos (by omega), if_pos (by omega), if_pos rfl, wrap_in (by omega) (by omega)]
    exact ih (i + 1) k (by omega) (by omega)
theorem l1_true (a b : List ByteArray) (ha : a.length ≤ 1048576) (hb : b.length ≤ 1048576) : ∀ (d i k : Nat), i + d = a.length → d + b.length + 1 < k → tusklaw01_WireJoins.l1 k a b a b (i : Int) = some true := by
  intro d
  induction d with
  | zero =>
    intro i k hi hk
    obtain ⟨k, rfl⟩ : ∃ m, k = m + 1 := ⟨k - 1, by omega⟩
    rw [tusklaw01_WireJoins.l1, if_neg (by omega)]
    exact l2_true b hb b.length 0 k (by omega) (by omega)
  | succ d ih =>
    intro i k hi hk
    obtain ⟨k, rfl⟩ : ∃ m, k = m + 1 := ⟨k - 1, by omega⟩
    rw [tusklaw01_WireJoins.l1, if_pos (by omega), if_pos (by omega), if_pos (by omega), if_pos rfl, wrap_in (by omega) (by omega)]
    exact ih (i + 1) k (by omega) (by omega)
theorem done (a b : List ByteArray) (k : Nat) (ha : ∀ x ∈ a, x.size ≤ 65536) (hb : ∀ x ∈ b, x.size ≤ 65536) (hl : a.length + b.length ≤ 200) (hs : (a.map fun s : ByteArray => s.size + 1).sum + (b.map fun s : ByteArray => s.size + 1).sum ≤ 1048576) (hk : 500 < k) :
    tusklaw01_WireJoins.l0 k a b ((a.length + b.length : Nat) : Int) = some true := by
  obtain ⟨k, rfl⟩ : ∃ m, k = m + 3 := ⟨k - 3, by omega⟩
  have h1 := wireList_size a
  have h2 := wireList_size b
  rw [tusklaw01_WireJoins.l0, wrap_in (by omega) (by omega), if_neg (by omega), wire_List.f, if_pos (by omega), wire_List.f, if_pos (by omega)]
  simp only [Option.bind_some]
  rw [if_pos (by omega), wire_GetList.f, if_pos (by rw [ba_append_size]; omega), get_list a (wireList b) 200 (by omega) (by omega) ha]
  simp only [Option.bind_some, if_true]
  rw [if_neg (by rw [ba_append_size]; omega), bne_self_eq_false, tusklaw01_WireJoins.j1, if_neg (by decide), if_pos (by omega), if_pos (by rw [ba_append_size]; omega), Int.toNat_natCast, extract_append' _ _ _ rfl, wire_GetList.f, if_pos (by omega)]
  have hg := get_list b ⟨#[]⟩ 200 (by omega) (by omega) hb
  rw [show wireList b ++ (⟨#[]⟩ : ByteArray) = wireList b from ByteArray.append_empty] at hg
  rw [hg, Option.bind_some]
  dsimp only
  rw [if_pos rfl, if_pos (by rw [wrap_in (by omega) (by omega), ba_append_size]; omega), bne_self_eq_false, tusklaw01_WireJoins.j2, if_neg (by decide)]
  exact l1_true a b (by omega) (by omega) a.length 0 k (by omega) (by omega)
theorem mem_of {l : List ByteArray} {n : Nat} (h : ∀ j x, l[j]? = some x → j < n → x.size ≤ 65536) (hn : l.length ≤ n) : ∀ x ∈ l, x.size ≤ 65536 := by
  intro x hx
  obtain ⟨j, hj⟩ := List.getElem?_of_mem hx
  have := (List.getElem?_eq_some_iff.1 hj).1
  exact h j x hj (by omega)
theorem more {l : List ByteArray} {n : Nat} (h : ∀ j x, l[j]? = some x → j < n → x.size ≤ 65536) (hlt : n < l.length) (hb : ¬ (l[n].size : Int) > 65536) : ∀ j x, l[j]? = some x → j < n + 1 → x.size ≤ 65536 := by
  intro j x hj hji
  rcases Nat.lt_or_ge j n with h3 | h3
  · exact h j x hj h3
  · obtain rfl : j = n := by omega
    rw [List.getElem?_eq_getElem hlt] at hj
    obtain rfl := Option.some.inj hj
    omega
theorem loop (a b : List ByteArray) (hl : a.length + b.length ≤ 200) (hs : (a.map fun s : ByteArray => s.size + 1).sum + (b.map fun s : ByteArray => s.size + 1).sum ≤ 1048576) : ∀ (d i k : Nat), i + d = a.length + b.length → (∀ j x, a[j]? = some x → j < i → x.size ≤ 65536) → (∀ j x, b[j]? = some x → j < i - a.length → x.size ≤ 65536) → d + 500 < k → tusklaw01_WireJoins.l0 k a b (i : Int) = some true := by
  intro d
  induction d with
  | zero =>
    intro i k hi h1 h2 hk
    obtain rfl : i = a.length + b.length := by omega
    exact done a b k (mem_of h1 (by omega)) (mem_of h2 (by omega)) hl hs (by omega)
  | succ d ih =>
    intro i k hi h1 h2 hk
    obtain ⟨k, rfl⟩ : ∃ m, k = m + 1 := ⟨k - 1, by omega⟩
    have es : wrap64 ((a.length : Int) + (b.length : Int)) = ((a.length + b.length : Nat) : Int) := by rw [wrap_in (by omega) (by omega)]; rfl
    have e1 : wrap64 ((i : Int) + 1) = ((i + 1 : Nat) : Int) := by rw [wrap_in (by omega) (by omega)]; rfl
    rw [tusklaw01_WireJoins.l0, es, e1, if_pos (by omega)]
    by_cases hlt : i < a.length
    · rw [if_pos (by omega), if_pos (by omega), rdOf_at a i hlt]
      by_cases hbig : (a[i].size : Int) > 65536
      · rw [if_pos hbig]
      · rw [if_neg hbig, if_neg (by omega)]
        exact ih (i + 1) k (by omega) (more h1 hlt hbig) (fun j x _ hj => by omega) (by omega)
    · have e2 : wrap64 ((i : Int) - (a.length : Int)) = ((i - a.length : Nat) : Int) := by rw [wrap_in (by omega) (by omega)]; omega
      have hlt2 : i - a.length < b.length := by omega
      rw [if_neg (by omega), if_pos (by omega), e2, if_pos (by omega), if_pos (by omega), rdOf_at b _ hlt2]
      by_cases hbig : (b[i - a.length].size : Int) > 65536
      · rw [if_pos hbig]
      · rw [if_neg hbig]
        refine ih (i + 1) k (by omega) (fun j x hj hji => h1 j x hj ?_) ?_ (by omega)
        · have := (List.getElem?_eq_some_iff.1 hj).1
          omega
        · rw [show i + 1 - a.length = i - a.length + 1 from by omega]
          exact more h2 hlt2 hbig
theorem holds : tusklaw01_WireJoins.PureU := by
  intro a b _ _ hb
  simp only [mList] at hb
  have hb2 : (a.map fun s : ByteArray => s.size + 1).sum + (b.map fun s : ByteArray => s.size + 1).sum ≤ 1048576 := by
    have : (a.map mStr).sum = (a.map fun s : ByteArray => s.size + 1).sum := rfl
    have : (b.map mStr).sum = (b.map fun s : ByteArray => s.size + 1).sum := rfl
    omega
  have ha := length_le_sum a
  have hb' := length_le_sum b
  obtain ⟨K, hK⟩ : ∃ K, K = a.length + b.length + 501 := ⟨_, rfl⟩
  refine ⟨K, ?_⟩
  rw [tusklaw01_WireJoins.f, works_true, Option.bind_some, if_pos rfl]
  rw [wrap_in (by omega) (by omega)]
  by_cases hl : (a.length : Int) + (b.length : Int) > 200
  · rw [if_pos hl]
  · rw [if_neg hl]
    exact loop a b (by omega) hb2 (a.length + b.length) 0 _ (by omega) (fun j x _ h => by omega) (fun j x _ h => by omega) (by omega)

end WireJoins
theorem WireJoins : tusklaw01_WireJoins.PureU := WireJoins.holds
end Go.Proofs.Ytkhlmcnipecgoaa.Pure
