/- Proved: the statement WireCuts where its arguments are of bulk at most 1048576 (the row says so): numbers, texts and lists that are cut off anywhere are too short. -/
import Derived.Test.YtkhlmcnipecgoaaQWireCutsU
import Derived.Test.YtkhlmcnipecgoaaPlain03
namespace Go.Proofs.Ytkhlmcnipecgoaa.Pure
open Go.RowKit Go.Proofs.Ytkhlmcnipecgoaa.QWireCuts Go.Proofs.YtkhlmcnipecgoaaW.PrintWords Go.Proofs.YtkhlmcnipecgoaaW.PrintLast
open Go.Proofs.Ytkhlmcnipecgoaa.WireInt Go.Proofs.Ytkhlmcnipecgoaa.WireList Go.Proofs.Ytkhlmcnipecgoaa.Ref01 Go.Proofs.Ytkhlmcnipecgoaa.Plain01 Go.Proofs.Ytkhlmcnipecgoaa.Plain02 Go.Proofs.Ytkhlmcnipecgoaa.Plain03 Go.Proofs.Ytkhlmcnipecgoaa.Open
namespace WireCuts

theorem works_true : tusklaw01_works.f = some true := by
  unfold tusklaw01_works.f wire_GetInt.f wire_Int.f wire_List.f
  simp only [Option.bind_some]
  have e1 : wireGet ⟨#[172, 2]⟩ = (300, 2, 0) := by decide +kernel
  have e2 : wireGet ⟨#[128, 0]⟩ = (0, 0, 3) := by decide +kernel
  have e3 : wireInt 300 = ⟨#[172, 2]⟩ := by decide +kernel
  have e4 : wireList [(⟨#[97]⟩ : ByteArray), ⟨#[]⟩] = ⟨#[2, 1, 97, 0]⟩ := by decide +kernel
  rw [e1, e2, e3, e4]
  simp [ByteArray.toList_eq]
  decide
theorem cut_at {a : Int} {n : Nat} (h : n ≤ 4611686018427387903) (h0 : 0 < n) : ¬ IntKind.u64.wrap (n : Int) = 0 ∧ 0 ≤ wrap64 (Int.tmod (IntKind.u64.wrap a) (IntKind.u64.wrap (n : Int))) ∧ wrap64 (Int.tmod (IntKind.u64.wrap a) (IntKind.u64.wrap (n : Int))) ≤ (n : Int) ∧ (wrap64 (Int.tmod (IntKind.u64.wrap a) (IntKind.u64.wrap (n : Int)))).toNat < n := by
  have e := wrap_umod a n h h0
  have := umod_lt a n h0
  exact ⟨u64_pos n h h0, by omega, by omega, by omega⟩
theorem ne_nil {s : ByteArray} (h : 0 < s.size) : ¬ s.toList = ([] : List UInt8) := by
  rw [ByteArray.toList_eq]
  intro e
  have : s.data.toList.length = 0 := by rw [e]; rfl
  have h2 : s.size = s.data.toList.length := rfl
  omega
theorem done (n k : Nat) (t : ByteArray) (l : List ByteArray) (a : Int) (hn : n ≤ 4611686018427387903) (ht : t.size ≤ 1000) (hl : l.length ≤ 20) (h : ∀ x ∈ l, x.size ≤ 1000) (hb : (l.map fun s : ByteArray => s.size + 1).sum ≤ 1048576) :
    tusklaw01_WireCuts.l0 (k + 2) n t l a (l.length : Int) = some true := by
  have h1 := wireList_size l
  have h2 := wireText_size t
  have h3 := wireInt_size (n : Int)
  have p1 := wireInt_pos_size n hn
  have p2 : 0 < (wireText t).size := by have := wireInt_pos_size t.size (by omega); rw [wireText, ba_append_size]; omega
  have p3 : 0 < (wireList l).size := by have := wireInt_pos_size l.length (by omega); rw [wireList, ba_append_size]; omega
  simp only [tusklaw01_WireCuts.l0]
  rw [if_neg (by omega)]
  simp only [wire_Int.f, wire_Text.f, wire_List.f, Option.bind_some]
  rw [if_pos (by omega)]
  simp only [Option.bind_some]
  rw [if_pos (by omega)]
  simp only [Option.bind_some]
  rw [if_neg (ne_nil p1), if_neg (ne_nil p2), show ((wireList l).toList == ([] : List UInt8)) = false from beq_eq_false_iff_ne.2 (ne_nil p3)]
  obtain ⟨a1, a2, a3, a4⟩ := cut_at (a := a) (show (wireInt (n : Int)).size ≤ 4611686018427387903 by omega) p1
  obtain ⟨b1, b2, b3, b4⟩ := cut_at (a := a) (show (wireText t).size ≤ 4611686018427387903 by omega) p2
  obtain ⟨c1, c2, c3, c4⟩ := cut_at (a := a) (show (wireList l).size ≤ 4611686018427387903 by omega) p3
  rw [tusklaw01_WireCuts.j2, if_neg (by decide), if_neg a1, if_pos a2, if_pos a3, wire_GetInt.f, int_short n _ hn a4]
  simp only [Option.bind_some]
  rw [if_neg b1, if_pos b2, if_pos b3, wire_GetText.f, if_pos (by rw [extract_size _ 0 _ (by omega)]; omega), text_short t _ (by omega) b4]
  simp only [Option.bind_some]
  rw [if_neg c1, if_pos c2, if_pos c3, wire_GetList.f, if_pos (by rw [extract_size _ 0 _ (by omega)]; omega), list_short l _ _ (by omega) (by omega) (fun x hx => by have := h x hx; omega) c4]
  rfl
theorem loop (n : Nat) (t : ByteArray) (l : List ByteArray) (a : Int) (hn : n ≤ 4611686018427387903) (ht : t.size ≤ 1000) (hl : l.length ≤ 20) (hb : (l.map fun s : ByteArray => s.size + 1).sum ≤ 1048576) : ∀ (d i k : Nat), i + d = l.length → (∀ j x, l[j]? = some x → j < i → x.size ≤ 1000) → d + 1 < k → tusklaw01_WireCuts.l0 k n t l a (i : Int) = some true := by
  intro d
  induction d with
  | zero =>
    intro i k hi h hk
    obtain ⟨k, rfl⟩ : ∃ m, k = m + 2 := ⟨k - 2, by omega⟩
    obtain rfl : i = l.length := by omega
    refine done n k t l a hn ht hl (fun x hx => ?_) hb
    obtain ⟨j, hj⟩ := List.getElem?_of_mem hx
    exact h j x hj (List.getElem?_eq_some_iff.1 hj).1
  | succ d ih =>
    intro i k hi h hk
    obtain ⟨k, rfl⟩ : ∃ m, k = m + 1 := ⟨k - 1, by omega⟩
    have hlt : i < l.length := by omega
    simp only [tusklaw01_WireCuts.l0]
    rw [if_pos (by omega), if_pos (by omega), rdOf_at l i hlt]
    by_cases hbig : (l[i].size : Int) > 1000
    · rw [if_pos hbig]
    · rw [if_neg hbig, wrap_in (by omega) (by omega)]
      refine ih (i + 1) k (by omega) (fun j x hj hji => ?_) (by omega)
      rcases Nat.lt_or_ge j i with h3 | h3
      · exact h j x hj h3
      · obtain rfl : j = i := by omega
        rw [List.getElem?_eq_getElem hlt] at hj
        obtain rfl := Option.some.inj hj
        omega
theorem holds : tusklaw01_WireCuts.PureU := by
  intro n t l a _ _ _ hb
  simp only [mList, mOne] at hb
  have hb2 : (l.map fun s : ByteArray => s.size + 1).sum ≤ 1048576 := by
    have : (l.map mStr).sum = (l.map fun s : ByteArray => s.size + 1).sum := rfl
    omega
  refine ⟨l.length + 3, ?_⟩
  simp only [tusklaw01_WireCuts.f, works_true, Option.bind_some, if_true]
  have ht : ∀ x t l a, tusklaw01_WireCuts.j0 (l.length + 3) x t l a true = some true := fun x t l a => by rw [tusklaw01_WireCuts.j0, if_pos rfl]
  by_cases h1 : n < 0
  · rw [if_pos h1, ht]
  by_cases h2 : n > 4611686018427387903
  · rw [if_neg h1, if_pos h2, ht]
  by_cases h3 : (t.size : Int) > 1000
  · rw [if_neg h1, if_neg h2, if_pos h3, ht]
  rw [if_neg h1, if_neg h2, if_neg h3]
  by_cases h4 : (l.length : Int) > 20
  · rw [decide_eq_true h4, ht]
  rw [decide_eq_false h4, tusklaw01_WireCuts.j0, if_neg (by decide)]
  obtain ⟨n, rfl⟩ := Int.eq_ofNat_of_zero_le (show 0 ≤ n by omega)
  exact loop n t l a (by omega) (by omega) (by omega) hb2 l.length 0 (l.length + 2) (by omega) (fun j x _ h => by omega) (by omega)

end WireCuts
theorem WireCuts : tusklaw01_WireCuts.PureU := WireCuts.holds
end Go.Proofs.Ytkhlmcnipecgoaa.Pure
