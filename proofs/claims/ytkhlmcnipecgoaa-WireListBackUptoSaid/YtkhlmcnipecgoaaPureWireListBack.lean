/- Proved: the statement WireListBack where its arguments are of bulk at most 1048576 (the row says so): a list that is written is got again, if as many may be; one fewer, and it is too long. -/
import Derived.Test.YtkhlmcnipecgoaaQWireListBackU
import Derived.Test.YtkhlmcnipecgoaaPlain03
namespace Go.Proofs.Ytkhlmcnipecgoaa.Pure
open Go.RowKit Go.Proofs.Ytkhlmcnipecgoaa.QWireListBack Go.Proofs.YtkhlmcnipecgoaaW.PrintWords Go.Proofs.YtkhlmcnipecgoaaW.PrintLast
open Go.Proofs.Ytkhlmcnipecgoaa.WireInt Go.Proofs.Ytkhlmcnipecgoaa.WireList Go.Proofs.Ytkhlmcnipecgoaa.Ref01 Go.Proofs.Ytkhlmcnipecgoaa.Plain01 Go.Proofs.Ytkhlmcnipecgoaa.Plain02 Go.Proofs.Ytkhlmcnipecgoaa.Plain03 Go.Proofs.Ytkhlmcnipecgoaa.Open
namespace WireListBack

theorem works_true : tusklaw01_works.f = some true := by
  unfold tusklaw01_works.f wire_GetInt.f wire_Int.f wire_List.f
  simp only [Option.bind_some]
  have e1 : wireGet ⟨#[172, 2]⟩ = (300, 2, 0) := by decide +kernel
  have e2 : wireGet ⟨#[128, 0]⟩ = (0, 0, 3) := by decide +kernel
  have e3 : wireInt 300 = ⟨#[172, 2]⟩ := by decide +kernel
  have e4 : wireList [(⟨#[97]⟩ : ByteArray), ⟨#[]⟩] = ⟨#[2, 1, 97, 0]⟩ := by decide +kernel
  rw [e1, e2, e3, e4]
  simp [ByteArray.toList_eq]
  decide
theorem done (l : List ByteArray) (s : ByteArray) (k : Nat) (h : ∀ x ∈ l, x.size ≤ 65536) (hb : (l.map fun s : ByteArray => s.size + 1).sum + s.size ≤ 1048576) :
    tusklaw01_WireListBack.l0 (k + 1) l s (l.length : Int) = some true := by
  have h1 := wireList_size l
  have h2 := length_le_sum l
  simp only [tusklaw01_WireListBack.l0]
  rw [if_neg (by omega), wire_List.f, if_pos (by omega)]
  simp only [Option.bind_some]
  rw [if_pos (by omega), wire_GetList.f, if_pos (by rw [ba_append_size]; omega), get_list l s _ (by omega) (by omega) h]
  simp only [Option.bind_some]
  rw [wire_GetList.f, if_pos (by rw [ba_append_size]; omega), wrap_in (by omega) (by omega), get_list_long l s _ (by omega) (by omega)]
  simp only [Option.bind_some, if_true]
  rw [tuskref01_Same.f, if_pos (by omega)]
  simp
theorem loop (l : List ByteArray) (s : ByteArray) (hb : (l.map fun s : ByteArray => s.size + 1).sum + s.size ≤ 1048576) : ∀ (d i k : Nat), i + d = l.length → (∀ j x, l[j]? = some x → j < i → x.size ≤ 65536) → d < k → tusklaw01_WireListBack.l0 k l s (i : Int) = some true := by
  have h2 := length_le_sum l
  intro d
  induction d with
  | zero =>
    intro i k hi h hk
    obtain ⟨k, rfl⟩ : ∃ m, k = m + 1 := ⟨k - 1, by omega⟩
    obtain rfl : i = l.length := by omega
    refine done l s k (fun x hx => ?_) hb
    obtain ⟨j, hj⟩ := List.getElem?_of_mem hx
    exact h j x hj (List.getElem?_eq_some_iff.1 hj).1
  | succ d ih =>
    intro i k hi h hk
    obtain ⟨k, rfl⟩ : ∃ m, k = m + 1 := ⟨k - 1, by omega⟩
    have hlt : i < l.length := by omega
    simp only [tusklaw01_WireListBack.l0]
    rw [if_pos (by omega), if_pos (by omega), rdOf_at l i hlt]
    by_cases hbig : (l[i].size : Int) > 65536
    · rw [if_pos hbig]
    · rw [if_neg hbig, wrap_in (by omega) (by omega)]
      refine ih (i + 1) k (by omega) (fun j x hj hji => ?_) (by omega)
      rcases Nat.lt_or_ge j i with h3 | h3
      · exact h j x hj h3
      · obtain rfl : j = i := by omega
        rw [List.getElem?_eq_getElem hlt] at hj
        obtain rfl := Option.some.inj hj
        omega
theorem holds : tusklaw01_WireListBack.PureU := by
  intro l s _ hb
  simp only [mList] at hb
  have hb2 : (l.map fun s : ByteArray => s.size + 1).sum + s.size ≤ 1048576 := by
    have : (l.map mStr).sum = (l.map fun s : ByteArray => s.size + 1).sum := rfl
    have : mStr s = s.size + 1 := rfl
    omega
  refine ⟨l.length + 1, ?_⟩
  simp only [tusklaw01_WireListBack.f, works_true, Option.bind_some, if_true]
  exact loop l s hb2 l.length 0 (l.length + 1) (by omega) (fun j x _ h => by omega) (by omega)

end WireListBack
theorem WireListBack : tusklaw01_WireListBack.PureU := WireListBack.holds
end Go.Proofs.Ytkhlmcnipecgoaa.Pure
