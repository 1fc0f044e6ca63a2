/- Proved: the statement WireLists where its arguments are of bulk at most 1048576 (the row says so): any list is written; from any bytes a list is got, or refused, as the reference says. -/
import Derived.Test.YtkhlmcnipecgoaaQWireListsU
import Derived.Test.YtkhlmcnipecgoaaPlain03
namespace Go.Proofs.Ytkhlmcnipecgoaa.Pure
open Go.RowKit Go.Proofs.Ytkhlmcnipecgoaa.QWireLists Go.Proofs.YtkhlmcnipecgoaaW.PrintWords Go.Proofs.YtkhlmcnipecgoaaW.PrintLast
open Go.Proofs.Ytkhlmcnipecgoaa.WireInt Go.Proofs.Ytkhlmcnipecgoaa.WireList Go.Proofs.Ytkhlmcnipecgoaa.Ref01 Go.Proofs.Ytkhlmcnipecgoaa.Plain01 Go.Proofs.Ytkhlmcnipecgoaa.Plain02 Go.Proofs.Ytkhlmcnipecgoaa.Plain03 Go.Proofs.Ytkhlmcnipecgoaa.Open
namespace WireLists

theorem holds : tusklaw01_WireLists.PureU := by
  intro l s most _ _ hb
  simp only [mList, mOne] at hb
  have hb2 : (l.map fun s : ByteArray => s.size + 1).sum + s.size ≤ 1048576 := by
    have : (l.map mStr).sum = (l.map fun s : ByteArray => s.size + 1).sum := rfl
    have : mStr s = s.size + 1 := rfl
    omega
  have h1 := wireList_size l
  have h2 := length_le_sum l
  have hs : s.size ≤ 8796093022208 := by omega
  have hn : (wireGetList s most).1.length ≤ 9223372036854775807 := getList_length s most hs
  simp only [tusklaw01_WireLists.f, Option.bind_some, List.length_nil, Nat.zero_add, List.nil_append]
  by_cases hl : (l.length : Int) > 500
  · rw [if_pos hl]
  · rw [if_neg hl, if_pos (by omega)]
    simp only [wire_GetList.f, tuskref01_GetList.f, if_pos hs, Option.bind_some, wire_List.f, tuskref01_List.f]
    rw [if_pos (show (wireList l).size ≤ 140737488355328 by omega), if_pos (⟨by omega, by omega⟩ : (wireList l).size ≤ 9223372036854775807 ∧ l.length ≤ 9223372036854775807)]
    simp only [Option.bind_some, if_true]
    simp only [tuskref01_Same.f, if_pos hn, Option.bind_some, decide_true, if_true]
    rw [if_pos (by omega)]
    rfl

end WireLists
theorem WireLists : tusklaw01_WireLists.PureU := WireLists.holds
end Go.Proofs.Ytkhlmcnipecgoaa.Pure
