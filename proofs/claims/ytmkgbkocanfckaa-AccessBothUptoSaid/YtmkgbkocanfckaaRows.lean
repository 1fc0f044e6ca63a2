/-
  No cell of these rows narrows 'for every input' (looked for: loops, veiled, ifaces, maps, wideKeys, modest, calm, conditions, laid).
  DERIVED. THE GIVEN ROWS OF THIS SEAT. 4 by the template 'for every input the law returns true; each argument reads behind the call as it read before'; 0 by the template 'total and deterministic' (their statements: YtmkgbkocanfckaaTotals.lean).
  GIVEN WITH THE SEED: the statements are not yours to turn. If you find one false, say at which input.
  Laid BY PROGRAM, IN A SANDBOX (cutbox-rows.mjs): the forced cells as the released guide's own fill.sh prints them over the translation 25f740ef73008dcc… (all of the seat's roots in one cut). By AI agents, Wed Nov 11 2026. No macro, syntax, notation, axiom, sorry.
-/
import Derived.Test.YtmkgbkocanfckaaChecked
import GoSem.Claim
import GoSem.ClaimJoined
import GoSem.ClaimMapViews
import Derived.JoinedTies
import Derived.KernelRfl
namespace Go.Proofs.Ytmkgbkocanfckaa
/- THE CELL 'sum', in the pinned program and in every row, IS THE sha256 OF THE DUMP (.gsa) THAT YtmkgbkocanfckaaProg.lean LOADS. Nothing in Lean hashes anything: it is a label: what it is worth is what the hold of that sum in a sandbox is worth. -/
noncomputable def Try.pinned : Pinned := { name := "ytmkgbkocanfckaa", sum := "25f740ef73008dcc444c7b6795c0c131e7c2823a28c2109e5ae323e6b2732b6f", checked := Try.checked }
namespace Rows
def none {H : Type} : Left H := { results := [], args := [] }

/-- 'tusklaw20.AccessTells': WHATEVER THE INPUT: true; the input reads as it did. -/
def accessTellsSpec : ChangeSpec := { name := "accessTells", fn := fun _ => fun
  | [d1, d2, d3] => { results := [.lit (.bool true)], args := [d1, d2, d3] }
  | _ => none }
def accessTellsRow : OpenClaim := { program := "ytmkgbkocanfckaa", sum := "25f740ef73008dcc444c7b6795c0c131e7c2823a28c2109e5ae323e6b2732b6f", func := "tusk/tusklaw20.AccessTells", spec := "accessTells", unfollowed := true, recurses := true, apart := false }
def AccessTellsSaid : Prop := accessTellsRow.holds Try.pinned (OpenSpec.ofChange accessTellsSpec)

/-- ITS FALSE NEIGHBOUR: 'it returns false'. Refute it at one input. -/
def accessTellsWrong : ChangeSpec := { name := "accessTells", fn := fun _ => fun
  | [d1, d2, d3] => { results := [.lit (.bool false)], args := [d1, d2, d3] }
  | _ => none }
def AccessTellsWrongFalsely : Prop := accessTellsRow.holds Try.pinned (OpenSpec.ofChange accessTellsWrong)

/-- 'tusklaw20.AccessBoth': WHATEVER THE INPUT: true; the input reads as it did. -/
def accessBothSpec : ChangeSpec := { name := "accessBoth", fn := fun _ => fun
  | [d1, d2] => { results := [.lit (.bool true)], args := [d1, d2] }
  | _ => none }
def accessBothRow : OpenClaim := { program := "ytmkgbkocanfckaa", sum := "25f740ef73008dcc444c7b6795c0c131e7c2823a28c2109e5ae323e6b2732b6f", func := "tusk/tusklaw20.AccessBoth", spec := "accessBoth", unfollowed := true, recurses := true, apart := false }
def AccessBothSaid : Prop := accessBothRow.holds Try.pinned (OpenSpec.ofChange accessBothSpec)

/-- ITS FALSE NEIGHBOUR: 'it returns false'. Refute it at one input. -/
def accessBothWrong : ChangeSpec := { name := "accessBoth", fn := fun _ => fun
  | [d1, d2] => { results := [.lit (.bool false)], args := [d1, d2] }
  | _ => none }
def AccessBothWrongFalsely : Prop := accessBothRow.holds Try.pinned (OpenSpec.ofChange accessBothWrong)

/-- 'tusklaw20.AccessApart': WHATEVER THE INPUT: true; the input reads as it did. -/
def accessApartSpec : ChangeSpec := { name := "accessApart", fn := fun _ => fun
  | [d] => { results := [.lit (.bool true)], args := [d] }
  | _ => none }
def accessApartRow : OpenClaim := { program := "ytmkgbkocanfckaa", sum := "25f740ef73008dcc444c7b6795c0c131e7c2823a28c2109e5ae323e6b2732b6f", func := "tusk/tusklaw20.AccessApart", spec := "accessApart", unfollowed := true, recurses := true, apart := false }
def AccessApartSaid : Prop := accessApartRow.holds Try.pinned (OpenSpec.ofChange accessApartSpec)

/-- ITS FALSE NEIGHBOUR: 'it returns false'. Refute it at one input. -/
def accessApartWrong : ChangeSpec := { name := "accessApart", fn := fun _ => fun
  | [d] => { results := [.lit (.bool false)], args := [d] }
  | _ => none }
def AccessApartWrongFalsely : Prop := accessApartRow.holds Try.pinned (OpenSpec.ofChange accessApartWrong)

/-- 'tusklaw20.AccessMore': WHATEVER THE INPUT: true; the input reads as it did. -/
def accessMoreSpec : ChangeSpec := { name := "accessMore", fn := fun _ => fun
  | [d1, d2, d3, d4] => { results := [.lit (.bool true)], args := [d1, d2, d3, d4] }
  | _ => none }
def accessMoreRow : OpenClaim := { program := "ytmkgbkocanfckaa", sum := "25f740ef73008dcc444c7b6795c0c131e7c2823a28c2109e5ae323e6b2732b6f", func := "tusk/tusklaw20.AccessMore", spec := "accessMore", unfollowed := true, recurses := true, apart := false }
def AccessMoreSaid : Prop := accessMoreRow.holds Try.pinned (OpenSpec.ofChange accessMoreSpec)

/-- ITS FALSE NEIGHBOUR: 'it returns false'. Refute it at one input. -/
def accessMoreWrong : ChangeSpec := { name := "accessMore", fn := fun _ => fun
  | [d1, d2, d3, d4] => { results := [.lit (.bool false)], args := [d1, d2, d3, d4] }
  | _ => none }
def AccessMoreWrongFalsely : Prop := accessMoreRow.holds Try.pinned (OpenSpec.ofChange accessMoreWrong)

/- THE SECOND FORM. 'bulk': how many values and letters a reading holds, each counted each time it is reached (what is shared counts as often as it is met; a slice's spare places count too). A statement '..UptoSaid' is the law's where the arguments, and the package variables that the reading takes, are together of bulk at most 1048576: NARROWER than '..Said'. Prove '..Said' where nothing that the law and all that it calls make is longer than what came in: it says more and counts as full. Else prove '..UptoSaid'. A law counts once. -/
mutual
def uptoBulk {H : Type} : DataW H → Nat
  | .lit (.string bytes) => bytes.length + 1
  | .lit _ => 1
  | .nil => 1
  | .ptr d => uptoBulk d + 1
  | .slice elems spare => uptoBulkAll elems + uptoBulkAll spare + 1
  | .agg parts => uptoBulkAll parts + 1
  | .iface _ d => uptoBulk d + 1
  | .map entries => uptoBulkEntries entries + 1
  | .held _ => 1
def uptoBulkAll {H : Type} : List (DataW H) → Nat
  | [] => 0
  | d :: r => uptoBulk d + uptoBulkAll r
def uptoBulkEntries {H : Type} : List (Lit × DataW H) → Nat
  | [] => 0
  | x :: r => uptoBulkEntry x + uptoBulkEntries r
def uptoBulkEntry {H : Type} : Lit × DataW H → Nat
  | (.string bytes, d) => bytes.length + uptoBulk d + 1
  | (_, d) => uptoBulk d + 1
 end
def uptoSmall : (H : Type) → List (DataW H) → Bool := fun _ ds => decide (uptoBulkAll ds ≤ 1048576)
def OpenSpec.upto (s : _root_.Go.ChangeSpec) : _root_.Go.OpenSpec := { _root_.Go.OpenSpec.ofChange s with cond := some uptoSmall }

/-- 'tusklaw20.AccessTells', WHERE WHAT IT READS IS OF BULK AT MOST 1048576: true; the input reads as it did. -/
def accessTellsUptoRow : OpenClaim := { program := "ytmkgbkocanfckaa", sum := "25f740ef73008dcc444c7b6795c0c131e7c2823a28c2109e5ae323e6b2732b6f", func := "tusk/tusklaw20.AccessTells", spec := "accessTells", unfollowed := true, recurses := true, apart := false, narrowed := true }
def AccessTellsUptoSaid : Prop := accessTellsUptoRow.holds Try.pinned (OpenSpec.upto accessTellsSpec)

/-- 'tusklaw20.AccessBoth', WHERE WHAT IT READS IS OF BULK AT MOST 1048576: true; the input reads as it did. -/
def accessBothUptoRow : OpenClaim := { program := "ytmkgbkocanfckaa", sum := "25f740ef73008dcc444c7b6795c0c131e7c2823a28c2109e5ae323e6b2732b6f", func := "tusk/tusklaw20.AccessBoth", spec := "accessBoth", unfollowed := true, recurses := true, apart := false, narrowed := true }
def AccessBothUptoSaid : Prop := accessBothUptoRow.holds Try.pinned (OpenSpec.upto accessBothSpec)

/-- 'tusklaw20.AccessApart', WHERE WHAT IT READS IS OF BULK AT MOST 1048576: true; the input reads as it did. -/
def accessApartUptoRow : OpenClaim := { program := "ytmkgbkocanfckaa", sum := "25f740ef73008dcc444c7b6795c0c131e7c2823a28c2109e5ae323e6b2732b6f", func := "tusk/tusklaw20.AccessApart", spec := "accessApart", unfollowed := true, recurses := true, apart := false, narrowed := true }
def AccessApartUptoSaid : Prop := accessApartUptoRow.holds Try.pinned (OpenSpec.upto accessApartSpec)

/-- 'tusklaw20.AccessMore', WHERE WHAT IT READS IS OF BULK AT MOST 1048576: true; the input reads as it did. -/
def accessMoreUptoRow : OpenClaim := { program := "ytmkgbkocanfckaa", sum := "25f740ef73008dcc444c7b6795c0c131e7c2823a28c2109e5ae323e6b2732b6f", func := "tusk/tusklaw20.AccessMore", spec := "accessMore", unfollowed := true, recurses := true, apart := false, narrowed := true }
def AccessMoreUptoSaid : Prop := accessMoreUptoRow.holds Try.pinned (OpenSpec.upto accessMoreSpec)

end Rows
end Go.Proofs.Ytmkgbkocanfckaa
