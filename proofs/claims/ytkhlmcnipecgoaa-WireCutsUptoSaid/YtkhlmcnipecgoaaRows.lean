/-
  No cell of these rows narrows 'for every input' (looked for: loops, veiled, ifaces, maps, wideKeys, modest, calm, conditions, laid).
  DERIVED. THE GIVEN ROWS OF THIS SEAT. 10 by the template 'for every input the law returns true; each argument reads behind the call as it read before'; 0 by the template 'total and deterministic' (their statements: YtkhlmcnipecgoaaTotals.lean).
  GIVEN WITH THE SEED: the statements are not yours to turn. If you find one false, say at which input.
  Laid BY PROGRAM, IN A SANDBOX (cutbox-rows.mjs): the forced cells as the released guide's own fill.sh prints them over the translation 40353e0ee7548969… (all of the seat's roots in one cut). By AI agents, Wed Nov 11 2026. No macro, syntax, notation, axiom, sorry.
-/
import Derived.Test.YtkhlmcnipecgoaaChecked
import GoSem.Claim
import GoSem.ClaimJoined
import GoSem.ClaimMapViews
import Derived.JoinedTies
import Derived.KernelRfl
namespace Go.Proofs.Ytkhlmcnipecgoaa
/- THE CELL 'sum', in the pinned program and in every row, IS THE sha256 OF THE DUMP (.gsa) THAT YtkhlmcnipecgoaaProg.lean LOADS. Nothing in Lean hashes anything: it is a label: what it is worth is what the hold of that sum in a sandbox is worth. -/
noncomputable def Try.pinned : Pinned := { name := "ytkhlmcnipecgoaa", sum := "40353e0ee75489692d8b18d30b52ff91f0ece10fd05b8edb424a359fd9497be4", checked := Try.checked }
namespace Rows
def none {H : Type} : Left H := { results := [], args := [] }

/-- 'tusklaw01.WireInts': WHATEVER THE INPUT: true; the input reads as it did. -/
def wireIntsSpec : ChangeSpec := { name := "wireInts", fn := fun _ => fun
  | [d1, d2] => { results := [.lit (.bool true)], args := [d1, d2] }
  | _ => none }
def wireIntsRow : OpenClaim := { program := "ytkhlmcnipecgoaa", sum := "40353e0ee75489692d8b18d30b52ff91f0ece10fd05b8edb424a359fd9497be4", func := "tusk/tusklaw01.WireInts", spec := "wireInts", recurses := true, apart := false }
def WireIntsSaid : Prop := wireIntsRow.holds Try.pinned (OpenSpec.ofChange wireIntsSpec)

/-- ITS FALSE NEIGHBOUR: 'it returns false'. Refute it at one input. -/
def wireIntsWrong : ChangeSpec := { name := "wireInts", fn := fun _ => fun
  | [d1, d2] => { results := [.lit (.bool false)], args := [d1, d2] }
  | _ => none }
def WireIntsWrongFalsely : Prop := wireIntsRow.holds Try.pinned (OpenSpec.ofChange wireIntsWrong)

/-- 'tusklaw01.WireTexts': WHATEVER THE INPUT: true; the input reads as it did. -/
def wireTextsSpec : ChangeSpec := { name := "wireTexts", fn := fun _ => fun
  | [d1, d2] => { results := [.lit (.bool true)], args := [d1, d2] }
  | _ => none }
def wireTextsRow : OpenClaim := { program := "ytkhlmcnipecgoaa", sum := "40353e0ee75489692d8b18d30b52ff91f0ece10fd05b8edb424a359fd9497be4", func := "tusk/tusklaw01.WireTexts", spec := "wireTexts", recurses := true, apart := false }
def WireTextsSaid : Prop := wireTextsRow.holds Try.pinned (OpenSpec.ofChange wireTextsSpec)

/-- ITS FALSE NEIGHBOUR: 'it returns false'. Refute it at one input. -/
def wireTextsWrong : ChangeSpec := { name := "wireTexts", fn := fun _ => fun
  | [d1, d2] => { results := [.lit (.bool false)], args := [d1, d2] }
  | _ => none }
def WireTextsWrongFalsely : Prop := wireTextsRow.holds Try.pinned (OpenSpec.ofChange wireTextsWrong)

/-- 'tusklaw01.WireIntBack': WHATEVER THE INPUT: true; the input reads as it did. -/
def wireIntBackSpec : ChangeSpec := { name := "wireIntBack", fn := fun _ => fun
  | [d1, d2] => { results := [.lit (.bool true)], args := [d1, d2] }
  | _ => none }
def wireIntBackRow : OpenClaim := { program := "ytkhlmcnipecgoaa", sum := "40353e0ee75489692d8b18d30b52ff91f0ece10fd05b8edb424a359fd9497be4", func := "tusk/tusklaw01.WireIntBack", spec := "wireIntBack", inPlace := ["internal/abi.NoEscape"], apart := false }
def WireIntBackSaid : Prop := wireIntBackRow.holds Try.pinned (OpenSpec.ofChange wireIntBackSpec)

/-- ITS FALSE NEIGHBOUR: 'it returns false'. Refute it at one input. -/
def wireIntBackWrong : ChangeSpec := { name := "wireIntBack", fn := fun _ => fun
  | [d1, d2] => { results := [.lit (.bool false)], args := [d1, d2] }
  | _ => none }
def WireIntBackWrongFalsely : Prop := wireIntBackRow.holds Try.pinned (OpenSpec.ofChange wireIntBackWrong)

/-- 'tusklaw01.WireApart': WHATEVER THE INPUT: true; the input reads as it did. -/
def wireApartSpec : ChangeSpec := { name := "wireApart", fn := fun _ => fun
  | [d1, d2] => { results := [.lit (.bool true)], args := [d1, d2] }
  | _ => none }
def wireApartRow : OpenClaim := { program := "ytkhlmcnipecgoaa", sum := "40353e0ee75489692d8b18d30b52ff91f0ece10fd05b8edb424a359fd9497be4", func := "tusk/tusklaw01.WireApart", spec := "wireApart", inPlace := ["internal/abi.NoEscape"], apart := false }
def WireApartSaid : Prop := wireApartRow.holds Try.pinned (OpenSpec.ofChange wireApartSpec)

/-- ITS FALSE NEIGHBOUR: 'it returns false'. Refute it at one input. -/
def wireApartWrong : ChangeSpec := { name := "wireApart", fn := fun _ => fun
  | [d1, d2] => { results := [.lit (.bool false)], args := [d1, d2] }
  | _ => none }
def WireApartWrongFalsely : Prop := wireApartRow.holds Try.pinned (OpenSpec.ofChange wireApartWrong)

/-- 'tusklaw01.WireSizes': WHATEVER THE INPUT: true; the input reads as it did. -/
def wireSizesSpec : ChangeSpec := { name := "wireSizes", fn := fun _ => fun
  | [d1, d2] => { results := [.lit (.bool true)], args := [d1, d2] }
  | _ => none }
def wireSizesRow : OpenClaim := { program := "ytkhlmcnipecgoaa", sum := "40353e0ee75489692d8b18d30b52ff91f0ece10fd05b8edb424a359fd9497be4", func := "tusk/tusklaw01.WireSizes", spec := "wireSizes", inPlace := ["internal/abi.NoEscape"], apart := false }
def WireSizesSaid : Prop := wireSizesRow.holds Try.pinned (OpenSpec.ofChange wireSizesSpec)

/-- ITS FALSE NEIGHBOUR: 'it returns false'. Refute it at one input. -/
def wireSizesWrong : ChangeSpec := { name := "wireSizes", fn := fun _ => fun
  | [d1, d2] => { results := [.lit (.bool false)], args := [d1, d2] }
  | _ => none }
def WireSizesWrongFalsely : Prop := wireSizesRow.holds Try.pinned (OpenSpec.ofChange wireSizesWrong)

/-- 'tusklaw01.WireTextBack': WHATEVER THE INPUT: true; the input reads as it did. -/
def wireTextBackSpec : ChangeSpec := { name := "wireTextBack", fn := fun _ => fun
  | [d1, d2] => { results := [.lit (.bool true)], args := [d1, d2] }
  | _ => none }
def wireTextBackRow : OpenClaim := { program := "ytkhlmcnipecgoaa", sum := "40353e0ee75489692d8b18d30b52ff91f0ece10fd05b8edb424a359fd9497be4", func := "tusk/tusklaw01.WireTextBack", spec := "wireTextBack", inPlace := ["internal/abi.NoEscape"], apart := false }
def WireTextBackSaid : Prop := wireTextBackRow.holds Try.pinned (OpenSpec.ofChange wireTextBackSpec)

/-- ITS FALSE NEIGHBOUR: 'it returns false'. Refute it at one input. -/
def wireTextBackWrong : ChangeSpec := { name := "wireTextBack", fn := fun _ => fun
  | [d1, d2] => { results := [.lit (.bool false)], args := [d1, d2] }
  | _ => none }
def WireTextBackWrongFalsely : Prop := wireTextBackRow.holds Try.pinned (OpenSpec.ofChange wireTextBackWrong)

/-- 'tusklaw01.WireLists': WHATEVER THE INPUT: true; the input reads as it did. -/
def wireListsSpec : ChangeSpec := { name := "wireLists", fn := fun _ => fun
  | [d1, d2, d3] => { results := [.lit (.bool true)], args := [d1, d2, d3] }
  | _ => none }
def wireListsRow : OpenClaim := { program := "ytkhlmcnipecgoaa", sum := "40353e0ee75489692d8b18d30b52ff91f0ece10fd05b8edb424a359fd9497be4", func := "tusk/tusklaw01.WireLists", spec := "wireLists", inPlace := ["internal/abi.NoEscape"], recurses := true, apart := false }
def WireListsSaid : Prop := wireListsRow.holds Try.pinned (OpenSpec.ofChange wireListsSpec)

/-- ITS FALSE NEIGHBOUR: 'it returns false'. Refute it at one input. -/
def wireListsWrong : ChangeSpec := { name := "wireLists", fn := fun _ => fun
  | [d1, d2, d3] => { results := [.lit (.bool false)], args := [d1, d2, d3] }
  | _ => none }
def WireListsWrongFalsely : Prop := wireListsRow.holds Try.pinned (OpenSpec.ofChange wireListsWrong)

/-- 'tusklaw01.WireListBack': WHATEVER THE INPUT: true; the input reads as it did. -/
def wireListBackSpec : ChangeSpec := { name := "wireListBack", fn := fun _ => fun
  | [d1, d2] => { results := [.lit (.bool true)], args := [d1, d2] }
  | _ => none }
def wireListBackRow : OpenClaim := { program := "ytkhlmcnipecgoaa", sum := "40353e0ee75489692d8b18d30b52ff91f0ece10fd05b8edb424a359fd9497be4", func := "tusk/tusklaw01.WireListBack", spec := "wireListBack", inPlace := ["internal/abi.NoEscape"], apart := false }
def WireListBackSaid : Prop := wireListBackRow.holds Try.pinned (OpenSpec.ofChange wireListBackSpec)

/-- ITS FALSE NEIGHBOUR: 'it returns false'. Refute it at one input. -/
def wireListBackWrong : ChangeSpec := { name := "wireListBack", fn := fun _ => fun
  | [d1, d2] => { results := [.lit (.bool false)], args := [d1, d2] }
  | _ => none }
def WireListBackWrongFalsely : Prop := wireListBackRow.holds Try.pinned (OpenSpec.ofChange wireListBackWrong)

/-- 'tusklaw01.WireCuts': WHATEVER THE INPUT: true; the input reads as it did. -/
def wireCutsSpec : ChangeSpec := { name := "wireCuts", fn := fun _ => fun
  | [d1, d2, d3, d4] => { results := [.lit (.bool true)], args := [d1, d2, d3, d4] }
  | _ => none }
def wireCutsRow : OpenClaim := { program := "ytkhlmcnipecgoaa", sum := "40353e0ee75489692d8b18d30b52ff91f0ece10fd05b8edb424a359fd9497be4", func := "tusk/tusklaw01.WireCuts", spec := "wireCuts", inPlace := ["internal/abi.NoEscape"], apart := false }
def WireCutsSaid : Prop := wireCutsRow.holds Try.pinned (OpenSpec.ofChange wireCutsSpec)

/-- ITS FALSE NEIGHBOUR: 'it returns false'. Refute it at one input. -/
def wireCutsWrong : ChangeSpec := { name := "wireCuts", fn := fun _ => fun
  | [d1, d2, d3, d4] => { results := [.lit (.bool false)], args := [d1, d2, d3, d4] }
  | _ => none }
def WireCutsWrongFalsely : Prop := wireCutsRow.holds Try.pinned (OpenSpec.ofChange wireCutsWrong)

/-- 'tusklaw01.WireJoins': WHATEVER THE INPUT: true; the input reads as it did. -/
def wireJoinsSpec : ChangeSpec := { name := "wireJoins", fn := fun _ => fun
  | [d1, d2] => { results := [.lit (.bool true)], args := [d1, d2] }
  | _ => none }
def wireJoinsRow : OpenClaim := { program := "ytkhlmcnipecgoaa", sum := "40353e0ee75489692d8b18d30b52ff91f0ece10fd05b8edb424a359fd9497be4", func := "tusk/tusklaw01.WireJoins", spec := "wireJoins", inPlace := ["internal/abi.NoEscape"], apart := false }
def WireJoinsSaid : Prop := wireJoinsRow.holds Try.pinned (OpenSpec.ofChange wireJoinsSpec)

/-- ITS FALSE NEIGHBOUR: 'it returns false'. Refute it at one input. -/
def wireJoinsWrong : ChangeSpec := { name := "wireJoins", fn := fun _ => fun
  | [d1, d2] => { results := [.lit (.bool false)], args := [d1, d2] }
  | _ => none }
def WireJoinsWrongFalsely : Prop := wireJoinsRow.holds Try.pinned (OpenSpec.ofChange wireJoinsWrong)

/- THE SECOND FORM. 'bulk': how many values and letters a reading holds, each counted each time it is reached (what is shared counts as often as it is met; a slice's spare places count too). A statement '..UptoSaid' is the law's where the arguments, and the package variables that the reading takes, are together of bulk at most 1048576: NARROWER than '..Said'. Prove '..Said' where nothing that the law and all that it calls make is longer than what came in: it says more and counts as full. Else prove '..UptoSaid'. A law counts once. -/
mutual
def uptoBulk {H : Type} : DataW H → Nat
  | .lit (.string bytes) => bytes.length + 1
  | .lit _ => 1
  | .nil => 1
  | .ptr d => uptoBulk d + 1
  | .slice elems spare => uptoBulkAll elems + uptoBulkAll spare + 1
  | .agg parts => uptoBulkAll parts + 1
  | .iface _ d => uptoBulk d + 1
  | .map entries => uptoBulkEntries entries + 1
  | .held _ => 1
def uptoBulkAll {H : Type} : List (DataW H) → Nat
  | [] => 0
  | d :: r => uptoBulk d + uptoBulkAll r
def uptoBulkEntries {H : Type} : List (Lit × DataW H) → Nat
  | [] => 0
  | x :: r => uptoBulkEntry x + uptoBulkEntries r
def uptoBulkEntry {H : Type} : Lit × DataW H → Nat
  | (.string bytes, d) => bytes.length + uptoBulk d + 1
  | (_, d) => uptoBulk d + 1
 end
def uptoSmall : (H : Type) → List (DataW H) → Bool := fun _ ds => decide (uptoBulkAll ds ≤ 1048576)
def OpenSpec.upto (s : _root_.Go.ChangeSpec) : _root_.Go.OpenSpec := { _root_.Go.OpenSpec.ofChange s with cond := some uptoSmall }

/-- 'tusklaw01.WireInts', WHERE WHAT IT READS IS OF BULK AT MOST 1048576: true; the input reads as it did. -/
def wireIntsUptoRow : OpenClaim := { program := "ytkhlmcnipecgoaa", sum := "40353e0ee75489692d8b18d30b52ff91f0ece10fd05b8edb424a359fd9497be4", func := "tusk/tusklaw01.WireInts", spec := "wireInts", recurses := true, apart := false, narrowed := true }
def WireIntsUptoSaid : Prop := wireIntsUptoRow.holds Try.pinned (OpenSpec.upto wireIntsSpec)

/-- 'tusklaw01.WireTexts', WHERE WHAT IT READS IS OF BULK AT MOST 1048576: true; the input reads as it did. -/
def wireTextsUptoRow : OpenClaim := { program := "ytkhlmcnipecgoaa", sum := "40353e0ee75489692d8b18d30b52ff91f0ece10fd05b8edb424a359fd9497be4", func := "tusk/tusklaw01.WireTexts", spec := "wireTexts", recurses := true, apart := false, narrowed := true }
def WireTextsUptoSaid : Prop := wireTextsUptoRow.holds Try.pinned (OpenSpec.upto wireTextsSpec)

/-- 'tusklaw01.WireIntBack', WHERE WHAT IT READS IS OF BULK AT MOST 1048576: true; the input reads as it did. -/
def wireIntBackUptoRow : OpenClaim := { program := "ytkhlmcnipecgoaa", sum := "40353e0ee75489692d8b18d30b52ff91f0ece10fd05b8edb424a359fd9497be4", func := "tusk/tusklaw01.WireIntBack", spec := "wireIntBack", inPlace := ["internal/abi.NoEscape"], apart := false, narrowed := true }
def WireIntBackUptoSaid : Prop := wireIntBackUptoRow.holds Try.pinned (OpenSpec.upto wireIntBackSpec)

/-- 'tusklaw01.WireApart', WHERE WHAT IT READS IS OF BULK AT MOST 1048576: true; the input reads as it did. -/
def wireApartUptoRow : OpenClaim := { program := "ytkhlmcnipecgoaa", sum := "40353e0ee75489692d8b18d30b52ff91f0ece10fd05b8edb424a359fd9497be4", func := "tusk/tusklaw01.WireApart", spec := "wireApart", inPlace := ["internal/abi.NoEscape"], apart := false, narrowed := true }
def WireApartUptoSaid : Prop := wireApartUptoRow.holds Try.pinned (OpenSpec.upto wireApartSpec)

/-- 'tusklaw01.WireSizes', WHERE WHAT IT READS IS OF BULK AT MOST 1048576: true; the input reads as it did. -/
def wireSizesUptoRow : OpenClaim := { program := "ytkhlmcnipecgoaa", sum := "40353e0ee75489692d8b18d30b52ff91f0ece10fd05b8edb424a359fd9497be4", func := "tusk/tusklaw01.WireSizes", spec := "wireSizes", inPlace := ["internal/abi.NoEscape"], apart := false, narrowed := true }
def WireSizesUptoSaid : Prop := wireSizesUptoRow.holds Try.pinned (OpenSpec.upto wireSizesSpec)

/-- 'tusklaw01.WireTextBack', WHERE WHAT IT READS IS OF BULK AT MOST 1048576: true; the input reads as it did. -/
def wireTextBackUptoRow : OpenClaim := { program := "ytkhlmcnipecgoaa", sum := "40353e0ee75489692d8b18d30b52ff91f0ece10fd05b8edb424a359fd9497be4", func := "tusk/tusklaw01.WireTextBack", spec := "wireTextBack", inPlace := ["internal/abi.NoEscape"], apart := false, narrowed := true }
def WireTextBackUptoSaid : Prop := wireTextBackUptoRow.holds Try.pinned (OpenSpec.upto wireTextBackSpec)

/-- 'tusklaw01.WireLists', WHERE WHAT IT READS IS OF BULK AT MOST 1048576: true; the input reads as it did. -/
def wireListsUptoRow : OpenClaim := { program := "ytkhlmcnipecgoaa", sum := "40353e0ee75489692d8b18d30b52ff91f0ece10fd05b8edb424a359fd9497be4", func := "tusk/tusklaw01.WireLists", spec := "wireLists", inPlace := ["internal/abi.NoEscape"], recurses := true, apart := false, narrowed := true }
def WireListsUptoSaid : Prop := wireListsUptoRow.holds Try.pinned (OpenSpec.upto wireListsSpec)

/-- 'tusklaw01.WireListBack', WHERE WHAT IT READS IS OF BULK AT MOST 1048576: true; the input reads as it did. -/
def wireListBackUptoRow : OpenClaim := { program := "ytkhlmcnipecgoaa", sum := "40353e0ee75489692d8b18d30b52ff91f0ece10fd05b8edb424a359fd9497be4", func := "tusk/tusklaw01.WireListBack", spec := "wireListBack", inPlace := ["internal/abi.NoEscape"], apart := false, narrowed := true }
def WireListBackUptoSaid : Prop := wireListBackUptoRow.holds Try.pinned (OpenSpec.upto wireListBackSpec)

/-- 'tusklaw01.WireCuts', WHERE WHAT IT READS IS OF BULK AT MOST 1048576: true; the input reads as it did. -/
def wireCutsUptoRow : OpenClaim := { program := "ytkhlmcnipecgoaa", sum := "40353e0ee75489692d8b18d30b52ff91f0ece10fd05b8edb424a359fd9497be4", func := "tusk/tusklaw01.WireCuts", spec := "wireCuts", inPlace := ["internal/abi.NoEscape"], apart := false, narrowed := true }
def WireCutsUptoSaid : Prop := wireCutsUptoRow.holds Try.pinned (OpenSpec.upto wireCutsSpec)

/-- 'tusklaw01.WireJoins', WHERE WHAT IT READS IS OF BULK AT MOST 1048576: true; the input reads as it did. -/
def wireJoinsUptoRow : OpenClaim := { program := "ytkhlmcnipecgoaa", sum := "40353e0ee75489692d8b18d30b52ff91f0ece10fd05b8edb424a359fd9497be4", func := "tusk/tusklaw01.WireJoins", spec := "wireJoins", inPlace := ["internal/abi.NoEscape"], apart := false, narrowed := true }
def WireJoinsUptoSaid : Prop := wireJoinsUptoRow.holds Try.pinned (OpenSpec.upto wireJoinsSpec)

end Rows
end Go.Proofs.Ytkhlmcnipecgoaa
