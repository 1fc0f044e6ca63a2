/-
  No cell of these rows narrows 'for every input' (looked for: loops, veiled, ifaces, maps, wideKeys, modest, calm, conditions, laid).
  DERIVED. THE GIVEN ROWS OF THIS SEAT. 4 by the template 'for every input the law returns true; each argument reads behind the call as it read before'; 0 by the template 'total and deterministic' (their statements: YtiaanhjnjkmnfaaTotals.lean).
  GIVEN WITH THE SEED: the statements are not yours to turn. If you find one false, say at which input.
  Laid BY PROGRAM, IN A SANDBOX (cutbox-rows.mjs): the forced cells as the released guide's own fill.sh prints them over the translation d823c587a991f53c… (all of the seat's roots in one cut). By AI agents, Wed Nov 11 2026. No macro, syntax, notation, axiom, sorry.
-/
import Derived.Test.YtiaanhjnjkmnfaaChecked
import GoSem.Claim
import GoSem.ClaimJoined
import GoSem.ClaimMapViews
import Derived.JoinedTies
import Derived.KernelRfl
namespace Go.Proofs.Ytiaanhjnjkmnfaa
/- THE CELL 'sum', in the pinned program and in every row, IS THE sha256 OF THE DUMP (.gsa) THAT YtiaanhjnjkmnfaaProg.lean LOADS. Nothing in Lean hashes anything: it is a label: what it is worth is what the hold of that sum in a sandbox is worth. -/
noncomputable def Try.pinned : Pinned := { name := "ytiaanhjnjkmnfaa", sum := "d823c587a991f53cba544768c4b9aedd07111f278b50c34475bfc1a364973a16", checked := Try.checked }
namespace Rows
def none {H : Type} : Left H := { results := [], args := [] }

/-- 'tusklaw19.FetchLine': WHATEVER THE INPUT: true; the input reads as it did. -/
def fetchLineSpec : ChangeSpec := { name := "fetchLine", fn := fun _ => fun
  | [d1, d2] => { results := [.lit (.bool true)], args := [d1, d2] }
  | _ => none }
def fetchLineRow : OpenClaim := { program := "ytiaanhjnjkmnfaa", sum := "d823c587a991f53cba544768c4b9aedd07111f278b50c34475bfc1a364973a16", func := "tusk/tusklaw19.FetchLine", spec := "fetchLine", unfollowed := true, recurses := true, apart := false }
def FetchLineSaid : Prop := fetchLineRow.holds Try.pinned (OpenSpec.ofChange fetchLineSpec)

/-- ITS FALSE NEIGHBOUR: 'it returns false'. Refute it at one input. -/
def fetchLineWrong : ChangeSpec := { name := "fetchLine", fn := fun _ => fun
  | [d1, d2] => { results := [.lit (.bool false)], args := [d1, d2] }
  | _ => none }
def FetchLineWrongFalsely : Prop := fetchLineRow.holds Try.pinned (OpenSpec.ofChange fetchLineWrong)

/-- 'tusklaw19.FetchApart': WHATEVER THE INPUT: true; the input reads as it did. -/
def fetchApartSpec : ChangeSpec := { name := "fetchApart", fn := fun _ => fun
  | [d1, d2, d3] => { results := [.lit (.bool true)], args := [d1, d2, d3] }
  | _ => none }
def fetchApartRow : OpenClaim := { program := "ytiaanhjnjkmnfaa", sum := "d823c587a991f53cba544768c4b9aedd07111f278b50c34475bfc1a364973a16", func := "tusk/tusklaw19.FetchApart", spec := "fetchApart", unfollowed := true, recurses := true, apart := false }
def FetchApartSaid : Prop := fetchApartRow.holds Try.pinned (OpenSpec.ofChange fetchApartSpec)

/-- ITS FALSE NEIGHBOUR: 'it returns false'. Refute it at one input. -/
def fetchApartWrong : ChangeSpec := { name := "fetchApart", fn := fun _ => fun
  | [d1, d2, d3] => { results := [.lit (.bool false)], args := [d1, d2, d3] }
  | _ => none }
def FetchApartWrongFalsely : Prop := fetchApartRow.holds Try.pinned (OpenSpec.ofChange fetchApartWrong)

/-- 'tusklaw19.FetchAsks': WHATEVER THE INPUT: true; the input reads as it did. -/
def fetchAsksSpec : ChangeSpec := { name := "fetchAsks", fn := fun _ => fun
  | [d1, d2] => { results := [.lit (.bool true)], args := [d1, d2] }
  | _ => none }
def fetchAsksRow : OpenClaim := { program := "ytiaanhjnjkmnfaa", sum := "d823c587a991f53cba544768c4b9aedd07111f278b50c34475bfc1a364973a16", func := "tusk/tusklaw19.FetchAsks", spec := "fetchAsks", unfollowed := true, recurses := true, apart := false }
def FetchAsksSaid : Prop := fetchAsksRow.holds Try.pinned (OpenSpec.ofChange fetchAsksSpec)

/-- ITS FALSE NEIGHBOUR: 'it returns false'. Refute it at one input. -/
def fetchAsksWrong : ChangeSpec := { name := "fetchAsks", fn := fun _ => fun
  | [d1, d2] => { results := [.lit (.bool false)], args := [d1, d2] }
  | _ => none }
def FetchAsksWrongFalsely : Prop := fetchAsksRow.holds Try.pinned (OpenSpec.ofChange fetchAsksWrong)

/-- 'tusklaw19.FetchRound': WHATEVER THE INPUT: true; the input reads as it did. -/
def fetchRoundSpec : ChangeSpec := { name := "fetchRound", fn := fun _ => fun
  | [d1, d2] => { results := [.lit (.bool true)], args := [d1, d2] }
  | _ => none }
def fetchRoundRow : OpenClaim := { program := "ytiaanhjnjkmnfaa", sum := "d823c587a991f53cba544768c4b9aedd07111f278b50c34475bfc1a364973a16", func := "tusk/tusklaw19.FetchRound", spec := "fetchRound", unfollowed := true, recurses := true, apart := false }
def FetchRoundSaid : Prop := fetchRoundRow.holds Try.pinned (OpenSpec.ofChange fetchRoundSpec)

/-- ITS FALSE NEIGHBOUR: 'it returns false'. Refute it at one input. -/
def fetchRoundWrong : ChangeSpec := { name := "fetchRound", fn := fun _ => fun
  | [d1, d2] => { results := [.lit (.bool false)], args := [d1, d2] }
  | _ => none }
def FetchRoundWrongFalsely : Prop := fetchRoundRow.holds Try.pinned (OpenSpec.ofChange fetchRoundWrong)

/- THE SECOND FORM. 'bulk': how many values and letters a reading holds, each counted each time it is reached (what is shared counts as often as it is met; a slice's spare places count too). A statement '..UptoSaid' is the law's where the arguments, and the package variables that the reading takes, are together of bulk at most 1048576: NARROWER than '..Said'. Prove '..Said' where nothing that the law and all that it calls make is longer than what came in: it says more and counts as full. Else prove '..UptoSaid'. A law counts once. -/
mutual
def uptoBulk {H : Type} : DataW H → Nat
  | .lit (.string bytes) => bytes.length + 1
  | .lit _ => 1
  | .nil => 1
  | .ptr d => uptoBulk d + 1
  | .slice elems spare => uptoBulkAll elems + uptoBulkAll spare + 1
  | .agg parts => uptoBulkAll parts + 1
  | .iface _ d => uptoBulk d + 1
  | .map entries => uptoBulkEntries entries + 1
  | .held _ => 1
def uptoBulkAll {H : Type} : List (DataW H) → Nat
  | [] => 0
  | d :: r => uptoBulk d + uptoBulkAll r
def uptoBulkEntries {H : Type} : List (Lit × DataW H) → Nat
  | [] => 0
  | x :: r => uptoBulkEntry x + uptoBulkEntries r
def uptoBulkEntry {H : Type} : Lit × DataW H → Nat
  | (.string bytes, d) => bytes.length + uptoBulk d + 1
  | (_, d) => uptoBulk d + 1
 end
def uptoSmall : (H : Type) → List (DataW H) → Bool := fun _ ds => decide (uptoBulkAll ds ≤ 1048576)
def OpenSpec.upto (s : _root_.Go.ChangeSpec) : _root_.Go.OpenSpec := { _root_.Go.OpenSpec.ofChange s with cond := some uptoSmall }

/-- 'tusklaw19.FetchLine', WHERE WHAT IT READS IS OF BULK AT MOST 1048576: true; the input reads as it did. -/
def fetchLineUptoRow : OpenClaim := { program := "ytiaanhjnjkmnfaa", sum := "d823c587a991f53cba544768c4b9aedd07111f278b50c34475bfc1a364973a16", func := "tusk/tusklaw19.FetchLine", spec := "fetchLine", unfollowed := true, recurses := true, apart := false, narrowed := true }
def FetchLineUptoSaid : Prop := fetchLineUptoRow.holds Try.pinned (OpenSpec.upto fetchLineSpec)

/-- 'tusklaw19.FetchApart', WHERE WHAT IT READS IS OF BULK AT MOST 1048576: true; the input reads as it did. -/
def fetchApartUptoRow : OpenClaim := { program := "ytiaanhjnjkmnfaa", sum := "d823c587a991f53cba544768c4b9aedd07111f278b50c34475bfc1a364973a16", func := "tusk/tusklaw19.FetchApart", spec := "fetchApart", unfollowed := true, recurses := true, apart := false, narrowed := true }
def FetchApartUptoSaid : Prop := fetchApartUptoRow.holds Try.pinned (OpenSpec.upto fetchApartSpec)

/-- 'tusklaw19.FetchAsks', WHERE WHAT IT READS IS OF BULK AT MOST 1048576: true; the input reads as it did. -/
def fetchAsksUptoRow : OpenClaim := { program := "ytiaanhjnjkmnfaa", sum := "d823c587a991f53cba544768c4b9aedd07111f278b50c34475bfc1a364973a16", func := "tusk/tusklaw19.FetchAsks", spec := "fetchAsks", unfollowed := true, recurses := true, apart := false, narrowed := true }
def FetchAsksUptoSaid : Prop := fetchAsksUptoRow.holds Try.pinned (OpenSpec.upto fetchAsksSpec)

/-- 'tusklaw19.FetchRound', WHERE WHAT IT READS IS OF BULK AT MOST 1048576: true; the input reads as it did. -/
def fetchRoundUptoRow : OpenClaim := { program := "ytiaanhjnjkmnfaa", sum := "d823c587a991f53cba544768c4b9aedd07111f278b50c34475bfc1a364973a16", func := "tusk/tusklaw19.FetchRound", spec := "fetchRound", unfollowed := true, recurses := true, apart := false, narrowed := true }
def FetchRoundUptoSaid : Prop := fetchRoundUptoRow.holds Try.pinned (OpenSpec.upto fetchRoundSpec)

end Rows
end Go.Proofs.Ytiaanhjnjkmnfaa
