/-
  No cell of these rows narrows 'for every input' (looked for: loops, veiled, ifaces, maps, wideKeys, modest, calm, conditions, laid).
  DERIVED. THE GIVEN ROWS OF THIS SEAT. 4 by the template 'for every input the law returns true; each argument reads behind the call as it read before'; 0 by the template 'total and deterministic' (their statements: YtjmloaegjmdeiaaTotals.lean).
  GIVEN WITH THE SEED: the statements are not yours to turn. If you find one false, say at which input.
  Laid BY PROGRAM, IN A SANDBOX (cutbox-rows.mjs): the forced cells as the released guide's own fill.sh prints them over the translation d6bc23103279c708… (all of the seat's roots in one cut). By AI agents, Wed Nov 11 2026. No macro, syntax, notation, axiom, sorry.
-/
import Derived.Test.YtjmloaegjmdeiaaChecked
import GoSem.Claim
import GoSem.ClaimJoined
import GoSem.ClaimMapViews
import Derived.JoinedTies
import Derived.KernelRfl
namespace Go.Proofs.Ytjmloaegjmdeiaa
/- THE CELL 'sum', in the pinned program and in every row, IS THE sha256 OF THE DUMP (.gsa) THAT YtjmloaegjmdeiaaProg.lean LOADS. Nothing in Lean hashes anything: it is a label: what it is worth is what the hold of that sum in a sandbox is worth. -/
noncomputable def Try.pinned : Pinned := { name := "ytjmloaegjmdeiaa", sum := "d6bc23103279c708db2f56ebcc11f54289f54cff4adaf15f5479676afdb5ac08", checked := Try.checked }
namespace Rows
def none {H : Type} : Left H := { results := [], args := [] }

/-- 'tusklaw18.PaceDoes': WHATEVER THE INPUT: true; the input reads as it did. -/
def paceDoesSpec : ChangeSpec := { name := "paceDoes", fn := fun _ => fun
  | [d1, d2, d3, d4] => { results := [.lit (.bool true)], args := [d1, d2, d3, d4] }
  | _ => none }
def paceDoesRow : OpenClaim := { program := "ytjmloaegjmdeiaa", sum := "d6bc23103279c708db2f56ebcc11f54289f54cff4adaf15f5479676afdb5ac08", func := "tusk/tusklaw18.PaceDoes", spec := "paceDoes", apart := false }
def PaceDoesSaid : Prop := paceDoesRow.holds Try.pinned (OpenSpec.ofChange paceDoesSpec)

/-- ITS FALSE NEIGHBOUR: 'it returns false'. Refute it at one input. -/
def paceDoesWrong : ChangeSpec := { name := "paceDoes", fn := fun _ => fun
  | [d1, d2, d3, d4] => { results := [.lit (.bool false)], args := [d1, d2, d3, d4] }
  | _ => none }
def PaceDoesWrongFalsely : Prop := paceDoesRow.holds Try.pinned (OpenSpec.ofChange paceDoesWrong)

/-- 'tusklaw18.PaceRises': WHATEVER THE INPUT: true; the input reads as it did. -/
def paceRisesSpec : ChangeSpec := { name := "paceRises", fn := fun _ => fun
  | [d1, d2, d3] => { results := [.lit (.bool true)], args := [d1, d2, d3] }
  | _ => none }
def paceRisesRow : OpenClaim := { program := "ytjmloaegjmdeiaa", sum := "d6bc23103279c708db2f56ebcc11f54289f54cff4adaf15f5479676afdb5ac08", func := "tusk/tusklaw18.PaceRises", spec := "paceRises", apart := false }
def PaceRisesSaid : Prop := paceRisesRow.holds Try.pinned (OpenSpec.ofChange paceRisesSpec)

/-- ITS FALSE NEIGHBOUR: 'it returns false'. Refute it at one input. -/
def paceRisesWrong : ChangeSpec := { name := "paceRises", fn := fun _ => fun
  | [d1, d2, d3] => { results := [.lit (.bool false)], args := [d1, d2, d3] }
  | _ => none }
def PaceRisesWrongFalsely : Prop := paceRisesRow.holds Try.pinned (OpenSpec.ofChange paceRisesWrong)

/-- 'tusklaw18.PaceLeaders': WHATEVER THE INPUT: true; the input reads as it did. -/
def paceLeadersSpec : ChangeSpec := { name := "paceLeaders", fn := fun _ => fun
  | [d1, d2] => { results := [.lit (.bool true)], args := [d1, d2] }
  | _ => none }
def paceLeadersRow : OpenClaim := { program := "ytjmloaegjmdeiaa", sum := "d6bc23103279c708db2f56ebcc11f54289f54cff4adaf15f5479676afdb5ac08", func := "tusk/tusklaw18.PaceLeaders", spec := "paceLeaders", apart := false }
def PaceLeadersSaid : Prop := paceLeadersRow.holds Try.pinned (OpenSpec.ofChange paceLeadersSpec)

/-- ITS FALSE NEIGHBOUR: 'it returns false'. Refute it at one input. -/
def paceLeadersWrong : ChangeSpec := { name := "paceLeaders", fn := fun _ => fun
  | [d1, d2] => { results := [.lit (.bool false)], args := [d1, d2] }
  | _ => none }
def PaceLeadersWrongFalsely : Prop := paceLeadersRow.holds Try.pinned (OpenSpec.ofChange paceLeadersWrong)

/-- 'tusklaw18.PaceWaits': WHATEVER THE INPUT: true; the input reads as it did. -/
def paceWaitsSpec : ChangeSpec := { name := "paceWaits", fn := fun _ => fun
  | [d1, d2] => { results := [.lit (.bool true)], args := [d1, d2] }
  | _ => none }
def paceWaitsRow : OpenClaim := { program := "ytjmloaegjmdeiaa", sum := "d6bc23103279c708db2f56ebcc11f54289f54cff4adaf15f5479676afdb5ac08", func := "tusk/tusklaw18.PaceWaits", spec := "paceWaits", apart := false }
def PaceWaitsSaid : Prop := paceWaitsRow.holds Try.pinned (OpenSpec.ofChange paceWaitsSpec)

/-- ITS FALSE NEIGHBOUR: 'it returns false'. Refute it at one input. -/
def paceWaitsWrong : ChangeSpec := { name := "paceWaits", fn := fun _ => fun
  | [d1, d2] => { results := [.lit (.bool false)], args := [d1, d2] }
  | _ => none }
def PaceWaitsWrongFalsely : Prop := paceWaitsRow.holds Try.pinned (OpenSpec.ofChange paceWaitsWrong)

/- THE SECOND FORM. 'bulk': how many values and letters a reading holds, each counted each time it is reached (what is shared counts as often as it is met; a slice's spare places count too). A statement '..UptoSaid' is the law's where the arguments, and the package variables that the reading takes, are together of bulk at most 1048576: NARROWER than '..Said'. Prove '..Said' where nothing that the law and all that it calls make is longer than what came in: it says more and counts as full. Else prove '..UptoSaid'. A law counts once. -/
mutual
def uptoBulk {H : Type} : DataW H → Nat
  | .lit (.string bytes) => bytes.length + 1
  | .lit _ => 1
  | .nil => 1
  | .ptr d => uptoBulk d + 1
  | .slice elems spare => uptoBulkAll elems + uptoBulkAll spare + 1
  | .agg parts => uptoBulkAll parts + 1
  | .iface _ d => uptoBulk d + 1
  | .map entries => uptoBulkEntries entries + 1
  | .held _ => 1
def uptoBulkAll {H : Type} : List (DataW H) → Nat
  | [] => 0
  | d :: r => uptoBulk d + uptoBulkAll r
def uptoBulkEntries {H : Type} : List (Lit × DataW H) → Nat
  | [] => 0
  | x :: r => uptoBulkEntry x + uptoBulkEntries r
def uptoBulkEntry {H : Type} : Lit × DataW H → Nat
  | (.string bytes, d) => bytes.length + uptoBulk d + 1
  | (_, d) => uptoBulk d + 1
 end
def uptoSmall : (H : Type) → List (DataW H) → Bool := fun _ ds => decide (uptoBulkAll ds ≤ 1048576)
def OpenSpec.upto (s : _root_.Go.ChangeSpec) : _root_.Go.OpenSpec := { _root_.Go.OpenSpec.ofChange s with cond := some uptoSmall }

/-- 'tusklaw18.PaceDoes', WHERE WHAT IT READS IS OF BULK AT MOST 1048576: true; the input reads as it did. -/
def paceDoesUptoRow : OpenClaim := { program := "ytjmloaegjmdeiaa", sum := "d6bc23103279c708db2f56ebcc11f54289f54cff4adaf15f5479676afdb5ac08", func := "tusk/tusklaw18.PaceDoes", spec := "paceDoes", apart := false, narrowed := true }
def PaceDoesUptoSaid : Prop := paceDoesUptoRow.holds Try.pinned (OpenSpec.upto paceDoesSpec)

/-- 'tusklaw18.PaceRises', WHERE WHAT IT READS IS OF BULK AT MOST 1048576: true; the input reads as it did. -/
def paceRisesUptoRow : OpenClaim := { program := "ytjmloaegjmdeiaa", sum := "d6bc23103279c708db2f56ebcc11f54289f54cff4adaf15f5479676afdb5ac08", func := "tusk/tusklaw18.PaceRises", spec := "paceRises", apart := false, narrowed := true }
def PaceRisesUptoSaid : Prop := paceRisesUptoRow.holds Try.pinned (OpenSpec.upto paceRisesSpec)

/-- 'tusklaw18.PaceLeaders', WHERE WHAT IT READS IS OF BULK AT MOST 1048576: true; the input reads as it did. -/
def paceLeadersUptoRow : OpenClaim := { program := "ytjmloaegjmdeiaa", sum := "d6bc23103279c708db2f56ebcc11f54289f54cff4adaf15f5479676afdb5ac08", func := "tusk/tusklaw18.PaceLeaders", spec := "paceLeaders", apart := false, narrowed := true }
def PaceLeadersUptoSaid : Prop := paceLeadersUptoRow.holds Try.pinned (OpenSpec.upto paceLeadersSpec)

/-- 'tusklaw18.PaceWaits', WHERE WHAT IT READS IS OF BULK AT MOST 1048576: true; the input reads as it did. -/
def paceWaitsUptoRow : OpenClaim := { program := "ytjmloaegjmdeiaa", sum := "d6bc23103279c708db2f56ebcc11f54289f54cff4adaf15f5479676afdb5ac08", func := "tusk/tusklaw18.PaceWaits", spec := "paceWaits", apart := false, narrowed := true }
def PaceWaitsUptoSaid : Prop := paceWaitsUptoRow.holds Try.pinned (OpenSpec.upto paceWaitsSpec)

end Rows
end Go.Proofs.Ytjmloaegjmdeiaa
