/-
  No cell of these rows narrows 'for every input' (looked for: loops, veiled, ifaces, maps, wideKeys, modest, calm, conditions, laid).
  DERIVED. THE GIVEN ROWS OF THIS SEAT. 5 by the template 'for every input the law returns true; each argument reads behind the call as it read before'; 0 by the template 'total and deterministic' (their statements: YtkfhajdkpbpkdaaTotals.lean).
  GIVEN WITH THE SEED: the statements are not yours to turn. If you find one false, say at which input.
  Laid BY PROGRAM, IN A SANDBOX (cutbox-rows.mjs): the forced cells as the released guide's own fill.sh prints them over the translation 51e8b02eb29a1dc3… (all of the seat's roots in one cut). By AI agents, Wed Nov 11 2026. No macro, syntax, notation, axiom, sorry.
-/
import Derived.Test.YtkfhajdkpbpkdaaChecked
import GoSem.Claim
import GoSem.ClaimJoined
import GoSem.ClaimMapViews
import Derived.JoinedTies
import Derived.KernelRfl
namespace Go.Proofs.Ytkfhajdkpbpkdaa
/- THE CELL 'sum', in the pinned program and in every row, IS THE sha256 OF THE DUMP (.gsa) THAT YtkfhajdkpbpkdaaProg.lean LOADS. Nothing in Lean hashes anything: it is a label: what it is worth is what the hold of that sum in a sandbox is worth. -/
noncomputable def Try.pinned : Pinned := { name := "ytkfhajdkpbpkdaa", sum := "51e8b02eb29a1dc352e0a00e63a72b7ea801386dd1aa0f4170eab8d6bd9c4e1c", checked := Try.checked }
namespace Rows
def none {H : Type} : Left H := { results := [], args := [] }

/-- 'tusklaw21.WavesPlans': WHATEVER THE INPUT: true; the input reads as it did. -/
def wavesPlansSpec : ChangeSpec := { name := "wavesPlans", fn := fun _ => fun
  | [d] => { results := [.lit (.bool true)], args := [d] }
  | _ => none }
def wavesPlansRow : OpenClaim := { program := "ytkfhajdkpbpkdaa", sum := "51e8b02eb29a1dc352e0a00e63a72b7ea801386dd1aa0f4170eab8d6bd9c4e1c", func := "tusk/tusklaw21.WavesPlans", spec := "wavesPlans", unfollowed := true, recurses := true, apart := false }
def WavesPlansSaid : Prop := wavesPlansRow.holds Try.pinned (OpenSpec.ofChange wavesPlansSpec)

/-- ITS FALSE NEIGHBOUR: 'it returns false'. Refute it at one input. -/
def wavesPlansWrong : ChangeSpec := { name := "wavesPlans", fn := fun _ => fun
  | [d] => { results := [.lit (.bool false)], args := [d] }
  | _ => none }
def WavesPlansWrongFalsely : Prop := wavesPlansRow.holds Try.pinned (OpenSpec.ofChange wavesPlansWrong)

/-- 'tusklaw21.WavesChecks': WHATEVER THE INPUT: true; the input reads as it did. -/
def wavesChecksSpec : ChangeSpec := { name := "wavesChecks", fn := fun _ => fun
  | [d1, d2] => { results := [.lit (.bool true)], args := [d1, d2] }
  | _ => none }
def wavesChecksRow : OpenClaim := { program := "ytkfhajdkpbpkdaa", sum := "51e8b02eb29a1dc352e0a00e63a72b7ea801386dd1aa0f4170eab8d6bd9c4e1c", func := "tusk/tusklaw21.WavesChecks", spec := "wavesChecks", unfollowed := true, recurses := true, apart := false }
def WavesChecksSaid : Prop := wavesChecksRow.holds Try.pinned (OpenSpec.ofChange wavesChecksSpec)

/-- ITS FALSE NEIGHBOUR: 'it returns false'. Refute it at one input. -/
def wavesChecksWrong : ChangeSpec := { name := "wavesChecks", fn := fun _ => fun
  | [d1, d2] => { results := [.lit (.bool false)], args := [d1, d2] }
  | _ => none }
def WavesChecksWrongFalsely : Prop := wavesChecksRow.holds Try.pinned (OpenSpec.ofChange wavesChecksWrong)

/-- 'tusklaw21.WavesRight': WHATEVER THE INPUT: true; the input reads as it did. -/
def wavesRightSpec : ChangeSpec := { name := "wavesRight", fn := fun _ => fun
  | [d] => { results := [.lit (.bool true)], args := [d] }
  | _ => none }
def wavesRightRow : OpenClaim := { program := "ytkfhajdkpbpkdaa", sum := "51e8b02eb29a1dc352e0a00e63a72b7ea801386dd1aa0f4170eab8d6bd9c4e1c", func := "tusk/tusklaw21.WavesRight", spec := "wavesRight", unfollowed := true, recurses := true, apart := false }
def WavesRightSaid : Prop := wavesRightRow.holds Try.pinned (OpenSpec.ofChange wavesRightSpec)

/-- ITS FALSE NEIGHBOUR: 'it returns false'. Refute it at one input. -/
def wavesRightWrong : ChangeSpec := { name := "wavesRight", fn := fun _ => fun
  | [d] => { results := [.lit (.bool false)], args := [d] }
  | _ => none }
def WavesRightWrongFalsely : Prop := wavesRightRow.holds Try.pinned (OpenSpec.ofChange wavesRightWrong)

/-- 'tusklaw21.WavesCut': WHATEVER THE INPUT: true; the input reads as it did. -/
def wavesCutSpec : ChangeSpec := { name := "wavesCut", fn := fun _ => fun
  | [d1, d2] => { results := [.lit (.bool true)], args := [d1, d2] }
  | _ => none }
def wavesCutRow : OpenClaim := { program := "ytkfhajdkpbpkdaa", sum := "51e8b02eb29a1dc352e0a00e63a72b7ea801386dd1aa0f4170eab8d6bd9c4e1c", func := "tusk/tusklaw21.WavesCut", spec := "wavesCut", unfollowed := true, recurses := true, apart := false }
def WavesCutSaid : Prop := wavesCutRow.holds Try.pinned (OpenSpec.ofChange wavesCutSpec)

/-- ITS FALSE NEIGHBOUR: 'it returns false'. Refute it at one input. -/
def wavesCutWrong : ChangeSpec := { name := "wavesCut", fn := fun _ => fun
  | [d1, d2] => { results := [.lit (.bool false)], args := [d1, d2] }
  | _ => none }
def WavesCutWrongFalsely : Prop := wavesCutRow.holds Try.pinned (OpenSpec.ofChange wavesCutWrong)

/-- 'tusklaw21.WavesFront': WHATEVER THE INPUT: true; the input reads as it did. -/
def wavesFrontSpec : ChangeSpec := { name := "wavesFront", fn := fun _ => fun
  | [d1, d2, d3] => { results := [.lit (.bool true)], args := [d1, d2, d3] }
  | _ => none }
def wavesFrontRow : OpenClaim := { program := "ytkfhajdkpbpkdaa", sum := "51e8b02eb29a1dc352e0a00e63a72b7ea801386dd1aa0f4170eab8d6bd9c4e1c", func := "tusk/tusklaw21.WavesFront", spec := "wavesFront", unfollowed := true, recurses := true, apart := false }
def WavesFrontSaid : Prop := wavesFrontRow.holds Try.pinned (OpenSpec.ofChange wavesFrontSpec)

/-- ITS FALSE NEIGHBOUR: 'it returns false'. Refute it at one input. -/
def wavesFrontWrong : ChangeSpec := { name := "wavesFront", fn := fun _ => fun
  | [d1, d2, d3] => { results := [.lit (.bool false)], args := [d1, d2, d3] }
  | _ => none }
def WavesFrontWrongFalsely : Prop := wavesFrontRow.holds Try.pinned (OpenSpec.ofChange wavesFrontWrong)

/- THE SECOND FORM. 'bulk': how many values and letters a reading holds, each counted each time it is reached (what is shared counts as often as it is met; a slice's spare places count too). A statement '..UptoSaid' is the law's where the arguments, and the package variables that the reading takes, are together of bulk at most 1048576: NARROWER than '..Said'. Prove '..Said' where nothing that the law and all that it calls make is longer than what came in: it says more and counts as full. Else prove '..UptoSaid'. A law counts once. -/
mutual
def uptoBulk {H : Type} : DataW H → Nat
  | .lit (.string bytes) => bytes.length + 1
  | .lit _ => 1
  | .nil => 1
  | .ptr d => uptoBulk d + 1
  | .slice elems spare => uptoBulkAll elems + uptoBulkAll spare + 1
  | .agg parts => uptoBulkAll parts + 1
  | .iface _ d => uptoBulk d + 1
  | .map entries => uptoBulkEntries entries + 1
  | .held _ => 1
def uptoBulkAll {H : Type} : List (DataW H) → Nat
  | [] => 0
  | d :: r => uptoBulk d + uptoBulkAll r
def uptoBulkEntries {H : Type} : List (Lit × DataW H) → Nat
  | [] => 0
  | x :: r => uptoBulkEntry x + uptoBulkEntries r
def uptoBulkEntry {H : Type} : Lit × DataW H → Nat
  | (.string bytes, d) => bytes.length + uptoBulk d + 1
  | (_, d) => uptoBulk d + 1
 end
def uptoSmall : (H : Type) → List (DataW H) → Bool := fun _ ds => decide (uptoBulkAll ds ≤ 1048576)
def OpenSpec.upto (s : _root_.Go.ChangeSpec) : _root_.Go.OpenSpec := { _root_.Go.OpenSpec.ofChange s with cond := some uptoSmall }

/-- 'tusklaw21.WavesPlans', WHERE WHAT IT READS IS OF BULK AT MOST 1048576: true; the input reads as it did. -/
def wavesPlansUptoRow : OpenClaim := { program := "ytkfhajdkpbpkdaa", sum := "51e8b02eb29a1dc352e0a00e63a72b7ea801386dd1aa0f4170eab8d6bd9c4e1c", func := "tusk/tusklaw21.WavesPlans", spec := "wavesPlans", unfollowed := true, recurses := true, apart := false, narrowed := true }
def WavesPlansUptoSaid : Prop := wavesPlansUptoRow.holds Try.pinned (OpenSpec.upto wavesPlansSpec)

/-- 'tusklaw21.WavesChecks', WHERE WHAT IT READS IS OF BULK AT MOST 1048576: true; the input reads as it did. -/
def wavesChecksUptoRow : OpenClaim := { program := "ytkfhajdkpbpkdaa", sum := "51e8b02eb29a1dc352e0a00e63a72b7ea801386dd1aa0f4170eab8d6bd9c4e1c", func := "tusk/tusklaw21.WavesChecks", spec := "wavesChecks", unfollowed := true, recurses := true, apart := false, narrowed := true }
def WavesChecksUptoSaid : Prop := wavesChecksUptoRow.holds Try.pinned (OpenSpec.upto wavesChecksSpec)

/-- 'tusklaw21.WavesRight', WHERE WHAT IT READS IS OF BULK AT MOST 1048576: true; the input reads as it did. -/
def wavesRightUptoRow : OpenClaim := { program := "ytkfhajdkpbpkdaa", sum := "51e8b02eb29a1dc352e0a00e63a72b7ea801386dd1aa0f4170eab8d6bd9c4e1c", func := "tusk/tusklaw21.WavesRight", spec := "wavesRight", unfollowed := true, recurses := true, apart := false, narrowed := true }
def WavesRightUptoSaid : Prop := wavesRightUptoRow.holds Try.pinned (OpenSpec.upto wavesRightSpec)

/-- 'tusklaw21.WavesCut', WHERE WHAT IT READS IS OF BULK AT MOST 1048576: true; the input reads as it did. -/
def wavesCutUptoRow : OpenClaim := { program := "ytkfhajdkpbpkdaa", sum := "51e8b02eb29a1dc352e0a00e63a72b7ea801386dd1aa0f4170eab8d6bd9c4e1c", func := "tusk/tusklaw21.WavesCut", spec := "wavesCut", unfollowed := true, recurses := true, apart := false, narrowed := true }
def WavesCutUptoSaid : Prop := wavesCutUptoRow.holds Try.pinned (OpenSpec.upto wavesCutSpec)

/-- 'tusklaw21.WavesFront', WHERE WHAT IT READS IS OF BULK AT MOST 1048576: true; the input reads as it did. -/
def wavesFrontUptoRow : OpenClaim := { program := "ytkfhajdkpbpkdaa", sum := "51e8b02eb29a1dc352e0a00e63a72b7ea801386dd1aa0f4170eab8d6bd9c4e1c", func := "tusk/tusklaw21.WavesFront", spec := "wavesFront", unfollowed := true, recurses := true, apart := false, narrowed := true }
def WavesFrontUptoSaid : Prop := wavesFrontUptoRow.holds Try.pinned (OpenSpec.upto wavesFrontSpec)

end Rows
end Go.Proofs.Ytkfhajdkpbpkdaa
