/-
  NARROWER THAN 'FOR EVERY INPUT', by the rows' own cells (each row's printed sentence says how): MixSums: laid · MixKeys: laid · MixBare: laid · MixFront: laid.
  DERIVED. THE GIVEN ROWS OF THIS SEAT. 4 by the template 'for every input the law returns true; each argument reads behind the call as it read before'; 0 by the template 'total and deterministic' (their statements: YtflnlkaednpenaaDoorTotals.lean).
  GIVEN WITH THE SEED: the statements are not yours to turn. If you find one false, say at which input.
  Laid BY PROGRAM, IN A SANDBOX (cutbox-rows.mjs): the forced cells as the released guide's own fill.sh prints them over the translation 9dff9198eaca4cbf… (all of the seat's roots in one cut). By AI agents, Wed Nov 11 2026. No macro, syntax, notation, axiom, sorry.
-/
import Derived.Test.YtflnlkaednpenaaDoorChecked
import GoSem.Claim
import GoSem.ClaimJoined
import GoSem.ClaimMapViews
import Derived.JoinedTies
import Derived.KernelRfl
namespace Go.Proofs.YtflnlkaednpenaaDoor
/- THE CELL 'sum', in the pinned program and in every row, IS THE sha256 OF THE DUMP (.gsa) THAT YtflnlkaednpenaaDoorProg.lean LOADS. Nothing in Lean hashes anything: it is a label: what it is worth is what the hold of that sum in a sandbox is worth. -/
noncomputable def Tryd.pinned : Pinned := { name := "ytflnlkaednpenaadoor", sum := "9dff9198eaca4cbfbbb9f1e58095872b82b455d0f680a8c53832a350b0579ac4", checked := Tryd.checked }
namespace Rows
def none {H : Type} : Left H := { results := [], args := [] }

/- WHAT THE LISTED PACKAGE-LEVEL VARIABLES READ AS WHEN THE CALL BEGINS. Each datum BY PROGRAM (the guide's laid-datum.mjs) off the statement by which the dump's own 'gosem.cut.vars' lays the variable. In a bare row this is a premise. The card (YtflnlkaednpenaaDoorCards.lean) ties it to the program's text. -/
def laid_tusk_mix_firsts {H : Type} : DataW H := .agg [.lit (.int .u32 1779033703), .lit (.int .u32 3144134277), .lit (.int .u32 1013904242), .lit (.int .u32 2773480762), .lit (.int .u32 1359893119), .lit (.int .u32 2600822924), .lit (.int .u32 528734635), .lit (.int .u32 1541459225)]
def laid_tusk_mix_rows {H : Type} : DataW H := .agg [.agg [.lit (.int .i64 0), .lit (.int .i64 1), .lit (.int .i64 2), .lit (.int .i64 3), .lit (.int .i64 4), .lit (.int .i64 5), .lit (.int .i64 6), .lit (.int .i64 7), .lit (.int .i64 8), .lit (.int .i64 9), .lit (.int .i64 10), .lit (.int .i64 11), .lit (.int .i64 12), .lit (.int .i64 13), .lit (.int .i64 14), .lit (.int .i64 15)], .agg [.lit (.int .i64 14), .lit (.int .i64 10), .lit (.int .i64 4), .lit (.int .i64 8), .lit (.int .i64 9), .lit (.int .i64 15), .lit (.int .i64 13), .lit (.int .i64 6), .lit (.int .i64 1), .lit (.int .i64 12), .lit (.int .i64 0), .lit (.int .i64 2), .lit (.int .i64 11), .lit (.int .i64 7), .lit (.int .i64 5), .lit (.int .i64 3)], .agg [.lit (.int .i64 11), .lit (.int .i64 8), .lit (.int .i64 12), .lit (.int .i64 0), .lit (.int .i64 5), .lit (.int .i64 2), .lit (.int .i64 15), .lit (.int .i64 13), .lit (.int .i64 10), .lit (.int .i64 14), .lit (.int .i64 3), .lit (.int .i64 6), .lit (.int .i64 7), .lit (.int .i64 1), .lit (.int .i64 9), .lit (.int .i64 4)], .agg [.lit (.int .i64 7), .lit (.int .i64 9), .lit (.int .i64 3), .lit (.int .i64 1), .lit (.int .i64 13), .lit (.int .i64 12), .lit (.int .i64 11), .lit (.int .i64 14), .lit (.int .i64 2), .lit (.int .i64 6), .lit (.int .i64 5), .lit (.int .i64 10), .lit (.int .i64 4), .lit (.int .i64 0), .lit (.int .i64 15), .lit (.int .i64 8)], .agg [.lit (.int .i64 9), .lit (.int .i64 0), .lit (.int .i64 5), .lit (.int .i64 7), .lit (.int .i64 2), .lit (.int .i64 4), .lit (.int .i64 10), .lit (.int .i64 15), .lit (.int .i64 14), .lit (.int .i64 1), .lit (.int .i64 11), .lit (.int .i64 12), .lit (.int .i64 6), .lit (.int .i64 8), .lit (.int .i64 3), .lit (.int .i64 13)], .agg [.lit (.int .i64 2), .lit (.int .i64 12), .lit (.int .i64 6), .lit (.int .i64 10), .lit (.int .i64 0), .lit (.int .i64 11), .lit (.int .i64 8), .lit (.int .i64 3), .lit (.int .i64 4), .lit (.int .i64 13), .lit (.int .i64 7), .lit (.int .i64 5), .lit (.int .i64 15), .lit (.int .i64 14), .lit (.int .i64 1), .lit (.int .i64 9)], .agg [.lit (.int .i64 12), .lit (.int .i64 5), .lit (.int .i64 1), .lit (.int .i64 15), .lit (.int .i64 14), .lit (.int .i64 13), .lit (.int .i64 4), .lit (.int .i64 10), .lit (.int .i64 0), .lit (.int .i64 7), .lit (.int .i64 6), .lit (.int .i64 3), .lit (.int .i64 9), .lit (.int .i64 2), .lit (.int .i64 8), .lit (.int .i64 11)], .agg [.lit (.int .i64 13), .lit (.int .i64 11), .lit (.int .i64 7), .lit (.int .i64 14), .lit (.int .i64 12), .lit (.int .i64 1), .lit (.int .i64 3), .lit (.int .i64 9), .lit (.int .i64 5), .lit (.int .i64 0), .lit (.int .i64 15), .lit (.int .i64 4), .lit (.int .i64 8), .lit (.int .i64 6), .lit (.int .i64 2), .lit (.int .i64 10)], .agg [.lit (.int .i64 6), .lit (.int .i64 15), .lit (.int .i64 14), .lit (.int .i64 9), .lit (.int .i64 11), .lit (.int .i64 3), .lit (.int .i64 0), .lit (.int .i64 8), .lit (.int .i64 12), .lit (.int .i64 2), .lit (.int .i64 13), .lit (.int .i64 7), .lit (.int .i64 1), .lit (.int .i64 4), .lit (.int .i64 10), .lit (.int .i64 5)], .agg [.lit (.int .i64 10), .lit (.int .i64 2), .lit (.int .i64 8), .lit (.int .i64 4), .lit (.int .i64 7), .lit (.int .i64 6), .lit (.int .i64 1), .lit (.int .i64 5), .lit (.int .i64 15), .lit (.int .i64 11), .lit (.int .i64 9), .lit (.int .i64 14), .lit (.int .i64 3), .lit (.int .i64 12), .lit (.int .i64 13), .lit (.int .i64 0)]]

/-- 'tusklaw02.MixSums': WHATEVER THE INPUT: true; the input reads as it did. -/
def mixSumsSpec : ChangeSpec := { name := "mixSums", fn := fun _ => fun
  | [d] => { results := [.lit (.bool true)], args := [d] }
  | _ => none }
def mixSumsRow : OpenClaim := { program := "ytflnlkaednpenaadoor", sum := "9dff9198eaca4cbfbbb9f1e58095872b82b455d0f680a8c53832a350b0579ac4", func := "tusk/tusklaw02.MixSums", spec := "mixSums", named := ["tusk/mix.firsts", "tusk/mix.rows"], apart := false, laid := [("tusk/mix.firsts", laid_tusk_mix_firsts), ("tusk/mix.rows", laid_tusk_mix_rows)] }
def MixSumsSaid : Prop := mixSumsRow.holds Tryd.pinned (OpenSpec.ofChange mixSumsSpec)

/-- ITS FALSE NEIGHBOUR: 'it returns false'. Refute it at one input. -/
def mixSumsWrong : ChangeSpec := { name := "mixSums", fn := fun _ => fun
  | [d] => { results := [.lit (.bool false)], args := [d] }
  | _ => none }
def MixSumsWrongFalsely : Prop := mixSumsRow.holds Tryd.pinned (OpenSpec.ofChange mixSumsWrong)

/-- 'tusklaw02.MixKeys': WHATEVER THE INPUT: true; the input reads as it did. -/
def mixKeysSpec : ChangeSpec := { name := "mixKeys", fn := fun _ => fun
  | [d1, d2] => { results := [.lit (.bool true)], args := [d1, d2] }
  | _ => none }
def mixKeysRow : OpenClaim := { program := "ytflnlkaednpenaadoor", sum := "9dff9198eaca4cbfbbb9f1e58095872b82b455d0f680a8c53832a350b0579ac4", func := "tusk/tusklaw02.MixKeys", spec := "mixKeys", inPlace := ["internal/abi.NoEscape", "internal/bytealg.MakeNoZero"], named := ["tusk/mix.firsts", "tusk/mix.rows"], apart := false, laid := [("tusk/mix.firsts", laid_tusk_mix_firsts), ("tusk/mix.rows", laid_tusk_mix_rows)] }
def MixKeysSaid : Prop := mixKeysRow.holds Tryd.pinned (OpenSpec.ofChange mixKeysSpec)

/-- ITS FALSE NEIGHBOUR: 'it returns false'. Refute it at one input. -/
def mixKeysWrong : ChangeSpec := { name := "mixKeys", fn := fun _ => fun
  | [d1, d2] => { results := [.lit (.bool false)], args := [d1, d2] }
  | _ => none }
def MixKeysWrongFalsely : Prop := mixKeysRow.holds Tryd.pinned (OpenSpec.ofChange mixKeysWrong)

/-- 'tusklaw02.MixBare': WHATEVER THE INPUT: true; the input reads as it did. -/
def mixBareSpec : ChangeSpec := { name := "mixBare", fn := fun _ => fun
  | [d1, d2] => { results := [.lit (.bool true)], args := [d1, d2] }
  | _ => none }
def mixBareRow : OpenClaim := { program := "ytflnlkaednpenaadoor", sum := "9dff9198eaca4cbfbbb9f1e58095872b82b455d0f680a8c53832a350b0579ac4", func := "tusk/tusklaw02.MixBare", spec := "mixBare", inPlace := ["internal/abi.NoEscape", "internal/bytealg.MakeNoZero"], named := ["tusk/mix.firsts", "tusk/mix.rows"], apart := false, laid := [("tusk/mix.firsts", laid_tusk_mix_firsts), ("tusk/mix.rows", laid_tusk_mix_rows)] }
def MixBareSaid : Prop := mixBareRow.holds Tryd.pinned (OpenSpec.ofChange mixBareSpec)

/-- ITS FALSE NEIGHBOUR: 'it returns false'. Refute it at one input. -/
def mixBareWrong : ChangeSpec := { name := "mixBare", fn := fun _ => fun
  | [d1, d2] => { results := [.lit (.bool false)], args := [d1, d2] }
  | _ => none }
def MixBareWrongFalsely : Prop := mixBareRow.holds Tryd.pinned (OpenSpec.ofChange mixBareWrong)

/-- 'tusklaw02.MixFront': WHATEVER THE INPUT: true; the input reads as it did. -/
def mixFrontSpec : ChangeSpec := { name := "mixFront", fn := fun _ => fun
  | [d1, d2, d3, d4] => { results := [.lit (.bool true)], args := [d1, d2, d3, d4] }
  | _ => none }
def mixFrontRow : OpenClaim := { program := "ytflnlkaednpenaadoor", sum := "9dff9198eaca4cbfbbb9f1e58095872b82b455d0f680a8c53832a350b0579ac4", func := "tusk/tusklaw02.MixFront", spec := "mixFront", inPlace := ["internal/abi.NoEscape", "internal/bytealg.MakeNoZero"], named := ["tusk/mix.firsts", "tusk/mix.rows"], apart := false, laid := [("tusk/mix.firsts", laid_tusk_mix_firsts), ("tusk/mix.rows", laid_tusk_mix_rows)] }
def MixFrontSaid : Prop := mixFrontRow.holds Tryd.pinned (OpenSpec.ofChange mixFrontSpec)

/-- ITS FALSE NEIGHBOUR: 'it returns false'. Refute it at one input. -/
def mixFrontWrong : ChangeSpec := { name := "mixFront", fn := fun _ => fun
  | [d1, d2, d3, d4] => { results := [.lit (.bool false)], args := [d1, d2, d3, d4] }
  | _ => none }
def MixFrontWrongFalsely : Prop := mixFrontRow.holds Tryd.pinned (OpenSpec.ofChange mixFrontWrong)

/- THE SECOND FORM. 'bulk': how many values and letters a reading holds, each counted each time it is reached (what is shared counts as often as it is met; a slice's spare places count too). A statement '..UptoSaid' is the law's where the arguments, and the package variables that the reading takes, are together of bulk at most 1048576: NARROWER than '..Said'. Prove '..Said' where nothing that the law and all that it calls make is longer than what came in: it says more and counts as full. Else prove '..UptoSaid'. A law counts once. -/
mutual
def uptoBulk {H : Type} : DataW H → Nat
  | .lit (.string bytes) => bytes.length + 1
  | .lit _ => 1
  | .nil => 1
  | .ptr d => uptoBulk d + 1
  | .slice elems spare => uptoBulkAll elems + uptoBulkAll spare + 1
  | .agg parts => uptoBulkAll parts + 1
  | .iface _ d => uptoBulk d + 1
  | .map entries => uptoBulkEntries entries + 1
  | .held _ => 1
def uptoBulkAll {H : Type} : List (DataW H) → Nat
  | [] => 0
  | d :: r => uptoBulk d + uptoBulkAll r
def uptoBulkEntries {H : Type} : List (Lit × DataW H) → Nat
  | [] => 0
  | x :: r => uptoBulkEntry x + uptoBulkEntries r
def uptoBulkEntry {H : Type} : Lit × DataW H → Nat
  | (.string bytes, d) => bytes.length + uptoBulk d + 1
  | (_, d) => uptoBulk d + 1
 end
def uptoSmall : (H : Type) → List (DataW H) → Bool := fun _ ds => decide (uptoBulkAll ds ≤ 1048576)
def OpenSpec.upto (s : _root_.Go.ChangeSpec) : _root_.Go.OpenSpec := { _root_.Go.OpenSpec.ofChange s with cond := some uptoSmall }

/-- 'tusklaw02.MixSums', WHERE WHAT IT READS IS OF BULK AT MOST 1048576: true; the input reads as it did. -/
def mixSumsUptoRow : OpenClaim := { program := "ytflnlkaednpenaadoor", sum := "9dff9198eaca4cbfbbb9f1e58095872b82b455d0f680a8c53832a350b0579ac4", func := "tusk/tusklaw02.MixSums", spec := "mixSums", named := ["tusk/mix.firsts", "tusk/mix.rows"], apart := false, laid := [("tusk/mix.firsts", laid_tusk_mix_firsts), ("tusk/mix.rows", laid_tusk_mix_rows)], narrowed := true }
def MixSumsUptoSaid : Prop := mixSumsUptoRow.holds Tryd.pinned (OpenSpec.upto mixSumsSpec)

/-- 'tusklaw02.MixKeys', WHERE WHAT IT READS IS OF BULK AT MOST 1048576: true; the input reads as it did. -/
def mixKeysUptoRow : OpenClaim := { program := "ytflnlkaednpenaadoor", sum := "9dff9198eaca4cbfbbb9f1e58095872b82b455d0f680a8c53832a350b0579ac4", func := "tusk/tusklaw02.MixKeys", spec := "mixKeys", inPlace := ["internal/abi.NoEscape", "internal/bytealg.MakeNoZero"], named := ["tusk/mix.firsts", "tusk/mix.rows"], apart := false, laid := [("tusk/mix.firsts", laid_tusk_mix_firsts), ("tusk/mix.rows", laid_tusk_mix_rows)], narrowed := true }
def MixKeysUptoSaid : Prop := mixKeysUptoRow.holds Tryd.pinned (OpenSpec.upto mixKeysSpec)

/-- 'tusklaw02.MixBare', WHERE WHAT IT READS IS OF BULK AT MOST 1048576: true; the input reads as it did. -/
def mixBareUptoRow : OpenClaim := { program := "ytflnlkaednpenaadoor", sum := "9dff9198eaca4cbfbbb9f1e58095872b82b455d0f680a8c53832a350b0579ac4", func := "tusk/tusklaw02.MixBare", spec := "mixBare", inPlace := ["internal/abi.NoEscape", "internal/bytealg.MakeNoZero"], named := ["tusk/mix.firsts", "tusk/mix.rows"], apart := false, laid := [("tusk/mix.firsts", laid_tusk_mix_firsts), ("tusk/mix.rows", laid_tusk_mix_rows)], narrowed := true }
def MixBareUptoSaid : Prop := mixBareUptoRow.holds Tryd.pinned (OpenSpec.upto mixBareSpec)

/-- 'tusklaw02.MixFront', WHERE WHAT IT READS IS OF BULK AT MOST 1048576: true; the input reads as it did. -/
def mixFrontUptoRow : OpenClaim := { program := "ytflnlkaednpenaadoor", sum := "9dff9198eaca4cbfbbb9f1e58095872b82b455d0f680a8c53832a350b0579ac4", func := "tusk/tusklaw02.MixFront", spec := "mixFront", inPlace := ["internal/abi.NoEscape", "internal/bytealg.MakeNoZero"], named := ["tusk/mix.firsts", "tusk/mix.rows"], apart := false, laid := [("tusk/mix.firsts", laid_tusk_mix_firsts), ("tusk/mix.rows", laid_tusk_mix_rows)], narrowed := true }
def MixFrontUptoSaid : Prop := mixFrontUptoRow.holds Tryd.pinned (OpenSpec.upto mixFrontSpec)

end Rows
end Go.Proofs.YtflnlkaednpenaaDoor
