/-
  DERIVED. GIVEN WITH THE SEED: THE CARDS: each row of YtflnlkaednpenaaDoorRows.lean that lists a variable, with what it lists TIED to the program's text (the seventh form; the later family's looks); each row that meets fmt, with fmt's text TOLD by the authors' own Lean function (tested against real Go, not proved from fmt's source: count such statements apart). THE CARD IS WHAT COUNTS. Prove the row's statement (the work); the ties are given (YtflnlkaednpenaaDoorTie.lean); close each card by the builder's one call (the guide's Derived/Test/ToyasCard.lean, 'card_holds'). Laid BY PROGRAM, IN A SANDBOX (cutbox-door.mjs). By AI agents, Wed Nov 11 2026. No macro, syntax, notation, axiom, sorry.
-/
import Derived.Test.YtflnlkaednpenaaDoorRows
import GoSem.ClaimSeven
namespace Go.Proofs.YtflnlkaednpenaaDoor
namespace Rows

/-- THE TIED CARD OF 'tusklaw02.MixSums'. -/
def mixSumsCard : Claim7 := { stood := { row := mixSumsRow, standIns := [], harness := (true, "464b7f9808a76d76ca289e8541aa500fe48cf32965709a10a78655848f99aa96"), looks := false }, kinds := [], alts := [], laidByText := true, laidKinds := [.widerDeep, .data], laidTests := true, laidLooks := .later }
def MixSumsCardSaid : Prop := Claim7.holds Tryd.pinned (.plain (OpenSpec.ofChange mixSumsSpec)) mixSumsCard

/-- THE TIED CARD OF 'tusklaw02.MixKeys'. -/
def mixKeysCard : Claim7 := { stood := { row := mixKeysRow, standIns := [], harness := (true, "464b7f9808a76d76ca289e8541aa500fe48cf32965709a10a78655848f99aa96"), looks := false }, kinds := [], alts := [], laidByText := true, laidKinds := [.widerDeep, .data], laidTests := true, laidLooks := .later }
def MixKeysCardSaid : Prop := Claim7.holds Tryd.pinned (.plain (OpenSpec.ofChange mixKeysSpec)) mixKeysCard

/-- THE TIED CARD OF 'tusklaw02.MixBare'. -/
def mixBareCard : Claim7 := { stood := { row := mixBareRow, standIns := [], harness := (true, "464b7f9808a76d76ca289e8541aa500fe48cf32965709a10a78655848f99aa96"), looks := false }, kinds := [], alts := [], laidByText := true, laidKinds := [.widerDeep, .data], laidTests := true, laidLooks := .later }
def MixBareCardSaid : Prop := Claim7.holds Tryd.pinned (.plain (OpenSpec.ofChange mixBareSpec)) mixBareCard

/-- THE TIED CARD OF 'tusklaw02.MixFront'. -/
def mixFrontCard : Claim7 := { stood := { row := mixFrontRow, standIns := [], harness := (true, "464b7f9808a76d76ca289e8541aa500fe48cf32965709a10a78655848f99aa96"), looks := false }, kinds := [], alts := [], laidByText := true, laidKinds := [.widerDeep, .data], laidTests := true, laidLooks := .later }
def MixFrontCardSaid : Prop := Claim7.holds Tryd.pinned (.plain (OpenSpec.ofChange mixFrontSpec)) mixFrontCard

/-- THE SECOND FORM's CARD OF 'tusklaw02.MixSums'. -/
def mixSumsUptoCard : Claim7 := { stood := { row := mixSumsUptoRow, standIns := [], harness := (true, "464b7f9808a76d76ca289e8541aa500fe48cf32965709a10a78655848f99aa96"), looks := false }, kinds := [], alts := [], laidByText := true, laidKinds := [.widerDeep, .data], laidTests := true, laidLooks := .later }
def MixSumsUptoCardSaid : Prop := Claim7.holds Tryd.pinned (.plain (OpenSpec.upto mixSumsSpec)) mixSumsUptoCard

/-- THE SECOND FORM's CARD OF 'tusklaw02.MixKeys'. -/
def mixKeysUptoCard : Claim7 := { stood := { row := mixKeysUptoRow, standIns := [], harness := (true, "464b7f9808a76d76ca289e8541aa500fe48cf32965709a10a78655848f99aa96"), looks := false }, kinds := [], alts := [], laidByText := true, laidKinds := [.widerDeep, .data], laidTests := true, laidLooks := .later }
def MixKeysUptoCardSaid : Prop := Claim7.holds Tryd.pinned (.plain (OpenSpec.upto mixKeysSpec)) mixKeysUptoCard

/-- THE SECOND FORM's CARD OF 'tusklaw02.MixBare'. -/
def mixBareUptoCard : Claim7 := { stood := { row := mixBareUptoRow, standIns := [], harness := (true, "464b7f9808a76d76ca289e8541aa500fe48cf32965709a10a78655848f99aa96"), looks := false }, kinds := [], alts := [], laidByText := true, laidKinds := [.widerDeep, .data], laidTests := true, laidLooks := .later }
def MixBareUptoCardSaid : Prop := Claim7.holds Tryd.pinned (.plain (OpenSpec.upto mixBareSpec)) mixBareUptoCard

/-- THE SECOND FORM's CARD OF 'tusklaw02.MixFront'. -/
def mixFrontUptoCard : Claim7 := { stood := { row := mixFrontUptoRow, standIns := [], harness := (true, "464b7f9808a76d76ca289e8541aa500fe48cf32965709a10a78655848f99aa96"), looks := false }, kinds := [], alts := [], laidByText := true, laidKinds := [.widerDeep, .data], laidTests := true, laidLooks := .later }
def MixFrontUptoCardSaid : Prop := Claim7.holds Tryd.pinned (.plain (OpenSpec.upto mixFrontSpec)) mixFrontUptoCard
end Rows
end Go.Proofs.YtflnlkaednpenaaDoor
