/-
  DERIVED. GIVEN WITH THE SEED: THE CARDS: each row of YtmfipefpmjcddaaGreatDoorRows.lean that lists a variable, with what it lists TIED to the program's text (the seventh form; the later family's looks); each row that meets fmt, with fmt's text TOLD by the authors' own Lean function (tested against real Go, not proved from fmt's source: count such statements apart). THE CARD IS WHAT COUNTS. Prove the row's statement (the work); the ties are given (YtmfipefpmjcddaaGreatDoorTie.lean); close each card by the builder's one call (the guide's Derived/Test/ToyasCard.lean, 'card_holds'). Laid BY PROGRAM, IN A SANDBOX (cutbox-door.mjs). By AI agents, Wed Nov 11 2026. No macro, syntax, notation, axiom, sorry.
-/
import Derived.Test.YtmfipefpmjcddaaGreatDoorRows
import GoSem.ClaimSeven
namespace Go.Proofs.YtmfipefpmjcddaaGreatDoor
namespace Rows

/-- THE TIED CARD OF 'laws.FnExactCheckAnswer'. -/
def fnExactCheckAnswerCard : Claim7 := { stood := { row := fnExactCheckAnswerRow, standIns := [], harness := (true, "be778d14ecad12a3a9f18dd0d352f01528e31bd0121fa0d2ff423f90a7613102"), looks := false }, kinds := [], alts := [], laidByText := true, laidKinds := [.data, .data, .data], laidTests := true, laidLooks := .later }
def FnExactCheckAnswerCardSaid : Prop := Claim7.holds Tryz.pinned (.plain (OpenSpec.ofChange fnExactCheckAnswerSpec)) fnExactCheckAnswerCard

/-- THE TIED CARD OF 'laws.FnExactOpsOf'. -/
def fnExactOpsOfCard : Claim7 := { stood := { row := fnExactOpsOfRow, standIns := [], harness := (true, "be778d14ecad12a3a9f18dd0d352f01528e31bd0121fa0d2ff423f90a7613102"), looks := false }, kinds := [], alts := [], laidByText := true, laidKinds := [.data, .pinned], laidTests := true, laidLooks := .later }
def FnExactOpsOfCardSaid : Prop := Claim7.holds Tryz.pinned (.plain (OpenSpec.ofChange fnExactOpsOfSpec)) fnExactOpsOfCard

/-- THE SECOND FORM's CARD OF 'laws.FnExactCheckAnswer'. -/
def fnExactCheckAnswerUptoCard : Claim7 := { stood := { row := fnExactCheckAnswerUptoRow, standIns := [], harness := (true, "be778d14ecad12a3a9f18dd0d352f01528e31bd0121fa0d2ff423f90a7613102"), looks := false }, kinds := [], alts := [], laidByText := true, laidKinds := [.data, .data, .data], laidTests := true, laidLooks := .later }
def FnExactCheckAnswerUptoCardSaid : Prop := Claim7.holds Tryz.pinned (.plain (OpenSpec.upto fnExactCheckAnswerSpec)) fnExactCheckAnswerUptoCard

/-- THE SECOND FORM's CARD OF 'laws.FnExactOpsOf'. -/
def fnExactOpsOfUptoCard : Claim7 := { stood := { row := fnExactOpsOfUptoRow, standIns := [], harness := (true, "be778d14ecad12a3a9f18dd0d352f01528e31bd0121fa0d2ff423f90a7613102"), looks := false }, kinds := [], alts := [], laidByText := true, laidKinds := [.data, .pinned], laidTests := true, laidLooks := .later }
def FnExactOpsOfUptoCardSaid : Prop := Claim7.holds Tryz.pinned (.plain (OpenSpec.upto fnExactOpsOfSpec)) fnExactOpsOfUptoCard
end Rows
end Go.Proofs.YtmfipefpmjcddaaGreatDoor
