/-
  DERIVED. GIVEN WITH THE SEED: THE CARDS: each row of YthhkkhnjkoacnaaDoorRows.lean that lists a variable, with what it lists TIED to the program's text (the seventh form; the later family's looks); each row that meets fmt, with fmt's text TOLD by the authors' own Lean function (tested against real Go, not proved from fmt's source: count such statements apart). THE CARD IS WHAT COUNTS. Prove the row's statement (the work); the ties are given (YthhkkhnjkoacnaaDoorTie.lean); close each card by the builder's one call (the guide's Derived/Test/ToyasCard.lean, 'card_holds'). Laid BY PROGRAM, IN A SANDBOX (cutbox-door.mjs). By AI agents, Wed Nov 11 2026. No macro, syntax, notation, axiom, sorry.
-/
import Derived.Test.YthhkkhnjkoacnaaDoorRows
import GoSem.ClaimSeven
namespace Go.Proofs.YthhkkhnjkoacnaaDoor
namespace Rows

/-- THE TIED CARD OF 'laws.FnExactValueBytes'. -/
def fnExactValueBytesCard : Claim7 := { stood := { row := fnExactValueBytesRow, standIns := [], harness := (true, "0b39b03fc2c6aafb2c6d58f3e7f04b16d29522a120f0e9ef8f4dcc5bdc0a0f23"), looks := false }, kinds := [], alts := [], laidByText := true, laidKinds := [.data, .pinned], laidTests := true, laidLooks := .later }
def FnExactValueBytesCardSaid : Prop := Claim7.holds Tryd.pinned (.plain (OpenSpec.ofChange fnExactValueBytesSpec)) fnExactValueBytesCard

/-- THE TIED CARD OF 'laws.FnExactSealedText'. -/
def fnExactSealedTextCard : Claim7 := { stood := { row := fnExactSealedTextRow, standIns := [], harness := (true, "0b39b03fc2c6aafb2c6d58f3e7f04b16d29522a120f0e9ef8f4dcc5bdc0a0f23"), looks := false }, kinds := [], alts := [], laidByText := true, laidKinds := [.data, .data, .data], laidTests := true, laidLooks := .later }
def FnExactSealedTextCardSaid : Prop := Claim7.holds Tryd.pinned (.plain (OpenSpec.ofChange fnExactSealedTextSpec)) fnExactSealedTextCard

/-- THE TIED CARD OF 'laws.FnExactRowBytes'. -/
def fnExactRowBytesCard : Claim7 := { stood := { row := fnExactRowBytesRow, standIns := [], harness := (true, "0b39b03fc2c6aafb2c6d58f3e7f04b16d29522a120f0e9ef8f4dcc5bdc0a0f23"), looks := false }, kinds := [], alts := [], laidByText := true, laidKinds := [.data, .pinned], laidTests := true, laidLooks := .later }
def FnExactRowBytesCardSaid : Prop := Claim7.holds Tryd.pinned (.plain (OpenSpec.ofChange fnExactRowBytesSpec)) fnExactRowBytesCard

/-- THE TIED CARD OF 'laws.FnExactAfterBeginning'. -/
def fnExactAfterBeginningCard : Claim7 := { stood := { row := fnExactAfterBeginningRow, standIns := [], harness := (true, "0b39b03fc2c6aafb2c6d58f3e7f04b16d29522a120f0e9ef8f4dcc5bdc0a0f23"), looks := false }, kinds := [], alts := [], laidByText := true, laidKinds := [.data, .pinned], laidTests := true, laidLooks := .later }
def FnExactAfterBeginningCardSaid : Prop := Claim7.holds Tryd.pinned (.plain (OpenSpec.ofChange fnExactAfterBeginningSpec)) fnExactAfterBeginningCard

/-- THE TIED CARD OF 'laws.FnOrder'. -/
def fnOrderCard : Claim7 := { stood := { row := fnOrderRow, standIns := [], harness := (true, "0b39b03fc2c6aafb2c6d58f3e7f04b16d29522a120f0e9ef8f4dcc5bdc0a0f23"), looks := false }, kinds := [], alts := [], laidByText := true, laidKinds := [.data, .pinned], laidTests := true, laidLooks := .later }
def FnOrderCardSaid : Prop := Claim7.holds Tryd.pinned (.plain (OpenSpec.ofChange fnOrderSpec)) fnOrderCard

/-- THE SECOND FORM's CARD OF 'laws.FnExactValueBytes'. -/
def fnExactValueBytesUptoCard : Claim7 := { stood := { row := fnExactValueBytesUptoRow, standIns := [], harness := (true, "0b39b03fc2c6aafb2c6d58f3e7f04b16d29522a120f0e9ef8f4dcc5bdc0a0f23"), looks := false }, kinds := [], alts := [], laidByText := true, laidKinds := [.data, .pinned], laidTests := true, laidLooks := .later }
def FnExactValueBytesUptoCardSaid : Prop := Claim7.holds Tryd.pinned (.plain (OpenSpec.upto fnExactValueBytesSpec)) fnExactValueBytesUptoCard

/-- THE SECOND FORM's CARD OF 'laws.FnExactSealedText'. -/
def fnExactSealedTextUptoCard : Claim7 := { stood := { row := fnExactSealedTextUptoRow, standIns := [], harness := (true, "0b39b03fc2c6aafb2c6d58f3e7f04b16d29522a120f0e9ef8f4dcc5bdc0a0f23"), looks := false }, kinds := [], alts := [], laidByText := true, laidKinds := [.data, .data, .data], laidTests := true, laidLooks := .later }
def FnExactSealedTextUptoCardSaid : Prop := Claim7.holds Tryd.pinned (.plain (OpenSpec.upto fnExactSealedTextSpec)) fnExactSealedTextUptoCard

/-- THE SECOND FORM's CARD OF 'laws.FnExactRowBytes'. -/
def fnExactRowBytesUptoCard : Claim7 := { stood := { row := fnExactRowBytesUptoRow, standIns := [], harness := (true, "0b39b03fc2c6aafb2c6d58f3e7f04b16d29522a120f0e9ef8f4dcc5bdc0a0f23"), looks := false }, kinds := [], alts := [], laidByText := true, laidKinds := [.data, .pinned], laidTests := true, laidLooks := .later }
def FnExactRowBytesUptoCardSaid : Prop := Claim7.holds Tryd.pinned (.plain (OpenSpec.upto fnExactRowBytesSpec)) fnExactRowBytesUptoCard

/-- THE SECOND FORM's CARD OF 'laws.FnExactAfterBeginning'. -/
def fnExactAfterBeginningUptoCard : Claim7 := { stood := { row := fnExactAfterBeginningUptoRow, standIns := [], harness := (true, "0b39b03fc2c6aafb2c6d58f3e7f04b16d29522a120f0e9ef8f4dcc5bdc0a0f23"), looks := false }, kinds := [], alts := [], laidByText := true, laidKinds := [.data, .pinned], laidTests := true, laidLooks := .later }
def FnExactAfterBeginningUptoCardSaid : Prop := Claim7.holds Tryd.pinned (.plain (OpenSpec.upto fnExactAfterBeginningSpec)) fnExactAfterBeginningUptoCard

/-- THE SECOND FORM's CARD OF 'laws.FnOrder'. -/
def fnOrderUptoCard : Claim7 := { stood := { row := fnOrderUptoRow, standIns := [], harness := (true, "0b39b03fc2c6aafb2c6d58f3e7f04b16d29522a120f0e9ef8f4dcc5bdc0a0f23"), looks := false }, kinds := [], alts := [], laidByText := true, laidKinds := [.data, .pinned], laidTests := true, laidLooks := .later }
def FnOrderUptoCardSaid : Prop := Claim7.holds Tryd.pinned (.plain (OpenSpec.upto fnOrderSpec)) fnOrderUptoCard
end Rows
end Go.Proofs.YthhkkhnjkoacnaaDoor
