/-
  DERIVED. GIVEN WITH THE SEED: THE CARDS: each row of YtbmfadmoficfiaaDoorRows.lean that lists a variable, with what it lists TIED to the program's text (the seventh form; the later family's looks); each row that meets fmt, with fmt's text TOLD by the authors' own Lean function (tested against real Go, not proved from fmt's source: count such statements apart). THE CARD IS WHAT COUNTS. Prove the row's statement (the work); the ties are given (YtbmfadmoficfiaaDoorTie.lean); close each card by the builder's one call (the guide's Derived/Test/ToyasCard.lean, 'card_holds'). Laid BY PROGRAM, IN A SANDBOX (cutbox-door.mjs). By AI agents, Wed Nov 11 2026. No macro, syntax, notation, axiom, sorry.
-/
import Derived.Test.YtbmfadmoficfiaaDoorRows
import GoSem.ClaimSeven
namespace Go.Proofs.YtbmfadmoficfiaaDoor
namespace Rows

/-- THE TIED CARD OF 'cruciblelaw07.LexerNexts'. -/
def lexerNextsCard : Claim7 := { stood := { row := lexerNextsRow, standIns := [], harness := (true, "7fe1417adbf2a8d3988f1d8d4db37d08300d645c059837881c20cb7d0f8ae3e5"), looks := false }, kinds := [], alts := [], laidByText := true, laidKinds := [.listed, .data], laidTests := true, laidLooks := .later }
def LexerNextsCardSaid : Prop := Claim7.holds Tryd.pinned (.plain (OpenSpec.ofChange lexerNextsSpec)) lexerNextsCard

/-- THE TIED CARD OF 'cruciblelaw07.LexerAll'. -/
def lexerAllCard : Claim7 := { stood := { row := lexerAllRow, standIns := [], harness := (true, "7fe1417adbf2a8d3988f1d8d4db37d08300d645c059837881c20cb7d0f8ae3e5"), looks := false }, kinds := [], alts := [], laidByText := true, laidKinds := [.listed, .data], laidTests := true, laidLooks := .later }
def LexerAllCardSaid : Prop := Claim7.holds Tryd.pinned (.plain (OpenSpec.ofChange lexerAllSpec)) lexerAllCard

/-- THE TIED CARD OF 'cruciblelaw07.LexerStands'. -/
def lexerStandsCard : Claim7 := { stood := { row := lexerStandsRow, standIns := [], harness := (true, "7fe1417adbf2a8d3988f1d8d4db37d08300d645c059837881c20cb7d0f8ae3e5"), looks := false }, kinds := [], alts := [], laidByText := true, laidKinds := [.listed, .data], laidTests := true, laidLooks := .later }
def LexerStandsCardSaid : Prop := Claim7.holds Tryd.pinned (.plain (OpenSpec.ofChange lexerStandsSpec)) lexerStandsCard

/-- THE TIED CARD OF 'cruciblelaw07.LexerJoins'. -/
def lexerJoinsCard : Claim7 := { stood := { row := lexerJoinsRow, standIns := [], harness := (true, "7fe1417adbf2a8d3988f1d8d4db37d08300d645c059837881c20cb7d0f8ae3e5"), looks := false }, kinds := [], alts := [], laidByText := true, laidKinds := [.listed, .data], laidTests := true, laidLooks := .later }
def LexerJoinsCardSaid : Prop := Claim7.holds Tryd.pinned (.plain (OpenSpec.ofChange lexerJoinsSpec)) lexerJoinsCard

/-- THE TIED CARD OF 'cruciblelaw07.LexerWords'. -/
def lexerWordsCard : Claim7 := { stood := { row := lexerWordsRow, standIns := [], harness := (true, "7fe1417adbf2a8d3988f1d8d4db37d08300d645c059837881c20cb7d0f8ae3e5"), looks := false }, kinds := [], alts := [], laidByText := true, laidKinds := [.listed, .data], laidTests := true, laidLooks := .later }
def LexerWordsCardSaid : Prop := Claim7.holds Tryd.pinned (.plain (OpenSpec.ofChange lexerWordsSpec)) lexerWordsCard

/-- THE TIED CARD OF 'cruciblelaw07.LexerBack'. -/
def lexerBackCard : Claim7 := { stood := { row := lexerBackRow, standIns := [], harness := (true, "7fe1417adbf2a8d3988f1d8d4db37d08300d645c059837881c20cb7d0f8ae3e5"), looks := false }, kinds := [], alts := [], laidByText := true, laidKinds := [.listed, .data], laidTests := true, laidLooks := .later }
def LexerBackCardSaid : Prop := Claim7.holds Tryd.pinned (.plain (OpenSpec.ofChange lexerBackSpec)) lexerBackCard

/-- THE SECOND FORM's CARD OF 'cruciblelaw07.LexerNexts'. -/
def lexerNextsUptoCard : Claim7 := { stood := { row := lexerNextsUptoRow, standIns := [], harness := (true, "7fe1417adbf2a8d3988f1d8d4db37d08300d645c059837881c20cb7d0f8ae3e5"), looks := false }, kinds := [], alts := [], laidByText := true, laidKinds := [.listed, .data], laidTests := true, laidLooks := .later }
def LexerNextsUptoCardSaid : Prop := Claim7.holds Tryd.pinned (.plain (OpenSpec.upto lexerNextsSpec)) lexerNextsUptoCard

/-- THE SECOND FORM's CARD OF 'cruciblelaw07.LexerAll'. -/
def lexerAllUptoCard : Claim7 := { stood := { row := lexerAllUptoRow, standIns := [], harness := (true, "7fe1417adbf2a8d3988f1d8d4db37d08300d645c059837881c20cb7d0f8ae3e5"), looks := false }, kinds := [], alts := [], laidByText := true, laidKinds := [.listed, .data], laidTests := true, laidLooks := .later }
def LexerAllUptoCardSaid : Prop := Claim7.holds Tryd.pinned (.plain (OpenSpec.upto lexerAllSpec)) lexerAllUptoCard

/-- THE SECOND FORM's CARD OF 'cruciblelaw07.LexerStands'. -/
def lexerStandsUptoCard : Claim7 := { stood := { row := lexerStandsUptoRow, standIns := [], harness := (true, "7fe1417adbf2a8d3988f1d8d4db37d08300d645c059837881c20cb7d0f8ae3e5"), looks := false }, kinds := [], alts := [], laidByText := true, laidKinds := [.listed, .data], laidTests := true, laidLooks := .later }
def LexerStandsUptoCardSaid : Prop := Claim7.holds Tryd.pinned (.plain (OpenSpec.upto lexerStandsSpec)) lexerStandsUptoCard

/-- THE SECOND FORM's CARD OF 'cruciblelaw07.LexerJoins'. -/
def lexerJoinsUptoCard : Claim7 := { stood := { row := lexerJoinsUptoRow, standIns := [], harness := (true, "7fe1417adbf2a8d3988f1d8d4db37d08300d645c059837881c20cb7d0f8ae3e5"), looks := false }, kinds := [], alts := [], laidByText := true, laidKinds := [.listed, .data], laidTests := true, laidLooks := .later }
def LexerJoinsUptoCardSaid : Prop := Claim7.holds Tryd.pinned (.plain (OpenSpec.upto lexerJoinsSpec)) lexerJoinsUptoCard

/-- THE SECOND FORM's CARD OF 'cruciblelaw07.LexerWords'. -/
def lexerWordsUptoCard : Claim7 := { stood := { row := lexerWordsUptoRow, standIns := [], harness := (true, "7fe1417adbf2a8d3988f1d8d4db37d08300d645c059837881c20cb7d0f8ae3e5"), looks := false }, kinds := [], alts := [], laidByText := true, laidKinds := [.listed, .data], laidTests := true, laidLooks := .later }
def LexerWordsUptoCardSaid : Prop := Claim7.holds Tryd.pinned (.plain (OpenSpec.upto lexerWordsSpec)) lexerWordsUptoCard

/-- THE SECOND FORM's CARD OF 'cruciblelaw07.LexerBack'. -/
def lexerBackUptoCard : Claim7 := { stood := { row := lexerBackUptoRow, standIns := [], harness := (true, "7fe1417adbf2a8d3988f1d8d4db37d08300d645c059837881c20cb7d0f8ae3e5"), looks := false }, kinds := [], alts := [], laidByText := true, laidKinds := [.listed, .data], laidTests := true, laidLooks := .later }
def LexerBackUptoCardSaid : Prop := Claim7.holds Tryd.pinned (.plain (OpenSpec.upto lexerBackSpec)) lexerBackUptoCard
end Rows
end Go.Proofs.YtbmfadmoficfiaaDoor
