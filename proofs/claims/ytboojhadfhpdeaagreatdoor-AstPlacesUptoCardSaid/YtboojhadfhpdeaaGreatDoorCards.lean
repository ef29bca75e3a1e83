/-
  DERIVED. GIVEN WITH THE SEED: THE CARDS: each row of YtboojhadfhpdeaaGreatDoorRows.lean that lists a variable, with what it lists TIED to the program's text (the seventh form; the later family's looks); each row that meets fmt, with fmt's text TOLD by the authors' own Lean function (tested against real Go, not proved from fmt's source: count such statements apart). THE CARD IS WHAT COUNTS. Prove the row's statement (the work); the ties are given (YtboojhadfhpdeaaGreatDoorTie.lean); close each card by the builder's one call (the guide's Derived/Test/ToyasCard.lean, 'card_holds'). Laid BY PROGRAM, IN A SANDBOX (cutbox-door.mjs). By AI agents, Wed Nov 11 2026. No macro, syntax, notation, axiom, sorry.
-/
import Derived.Test.YtboojhadfhpdeaaGreatDoorRows
import GoSem.ClaimSeven
namespace Go.Proofs.YtboojhadfhpdeaaGreatDoor
namespace Rows

/-- THE TIED CARD OF 'cruciblelaw08.AstChecks'. -/
def astChecksCard : Claim7 := { stood := { row := astChecksRow, standIns := [], harness := (true, "85534ce6b567449f5a937302374031858e8ea7b736e94e9fe02bfb5ed9cedb05"), looks := false }, kinds := [], alts := [], laidByText := true, laidKinds := [.data, .data, .data], laidTests := true, laidLooks := .later }
def AstChecksCardSaid : Prop := Claim7.holds Tryz.pinned (.plain (OpenSpec.ofChange astChecksSpec)) astChecksCard

/-- THE TIED CARD OF 'cruciblelaw08.AstPrints'. -/
def astPrintsCard : Claim7 := { stood := { row := astPrintsRow, standIns := [], harness := (true, "85534ce6b567449f5a937302374031858e8ea7b736e94e9fe02bfb5ed9cedb05"), looks := false }, kinds := [], alts := [], laidByText := true, laidKinds := [.data, .data, .data], laidTests := true, laidLooks := .later }
def AstPrintsCardSaid : Prop := Claim7.holds Tryz.pinned (.plain (OpenSpec.ofChange astPrintsSpec)) astPrintsCard

/-- THE TIED CARD OF 'cruciblelaw08.AstSame'. -/
def astSameCard : Claim7 := { stood := { row := astSameRow, standIns := [], harness := (true, "85534ce6b567449f5a937302374031858e8ea7b736e94e9fe02bfb5ed9cedb05"), looks := false }, kinds := [], alts := [], laidByText := true, laidKinds := [.data, .data, .data], laidTests := true, laidLooks := .later }
def AstSameCardSaid : Prop := Claim7.holds Tryz.pinned (.plain (OpenSpec.ofChange astSameSpec)) astSameCard

/-- THE TIED CARD OF 'cruciblelaw08.AstSizes'. -/
def astSizesCard : Claim7 := { stood := { row := astSizesRow, standIns := [], harness := (true, "85534ce6b567449f5a937302374031858e8ea7b736e94e9fe02bfb5ed9cedb05"), looks := false }, kinds := [], alts := [], laidByText := true, laidKinds := [.data, .data, .data], laidTests := true, laidLooks := .later }
def AstSizesCardSaid : Prop := Claim7.holds Tryz.pinned (.plain (OpenSpec.ofChange astSizesSpec)) astSizesCard

/-- THE TIED CARD OF 'cruciblelaw08.AstPlaces'. -/
def astPlacesCard : Claim7 := { stood := { row := astPlacesRow, standIns := [], harness := (true, "85534ce6b567449f5a937302374031858e8ea7b736e94e9fe02bfb5ed9cedb05"), looks := false }, kinds := [], alts := [], laidByText := true, laidKinds := [.data, .data, .data], laidTests := true, laidLooks := .later }
def AstPlacesCardSaid : Prop := Claim7.holds Tryz.pinned (.plain (OpenSpec.ofChange astPlacesSpec)) astPlacesCard

/-- THE SECOND FORM's CARD OF 'cruciblelaw08.AstChecks'. -/
def astChecksUptoCard : Claim7 := { stood := { row := astChecksUptoRow, standIns := [], harness := (true, "85534ce6b567449f5a937302374031858e8ea7b736e94e9fe02bfb5ed9cedb05"), looks := false }, kinds := [], alts := [], laidByText := true, laidKinds := [.data, .data, .data], laidTests := true, laidLooks := .later }
def AstChecksUptoCardSaid : Prop := Claim7.holds Tryz.pinned (.plain (OpenSpec.upto astChecksSpec)) astChecksUptoCard

/-- THE SECOND FORM's CARD OF 'cruciblelaw08.AstPrints'. -/
def astPrintsUptoCard : Claim7 := { stood := { row := astPrintsUptoRow, standIns := [], harness := (true, "85534ce6b567449f5a937302374031858e8ea7b736e94e9fe02bfb5ed9cedb05"), looks := false }, kinds := [], alts := [], laidByText := true, laidKinds := [.data, .data, .data], laidTests := true, laidLooks := .later }
def AstPrintsUptoCardSaid : Prop := Claim7.holds Tryz.pinned (.plain (OpenSpec.upto astPrintsSpec)) astPrintsUptoCard

/-- THE SECOND FORM's CARD OF 'cruciblelaw08.AstSame'. -/
def astSameUptoCard : Claim7 := { stood := { row := astSameUptoRow, standIns := [], harness := (true, "85534ce6b567449f5a937302374031858e8ea7b736e94e9fe02bfb5ed9cedb05"), looks := false }, kinds := [], alts := [], laidByText := true, laidKinds := [.data, .data, .data], laidTests := true, laidLooks := .later }
def AstSameUptoCardSaid : Prop := Claim7.holds Tryz.pinned (.plain (OpenSpec.upto astSameSpec)) astSameUptoCard

/-- THE SECOND FORM's CARD OF 'cruciblelaw08.AstSizes'. -/
def astSizesUptoCard : Claim7 := { stood := { row := astSizesUptoRow, standIns := [], harness := (true, "85534ce6b567449f5a937302374031858e8ea7b736e94e9fe02bfb5ed9cedb05"), looks := false }, kinds := [], alts := [], laidByText := true, laidKinds := [.data, .data, .data], laidTests := true, laidLooks := .later }
def AstSizesUptoCardSaid : Prop := Claim7.holds Tryz.pinned (.plain (OpenSpec.upto astSizesSpec)) astSizesUptoCard

/-- THE SECOND FORM's CARD OF 'cruciblelaw08.AstPlaces'. -/
def astPlacesUptoCard : Claim7 := { stood := { row := astPlacesUptoRow, standIns := [], harness := (true, "85534ce6b567449f5a937302374031858e8ea7b736e94e9fe02bfb5ed9cedb05"), looks := false }, kinds := [], alts := [], laidByText := true, laidKinds := [.data, .data, .data], laidTests := true, laidLooks := .later }
def AstPlacesUptoCardSaid : Prop := Claim7.holds Tryz.pinned (.plain (OpenSpec.upto astPlacesSpec)) astPlacesUptoCard
end Rows
end Go.Proofs.YtboojhadfhpdeaaGreatDoor
