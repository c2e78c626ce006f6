/-
  DERIVED. GIVEN WITH THE SEED: THE CARDS: each row of YtojkjnphgamoeaaGreatDoorRows.lean that lists a variable, with what it lists TIED to the program's text (the seventh form; the later family's looks); each row that meets fmt, with fmt's text TOLD by the authors' own Lean function (tested against real Go, not proved from fmt's source: count such statements apart). THE CARD IS WHAT COUNTS. Prove the row's statement (the work); the ties are given (YtojkjnphgamoeaaGreatDoorTie.lean); close each card by the builder's one call (the guide's Derived/Test/ToyasCard.lean, 'card_holds'). Laid BY PROGRAM, IN A SANDBOX (cutbox-door.mjs). By AI agents, Wed Nov 11 2026. No macro, syntax, notation, axiom, sorry.
-/
import Derived.Test.YtojkjnphgamoeaaGreatDoorRows
import GoSem.ClaimSeven
namespace Go.Proofs.YtojkjnphgamoeaaGreatDoor
namespace Rows

/-- THE TIED CARD OF 'pendulumlaw26.ServeServes'. -/
def serveServesCard : Claim7 := { stood := { row := serveServesRow, standIns := [], harness := (true, "7e6c73a09b3674a1a19c92b1b890a481415b1f43fd625c41d64af2d76da99221"), looks := true }, kinds := [], alts := [], laidByText := true, laidKinds := [.data, .pinned], laidTests := true, laidLooks := .later }
def ServeServesCardSaid : Prop := Claim7.holds Tryz.pinned (.plain (OpenSpec.ofChange serveServesSpec)) serveServesCard

/-- THE TIED CARD OF 'pendulumlaw26.ServeNaks'. -/
def serveNaksCard : Claim7 := { stood := { row := serveNaksRow, standIns := [], harness := (true, "7e6c73a09b3674a1a19c92b1b890a481415b1f43fd625c41d64af2d76da99221"), looks := true }, kinds := [], alts := [], laidByText := true, laidKinds := [.data, .pinned], laidTests := true, laidLooks := .later }
def ServeNaksCardSaid : Prop := Claim7.holds Tryz.pinned (.plain (OpenSpec.ofChange serveNaksSpec)) serveNaksCard

/-- THE TIED CARD OF 'pendulumlaw26.ServeHandles'. -/
def serveHandlesCard : Claim7 := { stood := { row := serveHandlesRow, standIns := [], harness := (true, "7e6c73a09b3674a1a19c92b1b890a481415b1f43fd625c41d64af2d76da99221"), looks := true }, kinds := [], alts := [], laidByText := true, laidKinds := [.data, .pinned], laidTests := true, laidLooks := .later }
def ServeHandlesCardSaid : Prop := Claim7.holds Tryz.pinned (.plain (OpenSpec.ofChange serveHandlesSpec)) serveHandlesCard

/-- THE TIED CARD OF 'pendulumlaw26.ServeTells'. -/
def serveTellsCard : Claim7 := { stood := { row := serveTellsRow, standIns := [], harness := (true, "7e6c73a09b3674a1a19c92b1b890a481415b1f43fd625c41d64af2d76da99221"), looks := true }, kinds := [], alts := [], laidByText := true, laidKinds := [.data, .pinned], laidTests := true, laidLooks := .later }
def ServeTellsCardSaid : Prop := Claim7.holds Tryz.pinned (.plain (OpenSpec.ofChange serveTellsSpec)) serveTellsCard

/-- THE SECOND FORM's CARD OF 'pendulumlaw26.ServeServes'. -/
def serveServesUptoCard : Claim7 := { stood := { row := serveServesUptoRow, standIns := [], harness := (true, "7e6c73a09b3674a1a19c92b1b890a481415b1f43fd625c41d64af2d76da99221"), looks := true }, kinds := [], alts := [], laidByText := true, laidKinds := [.data, .pinned], laidTests := true, laidLooks := .later }
def ServeServesUptoCardSaid : Prop := Claim7.holds Tryz.pinned (.plain (OpenSpec.upto serveServesSpec)) serveServesUptoCard

/-- THE SECOND FORM's CARD OF 'pendulumlaw26.ServeNaks'. -/
def serveNaksUptoCard : Claim7 := { stood := { row := serveNaksUptoRow, standIns := [], harness := (true, "7e6c73a09b3674a1a19c92b1b890a481415b1f43fd625c41d64af2d76da99221"), looks := true }, kinds := [], alts := [], laidByText := true, laidKinds := [.data, .pinned], laidTests := true, laidLooks := .later }
def ServeNaksUptoCardSaid : Prop := Claim7.holds Tryz.pinned (.plain (OpenSpec.upto serveNaksSpec)) serveNaksUptoCard

/-- THE SECOND FORM's CARD OF 'pendulumlaw26.ServeHandles'. -/
def serveHandlesUptoCard : Claim7 := { stood := { row := serveHandlesUptoRow, standIns := [], harness := (true, "7e6c73a09b3674a1a19c92b1b890a481415b1f43fd625c41d64af2d76da99221"), looks := true }, kinds := [], alts := [], laidByText := true, laidKinds := [.data, .pinned], laidTests := true, laidLooks := .later }
def ServeHandlesUptoCardSaid : Prop := Claim7.holds Tryz.pinned (.plain (OpenSpec.upto serveHandlesSpec)) serveHandlesUptoCard

/-- THE SECOND FORM's CARD OF 'pendulumlaw26.ServeTells'. -/
def serveTellsUptoCard : Claim7 := { stood := { row := serveTellsUptoRow, standIns := [], harness := (true, "7e6c73a09b3674a1a19c92b1b890a481415b1f43fd625c41d64af2d76da99221"), looks := true }, kinds := [], alts := [], laidByText := true, laidKinds := [.data, .pinned], laidTests := true, laidLooks := .later }
def ServeTellsUptoCardSaid : Prop := Claim7.holds Tryz.pinned (.plain (OpenSpec.upto serveTellsSpec)) serveTellsUptoCard
end Rows
end Go.Proofs.YtojkjnphgamoeaaGreatDoor
