/-
  DERIVED. GIVEN WITH THE SEED: THE CARDS: each row of YtdobfpcmocobiaaDoorRows.lean that lists a variable, with what it lists TIED to the program's text (the seventh form; the later family's looks); each row that meets fmt, with fmt's text TOLD by the authors' own Lean function (tested against real Go, not proved from fmt's source: count such statements apart). THE CARD IS WHAT COUNTS. Prove the row's statement (the work); the ties are given (YtdobfpcmocobiaaDoorTie.lean); close each card by the builder's one call (the guide's Derived/Test/ToyasCard.lean, 'card_holds'). Laid BY PROGRAM, IN A SANDBOX (cutbox-door.mjs). By AI agents, Wed Nov 11 2026. No macro, syntax, notation, axiom, sorry.
-/
import Derived.Test.YtdobfpcmocobiaaDoorRows
import GoSem.ClaimSeven
namespace Go.Proofs.YtdobfpcmocobiaaDoor
namespace Rows

/-- THE TIED CARD OF 'pendulumlaw11.DerOrder'. -/
def derOrderCard : Claim7 := { stood := { row := derOrderRow, standIns := [], harness := (true, "15ccfa760863197f464fdb3a7ba49ac21e85d5ddcc837a22802f15c4bb3f2a0a"), looks := true }, kinds := [], alts := [], laidByText := true, laidKinds := [.data, .data, .data, .data, .pinned], laidTests := true, laidLooks := .later }
def DerOrderCardSaid : Prop := Claim7.holds Tryd.pinned (.plain (OpenSpec.ofChange derOrderSpec)) derOrderCard

/-- THE TIED CARD OF 'pendulumlaw11.DerBack'. -/
def derBackCard : Claim7 := { stood := { row := derBackRow, standIns := [], harness := (true, "15ccfa760863197f464fdb3a7ba49ac21e85d5ddcc837a22802f15c4bb3f2a0a"), looks := true }, kinds := [], alts := [], laidByText := true, laidKinds := [.data, .data, .data, .data, .pinned], laidTests := true, laidLooks := .later }
def DerBackCardSaid : Prop := Claim7.holds Tryd.pinned (.plain (OpenSpec.ofChange derBackSpec)) derBackCard

/-- THE TIED CARD OF 'pendulumlaw11.DerAgain'. -/
def derAgainCard : Claim7 := { stood := { row := derAgainRow, standIns := [], harness := (true, "15ccfa760863197f464fdb3a7ba49ac21e85d5ddcc837a22802f15c4bb3f2a0a"), looks := true }, kinds := [], alts := [], laidByText := true, laidKinds := [.data, .data, .data, .data, .sentinel, .sentinel, .pinned], laidTests := true, laidLooks := .later }
def DerAgainCardSaid : Prop := Claim7.holds Tryd.pinned (.plain (OpenSpec.ofChange derAgainSpec)) derAgainCard

/-- THE SECOND FORM's CARD OF 'pendulumlaw11.DerOrder'. -/
def derOrderUptoCard : Claim7 := { stood := { row := derOrderUptoRow, standIns := [], harness := (true, "15ccfa760863197f464fdb3a7ba49ac21e85d5ddcc837a22802f15c4bb3f2a0a"), looks := true }, kinds := [], alts := [], laidByText := true, laidKinds := [.data, .data, .data, .data, .pinned], laidTests := true, laidLooks := .later }
def DerOrderUptoCardSaid : Prop := Claim7.holds Tryd.pinned (.plain (OpenSpec.upto derOrderSpec)) derOrderUptoCard

/-- THE SECOND FORM's CARD OF 'pendulumlaw11.DerBack'. -/
def derBackUptoCard : Claim7 := { stood := { row := derBackUptoRow, standIns := [], harness := (true, "15ccfa760863197f464fdb3a7ba49ac21e85d5ddcc837a22802f15c4bb3f2a0a"), looks := true }, kinds := [], alts := [], laidByText := true, laidKinds := [.data, .data, .data, .data, .pinned], laidTests := true, laidLooks := .later }
def DerBackUptoCardSaid : Prop := Claim7.holds Tryd.pinned (.plain (OpenSpec.upto derBackSpec)) derBackUptoCard

/-- THE SECOND FORM's CARD OF 'pendulumlaw11.DerAgain'. -/
def derAgainUptoCard : Claim7 := { stood := { row := derAgainUptoRow, standIns := [], harness := (true, "15ccfa760863197f464fdb3a7ba49ac21e85d5ddcc837a22802f15c4bb3f2a0a"), looks := true }, kinds := [], alts := [], laidByText := true, laidKinds := [.data, .data, .data, .data, .sentinel, .sentinel, .pinned], laidTests := true, laidLooks := .later }
def DerAgainUptoCardSaid : Prop := Claim7.holds Tryd.pinned (.plain (OpenSpec.upto derAgainSpec)) derAgainUptoCard
end Rows
end Go.Proofs.YtdobfpcmocobiaaDoor
