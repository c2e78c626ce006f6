/-
  No cell of these rows narrows 'for every input' (looked for: loops, veiled, ifaces, maps, wideKeys, modest, calm, conditions, laid).
  DERIVED. THE GIVEN ROWS OF THIS SEAT. 4 by the template 'for every input the law returns true; each argument reads behind the call as it read before'; 0 by the template 'total and deterministic' (their statements: YtepefklelohplaaGreatTotals.lean).
  GIVEN WITH THE SEED: the statements are not yours to turn. If you find one false, say at which input.
  Laid BY PROGRAM, IN A SANDBOX (cutbox-rows.mjs): the forced cells as the released guide's own fill.sh prints them over the translation c2ef4384eafe2595… (all of the seat's roots in one cut). By AI agents, Wed Nov 11 2026. No macro, syntax, notation, axiom, sorry.
-/
import Derived.Test.YtepefklelohplaaGreatChecked
import GoSem.Claim
import GoSem.ClaimJoined
import GoSem.ClaimMapViews
import Derived.JoinedTies
import Derived.KernelRfl
namespace Go.Proofs.YtepefklelohplaaGreat
/- THE CELL 'sum', in the pinned program and in every row, IS THE sha256 OF THE DUMP (.gsa) THAT YtepefklelohplaaGreatProg.lean LOADS. Nothing in Lean hashes anything: it is a label: what it is worth is what the hold of that sum in a sandbox is worth. -/
noncomputable def Tryz.pinned : Pinned := { name := "ytepefklelohplaagreat", sum := "c2ef4384eafe2595b05fc83ea93278c82396e625d636d6b66cf5dffd07edcd4c", checked := Tryz.checked }
namespace Rows
def none {H : Type} : Left H := { results := [], args := [] }

/-- 'pendulumlaw25.CookOpens': WHATEVER THE INPUT: true; the input reads as it did. -/
def cookOpensSpec : ChangeSpec := { name := "cookOpens", fn := fun _ => fun
  | [d1, d2, d3] => { results := [.lit (.bool true)], args := [d1, d2, d3] }
  | _ => none }
def cookOpensRow : OpenClaim := { program := "ytepefklelohplaagreat", sum := "c2ef4384eafe2595b05fc83ea93278c82396e625d636d6b66cf5dffd07edcd4c", func := "pendulum/pendulumlaw25.CookOpens", spec := "cookOpens", unfollowed := true, recurses := true, apart := false }
def CookOpensSaid : Prop := cookOpensRow.holds Tryz.pinned (OpenSpec.ofChange cookOpensSpec)

/-- ITS FALSE NEIGHBOUR: 'it returns false'. Refute it at one input. -/
def cookOpensWrong : ChangeSpec := { name := "cookOpens", fn := fun _ => fun
  | [d1, d2, d3] => { results := [.lit (.bool false)], args := [d1, d2, d3] }
  | _ => none }
def CookOpensWrongFalsely : Prop := cookOpensRow.holds Tryz.pinned (OpenSpec.ofChange cookOpensWrong)

/-- 'pendulumlaw25.CookForges': WHATEVER THE INPUT: true; the input reads as it did. -/
def cookForgesSpec : ChangeSpec := { name := "cookForges", fn := fun _ => fun
  | [d1, d2, d3, d4, d5, d6] => { results := [.lit (.bool true)], args := [d1, d2, d3, d4, d5, d6] }
  | _ => none }
def cookForgesRow : OpenClaim := { program := "ytepefklelohplaagreat", sum := "c2ef4384eafe2595b05fc83ea93278c82396e625d636d6b66cf5dffd07edcd4c", func := "pendulum/pendulumlaw25.CookForges", spec := "cookForges", unfollowed := true, recurses := true, apart := false }
def CookForgesSaid : Prop := cookForgesRow.holds Tryz.pinned (OpenSpec.ofChange cookForgesSpec)

/-- ITS FALSE NEIGHBOUR: 'it returns false'. Refute it at one input. -/
def cookForgesWrong : ChangeSpec := { name := "cookForges", fn := fun _ => fun
  | [d1, d2, d3, d4, d5, d6] => { results := [.lit (.bool false)], args := [d1, d2, d3, d4, d5, d6] }
  | _ => none }
def CookForgesWrongFalsely : Prop := cookForgesRow.holds Tryz.pinned (OpenSpec.ofChange cookForgesWrong)

/-- 'pendulumlaw25.CookBack': WHATEVER THE INPUT: true; the input reads as it did. -/
def cookBackSpec : ChangeSpec := { name := "cookBack", fn := fun _ => fun
  | [d1, d2, d3, d4, d5, d6] => { results := [.lit (.bool true)], args := [d1, d2, d3, d4, d5, d6] }
  | _ => none }
def cookBackRow : OpenClaim := { program := "ytepefklelohplaagreat", sum := "c2ef4384eafe2595b05fc83ea93278c82396e625d636d6b66cf5dffd07edcd4c", func := "pendulum/pendulumlaw25.CookBack", spec := "cookBack", unfollowed := true, recurses := true, apart := false }
def CookBackSaid : Prop := cookBackRow.holds Tryz.pinned (OpenSpec.ofChange cookBackSpec)

/-- ITS FALSE NEIGHBOUR: 'it returns false'. Refute it at one input. -/
def cookBackWrong : ChangeSpec := { name := "cookBack", fn := fun _ => fun
  | [d1, d2, d3, d4, d5, d6] => { results := [.lit (.bool false)], args := [d1, d2, d3, d4, d5, d6] }
  | _ => none }
def CookBackWrongFalsely : Prop := cookBackRow.holds Tryz.pinned (OpenSpec.ofChange cookBackWrong)

/-- 'pendulumlaw25.CookMakes': WHATEVER THE INPUT: true; the input reads as it did. -/
def cookMakesSpec : ChangeSpec := { name := "cookMakes", fn := fun _ => fun
  | [d1, d2, d3, d4, d5] => { results := [.lit (.bool true)], args := [d1, d2, d3, d4, d5] }
  | _ => none }
def cookMakesRow : OpenClaim := { program := "ytepefklelohplaagreat", sum := "c2ef4384eafe2595b05fc83ea93278c82396e625d636d6b66cf5dffd07edcd4c", func := "pendulum/pendulumlaw25.CookMakes", spec := "cookMakes", unfollowed := true, recurses := true, apart := false }
def CookMakesSaid : Prop := cookMakesRow.holds Tryz.pinned (OpenSpec.ofChange cookMakesSpec)

/-- ITS FALSE NEIGHBOUR: 'it returns false'. Refute it at one input. -/
def cookMakesWrong : ChangeSpec := { name := "cookMakes", fn := fun _ => fun
  | [d1, d2, d3, d4, d5] => { results := [.lit (.bool false)], args := [d1, d2, d3, d4, d5] }
  | _ => none }
def CookMakesWrongFalsely : Prop := cookMakesRow.holds Tryz.pinned (OpenSpec.ofChange cookMakesWrong)

/- THE SECOND FORM. 'bulk': how many values and letters a reading holds, each counted each time it is reached (what is shared counts as often as it is met; a slice's spare places count too). A statement '..UptoSaid' is the law's where the arguments, and the package variables that the reading takes, are together of bulk at most 1048576: NARROWER than '..Said'. Prove '..Said' where nothing that the law and all that it calls make is longer than what came in: it says more and counts as full. Else prove '..UptoSaid'. A law counts once. -/
mutual
def uptoBulk {H : Type} : DataW H → Nat
  | .lit (.string bytes) => bytes.length + 1
  | .lit _ => 1
  | .nil => 1
  | .ptr d => uptoBulk d + 1
  | .slice elems spare => uptoBulkAll elems + uptoBulkAll spare + 1
  | .agg parts => uptoBulkAll parts + 1
  | .iface _ d => uptoBulk d + 1
  | .map entries => uptoBulkEntries entries + 1
  | .held _ => 1
def uptoBulkAll {H : Type} : List (DataW H) → Nat
  | [] => 0
  | d :: r => uptoBulk d + uptoBulkAll r
def uptoBulkEntries {H : Type} : List (Lit × DataW H) → Nat
  | [] => 0
  | x :: r => uptoBulkEntry x + uptoBulkEntries r
def uptoBulkEntry {H : Type} : Lit × DataW H → Nat
  | (.string bytes, d) => bytes.length + uptoBulk d + 1
  | (_, d) => uptoBulk d + 1
 end
def uptoSmall : (H : Type) → List (DataW H) → Bool := fun _ ds => decide (uptoBulkAll ds ≤ 1048576)
def OpenSpec.upto (s : _root_.Go.ChangeSpec) : _root_.Go.OpenSpec := { _root_.Go.OpenSpec.ofChange s with cond := some uptoSmall }

/-- 'pendulumlaw25.CookOpens', WHERE WHAT IT READS IS OF BULK AT MOST 1048576: true; the input reads as it did. -/
def cookOpensUptoRow : OpenClaim := { program := "ytepefklelohplaagreat", sum := "c2ef4384eafe2595b05fc83ea93278c82396e625d636d6b66cf5dffd07edcd4c", func := "pendulum/pendulumlaw25.CookOpens", spec := "cookOpens", unfollowed := true, recurses := true, apart := false, narrowed := true }
def CookOpensUptoSaid : Prop := cookOpensUptoRow.holds Tryz.pinned (OpenSpec.upto cookOpensSpec)

/-- 'pendulumlaw25.CookForges', WHERE WHAT IT READS IS OF BULK AT MOST 1048576: true; the input reads as it did. -/
def cookForgesUptoRow : OpenClaim := { program := "ytepefklelohplaagreat", sum := "c2ef4384eafe2595b05fc83ea93278c82396e625d636d6b66cf5dffd07edcd4c", func := "pendulum/pendulumlaw25.CookForges", spec := "cookForges", unfollowed := true, recurses := true, apart := false, narrowed := true }
def CookForgesUptoSaid : Prop := cookForgesUptoRow.holds Tryz.pinned (OpenSpec.upto cookForgesSpec)

/-- 'pendulumlaw25.CookBack', WHERE WHAT IT READS IS OF BULK AT MOST 1048576: true; the input reads as it did. -/
def cookBackUptoRow : OpenClaim := { program := "ytepefklelohplaagreat", sum := "c2ef4384eafe2595b05fc83ea93278c82396e625d636d6b66cf5dffd07edcd4c", func := "pendulum/pendulumlaw25.CookBack", spec := "cookBack", unfollowed := true, recurses := true, apart := false, narrowed := true }
def CookBackUptoSaid : Prop := cookBackUptoRow.holds Tryz.pinned (OpenSpec.upto cookBackSpec)

/-- 'pendulumlaw25.CookMakes', WHERE WHAT IT READS IS OF BULK AT MOST 1048576: true; the input reads as it did. -/
def cookMakesUptoRow : OpenClaim := { program := "ytepefklelohplaagreat", sum := "c2ef4384eafe2595b05fc83ea93278c82396e625d636d6b66cf5dffd07edcd4c", func := "pendulum/pendulumlaw25.CookMakes", spec := "cookMakes", unfollowed := true, recurses := true, apart := false, narrowed := true }
def CookMakesUptoSaid : Prop := cookMakesUptoRow.holds Tryz.pinned (OpenSpec.upto cookMakesSpec)

end Rows
end Go.Proofs.YtepefklelohplaaGreat
