/-
  No cell of these rows narrows 'for every input' (looked for: loops, veiled, ifaces, maps, wideKeys, modest, calm, conditions, laid).
  DERIVED. THE GIVEN ROWS OF THIS SEAT. 4 by the template 'for every input the law returns true; each argument reads behind the call as it read before'; 0 by the template 'total and deterministic' (their statements: YtbkblmaplmbicaaTotals.lean).
  GIVEN WITH THE SEED: the statements are not yours to turn. If you find one false, say at which input.
  Laid BY PROGRAM, IN A SANDBOX (cutbox-rows.mjs): the forced cells as the released guide's own fill.sh prints them over the translation 1688bdb1e607441d… (all of the seat's roots in one cut). By AI agents, Wed Nov 11 2026. No macro, syntax, notation, axiom, sorry.
-/
import Derived.Test.YtbkblmaplmbicaaChecked
import GoSem.Claim
import GoSem.ClaimJoined
import GoSem.ClaimMapViews
import Derived.JoinedTies
import Derived.KernelRfl
namespace Go.Proofs.Ytbkblmaplmbicaa
/- THE CELL 'sum', in the pinned program and in every row, IS THE sha256 OF THE DUMP (.gsa) THAT YtbkblmaplmbicaaProg.lean LOADS. Nothing in Lean hashes anything: it is a label: what it is worth is what the hold of that sum in a sandbox is worth. -/
noncomputable def Try.pinned : Pinned := { name := "ytbkblmaplmbicaa", sum := "1688bdb1e607441d38207f229c394cc063e4ecf7fb20d4b9a2bfe25f4b5a1a69", checked := Try.checked }
namespace Rows
def none {H : Type} : Left H := { results := [], args := [] }

/-- 'pendulumlaw30.CombTells': WHATEVER THE INPUT: true; the input reads as it did. -/
def combTellsSpec : ChangeSpec := { name := "combTells", fn := fun _ => fun
  | [d1, d2] => { results := [.lit (.bool true)], args := [d1, d2] }
  | _ => none }
def combTellsRow : OpenClaim := { program := "ytbkblmaplmbicaa", sum := "1688bdb1e607441d38207f229c394cc063e4ecf7fb20d4b9a2bfe25f4b5a1a69", func := "pendulum/pendulumlaw30.CombTells", spec := "combTells", unfollowed := true, recurses := true, apart := false }
def CombTellsSaid : Prop := combTellsRow.holds Try.pinned (OpenSpec.ofChange combTellsSpec)

/-- ITS FALSE NEIGHBOUR: 'it returns false'. Refute it at one input. -/
def combTellsWrong : ChangeSpec := { name := "combTells", fn := fun _ => fun
  | [d1, d2] => { results := [.lit (.bool false)], args := [d1, d2] }
  | _ => none }
def CombTellsWrongFalsely : Prop := combTellsRow.holds Try.pinned (OpenSpec.ofChange combTellsWrong)

/-- 'pendulumlaw30.CombLeft': WHATEVER THE INPUT: true; the input reads as it did. -/
def combLeftSpec : ChangeSpec := { name := "combLeft", fn := fun _ => fun
  | [d] => { results := [.lit (.bool true)], args := [d] }
  | _ => none }
def combLeftRow : OpenClaim := { program := "ytbkblmaplmbicaa", sum := "1688bdb1e607441d38207f229c394cc063e4ecf7fb20d4b9a2bfe25f4b5a1a69", func := "pendulum/pendulumlaw30.CombLeft", spec := "combLeft", unfollowed := true, recurses := true, apart := false }
def CombLeftSaid : Prop := combLeftRow.holds Try.pinned (OpenSpec.ofChange combLeftSpec)

/-- ITS FALSE NEIGHBOUR: 'it returns false'. Refute it at one input. -/
def combLeftWrong : ChangeSpec := { name := "combLeft", fn := fun _ => fun
  | [d] => { results := [.lit (.bool false)], args := [d] }
  | _ => none }
def CombLeftWrongFalsely : Prop := combLeftRow.holds Try.pinned (OpenSpec.ofChange combLeftWrong)

/-- 'pendulumlaw30.CombBetween': WHATEVER THE INPUT: true; the input reads as it did. -/
def combBetweenSpec : ChangeSpec := { name := "combBetween", fn := fun _ => fun
  | [d] => { results := [.lit (.bool true)], args := [d] }
  | _ => none }
def combBetweenRow : OpenClaim := { program := "ytbkblmaplmbicaa", sum := "1688bdb1e607441d38207f229c394cc063e4ecf7fb20d4b9a2bfe25f4b5a1a69", func := "pendulum/pendulumlaw30.CombBetween", spec := "combBetween", unfollowed := true, recurses := true, apart := false }
def CombBetweenSaid : Prop := combBetweenRow.holds Try.pinned (OpenSpec.ofChange combBetweenSpec)

/-- ITS FALSE NEIGHBOUR: 'it returns false'. Refute it at one input. -/
def combBetweenWrong : ChangeSpec := { name := "combBetween", fn := fun _ => fun
  | [d] => { results := [.lit (.bool false)], args := [d] }
  | _ => none }
def CombBetweenWrongFalsely : Prop := combBetweenRow.holds Try.pinned (OpenSpec.ofChange combBetweenWrong)

/-- 'pendulumlaw30.CombFar': WHATEVER THE INPUT: true; the input reads as it did. -/
def combFarSpec : ChangeSpec := { name := "combFar", fn := fun _ => fun
  | [d] => { results := [.lit (.bool true)], args := [d] }
  | _ => none }
def combFarRow : OpenClaim := { program := "ytbkblmaplmbicaa", sum := "1688bdb1e607441d38207f229c394cc063e4ecf7fb20d4b9a2bfe25f4b5a1a69", func := "pendulum/pendulumlaw30.CombFar", spec := "combFar", unfollowed := true, recurses := true, apart := false }
def CombFarSaid : Prop := combFarRow.holds Try.pinned (OpenSpec.ofChange combFarSpec)

/-- ITS FALSE NEIGHBOUR: 'it returns false'. Refute it at one input. -/
def combFarWrong : ChangeSpec := { name := "combFar", fn := fun _ => fun
  | [d] => { results := [.lit (.bool false)], args := [d] }
  | _ => none }
def CombFarWrongFalsely : Prop := combFarRow.holds Try.pinned (OpenSpec.ofChange combFarWrong)

/- THE SECOND FORM. 'bulk': how many values and letters a reading holds, each counted each time it is reached (what is shared counts as often as it is met; a slice's spare places count too). A statement '..UptoSaid' is the law's where the arguments, and the package variables that the reading takes, are together of bulk at most 1048576: NARROWER than '..Said'. Prove '..Said' where nothing that the law and all that it calls make is longer than what came in: it says more and counts as full. Else prove '..UptoSaid'. A law counts once. -/
mutual
def uptoBulk {H : Type} : DataW H → Nat
  | .lit (.string bytes) => bytes.length + 1
  | .lit _ => 1
  | .nil => 1
  | .ptr d => uptoBulk d + 1
  | .slice elems spare => uptoBulkAll elems + uptoBulkAll spare + 1
  | .agg parts => uptoBulkAll parts + 1
  | .iface _ d => uptoBulk d + 1
  | .map entries => uptoBulkEntries entries + 1
  | .held _ => 1
def uptoBulkAll {H : Type} : List (DataW H) → Nat
  | [] => 0
  | d :: r => uptoBulk d + uptoBulkAll r
def uptoBulkEntries {H : Type} : List (Lit × DataW H) → Nat
  | [] => 0
  | x :: r => uptoBulkEntry x + uptoBulkEntries r
def uptoBulkEntry {H : Type} : Lit × DataW H → Nat
  | (.string bytes, d) => bytes.length + uptoBulk d + 1
  | (_, d) => uptoBulk d + 1
 end
def uptoSmall : (H : Type) → List (DataW H) → Bool := fun _ ds => decide (uptoBulkAll ds ≤ 1048576)
def OpenSpec.upto (s : _root_.Go.ChangeSpec) : _root_.Go.OpenSpec := { _root_.Go.OpenSpec.ofChange s with cond := some uptoSmall }

/-- 'pendulumlaw30.CombTells', WHERE WHAT IT READS IS OF BULK AT MOST 1048576: true; the input reads as it did. -/
def combTellsUptoRow : OpenClaim := { program := "ytbkblmaplmbicaa", sum := "1688bdb1e607441d38207f229c394cc063e4ecf7fb20d4b9a2bfe25f4b5a1a69", func := "pendulum/pendulumlaw30.CombTells", spec := "combTells", unfollowed := true, recurses := true, apart := false, narrowed := true }
def CombTellsUptoSaid : Prop := combTellsUptoRow.holds Try.pinned (OpenSpec.upto combTellsSpec)

/-- 'pendulumlaw30.CombLeft', WHERE WHAT IT READS IS OF BULK AT MOST 1048576: true; the input reads as it did. -/
def combLeftUptoRow : OpenClaim := { program := "ytbkblmaplmbicaa", sum := "1688bdb1e607441d38207f229c394cc063e4ecf7fb20d4b9a2bfe25f4b5a1a69", func := "pendulum/pendulumlaw30.CombLeft", spec := "combLeft", unfollowed := true, recurses := true, apart := false, narrowed := true }
def CombLeftUptoSaid : Prop := combLeftUptoRow.holds Try.pinned (OpenSpec.upto combLeftSpec)

/-- 'pendulumlaw30.CombBetween', WHERE WHAT IT READS IS OF BULK AT MOST 1048576: true; the input reads as it did. -/
def combBetweenUptoRow : OpenClaim := { program := "ytbkblmaplmbicaa", sum := "1688bdb1e607441d38207f229c394cc063e4ecf7fb20d4b9a2bfe25f4b5a1a69", func := "pendulum/pendulumlaw30.CombBetween", spec := "combBetween", unfollowed := true, recurses := true, apart := false, narrowed := true }
def CombBetweenUptoSaid : Prop := combBetweenUptoRow.holds Try.pinned (OpenSpec.upto combBetweenSpec)

/-- 'pendulumlaw30.CombFar', WHERE WHAT IT READS IS OF BULK AT MOST 1048576: true; the input reads as it did. -/
def combFarUptoRow : OpenClaim := { program := "ytbkblmaplmbicaa", sum := "1688bdb1e607441d38207f229c394cc063e4ecf7fb20d4b9a2bfe25f4b5a1a69", func := "pendulum/pendulumlaw30.CombFar", spec := "combFar", unfollowed := true, recurses := true, apart := false, narrowed := true }
def CombFarUptoSaid : Prop := combFarUptoRow.holds Try.pinned (OpenSpec.upto combFarSpec)

end Rows
end Go.Proofs.Ytbkblmaplmbicaa
