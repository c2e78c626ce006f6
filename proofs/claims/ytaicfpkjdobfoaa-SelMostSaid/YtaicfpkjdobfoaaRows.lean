/-
  No cell of these rows narrows 'for every input' (looked for: loops, veiled, ifaces, maps, wideKeys, modest, calm, conditions, laid).
  DERIVED. THE GIVEN ROWS OF THIS SEAT. 4 by the template 'for every input the law returns true; each argument reads behind the call as it read before'; 0 by the template 'total and deterministic' (their statements: YtaicfpkjdobfoaaTotals.lean).
  GIVEN WITH THE SEED: the statements are not yours to turn. If you find one false, say at which input.
  Laid BY PROGRAM, IN A SANDBOX (cutbox-rows.mjs): the forced cells as the released guide's own fill.sh prints them over the translation 94a3fff7c57754fe… (all of the seat's roots in one cut). By AI agents, Wed Nov 11 2026. No macro, syntax, notation, axiom, sorry.
-/
import Derived.Test.YtaicfpkjdobfoaaChecked
import GoSem.Claim
import GoSem.ClaimJoined
import GoSem.ClaimMapViews
import Derived.JoinedTies
import Derived.KernelRfl
namespace Go.Proofs.Ytaicfpkjdobfoaa
/- THE CELL 'sum', in the pinned program and in every row, IS THE sha256 OF THE DUMP (.gsa) THAT YtaicfpkjdobfoaaProg.lean LOADS. Nothing in Lean hashes anything: it is a label: what it is worth is what the hold of that sum in a sandbox is worth. -/
noncomputable def Try.pinned : Pinned := { name := "ytaicfpkjdobfoaa", sum := "94a3fff7c57754fe000df3fdc140b848635c7df8559cb3201ebe0fe0efa44b45", checked := Try.checked }
namespace Rows
def none {H : Type} : Left H := { results := [], args := [] }

/-- 'pendulumlaw29.SelSelects': WHATEVER THE INPUT: true; the input reads as it did. -/
def selSelectsSpec : ChangeSpec := { name := "selSelects", fn := fun _ => fun
  | [d] => { results := [.lit (.bool true)], args := [d] }
  | _ => none }
def selSelectsRow : OpenClaim := { program := "ytaicfpkjdobfoaa", sum := "94a3fff7c57754fe000df3fdc140b848635c7df8559cb3201ebe0fe0efa44b45", func := "pendulum/pendulumlaw29.SelSelects", spec := "selSelects", unfollowed := true, recurses := true, apart := false }
def SelSelectsSaid : Prop := selSelectsRow.holds Try.pinned (OpenSpec.ofChange selSelectsSpec)

/-- ITS FALSE NEIGHBOUR: 'it returns false'. Refute it at one input. -/
def selSelectsWrong : ChangeSpec := { name := "selSelects", fn := fun _ => fun
  | [d] => { results := [.lit (.bool false)], args := [d] }
  | _ => none }
def SelSelectsWrongFalsely : Prop := selSelectsRow.holds Try.pinned (OpenSpec.ofChange selSelectsWrong)

/-- 'pendulumlaw29.SelTruth': WHATEVER THE INPUT: true; the input reads as it did. -/
def selTruthSpec : ChangeSpec := { name := "selTruth", fn := fun _ => fun
  | [d1, d2, d3] => { results := [.lit (.bool true)], args := [d1, d2, d3] }
  | _ => none }
def selTruthRow : OpenClaim := { program := "ytaicfpkjdobfoaa", sum := "94a3fff7c57754fe000df3fdc140b848635c7df8559cb3201ebe0fe0efa44b45", func := "pendulum/pendulumlaw29.SelTruth", spec := "selTruth", unfollowed := true, recurses := true, apart := false }
def SelTruthSaid : Prop := selTruthRow.holds Try.pinned (OpenSpec.ofChange selTruthSpec)

/-- ITS FALSE NEIGHBOUR: 'it returns false'. Refute it at one input. -/
def selTruthWrong : ChangeSpec := { name := "selTruth", fn := fun _ => fun
  | [d1, d2, d3] => { results := [.lit (.bool false)], args := [d1, d2, d3] }
  | _ => none }
def SelTruthWrongFalsely : Prop := selTruthRow.holds Try.pinned (OpenSpec.ofChange selTruthWrong)

/-- 'pendulumlaw29.SelMost': WHATEVER THE INPUT: true; the input reads as it did. -/
def selMostSpec : ChangeSpec := { name := "selMost", fn := fun _ => fun
  | [d1, d2, d3] => { results := [.lit (.bool true)], args := [d1, d2, d3] }
  | _ => none }
def selMostRow : OpenClaim := { program := "ytaicfpkjdobfoaa", sum := "94a3fff7c57754fe000df3fdc140b848635c7df8559cb3201ebe0fe0efa44b45", func := "pendulum/pendulumlaw29.SelMost", spec := "selMost", unfollowed := true, recurses := true, apart := false }
def SelMostSaid : Prop := selMostRow.holds Try.pinned (OpenSpec.ofChange selMostSpec)

/-- ITS FALSE NEIGHBOUR: 'it returns false'. Refute it at one input. -/
def selMostWrong : ChangeSpec := { name := "selMost", fn := fun _ => fun
  | [d1, d2, d3] => { results := [.lit (.bool false)], args := [d1, d2, d3] }
  | _ => none }
def SelMostWrongFalsely : Prop := selMostRow.holds Try.pinned (OpenSpec.ofChange selMostWrong)

/-- 'pendulumlaw29.SelTells': WHATEVER THE INPUT: true; the input reads as it did. -/
def selTellsSpec : ChangeSpec := { name := "selTells", fn := fun _ => fun
  | [d1, d2] => { results := [.lit (.bool true)], args := [d1, d2] }
  | _ => none }
def selTellsRow : OpenClaim := { program := "ytaicfpkjdobfoaa", sum := "94a3fff7c57754fe000df3fdc140b848635c7df8559cb3201ebe0fe0efa44b45", func := "pendulum/pendulumlaw29.SelTells", spec := "selTells", unfollowed := true, recurses := true, apart := false }
def SelTellsSaid : Prop := selTellsRow.holds Try.pinned (OpenSpec.ofChange selTellsSpec)

/-- ITS FALSE NEIGHBOUR: 'it returns false'. Refute it at one input. -/
def selTellsWrong : ChangeSpec := { name := "selTells", fn := fun _ => fun
  | [d1, d2] => { results := [.lit (.bool false)], args := [d1, d2] }
  | _ => none }
def SelTellsWrongFalsely : Prop := selTellsRow.holds Try.pinned (OpenSpec.ofChange selTellsWrong)

/- THE SECOND FORM. 'bulk': how many values and letters a reading holds, each counted each time it is reached (what is shared counts as often as it is met; a slice's spare places count too). A statement '..UptoSaid' is the law's where the arguments, and the package variables that the reading takes, are together of bulk at most 1048576: NARROWER than '..Said'. Prove '..Said' where nothing that the law and all that it calls make is longer than what came in: it says more and counts as full. Else prove '..UptoSaid'. A law counts once. -/
mutual
def uptoBulk {H : Type} : DataW H → Nat
  | .lit (.string bytes) => bytes.length + 1
  | .lit _ => 1
  | .nil => 1
  | .ptr d => uptoBulk d + 1
  | .slice elems spare => uptoBulkAll elems + uptoBulkAll spare + 1
  | .agg parts => uptoBulkAll parts + 1
  | .iface _ d => uptoBulk d + 1
  | .map entries => uptoBulkEntries entries + 1
  | .held _ => 1
def uptoBulkAll {H : Type} : List (DataW H) → Nat
  | [] => 0
  | d :: r => uptoBulk d + uptoBulkAll r
def uptoBulkEntries {H : Type} : List (Lit × DataW H) → Nat
  | [] => 0
  | x :: r => uptoBulkEntry x + uptoBulkEntries r
def uptoBulkEntry {H : Type} : Lit × DataW H → Nat
  | (.string bytes, d) => bytes.length + uptoBulk d + 1
  | (_, d) => uptoBulk d + 1
 end
def uptoSmall : (H : Type) → List (DataW H) → Bool := fun _ ds => decide (uptoBulkAll ds ≤ 1048576)
def OpenSpec.upto (s : _root_.Go.ChangeSpec) : _root_.Go.OpenSpec := { _root_.Go.OpenSpec.ofChange s with cond := some uptoSmall }

/-- 'pendulumlaw29.SelSelects', WHERE WHAT IT READS IS OF BULK AT MOST 1048576: true; the input reads as it did. -/
def selSelectsUptoRow : OpenClaim := { program := "ytaicfpkjdobfoaa", sum := "94a3fff7c57754fe000df3fdc140b848635c7df8559cb3201ebe0fe0efa44b45", func := "pendulum/pendulumlaw29.SelSelects", spec := "selSelects", unfollowed := true, recurses := true, apart := false, narrowed := true }
def SelSelectsUptoSaid : Prop := selSelectsUptoRow.holds Try.pinned (OpenSpec.upto selSelectsSpec)

/-- 'pendulumlaw29.SelTruth', WHERE WHAT IT READS IS OF BULK AT MOST 1048576: true; the input reads as it did. -/
def selTruthUptoRow : OpenClaim := { program := "ytaicfpkjdobfoaa", sum := "94a3fff7c57754fe000df3fdc140b848635c7df8559cb3201ebe0fe0efa44b45", func := "pendulum/pendulumlaw29.SelTruth", spec := "selTruth", unfollowed := true, recurses := true, apart := false, narrowed := true }
def SelTruthUptoSaid : Prop := selTruthUptoRow.holds Try.pinned (OpenSpec.upto selTruthSpec)

/-- 'pendulumlaw29.SelMost', WHERE WHAT IT READS IS OF BULK AT MOST 1048576: true; the input reads as it did. -/
def selMostUptoRow : OpenClaim := { program := "ytaicfpkjdobfoaa", sum := "94a3fff7c57754fe000df3fdc140b848635c7df8559cb3201ebe0fe0efa44b45", func := "pendulum/pendulumlaw29.SelMost", spec := "selMost", unfollowed := true, recurses := true, apart := false, narrowed := true }
def SelMostUptoSaid : Prop := selMostUptoRow.holds Try.pinned (OpenSpec.upto selMostSpec)

/-- 'pendulumlaw29.SelTells', WHERE WHAT IT READS IS OF BULK AT MOST 1048576: true; the input reads as it did. -/
def selTellsUptoRow : OpenClaim := { program := "ytaicfpkjdobfoaa", sum := "94a3fff7c57754fe000df3fdc140b848635c7df8559cb3201ebe0fe0efa44b45", func := "pendulum/pendulumlaw29.SelTells", spec := "selTells", unfollowed := true, recurses := true, apart := false, narrowed := true }
def SelTellsUptoSaid : Prop := selTellsUptoRow.holds Try.pinned (OpenSpec.upto selTellsSpec)

end Rows
end Go.Proofs.Ytaicfpkjdobfoaa
