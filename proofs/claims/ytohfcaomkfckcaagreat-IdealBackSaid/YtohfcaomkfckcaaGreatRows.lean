/-
  No cell of these rows narrows 'for every input' (looked for: loops, veiled, ifaces, maps, wideKeys, modest, calm, conditions, laid).
  DERIVED. THE GIVEN ROWS OF THIS SEAT. 4 by the template 'for every input the law returns true; each argument reads behind the call as it read before'; 0 by the template 'total and deterministic' (their statements: YtohfcaomkfckcaaGreatTotals.lean).
  GIVEN WITH THE SEED: the statements are not yours to turn. If you find one false, say at which input.
  Laid BY PROGRAM, IN A SANDBOX (cutbox-rows.mjs): the forced cells as the released guide's own fill.sh prints them over the translation b41db6c3332c7fdf… (all of the seat's roots in one cut). By AI agents, Wed Nov 11 2026. No macro, syntax, notation, axiom, sorry.
-/
import Derived.Test.YtohfcaomkfckcaaGreatChecked
import GoSem.Claim
import GoSem.ClaimJoined
import GoSem.ClaimMapViews
import Derived.JoinedTies
import Derived.KernelRfl
namespace Go.Proofs.YtohfcaomkfckcaaGreat
/- THE CELL 'sum', in the pinned program and in every row, IS THE sha256 OF THE DUMP (.gsa) THAT YtohfcaomkfckcaaGreatProg.lean LOADS. Nothing in Lean hashes anything: it is a label: what it is worth is what the hold of that sum in a sandbox is worth. -/
noncomputable def Tryz.pinned : Pinned := { name := "ytohfcaomkfckcaagreat", sum := "b41db6c3332c7fdf1abe5ee89c29af59c4d8ace86fad43ef15367089bc62669a", checked := Tryz.checked }
namespace Rows
def none {H : Type} : Left H := { results := [], args := [] }

/-- 'pendulumlaw22.IdealTells': WHATEVER THE INPUT: true; the input reads as it did. -/
def idealTellsSpec : ChangeSpec := { name := "idealTells", fn := fun _ => fun
  | [d1, d2] => { results := [.lit (.bool true)], args := [d1, d2] }
  | _ => none }
def idealTellsRow : OpenClaim := { program := "ytohfcaomkfckcaagreat", sum := "b41db6c3332c7fdf1abe5ee89c29af59c4d8ace86fad43ef15367089bc62669a", func := "pendulum/pendulumlaw22.IdealTells", spec := "idealTells", inPlace := ["internal/abi.NoEscape", "internal/bytealg.MakeNoZero"], unfollowed := true, recurses := true, apart := false }
def IdealTellsSaid : Prop := idealTellsRow.holds Tryz.pinned (OpenSpec.ofChange idealTellsSpec)

/-- ITS FALSE NEIGHBOUR: 'it returns false'. Refute it at one input. -/
def idealTellsWrong : ChangeSpec := { name := "idealTells", fn := fun _ => fun
  | [d1, d2] => { results := [.lit (.bool false)], args := [d1, d2] }
  | _ => none }
def IdealTellsWrongFalsely : Prop := idealTellsRow.holds Tryz.pinned (OpenSpec.ofChange idealTellsWrong)

/-- 'pendulumlaw22.IdealSeals': WHATEVER THE INPUT: true; the input reads as it did. -/
def idealSealsSpec : ChangeSpec := { name := "idealSeals", fn := fun _ => fun
  | [d1, d2, d3, d4] => { results := [.lit (.bool true)], args := [d1, d2, d3, d4] }
  | _ => none }
def idealSealsRow : OpenClaim := { program := "ytohfcaomkfckcaagreat", sum := "b41db6c3332c7fdf1abe5ee89c29af59c4d8ace86fad43ef15367089bc62669a", func := "pendulum/pendulumlaw22.IdealSeals", spec := "idealSeals", unfollowed := true, recurses := true, apart := false }
def IdealSealsSaid : Prop := idealSealsRow.holds Tryz.pinned (OpenSpec.ofChange idealSealsSpec)

/-- ITS FALSE NEIGHBOUR: 'it returns false'. Refute it at one input. -/
def idealSealsWrong : ChangeSpec := { name := "idealSeals", fn := fun _ => fun
  | [d1, d2, d3, d4] => { results := [.lit (.bool false)], args := [d1, d2, d3, d4] }
  | _ => none }
def IdealSealsWrongFalsely : Prop := idealSealsRow.holds Tryz.pinned (OpenSpec.ofChange idealSealsWrong)

/-- 'pendulumlaw22.IdealBack': WHATEVER THE INPUT: true; the input reads as it did. -/
def idealBackSpec : ChangeSpec := { name := "idealBack", fn := fun _ => fun
  | [d1, d2, d3, d4, d5] => { results := [.lit (.bool true)], args := [d1, d2, d3, d4, d5] }
  | _ => none }
def idealBackRow : OpenClaim := { program := "ytohfcaomkfckcaagreat", sum := "b41db6c3332c7fdf1abe5ee89c29af59c4d8ace86fad43ef15367089bc62669a", func := "pendulum/pendulumlaw22.IdealBack", spec := "idealBack", unfollowed := true, recurses := true, apart := false }
def IdealBackSaid : Prop := idealBackRow.holds Tryz.pinned (OpenSpec.ofChange idealBackSpec)

/-- ITS FALSE NEIGHBOUR: 'it returns false'. Refute it at one input. -/
def idealBackWrong : ChangeSpec := { name := "idealBack", fn := fun _ => fun
  | [d1, d2, d3, d4, d5] => { results := [.lit (.bool false)], args := [d1, d2, d3, d4, d5] }
  | _ => none }
def IdealBackWrongFalsely : Prop := idealBackRow.holds Tryz.pinned (OpenSpec.ofChange idealBackWrong)

/-- 'pendulumlaw22.IdealForges': WHATEVER THE INPUT: true; the input reads as it did. -/
def idealForgesSpec : ChangeSpec := { name := "idealForges", fn := fun _ => fun
  | [d1, d2, d3, d4] => { results := [.lit (.bool true)], args := [d1, d2, d3, d4] }
  | _ => none }
def idealForgesRow : OpenClaim := { program := "ytohfcaomkfckcaagreat", sum := "b41db6c3332c7fdf1abe5ee89c29af59c4d8ace86fad43ef15367089bc62669a", func := "pendulum/pendulumlaw22.IdealForges", spec := "idealForges", unfollowed := true, recurses := true, apart := false }
def IdealForgesSaid : Prop := idealForgesRow.holds Tryz.pinned (OpenSpec.ofChange idealForgesSpec)

/-- ITS FALSE NEIGHBOUR: 'it returns false'. Refute it at one input. -/
def idealForgesWrong : ChangeSpec := { name := "idealForges", fn := fun _ => fun
  | [d1, d2, d3, d4] => { results := [.lit (.bool false)], args := [d1, d2, d3, d4] }
  | _ => none }
def IdealForgesWrongFalsely : Prop := idealForgesRow.holds Tryz.pinned (OpenSpec.ofChange idealForgesWrong)

/- THE SECOND FORM. 'bulk': how many values and letters a reading holds, each counted each time it is reached (what is shared counts as often as it is met; a slice's spare places count too). A statement '..UptoSaid' is the law's where the arguments, and the package variables that the reading takes, are together of bulk at most 1048576: NARROWER than '..Said'. Prove '..Said' where nothing that the law and all that it calls make is longer than what came in: it says more and counts as full. Else prove '..UptoSaid'. A law counts once. -/
mutual
def uptoBulk {H : Type} : DataW H → Nat
  | .lit (.string bytes) => bytes.length + 1
  | .lit _ => 1
  | .nil => 1
  | .ptr d => uptoBulk d + 1
  | .slice elems spare => uptoBulkAll elems + uptoBulkAll spare + 1
  | .agg parts => uptoBulkAll parts + 1
  | .iface _ d => uptoBulk d + 1
  | .map entries => uptoBulkEntries entries + 1
  | .held _ => 1
def uptoBulkAll {H : Type} : List (DataW H) → Nat
  | [] => 0
  | d :: r => uptoBulk d + uptoBulkAll r
def uptoBulkEntries {H : Type} : List (Lit × DataW H) → Nat
  | [] => 0
  | x :: r => uptoBulkEntry x + uptoBulkEntries r
def uptoBulkEntry {H : Type} : Lit × DataW H → Nat
  | (.string bytes, d) => bytes.length + uptoBulk d + 1
  | (_, d) => uptoBulk d + 1
 end
def uptoSmall : (H : Type) → List (DataW H) → Bool := fun _ ds => decide (uptoBulkAll ds ≤ 1048576)
def OpenSpec.upto (s : _root_.Go.ChangeSpec) : _root_.Go.OpenSpec := { _root_.Go.OpenSpec.ofChange s with cond := some uptoSmall }

/-- 'pendulumlaw22.IdealTells', WHERE WHAT IT READS IS OF BULK AT MOST 1048576: true; the input reads as it did. -/
def idealTellsUptoRow : OpenClaim := { program := "ytohfcaomkfckcaagreat", sum := "b41db6c3332c7fdf1abe5ee89c29af59c4d8ace86fad43ef15367089bc62669a", func := "pendulum/pendulumlaw22.IdealTells", spec := "idealTells", inPlace := ["internal/abi.NoEscape", "internal/bytealg.MakeNoZero"], unfollowed := true, recurses := true, apart := false, narrowed := true }
def IdealTellsUptoSaid : Prop := idealTellsUptoRow.holds Tryz.pinned (OpenSpec.upto idealTellsSpec)

/-- 'pendulumlaw22.IdealSeals', WHERE WHAT IT READS IS OF BULK AT MOST 1048576: true; the input reads as it did. -/
def idealSealsUptoRow : OpenClaim := { program := "ytohfcaomkfckcaagreat", sum := "b41db6c3332c7fdf1abe5ee89c29af59c4d8ace86fad43ef15367089bc62669a", func := "pendulum/pendulumlaw22.IdealSeals", spec := "idealSeals", unfollowed := true, recurses := true, apart := false, narrowed := true }
def IdealSealsUptoSaid : Prop := idealSealsUptoRow.holds Tryz.pinned (OpenSpec.upto idealSealsSpec)

/-- 'pendulumlaw22.IdealBack', WHERE WHAT IT READS IS OF BULK AT MOST 1048576: true; the input reads as it did. -/
def idealBackUptoRow : OpenClaim := { program := "ytohfcaomkfckcaagreat", sum := "b41db6c3332c7fdf1abe5ee89c29af59c4d8ace86fad43ef15367089bc62669a", func := "pendulum/pendulumlaw22.IdealBack", spec := "idealBack", unfollowed := true, recurses := true, apart := false, narrowed := true }
def IdealBackUptoSaid : Prop := idealBackUptoRow.holds Tryz.pinned (OpenSpec.upto idealBackSpec)

/-- 'pendulumlaw22.IdealForges', WHERE WHAT IT READS IS OF BULK AT MOST 1048576: true; the input reads as it did. -/
def idealForgesUptoRow : OpenClaim := { program := "ytohfcaomkfckcaagreat", sum := "b41db6c3332c7fdf1abe5ee89c29af59c4d8ace86fad43ef15367089bc62669a", func := "pendulum/pendulumlaw22.IdealForges", spec := "idealForges", unfollowed := true, recurses := true, apart := false, narrowed := true }
def IdealForgesUptoSaid : Prop := idealForgesUptoRow.holds Tryz.pinned (OpenSpec.upto idealForgesSpec)

end Rows
end Go.Proofs.YtohfcaomkfckcaaGreat
