/-
  No cell of these rows narrows 'for every input' (looked for: loops, veiled, ifaces, maps, wideKeys, modest, calm, conditions, laid).
  DERIVED. THE GIVEN ROWS OF THIS SEAT. 4 by the template 'for every input the law returns true; each argument reads behind the call as it read before'; 0 by the template 'total and deterministic' (their statements: YtbpfiolmmdmapaaGreatTotals.lean).
  GIVEN WITH THE SEED: the statements are not yours to turn. If you find one false, say at which input.
  Laid BY PROGRAM, IN A SANDBOX (cutbox-rows.mjs): the forced cells as the released guide's own fill.sh prints them over the translation a11fe6bbf7f05f99… (all of the seat's roots in one cut). By AI agents, Wed Nov 11 2026. No macro, syntax, notation, axiom, sorry.
-/
import Derived.Test.YtbpfiolmmdmapaaGreatChecked
import GoSem.Claim
import GoSem.ClaimJoined
import GoSem.ClaimMapViews
import Derived.JoinedTies
import Derived.KernelRfl
namespace Go.Proofs.YtbpfiolmmdmapaaGreat
/- THE CELL 'sum', in the pinned program and in every row, IS THE sha256 OF THE DUMP (.gsa) THAT YtbpfiolmmdmapaaGreatProg.lean LOADS. Nothing in Lean hashes anything: it is a label: what it is worth is what the hold of that sum in a sandbox is worth. -/
noncomputable def Tryz.pinned : Pinned := { name := "ytbpfiolmmdmapaagreat", sum := "a11fe6bbf7f05f991238f6b687632e973d7fa1d0b81c0e7b0897438bbeaa4498", checked := Tryz.checked }
namespace Rows
def none {H : Type} : Left H := { results := [], args := [] }

/-- 'pendulumlaw27.AskSpends': WHATEVER THE INPUT: true; the input reads as it did. -/
def askSpendsSpec : ChangeSpec := { name := "askSpends", fn := fun _ => fun
  | [d1, d2, d3, d4, d5] => { results := [.lit (.bool true)], args := [d1, d2, d3, d4, d5] }
  | _ => none }
def askSpendsRow : OpenClaim := { program := "ytbpfiolmmdmapaagreat", sum := "a11fe6bbf7f05f991238f6b687632e973d7fa1d0b81c0e7b0897438bbeaa4498", func := "pendulum/pendulumlaw27.AskSpends", spec := "askSpends", inPlace := ["internal/abi.NoEscape", "internal/bytealg.MakeNoZero", "sync/atomic.StoreUint64", "sync/atomic.AddUint64"], unfollowed := true, recurses := true, apart := false }
def AskSpendsSaid : Prop := askSpendsRow.holds Tryz.pinned (OpenSpec.ofChange askSpendsSpec)

/-- ITS FALSE NEIGHBOUR: 'it returns false'. Refute it at one input. -/
def askSpendsWrong : ChangeSpec := { name := "askSpends", fn := fun _ => fun
  | [d1, d2, d3, d4, d5] => { results := [.lit (.bool false)], args := [d1, d2, d3, d4, d5] }
  | _ => none }
def AskSpendsWrongFalsely : Prop := askSpendsRow.holds Tryz.pinned (OpenSpec.ofChange askSpendsWrong)

/-- 'pendulumlaw27.AskDoes': WHATEVER THE INPUT: true; the input reads as it did. -/
def askDoesSpec : ChangeSpec := { name := "askDoes", fn := fun _ => fun
  | [d1, d2, d3, d4, d5, d6] => { results := [.lit (.bool true)], args := [d1, d2, d3, d4, d5, d6] }
  | _ => none }
def askDoesRow : OpenClaim := { program := "ytbpfiolmmdmapaagreat", sum := "a11fe6bbf7f05f991238f6b687632e973d7fa1d0b81c0e7b0897438bbeaa4498", func := "pendulum/pendulumlaw27.AskDoes", spec := "askDoes", inPlace := ["internal/abi.NoEscape", "internal/bytealg.MakeNoZero", "sync/atomic.StoreUint64", "sync/atomic.AddUint64"], unfollowed := true, recurses := true, apart := false }
def AskDoesSaid : Prop := askDoesRow.holds Tryz.pinned (OpenSpec.ofChange askDoesSpec)

/-- ITS FALSE NEIGHBOUR: 'it returns false'. Refute it at one input. -/
def askDoesWrong : ChangeSpec := { name := "askDoes", fn := fun _ => fun
  | [d1, d2, d3, d4, d5, d6] => { results := [.lit (.bool false)], args := [d1, d2, d3, d4, d5, d6] }
  | _ => none }
def AskDoesWrongFalsely : Prop := askDoesRow.holds Tryz.pinned (OpenSpec.ofChange askDoesWrong)

/-- 'pendulumlaw27.AskOnce': WHATEVER THE INPUT: true; the input reads as it did. -/
def askOnceSpec : ChangeSpec := { name := "askOnce", fn := fun _ => fun
  | [d1, d2, d3, d4, d5] => { results := [.lit (.bool true)], args := [d1, d2, d3, d4, d5] }
  | _ => none }
def askOnceRow : OpenClaim := { program := "ytbpfiolmmdmapaagreat", sum := "a11fe6bbf7f05f991238f6b687632e973d7fa1d0b81c0e7b0897438bbeaa4498", func := "pendulum/pendulumlaw27.AskOnce", spec := "askOnce", inPlace := ["internal/abi.NoEscape", "internal/bytealg.MakeNoZero", "sync/atomic.StoreUint64", "sync/atomic.AddUint64"], unfollowed := true, recurses := true, apart := false }
def AskOnceSaid : Prop := askOnceRow.holds Tryz.pinned (OpenSpec.ofChange askOnceSpec)

/-- ITS FALSE NEIGHBOUR: 'it returns false'. Refute it at one input. -/
def askOnceWrong : ChangeSpec := { name := "askOnce", fn := fun _ => fun
  | [d1, d2, d3, d4, d5] => { results := [.lit (.bool false)], args := [d1, d2, d3, d4, d5] }
  | _ => none }
def AskOnceWrongFalsely : Prop := askOnceRow.holds Tryz.pinned (OpenSpec.ofChange askOnceWrong)

/-- 'pendulumlaw27.AskFills': WHATEVER THE INPUT: true; the input reads as it did. -/
def askFillsSpec : ChangeSpec := { name := "askFills", fn := fun _ => fun
  | [d1, d2, d3, d4, d5, d6, d7, d8, d9, d10] => { results := [.lit (.bool true)], args := [d1, d2, d3, d4, d5, d6, d7, d8, d9, d10] }
  | _ => none }
def askFillsRow : OpenClaim := { program := "ytbpfiolmmdmapaagreat", sum := "a11fe6bbf7f05f991238f6b687632e973d7fa1d0b81c0e7b0897438bbeaa4498", func := "pendulum/pendulumlaw27.AskFills", spec := "askFills", inPlace := ["internal/abi.NoEscape", "internal/bytealg.MakeNoZero", "sync/atomic.StoreUint64", "sync/atomic.AddUint64"], unfollowed := true, recurses := true, apart := false }
def AskFillsSaid : Prop := askFillsRow.holds Tryz.pinned (OpenSpec.ofChange askFillsSpec)

/-- ITS FALSE NEIGHBOUR: 'it returns false'. Refute it at one input. -/
def askFillsWrong : ChangeSpec := { name := "askFills", fn := fun _ => fun
  | [d1, d2, d3, d4, d5, d6, d7, d8, d9, d10] => { results := [.lit (.bool false)], args := [d1, d2, d3, d4, d5, d6, d7, d8, d9, d10] }
  | _ => none }
def AskFillsWrongFalsely : Prop := askFillsRow.holds Tryz.pinned (OpenSpec.ofChange askFillsWrong)

/- THE SECOND FORM. 'bulk': how many values and letters a reading holds, each counted each time it is reached (what is shared counts as often as it is met; a slice's spare places count too). A statement '..UptoSaid' is the law's where the arguments, and the package variables that the reading takes, are together of bulk at most 1048576: NARROWER than '..Said'. Prove '..Said' where nothing that the law and all that it calls make is longer than what came in: it says more and counts as full. Else prove '..UptoSaid'. A law counts once. -/
mutual
def uptoBulk {H : Type} : DataW H → Nat
  | .lit (.string bytes) => bytes.length + 1
  | .lit _ => 1
  | .nil => 1
  | .ptr d => uptoBulk d + 1
  | .slice elems spare => uptoBulkAll elems + uptoBulkAll spare + 1
  | .agg parts => uptoBulkAll parts + 1
  | .iface _ d => uptoBulk d + 1
  | .map entries => uptoBulkEntries entries + 1
  | .held _ => 1
def uptoBulkAll {H : Type} : List (DataW H) → Nat
  | [] => 0
  | d :: r => uptoBulk d + uptoBulkAll r
def uptoBulkEntries {H : Type} : List (Lit × DataW H) → Nat
  | [] => 0
  | x :: r => uptoBulkEntry x + uptoBulkEntries r
def uptoBulkEntry {H : Type} : Lit × DataW H → Nat
  | (.string bytes, d) => bytes.length + uptoBulk d + 1
  | (_, d) => uptoBulk d + 1
 end
def uptoSmall : (H : Type) → List (DataW H) → Bool := fun _ ds => decide (uptoBulkAll ds ≤ 1048576)
def OpenSpec.upto (s : _root_.Go.ChangeSpec) : _root_.Go.OpenSpec := { _root_.Go.OpenSpec.ofChange s with cond := some uptoSmall }

/-- 'pendulumlaw27.AskSpends', WHERE WHAT IT READS IS OF BULK AT MOST 1048576: true; the input reads as it did. -/
def askSpendsUptoRow : OpenClaim := { program := "ytbpfiolmmdmapaagreat", sum := "a11fe6bbf7f05f991238f6b687632e973d7fa1d0b81c0e7b0897438bbeaa4498", func := "pendulum/pendulumlaw27.AskSpends", spec := "askSpends", inPlace := ["internal/abi.NoEscape", "internal/bytealg.MakeNoZero", "sync/atomic.StoreUint64", "sync/atomic.AddUint64"], unfollowed := true, recurses := true, apart := false, narrowed := true }
def AskSpendsUptoSaid : Prop := askSpendsUptoRow.holds Tryz.pinned (OpenSpec.upto askSpendsSpec)

/-- 'pendulumlaw27.AskDoes', WHERE WHAT IT READS IS OF BULK AT MOST 1048576: true; the input reads as it did. -/
def askDoesUptoRow : OpenClaim := { program := "ytbpfiolmmdmapaagreat", sum := "a11fe6bbf7f05f991238f6b687632e973d7fa1d0b81c0e7b0897438bbeaa4498", func := "pendulum/pendulumlaw27.AskDoes", spec := "askDoes", inPlace := ["internal/abi.NoEscape", "internal/bytealg.MakeNoZero", "sync/atomic.StoreUint64", "sync/atomic.AddUint64"], unfollowed := true, recurses := true, apart := false, narrowed := true }
def AskDoesUptoSaid : Prop := askDoesUptoRow.holds Tryz.pinned (OpenSpec.upto askDoesSpec)

/-- 'pendulumlaw27.AskOnce', WHERE WHAT IT READS IS OF BULK AT MOST 1048576: true; the input reads as it did. -/
def askOnceUptoRow : OpenClaim := { program := "ytbpfiolmmdmapaagreat", sum := "a11fe6bbf7f05f991238f6b687632e973d7fa1d0b81c0e7b0897438bbeaa4498", func := "pendulum/pendulumlaw27.AskOnce", spec := "askOnce", inPlace := ["internal/abi.NoEscape", "internal/bytealg.MakeNoZero", "sync/atomic.StoreUint64", "sync/atomic.AddUint64"], unfollowed := true, recurses := true, apart := false, narrowed := true }
def AskOnceUptoSaid : Prop := askOnceUptoRow.holds Tryz.pinned (OpenSpec.upto askOnceSpec)

/-- 'pendulumlaw27.AskFills', WHERE WHAT IT READS IS OF BULK AT MOST 1048576: true; the input reads as it did. -/
def askFillsUptoRow : OpenClaim := { program := "ytbpfiolmmdmapaagreat", sum := "a11fe6bbf7f05f991238f6b687632e973d7fa1d0b81c0e7b0897438bbeaa4498", func := "pendulum/pendulumlaw27.AskFills", spec := "askFills", inPlace := ["internal/abi.NoEscape", "internal/bytealg.MakeNoZero", "sync/atomic.StoreUint64", "sync/atomic.AddUint64"], unfollowed := true, recurses := true, apart := false, narrowed := true }
def AskFillsUptoSaid : Prop := askFillsUptoRow.holds Tryz.pinned (OpenSpec.upto askFillsSpec)

end Rows
end Go.Proofs.YtbpfiolmmdmapaaGreat
