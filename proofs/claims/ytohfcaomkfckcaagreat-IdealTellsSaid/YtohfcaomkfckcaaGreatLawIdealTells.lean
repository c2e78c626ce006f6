import Derived.Test.YtohfcaomkfckcaaGreatPart1
import Derived.Test.YtohfcaomkfckcaaGreatRows
import Derived.WalkKit
import Derived.ProofKit
import Derived.OpenShut
import Derived.ShutString
import Derived.ChangeOld
import Derived.Below
import Derived.SizedLaws

/-! For every input the law IdealTells of layer 22 returns true and leaves its arguments as they were; no condition. -/
set_option linter.unusedSimpArgs false
set_option linter.unusedVariables false

section
namespace Go.Proofs.YtohfcaomkfckcaaGreat.idealTells
open Go.ChangeShapes Go.WideShapes Go.ChangeAt Go.RowKit
set_option linter.unusedVariables false
theorem own : ownKnob Tryz.prog.godebug = none := by kernel_rfl
theorem laidOut : laidOutB Tryz.prog = true := by kernel_rfl
set_option maxRecDepth 100000 in
theorem lifted (os : Os) (started : os.Started) (H : Type) (enc : TypeId × Value → H) :
    ReturnsInHanded {} Tryz.checked os 3 .any (Rows.idealTellsSpec.pre6 enc Tryz.prog Tryz.f3 Rows.idealTellsRow.domain false) (Rows.idealTellsSpec.post enc Tryz.prog Tryz.f3 false true false false) := by
  refine returnsInHanded_of_change_sized (C := Tryz.checked) own started (by kernel_rfl) Tryz.func3
    (ChangeSpec.witness6 (enc := enc) (C := Tryz.checked) false ⟨#[], #[.agg #[.bool false, .slice none 0 0], .agg #[.bool false, .slice none 0 0]], []⟩ 8 (by kernel_rfl) (by kernel_rfl) (by kernel_rfl) (by kernel_rfl)) ?_
  intro W base args ds gs before hval hW _ _ _
  exact Go.AM.law_contract (enc := enc) laidOut (Go.AM.pendulumlaw22_IdealTells.ok .lim) (by kernel_rfl) (by rfl) (by kernel_rfl) rfl (by kernel_rfl) rfl (fun ds h => by match ds, h with | [a, b], _ => rfl) Go.AM.idtells_ok W base args ds gs before hval hW
theorem over : Rows.idealTellsRow.holds Tryz.pinned (OpenSpec.ofChange Rows.idealTellsSpec) :=
  OpenClaim.holds_of_wide 3 Tryz.f3 rfl rfl rfl rfl rfl rfl rfl ⟨rfl, rfl, rfl, rfl, rfl⟩ rfl rfl rfl rfl rfl (by kernel_rfl) Tryz.func3 (by kernel_rfl)
    (of_decide_eq_true (by kernel_rfl)) (by unfold Func.isWrapper; first | (rw [if_pos (by decide +kernel)]; kernel_rfl) | (rw [if_neg (by decide +kernel)]; exact ⟨rfl, rfl⟩))
    (fun os started H enc _ => lifted os started H enc)
theorem proved : Rows.IdealTellsSaid := over
end Go.Proofs.YtohfcaomkfckcaaGreat.idealTells
namespace Go.Proofs.YtohfcaomkfckcaaGreat
/-- The row, under a short name, for the claim. -/
theorem idealTells_holds : Rows.IdealTellsSaid := idealTells.proved
end Go.Proofs.YtohfcaomkfckcaaGreat
end
