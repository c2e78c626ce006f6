import Derived.Test.YtaicfpkjdobfoaaPart3
import Derived.Test.YtaicfpkjdobfoaaRows
import Derived.WalkKit
import Derived.ProofKit
import Derived.OpenShut
import Derived.ShutString
import Derived.ChangeOld
import Derived.Below
import Derived.SizedLaws

/-! For every input the law SelTruth of layer 29 returns true and leaves its arguments as they were; no condition. -/
set_option linter.unusedSimpArgs false
set_option linter.unusedVariables false

section
namespace Go.Proofs.Ytaicfpkjdobfoaa.selTruth
open Go.ChangeShapes Go.WideShapes Go.ChangeAt Go.RowKit
set_option linter.unusedVariables false
theorem own : ownKnob Try.prog.godebug = none := by kernel_rfl
theorem laidOut : laidOutB Try.prog = true := by kernel_rfl
set_option maxRecDepth 100000 in
theorem lifted (os : Os) (started : os.Started) (H : Type) (enc : TypeId × Value → H) :
    ReturnsInHanded {} Try.checked os 4 .any (Rows.selTruthSpec.pre6 enc Try.prog Try.f4 Rows.selTruthRow.domain false) (Rows.selTruthSpec.post enc Try.prog Try.f4 false true false false) := by
  refine returnsInHanded_of_change_sized (C := Try.checked) own started (by kernel_rfl) Try.func4
    (ChangeSpec.witness6 (enc := enc) (C := Try.checked) false ⟨#[], #[.slice none 0 0, .int .i64 0, .int .i64 0], []⟩ 8 (by kernel_rfl) (by kernel_rfl) (by kernel_rfl) (by kernel_rfl)) ?_
  intro W base args ds gs before hval hW _ _ _
  exact Go.AM.law_contract (enc := enc) laidOut (Go.AM.pendulumlaw29_SelTruth.ok .lim) (by kernel_rfl) (by rfl) (by kernel_rfl) rfl (by kernel_rfl) rfl (fun ds h => by match ds, h with | [a, b, c], _ => rfl) Go.AM.truth_ok W base args ds gs before hval hW
theorem over : Rows.selTruthRow.holds Try.pinned (OpenSpec.ofChange Rows.selTruthSpec) :=
  OpenClaim.holds_of_wide 4 Try.f4 rfl rfl rfl rfl rfl rfl rfl ⟨rfl, rfl, rfl, rfl, rfl⟩ rfl rfl rfl rfl rfl (by kernel_rfl) Try.func4 (by kernel_rfl)
    (of_decide_eq_true (by kernel_rfl)) (by unfold Func.isWrapper; first | (rw [if_pos (by decide +kernel)]; kernel_rfl) | (rw [if_neg (by decide +kernel)]; exact ⟨rfl, rfl⟩))
    (fun os started H enc _ => lifted os started H enc)
theorem proved : Rows.SelTruthSaid := over
end Go.Proofs.Ytaicfpkjdobfoaa.selTruth
namespace Go.Proofs.Ytaicfpkjdobfoaa
/-- The row, under a short name, for the claim. -/
theorem selTruth_holds : Rows.SelTruthSaid := selTruth.proved
end Go.Proofs.Ytaicfpkjdobfoaa
end
