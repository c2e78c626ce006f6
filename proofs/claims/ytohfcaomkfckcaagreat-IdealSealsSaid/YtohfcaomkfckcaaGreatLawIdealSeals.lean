import Derived.Test.YtohfcaomkfckcaaGreatPart4
import Derived.Test.YtohfcaomkfckcaaGreatRows
import Derived.WalkKit
import Derived.ProofKit
import Derived.OpenShut
import Derived.ShutString
import Derived.ChangeOld
import Derived.Below
import Derived.SizedLaws

/-! For every input the law IdealSeals of layer 22 returns true and leaves its arguments as they were; no condition. -/
set_option linter.unusedSimpArgs false
set_option linter.unusedVariables false

section
namespace Go.Proofs.YtohfcaomkfckcaaGreat.idealSeals
open Go.ChangeShapes Go.WideShapes Go.ChangeAt Go.RowKit
set_option linter.unusedVariables false
theorem own : ownKnob Tryz.prog.godebug = none := by kernel_rfl
theorem laidOut : laidOutB Tryz.prog = true := by kernel_rfl
set_option maxRecDepth 100000 in
theorem lifted (os : Os) (started : os.Started) (H : Type) (enc : TypeId × Value → H) :
    ReturnsInHanded {} Tryz.checked os 4 .any (Rows.idealSealsSpec.pre6 enc Tryz.prog Tryz.f4 Rows.idealSealsRow.domain false) (Rows.idealSealsSpec.post enc Tryz.prog Tryz.f4 false true false false) := by
  refine returnsInHanded_of_change_sized (C := Tryz.checked) own started (by kernel_rfl) Tryz.func4
    (ChangeSpec.witness6 (enc := enc) (C := Tryz.checked) false ⟨#[], #[.agg #[.bool false, .slice none 0 0], .string ⟨#[]⟩, .slice none 0 0, .string ⟨#[]⟩], []⟩ 8 (by kernel_rfl) (by kernel_rfl) (by kernel_rfl) (by kernel_rfl)) ?_
  intro W base args ds gs before hval hW _ hwt _
  exact Go.AM.law_contract (enc := enc) laidOut (Go.AM.pendulumlaw22_IdealSeals.ok .lim) (by kernel_rfl) (by rfl) (by kernel_rfl) rfl (by kernel_rfl) rfl (fun ds h => by match ds, h with | [a, b, c, d], _ => rfl) Go.AM.idseals_ok W base args ds gs before hval hW hwt
theorem over : Rows.idealSealsRow.holds Tryz.pinned (OpenSpec.ofChange Rows.idealSealsSpec) :=
  OpenClaim.holds_of_wide 4 Tryz.f4 rfl rfl rfl rfl rfl rfl rfl ⟨rfl, rfl, rfl, rfl, rfl⟩ rfl rfl rfl rfl rfl (by kernel_rfl) Tryz.func4 (by kernel_rfl)
    (of_decide_eq_true (by kernel_rfl)) (by unfold Func.isWrapper; first | (rw [if_pos (by decide +kernel)]; kernel_rfl) | (rw [if_neg (by decide +kernel)]; exact ⟨rfl, rfl⟩))
    (fun os started H enc _ => lifted os started H enc)
theorem proved : Rows.IdealSealsSaid := over
end Go.Proofs.YtohfcaomkfckcaaGreat.idealSeals
namespace Go.Proofs.YtohfcaomkfckcaaGreat
/-- The row, under a short name, for the claim. -/
theorem idealSeals_holds : Rows.IdealSealsSaid := idealSeals.proved
end Go.Proofs.YtohfcaomkfckcaaGreat
end
