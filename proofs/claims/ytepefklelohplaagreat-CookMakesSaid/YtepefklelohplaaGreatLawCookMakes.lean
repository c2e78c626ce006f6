import Derived.Test.YtepefklelohplaaGreatPart4
import Derived.Test.YtepefklelohplaaGreatRows
import Derived.WalkKit
import Derived.ProofKit
import Derived.OpenShut
import Derived.ShutString
import Derived.ChangeOld
import Derived.Below
import Derived.SizedLaws

/-! For every input the law CookMakes of layer 25 returns true and leaves its arguments as they were; no condition. -/
set_option linter.unusedSimpArgs false
set_option linter.unusedVariables false

section
namespace Go.Proofs.YtepefklelohplaaGreat.cookMakes
open Go.ChangeShapes Go.WideShapes Go.ChangeAt Go.RowKit
set_option linter.unusedVariables false
theorem own : ownKnob Tryz.prog.godebug = none := by kernel_rfl
theorem laidOut : laidOutB Tryz.prog = true := by kernel_rfl
set_option maxRecDepth 100000 in
theorem lifted (os : Os) (started : os.Started) (H : Type) (enc : TypeId × Value → H) :
    ReturnsInHanded {} Tryz.checked os 6 .any (Rows.cookMakesSpec.pre6 enc Tryz.prog Tryz.f6 Rows.cookMakesRow.domain false) (Rows.cookMakesSpec.post enc Tryz.prog Tryz.f6 false true false false) := by
  refine returnsInHanded_of_change_sized (C := Tryz.checked) own started (by kernel_rfl) Tryz.func6
    (ChangeSpec.witness6 (enc := enc) (C := Tryz.checked) false ⟨#[], #[.agg #[.bool false, .slice none 0 0], .agg #[.slice none 0 0, .int .u32 0], .agg #[.int .i64 0, .string ⟨#[]⟩, .string ⟨#[]⟩], .string ⟨#[]⟩, .slice none 0 0], []⟩ 8 (by kernel_rfl) (by kernel_rfl) (by kernel_rfl) (by kernel_rfl)) ?_
  intro W base args ds gs before hval hW _ hwt _
  exact Go.AM.law_contract (enc := enc) laidOut (Go.AM.pendulumlaw25_CookMakes.ok .lim) (by kernel_rfl) (by rfl) (by kernel_rfl) rfl (by kernel_rfl) rfl (fun ds h => by match ds, h with | [a, b, c, d, e], _ => rfl) Go.AM.ckmakes_ok W base args ds gs before hval hW hwt
theorem over : Rows.cookMakesRow.holds Tryz.pinned (OpenSpec.ofChange Rows.cookMakesSpec) :=
  OpenClaim.holds_of_wide 6 Tryz.f6 rfl rfl rfl rfl rfl rfl rfl ⟨rfl, rfl, rfl, rfl, rfl⟩ rfl rfl rfl rfl rfl (by kernel_rfl) Tryz.func6 (by kernel_rfl)
    (of_decide_eq_true (by kernel_rfl)) (by unfold Func.isWrapper; first | (rw [if_pos (by decide +kernel)]; kernel_rfl) | (rw [if_neg (by decide +kernel)]; exact ⟨rfl, rfl⟩))
    (fun os started H enc _ => lifted os started H enc)
theorem proved : Rows.CookMakesSaid := over
end Go.Proofs.YtepefklelohplaaGreat.cookMakes
namespace Go.Proofs.YtepefklelohplaaGreat
/-- The row, under a short name, for the claim. -/
theorem cookMakes_holds : Rows.CookMakesSaid := cookMakes.proved
end Go.Proofs.YtepefklelohplaaGreat
end
