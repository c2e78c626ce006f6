import Derived.Test.YtbpfiolmmdmapaaGreatPart5
import Derived.Test.YtbpfiolmmdmapaaGreatRows
import Derived.WalkKit
import Derived.ProofKit
import Derived.OpenShut
import Derived.ShutString
import Derived.ChangeOld
import Derived.Below
import Derived.SizedLaws

/-! What a client asks, and what it hears, is the document's. -/
set_option linter.unusedSimpArgs false
set_option linter.unusedVariables false
set_option linter.unusedSectionVars false

section
namespace Go.Proofs.YtbpfiolmmdmapaaGreat.askDoes
open Go.ChangeShapes Go.WideShapes Go.ChangeAt Go.RowKit
set_option linter.unusedVariables false
theorem own:ownKnob Tryz.prog.godebug=none:=by kernel_rfl
theorem laidOut:laidOutB Tryz.prog=true:=by kernel_rfl
set_option maxRecDepth 100000 in
theorem lifted(os:Os)(started:os.Started)(H:Type)(enc:TypeId×Value->H):
    ReturnsInHanded {} Tryz.checked os 4 .any (Rows.askDoesSpec.pre6 enc Tryz.prog Tryz.f4 Rows.askDoesRow.domain false) (Rows.askDoesSpec.post enc Tryz.prog Tryz.f4 false true false false):=by
  refine returnsInHanded_of_change_sized (C:=Tryz.checked) own started (by kernel_rfl) Tryz.func4
    (ChangeSpec.witness6 (enc:=enc) (C:=Tryz.checked) false ⟨#[],#[.agg #[.bool false,.slice none 0 0],.agg #[.int .i64 0,.string ⟨#[]⟩,.string ⟨#[]⟩,.slice none 0 0,.string ⟨#[]⟩,.string ⟨#[]⟩,.int .u64 0,.int .u64 0,.int .u64 0,.int .u64 0,.int .u64 0],.string ⟨#[]⟩,.string ⟨#[]⟩,.string ⟨#[]⟩,.int .u64 0],[]⟩ 8 (by kernel_rfl) (by kernel_rfl) (by kernel_rfl) (by kernel_rfl)) ?_
  intro W base args ds gs before hval hW _ hwt _;exact Go.AM.H6 (enc:=enc) laidOut ((Go.AM.Pm.c .lim).ok) (by kernel_rfl) (by rfl) (by kernel_rfl) rfl (by kernel_rfl) rfl (fun ds h=>by match ds,h with|[a,b,c,d,e,f],_=>rfl) Go.AM.YC (fun _=>rfl) (fun _=>trivial) W base args ds gs before hval hW hwt
theorem over:Rows.askDoesRow.holds Tryz.pinned (OpenSpec.ofChange Rows.askDoesSpec):=
  OpenClaim.holds_of_wide 4 Tryz.f4 rfl rfl rfl rfl rfl rfl rfl ⟨rfl,rfl,rfl,rfl,rfl⟩ rfl rfl rfl rfl rfl (by kernel_rfl) Tryz.func4 (by kernel_rfl)
    (of_decide_eq_true (by kernel_rfl)) (by unfold Func.isWrapper;first|(rw[if_pos (by decide+kernel)];kernel_rfl)|(rw[if_neg (by decide+kernel)];exact⟨rfl,rfl⟩))
    (fun os started H enc _=>lifted os started H enc)
theorem proved:Rows.AskDoesSaid:=over
end Go.Proofs.YtbpfiolmmdmapaaGreat.askDoes
namespace Go.Proofs.YtbpfiolmmdmapaaGreat
/-- The row, under a short name, for the claim. -/
theorem askDoes_holds:Rows.AskDoesSaid:=askDoes.proved
end Go.Proofs.YtbpfiolmmdmapaaGreat
end
