import Derived.Test.YtojkjnphgamoeaaGreatDoorPart5
import Derived.Test.YtojkjnphgamoeaaGreatDoorRows
import Derived.Test.YtojkjnphgamoeaaGreatDoorCards
import Derived.Test.YtojkjnphgamoeaaGreatDoorTie
import Derived.WalkKit
import Derived.ProofKit
import Derived.OpenShut
import Derived.ShutString
import Derived.ChangeOld
import Derived.Below
import Derived.SizedLaws
import Derived.LaidMore
import Derived.Lay
import Derived.Lib.LaidU8
import Derived.Lib.LaidTab
import Derived.SevenTiedAt
import Derived.Stop.Joined

/-! What a server does with a packet that came, and what the packet asks, is the document's. -/
set_option linter.unusedSimpArgs false
set_option linter.unusedVariables false
set_option linter.unusedSectionVars false

open Go.OpenSpec renaming ofChange->ahk
open Option.some renaming inj->ahl
section
namespace Go.Proofs.YtojkjnphgamoeaaGreatDoor.serveHandles
open Go.ChangeShapes Go.WideShapes Go.ChangeAt Go.RowKit
set_option linter.unusedVariables false
theorem own:ownKnob Tryz.prog.godebug=none:=by kernel_rfl
theorem laidOut:laidOutB Tryz.prog=true:=by kernel_rfl
set_option maxRecDepth 100000 in
theorem lifted(os:Os)(started:os.Started)(H:Type)(enc:TypeId×Value->H):
    ReturnsInHanded {} Tryz.checked os 5 .any (fun w args=>(Rows.serveHandlesSpec.pre enc Tryz.prog Tryz.f5 Rows.serveHandlesRow.domain false w args/\laidMetH Tryz.prog Rows.serveHandlesRow.laid w)/\sizedMet enc Tryz.prog Tryz.f5 (ahk Rows.serveHandlesSpec) false w args)
      (Rows.serveHandlesSpec.post enc Tryz.prog Tryz.f5 false true false false):=by
  refine returnsInHanded_of_change_and (C:=Tryz.checked) (X:=fun w _=>laidMetH Tryz.prog Rows.serveHandlesRow.laid w) (fun _ _ _ hh h=>h.of_heap hh) own started (by kernel_rfl) Tryz.func5
    (ChangeSpec.witness_shaped (enc:=enc) (C:=Tryz.checked) (os:=os) (X:=fun w _=>laidMetH Tryz.prog Rows.serveHandlesRow.laid w) false (World.laidAll Tryz.prog os Rows.serveHandlesRow.laid) #[.agg #[.bool false,.slice none 0 0],.agg #[.slice none 0 0,.int .u32 0,.int .i64 0,.int .i64 0,.int .u32 0,.int .u32 0,.int .u32 0,.int .u64 0,.int .u64 0,.int .u64 0],.string ⟨#[]⟩,.int .u64 0,.int .u64 0,.slice none 0 0] 8 (World.laidAll_os _ _ _)
      (World.shaped_of_ZipB (by kernel_rfl) (by kernel_rfl)) (by kernel_rfl) (by kernel_rfl) (by kernel_rfl)
      (by rw[MakeChecks.laidMetH_plain _ _ _ (by kernel_rfl)];exact laidMet_laidAll _ (by kernel_rfl) (by kernel_rfl))) ?_
  intro W base args ds gs before hval hW _ hwt hL _;exact Go.AM.vw (enc:=enc) laidOut ((Go.AM.O6.c .lim).ok) (by kernel_rfl) (by rfl) (by kernel_rfl) rfl (by kernel_rfl) rfl (fun ds h=>by match ds,h with|[a,b,c,d,e,f],_=>rfl) Go.AM.WO W base args ds gs before ⟨Go.AM.cZ.none fun _=>rfl,trivial⟩ hval hW hwt
theorem over:Rows.serveHandlesRow.holds Tryz.pinned (ahk Rows.serveHandlesSpec):=
  OpenClaim.holds_of_wide 5 Tryz.f5 rfl rfl rfl rfl rfl rfl rfl ⟨rfl,rfl,rfl,rfl,rfl⟩ rfl rfl rfl rfl rfl (by kernel_rfl) Tryz.func5 (by kernel_rfl)
    (of_decide_eq_true (by kernel_rfl)) (by unfold Func.isWrapper;first|(rw[if_pos (by decide+kernel)];kernel_rfl)|(rw[if_neg (by decide+kernel)];exact⟨rfl,rfl⟩))
    (fun os started H enc _=>lifted os started H enc)
theorem proved:Rows.ServeHandlesCardSaid:=
  Claim7.holds_tied_plain_at .later [] [.data,.pinned] true (true,"7e6c73a09b3674a1a19c92b1b890a481415b1f43fd625c41d64af2d76da99221") true over (fun _ h=>by cases h) (by kernel_rfl) (fun _ h=>by cases h) serveHandles_row_tie rfl ⟨rfl,rfl⟩ (by kernel_rfl) rfl
    (fun f fn hf hfn=>by
      obtain rfl:f=5:=ahl ((show Tryz.prog.funcNamed "pendulum/pendulumlaw26.ServeHandles" =some 5 by kernel_rfl).symm.trans hf) |>.symm
      obtain rfl:fn=Tryz.f5:=(ahl (Tryz.func5.symm.trans hfn)).symm;refine⟨by kernel_rfl,fun j t ht=> ?_⟩;have hm:t∈Tryz.f5.params.toList:=by simpa using Array.mem_of_getElem? ht
      have hall:(Tryz.f5.params.toList.all fun u=> !Tryz.prog.wantsStandIn u)=true:=by kernel_rfl
      exact(show Tryz.prog.wantsStandIn t=false by simpa using List.all_eq_true.1 hall t hm))
    (by kernel_rfl)
end Go.Proofs.YtojkjnphgamoeaaGreatDoor.serveHandles
namespace Go.Proofs.YtojkjnphgamoeaaGreatDoor
/-- The card, under a short name, for the claim. -/
theorem serveHandles_holds:Rows.ServeHandlesCardSaid:=serveHandles.proved
end Go.Proofs.YtojkjnphgamoeaaGreatDoor
end
