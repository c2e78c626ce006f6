import Derived.Test.YtojkjnphgamoeaaGreatDoorPart5
import Derived.Test.YtojkjnphgamoeaaGreatDoorRows
import Derived.Test.YtojkjnphgamoeaaGreatDoorCards
import Derived.Test.YtojkjnphgamoeaaGreatDoorTie
import Derived.WalkKit
import Derived.ProofKit
import Derived.OpenShut
import Derived.ShutString
import Derived.ChangeOld
import Derived.Below
import Derived.SizedLaws
import Derived.LaidMore
import Derived.Lay
import Derived.Lib.LaidU8
import Derived.Lib.LaidTab
import Derived.SevenTiedAt
import Derived.Stop.Joined

/-! Who asks rightly is served: the reply is opened by the key to the client, has the stamps, and cookies that the ring opens to the same keys, as many as were wanted and drawn. -/
set_option linter.unusedSimpArgs false
set_option linter.unusedVariables false
set_option linter.unusedSectionVars false

open Go.OpenSpec renaming ofChange->ag3
open Option.some renaming inj->ag4
section
namespace Go.Proofs.YtojkjnphgamoeaaGreatDoor.serveServes
open Go.ChangeShapes Go.WideShapes Go.ChangeAt Go.RowKit
set_option linter.unusedVariables false
theorem own:ownKnob Tryz.prog.godebug=none:=by kernel_rfl
theorem laidOut:laidOutB Tryz.prog=true:=by kernel_rfl
set_option maxRecDepth 100000 in
theorem lifted(os:Os)(started:os.Started)(H:Type)(enc:TypeId×Value->H):
    ReturnsInHanded {} Tryz.checked os 3 .any (fun w args=>(Rows.serveServesSpec.pre enc Tryz.prog Tryz.f3 Rows.serveServesRow.domain false w args/\laidMetH Tryz.prog Rows.serveServesRow.laid w)/\sizedMet enc Tryz.prog Tryz.f3 (ag3 Rows.serveServesSpec) false w args)
      (Rows.serveServesSpec.post enc Tryz.prog Tryz.f3 false true false false):=by
  refine returnsInHanded_of_change_and (C:=Tryz.checked) (X:=fun w _=>laidMetH Tryz.prog Rows.serveServesRow.laid w) (fun _ _ _ hh h=>h.of_heap hh) own started (by kernel_rfl) Tryz.func3
    (ChangeSpec.witness_shaped (enc:=enc) (C:=Tryz.checked) (os:=os) (X:=fun w _=>laidMetH Tryz.prog Rows.serveServesRow.laid w) false (World.laidAll Tryz.prog os Rows.serveServesRow.laid) #[.agg #[.bool false,.slice none 0 0],.agg #[.slice none 0 0,.int .u32 0,.int .i64 0,.int .i64 0,.int .u32 0,.int .u32 0,.int .u32 0,.int .u64 0,.int .u64 0,.int .u64 0],.agg #[.int .i64 0,.string ⟨#[]⟩,.string ⟨#[]⟩],.string ⟨#[]⟩,.string ⟨#[]⟩,.int .i64 0,.int .u64 0,.int .u64 0,.int .u64 0,.slice none 0 0] 8 (World.laidAll_os _ _ _)
      (World.shaped_of_ZipB (by kernel_rfl) (by kernel_rfl)) (by kernel_rfl) (by kernel_rfl) (by kernel_rfl)
      (by rw[MakeChecks.laidMetH_plain _ _ _ (by kernel_rfl)];exact laidMet_laidAll _ (by kernel_rfl) (by kernel_rfl))) ?_
  intro W base args ds gs before hval hW _ hwt hL _;exact Go.AM.vI (enc:=enc) laidOut ((Go.AM.Nc.c .lim).ok) (by kernel_rfl) (by rfl) (by kernel_rfl) rfl (by kernel_rfl) rfl (fun ds h=>by match ds,h with|[a,b,c,d,e,f,g,i,j,k],_=>rfl) Go.AM.Xu W base args ds gs before ⟨Go.AM.cZ.none fun _=>rfl,trivial⟩ hval hW hwt
theorem over:Rows.serveServesRow.holds Tryz.pinned (ag3 Rows.serveServesSpec):=
  OpenClaim.holds_of_wide 3 Tryz.f3 rfl rfl rfl rfl rfl rfl rfl ⟨rfl,rfl,rfl,rfl,rfl⟩ rfl rfl rfl rfl rfl (by kernel_rfl) Tryz.func3 (by kernel_rfl)
    (of_decide_eq_true (by kernel_rfl)) (by unfold Func.isWrapper;first|(rw[if_pos (by decide+kernel)];kernel_rfl)|(rw[if_neg (by decide+kernel)];exact⟨rfl,rfl⟩))
    (fun os started H enc _=>lifted os started H enc)
theorem proved:Rows.ServeServesCardSaid:=
  Claim7.holds_tied_plain_at .later [] [.data,.pinned] true (true,"7e6c73a09b3674a1a19c92b1b890a481415b1f43fd625c41d64af2d76da99221") true over (fun _ h=>by cases h) (by kernel_rfl) (fun _ h=>by cases h) serveServes_row_tie rfl ⟨rfl,rfl⟩ (by kernel_rfl) rfl
    (fun f fn hf hfn=>by
      obtain rfl:f=3:=ag4 ((show Tryz.prog.funcNamed "pendulum/pendulumlaw26.ServeServes" =some 3 by kernel_rfl).symm.trans hf) |>.symm
      obtain rfl:fn=Tryz.f3:=(ag4 (Tryz.func3.symm.trans hfn)).symm;refine⟨by kernel_rfl,fun j t ht=> ?_⟩;have hm:t∈Tryz.f3.params.toList:=by simpa using Array.mem_of_getElem? ht
      have hall:(Tryz.f3.params.toList.all fun u=> !Tryz.prog.wantsStandIn u)=true:=by kernel_rfl
      exact(show Tryz.prog.wantsStandIn t=false by simpa using List.all_eq_true.1 hall t hm))
    (by kernel_rfl)
end Go.Proofs.YtojkjnphgamoeaaGreatDoor.serveServes
namespace Go.Proofs.YtojkjnphgamoeaaGreatDoor
/-- The card, under a short name, for the claim. -/
theorem serveServes_holds:Rows.ServeServesCardSaid:=serveServes.proved
end Go.Proofs.YtojkjnphgamoeaaGreatDoor
end
