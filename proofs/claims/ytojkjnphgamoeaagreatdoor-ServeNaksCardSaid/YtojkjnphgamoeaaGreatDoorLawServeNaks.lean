import Derived.Test.YtojkjnphgamoeaaGreatDoorPart4
import Derived.Test.YtojkjnphgamoeaaGreatDoorRows
import Derived.Test.YtojkjnphgamoeaaGreatDoorCards
import Derived.Test.YtojkjnphgamoeaaGreatDoorTie
import Derived.WalkKit
import Derived.ProofKit
import Derived.OpenShut
import Derived.ShutString
import Derived.ChangeOld
import Derived.Below
import Derived.SizedLaws
import Derived.LaidMore
import Derived.Lay
import Derived.Lib.LaidU8
import Derived.Lib.LaidTab
import Derived.SevenTiedAt
import Derived.Stop.Joined

/-! A nak is nothing: a reply to what can not be opened has no seal, and beside serving nothing changes but one count. -/
set_option linter.unusedSimpArgs false
set_option linter.unusedVariables false
set_option linter.unusedSectionVars false

open Go.OpenSpec renaming ofChange->aeE
open Option.some renaming inj->aeF
section
namespace Go.Proofs.YtojkjnphgamoeaaGreatDoor.serveNaks
open Go.ChangeShapes Go.WideShapes Go.ChangeAt Go.RowKit
set_option linter.unusedVariables false
theorem own : ownKnob Tryz.prog.godebug = none := by kernel_rfl
theorem laidOut : laidOutB Tryz.prog = true := by kernel_rfl
set_option maxRecDepth 100000 in
theorem lifted (os : Os) (started : os.Started) (H : Type) (enc : TypeId × Value -> H) :
    ReturnsInHanded {} Tryz.checked os 4 .any (fun w args => (Rows.serveNaksSpec.pre enc Tryz.prog Tryz.f4 Rows.serveNaksRow.domain false w args /\ laidMetH Tryz.prog Rows.serveNaksRow.laid w) /\ sizedMet enc Tryz.prog Tryz.f4 (aeE Rows.serveNaksSpec) false w args)
      (Rows.serveNaksSpec.post enc Tryz.prog Tryz.f4 false true false false) := by
  refine returnsInHanded_of_change_and (C := Tryz.checked) (X := fun w _ => laidMetH Tryz.prog Rows.serveNaksRow.laid w) (fun _ _ _ hh h => h.of_heap hh) own started (by kernel_rfl) Tryz.func4
    (ChangeSpec.witness_shaped (enc := enc) (C := Tryz.checked) (os := os) (X := fun w _ => laidMetH Tryz.prog Rows.serveNaksRow.laid w) false (World.laidAll Tryz.prog os Rows.serveNaksRow.laid) #[.agg #[.bool false, .slice none 0 0], .agg #[.slice none 0 0, .int .u32 0, .int .i64 0, .int .i64 0, .int .u32 0, .int .u32 0, .int .u32 0, .int .u64 0, .int .u64 0, .int .u64 0], .string ⟨#[]⟩, .int .u64 0, .int .u64 0, .slice none 0 0] 8 (World.laidAll_os _ _ _)
      (World.shaped_of_ZipB (by kernel_rfl) (by kernel_rfl)) (by kernel_rfl) (by kernel_rfl) (by kernel_rfl)
      (by rw [MakeChecks.laidMetH_plain _ _ _ (by kernel_rfl)]; exact laidMet_laidAll _ (by kernel_rfl) (by kernel_rfl))) ?_
  intro W base args ds gs before hval hW _ hwt hL _;exact Go.AM.vw (enc := enc) laidOut ((Go.AM.Ov.c .lim).ok) (by kernel_rfl) (by rfl) (by kernel_rfl) rfl (by kernel_rfl) rfl (fun ds h => by match ds, h with | [a, b, c, d, e, f], _ => rfl) Go.AM.VZ W base args ds gs before ⟨Go.AM.cZ.none fun _ => rfl, trivial⟩ hval hW hwt
theorem over : Rows.serveNaksRow.holds Tryz.pinned (aeE Rows.serveNaksSpec) :=
  OpenClaim.holds_of_wide 4 Tryz.f4 rfl rfl rfl rfl rfl rfl rfl ⟨rfl, rfl, rfl, rfl, rfl⟩ rfl rfl rfl rfl rfl (by kernel_rfl) Tryz.func4 (by kernel_rfl)
    (of_decide_eq_true (by kernel_rfl)) (by unfold Func.isWrapper; first | (rw [if_pos (by decide +kernel)]; kernel_rfl) | (rw [if_neg (by decide +kernel)]; exact ⟨rfl, rfl⟩))
    (fun os started H enc _ => lifted os started H enc)
theorem proved : Rows.ServeNaksCardSaid :=
  Claim7.holds_tied_plain_at .later [] [.data, .pinned] true (true, "7e6c73a09b3674a1a19c92b1b890a481415b1f43fd625c41d64af2d76da99221") true over (fun _ h => by cases h) (by kernel_rfl) (fun _ h => by cases h) serveNaks_row_tie rfl ⟨rfl, rfl⟩ (by kernel_rfl) rfl
    (fun f fn hf hfn => by
      obtain rfl : f = 4 := aeF ((show Tryz.prog.funcNamed "pendulum/pendulumlaw26.ServeNaks" = some 4 by kernel_rfl).symm.trans hf) |>.symm
      obtain rfl : fn = Tryz.f4 := (aeF (Tryz.func4.symm.trans hfn)).symm;refine ⟨by kernel_rfl, fun j t ht => ?_⟩;have hm : t ∈ Tryz.f4.params.toList := by simpa using Array.mem_of_getElem? ht
      have hall : (Tryz.f4.params.toList.all fun u => !Tryz.prog.wantsStandIn u) = true := by kernel_rfl
      exact (show Tryz.prog.wantsStandIn t = false by simpa using List.all_eq_true.1 hall t hm))
    (by kernel_rfl)
end Go.Proofs.YtojkjnphgamoeaaGreatDoor.serveNaks
namespace Go.Proofs.YtojkjnphgamoeaaGreatDoor
/-- The card, under a short name, for the claim. -/
theorem serveNaks_holds : Rows.ServeNaksCardSaid := serveNaks.proved
end Go.Proofs.YtojkjnphgamoeaaGreatDoor
end
