import Derived.Test.YtdobfpcmocobiaaDoorPart1
import Derived.Test.YtdobfpcmocobiaaDoorRows
import Derived.Test.YtdobfpcmocobiaaDoorCards
import Derived.Test.YtdobfpcmocobiaaDoorTie
import Derived.WalkKit
import Derived.ProofKit
import Derived.OpenShut
import Derived.ShutString
import Derived.ChangeOld
import Derived.Below
import Derived.SizedLaws
import Derived.LaidMore
import Derived.Lay
import Derived.Lib.LaidU8
import Derived.Lib.LaidTab
import Derived.SevenTiedAt
import Derived.Stop.Joined

/-! For every input the law DerAgain of layer 11 returns true and leaves its arguments as they were; no condition beside what the given card lays. -/
set_option linter.unusedSimpArgs false
set_option linter.unusedVariables false
set_option linter.unusedSectionVars false

section
namespace Go.Proofs.YtdobfpcmocobiaaDoor.derAgain
open Go.ChangeShapes Go.WideShapes Go.ChangeAt Go.RowKit
set_option linter.unusedVariables false
theorem own : ownKnob Tryd.prog.godebug = none := by kernel_rfl
theorem laidOut : laidOutB Tryd.prog = true := by kernel_rfl
theorem pow (W : World) (h : laidMetH Tryd.prog Rows.derAgainRow.laid W) : Go.AM.mG Tryd.prog W := by
  rw [MakeChecks.laidMetH_plain _ _ _ (by kernel_rfl)] at h;obtain ⟨g, t, cs, fuel, p, hg, ht, hv, hd⟩ := Lib.laidMet.reads h (n := "internal/strconv.uint64pow10") (d := Lib.tabData .u64 Lib.pow10Tab) (.tail _ (.tail _ (.head _)));obtain rfl := Option.some.inj ((show Tryd.prog.globalNamed "internal/strconv.uint64pow10" = some 5 by kernel_rfl).symm.trans hg);obtain rfl := Option.some.inj ((show (Tryd.prog.globals[5]?).map (·.type) = some 131 by kernel_rfl).symm.trans ht);unfold Go.AM.mG Lib.TabIs;rw [hv, <- Lib.cells_of_tab (n := 20) (e := 22) (show Tryd.prog.underlying 131 = some (.array 20 22) by kernel_rfl) (by kernel_rfl) (by kernel_rfl) (by kernel_rfl) hd]
set_option maxRecDepth 100000 in
theorem lifted (os : Os) (started : os.Started) (H : Type) (enc : TypeId × Value -> H) :
    ReturnsInHanded {} Tryd.checked os 5 .any (fun w args => (Rows.derAgainSpec.pre enc Tryd.prog Tryd.f5 Rows.derAgainRow.domain false w args /\ laidMetH Tryd.prog Rows.derAgainRow.laid w) /\ sizedMet enc Tryd.prog Tryd.f5 (OpenSpec.ofChange Rows.derAgainSpec) false w args)
      (Rows.derAgainSpec.post enc Tryd.prog Tryd.f5 false true false false) := by
  refine returnsInHanded_of_change_and (C := Tryd.checked) (X := fun w _ => laidMetH Tryd.prog Rows.derAgainRow.laid w) (fun _ _ _ hh h => h.of_heap hh) own started (by kernel_rfl) Tryd.func5
    (ChangeSpec.witness_shaped (enc := enc) (C := Tryd.checked) (os := os) (X := fun w _ => laidMetH Tryd.prog Rows.derAgainRow.laid w) false (World.laidAll Tryd.prog os Rows.derAgainRow.laid) #[.agg #[.int .u64 0, .int .u64 0, .int .u64 0, .int .u64 0], .slice none 0 0, .int .i64 0, .string ⟨#[]⟩] 8 (World.laidAll_os _ _ _)
      (World.shaped_of_ZipB (by kernel_rfl) (by kernel_rfl)) (by kernel_rfl) (by kernel_rfl) (by kernel_rfl)
      (by rw [MakeChecks.laidMetH_plain _ _ _ (by kernel_rfl)]; exact laidMet_laidAll _ (by kernel_rfl) (by kernel_rfl))) ?_
  intro W base args ds gs before hval hW _ hwt hL _;exact Go.AM.uS (enc := enc) laidOut ((Go.AM.MK.c .lim).ok) (by kernel_rfl) (by rfl) (by kernel_rfl) rfl (by kernel_rfl) rfl (fun ds h => by match ds, h with | [a, b, c, d], _ => rfl) Go.AM.OD W base args ds gs before ⟨Go.AM.cZ.none fun _ => rfl, pow W hL⟩ hval hW hwt
theorem over : Rows.derAgainRow.holds Tryd.pinned (OpenSpec.ofChange Rows.derAgainSpec) :=
  OpenClaim.holds_of_wide 5 Tryd.f5 rfl rfl rfl rfl rfl rfl rfl ⟨rfl, rfl, rfl, rfl, rfl⟩ rfl rfl rfl rfl rfl (by kernel_rfl) Tryd.func5 (by kernel_rfl)
    (of_decide_eq_true (by kernel_rfl)) (by unfold Func.isWrapper; first | (rw [if_pos (by decide +kernel)]; kernel_rfl) | (rw [if_neg (by decide +kernel)]; exact ⟨rfl, rfl⟩))
    (fun os started H enc _ => lifted os started H enc)
theorem proved : Rows.DerAgainCardSaid :=
  Claim7.holds_tied_plain_at .later [] [.data, .data, .data, .data, .sentinel, .sentinel, .pinned] true (true, "15ccfa760863197f464fdb3a7ba49ac21e85d5ddcc837a22802f15c4bb3f2a0a") true over (fun _ h => by cases h) (by kernel_rfl) (fun _ h => by cases h) derAgain_row_tie rfl ⟨rfl, rfl⟩ (by kernel_rfl) rfl
    (fun f fn hf hfn => by
      obtain rfl : f = 5 := Option.some.inj ((show Tryd.prog.funcNamed "pendulum/pendulumlaw11.DerAgain" = some 5 by kernel_rfl).symm.trans hf) |>.symm
      obtain rfl : fn = Tryd.f5 := (Option.some.inj (Tryd.func5.symm.trans hfn)).symm;refine ⟨by kernel_rfl, fun j t ht => ?_⟩;have hm : t ∈ Tryd.f5.params.toList := by simpa using Array.mem_of_getElem? ht
      have hall : (Tryd.f5.params.toList.all fun u => !Tryd.prog.wantsStandIn u) = true := by kernel_rfl
      exact (show Tryd.prog.wantsStandIn t = false by simpa using List.all_eq_true.1 hall t hm))
    (by kernel_rfl)
end Go.Proofs.YtdobfpcmocobiaaDoor.derAgain
namespace Go.Proofs.YtdobfpcmocobiaaDoor
/-- The card, under a short name, for the claim. -/
theorem derAgain_holds : Rows.DerAgainCardSaid := derAgain.proved
end Go.Proofs.YtdobfpcmocobiaaDoor
end
