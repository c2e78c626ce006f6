import Derived.Test.YtmcceacnjpedeaaGreatPart1
import Derived.Test.YtmcceacnjpedeaaGreatProg
import Derived.Shelf.Strings.Repeat

/-! The functions that the laws of this seat reach, as plain functions, and what these answer; no condition. -/
set_option linter.unusedSimpArgs false
set_option linter.unusedVariables false

section
namespace Go.Proofs
def Tryz.lays105_ren : Go.Shelf.Ren := ⟨fun | 105 => 54 | 212 => 65 | 99 => 66 | 165 => 67 | 166 => 58 | 170 => 57 | 169 => 60 | 263 => 73 | 264 => 74 | 206 => 75 | 240 => 69 | 241 => 76 | 276 => 77 | 277 => 86 | n => n, fun | 9 => 9 | 3 => 3 | 4 => 4 | 20 => 20 | 0 => 0 | 46 => 90 | 109 => 135 | 5 => 5 | 72 => 120 | 76 => 123 | 51 => 27 | 146 => 144 | 53 => 28 | 148 => 146 | 70 => 118 | 37 => 102 | 75 => 122 | 127 => 140 | 164 => 148 | 80 => 125 | n => n, fun | n => n⟩
theorem Tryz.lays105 : Go.Proofs.Lays.n105 Tryz.prog Tryz.lays105_ren := {
  mixed := by kernel_rfl
  f99 := Tryz.func66.trans (congrArg some (by kernel_rfl))
  f105 := Tryz.func54.trans (congrArg some (by kernel_rfl))
  f165 := Tryz.func67.trans (congrArg some (by kernel_rfl))
  f166 := Tryz.func58.trans (congrArg some (by kernel_rfl))
  f169 := Tryz.func60.trans (congrArg some (by kernel_rfl))
  f170 := Tryz.func57.trans (congrArg some (by kernel_rfl))
  f206 := Tryz.func75.trans (congrArg some (by kernel_rfl))
  f212 := Tryz.func65.trans (congrArg some (by kernel_rfl))
  f240 := Tryz.func69.trans (congrArg some (by kernel_rfl))
  f241 := Tryz.func76.trans (congrArg some (by kernel_rfl))
  f263 := Tryz.func73.trans (congrArg some (by kernel_rfl))
  f264 := Tryz.func74.trans (congrArg some (by kernel_rfl))
  f276 := Tryz.func77.trans (congrArg some (by kernel_rfl))
  f277 := Tryz.func86.trans (congrArg some (by kernel_rfl))
  t0 := Tryz.underlying0
  a0 := Tryz.isAgg0
  z0 := Tryz.sizeOf0
  v0 := Tryz.zeroValue0
  t3 := Tryz.underlying3
  a3 := Tryz.isAgg3
  z3 := Tryz.sizeOf3
  v3 := Tryz.zeroValue3
  t4 := Tryz.underlying4
  a4 := Tryz.isAgg4
  z4 := Tryz.sizeOf4
  v4 := Tryz.zeroValue4
  t5 := Tryz.underlying5
  a5 := Tryz.isAgg5
  z5 := Tryz.sizeOf5
  v5 := Tryz.zeroValue5
  t9 := Tryz.underlying9
  a9 := Tryz.isAgg9
  z9 := Tryz.sizeOf9
  v9 := Tryz.zeroValue9
  t20 := Tryz.underlying20
  a20 := Tryz.isAgg20
  z20 := Tryz.sizeOf20
  v20 := Tryz.zeroValue20
  t37 := Tryz.underlying102
  a37 := Tryz.isAgg102
  z37 := Tryz.sizeOf102
  v37 := Tryz.zeroValue102
  t46 := Tryz.underlying90
  a46 := Tryz.isAgg90
  z46 := Tryz.sizeOf90
  v46 := Tryz.zeroValue90
  t51 := Tryz.underlying27
  a51 := Tryz.isAgg27
  z51 := Tryz.sizeOf27
  v51 := Tryz.zeroValue27
  t53 := Tryz.underlying28
  a53 := Tryz.isAgg28
  z53 := Tryz.sizeOf28
  v53 := Tryz.zeroValue28
  t70 := Tryz.underlying118
  a70 := Tryz.isAgg118
  z70 := Tryz.sizeOf118
  v70 := Tryz.zeroValue118
  t72 := Tryz.underlying120
  a72 := Tryz.isAgg120
  z72 := Tryz.sizeOf120
  v72 := Tryz.zeroValue120
  t75 := Tryz.underlying122
  a75 := Tryz.isAgg122
  z75 := Tryz.sizeOf122
  v75 := Tryz.zeroValue122
  t76 := Tryz.underlying123
  a76 := Tryz.isAgg123
  z76 := Tryz.sizeOf123
  v76 := Tryz.zeroValue123
  t109 := Tryz.underlying135
  a109 := Tryz.isAgg135
  z109 := Tryz.sizeOf135
  v109 := Tryz.zeroValue135
  t127 := Tryz.underlying140
  a127 := Tryz.isAgg140
  z127 := Tryz.sizeOf140
  v127 := Tryz.zeroValue140
  t146 := Tryz.underlying144
  a146 := Tryz.isAgg144
  z146 := Tryz.sizeOf144
  v146 := Tryz.zeroValue144
  t148 := Tryz.underlying146
  a148 := Tryz.isAgg146
  z148 := Tryz.sizeOf146
  v148 := Tryz.zeroValue146
  t164 := Tryz.underlying148
  a164 := Tryz.isAgg148
  z164 := Tryz.sizeOf148
  v164 := Tryz.zeroValue148 }
theorem Tryz.Builder_Extra_105 : Builder.Extra Tryz.prog Tryz.lays105_ren := {
  sizeBuilder := by kernel_rfl
  liesBuilder := by kernel_rfl
  t5 := Tryz.underlying5
  a5 := Tryz.isAgg5
  z5 := Tryz.sizeOf5
  v5 := Tryz.zeroValue5
  infoByte := by kernel_rfl
  cellsByte := by kernel_rfl
  sizeByte := by kernel_rfl
  neB5 := by decide }
end Go.Proofs
section
set_option maxRecDepth 100000
namespace Go.Proofs
open Go.Shelf Go.RowKit
def Tryz.bld_ren : Go.Shelf.Ren := ⟨fun | 166 => 58 | 169 => 60 | 170 => 57 | 240 => 69 | n => n, fun | 70 => 118 | 9 => 9 | 0 => 0 | 72 => 120 | 37 => 102 | 127 => 140 | 3 => 3 | 5 => 5 | 4 => 4 | 20 => 20 | 46 => 90 | 109 => 135 | 76 => 123 | 51 => 27 | 146 => 144 | 53 => 28 | 148 => 146 | 75 => 122 | 164 => 148 | 80 => 125 | n => n, fun | n => n⟩
theorem Tryz.bld169 : Go.Proofs.Lays.n169 Tryz.prog Tryz.bld_ren := {
  mixed := by kernel_rfl
  f169 := Tryz.func60.trans (congrArg some (by kernel_rfl))
  t0 := Tryz.underlying0
  a0 := Tryz.isAgg0
  z0 := Tryz.sizeOf0
  v0 := Tryz.zeroValue0
  t3 := Tryz.underlying3
  a3 := Tryz.isAgg3
  z3 := Tryz.sizeOf3
  v3 := Tryz.zeroValue3
  t9 := Tryz.underlying9
  a9 := Tryz.isAgg9
  z9 := Tryz.sizeOf9
  v9 := Tryz.zeroValue9
  t37 := Tryz.underlying102
  a37 := Tryz.isAgg102
  z37 := Tryz.sizeOf102
  v37 := Tryz.zeroValue102
  t70 := Tryz.underlying118
  a70 := Tryz.isAgg118
  z70 := Tryz.sizeOf118
  v70 := Tryz.zeroValue118
  t72 := Tryz.underlying120
  a72 := Tryz.isAgg120
  z72 := Tryz.sizeOf120
  v72 := Tryz.zeroValue120
  t127 := Tryz.underlying140
  a127 := Tryz.isAgg140
  z127 := Tryz.sizeOf140
  v127 := Tryz.zeroValue140 }
theorem Tryz.bld170 : Go.Proofs.Lays.n170 Tryz.prog Tryz.bld_ren := {
  mixed := by kernel_rfl
  f170 := Tryz.func57.trans (congrArg some (by kernel_rfl))
  t0 := Tryz.underlying0
  a0 := Tryz.isAgg0
  z0 := Tryz.sizeOf0
  v0 := Tryz.zeroValue0
  t3 := Tryz.underlying3
  a3 := Tryz.isAgg3
  z3 := Tryz.sizeOf3
  v3 := Tryz.zeroValue3
  t37 := Tryz.underlying102
  a37 := Tryz.isAgg102
  z37 := Tryz.sizeOf102
  v37 := Tryz.zeroValue102
  t70 := Tryz.underlying118
  a70 := Tryz.isAgg118
  z70 := Tryz.sizeOf118
  v70 := Tryz.zeroValue118
  t72 := Tryz.underlying120
  a72 := Tryz.isAgg120
  z72 := Tryz.sizeOf120
  v72 := Tryz.zeroValue120 }
theorem Tryz.bldX : Builder.Extra Tryz.prog Tryz.bld_ren := {
  sizeBuilder := by kernel_rfl
  liesBuilder := by kernel_rfl
  t5 := Tryz.underlying5
  a5 := Tryz.isAgg5
  z5 := Tryz.sizeOf5
  v5 := Tryz.zeroValue5
  infoByte := by kernel_rfl
  cellsByte := by kernel_rfl
  sizeByte := by kernel_rfl
  neB5 := by decide }
theorem Tryz.bld166 : Tryz.prog.funcs[Tryz.bld_ren.f 166]? = some (Body.n166 Tryz.bld_ren) := Tryz.func58.trans (congrArg some (by kernel_rfl))
theorem Tryz.bld240 : ∀ args w, (callFunc (Tryz.bld_ren.f 240) args).run Tryz.prog w = .ok (.enter (Tryz.bld_ren.f 240) args) w := enters_of Tryz.func69 (by kernel_rfl) rfl
set_option maxHeartbeats 1000000 in
theorem Tryz.bld_used (b : Nat) (w : World) (h0 : w.cell? ⟨b, 0, none⟩ = some (.pointer (some ⟨b, 0, none⟩))) :
    Calls Tryz.prog 69 #[.pointer (some ⟨b, 0, none⟩)] w fun e w' => e = .returned (.tuple #[]) /\ w' = w := by
  obtain ⟨j, hj, hjs⟩ := Option.map_eq_some_iff.1 Tryz.bldX.sizeBuilder;have hj : Tryz.prog.info? 120 = some j := hj;have mixed := Tryz.bld169.mixed;have t72 := Tryz.underlying120; have a72 := Tryz.isAgg120; have z72 := Tryz.sizeOf120; have v72 := Tryz.zeroValue120; have u72 := run_underlying Tryz.underlying120;have t70 := Tryz.underlying118; have a70 := Tryz.isAgg118; have z70 := Tryz.sizeOf118; have v70 := Tryz.zeroValue118; have u70 := run_underlying Tryz.underlying118;have t9 := Tryz.underlying9; have a9 := Tryz.isAgg9; have z9 := Tryz.sizeOf9; have v9 := Tryz.zeroValue9; have u9 := run_underlying Tryz.underlying9;have t4 := Tryz.underlying4; have a4 := Tryz.isAgg4; have z4 := Tryz.sizeOf4; have v4 := Tryz.zeroValue4; have u4 := run_underlying Tryz.underlying4;have t164 := Tryz.underlying148; have a164 := Tryz.isAgg148; have z164 := Tryz.sizeOf148; have v164 := Tryz.zeroValue148; have u164 := run_underlying Tryz.underlying148
  go_enter Tryz.func69, (show Tryz.f69.ntmps = 20 by kernel_rfl)
  go_wp2
  rw [Lib.run_neq_ptr_same w _ t70 hj]
  go_wp2
  go_end0
  exact ⟨rfl, rfl⟩
set_option maxHeartbeats 1000000 in
theorem Tryz.bld_fresh (b : Nat) (w : World) (h0 : w.cell? ⟨b, 0, none⟩ = some (.pointer none)) (hsh : w.shape? b = some (120, 2)) (hfz : w.frozen? ⟨b, 0, none⟩ = false) :
    Calls Tryz.prog 69 #[.pointer (some ⟨b, 0, none⟩)] w fun e w' => e = .returned (.tuple #[]) /\ w' = w.setCell ⟨b, 0, none⟩ (.pointer (some ⟨b, 0, none⟩)) := by
  obtain ⟨j, hj, hjs⟩ := Option.map_eq_some_iff.1 Tryz.bldX.sizeBuilder;have hj : Tryz.prog.info? 120 = some j := hj;have mixed := Tryz.bld169.mixed;have t72 := Tryz.underlying120; have a72 := Tryz.isAgg120; have z72 := Tryz.sizeOf120; have v72 := Tryz.zeroValue120; have u72 := run_underlying Tryz.underlying120;have t70 := Tryz.underlying118; have a70 := Tryz.isAgg118; have z70 := Tryz.sizeOf118; have v70 := Tryz.zeroValue118; have u70 := run_underlying Tryz.underlying118;have t9 := Tryz.underlying9; have a9 := Tryz.isAgg9; have z9 := Tryz.sizeOf9; have v9 := Tryz.zeroValue9; have u9 := run_underlying Tryz.underlying9;have t4 := Tryz.underlying4; have a4 := Tryz.isAgg4; have z4 := Tryz.sizeOf4; have v4 := Tryz.zeroValue4; have u4 := run_underlying Tryz.underlying4;have t164 := Tryz.underlying148; have a164 := Tryz.isAgg148; have z164 := Tryz.sizeOf148; have v164 := Tryz.zeroValue148; have u164 := run_underlying Tryz.underlying148
  go_enter Tryz.func69, (show Tryz.f69.ntmps = 20 by kernel_rfl)
  go_wp2
  rw [Lib.run_to_unsafe w ⟨b, 0, none⟩ t70 t164 hj (by rw [hjs]; decide) hsh (Nat.zero_lt_succ 1)];simp only [Result.andThen];rw [Oper.upon_value]
  go_wp2
  rw [run_callFunc_extern Tryz.func77 (by kernel_rfl) (by kernel_rfl) (by kernel_rfl) (e := Extern.AbiNoEscape.same) (by kernel_rfl)];rw [Lib.run_noEscape];simp only [Result.andThen];rw [Oper.upon_value]
  go_wp2
  rw [Lib.run_from_unsafe w ⟨b, 0, none⟩ t164 t70 hj hsh Tryz.bldX.liesBuilder];simp only [Result.andThen];rw [Oper.upon_value]
  go_wp2
  go_end0
  exact ⟨rfl, rfl⟩
open Go.AM in
theorem Tryz.bld_cc (b : Nat) (v : Value) (bs : List Value) (w : World) (h : yN 120 5 b v bs w) : Calls Tryz.prog 69 #[.pointer (some ⟨b, 0, none⟩)] w (IW 120 5 b v bs w) := cc_of h (fun h1 h2 h3 => Tryz.bld_fresh b w h1 h2 h3) (fun h1 => Tryz.bld_used b w h1)
open Go.AM in
theorem Tryz.bld_ws (b : Nat) (v : Value) (bs : List Value) (s : ByteArray) (w : World) (h : yN 120 5 b v bs w) (hlen : bs.length + s.size <= 140737488355328) :
    Calls Tryz.prog 58 #[.pointer (some ⟨b, 0, none⟩), .string s] w fun e w' => e = .returned (.tuple #[.int .i64 s.size, .nilIface]) /\ Only b v.ownBlock w w' /\ ∃ v', yN 120 5 b v' (bs ++ Lib.strCells s) w' /\ ∀ k, v'.ownBlock = some k -> v.ownBlock = some k \/ w.heap.size <= k :=
  Dc (ρ := Tryz.bld_ren) Tryz.bld169 Tryz.bldX Tryz.bld166 Tryz.bld240 Tryz.bld_cc b v bs s w h hlen
open Go.AM in
theorem Tryz.bld_str (b : Nat) (v : Value) (l : List UInt8) (w : World) (h : yN 120 5 b v (Lib.byteCells l) w) :
    Calls Tryz.prog 60 #[.pointer (some ⟨b, 0, none⟩)] w fun e w' => e = .returned (.string ⟨l.toArray⟩) /\ Only b v.ownBlock w w' /\ yN 120 5 b v (Lib.byteCells l) w' := Nl (ρ := Tryz.bld_ren) Tryz.bld169 Tryz.bldX b v l w h
open Go.AM in
theorem Tryz.bld_len (b : Nat) (v : Value) (bs : List Value) (w : World) (h : yN 120 5 b v bs w) :
    Calls Tryz.prog 57 #[.pointer (some ⟨b, 0, none⟩)] w fun e w' => e = .returned (.int .i64 bs.length) /\ w' = w := Wh (ρ := Tryz.bld_ren) Tryz.bld170 b v bs w h
end Go.Proofs
end
namespace Go.AM
open Go.Proofs
noncomputable abbrev P := Tryz.prog
universe u
theorem an {α : Type u} {p : α -> Prop} : ∀ k ∈ ([] : List α), p k := fun k h => nomatch h
theorem ac {α : Type u} {p : α -> Prop} {a : α} {l : List α} (h : p a) (k : ∀ x ∈ l, p x) : ∀ x ∈ a :: l, p x := fun x hx => by
  rcases List.mem_cons.1 hx with rfl | hx
  · exact h
  · exact k x hx
set_option maxRecDepth 100000
set_option linter.unusedVariables false
noncomputable section
def bldK : BK := ⟨120, 5, 58, 60, 57⟩
theorem YT : bldK.OK P := ⟨by kernel_rfl, by kernel_rfl, by kernel_rfl, Go.Proofs.Tryz.bld_ws, Go.Proofs.Tryz.bld_str, Go.Proofs.Tryz.bld_len⟩
abbrev tY0 : Ty := .pair .str .str
abbrev Dp : Ty := .lst (.int .u8)
abbrev MQ : Ty := .arr 4 (.int .u8)
abbrev vw : Ty := .arr 16 (.int .u8)
abbrev tY4 : Ty := .arr 3 (.int .u32)
abbrev uq : Ty := .arr 256 (.int .u8)
abbrev Q_ : Ty := .pair (.int .i64) .str
abbrev tY7 : Ty := .lst Dp
abbrev tY8 : Ty := .pair .str tY0
abbrev AL : Ty := .lst Q_
abbrev uw : Ty := .arr 16 uq
abbrev tY11 : Ty := .pair (.lst .str) tY0
abbrev WQ : Ty := .lst AL
abbrev Gt : Ty := .pair .str tY11
abbrev tY14 : Ty := .pair (.int .u64) AL
abbrev y8 : Ty := .lst Gt
abbrev tY16 : Ty := .pair (.int .u64) tY14
abbrev tY17 : Ty := .pair AL AL
abbrev y9 : Ty := .pair .bool y8
abbrev tY19 : Ty := .pair (.int .u64) tY16
abbrev tY20 : Ty := .pair (.int .u64) tY19
abbrev tY21 : Ty := .pair (.int .u32) tY20
abbrev tY22 : Ty := .pair (.int .u32) tY21
abbrev tY23 : Ty := .pair (.int .u32) tY22
abbrev tY24 : Ty := .pair (.int .i64) tY23
abbrev tY25 : Ty := .pair (.int .i64) tY24
abbrev tY26 : Ty := .pair (.int .i64) tY25
abbrev tY27 : Ty := .pair (.int .i64) tY26
abbrev tY28 : Ty := .pair (.int .i64) tY27
abbrev Oc : Ty := .pair (.int .i64) tY28
abbrev WR : Ty := .pair Oc tY17
abbrev WS : Type := (List Int × (List Int × List Int))
abbrev sD : Type := (List Int × (List (List Int) × (List Int × List Int)))
abbrev P8 : Type := (Bool × List (List Int × (List (List Int) × (List Int × List Int))))
abbrev DT1 : Type := (Int × (Int × (Int × (Int × (Int × (Int × (Int × (Int × (Int × (Int × (Int × (Int × (Int × List (Int × List Int))))))))))))))
abbrev DT0 : Type := ((Int × (Int × (Int × (Int × (Int × (Int × (Int × (Int × (Int × (Int × (Int × (Int × (Int × List (Int × List Int)))))))))))))) × (List (Int × List Int) × List (Int × List Int)))
abbrev fU : (List Int × (List (List Int) × (List Int × List Int))) := (([] : List Int), (([] : List (List Int)), (([] : List Int), ([] : List Int))))
abbrev Dq : (List (Int × List Int) × List (Int × List Int)) := (([] : List (Int × List Int)), ([] : List (Int × List Int)))
abbrev YU : (List Int × (List Int × List Int)) := (([] : List Int), (([] : List Int), ([] : List Int)))
namespace aN
def O (m_ : ah) : OO P := gJ []
def o0 : bV := .c [.b, .dat y8]
def e0 : Spec := ⟨[fs 16 [.q 29852, .z 29852, .b 2, .b 1, .q 467, .z 116, .b 0, .q 15] [(1, .ptr 0 0), (3, .w), (4, .w), (5, .ptr 1 0), (6, .w)]], [(0, o0), (1, .c [.s, .t, .s, .s])], 2⟩
def x0 : List Spec := [⟨[fs 16 [.q 467, .z 116, .b 0, .q 15] [(1, .ptr 0 0), (3, .w), (4, .w)]], [(0, o0)], 1⟩]
abbrev A0 : Type := Int × Int × Int × Bool × (List (List Int × (List LI × (List Int × List Int)))) × LI × LL × LI × LI × Unit
abbrev B0 : Type := (Int × Int × Bool × (List (List Int × (List LI × (List Int × List Int)))) × Unit)
def b0 (m_ : ah) (self : A0 -> Option B0) : A0 -> Option B0 := fun v_ => match v_ with
| (left, i, j, m, m1, m2, m3, m4, m5, ()) =>
 bif aB (m3.length : Int) then
 bif ((decide (j < (m3.length : Int))) && (decide (left >= 0))) then
  bif inB j (m3.length : Int) then
  bif aB ((rd ([] : List Int) m3 j).length : Int) then
  self ((IntKind.i64.wrap (left - ((rd ([] : List Int) m3 j).length : Int))), i, (IntKind.i64.wrap (j + 1)), m, m1, m2, m3, m4, m5, ()) else none else none
 else
  some (left, i, m, m1, ()) else none
theorem k0 (m_ : ah) : KQ 16 (O m_) [] e0 x0 [] (b0 m_) := fun _ _ => by kernel_rfl
def l0 (m_ : ah) : A0 -> Option B0 := loop m_ (b0 m_)
theorem q0 (v) : l0 .lim v = b0 .lim (l0 .lim) v := KS.q (k0 .lim) v
def s0 (m_ : ah) : SO P 16 := so m_ (k0 m_)
def e1 : Spec := ⟨[fs 16 [.q 116, .z 116, .b 0, .q 15] [(1, .ptr 0 0), (3, .w), (4, .w)]], [(0, o0)], 1⟩
def x1 : List Spec := [⟨[fs 16 [.q 15] [(1, .ptr 0 0), (3, .w)]], [(0, o0)], 1⟩]
abbrev A1 : Type := Int × Int × Bool × (List (List Int × (List LI × (List Int × List Int)))) × Unit
abbrev B1 : Type := (Int × Bool × (List (List Int × (List LI × (List Int × List Int)))) × Unit)
def b1 (m_ : ah) (self : A1 -> Option B1) : A1 -> Option B1 := fun v_ => match v_ with
| (left, i, m, m1, ()) =>
 bif aB (m1.length : Int) then
 bif ((decide (i < (m1.length : Int))) && (decide (left >= 0))) then
  bif inB i (m1.length : Int) then
  bif aB (((rd fU m1 i).1).length : Int) then
  bif aB (((((rd fU m1 i).2).2).1).length : Int) then
  bif aB (((((rd fU m1 i).2).2).2).length : Int) then
  bif aB ((((rd fU m1 i).2).1).length : Int) then
  (aN.l0 m_ ((IntKind.i64.wrap ((IntKind.i64.wrap ((IntKind.i64.wrap ((IntKind.i64.wrap ((IntKind.i64.wrap (left - 10)) - (((rd fU m1 i).1).length : Int))) - (((((rd fU m1 i).2).2).1).length : Int))) - (((((rd fU m1 i).2).2).2).length : Int))) - ((((rd fU m1 i).2).1).length : Int))), i, 0, m, m1, (rd fU m1 i).1, ((rd fU m1 i).2).1, (((rd fU m1 i).2).2).1, (((rd fU m1 i).2).2).2, ())).bind fun (left1, i1, m2, m3, ()) =>
  self (left1, (IntKind.i64.wrap (i1 + 1)), m2, m3, ()) else none else none else none else none else none
 else
  some (left, m, m1, ()) else none
theorem k1 (m_ : ah) : KQ 16 (O m_) [] e1 x1 [s0 m_] (b1 m_) := fun _ _ => by kernel_rfl
def l1 (m_ : ah) : A1 -> Option B1 := loop m_ (b1 m_)
theorem q1 (v) : l1 .lim v = b1 .lim (l1 .lim) v := KS.q (k1 .lim) v
def s1 (m_ : ah) : SO P 16 := so m_ (k1 m_)
def run (m_ : ah) : P8 × Unit -> Option (Bool) := fun v_ => match v_ with
| (v, ()) =>
 (aN.l1 m_ (400000, 0, v.1, v.2, ())).bind fun (left, m, m1, ()) =>
 bif ((!(decide (left >= 0))) || (aB (m1.length : Int))) then
 some ((decide (left >= 0)) && (decide ((m1.length : Int) <= 300))) else none
theorem k (m_ : ah) : KT (O m_) [] ⟨16, [.ag y9], .one (.sh (.one .bool)), run m_⟩ [s1 m_] := fun _ => by kernel_rfl
def c (m_ : ah) : CO P := co (k m_)
end aN

namespace dH
def O (m_ : ah) : OO P := gJ []
def e0 : Spec := ⟨[fs 39 [.q 116, .z 116, .b 0, .q 15] [(0, .w), (5, .oy 0), (6, .w)]], [(0, .c [.ry])], 1⟩
def x0 : List Spec := [⟨[fs 39 [.q 15] [(5, .oy 0)]], [(0, .c [.ry])], 1⟩]
abbrev A0 : Type := Int × Int × LI × Unit
abbrev B0 : Type := (LI × Unit)
def b0 (m_ : ah) (self : A0 -> Option B0) : A0 -> Option B0 := fun v_ => match v_ with
| (n, i, m, ()) =>
 bif decide (i >= 0) then
  bif inB i (m.length : Int) then
  self ((IntKind.i64.wrap (n.tdiv 256)), (IntKind.i64.wrap (i - 1)), (m.set i.toNat (IntKind.u8.wrap (n.tmod 256))), ()) else none
 else
  some (m, ())
theorem k0 (m_ : ah) : KQ 39 (O m_) [] e0 x0 [] (b0 m_) := fun _ _ => by kernel_rfl
def l0 (m_ : ah) : A0 -> Option B0 := loop m_ (b0 m_)
theorem q0 (v) : l0 .lim v = b0 .lim (l0 .lim) v := KS.q (k0 .lim) v
def s0 (m_ : ah) : SO P 39 := so m_ (k0 m_)
def run (m_ : ah) : Int × (List Int) × Unit -> Option (List Int) := fun v_ => match v_ with
| (n, plain, ()) =>
 bif aB (plain.length : Int) then
 bif (((decide (0 <= (IntKind.i64.wrap (16 + (plain.length : Int))))) && (decide ((IntKind.i64.wrap (16 + (plain.length : Int))) <= (IntKind.i64.wrap (16 + (plain.length : Int)))))) && (Nat.blt ((IntKind.i64.wrap (16 + (plain.length : Int))).toNat) 70368744177664)) then
 (dH.l0 m_ (n, 15, (List.replicate ((IntKind.i64.wrap (16 + (plain.length : Int))).toNat) 0), ())).bind fun (m, ()) =>
 some m else none else none
theorem k (m_ : ah) : KT (O m_) [] ⟨39, [.one (.int .i64), .one .str], .one (.sh (.one .str)), run m_⟩ [s0 m_] := fun _ => by kernel_rfl
def c (m_ : ah) : CO P := co (k m_)
end dH

namespace cu
def O (m_ : ah) : OO P := gJ []
def e0 : Spec := ⟨[fs 53 [.q 116, .z 116, .b 0, .q 15] [(0, .t), (1, .t), (5, .w)]], [], 0⟩
def x0 : List Spec := [⟨[fs 53 [.q 7461, .b 1, .q 467, .z 116, .b 0, .q 15] [(4, .b)]], [], 0⟩, ⟨[fs 53 [.q 15] []], [], 0⟩]
abbrev A0 : Type := LL × LL × Int × Unit
abbrev B0 : Type := (Bool × Unit) ⊕ (Unit)
def b0 (m_ : ah) (self : A0 -> Option B0) : A0 -> Option B0 := fun v_ => match v_ with
| (a, b, i, ()) =>
 bif aB (a.length : Int) then
 bif decide (i < (a.length : Int)) then
  bif inB i (a.length : Int) then
  bif inB i (b.length : Int) then
  bif !(decide ((rd ([] : List Int) a i) = (rd ([] : List Int) b i))) then
   some (.inl (false, ()))
  else
   self (a, b, (IntKind.i64.wrap (i + 1)), ()) else none else none
 else
  some (.inr (())) else none
theorem k0 (m_ : ah) : KQ 53 (O m_) [] e0 x0 [] (b0 m_) := fun _ _ => by kernel_rfl
def l0 (m_ : ah) : A0 -> Option B0 := loop m_ (b0 m_)
theorem q0 (v) : l0 .lim v = b0 .lim (l0 .lim) v := KS.q (k0 .lim) v
def s0 (m_ : ah) : SO P 53 := so m_ (k0 m_)
def run (m_ : ah) : (List (List Int)) × (List (List Int)) × Unit -> Option (Bool) := fun v_ => match v_ with
| (a, b, ()) =>
 bif aB (a.length : Int) then
 bif aB (b.length : Int) then
 bif !(decide ((a.length : Int) = (b.length : Int))) then
  some false
 else
  (cu.l0 m_ (a, b, 0, ())).bind fun g_ => match g_ with
  | .inl (t, ()) =>
   some t
  | .inr (()) =>
   some true else none else none
theorem k (m_ : ah) : KT (O m_) [] ⟨53, [.one (.lst .str), .one (.lst .str)], .one (.sh (.one .bool)), run m_⟩ [s0 m_] := fun _ => by kernel_rfl
def c (m_ : ah) : CO P := co (k m_)
end cu

namespace gY
def O (m_ : ah) : OO P := gJ [cu.c m_]
def run (m_ : ah) : sD × sD × Unit -> Option (Bool) := fun v_ => match v_ with
| (a, b, ()) =>
 ((bif ((decide (a.1 = b.1)) && (decide (a.2.2.1 = b.2.2.1))) then cu.run m_ (a.2.1, b.2.1, ()) else some false)).bind fun r =>
 some (((decide (a.1 = b.1)) && (decide (a.2.2.1 = b.2.2.1))) && r)
theorem k (m_ : ah) : KT (O m_) [] ⟨40, [.ag Gt, .ag Gt], .one (.sh (.one .bool)), run m_⟩ [] := fun _ => by kernel_rfl
def c (m_ : ah) : CO P := co (k m_)
end gY

namespace bG
def O (m_ : ah) : OO P := gJ [dH.c m_, gY.c m_]
def o0 : bV := .c [.b, .dat y8]
def f1 : bY := fs 17 [.q 4007717, .b 3, .q 250483, .z 62620, .b 2, .b 1, .q 979, .z 244, .b 0, .q 31] [(2, .b)]
def e0 : Spec := ⟨[fs 17 [.q 62620, .z 62620, .b 2, .b 1, .q 979, .z 244, .b 0, .q 31] [(1, .ptr 0 0), (3, .w), (4, .ptr 1 0), (5, .w)]], [(0, o0), (1, .c [.s, .t, .s, .s])], 2⟩
def x0 : List Spec := [⟨[f1], [], 0⟩, ⟨[fs 17 [.q 979, .z 244, .b 0, .q 31] [(1, .ptr 0 0), (3, .w)]], [(0, o0)], 1⟩]
abbrev A0 : Type := Int × Int × Bool × (List (List Int × (List LI × (List Int × List Int)))) × LI × LL × LI × LI × Unit
abbrev B0 : Type := (Bool × Unit) ⊕ (Int × Bool × (List (List Int × (List LI × (List Int × List Int)))) × Unit)
def b0 (m_ : ah) (self : A0 -> Option B0) : A0 -> Option B0 := fun v_ => match v_ with
| (i, j, m, m1, m2, m3, m4, m5, ()) =>
 bif decide (j < i) then
  bif inB j (m1.length : Int) then
  (gY.run m_ ((m2, (m3, (m4, m5))), (rd fU m1 j), ())).bind fun r =>
  bif r then
   some (.inl (false, ()))
  else
   self (i, (IntKind.i64.wrap (j + 1)), m, m1, m2, m3, m4, m5, ()) else none
 else
  some (.inr (i, m, m1, ()))
theorem k0 (m_ : ah) : KQ 17 (O m_) [] e0 x0 [] (b0 m_) := fun _ _ => by kernel_rfl
def l0 (m_ : ah) : A0 -> Option B0 := loop m_ (b0 m_)
theorem q0 (v) : l0 .lim v = b0 .lim (l0 .lim) v := KS.q (k0 .lim) v
def s0 (m_ : ah) : SO P 17 := so m_ (k0 m_)
def e1 : Spec := ⟨[fs 17 [.q 244, .z 244, .b 0, .q 31] [(1, .ptr 0 0), (3, .w)]], [(0, o0)], 1⟩
def x1 : List Spec := [⟨[fs 17 [.q 62613, .q 7827, .b 1, .q 979, .z 244, .b 0, .q 31] [(2, .b)]], [], 0⟩, ⟨[f1], [], 0⟩, ⟨[fs 17 [.q 31] []], [], 0⟩]
abbrev A1 : Type := Int × Bool × (List (List Int × (List LI × (List Int × List Int)))) × Unit
abbrev B1 : Type := (Bool × Unit) ⊕ (Bool × Unit) ⊕ (Unit)
def b1 (m_ : ah) (self : A1 -> Option B1) : A1 -> Option B1 := fun v_ => match v_ with
| (i, m, m1, ()) =>
 bif aB (m1.length : Int) then
 bif decide (i < (m1.length : Int)) then
  bif inB i (m1.length : Int) then
  bif aB (((rd fU m1 i).1).length : Int) then
  bif ((!(!(decide ((((rd fU m1 i).1).length : Int) = 32)))) || (aB (((rd fU m1 i).1).length : Int))) then
  bif ((!(!((!(decide ((((rd fU m1 i).1).length : Int) = 32))) && (!(decide ((((rd fU m1 i).1).length : Int) = 64)))))) || (aB ((((rd fU m1 i).2).1).length : Int))) then
  bif ((!(!(((!(decide ((((rd fU m1 i).1).length : Int) = 32))) && (!(decide ((((rd fU m1 i).1).length : Int) = 64)))) || (decide (((((rd fU m1 i).2).1).length : Int) > 126))))) || (aB (((((rd fU m1 i).2).2).1).length : Int))) then
  ((bif !((((!(decide ((((rd fU m1 i).1).length : Int) = 32))) && (!(decide ((((rd fU m1 i).1).length : Int) = 64)))) || (decide (((((rd fU m1 i).2).1).length : Int) > 126))) || (decide ((((((rd fU m1 i).2).2).1).length : Int) > 65536))) then dH.run m_ ((IntKind.i64.wrap (i + 1)), (((rd fU m1 i).2).2).1, ()) else some ([] : List Int))).bind fun r =>
  bif (((((!(decide ((((rd fU m1 i).1).length : Int) = 32))) && (!(decide ((((rd fU m1 i).1).length : Int) = 64)))) || (decide (((((rd fU m1 i).2).1).length : Int) > 126))) || (decide ((((((rd fU m1 i).2).2).1).length : Int) > 65536))) || (!(decide (((((rd fU m1 i).2).2).2) = r)))) then
   some (.inl (false, ()))
  else
   (bG.l0 m_ (i, 0, m, m1, (rd fU m1 i).1, ((rd fU m1 i).2).1, (((rd fU m1 i).2).2).1, (((rd fU m1 i).2).2).2, ())).bind fun g_ => match g_ with
   | .inl (t, ()) =>
    some (.inr (.inl (t, ())))
   | .inr (i1, m2, m3, ()) =>
    self ((IntKind.i64.wrap (i1 + 1)), m2, m3, ()) else none else none else none else none else none
 else
  some (.inr (.inr (()))) else none
theorem k1 (m_ : ah) : KQ 17 (O m_) [] e1 x1 [s0 m_] (b1 m_) := fun _ _ => by kernel_rfl
def l1 (m_ : ah) : A1 -> Option B1 := loop m_ (b1 m_)
theorem q1 (v) : l1 .lim v = b1 .lim (l1 .lim) v := KS.q (k1 .lim) v
def s1 (m_ : ah) : SO P 17 := so m_ (k1 m_)
def run (m_ : ah) : P8 × Unit -> Option (Bool) := fun v_ => match v_ with
| (v, ()) =>
 bif !v.1 then
  bif aB (v.2.length : Int) then
  some (decide ((v.2.length : Int) = 0)) else none
 else
  bif aB (v.2.length : Int) then
  bif decide ((v.2.length : Int) > 2048) then
   some false
  else
   (bG.l1 m_ (0, v.1, v.2, ())).bind fun g_ => match g_ with
   | .inl (t, ()) =>
    some t
   | .inr (.inl (t1, ())) =>
    some t1
   | .inr (.inr (())) =>
    some true else none
theorem k (m_ : ah) : KT (O m_) [] ⟨17, [.ag y9], .one (.sh (.one .bool)), run m_⟩ [s1 m_] := fun _ => by kernel_rfl
def c (m_ : ah) : CO P := co (k m_)
end bG

namespace aZ
def O (m_ : ah) : OO P := gJ [aN.c m_, bG.c m_]
def o0 : bV := .c [.b, .dat y8]
def f1 : bY := fs 5 [.q 6921421, .b 3, .q 216295, .z 27036, .b 2, .b 1, .q 423, .z 52, .b 0, .q 7] [(4, .b)]
def e0 : Spec := ⟨[fs 5 [.q 27036, .z 27036, .b 2, .b 1, .q 423, .z 52, .b 0, .q 7] [(2, .ptr 0 0), (9, .dat WQ), (10, .w), (11, .w), (18, .dat AL), (19, .w), (20, .w)]], [(0, o0)], 1⟩
def x0 : List Spec := [⟨[f1], [], 0⟩, ⟨[fs 5 [.q 423, .z 52, .b 0, .q 7] [(2, .ptr 0 0), (9, .dat WQ), (10, .w), (11, .w)]], [(0, o0)], 1⟩]
abbrev A0 : Type := (List (List (Int × List Int))) × Int × Int × (List (Int × List Int)) × Int × Int × Bool × (List (List Int × (List LI × (List Int × List Int)))) × Unit
abbrev B0 : Type := (Bool × Unit) ⊕ ((List (List (Int × List Int))) × Int × Int × Bool × (List (List Int × (List LI × (List Int × List Int)))) × Unit)
def b0 (m_ : ah) (self : A0 -> Option B0) : A0 -> Option B0 := fun v_ => match v_ with
| (t, t1, t2, t3, t4, t5, m, m1, ()) =>
 bif decide (t5 < t4) then
  bif inB t5 (t3.length : Int) then
  bif aB (((rd ((0 : Int), ([] : List Int)) t3 t5).2).length : Int) then
  bif decide ((((rd ((0 : Int), ([] : List Int)) t3 t5).2).length : Int) > 2000) then
   some (.inl (false, ()))
  else
   self (t, t1, t2, t3, t4, (IntKind.i64.wrap (t5 + 1)), m, m1, ()) else none else none
 else
  some (.inr (t, t1, t2, m, m1, ()))
theorem k0 (m_ : ah) : KQ 5 (O m_) [] e0 x0 [] (b0 m_) := fun _ _ => by kernel_rfl
def l0 (m_ : ah) : A0 -> Option B0 := loop m_ (b0 m_)
theorem q0 (v) : l0 .lim v = b0 .lim (l0 .lim) v := KS.q (k0 .lim) v
def s0 (m_ : ah) : SO P 5 := so m_ (k0 m_)
def e1 : Spec := ⟨[fs 5 [.q 52, .z 52, .b 0, .q 7] [(2, .ptr 0 0), (9, .dat WQ), (10, .w), (11, .w)]], [(0, o0)], 1⟩
def x1 : List Spec := [⟨[fs 5 [.q 27029, .q 3379, .b 1, .q 423, .z 52, .b 0, .q 7] [(4, .b)]], [], 0⟩, ⟨[f1], [], 0⟩, ⟨[fs 5 [.q 7] [(2, .ptr 0 0)]], [(0, o0)], 1⟩]
abbrev A1 : Type := (List (List (Int × List Int))) × Int × Int × Bool × (List (List Int × (List LI × (List Int × List Int)))) × Unit
abbrev B1 : Type := (Bool × Unit) ⊕ (Bool × Unit) ⊕ (Bool × (List (List Int × (List LI × (List Int × List Int)))) × Unit)
def b1 (m_ : ah) (self : A1 -> Option B1) : A1 -> Option B1 := fun v_ => match v_ with
| (t, t1, t2, m, m1, ()) =>
 bif decide (t2 < t1) then
  bif inB t2 (t.length : Int) then
  bif aB ((rd ([] : List (Int × List Int)) t t2).length : Int) then
  bif decide (((rd ([] : List (Int × List Int)) t t2).length : Int) > 40) then
   some (.inl (false, ()))
  else
   bif aB ((rd ([] : List (Int × List Int)) t t2).length : Int) then
   (aZ.l0 m_ (t, t1, t2, (rd ([] : List (Int × List Int)) t t2), ((rd ([] : List (Int × List Int)) t t2).length : Int), 0, m, m1, ())).bind fun g_ => match g_ with
   | .inl (t3, ()) =>
    some (.inr (.inl (t3, ())))
   | .inr (t4, t5, t6, m2, m3, ()) =>
    self (t4, t5, (IntKind.i64.wrap (t6 + 1)), m2, m3, ()) else none else none else none
 else
  some (.inr (.inr (m, m1, ())))
theorem k1 (m_ : ah) : KQ 5 (O m_) [] e1 x1 [s0 m_] (b1 m_) := fun _ _ => by kernel_rfl
def l1 (m_ : ah) : A1 -> Option B1 := loop m_ (b1 m_)
theorem q1 (v) : l1 .lim v = b1 .lim (l1 .lim) v := KS.q (k1 .lim) v
def s1 (m_ : ah) : SO P 5 := so m_ (k1 m_)
def run (m_ : ah) : P8 × (List (List (Int × List Int))) × Unit -> Option (Bool) := fun v_ => match v_ with
| (v, l, ()) =>
 bif aB (l.length : Int) then
 (aZ.l1 m_ (l, (l.length : Int), 0, v.1, v.2, ())).bind fun g_ => match g_ with
 | .inl (t, ()) =>
  some t
 | .inr (.inl (t1, ())) =>
  some t1
 | .inr (.inr (m, m1, ())) =>
  (aN.run m_ ((m, m1), ())).bind fun r =>
  ((bif r then bG.run m_ ((m, m1), ()) else some false)).bind fun r1 =>
  some (r && r1) else none
theorem k (m_ : ah) : KT (O m_) [] ⟨5, [.ag y9, .one WQ], .one (.sh (.one .bool)), run m_⟩ [s1 m_] := fun _ => by kernel_rfl
def c (m_ : ah) : CO P := co (k m_)
end aZ

namespace iF
def O (m_ : ah) : OO P := gJ []
def e0 : Spec := ⟨[fs 36 [.q 116, .z 116, .b 0, .q 15] [(1, .w), (5, .own 5000 (.int .i64)), (8, .dat AL), (9, .w), (10, .w)]], [(5000, .c [.row (.int .i64)])], 5001⟩
def x0 : List Spec := [⟨[fs 36 [.q 15] [(5, .own 0 (.int .i64))]], [(0, .c [.row (.int .i64)])], 1⟩]
abbrev A0 : Type := Int × (List (Int × List Int)) × Int × Int × LI × Unit
abbrev B0 : Type := (LI × Unit)
def b0 (m_ : ah) (self : A0 -> Option B0) : A0 -> Option B0 := fun v_ => match v_ with
| (kind, t, t1, t2, m, ()) =>
 bif decide (t2 < t1) then
  bif inB t2 (t.length : Int) then
  bif decide (((rd ((0 : Int), ([] : List Int)) t t2).1) = kind) then
   bif decide (m.length + ([t2] : List Int).length < 8796093022208) then
   self (kind, t, t1, (IntKind.i64.wrap (t2 + 1)), (m ++ ([t2] : List Int)), ()) else none
  else
   self (kind, t, t1, (IntKind.i64.wrap (t2 + 1)), m, ()) else none
 else
  some (m, ())
theorem k0 (m_ : ah) : KQ 36 (O m_) [] e0 x0 [] (b0 m_) := fun _ _ => by kernel_rfl
def l0 (m_ : ah) : A0 -> Option B0 := loop m_ (b0 m_)
theorem q0 (v) : l0 .lim v = b0 .lim (l0 .lim) v := KS.q (k0 .lim) v
def s0 (m_ : ah) : SO P 36 := so m_ (k0 m_)
def run (m_ : ah) : (List (Int × List Int)) × Int × Unit -> Option (List Int) := fun v_ => match v_ with
| (l, kind, ()) =>
 bif aB (l.length : Int) then
 (iF.l0 m_ (kind, l, (l.length : Int), 0, ([] : List Int), ())).bind fun (m, ()) =>
 some m else none
theorem k (m_ : ah) : KT (O m_) [] ⟨36, [.one AL, .one (.int .i64)], .one (.own (.int .i64)), run m_⟩ [s0 m_] := fun _ => by kernel_rfl
def c (m_ : ah) : CO P := co (k m_)
end iF

namespace kN
def O (m_ : ah) : OO P := gJ []
def run (m_ : ah) : Int × Int × Int × Unit -> Option (Bool) := fun v_ => match v_ with
| (n, low, high, ()) =>
 some ((decide (low <= n)) && (decide (n <= high)))
theorem k (m_ : ah) : KT (O m_) [] ⟨44, [.one (.int .i64), .one (.int .i64), .one (.int .i64)], .one (.sh (.one .bool)), run m_⟩ [] := fun _ => by kernel_rfl
def c (m_ : ah) : CO P := co (k m_)
end kN

namespace wS
def O (m_ : ah) : OO P := gJ []
def run (m_ : ah) : Int × Unit -> Option (List Int) := fun v_ => match v_ with
| (n, ()) =>
 some ([(IntKind.u8.wrap (jc .i64 n 8)), (IntKind.u8.wrap n)] : List Int)
theorem k (m_ : ah) : KT (O m_) [] ⟨59, [.one (.int .i64)], .one (.sh (.one .str)), run m_⟩ [] := fun _ => by kernel_rfl
def c (m_ : ah) : CO P := co (k m_)
end wS

namespace fO
def O (m_ : ah) : OO P := orj (gJ [wS.c m_]) (orb YT)
def e0 : Spec := ⟨[fs 45 [.q 500, .z 500, .b 0, .q 63] [(4, .ptr 0 0), (5, .b), (11, .dat AL), (12, .w), (13, .w)]], [(0, .oZ 120 5)], 1⟩
def x0 : List Spec := [⟨[fs 45 [.q 512805, .b 2, .q 32051, .b 1, .q 4007, .z 500, .b 0, .q 63] [(2, .s), (3, .w)]], [], 0⟩, ⟨[fs 45 [.q 2051229, .b 2, .q 32051, .b 1, .q 4007, .z 500, .b 0, .q 63] [(2, .s), (3, .w)]], [], 0⟩, ⟨[fs 45 [.q 63] [(4, .ptr 0 0), (5, .b)]], [(0, .oZ 120 5)], 1⟩]
abbrev A0 : Type := Bool × (List (Int × List Int)) × Int × Int × LI × Unit
abbrev B0 : Type := (LI × Int × Unit) ⊕ (LI × Int × Unit) ⊕ (Bool × LI × Unit)
def b0 (m_ : ah) (self : A0 -> Option B0) : A0 -> Option B0 := fun v_ => match v_ with
| (long, t, t1, t2, m, ()) =>
 bif decide (t2 < t1) then
  bif inB t2 (t.length : Int) then
  bif ((decide (((rd ((0 : Int), ([] : List Int)) t t2).1) < 0)) || (decide (((rd ((0 : Int), ([] : List Int)) t t2).1) >= 65536))) then
   some (.inl (([] : List Int), 13, ()))
  else
   bif aB (((rd ((0 : Int), ([] : List Int)) t t2).2).length : Int) then
   bif ((!(!(decide ((((rd ((0 : Int), ([] : List Int)) t t2).2).length : Int) < 12)))) || (aB (((rd ((0 : Int), ([] : List Int)) t t2).2).length : Int))) then
   bif ((decide ((((rd ((0 : Int), ([] : List Int)) t t2).2).length : Int) < 12)) || (!(decide ((gB .i64 (((rd ((0 : Int), ([] : List Int)) t t2).2).length : Int) 3) = 0)))) then
    some (.inr (.inl (([] : List Int), 10, ())))
   else
    ((bif !long then some () else some ())).bind fun _ =>
    bif (!!long || (aB (((rd ((0 : Int), ([] : List Int)) t t2).2).length : Int))) then
    bif !(long || (decide ((IntKind.i64.wrap ((IntKind.i64.wrap ((m.length : Int) + 4)) + (((rd ((0 : Int), ([] : List Int)) t t2).2).length : Int))) > 1232))) then
     (wS.run m_ ((rd ((0 : Int), ([] : List Int)) t t2).1, ())).bind fun r =>
     bif aB (((rd ((0 : Int), ([] : List Int)) t t2).2).length : Int) then
     (wS.run m_ ((IntKind.i64.wrap ((((rd ((0 : Int), ([] : List Int)) t t2).2).length : Int) + 4)), ())).bind fun r1 =>
     bif decide (r.length + r1.length <= maxStr) then
     bif decide ((r ++ r1).length + ((rd ((0 : Int), ([] : List Int)) t t2).2).length <= maxStr) then
     (Ie (m.length + ((r ++ r1) ++ ((rd ((0 : Int), ([] : List Int)) t t2).2)).length)).bind fun _ =>
     self ((long || (decide ((IntKind.i64.wrap ((IntKind.i64.wrap ((m.length : Int) + 4)) + (((rd ((0 : Int), ([] : List Int)) t t2).2).length : Int))) > 1232))), t, t1, (IntKind.i64.wrap (t2 + 1)), (m ++ ((r ++ r1) ++ ((rd ((0 : Int), ([] : List Int)) t t2).2))), ()) else none else none else none
    else
     self ((long || (decide ((IntKind.i64.wrap ((IntKind.i64.wrap ((m.length : Int) + 4)) + (((rd ((0 : Int), ([] : List Int)) t t2).2).length : Int))) > 1232))), t, t1, (IntKind.i64.wrap (t2 + 1)), m, ()) else none else none else none else none
 else
  some (.inr (.inr (long, m, ())))
theorem k0 (m_ : ah) : KQ 45 (O m_) [] e0 x0 [] (b0 m_) := fun _ _ => by kernel_rfl
def l0 (m_ : ah) : A0 -> Option B0 := loop m_ (b0 m_)
theorem q0 (v) : l0 .lim v = b0 .lim (l0 .lim) v := KS.q (k0 .lim) v
def s0 (m_ : ah) : SO P 45 := so m_ (k0 m_)
def run (m_ : ah) : (List (Int × List Int)) × Unit -> Option ((List Int) × Int × Unit) := fun v_ => match v_ with
| (l, ()) =>
 bif aB (l.length : Int) then
 bif decide ((l.length : Int) > 16) then
  some (([] : List Int), 18, ())
 else
  bif aB (l.length : Int) then
  (fO.l0 m_ (false, l, (l.length : Int), 0, ([] : List Int), ())).bind fun g_ => match g_ with
  | .inl (t, t1, ()) =>
   some (t, t1, ())
  | .inr (.inl (t2, t3, ())) =>
   some (t2, t3, ())
  | .inr (.inr (long, m, ())) =>
   bif long then
    some (([] : List Int), 12, ())
   else
    some (m, 0, ()) else none else none
theorem k (m_ : ah) : KT (O m_) [] ⟨45, [.one AL], .jL [.sh (.one .str), .sh (.one (.int .i64))], run m_⟩ [s0 m_] := fun _ => by kernel_rfl
def c (m_ : ah) : CO P := co (k m_)
end fO

namespace aS
def O (m_ : ah) : OO P := gJ [kN.c m_, fO.c m_]
def f0 : bY := fs 46 [.q 12, .z 12, .b 0] [(0, .slc 0 0 (some 48) (.int .u8)), (1, .u), (6, .w), (7, .w)]
def o1 : bV := .c [.dat (.arr 48 (.int .u8))]
def o2 : bV := .c [.w, .w, .w, .w, .w, .w, .dat (.int .u32), .dat (.int .u32), .dat (.int .u32), .u, .u, .u, .u, .dat AL]
def e0 : Spec := ⟨[f0, fs 22 [.v 130713 [9], .b 1, .q 32679, .z 4084, .b 0, .q 511] [(1, .ptr 1 0), (4, .s), (6, .ptr 0 0), (84, .dat tY4), (85, .w)]], [(0, o1), (1, o2)], 2⟩
def x0 : List Spec := [⟨[fs 46 [] [], fs 22 [.v 130713 [9], .b 1, .q 32679, .z 4084, .b 0, .q 511] [(1, .ptr 0 0), (4, .s), (6, .ptr 1 0), (84, .dat tY4), (85, .w)]], [(0, o2), (1, o1)], 2⟩]
abbrev A0 : Type := Int × Int × Int × Int × Int × LI × LI × Int × LI × Int × Int × Int × Int × Int × Int × Int × Int × Int × Int × Int × Int × Int × (List (Int × List Int)) × Unit
abbrev B0 : Type := (LI × LI × Int × Int × Int × Int × Int × Int × Int × Int × Int × Int × Int × Int × Int × Int × (List (Int × List Int)) × LI × Unit)
def b0 (m_ : ah) (self : A0 -> Option B0) : A0 -> Option B0 := fun v_ => match v_ with
| (bp, bq, n, t, t1, f, t2, t3, m, m1, m2, m3, m4, m5, m6, m7, m8, m9, m10, m11, m12, m13, m14, ()) =>
 bif decide (t1 < t) then
  bif aB bq then
  bif decide (0 <= (IntKind.i64.wrap (8 * (IntKind.i64.wrap ((IntKind.i64.wrap (bq - 1)) - t1))))) then
  bif inB t1 bq then
  self (bp, bq, n, t, (IntKind.i64.wrap (t1 + 1)), f, t2, t3, (m.set ((bp + t1).toNat) (IntKind.u8.wrap (jc .u64 n (IntKind.i64.wrap (8 * (IntKind.i64.wrap ((IntKind.i64.wrap (bq - 1)) - t1))))))), m1, m2, m3, m4, m5, m6, m7, m8, m9, m10, m11, m12, m13, m14, ()) else none else none else none
 else
  some (f, t2, t3, m1, m2, m3, m4, m5, m6, m7, m8, m9, m10, m11, m12, m13, m14, m, ())
theorem k0 (m_ : ah) : KQ 22 (O m_) [46] e0 x0 [] (b0 m_) := fun _ _ => by kernel_rfl
def l0 (m_ : ah) : A0 -> Option B0 := loop m_ (b0 m_)
theorem q0 (v) : l0 .lim v = b0 .lim (l0 .lim) v := KS.q (k0 .lim) v
def s0 (m_ : ah) : SO P 22 := so m_ (k0 m_)
def e1 : Spec := ⟨[fs 22 [.q 4084, .z 4084, .b 0, .q 511] [(1, .ptr 0 0), (4, .s), (6, .ptr 1 0), (84, .dat tY4), (85, .w)]], [(0, o2), (1, o1)], 2⟩
def x1 : List Spec := [⟨[fs 22 [.q 511] [(1, .ptr 0 0), (4, .s), (6, .ptr 1 0)]], [(0, o2), (1, o1)], 2⟩]
abbrev A1 : Type := LI × LI × Int × Int × Int × Int × Int × Int × Int × Int × Int × Int × Int × Int × Int × Int × (List (Int × List Int)) × LI × Unit
abbrev B1 : Type := (LI × Int × Int × Int × Int × Int × Int × Int × Int × Int × Int × Int × Int × Int × (List (Int × List Int)) × LI × Unit)
def b1 (m_ : ah) (self : A1 -> Option B1) : A1 -> Option B1 := fun v_ => match v_ with
| (f, t, t1, m, m1, m2, m3, m4, m5, m6, m7, m8, m9, m10, m11, m12, m13, m14, ()) =>
 bif decide (t1 < 3) then
  bif inB t1 3 then
  bif dG (IntKind.i64.wrap (4 + (IntKind.i64.wrap (4 * t1)))) (IntKind.i64.wrap (8 + (IntKind.i64.wrap (4 * t1)))) 48 then
  bif aB ((IntKind.i64.wrap (8 + (IntKind.i64.wrap (4 * t1)))) - (IntKind.i64.wrap (4 + (IntKind.i64.wrap (4 * t1))))) then
  (aS.l0 m_ ((IntKind.i64.wrap (4 + (IntKind.i64.wrap (4 * t1)))), ((IntKind.i64.wrap (8 + (IntKind.i64.wrap (4 * t1)))) - (IntKind.i64.wrap (4 + (IntKind.i64.wrap (4 * t1))))), (IntKind.u64.wrap (rd 0 t t1)), ((IntKind.i64.wrap (8 + (IntKind.i64.wrap (4 * t1)))) - (IntKind.i64.wrap (4 + (IntKind.i64.wrap (4 * t1))))), 0, f, t, t1, m14, m, m1, m2, m3, m4, m5, m6, m7, m8, m9, m10, m11, m12, m13, ())).bind fun (f1, t2, t3, m15, m16, m17, m18, m19, m20, m21, m22, m23, m24, tu, tC, vF, rP, wU, ()) =>
  self (f1, t2, (IntKind.i64.wrap (t3 + 1)), m15, m16, m17, m18, m19, m20, m21, m22, m23, m24, tu, tC, vF, rP, wU, ()) else none else none else none
 else
  some (f, m, m1, m2, m3, m4, m5, m6, m7, m8, m9, m10, m11, m12, m13, m14, ())
theorem k1 (m_ : ah) : KQ 22 (O m_) [46] e1 x1 [s0 m_] (b1 m_) := fun _ _ => by kernel_rfl
def l1 (m_ : ah) : A1 -> Option B1 := loop m_ (b1 m_)
theorem q1 (v) : l1 .lim v = b1 .lim (l1 .lim) v := KS.q (k1 .lim) v
def s1 (m_ : ah) : SO P 22 := so m_ (k1 m_)
def f3 : bY := fs 22 [.v 261785 [8], .b 3, .q 65447, .z 8180, .b 2, .q 1023] [(4, .s), (6, .ptr 0 0), (108, .dat (.arr 4 (.int .u64))), (109, .w)]
def e2 : Spec := ⟨[f0, f3], [(0, o1)], 1⟩
def x2 : List Spec := [⟨[fs 46 [] [], f3], [(0, o1)], 1⟩]
abbrev A2 : Type := Int × Int × Int × Int × Int × LI × LI × Int × LI × Unit
abbrev B2 : Type := (LI × LI × Int × LI × Unit)
def b2 (m_ : ah) (self : A2 -> Option B2) : A2 -> Option B2 := fun v_ => match v_ with
| (bp, bq, n, t, t1, f, t2, t3, m, ()) =>
 bif decide (t1 < t) then
  bif aB bq then
  bif decide (0 <= (IntKind.i64.wrap (8 * (IntKind.i64.wrap ((IntKind.i64.wrap (bq - 1)) - t1))))) then
  bif inB t1 bq then
  self (bp, bq, n, t, (IntKind.i64.wrap (t1 + 1)), f, t2, t3, (m.set ((bp + t1).toNat) (IntKind.u8.wrap (jc .u64 n (IntKind.i64.wrap (8 * (IntKind.i64.wrap ((IntKind.i64.wrap (bq - 1)) - t1))))))), ()) else none else none else none
 else
  some (f, t2, t3, m, ())
theorem k2 (m_ : ah) : KQ 22 (O m_) [46] e2 x2 [] (b2 m_) := fun _ _ => by kernel_rfl
def l2 (m_ : ah) : A2 -> Option B2 := loop m_ (b2 m_)
theorem q2 (v) : l2 .lim v = b2 .lim (l2 .lim) v := KS.q (k2 .lim) v
def s2 (m_ : ah) : SO P 22 := so m_ (k2 m_)
def e3 : Spec := ⟨[fs 22 [.q 8180, .z 8180, .b 2, .q 1023] [(4, .s), (6, .ptr 0 0), (108, .dat (.arr 4 (.int .u64))), (109, .w)]], [(0, o1)], 1⟩
def x3 : List Spec := [⟨[fs 22 [.q 1023] [(4, .s), (6, .ptr 0 0)]], [(0, o1)], 1⟩]
abbrev A3 : Type := LI × LI × Int × LI × Unit
abbrev B3 : Type := (LI × LI × Unit)
def b3 (m_ : ah) (self : A3 -> Option B3) : A3 -> Option B3 := fun v_ => match v_ with
| (f, t, t1, m, ()) =>
 bif decide (t1 < 4) then
  bif inB t1 4 then
  bif dG (IntKind.i64.wrap (16 + (IntKind.i64.wrap (8 * t1)))) (IntKind.i64.wrap (24 + (IntKind.i64.wrap (8 * t1)))) 48 then
  bif aB ((IntKind.i64.wrap (24 + (IntKind.i64.wrap (8 * t1)))) - (IntKind.i64.wrap (16 + (IntKind.i64.wrap (8 * t1))))) then
  (aS.l2 m_ ((IntKind.i64.wrap (16 + (IntKind.i64.wrap (8 * t1)))), ((IntKind.i64.wrap (24 + (IntKind.i64.wrap (8 * t1)))) - (IntKind.i64.wrap (16 + (IntKind.i64.wrap (8 * t1))))), (rd 0 t t1), ((IntKind.i64.wrap (24 + (IntKind.i64.wrap (8 * t1)))) - (IntKind.i64.wrap (16 + (IntKind.i64.wrap (8 * t1))))), 0, f, t, t1, m, ())).bind fun (f1, t2, t3, m1, ()) =>
  self (f1, t2, (IntKind.i64.wrap (t3 + 1)), m1, ()) else none else none else none
 else
  some (f, m, ())
theorem k3 (m_ : ah) : KQ 22 (O m_) [46] e3 x3 [s2 m_] (b3 m_) := fun _ _ => by kernel_rfl
def l3 (m_ : ah) : A3 -> Option B3 := loop m_ (b3 m_)
theorem q3 (v) : l3 .lim v = b3 .lim (l3 .lim) v := KS.q (k3 .lim) v
def s3 (m_ : ah) : SO P 22 := so m_ (k3 m_)
def run (m_ : ah) : DT1 × Unit -> Option ((List Int) × Int × Unit) := fun v_ => match v_ with
| (p, ()) =>
 (kN.run m_ (p.1, 0, 3, ())).bind fun r =>
 ((bif !!r then kN.run m_ (p.2.1, 0, 7, ()) else some false)).bind fun r1 =>
 ((bif !(!r || !r1) then kN.run m_ (p.2.2.1, 0, 7, ()) else some false)).bind fun r2 =>
 ((bif !((!r || !r1) || !r2) then kN.run m_ (p.2.2.2.1, 0, 255, ()) else some false)).bind fun r3 =>
 ((bif !(((!r || !r1) || !r2) || !r3) then kN.run m_ (p.2.2.2.2.1, (-128), 127, ()) else some false)).bind fun r4 =>
 ((bif !((((!r || !r1) || !r2) || !r3) || !r4) then kN.run m_ (p.2.2.2.2.2.1, (-128), 127, ()) else some false)).bind fun r5 =>
 bif (((((!r || !r1) || !r2) || !r3) || !r4) || !r5) then
  some (([] : List Int), 13, ())
 else
  (fO.run m_ (p.2.2.2.2.2.2.2.2.2.2.2.2.2, ())).bind fun (r6, r7, ()) =>
  bif !(decide (r7 = 0)) then
   some (([] : List Int), r7, ())
  else
   (aS.l1 m_ (r6, ((((List.replicate 3 (0 : Int) : List Int).set 0 p.2.2.2.2.2.2.1).set 1 p.2.2.2.2.2.2.2.1).set 2 p.2.2.2.2.2.2.2.2.1), 0, p.1, p.2.1, p.2.2.1, p.2.2.2.1, p.2.2.2.2.1, p.2.2.2.2.2.1, p.2.2.2.2.2.2.1, p.2.2.2.2.2.2.2.1, p.2.2.2.2.2.2.2.2.1, p.2.2.2.2.2.2.2.2.2.1, p.2.2.2.2.2.2.2.2.2.2.1, p.2.2.2.2.2.2.2.2.2.2.2.1, p.2.2.2.2.2.2.2.2.2.2.2.2.1, p.2.2.2.2.2.2.2.2.2.2.2.2.2, (((((List.replicate 48 (0 : Int)).set 0 (IntKind.u8.wrap (oJ .i64 (oJ .i64 (fA .i64 p.1 6) (fA .i64 p.2.1 3)) p.2.2.1))).set 1 (IntKind.u8.wrap p.2.2.2.1)).set 2 (IntKind.u8.wrap p.2.2.2.2.1)).set 3 (IntKind.u8.wrap p.2.2.2.2.2.1)), ())).bind fun (f, m, m1, m2, m3, m4, m5, m6, m7, m8, m9, m10, m11, m12, m13, m14, ()) =>
   (aS.l3 m_ (f, (((((List.replicate 4 (0 : Int) : List Int).set 0 m9).set 1 m10).set 2 m11).set 3 m12), 0, m14, ())).bind fun (f1, m15, ()) =>
   bif decide (((m15.drop 0).take 48).length + f1.length <= maxStr) then
   some ((((m15.drop 0).take 48) ++ f1), 0, ()) else none
theorem k (m_ : ah) : KT (O m_) [46] ⟨22, [.ag Oc], .jL [.sh (.one .str), .sh (.one (.int .i64))], run m_⟩ [s1 m_, s3 m_] := fun _ => by kernel_rfl
def c (m_ : ah) : CO P := co (k m_)
end aS

namespace jG
def O (m_ : ah) : OO P := gJ []
def run (m_ : ah) : sD × Unit -> Option (Int) := fun v_ => match v_ with
| (k, ()) =>
 bif aB (k.1.length : Int) then
 bif ((!(!(decide ((k.1.length : Int) = 32)))) || (aB (k.1.length : Int))) then
 bif ((!(decide ((k.1.length : Int) = 32))) && (!(decide ((k.1.length : Int) = 64)))) then
  some 13
 else
  bif aB (k.2.1.length : Int) then
  bif decide ((k.2.1.length : Int) > 126) then
   some 18
  else
   some 0 else none else none else none
theorem k (m_ : ah) : KT (O m_) [] ⟨113, [.ag Gt], .one (.sh (.one (.int .i64))), run m_⟩ [] := fun _ => by kernel_rfl
def c (m_ : ah) : CO P := co (k m_)
end jG

namespace aW
def O (m_ : ah) : OO P := gJ []
def e0 : Spec := ⟨[fs 116 [.q 116, .z 116, .b 0, .q 15] [(0, .t), (1, .t), (12, .w), (13, .w)]], [], 0⟩
def x0 : List Spec := [⟨[fs 116 [.q 29901, .b 1, .q 935, .z 116, .b 0, .q 15] [(4, .b)]], [], 0⟩, ⟨[fs 116 [.q 15] []], [], 0⟩]
abbrev A0 : Type := LL × LL × Int × Int × Unit
abbrev B0 : Type := (Bool × Unit) ⊕ (Unit)
def b0 (m_ : ah) (self : A0 -> Option B0) : A0 -> Option B0 := fun v_ => match v_ with
| (s1, s2, t, t1, ()) =>
 bif decide (t1 < t) then
  bif inB t1 (s1.length : Int) then
  bif inB t1 (s2.length : Int) then
  bif !(decide ((rd ([] : List Int) s1 t1) = (rd ([] : List Int) s2 t1))) then
   some (.inl (false, ()))
  else
   self (s1, s2, t, (IntKind.i64.wrap (t1 + 1)), ()) else none else none
 else
  some (.inr (()))
theorem k0 (m_ : ah) : KQ 116 (O m_) [] e0 x0 [] (b0 m_) := fun _ _ => by kernel_rfl
def l0 (m_ : ah) : A0 -> Option B0 := loop m_ (b0 m_)
theorem q0 (v) : l0 .lim v = b0 .lim (l0 .lim) v := KS.q (k0 .lim) v
def s0 (m_ : ah) : SO P 116 := so m_ (k0 m_)
def run (m_ : ah) : (List (List Int)) × (List (List Int)) × Unit -> Option (Bool) := fun v_ => match v_ with
| (s1, s2, ()) =>
 bif aB (s1.length : Int) then
 bif aB (s2.length : Int) then
 bif !(decide ((s1.length : Int) = (s2.length : Int))) then
  some false
 else
  bif aB (s1.length : Int) then
  (aW.l0 m_ (s1, s2, (s1.length : Int), 0, ())).bind fun g_ => match g_ with
  | .inl (t, ()) =>
   some t
  | .inr (()) =>
   some true else none else none else none
theorem k (m_ : ah) : KT (O m_) [] ⟨116, [.one (.lst .str), .one (.lst .str)], .one (.sh (.one .bool)), run m_⟩ [s0 m_] := fun _ => by kernel_rfl
def c (m_ : ah) : CO P := co (k m_)
end aW

namespace oG
def O (m_ : ah) : OO P := gJ [aW.c m_]
def run (m_ : ah) : sD × sD × Unit -> Option (Bool) := fun v_ => match v_ with
| (a, b, ()) =>
 ((bif ((decide (a.1 = b.1)) && (decide (a.2.2.1 = b.2.2.1))) then aW.run m_ (a.2.1, b.2.1, ()) else some false)).bind fun r =>
 some (((decide (a.1 = b.1)) && (decide (a.2.2.1 = b.2.2.1))) && r)
theorem k (m_ : ah) : KT (O m_) [] ⟨118, [.ag Gt, .ag Gt], .one (.sh (.one .bool)), run m_⟩ [] := fun _ => by kernel_rfl
def c (m_ : ah) : CO P := co (k m_)
end oG

namespace bn
def inl : FuncId -> Bool := fun f => [].any (Nat.beq f)
def O (m_ : ah) : n_ := (LD [])
theorem Ok (m_ : ah) {S0 w0} : jh P S0 w0 (O m_) := (Af (an))
def run (m_ : ah) : (List (List Int)) × Unit -> Option (List (List Int)) := fun v_ => match v_ with
| (s, ()) =>
 bif decide (([] : List (List Int)).length + s.length < 4398046511104) then
 some (([] : List (List Int)) ++ s) else none
def c_ (m_ : ah) : Callee := ⟨119, [.one (.lst .str)], .one (.own .str), run m_⟩
theorem kn (m_ : ah) : jA P (O m_) inl [] [] (c_ m_).res.fin 20000 false (start 119 [.bQ]) = (
 some ([] : List (List Int))) := by kernel_rfl
theorem k (m_ : ah) : ∀ xs : List (List Int), jA P (O m_) inl [] [] (c_ m_).res.fin 20000 false (start 119 [.mP .str xs]) = run m_ (xs, ()) := by intro xs; kernel_rfl
theorem ok (m_ : ah) : (c_ m_).OK P := Callee.of_nil (fun S0 w0 => (Ok m_)) (by kernel_rfl) (by rfl) (fun S0 w0 cs0 => an) (fun r h => (kn m_).trans ((show (
 some ([] : List (List Int))) = bn.run m_ ([], ()) from by kernel_rfl).trans h)) (fun x r h => (bn.k m_ x).trans h)
def c (m_ : ah) : CO P := ⟨c_ m_, ok m_⟩
end bn

namespace strings_Repeat
def run (_ : ah) : (List Int) × Int × Unit -> Option (List Int) := LK
def c (m_ : ah) : CO P := ⟨⟨54, [.one .str, .one (.int .i64)], .one (.sh (.one .str)), run m_⟩, Q9 (by kernel_rfl) fun s c w hc hl => Go.Proofs.Any.strings_Repeat Go.Proofs.Tryz.lays105 Go.Proofs.Tryz.Builder_Extra_105 s c w hc hl⟩
end strings_Repeat

namespace fZ
def O (m_ : ah) : OO P := gJ [strings_Repeat.c m_]
def o0 : bV := .c [.dat vw]
def e0 : Spec := ⟨[fs 120 [.q 116, .z 116, .b 0, .q 15] [(0, .w), (1, .s), (5, .ptr 0 0), (7, .w)]], [(0, o0)], 1⟩
def x0 : List Spec := [⟨[fs 120 [.q 15] [(1, .s), (5, .ptr 0 0)]], [(0, o0)], 1⟩]
abbrev A0 : Type := Int × LI × Int × LI × Unit
abbrev B0 : Type := (LI × LI × Unit)
def b0 (m_ : ah) (self : A0 -> Option B0) : A0 -> Option B0 := fun v_ => match v_ with
| (n, plain, t, m, ()) =>
 bif decide (t < 8) then
  bif decide (0 <= (IntKind.i64.wrap (8 * t))) then
  bif inB (IntKind.i64.wrap (15 - t)) 16 then
  self (n, plain, (IntKind.i64.wrap (t + 1)), (m.set ((IntKind.i64.wrap (15 - t)).toNat) (IntKind.u8.wrap (jc .i64 n (IntKind.i64.wrap (8 * t))))), ()) else none else none
 else
  some (plain, m, ())
theorem k0 (m_ : ah) : KQ 120 (O m_) [] e0 x0 [] (b0 m_) := fun _ _ => by kernel_rfl
def l0 (m_ : ah) : A0 -> Option B0 := loop m_ (b0 m_)
theorem q0 (v) : l0 .lim v = b0 .lim (l0 .lim) v := KS.q (k0 .lim) v
def s0 (m_ : ah) : SO P 120 := so m_ (k0 m_)
def run (m_ : ah) : Int × (List Int) × Unit -> Option (List Int) := fun v_ => match v_ with
| (n, plain, ()) =>
 (fZ.l0 m_ (n, plain, 0, (List.replicate 16 (0 : Int)), ())).bind fun (Uf, m, ()) =>
 bif aB (Uf.length : Int) then
 (strings_Repeat.run m_ (([0] : List Int), (Uf.length : Int), ())).bind fun r =>
 bif decide (((m.drop 0).take 16).length + r.length <= maxStr) then
 some (((m.drop 0).take 16) ++ r) else none else none
theorem k (m_ : ah) : KT (O m_) [] ⟨120, [.one (.int .i64), .one .str], .one (.sh (.one .str)), run m_⟩ [s0 m_] := fun _ => by kernel_rfl
def c (m_ : ah) : CO P := co (k m_)
end fZ

namespace bW
def inl : FuncId -> Bool := fun f => [].any (Nat.beq f)
def O (m_ : ah) : n_ := (LD [])
theorem Ok (m_ : ah) {S0 w0} : jh P S0 w0 (O m_) := (Af (an))
def run (m_ : ah) : (List sD) × Unit -> Option (List sD) := fun v_ => match v_ with
| (s, ()) =>
 bif decide (([] : List sD).length + s.length < 977343669134) then
 some (([] : List sD) ++ s) else none
def c_ (m_ : ah) : Callee := ⟨121, [.one y8], .one (.own Gt), run m_⟩
theorem kn (m_ : ah) : jA P (O m_) inl [] [] (c_ m_).res.fin 20000 false (start 121 [.bQ]) = (
 some ([] : List sD)) := by kernel_rfl
theorem k (m_ : ah) : ∀ xs : List sD, jA P (O m_) inl [] [] (c_ m_).res.fin 20000 false (start 121 [.mP Gt xs]) = run m_ (xs, ()) := by intro xs; kernel_rfl
theorem ok (m_ : ah) : (c_ m_).OK P := Callee.of_nil (fun S0 w0 => (Ok m_)) (by kernel_rfl) (by rfl) (fun S0 w0 cs0 => an) (fun r h => (kn m_).trans ((show (
 some ([] : List sD)) = bW.run m_ ([], ()) from by kernel_rfl).trans h)) (fun x r h => (bW.k m_ x).trans h)
def c (m_ : ah) : CO P := ⟨c_ m_, ok m_⟩
end bW

namespace iM
def O (m_ : ah) : OO P := gJ [strings_Repeat.c m_]
def run (m_ : ah) : Int × Unit -> Option (List Int) := fun v_ => match v_ with
| (n, ()) =>
 (strings_Repeat.run m_ (([0] : List Int), n, ())).bind fun r =>
 some r
theorem k (m_ : ah) : KT (O m_) [] ⟨130, [.one (.int .i64)], .one (.sh (.one .str)), run m_⟩ [] := fun _ => by kernel_rfl
def c (m_ : ah) : CO P := co (k m_)
end iM

namespace fJ
def O (m_ : ah) : OO P := gJ []
def e0 : Spec := ⟨[fs 157 [.q 56, .z 56, .b 0, .q 15] [(0, .y), (1, .y), (5, .y)]], [], 0⟩
def x0 : List Spec := [⟨[fs 157 [.q 15] [(5, .y)]], [], 0⟩]
abbrev A0 : Type := Int × Int × Int × Unit
abbrev B0 : Type := (Int × Unit)
def b0 (m_ : ah) (self : A0 -> Option B0) : A0 -> Option B0 := fun v_ => match v_ with
| (a, b, r, ()) =>
 bif decide (b > 0) then
  self ((dP .u8 (fA .u8 a 1) (IntKind.u8.wrap ((jc .u8 a 7) * 27))), (jc .u8 b 1), (dP .u8 r (IntKind.u8.wrap (a * (gB .u8 b 1)))), ())
 else
  some (r, ())
theorem k0 (m_ : ah) : KQ 157 (O m_) [] e0 x0 [] (b0 m_) := fun _ _ => by kernel_rfl
def l0 (m_ : ah) : A0 -> Option B0 := loop m_ (b0 m_)
theorem q0 (v) : l0 .lim v = b0 .lim (l0 .lim) v := KS.q (k0 .lim) v
def s0 (m_ : ah) : SO P 157 := so m_ (k0 m_)
def run (m_ : ah) : Int × Int × Unit -> Option (Int) := fun v_ => match v_ with
| (a, b, ()) =>
 (fJ.l0 m_ (a, b, 0, ())).bind fun (r, ()) =>
 some r
theorem k (m_ : ah) : KT (O m_) [] ⟨157, [.one (.int .u8), .one (.int .u8)], .one (.sh (.one (.int .u8))), run m_⟩ [s0 m_] := fun _ => by kernel_rfl
def c (m_ : ah) : CO P := co (k m_)
end fJ

namespace iJ
def O (m_ : ah) : OO P := gJ [fJ.c m_]
def e0 : Spec := ⟨[fs 165 [.q 116, .z 116, .b 0, .q 15] [(3, .y), (4, .y), (6, .w)]], [], 0⟩
def x0 : List Spec := [⟨[fs 165 [.q 15] [(3, .y)]], [], 0⟩]
abbrev A0 : Type := Int × Int × Int × Unit
abbrev B0 : Type := (Int × Unit)
def b0 (m_ : ah) (self : A0 -> Option B0) : A0 -> Option B0 := fun v_ => match v_ with
| (r, s, t, ()) =>
 bif decide (t < 7) then
  (fJ.run m_ (s, s, ())).bind fun r1 =>
  (fJ.run m_ (r, r1, ())).bind fun r2 =>
  self (r2, r1, (IntKind.i64.wrap (t + 1)), ())
 else
  some (r, ())
theorem k0 (m_ : ah) : KQ 165 (O m_) [] e0 x0 [] (b0 m_) := fun _ _ => by kernel_rfl
def l0 (m_ : ah) : A0 -> Option B0 := loop m_ (b0 m_)
theorem q0 (v) : l0 .lim v = b0 .lim (l0 .lim) v := KS.q (k0 .lim) v
def s0 (m_ : ah) : SO P 165 := so m_ (k0 m_)
def run (m_ : ah) : Int × Unit -> Option (Int) := fun v_ => match v_ with
| (b, ()) =>
 (iJ.l0 m_ (1, b, 0, ())).bind fun (r, ()) =>
 some r
theorem k (m_ : ah) : KT (O m_) [] ⟨165, [.one (.int .u8)], .one (.sh (.one (.int .u8))), run m_⟩ [s0 m_] := fun _ => by kernel_rfl
def c (m_ : ah) : CO P := co (k m_)
end iJ

namespace qw
def O (m_ : ah) : OO P := gJ []
def run (m_ : ah) : Int × Int × Unit -> Option (Int) := fun v_ => match v_ with
| (b, n, ()) =>
 bif decide (0 <= n) then
 bif decide (0 <= (IntKind.i64.wrap (8 - n))) then
 some (oJ .u8 (fA .u8 b n) (jc .u8 b (IntKind.i64.wrap (8 - n)))) else none else none
theorem k (m_ : ah) : KT (O m_) [] ⟨166, [.one (.int .u8), .one (.int .i64)], .one (.sh (.one (.int .u8))), run m_⟩ [] := fun _ => by kernel_rfl
def c (m_ : ah) : CO P := co (k m_)
end qw

namespace rF
def O (m_ : ah) : OO P := gJ [iJ.c m_, qw.c m_]
def run (m_ : ah) : Int × Unit -> Option (Int) := fun v_ => match v_ with
| (b, ()) =>
 (iJ.run m_ (b, ())).bind fun r =>
 (qw.run m_ (r, 1, ())).bind fun r1 =>
 (qw.run m_ (r, 2, ())).bind fun r2 =>
 (qw.run m_ (r, 3, ())).bind fun r3 =>
 (qw.run m_ (r, 4, ())).bind fun r4 =>
 some (dP .u8 (dP .u8 (dP .u8 (dP .u8 (dP .u8 r r1) r2) r3) r4) 99)
theorem k (m_ : ah) : KT (O m_) [] ⟨156, [.one (.int .u8)], .one (.sh (.one (.int .u8))), run m_⟩ [] := fun _ => by kernel_rfl
def c (m_ : ah) : CO P := co (k m_)
end rF

namespace aG
def O (m_ : ah) : OO P := gJ []
def e0 : Spec := ⟨[fs 160 [.q 116, .z 116, .b 0, .q 15] [(0, .dat tY7), (3, .w), (9, .dat tY7), (10, .w), (11, .w)]], [], 0⟩
def x0 : List Spec := [⟨[fs 160 [.q 15] [(0, .dat tY7), (3, .w)]], [], 0⟩]
abbrev A0 : Type := LL × Int × LL × Int × Int × Unit
abbrev B0 : Type := (LL × Int × Unit)
def b0 (m_ : ah) (self : A0 -> Option B0) : A0 -> Option B0 := fun v_ => match v_ with
| (slices, size, t, t1, t2, ()) =>
 bif decide (t2 < t1) then
  bif inB t2 (t.length : Int) then
  bif aB ((rd ([] : List Int) t t2).length : Int) then
  bif decide ((IntKind.i64.wrap (size + ((rd ([] : List Int) t t2).length : Int))) < 0) then
   none
  else
   self (slices, (IntKind.i64.wrap (size + ((rd ([] : List Int) t t2).length : Int))), t, t1, (IntKind.i64.wrap (t2 + 1)), ()) else none else none
 else
  some (slices, size, ())
theorem k0 (m_ : ah) : KQ 160 (O m_) [169] e0 x0 [] (b0 m_) := fun _ _ => by kernel_rfl
def l0 (m_ : ah) : A0 -> Option B0 := loop m_ (b0 m_)
theorem q0 (v) : l0 .lim v = b0 .lim (l0 .lim) v := KS.q (k0 .lim) v
def s0 (m_ : ah) : SO P 160 := so m_ (k0 m_)
def e1 : Spec := ⟨[fs 160 [.q 500, .z 500, .b 2, .q 63] [(6, .pre 0 (.int .u8)), (25, .dat tY7), (26, .w), (27, .w)]], [(0, .c [.ry])], 1⟩
def x1 : List Spec := [⟨[fs 160 [.q 63] [(6, .pre 0 (.int .u8))]], [(0, .c [.ry])], 1⟩]
abbrev A1 : Type := Int × LL × Int × Int × LI × Unit
abbrev B1 : Type := (Int × LI × Unit)
def b1 (m_ : ah) (self : A1 -> Option B1) : A1 -> Option B1 := fun v_ => match v_ with
| (qx, t, t1, t2, m, ()) =>
 bif decide (t2 < t1) then
  bif inB t2 (t.length : Int) then
  bif ((decide (m.length + (rd ([] : List Int) t t2).length < 70368744177664)) && (decide (0 <= qx))) then
  self ((qx + ((rd ([] : List Int) t t2).length : Int)), t, t1, (IntKind.i64.wrap (t2 + 1)), (m.take qx.toNat ++ ((rd ([] : List Int) t t2) ++ m.drop (qx.toNat + (rd ([] : List Int) t t2).length))), ()) else none else none
 else
  some (qx, m, ())
theorem k1 (m_ : ah) : KQ 160 (O m_) [169] e1 x1 [] (b1 m_) := fun _ _ => by kernel_rfl
def l1 (m_ : ah) : A1 -> Option B1 := loop m_ (b1 m_)
theorem q1 (v) : l1 .lim v = b1 .lim (l1 .lim) v := KS.q (k1 .lim) v
def s1 (m_ : ah) : SO P 160 := so m_ (k1 m_)
def run (m_ : ah) : (List (List Int)) × Unit -> Option (List Int) := fun v_ => match v_ with
| (slices, ()) =>
 bif aB (slices.length : Int) then
 (aG.l0 m_ (slices, 0, slices, (slices.length : Int), 0, ())).bind fun (xJ, size, ()) =>
 bif decide (size < 0) then
  none
 else
  bif decide ((IntKind.i64.wrap (size - 0)) > 0) then
   bif ((decide (0 <= (IntKind.i64.wrap (size - 0)))) && (Nat.blt ((IntKind.i64.wrap (size - 0)).toNat) 70368744177664)) then
   bif dG 0 0 ((List.replicate ((IntKind.i64.wrap (size - 0)).toNat) 0).length : Int) then
   bif aB (xJ.length : Int) then
   (aG.l1 m_ (0, xJ, (xJ.length : Int), 0, (List.replicate ((IntKind.i64.wrap (size - 0)).toNat) 0), ())).bind fun (qx, m, ()) =>
   some ((m.drop 0).take qx.toNat) else none else none else none
  else
   bif aB (xJ.length : Int) then
   (aG.l1 m_ (0, xJ, (xJ.length : Int), 0, ([] : List Int), ())).bind fun (Rf, m1, ()) =>
   some ((m1.drop 0).take Rf.toNat) else none else none
theorem k (m_ : ah) : KT (O m_) [169] ⟨160, [.one tY7], .one (.sh (.one Dp)), run m_⟩ [s0 m_, s1 m_] := fun _ => by kernel_rfl
def c (m_ : ah) : CO P := co (k m_)
end aG

namespace iP
def O (m_ : ah) : OO P := gJ []
def run (m_ : ah) : Bool × Unit -> Option (Int) := fun v_ => match v_ with
| (b, ()) =>
 bif b then
  some 1
 else
  some 0
theorem k (m_ : ah) : KT (O m_) [] ⟨173, [.one .bool], .one (.sh (.one (.int .u32))), run m_⟩ [] := fun _ => by kernel_rfl
def c (m_ : ah) : CO P := co (k m_)
end iP

namespace ak
def xs : List (FuncId × XK) := [(161, .load .u32), (172, .store), (174, .Fe .disable), (175, .cas .i32), (176, .Fe .enable), (177, .Fg .acquire), (179, .Fg .releaseMerge), (180, .add .i32)]
theorem YV : ∀ x ∈ xs, x.2.OK P x.1 := ac ⟨_, Go.Proofs.Tryz.func161, by kernel_rfl, by kernel_rfl, by kernel_rfl, by kernel_rfl⟩ (ac ⟨_, Go.Proofs.Tryz.func172, by kernel_rfl, by kernel_rfl, by kernel_rfl, by kernel_rfl⟩ (ac ⟨_, Go.Proofs.Tryz.func174, by kernel_rfl, by kernel_rfl, by kernel_rfl, by kernel_rfl⟩ (ac ⟨_, Go.Proofs.Tryz.func175, by kernel_rfl, by kernel_rfl, by kernel_rfl, by kernel_rfl⟩ (ac ⟨_, Go.Proofs.Tryz.func176, by kernel_rfl, by kernel_rfl, by kernel_rfl, by kernel_rfl⟩ (ac ⟨_, Go.Proofs.Tryz.func177, by kernel_rfl, by kernel_rfl, by kernel_rfl, by kernel_rfl⟩ (ac ⟨_, Go.Proofs.Tryz.func179, by kernel_rfl, by kernel_rfl, by kernel_rfl, by kernel_rfl⟩ (ac ⟨_, Go.Proofs.Tryz.func180, by kernel_rfl, by kernel_rfl, by kernel_rfl, by kernel_rfl⟩ (an))))))))
def O (m_ : ah) : OO P := orj (gJ [rF.c m_, fJ.c m_, aG.c m_, iP.c m_]) (orx YV)
def f0 : bY := ⟨155, [.v 61 [1]], [], none, [.call 164 [.ptr 0 1, .b], .call 163 [.ptr 0 2]], false⟩
def f1 : bY := fs 135 [.v 30 [5,6,7], .q 31] []
def o2 : bV := .c [.s, .dat (.int .u32), .dat (.int .i32), .dat (.int .u32), .dat uq, .dat uq, .dat uw, .pz]
def o3 : bV := .c [.dat vw]
def f4 : bY := fs 149 [.v 2 [1], .q 3] [(0, .ptr 1 0)]
def f5 : bY := fs 137 [.v 6 [1], .q 7] [(2, .ptr 2 0), (3, .ptr 3 0), (4, .ptr 4 0)]
def e0 : Spec := ⟨[fs 150 [.q 13116, .z 13116, .b 2, .b 1, .q 103, .z 12, .b 0] [(0, .ptr 0 0), (2, .w), (6, .w), (25, .oy 1), (26, .w), (27, .w)], fs 149 [.v 2 [1], .q 3] [(0, .ptr 2 0)], f0, fs 148 [.v 6 [2]] [], fs 140 [.v 3 [4]] [], fs 137 [.v 6 [1], .q 7] [(2, .ptr 3 0), (3, .ptr 4 0), (4, .ptr 5 0)], f1], [(0, o2), (1, .c [.ry]), (2, .c [.ptr 0 0]), (3, .c [.ptr 0 0]), (4, o3), (5, o3)], 6⟩
def x0 : List Spec := [⟨[fs 150 [.q 103, .z 12, .b 0] [(0, .ptr 0 0), (6, .w)], f4, f0, fs 148 [.v 6 [2]] [], fs 140 [.v 3 [4]] [], f5, f1], [(0, o2), (1, .c [.ptr 0 0]), (2, .c [.ptr 0 0]), (3, o3), (4, o3)], 5⟩]
abbrev A0 : Type := Int × Int × Int × Int × Bool × LI × Int × Int × Int × LI × LI × LL × LI × LI × LI × Unit
abbrev B0 : Type := (Int × Bool × LI × Int × Int × Int × LI × LI × LL × LI × LI × Unit)
def b0 (m_ : ah) (self : A0 -> Option B0) : A0 -> Option B0 := fun v_ => match v_ with
| (i, t, t1, t2, m, m1, m2, m3, m4, m5, m6, m7, m8, m9, m10, ()) =>
 bif decide (t2 < t1) then
  bif inB t2 (m8.length : Int) then
  (fJ.run m_ ((IntKind.u8.wrap i), (rd 0 m8 t2), ())).bind fun r =>
  bif inB (rd 0 m8 t2) 16 then
  bif inB i 256 then
  self (i, t, t1, (IntKind.i64.wrap (t2 + 1)), m, m1, m2, m3, m4, m5, m6, (m7.set ((rd 0 m8 t2).toNat) ((rd (List.replicate 256 (0 : Int) : List Int) m7 (rd 0 m8 t2)).set i.toNat r)), m8, m9, m10, ()) else none else none else none
 else
  some (t, m, m1, m2, m3, m4, m5, m6, m7, m9, m10, ())
theorem k0 (m_ : ah) : KQ 135 (O m_) [136, 137, 140, 141, 142, 143, 144, 145, 148, 149, 150, 151, 154, 155, 158, 159, 160, 162, 170, 171] e0 x0 [] (b0 m_) := fun _ _ => by kernel_rfl
def l0 (m_ : ah) : A0 -> Option B0 := loop m_ (b0 m_)
theorem q0 (v) : l0 .lim v = b0 .lim (l0 .lim) v := KS.q (k0 .lim) v
def s0 (m_ : ah) : SO P 135 := so m_ (k0 m_)
def e1 : Spec := ⟨[fs 150 [.q 12, .z 12, .b 0] [(0, .ptr 0 0), (6, .w)], f4, f0, fs 148 [.v 6 [2]] [], fs 140 [.v 3 [4]] [], f5, f1], [(0, o2), (1, .c [.ptr 0 0]), (2, .c [.ptr 0 0]), (3, o3), (4, o3)], 5⟩
def x1 : List Spec := [⟨[fs 150 [] [], fs 149 [.v 2 [1], .q 3] [(0, .ptr 0 0)], ⟨155, [.v 61 [1]], [], none, [.call 164 [.ptr 1 1, .b], .call 163 [.ptr 1 2]], false⟩, fs 148 [.v 6 [2]] [], fs 140 [.v 3 [4]] [], f5, f1], [(0, .c [.ptr 1 0]), (1, o2), (2, .c [.ptr 1 0]), (3, o3), (4, o3)], 5⟩]
abbrev A1 : Type := Int × Bool × LI × Int × Int × Int × LI × LI × LL × LI × LI × Unit
abbrev B1 : Type := (Bool × LI × Int × Int × Int × LI × LI × LL × LI × LI × Unit)
def b1 (m_ : ah) (self : A1 -> Option B1) : A1 -> Option B1 := fun v_ => match v_ with
| (t, m, m1, m2, m3, m4, m5, m6, m7, m8, m9, ()) =>
 bif decide (t < 256) then
  (rF.run m_ ((IntKind.u8.wrap t), ())).bind fun r =>
  bif inB t 256 then
  bif inB r 256 then
  bif aB (([1, 2, 3, 9, 11, 13, 14] : List Int).length : Int) then
  (ak.l0 m_ (t, t, (([1, 2, 3, 9, 11, 13, 14] : List Int).length : Int), 0, m, m1, m2, m3, m4, (m5.set t.toNat r), (m6.set r.toNat (IntKind.u8.wrap t)), m7, ([1, 2, 3, 9, 11, 13, 14] : List Int), m8, m9, ())).bind fun (t1, m10, m11, m12, m13, m14, m15, m16, m17, m18, m19, ()) =>
  self ((IntKind.i64.wrap (t1 + 1)), m10, m11, m12, m13, m14, m15, m16, m17, m18, m19, ()) else none else none else none
 else
  some (m, m1, m2, m3, m4, m5, m6, m7, m8, m9, ())
theorem k1 (m_ : ah) : KQ 135 (O m_) [136, 137, 140, 141, 142, 143, 144, 145, 148, 149, 150, 151, 154, 155, 158, 159, 160, 162, 170, 171] e1 x1 [s0 m_] (b1 m_) := fun _ _ => by kernel_rfl
def l1 (m_ : ah) : A1 -> Option B1 := loop m_ (b1 m_)
theorem q1 (v) : l1 .lim v = b1 .lim (l1 .lim) v := KS.q (k1 .lim) v
def s1 (m_ : ah) : SO P 135 := so m_ (k1 m_)
def o6 : bV := .c [.row MQ]
def f7 : bY := ⟨155, [.v 61 [1]], [], none, [.call 164 [.ptr 4 1, .b], .call 163 [.ptr 4 2]], false⟩
def f8 : bY := fs 137 [.v 6 [1], .q 7] [(2, .ptr 5 0), (3, .ptr 6 0), (4, .ptr 7 0)]
def o9 : bV := .c [.own 8 MQ]
def e2 : Spec := ⟨[fs 167 [.q 12, .z 12, .b 0] [(0, .fn (.yield 0) []), (1, .ptr 1 0), (2, .ptr 2 0), (4, .w)], ⟨151, [.inRange 0, .b 0, .q 31], [(1, .ptr 3 0), (2, .w), (3, .ptr 4 0)], none, [.mark 5], false⟩, fs 149 [.v 3 [1]] [], ⟨155, [.v 61 [1]], [], none, [.call 164 [.ptr 6 1, .b], .call 163 [.ptr 6 2]], false⟩, fs 148 [.v 6 [2]] [], fs 140 [.v 3 [4]] [], fs 137 [.v 6 [1], .q 7] [(2, .ptr 7 0), (3, .ptr 8 0), (4, .ptr 9 0)], f1], [(0, .loop .ready none 151 [(3, .ptr 4 0)] [22] (y7 122) 5), (1, .c [.oy 10]), (2, .c [.w]), (3, .c [.ptr 6 0]), (4, .c [.own 5001 MQ]), (5, .deferred false), (6, o2), (7, .c [.ptr 6 0]), (8, o3), (9, o3), (10, .d [.ry]), (5001, o6)], 5002⟩
def x2 : List Spec := [⟨[fs 167 [] [], ⟨151, [.inRange 2, .b 0, .q 31], [(1, .ptr 0 0), (2, .w), (3, .ptr 1 0)], none, [.mark 3], false⟩, fs 149 [.v 3 [1]] [], f7, fs 148 [.v 6 [2]] [], fs 140 [.v 3 [4]] [], f8, f1], [(0, .c [.ptr 4 0]), (1, o9), (2, .loop .ready none 151 [(3, .ptr 1 0)] [22] (y7 122) 3), (3, .deferred false), (4, o2), (5, .c [.ptr 4 0]), (6, o3), (7, o3), (8, o6)], 9⟩]
abbrev A2 : Type := Int × Int × Bool × Int × LI × Int × Int × Int × LI × LI × LL × LI × LI × LI × LL × Unit
abbrev B2 : Type := (Int × Bool × LI × Int × Int × Int × LI × LI × LL × LI × LI × LL × Unit)
def b2 (m_ : ah) (self : A2 -> Option B2) : A2 -> Option B2 := fun v_ => match v_ with
| (i, nk, m, m1, m2, m3, m4, m5, m6, m7, m8, m9, m10, m11, m12, ()) =>
 bif aB (m11.length : Int) then
 bif decide (i < (m11.length : Int)) then
  bif dG i (m11.length : Int) (m11.length : Int) then
  bif aB ((m11.length : Int) - i) then
  bif ((dG i (IntKind.i64.wrap (i + (mn m1 ((m11.length : Int) - i)))) (IntKind.i64.wrap (i + (mn m1 ((m11.length : Int) - i))))) && (decide ((IntKind.i64.wrap (i + (mn m1 ((m11.length : Int) - i)))) <= (m11.length : Int)))) then
  bif (Nat.ble 1 4 && Nat.ble 4 (cut m11 i (IntKind.i64.wrap (i + (mn m1 ((m11.length : Int) - i))))).length) then
  bif decide (m12.length + ([((cut m11 i (IntKind.i64.wrap (i + (mn m1 ((m11.length : Int) - i))))).take 4)] : List (List Int)).length < 17592186044416) then
  self ((IntKind.i64.wrap (i + m1)), nk, m, m1, m2, m3, m4, m5, m6, m7, m8, m9, m10, m11, (m12 ++ ([((cut m11 i (IntKind.i64.wrap (i + (mn m1 ((m11.length : Int) - i))))).take 4)] : List (List Int))), ()) else none else none else none else none else none
 else
  some (nk, m, m2, m3, m4, m5, m6, m7, m8, m9, m10, m12, ()) else none
theorem k2 (m_ : ah) : KQ 135 (O m_) [136, 137, 140, 141, 142, 143, 144, 145, 148, 149, 150, 151, 154, 155, 158, 159, 160, 162, 170, 171] e2 x2 [] (b2 m_) := fun _ _ => by kernel_rfl
def l2 (m_ : ah) : A2 -> Option B2 := loop m_ (b2 m_)
theorem q2 (v) : l2 .lim v = b2 .lim (l2 .lim) v := KS.q (k2 .lim) v
def s2 (m_ : ah) : SO P 135 := so m_ (k2 m_)
def o10 : bV := .c [.dat MQ]
def e3 : Spec := ⟨[⟨151, [.q 518452, .z 518452, .b 4, .q 64807, .b 3, .q 4051, .z 1012, .b 2, .q 127], [(1, .ptr 0 0), (2, .w), (3, .ptr 1 0), (5, .y), (6, .w), (7, .ptr 2 0), (115, .w)], none, [.mark 3], false⟩, fs 149 [.v 3 [1]] [], f7, fs 148 [.v 6 [2]] [], fs 140 [.v 3 [4]] [], f8, f1], [(0, .c [.ptr 4 0]), (1, o9), (2, o10), (3, .deferred false), (4, o2), (5, .c [.ptr 4 0]), (6, o3), (7, o3), (8, o6)], 9⟩
def x3 : List Spec := [⟨[⟨151, [.q 64807, .b 3, .q 4051, .z 1012, .b 2, .q 127], [(1, .ptr 0 0), (2, .w), (3, .ptr 1 0), (5, .y), (6, .w), (7, .ptr 2 0)], none, [.mark 3], false⟩, fs 149 [.v 3 [1]] [], f7, fs 148 [.v 6 [2]] [], fs 140 [.v 3 [4]] [], f8, f1], [(0, .c [.ptr 4 0]), (1, o9), (2, o10), (3, .deferred false), (4, o2), (5, .c [.ptr 4 0]), (6, o3), (7, o3), (8, o6)], 9⟩]
abbrev A3 : Type := Int × Int × Int × Int × Bool × LI × LI × Int × Int × Int × LI × LI × LL × LI × LI × LL × Unit
abbrev B3 : Type := (Int × Int × Int × Bool × LI × LI × Int × Int × Int × LI × LI × LL × LI × LI × LL × Unit)
def b3 (m_ : ah) (self : A3 -> Option B3) : A3 -> Option B3 := fun v_ => match v_ with
| (nk, x, i, t, m, m1, m2, m3, m4, m5, m6, m7, m8, m9, m10, m11, ()) =>
 bif decide (t < 4) then
  bif inB t 4 then
  bif inB (IntKind.i64.wrap (i - nk)) (m11.length : Int) then
  bif inB t 4 then
  bif inB t 4 then
  self (nk, x, i, (IntKind.i64.wrap (t + 1)), m, (m1.set t.toNat (dP .u8 (rd 0 m1 t) (rd 0 (rd (List.replicate 4 (0 : Int) : List Int) m11 (IntKind.i64.wrap (i - nk))) t))), m2, m3, m4, m5, m6, m7, m8, m9, m10, m11, ()) else none else none else none else none
 else
  some (nk, x, i, m, m1, m2, m3, m4, m5, m6, m7, m8, m9, m10, m11, ())
theorem k3 (m_ : ah) : KQ 135 (O m_) [136, 137, 140, 141, 142, 143, 144, 145, 148, 149, 150, 151, 154, 155, 158, 159, 160, 162, 170, 171] e3 x3 [] (b3 m_) := fun _ _ => by kernel_rfl
def l3 (m_ : ah) : A3 -> Option B3 := loop m_ (b3 m_)
theorem q3 (v) : l3 .lim v = b3 .lim (l3 .lim) v := KS.q (k3 .lim) v
def s3 (m_ : ah) : SO P 135 := so m_ (k3 m_)
def f11 : bY := ⟨155, [.v 61 [1]], [], none, [.call 164 [.ptr 3 1, .b], .call 163 [.ptr 3 2]], false⟩
def f12 : bY := fs 137 [.v 6 [1], .q 7] [(2, .ptr 4 0), (3, .ptr 5 0), (4, .ptr 6 0)]
def o13 : bV := .c [.own 7 MQ]
def e4 : Spec := ⟨[⟨151, [.q 1012, .z 1012, .b 2, .q 127], [(1, .ptr 0 0), (2, .w), (3, .ptr 1 0), (5, .y), (6, .w)], none, [.mark 2], false⟩, fs 149 [.v 3 [1]] [], f11, fs 148 [.v 6 [2]] [], fs 140 [.v 3 [4]] [], f12, f1], [(0, .c [.ptr 3 0]), (1, o13), (2, .deferred false), (3, o2), (4, .c [.ptr 3 0]), (5, o3), (6, o3), (7, o6)], 8⟩
def x4 : List Spec := [⟨[⟨151, [.q 127], [(1, .ptr 0 0), (3, .ptr 1 0)], none, [.mark 2], false⟩, fs 149 [.v 3 [1]] [], f11, fs 148 [.v 6 [2]] [], fs 140 [.v 3 [4]] [], f12, f1], [(0, .c [.ptr 3 0]), (1, o13), (2, .deferred false), (3, o2), (4, .c [.ptr 3 0]), (5, o3), (6, o3), (7, o6)], 8⟩]
abbrev A4 : Type := Int × Int × Int × Bool × LI × Int × Int × Int × LI × LI × LL × LI × LI × LL × Unit
abbrev B4 : Type := (Bool × LI × Int × Int × Int × LI × LI × LL × LI × LI × LL × Unit)
def b4 (m_ : ah) (self : A4 -> Option B4) : A4 -> Option B4 := fun v_ => match v_ with
| (nk, x, i, m, m1, m2, m3, m4, m5, m6, m7, m8, m9, m10, ()) =>
 bif decide (i < (IntKind.i64.wrap (4 * (IntKind.i64.wrap (nk + 7))))) then
  bif inB (IntKind.i64.wrap (i - 1)) (m10.length : Int) then
  bif !(decide (nk = 0)) then
  bif decide ((i.tmod nk) = 0) then
   bif inB (rd 0 (rd (List.replicate 4 (0 : Int) : List Int) m10 (IntKind.i64.wrap (i - 1))) 1) 256 then
   bif inB (rd 0 (rd (List.replicate 4 (0 : Int) : List Int) m10 (IntKind.i64.wrap (i - 1))) 2) 256 then
   bif inB (rd 0 (rd (List.replicate 4 (0 : Int) : List Int) m10 (IntKind.i64.wrap (i - 1))) 3) 256 then
   bif inB (rd 0 (rd (List.replicate 4 (0 : Int) : List Int) m10 (IntKind.i64.wrap (i - 1))) 0) 256 then
   (fJ.run m_ (x, 2, ())).bind fun r =>
   (ak.l3 m_ (nk, r, i, 0, m, (((((List.replicate 4 (0 : Int) : List Int).set 0 (dP .u8 (rd 0 m5 (rd 0 (rd (List.replicate 4 (0 : Int) : List Int) m10 (IntKind.i64.wrap (i - 1))) 1)) x)).set 1 (rd 0 m5 (rd 0 (rd (List.replicate 4 (0 : Int) : List Int) m10 (IntKind.i64.wrap (i - 1))) 2))).set 2 (rd 0 m5 (rd 0 (rd (List.replicate 4 (0 : Int) : List Int) m10 (IntKind.i64.wrap (i - 1))) 3))).set 3 (rd 0 m5 (rd 0 (rd (List.replicate 4 (0 : Int) : List Int) m10 (IntKind.i64.wrap (i - 1))) 0))), m1, m2, m3, m4, m5, m6, m7, m8, m9, m10, ())).bind fun (nk1, x1, i1, m11, m12, m13, m14, m15, m16, m17, m18, m19, m20, m21, m22, ()) =>
   bif decide (m22.length + ([m12] : List (List Int)).length < 17592186044416) then
   self (nk1, x1, (IntKind.i64.wrap (i1 + 1)), m11, m13, m14, m15, m16, m17, m18, m19, m20, m21, (m22 ++ ([m12] : List (List Int))), ()) else none else none else none else none else none
  else
   bif ((!(decide (nk = 8))) || true) then
   bif ((decide (nk = 8)) && (decide ((i.tmod 8) = 4))) then
    bif inB (rd 0 (rd (List.replicate 4 (0 : Int) : List Int) m10 (IntKind.i64.wrap (i - 1))) 0) 256 then
    bif inB (rd 0 (rd (List.replicate 4 (0 : Int) : List Int) m10 (IntKind.i64.wrap (i - 1))) 1) 256 then
    bif inB (rd 0 (rd (List.replicate 4 (0 : Int) : List Int) m10 (IntKind.i64.wrap (i - 1))) 2) 256 then
    bif inB (rd 0 (rd (List.replicate 4 (0 : Int) : List Int) m10 (IntKind.i64.wrap (i - 1))) 3) 256 then
    (ak.l3 m_ (nk, x, i, 0, m, (((((List.replicate 4 (0 : Int) : List Int).set 0 (rd 0 m5 (rd 0 (rd (List.replicate 4 (0 : Int) : List Int) m10 (IntKind.i64.wrap (i - 1))) 0))).set 1 (rd 0 m5 (rd 0 (rd (List.replicate 4 (0 : Int) : List Int) m10 (IntKind.i64.wrap (i - 1))) 1))).set 2 (rd 0 m5 (rd 0 (rd (List.replicate 4 (0 : Int) : List Int) m10 (IntKind.i64.wrap (i - 1))) 2))).set 3 (rd 0 m5 (rd 0 (rd (List.replicate 4 (0 : Int) : List Int) m10 (IntKind.i64.wrap (i - 1))) 3))), m1, m2, m3, m4, m5, m6, m7, m8, m9, m10, ())).bind fun (nk2, x2, i2, m23, m24, tu, tC, vF, rP, wU, Ig, LQ, m32, Gu, LU, ()) =>
    bif decide (LU.length + ([m24] : List (List Int)).length < 17592186044416) then
    self (nk2, x2, (IntKind.i64.wrap (i2 + 1)), m23, tu, tC, vF, rP, wU, Ig, LQ, m32, Gu, (LU ++ ([m24] : List (List Int))), ()) else none else none else none else none else none
   else
    (ak.l3 m_ (nk, x, i, 0, m, (rd (List.replicate 4 (0 : Int) : List Int) m10 (IntKind.i64.wrap (i - 1))), m1, m2, m3, m4, m5, m6, m7, m8, m9, m10, ())).bind fun (nk3, x3, i3, Oe, LV, Og, P9, P_, Qa, Qb, Oh, Rh, Oi, Oj, Ri, ()) =>
    bif decide (Ri.length + ([LV] : List (List Int)).length < 17592186044416) then
    self (nk3, x3, (IntKind.i64.wrap (i3 + 1)), Oe, Og, P9, P_, Qa, Qb, Oh, Rh, Oi, Oj, (Ri ++ ([LV] : List (List Int))), ()) else none else none else none else none
 else
  some (m, m1, m2, m3, m4, m5, m6, m7, m8, m9, m10, ())
theorem k4 (m_ : ah) : KQ 135 (O m_) [136, 137, 140, 141, 142, 143, 144, 145, 148, 149, 150, 151, 154, 155, 158, 159, 160, 162, 170, 171] e4 x4 [s3 m_] (b4 m_) := fun _ _ => by kernel_rfl
def l4 (m_ : ah) : A4 -> Option B4 := loop m_ (b4 m_)
theorem q4 (v) : l4 .lim v = b4 .lim (l4 .lim) v := KS.q (k4 .lim) v
def s4 (m_ : ah) : SO P 135 := so m_ (k4 m_)
def Gv : bV := .c [.row vw]
def e5 : Spec := ⟨[fs 168 [.q 12, .z 12, .b 0] [(0, .fn (.yield 0) []), (1, .ptr 1 0), (2, .ptr 2 0), (4, .w)], ⟨151, [.inRange 0, .b 6], [], none, [.mark 3, .mark 4], false⟩, fs 149 [.v 3 [1]] [], ⟨155, [.v 61 [1]], [], none, [.call 164 [.ptr 5 1, .b], .call 163 [.ptr 5 2]], false⟩, fs 148 [.v 6 [2]] [], fs 140 [.v 3 [4]] [], fs 137 [.v 6 [1], .q 7] [(2, .ptr 6 0), (3, .ptr 7 0), (4, .ptr 8 0)], f1], [(0, .loop .ready none 151 [(1, .ptr 9 0)] [138] (y7 510) 3), (1, .c [.own 10 MQ]), (2, .c [.w]), (3, .deferred false), (4, .deferred false), (5, .c [.s, .dat (.int .u32), .dat (.int .i32), .dat (.int .u32), .dat uq, .dat uq, .dat uw, .own 5002 vw]), (6, .c [.ptr 5 0]), (7, o3), (8, o3), (9, .c [.ptr 5 0]), (10, .d [.row MQ]), (5002, Gv)], 5003⟩
def x5 : List Spec := [⟨[fs 168 [] [], ⟨151, [.inRange 0, .b 6], [], none, [.mark 1, .mark 2], false⟩, fs 149 [.v 3 [1]] [], f11, fs 148 [.v 6 [2]] [], fs 140 [.v 3 [4]] [], f12, f1], [(0, .loop .ready none 151 [(1, .ptr 7 0)] [138] (y7 510) 1), (1, .deferred false), (2, .deferred false), (3, .c [.s, .dat (.int .u32), .dat (.int .i32), .dat (.int .u32), .dat uq, .dat uq, .dat uw, .own 8 vw]), (4, .c [.ptr 3 0]), (5, o3), (6, o3), (7, .c [.ptr 3 0]), (8, Gv)], 9⟩]
abbrev A5 : Type := Int × Bool × Int × LI × Int × Int × Int × LI × LI × LL × LI × LI × LL × LL × Unit
abbrev B5 : Type := (Bool × LI × Int × Int × Int × LI × LI × LL × LI × LI × LL × Unit)
def b5 (m_ : ah) (self : A5 -> Option B5) : A5 -> Option B5 := fun v_ => match v_ with
| (i, m, m1, m2, m3, m4, m5, m6, m7, m8, m9, m10, m11, m12, ()) =>
 bif aB (m11.length : Int) then
 bif decide (i < (m11.length : Int)) then
  bif dG i (m11.length : Int) (m11.length : Int) then
  bif aB ((m11.length : Int) - i) then
  bif ((dG i (IntKind.i64.wrap (i + (mn m1 ((m11.length : Int) - i)))) (IntKind.i64.wrap (i + (mn m1 ((m11.length : Int) - i))))) && (decide ((IntKind.i64.wrap (i + (mn m1 ((m11.length : Int) - i)))) <= (m11.length : Int)))) then
  bif inB 0 ((cut m11 i (IntKind.i64.wrap (i + (mn m1 ((m11.length : Int) - i))))).length : Int) then
  bif inB 1 ((cut m11 i (IntKind.i64.wrap (i + (mn m1 ((m11.length : Int) - i))))).length : Int) then
  bif inB 2 ((cut m11 i (IntKind.i64.wrap (i + (mn m1 ((m11.length : Int) - i))))).length : Int) then
  bif inB 3 ((cut m11 i (IntKind.i64.wrap (i + (mn m1 ((m11.length : Int) - i))))).length : Int) then
  (aG.run m_ (([(cut (rd (List.replicate 4 (0 : Int) : List Int) (cut m11 i (IntKind.i64.wrap (i + (mn m1 ((m11.length : Int) - i))))) 0) 0 4), (cut (rd (List.replicate 4 (0 : Int) : List Int) (cut m11 i (IntKind.i64.wrap (i + (mn m1 ((m11.length : Int) - i))))) 1) 0 4), (cut (rd (List.replicate 4 (0 : Int) : List Int) (cut m11 i (IntKind.i64.wrap (i + (mn m1 ((m11.length : Int) - i))))) 2) 0 4), (cut (rd (List.replicate 4 (0 : Int) : List Int) (cut m11 i (IntKind.i64.wrap (i + (mn m1 ((m11.length : Int) - i))))) 3) 0 4)] : List (List Int)), ())).bind fun r =>
  bif (Nat.ble 1 16 && Nat.ble 16 r.length) then
  bif decide (m12.length + ([(r.take 16)] : List (List Int)).length < 4398046511104) then
  self ((IntKind.i64.wrap (i + m1)), m, m1, m2, m3, m4, m5, m6, m7, m8, m9, m10, m11, (m12 ++ ([(r.take 16)] : List (List Int))), ()) else none else none else none else none else none else none else none else none else none
 else
  some (m, m2, m3, m4, m5, m6, m7, m8, m9, m10, m12, ()) else none
theorem k5 (m_ : ah) : KQ 135 (O m_) [136, 137, 140, 141, 142, 143, 144, 145, 148, 149, 150, 151, 154, 155, 158, 159, 160, 162, 170, 171] e5 x5 [] (b5 m_) := fun _ _ => by kernel_rfl
def l5 (m_ : ah) : A5 -> Option B5 := loop m_ (b5 m_)
theorem q5 (v) : l5 .lim v = b5 .lim (l5 .lim) v := KS.q (k5 .lim) v
def s5 (m_ : ah) : SO P 135 := so m_ (k5 m_)
def VQ : bV := .c [.s, .dat (.int .u32), .dat (.int .i32), .dat (.int .u32), .dat uq, .dat uq, .dat uw, .own 4 vw]
def e6 : Spec := ⟨[fs 140 [.q 1] [(0, .ptr 0 0)], fs 137 [.v 6 [1], .q 7] [(2, .ptr 1 0), (3, .ptr 2 0), (4, .ptr 3 0)], f1], [(0, o2), (1, .c [.ptr 0 0]), (2, o3), (3, o3)], 4⟩
def x6 : List Spec := [⟨[fs 140 [] [], fs 137 [.v 6 [1], .q 7] [(2, .ptr 0 0), (3, .ptr 1 0), (4, .ptr 2 0)], f1], [(0, .c [.ptr 3 0]), (1, o3), (2, o3), (3, VQ), (4, Gv)], 5⟩]
abbrev A6 : Type := LI × Int × Int × Int × LI × LI × LL × LI × LI × Unit
abbrev B6 : Type := (LI × LI × LI × Int × Int × Int × LI × LI × LL × LL × Unit)
def b6 (m_ : ah) (self : A6 -> Option B6) : A6 -> Option B6 := fun v_ => match v_ with
| (m, m1, m2, m3, m4, m5, m6, m7, m8, ()) =>
 bif !(!(decide (m1 = 0))) then
  bif decide (m2 = 0) then
  bif !(!(decide (m1 = 0))) then
   (ak.l1 m_ (0, true, m, m1, (bif decide (m2 = 0) then 1 else m2), m3, m4, m5, m6, m7, m8, ())).bind fun (m9, m10, m11, m12, m13, m14, m15, m16, m17, m18, ()) =>
   bif aB (m10.length : Int) then
   (ak.l2 m_ (0, (IntKind.i64.wrap ((m10.length : Int).tdiv 4)), m9, 4, m10, m11, m12, m13, m14, m15, m16, m17, m18, m10, ([] : List (List Int)), ())).bind fun (nk, m19, m20, m21, m22, m23, m24, tu, tC, vF, rP, wU, ()) =>
   (ak.l4 m_ (nk, 1, nk, m19, m20, m21, m22, m23, m24, tu, tC, vF, rP, wU, ())).bind fun (Ig, LQ, m32, Gu, LU, Oe, LV, Og, P9, P_, Qa, ()) =>
   (ak.l5 m_ (0, Ig, 4, LQ, m32, Gu, LU, Oe, LV, Og, P9, P_, Qa, ([] : List (List Int)), ())).bind fun (Qb, Oh, Rh, Oi, Oj, Ri, VT, VU, VW, VX, VY, ()) =>
   (iP.run m_ (Qb, ())).bind fun r =>
   bif !(decide ((IntKind.i32.wrap (Oi + (-1))) = 0)) then
    none
   else
    some (VW, VX, Oh, r, (IntKind.i32.wrap (Oi + (-1))), Oj, Ri, VT, VU, VY, ()) else none
  else
   bif !(decide ((IntKind.i32.wrap ((bif decide (m2 = 0) then 1 else m2) + (-1))) = 0)) then
    none
   else
    some (m7, m8, m, m1, (IntKind.i32.wrap ((bif decide (m2 = 0) then 1 else m2) + (-1))), m3, m4, m5, m6, ([] : List (List Int)), ()) else none
 else
  some (m7, m8, m, m1, m2, m3, m4, m5, m6, ([] : List (List Int)), ())
theorem k6 (m_ : ah) : KQ 135 (O m_) [136, 137, 140, 141, 142, 143, 144, 145, 148, 149, 150, 151, 154, 155, 158, 159, 160, 162, 170, 171] e6 x6 [s1 m_, s2 m_, s4 m_, s5 m_] (b6 m_) := fun _ _ => by kernel_rfl
def l6 (m_ : ah) : A6 -> Option B6 := loop m_ (b6 m_)
theorem q6 (v) : l6 .lim v = b6 .lim (l6 .lim) v := KS.q (k6 .lim) v
def s6 (m_ : ah) : SO P 135 := so m_ (k6 m_)
def f16 : bY := fs 141 [.q 28, .z 28, .b 0] [(0, .ptr 0 0), (3, .ptr 1 0), (5, .w)]
def o17 : bV := .c [.s, .dat (.int .u32), .dat (.int .i32), .dat (.int .u32), .dat uq, .dat uq, .dat uw, .own 5 vw]
def e7 : Spec := ⟨[f16, fs 137 [.v 14 [6], .q 15] [(2, .ptr 2 0), (3, .ptr 0 0), (4, .ptr 3 0)], f1], [(0, o3), (1, o3), (2, .c [.ptr 4 0]), (3, o3), (4, o17), (5, Gv)], 6⟩
def x7 : List Spec := [⟨[fs 141 [] [], fs 137 [.v 14 [6], .q 15] [(2, .ptr 0 0), (3, .ptr 1 0), (4, .ptr 2 0)], f1], [(0, .c [.ptr 3 0]), (1, o3), (2, o3), (3, VQ), (4, Gv)], 5⟩]
abbrev A7 : Type := Int × LI × LI × LI × LI × Int × Int × Int × LI × LI × LL × LL × Unit
abbrev B7 : Type := (LI × LI × LI × Int × Int × Int × LI × LI × LL × LL × Unit)
def b7 (m_ : ah) (self : A7 -> Option B7) : A7 -> Option B7 := fun v_ => match v_ with
| (t, m, m1, m2, m3, m4, m5, m6, m7, m8, m9, m10, ()) =>
 bif decide (t < 16) then
  bif inB t 16 then
  bif inB t 16 then
  bif inB t 16 then
  self ((IntKind.i64.wrap (t + 1)), (m.set t.toNat (dP .u8 (rd 0 m t) (rd 0 m1 t))), m1, m2, m3, m4, m5, m6, m7, m8, m9, m10, ()) else none else none else none
 else
  some (m, m2, m3, m4, m5, m6, m7, m8, m9, m10, ())
theorem k7 (m_ : ah) : KQ 135 (O m_) [136, 137, 140, 141, 142, 143, 144, 145, 148, 149, 150, 151, 154, 155, 158, 159, 160, 162, 170, 171] e7 x7 [] (b7 m_) := fun _ _ => by kernel_rfl
def l7 (m_ : ah) : A7 -> Option B7 := loop m_ (b7 m_)
theorem q7 (v) : l7 .lim v = b7 .lim (l7 .lim) v := KS.q (k7 .lim) v
def s7 (m_ : ah) : SO P 135 := so m_ (k7 m_)
def f18 : bY := fs 152 [.v 818 [10,11], .q 819, .b 1, .q 103, .z 12, .b 0] [(0, .fn (.yield 4) []), (1, .ptr 5 0), (9, .slc 6 0 none vw), (10, .w), (11, .w)]
def f19 : bY := ⟨137, [.inRange 4, .b 0, .q 31], [(3, .ptr 0 0), (4, .ptr 7 0)], none, [.mark 8], false⟩
def YW : bV := .c [.s, .dat (.int .u32), .dat (.int .i32), .dat (.int .u32), .dat uq, .dat uq, .dat uw, .own 6 vw]
def X8 : bV := .loop .busy none 137 [(2, .ptr 2 0), (3, .ptr 0 0)] [18, 19] (y7 122) 8
def f22 : bY := fs 152 [.v 818 [10,11], .q 819, .b 1, .q 103, .z 12, .b 0] [(0, .fn (.yield 3) []), (1, .ptr 4 0), (9, .slc 5 0 none vw), (10, .w), (11, .w)]
def f23 : bY := ⟨137, [.inRange 3, .b 0, .q 31], [(3, .ptr 1 0), (4, .ptr 6 0)], none, [.mark 7], false⟩
def o24 : bV := .loop .busy none 137 [(2, .ptr 0 0), (3, .ptr 1 0)] [18, 19] (y7 122) 7
def e8 : Spec := ⟨[fs 143 [.q 12, .z 12, .b 0] [(0, .ptr 0 0), (1, .ptr 1 4), (6, .ptr 0 0), (7, .w)], ⟨137, [.v 980 [3], .q 981, .b 1], [(2, .ptr 2 0), (3, .ptr 0 0), (5, .ptr 3 0), (6, .b)], some 4, [], false⟩, f18, f19, f1], [(0, o3), (1, YW), (2, .c [.ptr 1 0]), (3, o3), (4, X8), (5, .c [.ptr 1 0]), (6, Gv), (7, o3), (8, .deferred false)], 9⟩
def x8 : List Spec := [⟨[fs 143 [] [], ⟨137, [.v 980 [3], .q 981, .b 1], [(2, .ptr 0 0), (3, .ptr 1 0), (5, .ptr 2 0), (6, .b)], some 3, [], false⟩, f22, f23, f1], [(0, .c [.ptr 8 0]), (1, o3), (2, o3), (3, o24), (4, .c [.ptr 8 0]), (5, Gv), (6, o3), (7, .deferred false), (8, o17)], 9⟩]
abbrev A8 : Type := Int × Bool × Int × Int × Int × Int × LI × LI × Int × Int × Int × LI × LI × LL × LI × LL × LI × Unit
abbrev B8 : Type := (Bool × Int × Int × Int × Int × LI × LI × LL × LI × LI × Int × Int × Int × LI × LI × LL × Unit)
def b8 (m_ : ah) (self : A8 -> Option B8) : A8 -> Option B8 := fun v_ => match v_ with
| (t, last, tp, tq, t1, t2, m, m1, m2, m3, m4, m5, m6, m7, m8, m9, m10, ()) =>
 bif decide (t < 16) then
  bif inB t 16 then
  bif inB (rd 0 m t) 256 then
  bif inB t 16 then
  self ((IntKind.i64.wrap (t + 1)), last, tp, tq, t1, t2, (m.set t.toNat (rd 0 m5 (rd 0 m t))), m1, m2, m3, m4, m5, m6, m7, m8, m9, m10, ()) else none else none else none
 else
  some (last, tp, tq, t1, t2, m, m8, m9, m10, m1, m2, m3, m4, m5, m6, m7, ())
theorem k8 (m_ : ah) : KQ 135 (O m_) [136, 137, 140, 141, 142, 143, 144, 145, 148, 149, 150, 151, 154, 155, 158, 159, 160, 162, 170, 171] e8 x8 [] (b8 m_) := fun _ _ => by kernel_rfl
def l8 (m_ : ah) : A8 -> Option B8 := loop m_ (b8 m_)
theorem q8 (v) : l8 .lim v = b8 .lim (l8 .lim) v := KS.q (k8 .lim) v
def s8 (m_ : ah) : SO P 135 := so m_ (k8 m_)
def e9 : Spec := ⟨[fs 144 [.q 28, .z 28, .b 0] [(0, .ptr 0 0), (1, .w), (4, .ptr 1 0), (9, .w)], ⟨137, [.v 1962 [0], .q 1963, .b 1], [(2, .ptr 2 0), (3, .ptr 0 0), (5, .ptr 3 0), (6, .b)], some 4, [], false⟩, f18, f19, f1], [(0, o3), (1, o3), (2, .c [.ptr 9 0]), (3, o3), (4, X8), (5, .c [.ptr 9 0]), (6, Gv), (7, o3), (8, .deferred false), (9, YW)], 10⟩
def x9 : List Spec := [⟨[fs 144 [] [], ⟨137, [.v 1962 [0], .q 1963, .b 1], [(2, .ptr 0 0), (3, .ptr 1 0), (5, .ptr 2 0), (6, .b)], some 3, [], false⟩, f22, f23, f1], [(0, .c [.ptr 8 0]), (1, o3), (2, o3), (3, o24), (4, .c [.ptr 8 0]), (5, Gv), (6, o3), (7, .deferred false), (8, o17)], 9⟩]
abbrev A9 : Type := Int × Int × Bool × Int × Int × Int × Int × LI × LI × LI × LL × LI × LI × Int × Int × Int × LI × LI × LL × Unit
abbrev B9 : Type := (Bool × Int × Int × Int × Int × LI × LI × LL × LI × LI × Int × Int × Int × LI × LI × LL × Unit)
def b9 (m_ : ah) (self : A9 -> Option B9) : A9 -> Option B9 := fun v_ => match v_ with
| (YX, t, last, tp, tq, t1, t2, m, m1, m2, m3, m4, m5, m6, m7, m8, m9, m10, m11, ()) =>
 bif decide (t < 16) then
  bif inB ((IntKind.i64.wrap ((IntKind.i64.wrap (t + (IntKind.i64.wrap (YX * (t.tmod 4))))) + 64)).tmod 16) 16 then
  bif inB t 16 then
  self (YX, (IntKind.i64.wrap (t + 1)), last, tp, tq, t1, t2, (m.set t.toNat (rd 0 m1 ((IntKind.i64.wrap ((IntKind.i64.wrap (t + (IntKind.i64.wrap (YX * (t.tmod 4))))) + 64)).tmod 16))), m1, m2, m3, m4, m5, m6, m7, m8, m9, m10, m11, ()) else none else none
 else
  some (last, tp, tq, t1, t2, m, m2, m3, m4, m5, m6, m7, m8, m9, m10, m11, ())
theorem k9 (m_ : ah) : KQ 135 (O m_) [136, 137, 140, 141, 142, 143, 144, 145, 148, 149, 150, 151, 154, 155, 158, 159, 160, 162, 170, 171] e9 x9 [] (b9 m_) := fun _ _ => by kernel_rfl
def l9 (m_ : ah) : A9 -> Option B9 := loop m_ (b9 m_)
theorem q9 (v) : l9 .lim v = b9 .lim (l9 .lim) v := KS.q (k9 .lim) v
def s9 (m_ : ah) : SO P 135 := so m_ (k9 m_)
def f25 : bY := ⟨137, [.v 15706 [2], .q 3927, .b 1], [(3, .ptr 1 0), (5, .ptr 4 0)], some 5, [], false⟩
def f26 : bY := fs 152 [.v 818 [10,11], .q 819, .b 1, .q 103, .z 12, .b 0] [(0, .fn (.yield 5) []), (1, .ptr 6 0), (9, .slc 7 0 none vw), (10, .w), (11, .w)]
def f27 : bY := ⟨137, [.inRange 5, .b 0, .q 31], [(3, .ptr 1 0), (4, .ptr 8 0)], none, [.mark 9], false⟩
def o28 : bV := .c [.s, .dat (.int .u32), .dat (.int .i32), .dat (.int .u32), .dat uq, .dat uq, .dat uw, .own 7 vw]
def o29 : bV := .loop .busy none 137 [(2, .ptr 10 0), (3, .ptr 1 0)] [18, 19] (y7 122) 9
def e10 : Spec := ⟨[fs 145 [.q 31132, .z 31132, .b 2, .b 1, .q 487, .z 60, .b 0] [(0, .ptr 0 0), (1, .ptr 1 0), (5, .ptr 2 0), (6, .ptr 3 0), (7, .w), (13, .w), (20, .dat MQ), (21, .w)], f25, f26, f27, f1], [(0, o28), (1, o3), (2, o10), (3, o3), (4, o3), (5, o29), (6, .c [.ptr 0 0]), (7, Gv), (8, o3), (9, .deferred false), (10, .c [.ptr 0 0])], 11⟩
def x10 : List Spec := [⟨[fs 145 [.q 487, .z 60, .b 0] [(0, .ptr 0 0), (1, .ptr 1 0), (5, .ptr 2 0), (6, .ptr 3 0), (13, .w)], f25, f26, f27, f1], [(0, o28), (1, o3), (2, o10), (3, o3), (4, o3), (5, o29), (6, .c [.ptr 0 0]), (7, Gv), (8, o3), (9, .deferred false), (10, .c [.ptr 0 0])], 11⟩]
abbrev YZ : Type := Int × Int × LI × Int × Int × Int × Int × Int × LI × Int × Int × Int × LI × LI × LL × LI × LI × LI × LI × LL × LI × Unit
abbrev B10 : Type := (Int × Int × Int × Int × Int × LI × Int × Int × Int × LI × LI × LL × LI × LI × LI × LI × LL × LI × Unit)
def b10 (m_ : ah) (self : YZ -> Option B10) : YZ -> Option B10 := fun v_ => match v_ with
| (i, t, t1, t2, tp, tq, t3, t4, m, m1, m2, m3, m4, m5, m6, m7, m8, m9, m10, m11, m12, ()) =>
 bif decide (t2 < 4) then
  bif inB t2 4 then
  bif inB i 16 then
  bif inB (IntKind.i64.wrap ((IntKind.i64.wrap ((IntKind.i64.wrap (i.tdiv 4)) * 4)) + ((IntKind.i64.wrap (i + t2)).tmod 4))) 16 then
  bif inB (rd 0 t1 t2) 16 then
  bif inB (rd 0 m9 (IntKind.i64.wrap ((IntKind.i64.wrap ((IntKind.i64.wrap (i.tdiv 4)) * 4)) + ((IntKind.i64.wrap (i + t2)).tmod 4)))) 256 then
  bif inB i 16 then
  self (i, t, t1, (IntKind.i64.wrap (t2 + 1)), tp, tq, t3, t4, m, m1, m2, m3, m4, m5, m6, (m7.set i.toNat (dP .u8 (rd 0 m7 i) (rd 0 (rd (List.replicate 256 (0 : Int) : List Int) m6 (rd 0 t1 t2)) (rd 0 m9 (IntKind.i64.wrap ((IntKind.i64.wrap ((IntKind.i64.wrap (i.tdiv 4)) * 4)) + ((IntKind.i64.wrap (i + t2)).tmod 4))))))), m8, m9, m10, m11, m12, ()) else none else none else none else none else none else none
 else
  some (t, tp, tq, t3, t4, m, m1, m2, m3, m4, m5, m6, m7, m8, m9, m10, m11, m12, ())
theorem k10 (m_ : ah) : KQ 135 (O m_) [136, 137, 140, 141, 142, 143, 144, 145, 148, 149, 150, 151, 154, 155, 158, 159, 160, 162, 170, 171] e10 x10 [] (b10 m_) := fun _ _ => by kernel_rfl
def l10 (m_ : ah) : YZ -> Option B10 := loop m_ (b10 m_)
theorem q10 (v) : l10 .lim v = b10 .lim (l10 .lim) v := KS.q (k10 .lim) v
def s10 (m_ : ah) : SO P 135 := so m_ (k10 m_)
def f30 : bY := fs 152 [.v 818 [10,11], .q 819, .b 1, .q 103, .z 12, .b 0] [(0, .fn (.yield 2) []), (1, .ptr 3 0), (9, .slc 4 0 none vw), (10, .w), (11, .w)]
def f31 : bY := ⟨137, [.inRange 2, .b 0, .q 31], [(3, .ptr 0 0), (4, .ptr 5 0)], none, [.mark 6], false⟩
def o32 : bV := .loop .busy none 137 [(2, .ptr 7 0), (3, .ptr 0 0)] [18, 19] (y7 122) 6
def e11 : Spec := ⟨[fs 145 [.q 60, .z 60, .b 0] [(0, .ptr 0 0), (1, .ptr 1 0), (5, .ptr 2 0), (6, .ptr 3 0), (13, .w)], f25, f26, f27, f1], [(0, o28), (1, o3), (2, o10), (3, o3), (4, o3), (5, o29), (6, .c [.ptr 0 0]), (7, Gv), (8, o3), (9, .deferred false), (10, .c [.ptr 0 0])], 11⟩
def x11 : List Spec := [⟨[fs 145 [] [], ⟨137, [.v 15706 [2], .q 3927, .b 1], [(3, .ptr 0 0), (5, .ptr 1 0)], some 2, [], false⟩, f30, f31, f1], [(0, o3), (1, o3), (2, o32), (3, .c [.ptr 8 0]), (4, Gv), (5, o3), (6, .deferred false), (7, .c [.ptr 8 0]), (8, VQ)], 9⟩]
abbrev Y0 : Type := Int × Int × Int × Int × Int × LI × Int × Int × Int × LI × LI × LL × LI × LI × LI × LI × LL × LI × Unit
abbrev B11 : Type := (Int × Int × Int × Int × LI × LI × LL × LI × LI × Int × Int × Int × LI × LI × LL × Unit)
def b11 (m_ : ah) (self : Y0 -> Option B11) : Y0 -> Option B11 := fun v_ => match v_ with
| (t, tp, tq, t1, t2, m, m1, m2, m3, m4, m5, m6, m7, m8, m9, m10, m11, m12, ()) =>
 bif decide (t < 16) then
  bif inB t 16 then
  (ak.l10 m_ (t, t, m8, 0, tp, tq, t1, t2, m, m1, m2, m3, m4, m5, m6, (m7.set t.toNat 0), m8, m9, m10, m11, m12, ())).bind fun (t3, Y1, Y2, t4, t5, m13, m14, m15, m16, m17, m18, m19, m20, m21, m22, m23, m24, tu, ()) =>
  self ((IntKind.i64.wrap (t3 + 1)), Y1, Y2, t4, t5, m13, m14, m15, m16, m17, m18, m19, m20, m21, m22, m23, m24, tu, ()) else none
 else
  some (tp, tq, t1, t2, m7, m10, m11, m12, m, m1, m2, m3, m4, m5, m6, ())
theorem k11 (m_ : ah) : KQ 135 (O m_) [136, 137, 140, 141, 142, 143, 144, 145, 148, 149, 150, 151, 154, 155, 158, 159, 160, 162, 170, 171] e11 x11 [s10 m_] (b11 m_) := fun _ _ => by kernel_rfl
def Ug (m_ : ah) : Y0 -> Option B11 := loop m_ (b11 m_)
theorem q11 (v) : Ug .lim v = b11 .lim (Ug .lim) v := KS.q (k11 .lim) v
def s11 (m_ : ah) : SO P 135 := so m_ (k11 m_)
def f33 : bY := ⟨137, [.inRange 0, .b 0, .q 31], [(3, .ptr 3 0), (4, .ptr 4 0)], none, [.mark 5], false⟩
def o34 : bV := .c [.s, .dat (.int .u32), .dat (.int .i32), .dat (.int .u32), .dat uq, .dat uq, .dat uw, .own 2 vw]
def e12 : Spec := ⟨[f16, ⟨137, [.v 3927 [1], .b 1], [], some 2, [], false⟩, f30, f31, f1], [(0, o3), (1, o3), (2, o32), (3, .c [.ptr 8 0]), (4, Gv), (5, o3), (6, .deferred false), (7, .c [.ptr 8 0]), (8, VQ)], 9⟩
def x12 : List Spec := [⟨[fs 141 [] [], ⟨137, [.v 3927 [1], .b 1], [], some 0, [], false⟩, fs 152 [.v 818 [10,11], .q 819, .b 1, .q 103, .z 12, .b 0] [(0, .fn (.yield 0) []), (1, .ptr 1 0), (9, .slc 2 0 none vw), (10, .w), (11, .w)], f33, f1], [(0, .loop .busy none 137 [(2, .ptr 6 0), (3, .ptr 3 0)] [18, 19] (y7 122) 5), (1, .c [.ptr 7 0]), (2, Gv), (3, o3), (4, o3), (5, .deferred false), (6, .c [.ptr 7 0]), (7, o34)], 8⟩]
abbrev Y3 : Type := Int × Int × Int × Int × Int × LI × LI × LL × LI × LI × Int × Int × Int × LI × LI × LL × Unit
abbrev Y4 : Type := (Int × Int × Int × Int × LL × LI × LI × LI × Int × Int × Int × LI × LI × LL × Unit)
def b12 (m_ : ah) (self : Y3 -> Option Y4) : Y3 -> Option Y4 := fun v_ => match v_ with
| (t, tp, tq, t1, t2, m, m1, m2, m3, m4, m5, m6, m7, m8, m9, m10, ()) =>
 bif decide (t < 16) then
  bif inB t 16 then
  bif inB t 16 then
  bif inB t 16 then
  self ((IntKind.i64.wrap (t + 1)), tp, tq, t1, t2, (m.set t.toNat (dP .u8 (rd 0 m t) (rd 0 m1 t))), m1, m2, m3, m4, m5, m6, m7, m8, m9, m10, ()) else none else none else none
 else
  some (tp, tq, t1, t2, m2, m, m3, m4, m5, m6, m7, m8, m9, m10, ())
theorem k12 (m_ : ah) : KQ 135 (O m_) [136, 137, 140, 141, 142, 143, 144, 145, 148, 149, 150, 151, 154, 155, 158, 159, 160, 162, 170, 171] e12 x12 [] (b12 m_) := fun _ _ => by kernel_rfl
def l12 (m_ : ah) : Y3 -> Option Y4 := loop m_ (b12 m_)
theorem q12 (v) : l12 .lim v = b12 .lim (l12 .lim) v := KS.q (k12 .lim) v
def s12 (m_ : ah) : SO P 135 := so m_ (k12 m_)
def e13 : Spec := ⟨[fs 152 [.q 12, .z 12, .b 0] [(0, .fn (.yield 0) []), (1, .ptr 1 0), (9, .slc 2 0 none vw), (10, .w), (11, .w)], f33, f1], [(0, .loop .ready none 137 [(2, .ptr 6 0), (3, .ptr 3 0)] [18, 19] (y7 122) 5), (1, .c [.ptr 7 0]), (2, Gv), (3, o3), (4, o3), (5, .deferred false), (6, .c [.ptr 7 0]), (7, o34)], 8⟩
def x13 : List Spec := [⟨[fs 152 [] [], ⟨137, [.inRange 2, .b 0, .q 31], [(3, .ptr 0 0), (4, .ptr 1 0)], none, [.mark 3], false⟩, f1], [(0, o3), (1, o3), (2, .loop .ready none 137 [(2, .ptr 4 0), (3, .ptr 0 0)] [18, 19] (y7 122) 3), (3, .deferred false), (4, .c [.ptr 5 0]), (5, YW), (6, Gv)], 7⟩]
abbrev Y5 : Type := Int × Int × Int × Int × LL × LI × LI × LI × Int × Int × Int × LI × LI × LL × Unit
abbrev Y6 : Type := (LI × LI × LI × Int × Int × Int × LI × LI × LL × LL × Unit)
def b13 (m_ : ah) (self : Y5 -> Option Y6) : Y5 -> Option Y6 := fun v_ => match v_ with
| (tp, tq, t, t1, m, m1, m2, m3, m4, m5, m6, m7, m8, m9, ()) =>
 bif decide (t1 < t) then
  bif inB t1 tq then
  bif aB (m.length : Int) then
  (ak.l8 m_ (0, decide (t1 = (IntKind.i64.wrap ((m.length : Int) - 2))), tp, tq, t, t1, m1, m3, m4, m5, m6, m7, m8, m9, (rd (List.replicate 16 (0 : Int) : List Int) m (tp + t1)), m, m2, ())).bind fun (last, Y1, Y2, t2, t3, m10, m11, m12, m13, m14, m15, m16, m17, m18, m19, m20, ()) =>
  (ak.l9 m_ (4, 0, last, Y1, Y2, t2, t3, m10, m10, m11, m12, m13, m14, m15, m16, m17, m18, m19, m20, ())).bind fun (Uh, tp2, tq2, t4, t5, m21, m22, m23, m24, tu, tC, vF, rP, wU, Ig, LQ, ()) =>
  bif !Uh then
   (ak.Ug m_ (0, tp2, tq2, t4, t5, tu, tC, vF, rP, wU, Ig, LQ, m21, (((((List.replicate 4 (0 : Int) : List Int).set 0 2).set 1 3).set 2 1).set 3 1), m21, m22, m23, m24, ())).bind fun (tp3, tq3, t6, t7, m32, Gu, LU, Oe, LV, Og, P9, P_, Qa, Qb, Oh, ()) =>
   (ak.l12 m_ (0, tp3, tq3, t6, t7, m32, Gu, LU, Oe, LV, Og, P9, P_, Qa, Qb, Oh, ())).bind fun (tp4, tq4, t8, t9, Rh, Oi, Oj, Ri, VT, VU, VW, VX, VY, X9, ()) =>
   self (tp4, tq4, t8, (IntKind.i64.wrap (t9 + 1)), Rh, Oi, Oj, Ri, VT, VU, VW, VX, VY, X9, ())
  else
   (ak.l12 m_ (0, tp2, tq2, t4, t5, m21, m22, m23, m24, tu, tC, vF, rP, wU, Ig, LQ, ())).bind fun (tp5, tq5, t10, t11, X_, Ya, Y7, WT, WU, Y8, m59, m60, m61, m62, ()) =>
   self (tp5, tq5, t10, (IntKind.i64.wrap (t11 + 1)), X_, Ya, Y7, WT, WU, Y8, m59, m60, m61, m62, ()) else none else none
 else
  some (m1, m2, m3, m4, m5, m6, m7, m8, m9, m, ())
theorem k13 (m_ : ah) : KQ 135 (O m_) [136, 137, 140, 141, 142, 143, 144, 145, 148, 149, 150, 151, 154, 155, 158, 159, 160, 162, 170, 171] e13 x13 [s8 m_, s9 m_, s11 m_, s12 m_] (b13 m_) := fun _ _ => by kernel_rfl
def Ol (m_ : ah) : Y5 -> Option Y6 := loop m_ (b13 m_)
theorem q13 (v) : Ol .lim v = b13 .lim (Ol .lim) v := KS.q (k13 .lim) v
def s13 (m_ : ah) : SO P 135 := so m_ (k13 m_)
def e14 : Spec := ⟨[fs 137 [.q 1] [(0, .ptr 0 0), (1, .dat vw)], f1], [(0, o2)], 1⟩
def x14 : List Spec := [⟨[⟨137, [.q 63], [(4, .ptr 0 0)], none, [.mark 1], false⟩, f1], [(0, o3), (1, .deferred false)], 2⟩]
abbrev Y9 : Type := LI × LI × Int × Int × Int × LI × LI × LL × Unit
abbrev Y_ : Type := (LI × Unit)
def b14 (m_ : ah) (self : Y9 -> Option Y_) : Y9 -> Option Y_ := fun v_ => match v_ with
| (b, m, m1, m2, m3, m4, m5, m6, ()) =>
 (ak.l6 m_ (m, m1, m2, m3, m4, m5, m6, b, (List.replicate 16 (0 : Int)), ())).bind fun (m7, m8, m9, m10, m11, m12, m13, m14, m15, m16, ()) =>
 bif inB 0 (m16.length : Int) then
 (ak.l7 m_ (0, m7, (rd (List.replicate 16 (0 : Int) : List Int) m16 0), m8, m9, m10, m11, m12, m13, m14, m15, m16, ())).bind fun (m17, m18, m19, m20, m21, m22, m23, m24, tu, tC, ()) =>
 bif dG 1 (tC.length : Int) (tC.length : Int) then
 bif aB ((tC.length : Int) - 1) then
 (ak.Ol m_ (1, ((tC.length : Int) - 1), ((tC.length : Int) - 1), 0, tC, m17, m18, m19, m20, m21, m22, m23, m24, tu, ())).bind fun (vF, rP, wU, Ig, LQ, m32, Gu, LU, Oe, LV, ()) =>
 some (vF, ()) else none else none else none
theorem k14 (m_ : ah) : KQ 135 (O m_) [136, 137, 140, 141, 142, 143, 144, 145, 148, 149, 150, 151, 154, 155, 158, 159, 160, 162, 170, 171] e14 x14 [s6 m_, s7 m_, s13 m_] (b14 m_) := fun _ _ => by kernel_rfl
def LW (m_ : ah) : Y9 -> Option Y_ := loop m_ (b14 m_)
theorem q14 (v) : LW .lim v = b14 .lim (LW .lim) v := KS.q (k14 .lim) v
def s14 (m_ : ah) : SO P 135 := so m_ (k14 m_)
def run (m_ : ah) : (List Int) × (List Int) × Unit -> Option ((List Int) × Int × Unit) := fun v_ => match v_ with
| (key, s, ()) =>
 bif aB (key.length : Int) then
 bif ((!(!(decide ((key.length : Int) = 16)))) || (aB (key.length : Int))) then
 bif ((!(decide ((key.length : Int) = 16))) && (!(decide ((key.length : Int) = 32)))) then
  some (([] : List Int), 13, ())
 else
  bif aB (s.length : Int) then
  bif !(decide ((s.length : Int) = 16)) then
   some (([] : List Int), 10, ())
  else
   bif (Nat.ble 1 16 && Nat.ble 16 s.length) then
   (ak.LW m_ ((s.take 16), key, 0, 0, 0, (List.replicate 256 (0 : Int)), (List.replicate 256 (0 : Int)), (List.replicate 16 (List.replicate 256 (0 : Int) : List Int)), ())).bind fun (m, ()) =>
   some (((m.drop 0).take 16), 0, ()) else none else none else none else none
theorem k (m_ : ah) : KT (O m_) [136, 137, 140, 141, 142, 143, 144, 145, 148, 149, 150, 151, 154, 155, 158, 159, 160, 162, 170, 171] ⟨135, [.one .str, .one .str], .jL [.sh (.one .str), .sh (.one (.int .i64))], run m_⟩ [s14 m_] := fun _ => by kernel_rfl
def c (m_ : ah) : CO P := co (k m_)
end ak

namespace jK
def O (m_ : ah) : OO P := gJ []
def e0 : Spec := ⟨[fs 153 [.q 12, .z 12, .b 0] [(0, .fn (.yield 0) []), (1, .ptr 1 0), (3, .w)], ⟨139, [.inRange 0, .b 0, .q 31], [(4, .ptr 2 0), (5, .ptr 3 0)], none, [.mark 4], false⟩], [(0, .loop .ready none 139 [(4, .ptr 2 0), (5, .ptr 3 0)] [15, 16] (y7 122) 4), (1, .c [.oy 5]), (2, .c [.oy 5]), (3, .c [.y]), (4, .deferred false), (5, .c [.ry])], 6⟩
def x0 : List Spec := [⟨[fs 153 [] [], ⟨139, [.inRange 2, .b 0, .q 31], [(4, .ptr 0 0), (5, .ptr 1 0)], none, [.mark 3], false⟩], [(0, .c [.oy 4]), (1, .c [.y]), (2, .loop .ready none 139 [(4, .ptr 0 0), (5, .ptr 1 0)] [15, 16] (y7 122) 3), (3, .deferred false), (4, .c [.ry])], 5⟩]
abbrev A0 : Type := Int × Int × LI × Unit
abbrev B0 : Type := (Int × LI × Unit)
def b0 (m_ : ah) (self : A0 -> Option B0) : A0 -> Option B0 := fun v_ => match v_ with
| (i, m, m1, ()) =>
 bif decide (i >= 0) then
  bif inB i (m1.length : Int) then
  bif inB i (m1.length : Int) then
  self ((IntKind.i64.wrap (i - 1)), (jc .u8 (rd 0 m1 i) 7), (m1.set i.toNat (oJ .u8 (fA .u8 (rd 0 m1 i) 1) m)), ()) else none else none
 else
  some (m, m1, ())
theorem k0 (m_ : ah) : KQ 139 (O m_) [147] e0 x0 [] (b0 m_) := fun _ _ => by kernel_rfl
def l0 (m_ : ah) : A0 -> Option B0 := loop m_ (b0 m_)
theorem q0 (v) : l0 .lim v = b0 .lim (l0 .lim) v := KS.q (k0 .lim) v
def s0 (m_ : ah) : SO P 139 := so m_ (k0 m_)
def run (m_ : ah) : (List Int) × Unit -> Option ((List Int) × Int × Unit) := fun v_ => match v_ with
| (b, ()) =>
 bif aB (b.length : Int) then
 bif !(decide ((b.length : Int) = 16)) then
  some (([] : List Int), 10, ())
 else
  bif aB (b.length : Int) then
  (jK.l0 m_ ((IntKind.i64.wrap ((b.length : Int) - 1)), 0, b, ())).bind fun (m, m1, ()) =>
  bif inB 15 (m1.length : Int) then
  bif inB 15 (m1.length : Int) then
  some ((m1.set 15 (dP .u8 (rd 0 m1 15) (IntKind.u8.wrap (m * 135)))), 0, ()) else none else none else none else none
theorem k (m_ : ah) : KT (O m_) [147] ⟨139, [.one .str], .jL [.sh (.one .str), .sh (.one (.int .i64))], run m_⟩ [s0 m_] := fun _ => by kernel_rfl
def c (m_ : ah) : CO P := co (k m_)
end jK

namespace kP
def O (m_ : ah) : OO P := gJ [jK.c m_]
def run (m_ : ah) : (List Int) × Unit -> Option (List Int) := fun v_ => match v_ with
| (b, ()) =>
 (jK.run m_ (b, ())).bind fun (r, r1, ()) =>
 some r
theorem k (m_ : ah) : KT (O m_) [] ⟨134, [.one .str], .one (.sh (.one .str)), run m_⟩ [] := fun _ => by kernel_rfl
def c (m_ : ah) : CO P := co (k m_)
end kP

namespace sF
def O (m_ : ah) : OO P := gJ [iM.c m_, kP.c m_, ak.c m_]
def run (m_ : ah) : (List Int) × Unit -> Option (WS × Int × Unit) := fun v_ => match v_ with
| (key, ()) =>
 (iM.run m_ (16, ())).bind fun r =>
 (ak.run m_ (key, r, ())).bind fun (r1, r2, ()) =>
 bif !(decide (r2 = 0)) then
  some (YU, 13, ())
 else
  (kP.run m_ (r1, ())).bind fun r3 =>
  (kP.run m_ (r3, ())).bind fun r4 =>
  some ((key, (r3, r4)), 0, ())
theorem k (m_ : ah) : KT (O m_) [] ⟨131, [.one .str], .jL [.sh (.ag tY8), .sh (.one (.int .i64))], run m_⟩ [] := fun _ => by kernel_rfl
def c (m_ : ah) : CO P := co (k m_)
end sF

namespace lK
def O (m_ : ah) : OO P := gJ [sF.c m_]
def run (m_ : ah) : (List Int) × (List (List Int)) × Unit -> Option (WS × (List Int) × Int × Unit) := fun v_ => match v_ with
| (key, ad, ()) =>
 bif aB (key.length : Int) then
 bif ((!(!(decide ((key.length : Int) = 32)))) || (aB (key.length : Int))) then
 bif ((!(decide ((key.length : Int) = 32))) && (!(decide ((key.length : Int) = 64)))) then
  some (YU, ([] : List Int), 13, ())
 else
  bif aB (ad.length : Int) then
  bif decide ((ad.length : Int) >= 127) then
   some (YU, ([] : List Int), 18, ())
  else
   bif aB (key.length : Int) then
   bif dG 0 (IntKind.i64.wrap ((key.length : Int).tdiv 2)) (key.length : Int) then
   (sF.run m_ ((cut key 0 (IntKind.i64.wrap ((key.length : Int).tdiv 2))), ())).bind fun (r, r1, ()) =>
   bif aB (key.length : Int) then
   bif dG (IntKind.i64.wrap ((key.length : Int).tdiv 2)) (key.length : Int) (key.length : Int) then
   some (r, (cut key (IntKind.i64.wrap ((key.length : Int).tdiv 2)) (key.length : Int)), r1, ()) else none else none else none else none else none else none else none
theorem k (m_ : ah) : KT (O m_) [] ⟨126, [.one .str, .one (.lst .str)], .jL [.sh (.ag tY8), .sh (.one .str), .sh (.one (.int .i64))], run m_⟩ [] := fun _ => by kernel_rfl
def c (m_ : ah) : CO P := co (k m_)
end lK

namespace gV
def O (m_ : ah) : OO P := gJ []
def e0 : Spec := ⟨[fs 128 [.q 116, .z 116, .b 0, .q 15] [(1, .s), (5, .oy 0), (10, .w), (11, .w)]], [(0, .c [.ry])], 1⟩
def x0 : List Spec := [⟨[fs 128 [.q 15] [(5, .oy 0)]], [(0, .c [.ry])], 1⟩]
abbrev A0 : Type := LI × Int × Int × LI × Unit
abbrev B0 : Type := (LI × Unit)
def b0 (m_ : ah) (self : A0 -> Option B0) : A0 -> Option B0 := fun v_ => match v_ with
| (b, t, t1, m, ()) =>
 bif decide (t1 < t) then
  bif inB t1 (m.length : Int) then
  bif inB t1 (b.length : Int) then
  bif inB t1 (m.length : Int) then
  self (b, t, (IntKind.i64.wrap (t1 + 1)), (m.set t1.toNat (dP .u8 (rd 0 m t1) (rd 0 b t1))), ()) else none else none else none
 else
  some (m, ())
theorem k0 (m_ : ah) : KQ 128 (O m_) [] e0 x0 [] (b0 m_) := fun _ _ => by kernel_rfl
def l0 (m_ : ah) : A0 -> Option B0 := loop m_ (b0 m_)
theorem q0 (v) : l0 .lim v = b0 .lim (l0 .lim) v := KS.q (k0 .lim) v
def s0 (m_ : ah) : SO P 128 := so m_ (k0 m_)
def run (m_ : ah) : (List Int) × (List Int) × Unit -> Option (List Int) := fun v_ => match v_ with
| (a, b, ()) =>
 bif aB (a.length : Int) then
 (gV.l0 m_ (b, (a.length : Int), 0, a, ())).bind fun (m, ()) =>
 some m else none
theorem k (m_ : ah) : KT (O m_) [] ⟨128, [.one .str, .one .str], .one (.sh (.one .str)), run m_⟩ [s0 m_] := fun _ => by kernel_rfl
def c (m_ : ah) : CO P := co (k m_)
end gV

namespace dQ
def O (m_ : ah) : OO P := gJ [gV.c m_, iM.c m_, ak.c m_]
def f0 : bY := ⟨133, [.inRange 0, .b 0, .q 15], [(5, .ptr 3 0)], none, [.mark 4], false⟩
def o1 : bV := .loop .ready none 133 [(2, .ptr 5 0), (5, .ptr 3 0)] [11] (y7 58) 4
def e0 : Spec := ⟨[fs 146 [.q 8, .z 8, .b 0, .q 3] [(0, .fn (.yield 0) []), (1, .ptr 1 0), (2, .ptr 2 0)], f0], [(0, o1), (1, .c [.s]), (2, .c [.s, .s, .s]), (3, .c [.s]), (4, .deferred false), (5, .c [.s, .s, .s])], 6⟩
def x0 : List Spec := [⟨[fs 146 [.q 3] [(0, .fn (.yield 0) []), (1, .ptr 1 0), (2, .ptr 2 0)], f0], [(0, o1), (1, .c [.s]), (2, .c [.s, .s, .s]), (3, .c [.s]), (4, .deferred false), (5, .c [.s, .s, .s])], 6⟩]
abbrev A0 : Type := LI × LI × LI × LI × LI × LI × LI × LI × Unit
abbrev B0 : Type := (LI × LI × LI × LI × LI × LI × LI × LI × Unit)
def b0 (m_ : ah) (self : A0 -> Option B0) : A0 -> Option B0 := fun v_ => match v_ with
| (m, m1, m2, m3, m4, m5, m6, m7, ()) =>
 bif aB (m.length : Int) then
 bif decide ((m.length : Int) > 16) then
  bif dG 0 16 (m.length : Int) then
  (gV.run m_ (m4, (cut m 0 16), ())).bind fun r =>
  (ak.run m_ (m5, r, ())).bind fun (r1, r2, ()) =>
  bif dG 16 (m.length : Int) (m.length : Int) then
  self ((cut m 16 (m.length : Int)), m1, m2, m3, r1, m5, m6, m7, ()) else none else none
 else
  some (m, m1, m2, m3, m4, m5, m6, m7, ()) else none
theorem k0 (m_ : ah) : KQ 133 (O m_) [138] e0 x0 [] (b0 m_) := fun _ _ => by kernel_rfl
def l0 (m_ : ah) : A0 -> Option B0 := loop m_ (b0 m_)
theorem q0 (v) : l0 .lim v = b0 .lim (l0 .lim) v := KS.q (k0 .lim) v
def s0 (m_ : ah) : SO P 133 := so m_ (k0 m_)
def run (m_ : ah) : WS × (List Int) × Unit -> Option (List Int) := fun v_ => match v_ with
| (m, s, ()) =>
 (iM.run m_ (16, ())).bind fun r =>
 (dQ.l0 m_ (s, m.1, m.2.1, m.2.2, r, m.1, m.2.1, m.2.2, ())).bind fun (m1, m2, m3, m4, m5, m6, m7, m8, ()) =>
 bif aB (m1.length : Int) then
 bif decide ((m1.length : Int) = 16) then
  (gV.run m_ (m1, m3, ())).bind fun r1 =>
  (gV.run m_ (m5, r1, ())).bind fun r2 =>
  (ak.run m_ (m6, r2, ())).bind fun (r3, r4, ()) =>
  some r3
 else
  bif decide (m1.length + ([128] : List Int).length <= maxStr) then
  bif aB (m1.length : Int) then
  (iM.run m_ ((IntKind.i64.wrap (15 - (m1.length : Int))), ())).bind fun r5 =>
  bif decide ((m1 ++ ([128] : List Int)).length + r5.length <= maxStr) then
  (gV.run m_ (((m1 ++ ([128] : List Int)) ++ r5), m4, ())).bind fun r6 =>
  (gV.run m_ (m5, r6, ())).bind fun r7 =>
  (ak.run m_ (m6, r7, ())).bind fun (r8, r9, ()) =>
  some r8 else none else none else none else none
theorem k (m_ : ah) : KT (O m_) [138] ⟨133, [.ag tY8, .one .str], .one (.sh (.one .str)), run m_⟩ [s0 m_] := fun _ => by kernel_rfl
def c (m_ : ah) : CO P := co (k m_)
end dQ

namespace eX
def O (m_ : ah) : OO P := gJ [gV.c m_, iM.c m_, dQ.c m_, kP.c m_]
def e0 : Spec := ⟨[fs 129 [.q 500, .z 500, .b 0, .q 63] [(2, .ptr 0 0), (5, .s), (6, .s), (30, .t), (31, .w), (32, .w)]], [(0, .c [.s, .s, .s])], 1⟩
def x0 : List Spec := [⟨[fs 129 [.q 63] [(2, .ptr 0 0), (5, .s), (6, .s)]], [(0, .c [.s, .s, .s])], 1⟩]
abbrev A0 : Type := LI × LI × LL × Int × Int × LI × LI × LI × Unit
abbrev B0 : Type := (LI × LI × LI × LI × LI × Unit)
def b0 (m_ : ah) (self : A0 -> Option B0) : A0 -> Option B0 := fun v_ => match v_ with
| (d, s, t, t1, t2, m, m1, m2, ()) =>
 bif decide (t2 < t1) then
  bif inB t2 (t.length : Int) then
  (kP.run m_ (d, ())).bind fun r =>
  (dQ.run m_ ((m, (m1, m2)), (rd ([] : List Int) t t2), ())).bind fun r1 =>
  (gV.run m_ (r, r1, ())).bind fun r2 =>
  self (r2, s, t, t1, (IntKind.i64.wrap (t2 + 1)), m, m1, m2, ()) else none
 else
  some (d, s, m, m1, m2, ())
theorem k0 (m_ : ah) : KQ 129 (O m_) [] e0 x0 [] (b0 m_) := fun _ _ => by kernel_rfl
def l0 (m_ : ah) : A0 -> Option B0 := loop m_ (b0 m_)
theorem q0 (v) : l0 .lim v = b0 .lim (l0 .lim) v := KS.q (k0 .lim) v
def s0 (m_ : ah) : SO P 129 := so m_ (k0 m_)
def run (m_ : ah) : WS × (List (List Int)) × Unit -> Option (List Int) := fun v_ => match v_ with
| (m, l, ()) =>
 bif aB (l.length : Int) then
 bif decide ((l.length : Int) = 0) then
  (iM.run m_ (15, ())).bind fun r =>
  bif decide (r.length + ([1] : List Int).length <= maxStr) then
  (dQ.run m_ (m, (r ++ ([1] : List Int)), ())).bind fun r1 =>
  some r1 else none
 else
  (iM.run m_ (16, ())).bind fun r2 =>
  (dQ.run m_ (m, r2, ())).bind fun r3 =>
  bif aB (l.length : Int) then
  bif inB (IntKind.i64.wrap ((l.length : Int) - 1)) (l.length : Int) then
  bif aB (l.length : Int) then
  bif dG 0 (IntKind.i64.wrap ((l.length : Int) - 1)) (l.length : Int) then
  bif aB ((cut l 0 (IntKind.i64.wrap ((l.length : Int) - 1))).length : Int) then
  (eX.l0 m_ (r3, (rd ([] : List Int) l (IntKind.i64.wrap ((l.length : Int) - 1))), (cut l 0 (IntKind.i64.wrap ((l.length : Int) - 1))), ((cut l 0 (IntKind.i64.wrap ((l.length : Int) - 1))).length : Int), 0, m.1, m.2.1, m.2.2, ())).bind fun (d, s, m1, m2, m3, ()) =>
  bif aB (s.length : Int) then
  bif decide ((IntKind.i64.wrap ((s.length : Int) - 16)) >= 0) then
   bif dG 0 (IntKind.i64.wrap ((s.length : Int) - 16)) (s.length : Int) then
   bif dG (IntKind.i64.wrap ((s.length : Int) - 16)) (s.length : Int) (s.length : Int) then
   (gV.run m_ ((cut s (IntKind.i64.wrap ((s.length : Int) - 16)) (s.length : Int)), d, ())).bind fun r4 =>
   bif decide ((cut s 0 (IntKind.i64.wrap ((s.length : Int) - 16))).length + r4.length <= maxStr) then
   (dQ.run m_ ((m1, (m2, m3)), ((cut s 0 (IntKind.i64.wrap ((s.length : Int) - 16))) ++ r4), ())).bind fun r5 =>
   some r5 else none else none else none
  else
   bif decide (s.length + ([128] : List Int).length <= maxStr) then
   bif aB (s.length : Int) then
   (iM.run m_ ((IntKind.i64.wrap (15 - (s.length : Int))), ())).bind fun r6 =>
   bif decide ((s ++ ([128] : List Int)).length + r6.length <= maxStr) then
   (kP.run m_ (d, ())).bind fun r7 =>
   (gV.run m_ (((s ++ ([128] : List Int)) ++ r6), r7, ())).bind fun r8 =>
   (dQ.run m_ ((m1, (m2, m3)), r8, ())).bind fun r9 =>
   some r9 else none else none else none else none else none else none else none else none else none else none
theorem k (m_ : ah) : KT (O m_) [] ⟨129, [.ag tY8, .one (.lst .str)], .one (.sh (.one .str)), run m_⟩ [s0 m_] := fun _ => by kernel_rfl
def c (m_ : ah) : CO P := co (k m_)
end eX

namespace aj
def xs : List (FuncId × XK) := [(161, .load .u32), (172, .store), (174, .Fe .disable), (175, .cas .i32), (176, .Fe .enable), (177, .Fg .acquire), (179, .Fg .releaseMerge), (180, .add .i32)]
theorem YV : ∀ x ∈ xs, x.2.OK P x.1 := ac ⟨_, Go.Proofs.Tryz.func161, by kernel_rfl, by kernel_rfl, by kernel_rfl, by kernel_rfl⟩ (ac ⟨_, Go.Proofs.Tryz.func172, by kernel_rfl, by kernel_rfl, by kernel_rfl, by kernel_rfl⟩ (ac ⟨_, Go.Proofs.Tryz.func174, by kernel_rfl, by kernel_rfl, by kernel_rfl, by kernel_rfl⟩ (ac ⟨_, Go.Proofs.Tryz.func175, by kernel_rfl, by kernel_rfl, by kernel_rfl, by kernel_rfl⟩ (ac ⟨_, Go.Proofs.Tryz.func176, by kernel_rfl, by kernel_rfl, by kernel_rfl, by kernel_rfl⟩ (ac ⟨_, Go.Proofs.Tryz.func177, by kernel_rfl, by kernel_rfl, by kernel_rfl, by kernel_rfl⟩ (ac ⟨_, Go.Proofs.Tryz.func179, by kernel_rfl, by kernel_rfl, by kernel_rfl, by kernel_rfl⟩ (ac ⟨_, Go.Proofs.Tryz.func180, by kernel_rfl, by kernel_rfl, by kernel_rfl, by kernel_rfl⟩ (an))))))))
def O (m_ : ah) : OO P := orj (gJ [rF.c m_, fJ.c m_, aG.c m_, iP.c m_]) (orx YV)
def f0 : bY := ⟨155, [.v 61 [1]], [], none, [.call 164 [.ptr 0 1, .b], .call 163 [.ptr 0 2]], false⟩
def o1 : bV := .c [.s, .dat (.int .u32), .dat (.int .i32), .dat (.int .u32), .dat uq, .dat uq, .dat uw, .own 8 vw]
def o2 : bV := .c [.dat vw]
def o3 : bV := .c [.row vw]
def f4 : bY := fs 149 [.v 2 [1], .q 3] [(0, .ptr 1 0)]
def f5 : bY := fs 137 [.v 6 [1], .q 7] [(2, .ptr 2 0), (3, .ptr 3 0), (4, .ptr 4 0)]
def f6 : bY := fs 132 [.v 8132 [2,3,4], .q 8133, .b 1, .z 1016, .b 0, .q 255] [(2, .w), (8, .ptr 0 0), (10, .ptr 5 0), (11, .oy 6)]
def o7 : bV := .c [.s, .dat (.int .u32), .dat (.int .i32), .dat (.int .u32), .dat uq, .dat uq, .dat uw, .own 7 vw]
def e0 : Spec := ⟨[fs 150 [.q 13116, .z 13116, .b 2, .b 1, .q 103, .z 12, .b 0] [(0, .ptr 0 0), (2, .w), (6, .w), (25, .oy 1), (26, .w), (27, .w)], fs 149 [.v 2 [1], .q 3] [(0, .ptr 2 0)], f0, fs 148 [.v 6 [2]] [], fs 140 [.v 3 [4]] [], fs 137 [.v 6 [1], .q 7] [(2, .ptr 3 0), (3, .ptr 4 0), (4, .ptr 5 0)], fs 132 [.v 8132 [2,3,4], .q 8133, .b 1, .z 1016, .b 0, .q 255] [(2, .w), (8, .ptr 0 0), (10, .ptr 6 0), (11, .oy 7)]], [(0, o1), (1, .c [.ry]), (2, .c [.ptr 0 0]), (3, .c [.ptr 0 0]), (4, o2), (5, o2), (6, o2), (7, .d [.ry]), (8, o3)], 9⟩
def x0 : List Spec := [⟨[fs 150 [.q 103, .z 12, .b 0] [(0, .ptr 0 0), (6, .w)], f4, f0, fs 148 [.v 6 [2]] [], fs 140 [.v 3 [4]] [], f5, f6], [(0, o7), (1, .c [.ptr 0 0]), (2, .c [.ptr 0 0]), (3, o2), (4, o2), (5, o2), (6, .d [.ry]), (7, o3)], 8⟩]
abbrev A0 : Type := Int × Int × Int × Int × Bool × Int × LI × Int × Int × Int × LI × LI × LL × LI × LI × LI × LI × LI × LL × Unit
abbrev B0 : Type := (Int × Bool × Int × LI × Int × Int × Int × LI × LI × LL × LI × LI × LI × LI × LL × Unit)
def b0 (m_ : ah) (self : A0 -> Option B0) : A0 -> Option B0 := fun v_ => match v_ with
| (i, t, t1, t2, m, n, m1, m2, m3, m4, m5, m6, m7, m8, m9, m10, m11, m12, m13, ()) =>
 bif decide (t2 < t1) then
  bif inB t2 (m8.length : Int) then
  (fJ.run m_ ((IntKind.u8.wrap i), (rd 0 m8 t2), ())).bind fun r =>
  bif inB (rd 0 m8 t2) 16 then
  bif inB i 256 then
  self (i, t, t1, (IntKind.i64.wrap (t2 + 1)), m, n, m1, m2, m3, m4, m5, m6, (m7.set ((rd 0 m8 t2).toNat) ((rd (List.replicate 256 (0 : Int) : List Int) m7 (rd 0 m8 t2)).set i.toNat r)), m8, m9, m10, m11, m12, m13, ()) else none else none else none
 else
  some (t, m, n, m1, m2, m3, m4, m5, m6, m7, m9, m10, m11, m12, m13, ())
theorem k0 (m_ : ah) : KQ 132 (O m_) [136, 137, 140, 141, 142, 143, 144, 145, 148, 149, 150, 151, 154, 155, 158, 159, 160, 162, 170, 171] e0 x0 [] (b0 m_) := fun _ _ => by kernel_rfl
def l0 (m_ : ah) : A0 -> Option B0 := loop m_ (b0 m_)
theorem q0 (v) : l0 .lim v = b0 .lim (l0 .lim) v := KS.q (k0 .lim) v
def s0 (m_ : ah) : SO P 132 := so m_ (k0 m_)
def e1 : Spec := ⟨[fs 150 [.q 12, .z 12, .b 0] [(0, .ptr 0 0), (6, .w)], f4, f0, fs 148 [.v 6 [2]] [], fs 140 [.v 3 [4]] [], f5, f6], [(0, o7), (1, .c [.ptr 0 0]), (2, .c [.ptr 0 0]), (3, o2), (4, o2), (5, o2), (6, .d [.ry]), (7, o3)], 8⟩
def x1 : List Spec := [⟨[fs 150 [] [], fs 149 [.v 2 [1], .q 3] [(0, .ptr 0 0)], ⟨155, [.v 61 [1]], [], none, [.call 164 [.ptr 1 1, .b], .call 163 [.ptr 1 2]], false⟩, fs 148 [.v 6 [2]] [], fs 140 [.v 3 [4]] [], f5, fs 132 [.v 8132 [2,3,4], .q 8133, .b 1, .z 1016, .b 0, .q 255] [(2, .w), (8, .ptr 1 0), (10, .ptr 5 0), (11, .oy 6)]], [(0, .c [.ptr 1 0]), (1, o7), (2, .c [.ptr 1 0]), (3, o2), (4, o2), (5, o2), (6, .d [.ry]), (7, o3)], 8⟩]
abbrev A1 : Type := Int × Bool × Int × LI × Int × Int × Int × LI × LI × LL × LI × LI × LI × LI × LL × Unit
abbrev B1 : Type := (Bool × Int × LI × Int × Int × Int × LI × LI × LL × LI × LI × LI × LI × LL × Unit)
def b1 (m_ : ah) (self : A1 -> Option B1) : A1 -> Option B1 := fun v_ => match v_ with
| (t, m, n, m1, m2, m3, m4, m5, m6, m7, m8, m9, m10, m11, m12, ()) =>
 bif decide (t < 256) then
  (rF.run m_ ((IntKind.u8.wrap t), ())).bind fun r =>
  bif inB t 256 then
  bif inB r 256 then
  bif aB (([1, 2, 3, 9, 11, 13, 14] : List Int).length : Int) then
  (aj.l0 m_ (t, t, (([1, 2, 3, 9, 11, 13, 14] : List Int).length : Int), 0, m, n, m1, m2, m3, m4, (m5.set t.toNat r), (m6.set r.toNat (IntKind.u8.wrap t)), m7, ([1, 2, 3, 9, 11, 13, 14] : List Int), m8, m9, m10, m11, m12, ())).bind fun (t1, m13, n1, m14, m15, m16, m17, m18, m19, m20, m21, m22, m23, m24, tu, ()) =>
  self ((IntKind.i64.wrap (t1 + 1)), m13, n1, m14, m15, m16, m17, m18, m19, m20, m21, m22, m23, m24, tu, ()) else none else none else none
 else
  some (m, n, m1, m2, m3, m4, m5, m6, m7, m8, m9, m10, m11, m12, ())
theorem k1 (m_ : ah) : KQ 132 (O m_) [136, 137, 140, 141, 142, 143, 144, 145, 148, 149, 150, 151, 154, 155, 158, 159, 160, 162, 170, 171] e1 x1 [s0 m_] (b1 m_) := fun _ _ => by kernel_rfl
def l1 (m_ : ah) : A1 -> Option B1 := loop m_ (b1 m_)
theorem q1 (v) : l1 .lim v = b1 .lim (l1 .lim) v := KS.q (k1 .lim) v
def s1 (m_ : ah) : SO P 132 := so m_ (k1 m_)
def o8 : bV := .c [.s, .dat (.int .u32), .dat (.int .i32), .dat (.int .u32), .dat uq, .dat uq, .dat uw, .own 13 vw]
def o9 : bV := .c [.row MQ]
def f10 : bY := ⟨155, [.v 61 [1]], [], none, [.call 164 [.ptr 4 1, .b], .call 163 [.ptr 4 2]], false⟩
def f11 : bY := fs 137 [.v 6 [1], .q 7] [(2, .ptr 5 0), (3, .ptr 6 0), (4, .ptr 7 0)]
def f12 : bY := fs 132 [.v 8132 [2,3,4], .q 8133, .b 1, .z 1016, .b 0, .q 255] [(2, .w), (8, .ptr 4 0), (10, .ptr 8 0), (11, .oy 9)]
def o13 : bV := .c [.own 10 MQ]
def Gv : bV := .c [.s, .dat (.int .u32), .dat (.int .i32), .dat (.int .u32), .dat uq, .dat uq, .dat uw, .own 11 vw]
def e2 : Spec := ⟨[fs 167 [.q 12, .z 12, .b 0] [(0, .fn (.yield 0) []), (1, .ptr 1 0), (2, .ptr 2 0), (4, .w)], ⟨151, [.inRange 0, .b 0, .q 31], [(1, .ptr 3 0), (2, .w), (3, .ptr 4 0)], none, [.mark 5], false⟩, fs 149 [.v 3 [1]] [], ⟨155, [.v 61 [1]], [], none, [.call 164 [.ptr 6 1, .b], .call 163 [.ptr 6 2]], false⟩, fs 148 [.v 6 [2]] [], fs 140 [.v 3 [4]] [], fs 137 [.v 6 [1], .q 7] [(2, .ptr 7 0), (3, .ptr 8 0), (4, .ptr 9 0)], fs 132 [.v 8132 [2,3,4], .q 8133, .b 1, .z 1016, .b 0, .q 255] [(2, .w), (8, .ptr 6 0), (10, .ptr 10 0), (11, .oy 11)]], [(0, .loop .ready none 151 [(3, .ptr 4 0)] [22] (y7 122) 5), (1, .c [.oy 12]), (2, .c [.w]), (3, .c [.ptr 6 0]), (4, .c [.own 5003 MQ]), (5, .deferred false), (6, o8), (7, .c [.ptr 6 0]), (8, o2), (9, o2), (10, o2), (11, .d [.ry]), (12, .d [.ry]), (5003, o9), (13, o3)], 5004⟩
def x2 : List Spec := [⟨[fs 167 [] [], ⟨151, [.inRange 2, .b 0, .q 31], [(1, .ptr 0 0), (2, .w), (3, .ptr 1 0)], none, [.mark 3], false⟩, fs 149 [.v 3 [1]] [], f10, fs 148 [.v 6 [2]] [], fs 140 [.v 3 [4]] [], f11, f12], [(0, .c [.ptr 4 0]), (1, o13), (2, .loop .ready none 151 [(3, .ptr 1 0)] [22] (y7 122) 3), (3, .deferred false), (4, Gv), (5, .c [.ptr 4 0]), (6, o2), (7, o2), (8, o2), (9, .d [.ry]), (10, o9), (11, o3)], 12⟩]
abbrev A2 : Type := Int × Int × Bool × Int × Int × LI × Int × Int × Int × LI × LI × LL × LI × LI × LI × LI × LI × LL × LL × Unit
abbrev B2 : Type := (Int × Bool × Int × LI × Int × Int × Int × LI × LI × LL × LI × LI × LI × LI × LL × LL × Unit)
def b2 (m_ : ah) (self : A2 -> Option B2) : A2 -> Option B2 := fun v_ => match v_ with
| (i, nk, m, n, m1, m2, m3, m4, m5, m6, m7, m8, m9, m10, m11, m12, m13, m14, m15, ()) =>
 bif aB (m13.length : Int) then
 bif decide (i < (m13.length : Int)) then
  bif dG i (m13.length : Int) (m13.length : Int) then
  bif aB ((m13.length : Int) - i) then
  bif ((dG i (IntKind.i64.wrap (i + (mn m1 ((m13.length : Int) - i)))) (IntKind.i64.wrap (i + (mn m1 ((m13.length : Int) - i))))) && (decide ((IntKind.i64.wrap (i + (mn m1 ((m13.length : Int) - i)))) <= (m13.length : Int)))) then
  bif (Nat.ble 1 4 && Nat.ble 4 (cut m13 i (IntKind.i64.wrap (i + (mn m1 ((m13.length : Int) - i))))).length) then
  bif decide (m14.length + ([((cut m13 i (IntKind.i64.wrap (i + (mn m1 ((m13.length : Int) - i))))).take 4)] : List (List Int)).length < 17592186044416) then
  self ((IntKind.i64.wrap (i + m1)), nk, m, n, m1, m2, m3, m4, m5, m6, m7, m8, m9, m10, m11, m12, m13, (m14 ++ ([((cut m13 i (IntKind.i64.wrap (i + (mn m1 ((m13.length : Int) - i))))).take 4)] : List (List Int))), m15, ()) else none else none else none else none else none
 else
  some (nk, m, n, m2, m3, m4, m5, m6, m7, m8, m9, m10, m11, m12, m14, m15, ()) else none
theorem k2 (m_ : ah) : KQ 132 (O m_) [136, 137, 140, 141, 142, 143, 144, 145, 148, 149, 150, 151, 154, 155, 158, 159, 160, 162, 170, 171] e2 x2 [] (b2 m_) := fun _ _ => by kernel_rfl
def l2 (m_ : ah) : A2 -> Option B2 := loop m_ (b2 m_)
theorem q2 (v) : l2 .lim v = b2 .lim (l2 .lim) v := KS.q (k2 .lim) v
def s2 (m_ : ah) : SO P 132 := so m_ (k2 m_)
def VQ : bV := .c [.dat MQ]
def e3 : Spec := ⟨[⟨151, [.q 518452, .z 518452, .b 4, .q 64807, .b 3, .q 4051, .z 1012, .b 2, .q 127], [(1, .ptr 0 0), (2, .w), (3, .ptr 1 0), (5, .y), (6, .w), (7, .ptr 2 0), (115, .w)], none, [.mark 3], false⟩, fs 149 [.v 3 [1]] [], f10, fs 148 [.v 6 [2]] [], fs 140 [.v 3 [4]] [], f11, f12], [(0, .c [.ptr 4 0]), (1, o13), (2, VQ), (3, .deferred false), (4, Gv), (5, .c [.ptr 4 0]), (6, o2), (7, o2), (8, o2), (9, .d [.ry]), (10, o9), (11, o3)], 12⟩
def x3 : List Spec := [⟨[⟨151, [.q 64807, .b 3, .q 4051, .z 1012, .b 2, .q 127], [(1, .ptr 0 0), (2, .w), (3, .ptr 1 0), (5, .y), (6, .w), (7, .ptr 2 0)], none, [.mark 3], false⟩, fs 149 [.v 3 [1]] [], f10, fs 148 [.v 6 [2]] [], fs 140 [.v 3 [4]] [], f11, f12], [(0, .c [.ptr 4 0]), (1, o13), (2, VQ), (3, .deferred false), (4, Gv), (5, .c [.ptr 4 0]), (6, o2), (7, o2), (8, o2), (9, .d [.ry]), (10, o9), (11, o3)], 12⟩]
abbrev A3 : Type := Int × Int × Int × Int × Bool × Int × LI × LI × Int × Int × Int × LI × LI × LL × LI × LI × LI × LI × LL × LL × Unit
abbrev B3 : Type := (Int × Int × Int × Bool × Int × LI × LI × Int × Int × Int × LI × LI × LL × LI × LI × LI × LI × LL × LL × Unit)
def b3 (m_ : ah) (self : A3 -> Option B3) : A3 -> Option B3 := fun v_ => match v_ with
| (nk, x, i, t, m, n, m1, m2, m3, m4, m5, m6, m7, m8, m9, m10, m11, m12, m13, m14, ()) =>
 bif decide (t < 4) then
  bif inB t 4 then
  bif inB (IntKind.i64.wrap (i - nk)) (m13.length : Int) then
  bif inB t 4 then
  bif inB t 4 then
  self (nk, x, i, (IntKind.i64.wrap (t + 1)), m, n, (m1.set t.toNat (dP .u8 (rd 0 m1 t) (rd 0 (rd (List.replicate 4 (0 : Int) : List Int) m13 (IntKind.i64.wrap (i - nk))) t))), m2, m3, m4, m5, m6, m7, m8, m9, m10, m11, m12, m13, m14, ()) else none else none else none else none
 else
  some (nk, x, i, m, n, m1, m2, m3, m4, m5, m6, m7, m8, m9, m10, m11, m12, m13, m14, ())
theorem k3 (m_ : ah) : KQ 132 (O m_) [136, 137, 140, 141, 142, 143, 144, 145, 148, 149, 150, 151, 154, 155, 158, 159, 160, 162, 170, 171] e3 x3 [] (b3 m_) := fun _ _ => by kernel_rfl
def l3 (m_ : ah) : A3 -> Option B3 := loop m_ (b3 m_)
theorem q3 (v) : l3 .lim v = b3 .lim (l3 .lim) v := KS.q (k3 .lim) v
def s3 (m_ : ah) : SO P 132 := so m_ (k3 m_)
def f16 : bY := ⟨155, [.v 61 [1]], [], none, [.call 164 [.ptr 3 1, .b], .call 163 [.ptr 3 2]], false⟩
def f17 : bY := fs 137 [.v 6 [1], .q 7] [(2, .ptr 4 0), (3, .ptr 5 0), (4, .ptr 6 0)]
def f18 : bY := fs 132 [.v 8132 [2,3,4], .q 8133, .b 1, .z 1016, .b 0, .q 255] [(2, .w), (8, .ptr 3 0), (10, .ptr 7 0), (11, .oy 8)]
def o19 : bV := .c [.own 9 MQ]
def YW : bV := .c [.s, .dat (.int .u32), .dat (.int .i32), .dat (.int .u32), .dat uq, .dat uq, .dat uw, .own 10 vw]
def e4 : Spec := ⟨[⟨151, [.q 1012, .z 1012, .b 2, .q 127], [(1, .ptr 0 0), (2, .w), (3, .ptr 1 0), (5, .y), (6, .w)], none, [.mark 2], false⟩, fs 149 [.v 3 [1]] [], f16, fs 148 [.v 6 [2]] [], fs 140 [.v 3 [4]] [], f17, f18], [(0, .c [.ptr 3 0]), (1, o19), (2, .deferred false), (3, YW), (4, .c [.ptr 3 0]), (5, o2), (6, o2), (7, o2), (8, .d [.ry]), (9, o9), (10, o3)], 11⟩
def x4 : List Spec := [⟨[⟨151, [.q 127], [(1, .ptr 0 0), (3, .ptr 1 0)], none, [.mark 2], false⟩, fs 149 [.v 3 [1]] [], f16, fs 148 [.v 6 [2]] [], fs 140 [.v 3 [4]] [], f17, f18], [(0, .c [.ptr 3 0]), (1, o19), (2, .deferred false), (3, YW), (4, .c [.ptr 3 0]), (5, o2), (6, o2), (7, o2), (8, .d [.ry]), (9, o9), (10, o3)], 11⟩]
abbrev A4 : Type := Int × Int × Int × Bool × Int × LI × Int × Int × Int × LI × LI × LL × LI × LI × LI × LI × LL × LL × Unit
abbrev B4 : Type := (Bool × Int × LI × Int × Int × Int × LI × LI × LL × LI × LI × LI × LI × LL × LL × Unit)
def b4 (m_ : ah) (self : A4 -> Option B4) : A4 -> Option B4 := fun v_ => match v_ with
| (nk, x, i, m, n, m1, m2, m3, m4, m5, m6, m7, m8, m9, m10, m11, m12, m13, ()) =>
 bif decide (i < (IntKind.i64.wrap (4 * (IntKind.i64.wrap (nk + 7))))) then
  bif inB (IntKind.i64.wrap (i - 1)) (m12.length : Int) then
  bif !(decide (nk = 0)) then
  bif decide ((i.tmod nk) = 0) then
   bif inB (rd 0 (rd (List.replicate 4 (0 : Int) : List Int) m12 (IntKind.i64.wrap (i - 1))) 1) 256 then
   bif inB (rd 0 (rd (List.replicate 4 (0 : Int) : List Int) m12 (IntKind.i64.wrap (i - 1))) 2) 256 then
   bif inB (rd 0 (rd (List.replicate 4 (0 : Int) : List Int) m12 (IntKind.i64.wrap (i - 1))) 3) 256 then
   bif inB (rd 0 (rd (List.replicate 4 (0 : Int) : List Int) m12 (IntKind.i64.wrap (i - 1))) 0) 256 then
   (fJ.run m_ (x, 2, ())).bind fun r =>
   (aj.l3 m_ (nk, r, i, 0, m, n, (((((List.replicate 4 (0 : Int) : List Int).set 0 (dP .u8 (rd 0 m5 (rd 0 (rd (List.replicate 4 (0 : Int) : List Int) m12 (IntKind.i64.wrap (i - 1))) 1)) x)).set 1 (rd 0 m5 (rd 0 (rd (List.replicate 4 (0 : Int) : List Int) m12 (IntKind.i64.wrap (i - 1))) 2))).set 2 (rd 0 m5 (rd 0 (rd (List.replicate 4 (0 : Int) : List Int) m12 (IntKind.i64.wrap (i - 1))) 3))).set 3 (rd 0 m5 (rd 0 (rd (List.replicate 4 (0 : Int) : List Int) m12 (IntKind.i64.wrap (i - 1))) 0))), m1, m2, m3, m4, m5, m6, m7, m8, m9, m10, m11, m12, m13, ())).bind fun (nk1, x1, i1, m14, n1, m15, m16, m17, m18, m19, m20, m21, m22, m23, m24, tu, tC, vF, rP, ()) =>
   bif decide (vF.length + ([m15] : List (List Int)).length < 17592186044416) then
   self (nk1, x1, (IntKind.i64.wrap (i1 + 1)), m14, n1, m16, m17, m18, m19, m20, m21, m22, m23, m24, tu, tC, (vF ++ ([m15] : List (List Int))), rP, ()) else none else none else none else none else none
  else
   bif ((!(decide (nk = 8))) || true) then
   bif ((decide (nk = 8)) && (decide ((i.tmod 8) = 4))) then
    bif inB (rd 0 (rd (List.replicate 4 (0 : Int) : List Int) m12 (IntKind.i64.wrap (i - 1))) 0) 256 then
    bif inB (rd 0 (rd (List.replicate 4 (0 : Int) : List Int) m12 (IntKind.i64.wrap (i - 1))) 1) 256 then
    bif inB (rd 0 (rd (List.replicate 4 (0 : Int) : List Int) m12 (IntKind.i64.wrap (i - 1))) 2) 256 then
    bif inB (rd 0 (rd (List.replicate 4 (0 : Int) : List Int) m12 (IntKind.i64.wrap (i - 1))) 3) 256 then
    (aj.l3 m_ (nk, x, i, 0, m, n, (((((List.replicate 4 (0 : Int) : List Int).set 0 (rd 0 m5 (rd 0 (rd (List.replicate 4 (0 : Int) : List Int) m12 (IntKind.i64.wrap (i - 1))) 0))).set 1 (rd 0 m5 (rd 0 (rd (List.replicate 4 (0 : Int) : List Int) m12 (IntKind.i64.wrap (i - 1))) 1))).set 2 (rd 0 m5 (rd 0 (rd (List.replicate 4 (0 : Int) : List Int) m12 (IntKind.i64.wrap (i - 1))) 2))).set 3 (rd 0 m5 (rd 0 (rd (List.replicate 4 (0 : Int) : List Int) m12 (IntKind.i64.wrap (i - 1))) 3))), m1, m2, m3, m4, m5, m6, m7, m8, m9, m10, m11, m12, m13, ())).bind fun (nk2, x2, i2, wU, n2, Ig, LQ, m32, Gu, LU, Oe, LV, Og, P9, P_, Qa, Qb, Oh, Rh, ()) =>
    bif decide (Oh.length + ([Ig] : List (List Int)).length < 17592186044416) then
    self (nk2, x2, (IntKind.i64.wrap (i2 + 1)), wU, n2, LQ, m32, Gu, LU, Oe, LV, Og, P9, P_, Qa, Qb, (Oh ++ ([Ig] : List (List Int))), Rh, ()) else none else none else none else none else none
   else
    (aj.l3 m_ (nk, x, i, 0, m, n, (rd (List.replicate 4 (0 : Int) : List Int) m12 (IntKind.i64.wrap (i - 1))), m1, m2, m3, m4, m5, m6, m7, m8, m9, m10, m11, m12, m13, ())).bind fun (nk3, x3, i3, Oi, n3, Oj, Ri, VT, VU, VW, VX, VY, X9, X_, Ya, Y7, WT, WU, Y8, ()) =>
    bif decide (WU.length + ([Oj] : List (List Int)).length < 17592186044416) then
    self (nk3, x3, (IntKind.i64.wrap (i3 + 1)), Oi, n3, Ri, VT, VU, VW, VX, VY, X9, X_, Ya, Y7, WT, (WU ++ ([Oj] : List (List Int))), Y8, ()) else none else none else none else none
 else
  some (m, n, m1, m2, m3, m4, m5, m6, m7, m8, m9, m10, m11, m12, m13, ())
theorem k4 (m_ : ah) : KQ 132 (O m_) [136, 137, 140, 141, 142, 143, 144, 145, 148, 149, 150, 151, 154, 155, 158, 159, 160, 162, 170, 171] e4 x4 [s3 m_] (b4 m_) := fun _ _ => by kernel_rfl
def l4 (m_ : ah) : A4 -> Option B4 := loop m_ (b4 m_)
theorem q4 (v) : l4 .lim v = b4 .lim (l4 .lim) v := KS.q (k4 .lim) v
def s4 (m_ : ah) : SO P 132 := so m_ (k4 m_)
def e5 : Spec := ⟨[fs 168 [.q 12, .z 12, .b 0] [(0, .fn (.yield 0) []), (1, .ptr 1 0), (2, .ptr 2 0), (4, .w)], ⟨151, [.inRange 0, .b 6], [], none, [.mark 3, .mark 4], false⟩, fs 149 [.v 3 [1]] [], ⟨155, [.v 61 [1]], [], none, [.call 164 [.ptr 5 1, .b], .call 163 [.ptr 5 2]], false⟩, fs 148 [.v 6 [2]] [], fs 140 [.v 3 [4]] [], fs 137 [.v 6 [1], .q 7] [(2, .ptr 6 0), (3, .ptr 7 0), (4, .ptr 8 0)], fs 132 [.v 8132 [2,3,4], .q 8133, .b 1, .z 1016, .b 0, .q 255] [(2, .w), (8, .ptr 5 0), (10, .ptr 9 0), (11, .oy 10)]], [(0, .loop .ready none 151 [(1, .ptr 11 0)] [138] (y7 510) 3), (1, .c [.own 12 MQ]), (2, .c [.w]), (3, .deferred false), (4, .deferred false), (5, o8), (6, .c [.ptr 5 0]), (7, o2), (8, o2), (9, o2), (10, .d [.ry]), (11, .d [.ptr 5 0]), (12, .d [.row MQ]), (13, o3)], 14⟩
def x5 : List Spec := [⟨[fs 168 [] [], ⟨151, [.inRange 0, .b 6], [], none, [.mark 1, .mark 2], false⟩, fs 149 [.v 3 [1]] [], f16, fs 148 [.v 6 [2]] [], fs 140 [.v 3 [4]] [], f17, f18], [(0, .loop .ready none 151 [(1, .ptr 9 0)] [138] (y7 510) 1), (1, .deferred false), (2, .deferred false), (3, YW), (4, .c [.ptr 3 0]), (5, o2), (6, o2), (7, o2), (8, .d [.ry]), (9, .d [.ptr 3 0]), (10, o3)], 11⟩]
abbrev A5 : Type := Int × Bool × Int × Int × LI × Int × Int × Int × LI × LI × LL × LI × LI × LI × LI × LL × LL × Unit
abbrev B5 : Type := (Bool × Int × LI × Int × Int × Int × LI × LI × LL × LI × LI × LI × LI × LL × Unit)
def b5 (m_ : ah) (self : A5 -> Option B5) : A5 -> Option B5 := fun v_ => match v_ with
| (i, m, n, m1, m2, m3, m4, m5, m6, m7, m8, m9, m10, m11, m12, m13, m14, ()) =>
 bif aB (m13.length : Int) then
 bif decide (i < (m13.length : Int)) then
  bif dG i (m13.length : Int) (m13.length : Int) then
  bif aB ((m13.length : Int) - i) then
  bif ((dG i (IntKind.i64.wrap (i + (mn m1 ((m13.length : Int) - i)))) (IntKind.i64.wrap (i + (mn m1 ((m13.length : Int) - i))))) && (decide ((IntKind.i64.wrap (i + (mn m1 ((m13.length : Int) - i)))) <= (m13.length : Int)))) then
  bif inB 0 ((cut m13 i (IntKind.i64.wrap (i + (mn m1 ((m13.length : Int) - i))))).length : Int) then
  bif inB 1 ((cut m13 i (IntKind.i64.wrap (i + (mn m1 ((m13.length : Int) - i))))).length : Int) then
  bif inB 2 ((cut m13 i (IntKind.i64.wrap (i + (mn m1 ((m13.length : Int) - i))))).length : Int) then
  bif inB 3 ((cut m13 i (IntKind.i64.wrap (i + (mn m1 ((m13.length : Int) - i))))).length : Int) then
  (aG.run m_ (([(cut (rd (List.replicate 4 (0 : Int) : List Int) (cut m13 i (IntKind.i64.wrap (i + (mn m1 ((m13.length : Int) - i))))) 0) 0 4), (cut (rd (List.replicate 4 (0 : Int) : List Int) (cut m13 i (IntKind.i64.wrap (i + (mn m1 ((m13.length : Int) - i))))) 1) 0 4), (cut (rd (List.replicate 4 (0 : Int) : List Int) (cut m13 i (IntKind.i64.wrap (i + (mn m1 ((m13.length : Int) - i))))) 2) 0 4), (cut (rd (List.replicate 4 (0 : Int) : List Int) (cut m13 i (IntKind.i64.wrap (i + (mn m1 ((m13.length : Int) - i))))) 3) 0 4)] : List (List Int)), ())).bind fun r =>
  bif (Nat.ble 1 16 && Nat.ble 16 r.length) then
  bif decide (m14.length + ([(r.take 16)] : List (List Int)).length < 4398046511104) then
  self ((IntKind.i64.wrap (i + m1)), m, n, m1, m2, m3, m4, m5, m6, m7, m8, m9, m10, m11, m12, m13, (m14 ++ ([(r.take 16)] : List (List Int))), ()) else none else none else none else none else none else none else none else none else none
 else
  some (m, n, m2, m3, m4, m5, m6, m7, m8, m9, m10, m11, m12, m14, ()) else none
theorem k5 (m_ : ah) : KQ 132 (O m_) [136, 137, 140, 141, 142, 143, 144, 145, 148, 149, 150, 151, 154, 155, 158, 159, 160, 162, 170, 171] e5 x5 [] (b5 m_) := fun _ _ => by kernel_rfl
def l5 (m_ : ah) : A5 -> Option B5 := loop m_ (b5 m_)
theorem q5 (v) : l5 .lim v = b5 .lim (l5 .lim) v := KS.q (k5 .lim) v
def s5 (m_ : ah) : SO P 132 := so m_ (k5 m_)
def X8 : bV := .c [.s, .dat (.int .u32), .dat (.int .i32), .dat (.int .u32), .dat uq, .dat uq, .dat uw, .own 6 vw]
def f22 : bY := fs 132 [.v 8132 [2,3,4], .q 8133, .b 1, .z 1016, .b 0, .q 255] [(2, .w), (8, .ptr 3 0), (10, .ptr 4 0), (11, .oy 5)]
def e6 : Spec := ⟨[fs 140 [.q 1] [(0, .ptr 0 0)], fs 137 [.v 6 [1], .q 7] [(2, .ptr 1 0), (3, .ptr 2 0), (4, .ptr 3 0)], fs 132 [.v 8132 [2,3,4], .q 8133, .b 1, .z 1016, .b 0, .q 255] [(2, .w), (8, .ptr 0 0), (10, .ptr 4 0), (11, .oy 5)]], [(0, X8), (1, .c [.ptr 0 0]), (2, o2), (3, o2), (4, o2), (5, .d [.ry]), (6, o3)], 7⟩
def x6 : List Spec := [⟨[fs 140 [] [], fs 137 [.v 6 [1], .q 7] [(2, .ptr 0 0), (3, .ptr 1 0), (4, .ptr 2 0)], f22], [(0, .c [.ptr 3 0]), (1, o2), (2, o2), (3, X8), (4, o2), (5, .d [.ry]), (6, o3)], 7⟩]
abbrev A6 : Type := Int × LI × Int × Int × Int × LI × LI × LL × LI × LI × LI × LI × LL × Unit
abbrev B6 : Type := (Int × LI × LI × LI × Int × Int × Int × LI × LI × LL × LI × LI × LL × Unit)
def b6 (m_ : ah) (self : A6 -> Option B6) : A6 -> Option B6 := fun v_ => match v_ with
| (n, m, m1, m2, m3, m4, m5, m6, m7, m8, m9, m10, m11, ()) =>
 bif !(!(decide (m1 = 0))) then
  bif decide (m2 = 0) then
  bif !(!(decide (m1 = 0))) then
   (aj.l1 m_ (0, true, n, m, m1, (bif decide (m2 = 0) then 1 else m2), m3, m4, m5, m6, m7, m8, m9, m10, m11, ())).bind fun (m12, n1, m13, m14, m15, m16, m17, m18, m19, m20, m21, m22, m23, m24, ()) =>
   bif aB (m13.length : Int) then
   (aj.l2 m_ (0, (IntKind.i64.wrap ((m13.length : Int).tdiv 4)), m12, n1, 4, m13, m14, m15, m16, m17, m18, m19, m20, m21, m22, m23, m13, ([] : List (List Int)), m24, ())).bind fun (nk, tu, n2, tC, vF, rP, wU, Ig, LQ, m32, Gu, LU, Oe, LV, Og, P9, ()) =>
   (aj.l4 m_ (nk, 1, nk, tu, n2, tC, vF, rP, wU, Ig, LQ, m32, Gu, LU, Oe, LV, Og, P9, ())).bind fun (P_, n3, Qa, Qb, Oh, Rh, Oi, Oj, Ri, VT, VU, VW, VX, VY, X9, ()) =>
   (aj.l5 m_ (0, P_, n3, 4, Qa, Qb, Oh, Rh, Oi, Oj, Ri, VT, VU, VW, VX, VY, X9, ())).bind fun (X_, n4, Ya, Y7, WT, WU, Y8, m59, m60, m61, m62, m63, m64, m65, ()) =>
   (iP.run m_ (X_, ())).bind fun r =>
   bif !(decide ((IntKind.i32.wrap (WT + (-1))) = 0)) then
    none
   else
    some (n4, m61, m62, Ya, r, (IntKind.i32.wrap (WT + (-1))), WU, Y8, m59, m60, m63, m64, m65, ()) else none
  else
   bif !(decide ((IntKind.i32.wrap ((bif decide (m2 = 0) then 1 else m2) + (-1))) = 0)) then
    none
   else
    some (n, m7, m8, m, m1, (IntKind.i32.wrap ((bif decide (m2 = 0) then 1 else m2) + (-1))), m3, m4, m5, m6, m9, m10, m11, ()) else none
 else
  some (n, m7, m8, m, m1, m2, m3, m4, m5, m6, m9, m10, m11, ())
theorem k6 (m_ : ah) : KQ 132 (O m_) [136, 137, 140, 141, 142, 143, 144, 145, 148, 149, 150, 151, 154, 155, 158, 159, 160, 162, 170, 171] e6 x6 [s1 m_, s2 m_, s4 m_, s5 m_] (b6 m_) := fun _ _ => by kernel_rfl
def l6 (m_ : ah) : A6 -> Option B6 := loop m_ (b6 m_)
theorem q6 (v) : l6 .lim v = b6 .lim (l6 .lim) v := KS.q (k6 .lim) v
def s6 (m_ : ah) : SO P 132 := so m_ (k6 m_)
def f23 : bY := fs 141 [.q 28, .z 28, .b 0] [(0, .ptr 0 0), (3, .ptr 1 0), (5, .w)]
def f24 : bY := fs 132 [.v 8132 [2,3,4], .q 8133, .b 1, .z 1016, .b 0, .q 255] [(2, .w), (8, .ptr 4 0), (10, .ptr 5 0), (11, .oy 6)]
def e7 : Spec := ⟨[f23, fs 137 [.v 14 [6], .q 15] [(2, .ptr 2 0), (3, .ptr 0 0), (4, .ptr 3 0)], f24], [(0, o2), (1, o2), (2, .c [.ptr 4 0]), (3, o2), (4, o7), (5, o2), (6, .d [.ry]), (7, o3)], 8⟩
def x7 : List Spec := [⟨[fs 141 [] [], fs 137 [.v 14 [6], .q 15] [(2, .ptr 0 0), (3, .ptr 1 0), (4, .ptr 2 0)], f22], [(0, .c [.ptr 3 0]), (1, o2), (2, o2), (3, X8), (4, o2), (5, .d [.ry]), (6, o3)], 7⟩]
abbrev A7 : Type := Int × Int × LI × LI × LI × LI × Int × Int × Int × LI × LI × LL × LI × LI × LL × Unit
abbrev B7 : Type := (Int × LI × LI × LI × Int × Int × Int × LI × LI × LL × LI × LI × LL × Unit)
def b7 (m_ : ah) (self : A7 -> Option B7) : A7 -> Option B7 := fun v_ => match v_ with
| (t, n, m, m1, m2, m3, m4, m5, m6, m7, m8, m9, m10, m11, m12, ()) =>
 bif decide (t < 16) then
  bif inB t 16 then
  bif inB t 16 then
  bif inB t 16 then
  self ((IntKind.i64.wrap (t + 1)), n, (m.set t.toNat (dP .u8 (rd 0 m t) (rd 0 m1 t))), m1, m2, m3, m4, m5, m6, m7, m8, m9, m10, m11, m12, ()) else none else none else none
 else
  some (n, m, m2, m3, m4, m5, m6, m7, m8, m9, m10, m11, m12, ())
theorem k7 (m_ : ah) : KQ 132 (O m_) [136, 137, 140, 141, 142, 143, 144, 145, 148, 149, 150, 151, 154, 155, 158, 159, 160, 162, 170, 171] e7 x7 [] (b7 m_) := fun _ _ => by kernel_rfl
def l7 (m_ : ah) : A7 -> Option B7 := loop m_ (b7 m_)
theorem q7 (v) : l7 .lim v = b7 .lim (l7 .lim) v := KS.q (k7 .lim) v
def s7 (m_ : ah) : SO P 132 := so m_ (k7 m_)
def f25 : bY := fs 152 [.v 818 [10,11], .q 819, .b 1, .q 103, .z 12, .b 0] [(0, .fn (.yield 4) []), (1, .ptr 5 0), (9, .slc 6 0 none vw), (10, .w), (11, .w)]
def f26 : bY := ⟨137, [.inRange 4, .b 0, .q 31], [(3, .ptr 0 0), (4, .ptr 7 0)], none, [.mark 8], false⟩
def o27 : bV := .loop .busy none 137 [(2, .ptr 2 0), (3, .ptr 0 0)] [18, 19] (y7 122) 8
def f28 : bY := fs 152 [.v 818 [10,11], .q 819, .b 1, .q 103, .z 12, .b 0] [(0, .fn (.yield 3) []), (1, .ptr 4 0), (9, .slc 5 0 none vw), (10, .w), (11, .w)]
def f29 : bY := ⟨137, [.inRange 3, .b 0, .q 31], [(3, .ptr 1 0), (4, .ptr 6 0)], none, [.mark 7], false⟩
def f30 : bY := fs 132 [.v 8132 [2,3,4], .q 8133, .b 1, .z 1016, .b 0, .q 255] [(2, .w), (8, .ptr 8 0), (10, .ptr 9 0), (11, .oy 10)]
def o31 : bV := .loop .busy none 137 [(2, .ptr 0 0), (3, .ptr 1 0)] [18, 19] (y7 122) 7
def o32 : bV := .c [.s, .dat (.int .u32), .dat (.int .i32), .dat (.int .u32), .dat uq, .dat uq, .dat uw, .own 5 vw]
def e8 : Spec := ⟨[fs 143 [.q 12, .z 12, .b 0] [(0, .ptr 0 0), (1, .ptr 1 4), (6, .ptr 0 0), (7, .w)], ⟨137, [.v 980 [3], .q 981, .b 1], [(2, .ptr 2 0), (3, .ptr 0 0), (5, .ptr 3 0), (6, .b)], some 4, [], false⟩, f25, f26, fs 132 [.v 8132 [2,3,4], .q 8133, .b 1, .z 1016, .b 0, .q 255] [(2, .w), (8, .ptr 1 0), (10, .ptr 9 0), (11, .oy 10)]], [(0, o2), (1, X8), (2, .c [.ptr 1 0]), (3, o2), (4, o27), (5, .c [.ptr 1 0]), (6, o3), (7, o2), (8, .deferred false), (9, o2), (10, .d [.ry])], 11⟩
def x8 : List Spec := [⟨[fs 143 [] [], ⟨137, [.v 980 [3], .q 981, .b 1], [(2, .ptr 0 0), (3, .ptr 1 0), (5, .ptr 2 0), (6, .b)], some 3, [], false⟩, f28, f29, f30], [(0, .c [.ptr 8 0]), (1, o2), (2, o2), (3, o31), (4, .c [.ptr 8 0]), (5, o3), (6, o2), (7, .deferred false), (8, o32), (9, o2), (10, .d [.ry])], 11⟩]
abbrev A8 : Type := Int × Bool × Int × Int × Int × Int × Int × LI × LI × Int × Int × Int × LI × LI × LL × LI × LL × LI × LI × LI × Unit
abbrev B8 : Type := (Bool × Int × Int × Int × Int × Int × LI × LI × LL × LI × LI × Int × Int × Int × LI × LI × LL × LI × LI × Unit)
def b8 (m_ : ah) (self : A8 -> Option B8) : A8 -> Option B8 := fun v_ => match v_ with
| (t, last, tp, tq, t1, t2, n, m, m1, m2, m3, m4, m5, m6, m7, m8, m9, m10, m11, m12, ()) =>
 bif decide (t < 16) then
  bif inB t 16 then
  bif inB (rd 0 m t) 256 then
  bif inB t 16 then
  self ((IntKind.i64.wrap (t + 1)), last, tp, tq, t1, t2, n, (m.set t.toNat (rd 0 m5 (rd 0 m t))), m1, m2, m3, m4, m5, m6, m7, m8, m9, m10, m11, m12, ()) else none else none else none
 else
  some (last, tp, tq, t1, t2, n, m, m8, m9, m10, m1, m2, m3, m4, m5, m6, m7, m11, m12, ())
theorem k8 (m_ : ah) : KQ 132 (O m_) [136, 137, 140, 141, 142, 143, 144, 145, 148, 149, 150, 151, 154, 155, 158, 159, 160, 162, 170, 171] e8 x8 [] (b8 m_) := fun _ _ => by kernel_rfl
def l8 (m_ : ah) : A8 -> Option B8 := loop m_ (b8 m_)
theorem q8 (v) : l8 .lim v = b8 .lim (l8 .lim) v := KS.q (k8 .lim) v
def s8 (m_ : ah) : SO P 132 := so m_ (k8 m_)
def e9 : Spec := ⟨[fs 144 [.q 28, .z 28, .b 0] [(0, .ptr 0 0), (1, .w), (4, .ptr 1 0), (9, .w)], ⟨137, [.v 1962 [0], .q 1963, .b 1], [(2, .ptr 2 0), (3, .ptr 0 0), (5, .ptr 3 0), (6, .b)], some 4, [], false⟩, f25, f26, fs 132 [.v 8132 [2,3,4], .q 8133, .b 1, .z 1016, .b 0, .q 255] [(2, .w), (8, .ptr 9 0), (10, .ptr 10 0), (11, .oy 11)]], [(0, o2), (1, o2), (2, .c [.ptr 9 0]), (3, o2), (4, o27), (5, .c [.ptr 9 0]), (6, o3), (7, o2), (8, .deferred false), (9, X8), (10, o2), (11, .d [.ry])], 12⟩
def x9 : List Spec := [⟨[fs 144 [] [], ⟨137, [.v 1962 [0], .q 1963, .b 1], [(2, .ptr 0 0), (3, .ptr 1 0), (5, .ptr 2 0), (6, .b)], some 3, [], false⟩, f28, f29, f30], [(0, .c [.ptr 8 0]), (1, o2), (2, o2), (3, o31), (4, .c [.ptr 8 0]), (5, o3), (6, o2), (7, .deferred false), (8, o32), (9, o2), (10, .d [.ry])], 11⟩]
abbrev A9 : Type := Int × Int × Bool × Int × Int × Int × Int × Int × LI × LI × LI × LL × LI × LI × Int × Int × Int × LI × LI × LL × LI × LI × Unit
abbrev B9 : Type := (Bool × Int × Int × Int × Int × Int × LI × LI × LL × LI × LI × Int × Int × Int × LI × LI × LL × LI × LI × Unit)
def b9 (m_ : ah) (self : A9 -> Option B9) : A9 -> Option B9 := fun v_ => match v_ with
| (YX, t, last, tp, tq, t1, t2, n, m, m1, m2, m3, m4, m5, m6, m7, m8, m9, m10, m11, m12, m13, ()) =>
 bif decide (t < 16) then
  bif inB ((IntKind.i64.wrap ((IntKind.i64.wrap (t + (IntKind.i64.wrap (YX * (t.tmod 4))))) + 64)).tmod 16) 16 then
  bif inB t 16 then
  self (YX, (IntKind.i64.wrap (t + 1)), last, tp, tq, t1, t2, n, (m.set t.toNat (rd 0 m1 ((IntKind.i64.wrap ((IntKind.i64.wrap (t + (IntKind.i64.wrap (YX * (t.tmod 4))))) + 64)).tmod 16))), m1, m2, m3, m4, m5, m6, m7, m8, m9, m10, m11, m12, m13, ()) else none else none
 else
  some (last, tp, tq, t1, t2, n, m, m2, m3, m4, m5, m6, m7, m8, m9, m10, m11, m12, m13, ())
theorem k9 (m_ : ah) : KQ 132 (O m_) [136, 137, 140, 141, 142, 143, 144, 145, 148, 149, 150, 151, 154, 155, 158, 159, 160, 162, 170, 171] e9 x9 [] (b9 m_) := fun _ _ => by kernel_rfl
def l9 (m_ : ah) : A9 -> Option B9 := loop m_ (b9 m_)
theorem q9 (v) : l9 .lim v = b9 .lim (l9 .lim) v := KS.q (k9 .lim) v
def s9 (m_ : ah) : SO P 132 := so m_ (k9 m_)
def f33 : bY := ⟨137, [.v 15706 [2], .q 3927, .b 1], [(3, .ptr 1 0), (5, .ptr 4 0)], some 5, [], false⟩
def f34 : bY := fs 152 [.v 818 [10,11], .q 819, .b 1, .q 103, .z 12, .b 0] [(0, .fn (.yield 5) []), (1, .ptr 6 0), (9, .slc 7 0 none vw), (10, .w), (11, .w)]
def f35 : bY := ⟨137, [.inRange 5, .b 0, .q 31], [(3, .ptr 1 0), (4, .ptr 8 0)], none, [.mark 9], false⟩
def f36 : bY := fs 132 [.v 8132 [2,3,4], .q 8133, .b 1, .z 1016, .b 0, .q 255] [(2, .w), (8, .ptr 0 0), (10, .ptr 10 0), (11, .oy 11)]
def o37 : bV := .loop .busy none 137 [(2, .ptr 12 0), (3, .ptr 1 0)] [18, 19] (y7 122) 9
def e10 : Spec := ⟨[fs 145 [.q 31132, .z 31132, .b 2, .b 1, .q 487, .z 60, .b 0] [(0, .ptr 0 0), (1, .ptr 1 0), (5, .ptr 2 0), (6, .ptr 3 0), (7, .w), (13, .w), (20, .dat MQ), (21, .w)], f33, f34, f35, f36], [(0, o7), (1, o2), (2, VQ), (3, o2), (4, o2), (5, o37), (6, .c [.ptr 0 0]), (7, o3), (8, o2), (9, .deferred false), (10, o2), (11, .d [.ry]), (12, .c [.ptr 0 0])], 13⟩
def x10 : List Spec := [⟨[fs 145 [.q 487, .z 60, .b 0] [(0, .ptr 0 0), (1, .ptr 1 0), (5, .ptr 2 0), (6, .ptr 3 0), (13, .w)], f33, f34, f35, f36], [(0, o7), (1, o2), (2, VQ), (3, o2), (4, o2), (5, o37), (6, .c [.ptr 0 0]), (7, o3), (8, o2), (9, .deferred false), (10, o2), (11, .d [.ry]), (12, .c [.ptr 0 0])], 13⟩]
abbrev YZ : Type := Int × Int × LI × Int × Int × Int × Int × Int × Int × LI × Int × Int × Int × LI × LI × LL × LI × LI × LI × LI × LL × LI × LI × LI × Unit
abbrev B10 : Type := (Int × Int × Int × Int × Int × Int × LI × Int × Int × Int × LI × LI × LL × LI × LI × LI × LI × LL × LI × LI × LI × Unit)
def b10 (m_ : ah) (self : YZ -> Option B10) : YZ -> Option B10 := fun v_ => match v_ with
| (i, t, t1, t2, tp, tq, t3, t4, n, m, m1, m2, m3, m4, m5, m6, m7, m8, m9, m10, m11, m12, m13, m14, ()) =>
 bif decide (t2 < 4) then
  bif inB t2 4 then
  bif inB i 16 then
  bif inB (IntKind.i64.wrap ((IntKind.i64.wrap ((IntKind.i64.wrap (i.tdiv 4)) * 4)) + ((IntKind.i64.wrap (i + t2)).tmod 4))) 16 then
  bif inB (rd 0 t1 t2) 16 then
  bif inB (rd 0 m9 (IntKind.i64.wrap ((IntKind.i64.wrap ((IntKind.i64.wrap (i.tdiv 4)) * 4)) + ((IntKind.i64.wrap (i + t2)).tmod 4)))) 256 then
  bif inB i 16 then
  self (i, t, t1, (IntKind.i64.wrap (t2 + 1)), tp, tq, t3, t4, n, m, m1, m2, m3, m4, m5, m6, (m7.set i.toNat (dP .u8 (rd 0 m7 i) (rd 0 (rd (List.replicate 256 (0 : Int) : List Int) m6 (rd 0 t1 t2)) (rd 0 m9 (IntKind.i64.wrap ((IntKind.i64.wrap ((IntKind.i64.wrap (i.tdiv 4)) * 4)) + ((IntKind.i64.wrap (i + t2)).tmod 4))))))), m8, m9, m10, m11, m12, m13, m14, ()) else none else none else none else none else none else none
 else
  some (t, tp, tq, t3, t4, n, m, m1, m2, m3, m4, m5, m6, m7, m8, m9, m10, m11, m12, m13, m14, ())
theorem k10 (m_ : ah) : KQ 132 (O m_) [136, 137, 140, 141, 142, 143, 144, 145, 148, 149, 150, 151, 154, 155, 158, 159, 160, 162, 170, 171] e10 x10 [] (b10 m_) := fun _ _ => by kernel_rfl
def l10 (m_ : ah) : YZ -> Option B10 := loop m_ (b10 m_)
theorem q10 (v) : l10 .lim v = b10 .lim (l10 .lim) v := KS.q (k10 .lim) v
def s10 (m_ : ah) : SO P 132 := so m_ (k10 m_)
def f38 : bY := fs 152 [.v 818 [10,11], .q 819, .b 1, .q 103, .z 12, .b 0] [(0, .fn (.yield 2) []), (1, .ptr 3 0), (9, .slc 4 0 none vw), (10, .w), (11, .w)]
def f39 : bY := ⟨137, [.inRange 2, .b 0, .q 31], [(3, .ptr 0 0), (4, .ptr 5 0)], none, [.mark 6], false⟩
def f40 : bY := fs 132 [.v 8132 [2,3,4], .q 8133, .b 1, .z 1016, .b 0, .q 255] [(2, .w), (8, .ptr 7 0), (10, .ptr 8 0), (11, .oy 9)]
def o41 : bV := .loop .busy none 137 [(2, .ptr 10 0), (3, .ptr 0 0)] [18, 19] (y7 122) 6
def o42 : bV := .c [.s, .dat (.int .u32), .dat (.int .i32), .dat (.int .u32), .dat uq, .dat uq, .dat uw, .own 4 vw]
def e11 : Spec := ⟨[fs 145 [.q 60, .z 60, .b 0] [(0, .ptr 0 0), (1, .ptr 1 0), (5, .ptr 2 0), (6, .ptr 3 0), (13, .w)], f33, f34, f35, f36], [(0, o7), (1, o2), (2, VQ), (3, o2), (4, o2), (5, o37), (6, .c [.ptr 0 0]), (7, o3), (8, o2), (9, .deferred false), (10, o2), (11, .d [.ry]), (12, .c [.ptr 0 0])], 13⟩
def x11 : List Spec := [⟨[fs 145 [] [], ⟨137, [.v 15706 [2], .q 3927, .b 1], [(3, .ptr 0 0), (5, .ptr 1 0)], some 2, [], false⟩, f38, f39, f40], [(0, o2), (1, o2), (2, o41), (3, .c [.ptr 7 0]), (4, o3), (5, o2), (6, .deferred false), (7, o42), (8, o2), (9, .d [.ry]), (10, .c [.ptr 7 0])], 11⟩]
abbrev Y0 : Type := Int × Int × Int × Int × Int × Int × LI × Int × Int × Int × LI × LI × LL × LI × LI × LI × LI × LL × LI × LI × LI × Unit
abbrev B11 : Type := (Int × Int × Int × Int × Int × LI × LI × LL × LI × LI × Int × Int × Int × LI × LI × LL × LI × LI × Unit)
def b11 (m_ : ah) (self : Y0 -> Option B11) : Y0 -> Option B11 := fun v_ => match v_ with
| (t, tp, tq, t1, t2, n, m, m1, m2, m3, m4, m5, m6, m7, m8, m9, m10, m11, m12, m13, m14, ()) =>
 bif decide (t < 16) then
  bif inB t 16 then
  (aj.l10 m_ (t, t, m8, 0, tp, tq, t1, t2, n, m, m1, m2, m3, m4, m5, m6, (m7.set t.toNat 0), m8, m9, m10, m11, m12, m13, m14, ())).bind fun (t3, Y1, Y2, t4, t5, n1, m15, m16, m17, m18, m19, m20, m21, m22, m23, m24, tu, tC, vF, rP, wU, ()) =>
  self ((IntKind.i64.wrap (t3 + 1)), Y1, Y2, t4, t5, n1, m15, m16, m17, m18, m19, m20, m21, m22, m23, m24, tu, tC, vF, rP, wU, ()) else none
 else
  some (tp, tq, t1, t2, n, m7, m10, m11, m12, m, m1, m2, m3, m4, m5, m6, m13, m14, ())
theorem k11 (m_ : ah) : KQ 132 (O m_) [136, 137, 140, 141, 142, 143, 144, 145, 148, 149, 150, 151, 154, 155, 158, 159, 160, 162, 170, 171] e11 x11 [s10 m_] (b11 m_) := fun _ _ => by kernel_rfl
def Ug (m_ : ah) : Y0 -> Option B11 := loop m_ (b11 m_)
theorem q11 (v) : Ug .lim v = b11 .lim (Ug .lim) v := KS.q (k11 .lim) v
def s11 (m_ : ah) : SO P 132 := so m_ (k11 m_)
def f43 : bY := ⟨137, [.inRange 0, .b 0, .q 31], [(3, .ptr 3 0), (4, .ptr 4 0)], none, [.mark 5], false⟩
def f44 : bY := fs 132 [.v 8132 [2,3,4], .q 8133, .b 1, .z 1016, .b 0, .q 255] [(2, .w), (8, .ptr 6 0), (10, .ptr 7 0), (11, .oy 8)]
def o45 : bV := .c [.s, .dat (.int .u32), .dat (.int .i32), .dat (.int .u32), .dat uq, .dat uq, .dat uw, .own 2 vw]
def e12 : Spec := ⟨[f23, ⟨137, [.v 3927 [1], .b 1], [], some 2, [], false⟩, f38, f39, f40], [(0, o2), (1, o2), (2, o41), (3, .c [.ptr 7 0]), (4, o3), (5, o2), (6, .deferred false), (7, o42), (8, o2), (9, .d [.ry]), (10, .c [.ptr 7 0])], 11⟩
def x12 : List Spec := [⟨[fs 141 [] [], ⟨137, [.v 3927 [1], .b 1], [], some 0, [], false⟩, fs 152 [.v 818 [10,11], .q 819, .b 1, .q 103, .z 12, .b 0] [(0, .fn (.yield 0) []), (1, .ptr 1 0), (9, .slc 2 0 none vw), (10, .w), (11, .w)], f43, f44], [(0, .loop .busy none 137 [(2, .ptr 9 0), (3, .ptr 3 0)] [18, 19] (y7 122) 5), (1, .c [.ptr 6 0]), (2, o3), (3, o2), (4, o2), (5, .deferred false), (6, o45), (7, o2), (8, .d [.ry]), (9, .c [.ptr 6 0])], 10⟩]
abbrev Y3 : Type := Int × Int × Int × Int × Int × Int × LI × LI × LL × LI × LI × Int × Int × Int × LI × LI × LL × LI × LI × Unit
abbrev Y4 : Type := (Int × Int × Int × Int × Int × LL × LI × LI × LI × Int × Int × Int × LI × LI × LL × LI × LI × Unit)
def b12 (m_ : ah) (self : Y3 -> Option Y4) : Y3 -> Option Y4 := fun v_ => match v_ with
| (t, tp, tq, t1, t2, n, m, m1, m2, m3, m4, m5, m6, m7, m8, m9, m10, m11, m12, ()) =>
 bif decide (t < 16) then
  bif inB t 16 then
  bif inB t 16 then
  bif inB t 16 then
  self ((IntKind.i64.wrap (t + 1)), tp, tq, t1, t2, n, (m.set t.toNat (dP .u8 (rd 0 m t) (rd 0 m1 t))), m1, m2, m3, m4, m5, m6, m7, m8, m9, m10, m11, m12, ()) else none else none else none
 else
  some (tp, tq, t1, t2, n, m2, m, m3, m4, m5, m6, m7, m8, m9, m10, m11, m12, ())
theorem k12 (m_ : ah) : KQ 132 (O m_) [136, 137, 140, 141, 142, 143, 144, 145, 148, 149, 150, 151, 154, 155, 158, 159, 160, 162, 170, 171] e12 x12 [] (b12 m_) := fun _ _ => by kernel_rfl
def l12 (m_ : ah) : Y3 -> Option Y4 := loop m_ (b12 m_)
theorem q12 (v) : l12 .lim v = b12 .lim (l12 .lim) v := KS.q (k12 .lim) v
def s12 (m_ : ah) : SO P 132 := so m_ (k12 m_)
def e13 : Spec := ⟨[fs 152 [.q 12, .z 12, .b 0] [(0, .fn (.yield 0) []), (1, .ptr 1 0), (9, .slc 2 0 none vw), (10, .w), (11, .w)], f43, f44], [(0, .loop .ready none 137 [(2, .ptr 9 0), (3, .ptr 3 0)] [18, 19] (y7 122) 5), (1, .c [.ptr 6 0]), (2, o3), (3, o2), (4, o2), (5, .deferred false), (6, o45), (7, o2), (8, .d [.ry]), (9, .c [.ptr 6 0])], 10⟩
def x13 : List Spec := [⟨[fs 152 [] [], ⟨137, [.inRange 2, .b 0, .q 31], [(3, .ptr 0 0), (4, .ptr 1 0)], none, [.mark 3], false⟩, f24], [(0, o2), (1, o2), (2, .loop .ready none 137 [(2, .ptr 7 0), (3, .ptr 0 0)] [18, 19] (y7 122) 3), (3, .deferred false), (4, o1), (5, o2), (6, .d [.ry]), (7, .c [.ptr 4 0]), (8, o3)], 9⟩]
abbrev Y5 : Type := Int × Int × Int × Int × Int × LL × LI × LI × LI × Int × Int × Int × LI × LI × LL × LI × LI × Unit
abbrev Y6 : Type := (Int × LI × LI × LI × Int × Int × Int × LI × LI × LL × LI × LI × LL × Unit)
def b13 (m_ : ah) (self : Y5 -> Option Y6) : Y5 -> Option Y6 := fun v_ => match v_ with
| (tp, tq, t, t1, n, m, m1, m2, m3, m4, m5, m6, m7, m8, m9, m10, m11, ()) =>
 bif decide (t1 < t) then
  bif inB t1 tq then
  bif aB (m.length : Int) then
  (aj.l8 m_ (0, decide (t1 = (IntKind.i64.wrap ((m.length : Int) - 2))), tp, tq, t, t1, n, m1, m3, m4, m5, m6, m7, m8, m9, (rd (List.replicate 16 (0 : Int) : List Int) m (tp + t1)), m, m2, m10, m11, ())).bind fun (last, Y1, Y2, t2, t3, n1, m12, m13, m14, m15, m16, m17, m18, m19, m20, m21, m22, m23, m24, ()) =>
  (aj.l9 m_ (4, 0, last, Y1, Y2, t2, t3, n1, m12, m12, m13, m14, m15, m16, m17, m18, m19, m20, m21, m22, m23, m24, ())).bind fun (Uh, tp2, tq2, t4, t5, n2, tu, tC, vF, rP, wU, Ig, LQ, m32, Gu, LU, Oe, LV, Og, ()) =>
  bif !Uh then
   (aj.Ug m_ (0, tp2, tq2, t4, t5, n2, wU, Ig, LQ, m32, Gu, LU, Oe, tu, (((((List.replicate 4 (0 : Int) : List Int).set 0 2).set 1 3).set 2 1).set 3 1), tu, tC, vF, rP, LV, Og, ())).bind fun (tp3, tq3, t6, t7, n3, P9, P_, Qa, Qb, Oh, Rh, Oi, Oj, Ri, VT, VU, VW, VX, ()) =>
   (aj.l12 m_ (0, tp3, tq3, t6, t7, n3, P9, P_, Qa, Qb, Oh, Rh, Oi, Oj, Ri, VT, VU, VW, VX, ())).bind fun (tp4, tq4, t8, t9, n4, VY, X9, X_, Ya, Y7, WT, WU, Y8, m59, m60, m61, m62, ()) =>
   self (tp4, tq4, t8, (IntKind.i64.wrap (t9 + 1)), n4, VY, X9, X_, Ya, Y7, WT, WU, Y8, m59, m60, m61, m62, ())
  else
   (aj.l12 m_ (0, tp2, tq2, t4, t5, n2, tu, tC, vF, rP, wU, Ig, LQ, m32, Gu, LU, Oe, LV, Og, ())).bind fun (tp5, tq5, t10, t11, n5, m63, m64, m65, m66, m67, m68, m69, m70, m71, m72, m73, m74, ()) =>
   self (tp5, tq5, t10, (IntKind.i64.wrap (t11 + 1)), n5, m63, m64, m65, m66, m67, m68, m69, m70, m71, m72, m73, m74, ()) else none else none
 else
  some (n, m1, m2, m3, m4, m5, m6, m7, m8, m9, m10, m11, m, ())
theorem k13 (m_ : ah) : KQ 132 (O m_) [136, 137, 140, 141, 142, 143, 144, 145, 148, 149, 150, 151, 154, 155, 158, 159, 160, 162, 170, 171] e13 x13 [s8 m_, s9 m_, s11 m_, s12 m_] (b13 m_) := fun _ _ => by kernel_rfl
def Ol (m_ : ah) : Y5 -> Option Y6 := loop m_ (b13 m_)
theorem q13 (v) : Ol .lim v = b13 .lim (Ol .lim) v := KS.q (k13 .lim) v
def s13 (m_ : ah) : SO P 132 := so m_ (k13 m_)
def o46 : bV := .c [.s, .dat (.int .u32), .dat (.int .i32), .dat (.int .u32), .dat uq, .dat uq, .dat uw, .own 3 vw]
def e14 : Spec := ⟨[fs 137 [.q 1] [(0, .ptr 0 0), (1, .dat vw)], fs 132 [.v 8132 [2,3,4], .q 8133, .b 1, .z 1016, .b 0, .q 255] [(2, .w), (8, .ptr 0 0), (10, .ptr 1 0), (11, .oy 2)]], [(0, o46), (1, o2), (2, .d [.ry]), (3, o3)], 4⟩
def x14 : List Spec := [⟨[⟨137, [.q 63], [(4, .ptr 0 0)], none, [.mark 1], false⟩, fs 132 [.v 8132 [2,3,4], .q 8133, .b 1, .z 1016, .b 0, .q 255] [(2, .w), (8, .ptr 2 0), (10, .ptr 3 0), (11, .oy 4)]], [(0, o2), (1, .deferred false), (2, o32), (3, o2), (4, .d [.ry]), (5, o3)], 6⟩]
abbrev Y9 : Type := LI × Int × LI × Int × Int × Int × LI × LI × LL × LI × LI × LL × Unit
abbrev Y_ : Type := (Int × LI × LI × Int × Int × Int × LI × LI × LL × LI × LI × LL × Unit)
def b14 (m_ : ah) (self : Y9 -> Option Y_) : Y9 -> Option Y_ := fun v_ => match v_ with
| (b, n, m, m1, m2, m3, m4, m5, m6, m7, m8, m9, ()) =>
 (aj.l6 m_ (n, m, m1, m2, m3, m4, m5, m6, b, (List.replicate 16 (0 : Int)), m7, m8, m9, ())).bind fun (n1, m10, m11, m12, m13, m14, m15, m16, m17, m18, m19, m20, m21, ()) =>
 bif inB 0 (m21.length : Int) then
 (aj.l7 m_ (0, n1, m10, (rd (List.replicate 16 (0 : Int) : List Int) m21 0), m11, m12, m13, m14, m15, m16, m17, m18, m19, m20, m21, ())).bind fun (n2, m22, m23, m24, tu, tC, vF, rP, wU, Ig, LQ, m32, Gu, ()) =>
 bif dG 1 (Gu.length : Int) (Gu.length : Int) then
 bif aB ((Gu.length : Int) - 1) then
 (aj.Ol m_ (1, ((Gu.length : Int) - 1), ((Gu.length : Int) - 1), 0, n2, Gu, m22, m23, m24, tu, tC, vF, rP, wU, Ig, LQ, m32, ())).bind fun (n3, LU, Oe, LV, Og, P9, P_, Qa, Qb, Oh, Rh, Oi, Oj, ()) =>
 some (n3, LU, LV, Og, P9, P_, Qa, Qb, Oh, Rh, Oi, Oj, ()) else none else none else none
theorem k14 (m_ : ah) : KQ 132 (O m_) [136, 137, 140, 141, 142, 143, 144, 145, 148, 149, 150, 151, 154, 155, 158, 159, 160, 162, 170, 171] e14 x14 [s6 m_, s7 m_, s13 m_] (b14 m_) := fun _ _ => by kernel_rfl
def LW (m_ : ah) : Y9 -> Option Y_ := loop m_ (b14 m_)
theorem q14 (v) : LW .lim v = b14 .lim (LW .lim) v := KS.q (k14 .lim) v
def s14 (m_ : ah) : SO P 132 := so m_ (k14 m_)
def e15 : Spec := ⟨[fs 132 [.q 130140, .z 130140, .b 2, .b 1, .z 1016, .b 0, .q 255] [(2, .w), (8, .ptr 0 0), (10, .ptr 1 0), (11, .oy 2), (13, .w)]], [(0, o46), (1, o2), (2, .d [.ry]), (3, o3)], 4⟩
def x15 : List Spec := [⟨[fs 132 [.q 1016, .z 1016, .b 0, .q 255] [(2, .w), (8, .ptr 0 0), (10, .ptr 1 0), (11, .oy 2)]], [(0, o46), (1, o2), (2, .d [.ry]), (3, o3)], 4⟩]
abbrev A15 : Type := Int × Int × LI × Int × Int × Int × LI × LI × LL × LI × LI × LL × Unit
abbrev B15 : Type := (Int × LI × Int × Int × Int × LI × LI × LL × LI × LI × LL × Unit)
def b15 (m_ : ah) (self : A15 -> Option B15) : A15 -> Option B15 := fun v_ => match v_ with
| (n, i, m, m1, m2, m3, m4, m5, m6, m7, m8, m9, ()) =>
 bif decide (i >= 0) then
  bif inB i 16 then
  bif inB i 16 then
  bif inB i 16 then
  bif !(decide ((rd 0 (m7.set i.toNat (IntKind.u8.wrap ((rd 0 m7 i) + 1))) i) = 0)) then
   some (n, m, m1, m2, m3, m4, m5, m6, (m7.set i.toNat (IntKind.u8.wrap ((rd 0 m7 i) + 1))), m8, m9, ())
  else
   self (n, (IntKind.i64.wrap (i - 1)), m, m1, m2, m3, m4, m5, m6, (m7.set i.toNat (IntKind.u8.wrap ((rd 0 m7 i) + 1))), m8, m9, ()) else none else none else none
 else
  some (n, m, m1, m2, m3, m4, m5, m6, m7, m8, m9, ())
theorem k15 (m_ : ah) : KQ 132 (O m_) [136, 137, 140, 141, 142, 143, 144, 145, 148, 149, 150, 151, 154, 155, 158, 159, 160, 162, 170, 171] e15 x15 [] (b15 m_) := fun _ _ => by kernel_rfl
def l15 (m_ : ah) : A15 -> Option B15 := loop m_ (b15 m_)
theorem q15 (v) : l15 .lim v = b15 .lim (l15 .lim) v := KS.q (k15 .lim) v
def s15 (m_ : ah) : SO P 132 := so m_ (k15 m_)
def e16 : Spec := ⟨[fs 132 [.q 1016, .z 1016, .b 0, .q 255] [(2, .w), (8, .ptr 0 0), (10, .ptr 1 0), (11, .oy 5005)]], [(0, .c [.s, .dat (.int .u32), .dat (.int .i32), .dat (.int .u32), .dat uq, .dat uq, .dat uw, .own 5006 vw]), (1, o2), (5005, .d [.ry]), (5006, o3)], 5007⟩
def x16 : List Spec := [⟨[fs 132 [.q 255] [(2, .w), (11, .oy 0)]], [(0, .d [.ry])], 1⟩]
abbrev A16 : Type := Int × LI × Int × Int × Int × LI × LI × LL × LI × LI × LL × Unit
abbrev B16 : Type := (Int × LI × Unit)
def b16 (m_ : ah) (self : A16 -> Option B16) : A16 -> Option B16 := fun v_ => match v_ with
| (n, m, m1, m2, m3, m4, m5, m6, m7, m8, m9, ()) =>
 bif aB (m8.length : Int) then
 bif decide ((m8.length : Int) < n) then
  (aj.LW m_ (m7, n, m, m1, m2, m3, m4, m5, m6, m7, m8, m9, ())).bind fun (n1, m10, m11, m12, m13, m14, m15, m16, m17, m18, m19, m20, ()) =>
  bif decide (m19.length + ((m10.drop 0).take 16).length < 70368744177664) then
  (aj.l15 m_ (n1, 15, m11, m12, m13, m14, m15, m16, m17, m18, (m19 ++ ((m10.drop 0).take 16)), m20, ())).bind fun (n2, m21, m22, m23, m24, tu, tC, vF, rP, wU, Ig, ()) =>
  self (n2, m21, m22, m23, m24, tu, tC, vF, rP, wU, Ig, ()) else none
 else
  some (n, m8, ()) else none
theorem k16 (m_ : ah) : KQ 132 (O m_) [136, 137, 140, 141, 142, 143, 144, 145, 148, 149, 150, 151, 154, 155, 158, 159, 160, 162, 170, 171] e16 x16 [s14 m_, s15 m_] (b16 m_) := fun _ _ => by kernel_rfl
def Yb (m_ : ah) : A16 -> Option B16 := loop m_ (b16 m_)
theorem q16 (v) : Yb .lim v = b16 .lim (Yb .lim) v := KS.q (k16 .lim) v
def s16 (m_ : ah) : SO P 132 := so m_ (k16 m_)
def run (m_ : ah) : (List Int) × (List Int) × Int × Unit -> Option ((List Int) × Int × Unit) := fun v_ => match v_ with
| (key, first, n, ()) =>
 bif ((decide (n < 0)) || (decide (n > 65536))) then
  some (([] : List Int), 13, ())
 else
  bif aB (key.length : Int) then
  bif ((!(!(decide ((key.length : Int) = 16)))) || (aB (key.length : Int))) then
  bif ((!(decide ((key.length : Int) = 16))) && (!(decide ((key.length : Int) = 32)))) then
   some (([] : List Int), 13, ())
  else
   bif aB (first.length : Int) then
   bif !(decide ((first.length : Int) = 16)) then
    some (([] : List Int), 10, ())
   else
    bif (Nat.ble 1 16 && Nat.ble 16 first.length) then
    (aj.Yb m_ (n, key, 0, 0, 0, (List.replicate 256 (0 : Int)), (List.replicate 256 (0 : Int)), (List.replicate 16 (List.replicate 256 (0 : Int) : List Int)), (first.take 16), ([] : List Int), ([] : List (List Int)), ())).bind fun (n1, m, ()) =>
    bif dG 0 n1 (m.length : Int) then
    some (((m.drop 0).take ((n1 - 0).toNat)), 0, ()) else none else none else none else none else none
theorem k (m_ : ah) : KT (O m_) [136, 137, 140, 141, 142, 143, 144, 145, 148, 149, 150, 151, 154, 155, 158, 159, 160, 162, 170, 171] ⟨132, [.one .str, .one .str, .one (.int .i64)], .jL [.sh (.one .str), .sh (.one (.int .i64))], run m_⟩ [s16 m_] := fun _ => by kernel_rfl
def c (m_ : ah) : CO P := co (k m_)
end aj

namespace lM
def O (m_ : ah) : OO P := gJ [gV.c m_, aj.c m_]
def run (m_ : ah) : (List Int) × (List Int) × (List Int) × Unit -> Option (List Int) := fun v_ => match v_ with
| (key, v, s, ()) =>
 bif inB 8 (v.length : Int) then
 bif inB 8 (v.length : Int) then
 bif inB 12 ((v.set 8 (gB .u8 (rd 0 v 8) 127)).length : Int) then
 bif inB 12 ((v.set 8 (gB .u8 (rd 0 v 8) 127)).length : Int) then
 bif aB (s.length : Int) then
 (aj.run m_ (key, ((v.set 8 (gB .u8 (rd 0 v 8) 127)).set 12 (gB .u8 (rd 0 (v.set 8 (gB .u8 (rd 0 v 8) 127)) 12) 127)), (s.length : Int), ())).bind fun (r, r1, ()) =>
 (gV.run m_ (s, r, ())).bind fun r2 =>
 some r2 else none else none else none else none else none
theorem k (m_ : ah) : KT (O m_) [] ⟨127, [.one .str, .one .str, .one .str], .one (.sh (.one .str)), run m_⟩ [] := fun _ => by kernel_rfl
def c (m_ : ah) : CO P := co (k m_)
end lM

namespace wV
def O (m_ : ah) : OO P := gJ [bn.c m_, lK.c m_, lM.c m_, eX.c m_]
def run (m_ : ah) : (List Int) × (List (List Int)) × (List Int) × Unit -> Option ((List Int) × Int × Unit) := fun v_ => match v_ with
| (key, ad, plain, ()) =>
 (lK.run m_ (key, ad, ())).bind fun (r, r1, r2, ()) =>
 bif !(decide (r2 = 0)) then
  some (([] : List Int), r2, ())
 else
  bif aB (plain.length : Int) then
  bif decide ((plain.length : Int) > 65536) then
   some (([] : List Int), 12, ())
  else
   (bn.run m_ (ad, ())).bind fun r3 =>
   bif decide (r3.length + ([plain] : List (List Int)).length < 4398046511104) then
   (eX.run m_ (r, (r3 ++ ([plain] : List (List Int))), ())).bind fun r4 =>
   (lM.run m_ (r1, r4, plain, ())).bind fun r5 =>
   bif decide (r4.length + r5.length <= maxStr) then
   some ((r4 ++ r5), 0, ()) else none else none else none
theorem k (m_ : ah) : KT (O m_) [] ⟨125, [.one .str, .one (.lst .str), .one .str], .jL [.sh (.one .str), .sh (.one (.int .i64))], run m_⟩ [] := fun _ => by kernel_rfl
def c (m_ : ah) : CO P := co (k m_)
end wV

namespace kQ
def O (m_ : ah) : OO P := gJ [wV.c m_]
def run (m_ : ah) : Unit × sD × Unit -> Option ((List Int) × Int × Unit) := fun v_ => match v_ with
| (a, k, ()) =>
 (wV.run m_ (k.1, k.2.1, k.2.2.1, ())).bind fun (r, r1, ()) =>
 some (r, r1, ())
theorem k (m_ : ah) : KT (O m_) [] ⟨123, [.ag .unit, .ag Gt], .jL [.sh (.one .str), .sh (.one (.int .i64))], run m_⟩ [] := fun _ => by kernel_rfl
def c (m_ : ah) : CO P := co (k m_)
end kQ

namespace iG
def O (m_ : ah) : OO P := gJ [jG.c m_, oG.c m_, bn.c m_, fZ.c m_, bW.c m_, kQ.c m_]
def o0 : bV := .c [.dat y8]
def o1 : bV := .c [.b, .dat y8]
def f2 : bY := fs 112 [.v 60 [5,6], .q 61, .q 31] [(0, .ptr 0 0), (3, .ptr 1 0)]
def f3 : bY := fs 55 [.v 14 [5,6,7,8,9,10], .q 15] [(4, .ptr 2 0), (8, .ptr 3 0), (11, .SC 126 (.ptr 0 0))]
def e0 : Spec := ⟨[fs 114 [.q 52, .z 52, .b 0, .q 7] [(0, .dat y8), (1, .fn (.func 117) [0]), (7, .w), (8, .w)], fs 112 [.v 60 [5,6], .q 61, .q 31] [(0, .ptr 1 0), (3, .ptr 0 0)], fs 55 [.v 14 [5,6,7,8,9,10], .q 15] [(4, .ptr 2 0), (8, .ptr 3 0), (11, .SC 126 (.ptr 1 0))]], [(0, .c [.s, .t, .s, .s]), (1, o0), (2, o1), (3, .c [.b, .pz])], 4⟩
def x0 : List Spec := [⟨[fs 114 [.q 13517, .b 1, .q 423, .z 52, .b 0, .q 7] [(4, .w)], f2, f3], [(0, o0), (1, .c [.s, .t, .s, .s]), (2, o1), (3, .c [.b, .pz])], 4⟩, ⟨[fs 114 [.q 7] [], f2, f3], [(0, o0), (1, .c [.s, .t, .s, .s]), (2, o1), (3, .c [.b, .pz])], 4⟩]
abbrev A0 : Type := (List (List Int × (List LI × (List Int × List Int)))) × Int × Int × LI × LL × LI × LI × (List (List Int × (List LI × (List Int × List Int)))) × Bool × (List (List Int × (List LI × (List Int × List Int)))) × Bool × Unit
abbrev B0 : Type := (Int × (List (List Int × (List LI × (List Int × List Int)))) × LI × LL × LI × LI × Bool × (List (List Int × (List LI × (List Int × List Int)))) × Bool × Unit) ⊕ ((List (List Int × (List LI × (List Int × List Int)))) × LI × LL × LI × LI × Bool × (List (List Int × (List LI × (List Int × List Int)))) × Bool × Unit)
def b0 (m_ : ah) (self : A0 -> Option B0) : A0 -> Option B0 := fun v_ => match v_ with
| (s, t, t1, m, m1, m2, m3, m4, m5, m6, m7, ()) =>
 bif decide (t1 < t) then
  bif inB t1 (s.length : Int) then
  (oG.run m_ ((rd fU s t1), (m, (m1, (m2, m3))), ())).bind fun r =>
  bif r then
   some (.inl (t1, m4, m, m1, m2, m3, m5, m6, m7, ()))
  else
   self (s, t, (IntKind.i64.wrap (t1 + 1)), m, m1, m2, m3, m4, m5, m6, m7, ()) else none
 else
  some (.inr (m4, m, m1, m2, m3, m5, m6, m7, ()))
theorem k0 (m_ : ah) : KQ 55 (O m_) [47, 68, 112, 114, 117] e0 x0 [] (b0 m_) := fun _ _ => by kernel_rfl
def l0 (m_ : ah) : A0 -> Option B0 := loop m_ (b0 m_)
theorem q0 (v) : l0 .lim v = b0 .lim (l0 .lim) v := KS.q (k0 .lim) v
def s0 (m_ : ah) : SO P 55 := so m_ (k0 m_)
def run (m_ : ah) : P8 × (List Int) × (List (List Int)) × (List Int) × Unit -> Option (P8 × (List Int) × Int × Unit) := fun v_ => match v_ with
| (v, key, ad, plain, ()) =>
 bif v.1 then
  (jG.run m_ ((key, (ad, (plain, ([] : List Int)))), ())).bind fun r =>
  bif !(decide (r = 0)) then
   bif !(decide (r = 0)) then
    some (v, ([] : List Int), r, ())
   else
    some ((true, v.2), ([] : List Int), 0, ())
  else
   bif aB (plain.length : Int) then
   bif decide ((plain.length : Int) > 65536) then
    some (v, ([] : List Int), 12, ())
   else
    bif aB (v.2.length : Int) then
    (iG.l0 m_ (v.2, (v.2.length : Int), 0, key, ad, plain, ([] : List Int), v.2, v.1, v.2, false, ())).bind fun g_ => match g_ with
    | .inl (t, m, m1, m2, m3, m4, m5, m6, m7, ()) =>
     bif decide (t >= 0) then
      bif inB t (m.length : Int) then
      some ((true, m), (((rd fU m t).2).2).2, 0, ()) else none
     else
      bif aB (m.length : Int) then
      bif decide ((m.length : Int) >= 2048) then
       some ((m5, m6), ([] : List Int), 18, ())
      else
       (bn.run m_ (m2, ())).bind fun r1 =>
       bif aB (m.length : Int) then
       (fZ.run m_ ((IntKind.i64.wrap ((m.length : Int) + 1)), m3, ())).bind fun r2 =>
       (bW.run m_ (m, ())).bind fun r3 =>
       bif decide (r3.length + ([(m1, (r1, (m3, r2)))] : List sD).length < 977343669134) then
       some ((true, (r3 ++ ([(m1, (r1, (m3, r2)))] : List sD))), r2, 0, ()) else none else none else none
    | .inr (m8, m9, m10, m11, m12, m13, m14, m15, ()) =>
     bif aB (m8.length : Int) then
     bif decide ((m8.length : Int) >= 2048) then
      some ((m13, m14), ([] : List Int), 18, ())
     else
      (bn.run m_ (m10, ())).bind fun r4 =>
      bif aB (m8.length : Int) then
      (fZ.run m_ ((IntKind.i64.wrap ((m8.length : Int) + 1)), m11, ())).bind fun r5 =>
      (bW.run m_ (m8, ())).bind fun r6 =>
      bif decide (r6.length + ([(m9, (r4, (m11, r5)))] : List sD).length < 977343669134) then
      some ((true, (r6 ++ ([(m9, (r4, (m11, r5)))] : List sD))), r5, 0, ()) else none else none else none else none else none
 else
  (kQ.run m_ ((), (key, (ad, (plain, ([] : List Int)))), ())).bind fun (r7, r8, ()) =>
  bif !(decide (r8 = 0)) then
   some (v, ([] : List Int), r8, ())
  else
   some ((false, ([] : List sD)), r7, 0, ())
theorem k (m_ : ah) : KT (O m_) [47, 68, 112, 114, 117] ⟨55, [.ag y9, .one .str, .one (.lst .str), .one .str], .jL [.sh (.ag y9), .sh (.one .str), .sh (.one (.int .i64))], run m_⟩ [s0 m_] := fun _ => by kernel_rfl
def c (m_ : ah) : CO P := co (k m_)
end iG

namespace Ai
def O (m_ : ah) : OO P := gJ []
def run (m_ : ah) : Int × Unit -> Option (List Int) := fun v_ => match v_ with
| (n, ()) =>
 some ([(IntKind.u8.wrap (jc .i64 n 8)), (IntKind.u8.wrap n)] : List Int)
theorem k (m_ : ah) : KT (O m_) [] ⟨56, [.one (.int .i64)], .one (.sh (.one .str)), run m_⟩ [] := fun _ => by kernel_rfl
def c (m_ : ah) : CO P := co (k m_)
end Ai

namespace lN
def O (m_ : ah) : OO P := gJ [strings_Repeat.c m_]
def run (m_ : ah) : (List Int) × Unit -> Option (List Int) := fun v_ => match v_ with
| (s, ()) =>
 bif aB (s.length : Int) then
 (strings_Repeat.run m_ (([0] : List Int), (gB .i64 (IntKind.i64.wrap (0 - (s.length : Int))) 3), ())).bind fun r =>
 bif decide (s.length + r.length <= maxStr) then
 some (s ++ r) else none else none
theorem k (m_ : ah) : KT (O m_) [] ⟨34, [.one .str], .one (.sh (.one .str)), run m_⟩ [] := fun _ => by kernel_rfl
def c (m_ : ah) : CO P := co (k m_)
end lN

namespace wW
def O (m_ : ah) : OO P := gJ [lN.c m_, fO.c m_, iG.c m_, Ai.c m_]
def run (m_ : ah) : P8 × (List Int) × (List Int) × (List Int) × (List (Int × List Int)) × Unit -> Option (P8 × (Int × List Int) × Int × Unit) := fun v_ => match v_ with
| (v, key, bC, ahead, inner, ()) =>
 bif aB (bC.length : Int) then
 bif !(decide ((bC.length : Int) = 16)) then
  some (v, (0, ([] : List Int)), 10, ())
 else
  bif aB (ahead.length : Int) then
  bif decide ((ahead.length : Int) > 1280) then
   some (v, (0, ([] : List Int)), 12, ())
  else
   (fO.run m_ (inner, ())).bind fun (r, r1, ()) =>
   bif !(decide (r1 = 0)) then
    some (v, (0, ([] : List Int)), r1, ())
   else
    (iG.run m_ (v, key, ([ahead, bC] : List (List Int)), r, ())).bind fun (r2, r3, r4, ()) =>
    bif !(decide (r4 = 0)) then
     some (v, (0, ([] : List Int)), r4, ())
    else
     (Ai.run m_ (16, ())).bind fun r5 =>
     bif aB (r3.length : Int) then
     (Ai.run m_ ((r3.length : Int), ())).bind fun r6 =>
     bif decide (r5.length + r6.length <= maxStr) then
     bif decide ((r5 ++ r6).length + bC.length <= maxStr) then
     (lN.run m_ (r3, ())).bind fun r7 =>
     bif decide (((r5 ++ r6) ++ bC).length + r7.length <= maxStr) then
     some (r2, (1028, (((r5 ++ r6) ++ bC) ++ r7)), 0, ()) else none else none else none else none else none else none
theorem k (m_ : ah) : KT (O m_) [] ⟨41, [.ag y9, .one .str, .one .str, .one .str, .one AL], .jL [.sh (.ag y9), .sh (.ag Q_), .sh (.one (.int .i64))], run m_⟩ [] := fun _ => by kernel_rfl
def c (m_ : ah) : CO P := co (k m_)
end wW

namespace bZ
def inl : FuncId -> Bool := fun f => [].any (Nat.beq f)
def O (m_ : ah) : n_ := (LD [])
theorem Ok (m_ : ah) {S0 w0} : jh P S0 w0 (O m_) := (Af (an))
def run (m_ : ah) : (List (Int × List Int)) × Unit -> Option (List (Int × List Int)) := fun v_ => match v_ with
| (s, ()) =>
 bif decide (([] : List (Int × List Int)).length + s.length < 2932031007402) then
 some (([] : List (Int × List Int)) ++ s) else none
def c_ (m_ : ah) : Callee := ⟨42, [.one AL], .one (.own Q_), run m_⟩
theorem kn (m_ : ah) : jA P (O m_) inl [] [] (c_ m_).res.fin 20000 false (start 42 [.bQ]) = (
 some ([] : List (Int × List Int))) := by kernel_rfl
theorem k (m_ : ah) : ∀ xs : List (Int × List Int), jA P (O m_) inl [] [] (c_ m_).res.fin 20000 false (start 42 [.mP Q_ xs]) = run m_ (xs, ()) := by intro xs; kernel_rfl
theorem ok (m_ : ah) : (c_ m_).OK P := Callee.of_nil (fun S0 w0 => (Ok m_)) (by kernel_rfl) (by rfl) (fun S0 w0 cs0 => an) (fun r h => (kn m_).trans ((show (
 some ([] : List (Int × List Int))) = bZ.run m_ ([], ()) from by kernel_rfl).trans h)) (fun x r h => (bZ.k m_ x).trans h)
def c (m_ : ah) : CO P := ⟨c_ m_, ok m_⟩
end bZ

namespace wX
def O (m_ : ah) : OO P := gJ [aS.c m_, iF.c m_, wW.c m_, bZ.c m_]
def run (m_ : ah) : P8 × DT1 × (List Int) × (List Int) × (List (Int × List Int)) × Unit -> Option (P8 × (List Int) × Int × Unit) := fun v_ => match v_ with
| (v, p, key, bC, inner, ()) =>
 (iF.run m_ (p.2.2.2.2.2.2.2.2.2.2.2.2.2, 1028, ())).bind fun r =>
 bif aB (r.length : Int) then
 bif decide ((r.length : Int) > 0) then
  some (v, ([] : List Int), 23, ())
 else
  (aS.run m_ (p, ())).bind fun (r1, r2, ()) =>
  bif !(decide (r2 = 0)) then
   some (v, ([] : List Int), r2, ())
  else
   (wW.run m_ (v, key, bC, r1, inner, ())).bind fun (r3, r4, r5, ()) =>
   bif !(decide (r5 = 0)) then
    some (v, ([] : List Int), r5, ())
   else
    (bZ.run m_ (p.2.2.2.2.2.2.2.2.2.2.2.2.2, ())).bind fun r6 =>
    bif decide (r6.length + ([r4] : List (Int × List Int)).length < 2932031007402) then
    (aS.run m_ ((p.1, (p.2.1, (p.2.2.1, (p.2.2.2.1, (p.2.2.2.2.1, (p.2.2.2.2.2.1, (p.2.2.2.2.2.2.1, (p.2.2.2.2.2.2.2.1, (p.2.2.2.2.2.2.2.2.1, (p.2.2.2.2.2.2.2.2.2.1, (p.2.2.2.2.2.2.2.2.2.2.1, (p.2.2.2.2.2.2.2.2.2.2.2.1, (p.2.2.2.2.2.2.2.2.2.2.2.2.1, (r6 ++ ([r4] : List (Int × List Int)))))))))))))))), ())).bind fun (r7, r8, ()) =>
    bif !(decide (r8 = 0)) then
     some (v, ([] : List Int), r8, ())
    else
     some (r3, r7, 0, ()) else none else none
theorem k (m_ : ah) : KT (O m_) [] ⟨18, [.ag y9, .ag Oc, .one .str, .one .str, .one AL], .jL [.sh (.ag y9), .sh (.one .str), .sh (.one (.int .i64))], run m_⟩ [] := fun _ => by kernel_rfl
def c (m_ : ah) : CO P := co (k m_)
end wX

namespace dI
def O (m_ : ah) : OO P := gJ []
def e0 : Spec := ⟨[fs 43 [.q 116, .z 116, .b 0, .q 15] [(0, .s), (3, .u), (6, .w), (7, .w)]], [], 0⟩
def x0 : List Spec := [⟨[fs 43 [.q 15] [(3, .u)]], [], 0⟩]
abbrev A0 : Type := LI × Int × Int × Int × Unit
abbrev B0 : Type := (Int × Unit)
def b0 (m_ : ah) (self : A0 -> Option B0) : A0 -> Option B0 := fun v_ => match v_ with
| (s, n, t, t1, ()) =>
 bif decide (t1 < t) then
  bif inB t1 (s.length : Int) then
  self (s, (oJ .u64 (fA .u64 n 8) (IntKind.u64.wrap (rd 0 s t1))), t, (IntKind.i64.wrap (t1 + 1)), ()) else none
 else
  some (n, ())
theorem k0 (m_ : ah) : KQ 43 (O m_) [] e0 x0 [] (b0 m_) := fun _ _ => by kernel_rfl
def l0 (m_ : ah) : A0 -> Option B0 := loop m_ (b0 m_)
theorem q0 (v) : l0 .lim v = b0 .lim (l0 .lim) v := KS.q (k0 .lim) v
def s0 (m_ : ah) : SO P 43 := so m_ (k0 m_)
def run (m_ : ah) : (List Int) × Unit -> Option (Int) := fun v_ => match v_ with
| (s, ()) =>
 bif aB (s.length : Int) then
 (dI.l0 m_ (s, 0, (s.length : Int), 0, ())).bind fun (n, ()) =>
 some n else none
theorem k (m_ : ah) : KT (O m_) [] ⟨43, [.one .str], .one (.sh (.one (.int .u64))), run m_⟩ [s0 m_] := fun _ => by kernel_rfl
def c (m_ : ah) : CO P := co (k m_)
end dI

namespace dX
def O (m_ : ah) : OO P := gJ [dI.c m_]
def o0 : bV := .c [.row Q_]
def f1 : bY := ⟨24, [.inRange 3, .b 0, .q 15], [(2, .ptr 0 0), (3, .ptr 1 0), (4, .ptr 2 0)], none, [.mark 4], false⟩
def o2 : bV := .c [.own 5 Q_]
def o3 : bV := .loop .done (some .ret) 24 [(2, .ptr 0 0), (3, .ptr 1 0), (4, .ptr 2 0)] [9, 10] (y7 58) 4
def e0 : Spec := ⟨[fs 61 [.q 4, .z 4, .b 0] [(0, .fn (.yield 0) []), (1, .ptr 1 0)], ⟨24, [.inRange 0, .b 0, .q 15], [(2, .ptr 2 0), (3, .ptr 3 0), (4, .ptr 4 0)], none, [.mark 5], false⟩], [(0, .loop .ready none 24 [(2, .ptr 2 0), (3, .ptr 3 0), (4, .ptr 4 0)] [9, 10] (y7 58) 5), (1, .c [.s]), (2, .c [.pz]), (3, .c [.w]), (4, .c [.own 5007 Q_]), (5, .deferred false), (5007, o0)], 5008⟩
def x0 : List Spec := [⟨[fs 61 [.q 1205, .q 151, .b 1, .z 4, .b 0] [], f1], [(0, .c [.pz]), (1, .c [.w]), (2, o2), (3, o3), (4, .deferred false), (5, o0)], 6⟩, ⟨[fs 61 [.q 2430, .b 1, .z 4, .b 0] [], f1], [(0, .c [.pz]), (1, .c [.w]), (2, o2), (3, o3), (4, .deferred false), (5, o0)], 6⟩, ⟨[fs 61 [] [], f1], [(0, .c [.pz]), (1, .c [.w]), (2, o2), (3, .loop .ready none 24 [(2, .ptr 0 0), (3, .ptr 1 0), (4, .ptr 2 0)] [9, 10] (y7 58) 4), (4, .deferred false), (5, o0)], 6⟩]
abbrev A0 : Type := LI × Int × (List (Int × List Int)) × Unit
abbrev B0 : Type := (Int × (List (Int × List Int)) × Unit) ⊕ (Int × (List (Int × List Int)) × Unit) ⊕ (Int × (List (Int × List Int)) × Unit)
def b0 (m_ : ah) (self : A0 -> Option B0) : A0 -> Option B0 := fun v_ => match v_ with
| (m, m1, m2, ()) =>
 bif !(decide (m = ([] : List Int))) then
  bif aB (m.length : Int) then
  bif decide ((m.length : Int) >= 4) then
   bif dG 2 4 (m.length : Int) then
   (dI.run m_ ((cut m 2 4), ())).bind fun r =>
   bif ((!(!((decide ((IntKind.i64.wrap r) < 16)) || (!(decide ((gB .i64 (IntKind.i64.wrap r) 3) = 0)))))) || (aB (m.length : Int))) then
   bif (((decide ((IntKind.i64.wrap r) < 16)) || (!(decide ((gB .i64 (IntKind.i64.wrap r) 3) = 0)))) || (decide ((IntKind.i64.wrap r) > (m.length : Int)))) then
    some (.inl (10, m2, ()))
   else
    bif dG 0 2 (m.length : Int) then
    (dI.run m_ ((cut m 0 2), ())).bind fun r1 =>
    bif dG 4 (IntKind.i64.wrap r) (m.length : Int) then
    bif dG (IntKind.i64.wrap r) (m.length : Int) (m.length : Int) then
    bif aB (m2.length : Int) then
    bif decide ((m2.length : Int) = 16) then
     some (.inr (.inl (18, m2, ())))
    else
     bif decide (m2.length + ([((IntKind.i64.wrap r1), (cut m 4 (IntKind.i64.wrap r)))] : List (Int × List Int)).length < 2932031007402) then
     self ((cut m (IntKind.i64.wrap r) (m.length : Int)), m1, (m2 ++ ([((IntKind.i64.wrap r1), (cut m 4 (IntKind.i64.wrap r)))] : List (Int × List Int))), ()) else none else none else none else none else none else none else none
  else
   some (.inl (10, m2, ())) else none
 else
  some (.inr (.inr (m1, m2, ())))
theorem k0 (m_ : ah) : KQ 24 (O m_) [48] e0 x0 [] (b0 m_) := fun _ _ => by kernel_rfl
def l0 (m_ : ah) : A0 -> Option B0 := loop m_ (b0 m_)
theorem q0 (v) : l0 .lim v = b0 .lim (l0 .lim) v := KS.q (k0 .lim) v
def s0 (m_ : ah) : SO P 24 := so m_ (k0 m_)
def run (m_ : ah) : (List Int) × Unit -> Option ((List (Int × List Int)) × Int × Unit) := fun v_ => match v_ with
| (s, ()) =>
 (dX.l0 m_ (s, 0, ([] : List (Int × List Int)), ())).bind fun g_ => match g_ with
 | .inl (m, m1, ()) =>
  some (([] : List (Int × List Int)), m, ())
 | .inr (.inl (m2, m3, ())) =>
  some (([] : List (Int × List Int)), m2, ())
 | .inr (.inr (m4, m5, ())) =>
  some (m5, 0, ())
theorem k (m_ : ah) : KT (O m_) [48] ⟨24, [.one .str], .jL [.own Q_, .sh (.one (.int .i64))], run m_⟩ [s0 m_] := fun _ => by kernel_rfl
def c (m_ : ah) : CO P := co (k m_)
end dX

namespace sG
def O (m_ : ah) : OO P := gJ [dX.c m_, dI.c m_]
def run (m_ : ah) : (List Int) × Unit -> Option (DT1 × Int × Unit) := fun v_ => match v_ with
| (s, ()) =>
 bif aB (s.length : Int) then
 bif decide ((s.length : Int) < 48) then
  some ((0, (0, (0, (0, (0, (0, (0, (0, (0, (0, (0, (0, (0, ([] : List (Int × List Int))))))))))))))), 11, ())
 else
  bif aB (s.length : Int) then
  bif decide ((s.length : Int) > 1280) then
   some ((0, (0, (0, (0, (0, (0, (0, (0, (0, (0, (0, (0, (0, ([] : List (Int × List Int))))))))))))))), 12, ())
  else
   bif dG 48 (s.length : Int) (s.length : Int) then
   (dX.run m_ ((cut s 48 (s.length : Int)), ())).bind fun (r, r1, ()) =>
   bif !(decide (r1 = 0)) then
    some ((0, (0, (0, (0, (0, (0, (0, (0, (0, (0, (0, (0, (0, ([] : List (Int × List Int))))))))))))))), r1, ())
   else
    bif inB 0 (s.length : Int) then
    bif inB 0 (s.length : Int) then
    bif inB 0 (s.length : Int) then
    bif inB 1 (s.length : Int) then
    bif inB 2 (s.length : Int) then
    bif inB 3 (s.length : Int) then
    bif dG 4 8 (s.length : Int) then
    (dI.run m_ ((cut s 4 8), ())).bind fun r2 =>
    bif dG 8 12 (s.length : Int) then
    (dI.run m_ ((cut s 8 12), ())).bind fun r3 =>
    bif dG 12 16 (s.length : Int) then
    (dI.run m_ ((cut s 12 16), ())).bind fun r4 =>
    bif dG 16 24 (s.length : Int) then
    (dI.run m_ ((cut s 16 24), ())).bind fun r5 =>
    bif dG 24 32 (s.length : Int) then
    (dI.run m_ ((cut s 24 32), ())).bind fun r6 =>
    bif dG 32 40 (s.length : Int) then
    (dI.run m_ ((cut s 32 40), ())).bind fun r7 =>
    bif dG 40 48 (s.length : Int) then
    (dI.run m_ ((cut s 40 48), ())).bind fun r8 =>
    some (((IntKind.i64.wrap (jc .u8 (rd 0 s 0) 6)), ((IntKind.i64.wrap (gB .u8 (jc .u8 (rd 0 s 0) 3) 7)), ((IntKind.i64.wrap (gB .u8 (rd 0 s 0) 7)), ((IntKind.i64.wrap (rd 0 s 1)), ((IntKind.i64.wrap (IntKind.i8.wrap (rd 0 s 2))), ((IntKind.i64.wrap (IntKind.i8.wrap (rd 0 s 3))), ((IntKind.u32.wrap r2), ((IntKind.u32.wrap r3), ((IntKind.u32.wrap r4), (r5, (r6, (r7, (r8, r))))))))))))), 0, ()) else none else none else none else none else none else none else none else none else none else none else none else none else none else none else none else none
theorem k (m_ : ah) : KT (O m_) [] ⟨19, [.one .str], .jL [.sh (.ag Oc), .sh (.one (.int .i64))], run m_⟩ [] := fun _ => by kernel_rfl
def c (m_ : ah) : CO P := co (k m_)
end sG

namespace uy
def O (m_ : ah) : OO P := gJ []
def run (m_ : ah) : (Int × List Int) × Unit -> Option (Bool) := fun v_ => match v_ with
| (f, ()) =>
 some (decide (f.1 = 1028))
theorem k (m_ : ah) : KT (O m_) [] ⟨21, [.ag Q_], .one (.sh (.one .bool)), run m_⟩ [] := fun _ => by kernel_rfl
def c (m_ : ah) : CO P := co (k m_)
end uy

namespace pU
def O (m_ : ah) : OO P := gJ [lN.c m_]
def run (m_ : ah) : (List Int) × Unit -> Option ((List Int) × (List Int) × Int × Unit) := fun v_ => match v_ with
| (body, ()) =>
 bif aB (body.length : Int) then
 bif decide ((body.length : Int) < 2) then
  some (([] : List Int), ([] : List Int), 11, ())
 else
  bif dG 0 2 (body.length : Int) then
  bif dG 2 (body.length : Int) (body.length : Int) then
  bif inB 0 ((cut body 0 2).length : Int) then
  bif inB 1 ((cut body 0 2).length : Int) then
  bif aB ((cut body 2 (body.length : Int)).length : Int) then
  bif decide (((cut body 2 (body.length : Int)).length : Int) < 2) then
   some (([] : List Int), ([] : List Int), 11, ())
  else
   bif dG 0 2 ((cut body 2 (body.length : Int)).length : Int) then
   bif dG 2 ((cut body 2 (body.length : Int)).length : Int) ((cut body 2 (body.length : Int)).length : Int) then
   bif inB 0 ((cut (cut body 2 (body.length : Int)) 0 2).length : Int) then
   bif inB 1 ((cut (cut body 2 (body.length : Int)) 0 2).length : Int) then
   bif !(decide ((oJ .i64 (fA .i64 (IntKind.i64.wrap (rd 0 (cut body 0 2) 0)) 8) (IntKind.i64.wrap (rd 0 (cut body 0 2) 1))) = 16)) then
    some (([] : List Int), ([] : List Int), 10, ())
   else
    bif aB ((cut (cut body 2 (body.length : Int)) 2 ((cut body 2 (body.length : Int)).length : Int)).length : Int) then
    bif decide (((cut (cut body 2 (body.length : Int)) 2 ((cut body 2 (body.length : Int)).length : Int)).length : Int) < (oJ .i64 (fA .i64 (IntKind.i64.wrap (rd 0 (cut body 0 2) 0)) 8) (IntKind.i64.wrap (rd 0 (cut body 0 2) 1)))) then
     some (([] : List Int), ([] : List Int), 10, ())
    else
     bif dG 0 (oJ .i64 (fA .i64 (IntKind.i64.wrap (rd 0 (cut body 0 2) 0)) 8) (IntKind.i64.wrap (rd 0 (cut body 0 2) 1))) ((cut (cut body 2 (body.length : Int)) 2 ((cut body 2 (body.length : Int)).length : Int)).length : Int) then
     bif dG (oJ .i64 (fA .i64 (IntKind.i64.wrap (rd 0 (cut body 0 2) 0)) 8) (IntKind.i64.wrap (rd 0 (cut body 0 2) 1))) ((cut (cut body 2 (body.length : Int)) 2 ((cut body 2 (body.length : Int)).length : Int)).length : Int) ((cut (cut body 2 (body.length : Int)) 2 ((cut body 2 (body.length : Int)).length : Int)).length : Int) then
     bif aB ((cut (cut (cut body 2 (body.length : Int)) 2 ((cut body 2 (body.length : Int)).length : Int)) (oJ .i64 (fA .i64 (IntKind.i64.wrap (rd 0 (cut body 0 2) 0)) 8) (IntKind.i64.wrap (rd 0 (cut body 0 2) 1))) ((cut (cut body 2 (body.length : Int)) 2 ((cut body 2 (body.length : Int)).length : Int)).length : Int)).length : Int) then
     bif decide (((cut (cut (cut body 2 (body.length : Int)) 2 ((cut body 2 (body.length : Int)).length : Int)) (oJ .i64 (fA .i64 (IntKind.i64.wrap (rd 0 (cut body 0 2) 0)) 8) (IntKind.i64.wrap (rd 0 (cut body 0 2) 1))) ((cut (cut body 2 (body.length : Int)) 2 ((cut body 2 (body.length : Int)).length : Int)).length : Int)).length : Int) < (oJ .i64 (fA .i64 (IntKind.i64.wrap (rd 0 (cut (cut body 2 (body.length : Int)) 0 2) 0)) 8) (IntKind.i64.wrap (rd 0 (cut (cut body 2 (body.length : Int)) 0 2) 1)))) then
      some (([] : List Int), ([] : List Int), 10, ())
     else
      bif dG 0 (oJ .i64 (fA .i64 (IntKind.i64.wrap (rd 0 (cut (cut body 2 (body.length : Int)) 0 2) 0)) 8) (IntKind.i64.wrap (rd 0 (cut (cut body 2 (body.length : Int)) 0 2) 1))) ((cut (cut (cut body 2 (body.length : Int)) 2 ((cut body 2 (body.length : Int)).length : Int)) (oJ .i64 (fA .i64 (IntKind.i64.wrap (rd 0 (cut body 0 2) 0)) 8) (IntKind.i64.wrap (rd 0 (cut body 0 2) 1))) ((cut (cut body 2 (body.length : Int)) 2 ((cut body 2 (body.length : Int)).length : Int)).length : Int)).length : Int) then
      bif dG (oJ .i64 (fA .i64 (IntKind.i64.wrap (rd 0 (cut (cut body 2 (body.length : Int)) 0 2) 0)) 8) (IntKind.i64.wrap (rd 0 (cut (cut body 2 (body.length : Int)) 0 2) 1))) ((cut (cut (cut body 2 (body.length : Int)) 2 ((cut body 2 (body.length : Int)).length : Int)) (oJ .i64 (fA .i64 (IntKind.i64.wrap (rd 0 (cut body 0 2) 0)) 8) (IntKind.i64.wrap (rd 0 (cut body 0 2) 1))) ((cut (cut body 2 (body.length : Int)) 2 ((cut body 2 (body.length : Int)).length : Int)).length : Int)).length : Int) ((cut (cut (cut body 2 (body.length : Int)) 2 ((cut body 2 (body.length : Int)).length : Int)) (oJ .i64 (fA .i64 (IntKind.i64.wrap (rd 0 (cut body 0 2) 0)) 8) (IntKind.i64.wrap (rd 0 (cut body 0 2) 1))) ((cut (cut body 2 (body.length : Int)) 2 ((cut body 2 (body.length : Int)).length : Int)).length : Int)).length : Int) then
      bif decide ((cut (cut (cut (cut body 2 (body.length : Int)) 2 ((cut body 2 (body.length : Int)).length : Int)) (oJ .i64 (fA .i64 (IntKind.i64.wrap (rd 0 (cut body 0 2) 0)) 8) (IntKind.i64.wrap (rd 0 (cut body 0 2) 1))) ((cut (cut body 2 (body.length : Int)) 2 ((cut body 2 (body.length : Int)).length : Int)).length : Int)) 0 (oJ .i64 (fA .i64 (IntKind.i64.wrap (rd 0 (cut (cut body 2 (body.length : Int)) 0 2) 0)) 8) (IntKind.i64.wrap (rd 0 (cut (cut body 2 (body.length : Int)) 0 2) 1)))).length + (cut (cut (cut (cut body 2 (body.length : Int)) 2 ((cut body 2 (body.length : Int)).length : Int)) (oJ .i64 (fA .i64 (IntKind.i64.wrap (rd 0 (cut body 0 2) 0)) 8) (IntKind.i64.wrap (rd 0 (cut body 0 2) 1))) ((cut (cut body 2 (body.length : Int)) 2 ((cut body 2 (body.length : Int)).length : Int)).length : Int)) (oJ .i64 (fA .i64 (IntKind.i64.wrap (rd 0 (cut (cut body 2 (body.length : Int)) 0 2) 0)) 8) (IntKind.i64.wrap (rd 0 (cut (cut body 2 (body.length : Int)) 0 2) 1))) ((cut (cut (cut body 2 (body.length : Int)) 2 ((cut body 2 (body.length : Int)).length : Int)) (oJ .i64 (fA .i64 (IntKind.i64.wrap (rd 0 (cut body 0 2) 0)) 8) (IntKind.i64.wrap (rd 0 (cut body 0 2) 1))) ((cut (cut body 2 (body.length : Int)) 2 ((cut body 2 (body.length : Int)).length : Int)).length : Int)).length : Int)).length <= maxStr) then
      (lN.run m_ ((cut (cut (cut (cut body 2 (body.length : Int)) 2 ((cut body 2 (body.length : Int)).length : Int)) (oJ .i64 (fA .i64 (IntKind.i64.wrap (rd 0 (cut body 0 2) 0)) 8) (IntKind.i64.wrap (rd 0 (cut body 0 2) 1))) ((cut (cut body 2 (body.length : Int)) 2 ((cut body 2 (body.length : Int)).length : Int)).length : Int)) 0 (oJ .i64 (fA .i64 (IntKind.i64.wrap (rd 0 (cut (cut body 2 (body.length : Int)) 0 2) 0)) 8) (IntKind.i64.wrap (rd 0 (cut (cut body 2 (body.length : Int)) 0 2) 1)))), ())).bind fun r =>
      bif !(decide (((cut (cut (cut (cut body 2 (body.length : Int)) 2 ((cut body 2 (body.length : Int)).length : Int)) (oJ .i64 (fA .i64 (IntKind.i64.wrap (rd 0 (cut body 0 2) 0)) 8) (IntKind.i64.wrap (rd 0 (cut body 0 2) 1))) ((cut (cut body 2 (body.length : Int)) 2 ((cut body 2 (body.length : Int)).length : Int)).length : Int)) 0 (oJ .i64 (fA .i64 (IntKind.i64.wrap (rd 0 (cut (cut body 2 (body.length : Int)) 0 2) 0)) 8) (IntKind.i64.wrap (rd 0 (cut (cut body 2 (body.length : Int)) 0 2) 1)))) ++ (cut (cut (cut (cut body 2 (body.length : Int)) 2 ((cut body 2 (body.length : Int)).length : Int)) (oJ .i64 (fA .i64 (IntKind.i64.wrap (rd 0 (cut body 0 2) 0)) 8) (IntKind.i64.wrap (rd 0 (cut body 0 2) 1))) ((cut (cut body 2 (body.length : Int)) 2 ((cut body 2 (body.length : Int)).length : Int)).length : Int)) (oJ .i64 (fA .i64 (IntKind.i64.wrap (rd 0 (cut (cut body 2 (body.length : Int)) 0 2) 0)) 8) (IntKind.i64.wrap (rd 0 (cut (cut body 2 (body.length : Int)) 0 2) 1))) ((cut (cut (cut body 2 (body.length : Int)) 2 ((cut body 2 (body.length : Int)).length : Int)) (oJ .i64 (fA .i64 (IntKind.i64.wrap (rd 0 (cut body 0 2) 0)) 8) (IntKind.i64.wrap (rd 0 (cut body 0 2) 1))) ((cut (cut body 2 (body.length : Int)) 2 ((cut body 2 (body.length : Int)).length : Int)).length : Int)).length : Int))) = r)) then
       some (([] : List Int), ([] : List Int), 10, ())
      else
       some ((cut (cut (cut body 2 (body.length : Int)) 2 ((cut body 2 (body.length : Int)).length : Int)) 0 (oJ .i64 (fA .i64 (IntKind.i64.wrap (rd 0 (cut body 0 2) 0)) 8) (IntKind.i64.wrap (rd 0 (cut body 0 2) 1)))), (cut (cut (cut (cut body 2 (body.length : Int)) 2 ((cut body 2 (body.length : Int)).length : Int)) (oJ .i64 (fA .i64 (IntKind.i64.wrap (rd 0 (cut body 0 2) 0)) 8) (IntKind.i64.wrap (rd 0 (cut body 0 2) 1))) ((cut (cut body 2 (body.length : Int)) 2 ((cut body 2 (body.length : Int)).length : Int)).length : Int)) 0 (oJ .i64 (fA .i64 (IntKind.i64.wrap (rd 0 (cut (cut body 2 (body.length : Int)) 0 2) 0)) 8) (IntKind.i64.wrap (rd 0 (cut (cut body 2 (body.length : Int)) 0 2) 1)))), 0, ()) else none else none else none else none else none else none else none else none else none else none else none else none else none else none else none else none else none
theorem k (m_ : ah) : KT (O m_) [32, 33] ⟨11, [.one .str], .jL [.sh (.one .str), .sh (.one .str), .sh (.one (.int .i64))], run m_⟩ [] := fun v_ => match v_ with | (body, ()) => by kernel_rfl
def c (m_ : ah) : CO P := co (k m_)
end pU

namespace wY
def O (m_ : ah) : OO P := gJ [bn.c m_, lK.c m_, lM.c m_, gV.c m_, eX.c m_, iM.c m_]
def run (m_ : ah) : (List Int) × (List (List Int)) × (List Int) × Unit -> Option ((List Int) × Int × Unit) := fun v_ => match v_ with
| (key, ad, sealed, ()) =>
 (lK.run m_ (key, ad, ())).bind fun (r, r1, r2, ()) =>
 bif !(decide (r2 = 0)) then
  some (([] : List Int), r2, ())
 else
  bif aB (sealed.length : Int) then
  bif decide ((sealed.length : Int) < 16) then
   some (([] : List Int), 11, ())
  else
   bif aB (sealed.length : Int) then
   bif decide ((sealed.length : Int) > 65552) then
    some (([] : List Int), 12, ())
   else
    bif dG 0 16 (sealed.length : Int) then
    bif dG 16 (sealed.length : Int) (sealed.length : Int) then
    (lM.run m_ (r1, (cut sealed 0 16), (cut sealed 16 (sealed.length : Int)), ())).bind fun r3 =>
    (bn.run m_ (ad, ())).bind fun r4 =>
    bif decide (r4.length + ([r3] : List (List Int)).length < 4398046511104) then
    (eX.run m_ (r, (r4 ++ ([r3] : List (List Int))), ())).bind fun r5 =>
    (gV.run m_ ((cut sealed 0 16), r5, ())).bind fun r6 =>
    (iM.run m_ (16, ())).bind fun r7 =>
    bif !(decide (r6 = r7)) then
     some (([] : List Int), 17, ())
    else
     some (r3, 0, ()) else none else none else none else none else none
theorem k (m_ : ah) : KT (O m_) [] ⟨124, [.one .str, .one (.lst .str), .one .str], .jL [.sh (.one .str), .sh (.one (.int .i64))], run m_⟩ [] := fun _ => by kernel_rfl
def c (m_ : ah) : CO P := co (k m_)
end wY

namespace kR
def O (m_ : ah) : OO P := gJ [wY.c m_]
def run (m_ : ah) : Unit × sD × Unit -> Option ((List Int) × Int × Unit) := fun v_ => match v_ with
| (a, k, ()) =>
 (wY.run m_ (k.1, k.2.1, k.2.2.2, ())).bind fun (r, r1, ()) =>
 some (r, r1, ())
theorem k (m_ : ah) : KT (O m_) [] ⟨122, [.ag .unit, .ag Gt], .jL [.sh (.one .str), .sh (.one (.int .i64))], run m_⟩ [] := fun _ => by kernel_rfl
def c (m_ : ah) : CO P := co (k m_)
end kR

namespace gW
def O (m_ : ah) : OO P := gJ [jG.c m_, aW.c m_, kR.c m_]
def f0 : bY := fs 23 [.v 6 [6,7,8,9,10], .q 7] []
def o1 : bV := .c [.dat y8]
def f2 : bY := fs 111 [.v 30 [5,6], .q 31] [(0, .ptr 0 0)]
def e0 : Spec := ⟨[fs 114 [.q 52, .z 52, .b 0, .q 7] [(0, .dat y8), (1, .fn (.func 115) [0]), (7, .w), (8, .w)], fs 111 [.v 30 [5,6], .q 31] [(0, .ptr 1 0)], f0], [(0, .c [.s, .t, .s, .s]), (1, o1)], 2⟩
def x0 : List Spec := [⟨[fs 114 [.q 13517, .b 1, .q 423, .z 52, .b 0, .q 7] [(4, .w)], f2, f0], [(0, o1)], 1⟩, ⟨[fs 114 [.q 7] [], f2, f0], [(0, o1)], 1⟩]
abbrev A0 : Type := (List (List Int × (List LI × (List Int × List Int)))) × Int × Int × LI × LL × LI × LI × (List (List Int × (List LI × (List Int × List Int)))) × Unit
abbrev B0 : Type := (Int × (List (List Int × (List LI × (List Int × List Int)))) × Unit) ⊕ ((List (List Int × (List LI × (List Int × List Int)))) × Unit)
def b0 (m_ : ah) (self : A0 -> Option B0) : A0 -> Option B0 := fun v_ => match v_ with
| (s, t, t1, m, m1, m2, m3, m4, ()) =>
 bif decide (t1 < t) then
  bif inB t1 (s.length : Int) then
  ((bif ((decide (((((rd fU s t1).2).2).2) = m3)) && (decide (((rd fU s t1).1) = m))) then aW.run m_ (((rd fU s t1).2).1, m1, ()) else some false)).bind fun r =>
  bif (((decide (((((rd fU s t1).2).2).2) = m3)) && (decide (((rd fU s t1).1) = m))) && r) then
   some (.inl (t1, m4, ()))
  else
   self (s, t, (IntKind.i64.wrap (t1 + 1)), m, m1, m2, m3, m4, ()) else none
 else
  some (.inr (m4, ()))
theorem k0 (m_ : ah) : KQ 23 (O m_) [47, 111, 114, 115] e0 x0 [] (b0 m_) := fun _ _ => by kernel_rfl
def l0 (m_ : ah) : A0 -> Option B0 := loop m_ (b0 m_)
theorem q0 (v) : l0 .lim v = b0 .lim (l0 .lim) v := KS.q (k0 .lim) v
def s0 (m_ : ah) : SO P 23 := so m_ (k0 m_)
def run (m_ : ah) : P8 × (List Int) × (List (List Int)) × (List Int) × Unit -> Option ((List Int) × Int × Unit) := fun v_ => match v_ with
| (v, key, ad, text, ()) =>
 bif v.1 then
  (jG.run m_ ((key, (ad, (([] : List Int), text))), ())).bind fun r =>
  bif !(decide (r = 0)) then
   some (([] : List Int), r, ())
  else
   bif aB (text.length : Int) then
   bif decide ((text.length : Int) < 16) then
    some (([] : List Int), 11, ())
   else
    bif aB (text.length : Int) then
    bif decide ((text.length : Int) > 65552) then
     some (([] : List Int), 12, ())
    else
     bif aB (v.2.length : Int) then
     (gW.l0 m_ (v.2, (v.2.length : Int), 0, key, ad, ([] : List Int), text, v.2, ())).bind fun g_ => match g_ with
     | .inl (t, m, ()) =>
      bif decide (t < 0) then
       some (([] : List Int), 17, ())
      else
       bif inB t (m.length : Int) then
       some ((((rd fU m t).2).2).1, 0, ()) else none
     | .inr (m1, ()) =>
      some (([] : List Int), 17, ()) else none else none else none
 else
  (kR.run m_ ((), (key, (ad, (([] : List Int), text))), ())).bind fun (r1, r2, ()) =>
  some (r1, r2, ())
theorem k (m_ : ah) : KT (O m_) [47, 111, 114, 115] ⟨23, [.ag y9, .one .str, .one (.lst .str), .one .str], .jL [.sh (.one .str), .sh (.one (.int .i64))], run m_⟩ [s0 m_] := fun _ => by kernel_rfl
def c (m_ : ah) : CO P := co (k m_)
end gW

namespace iU
def O (m_ : ah) : OO P := gJ [pU.c m_, sG.c m_, uy.c m_, aS.c m_, gW.c m_, dX.c m_]
def f0 : bY := fs 7 [.v 30 [2,3], .q 31] [(2, .s), (3, .ptr 0 0), (6, .ptr 1 0), (8, .ptr 2 0)]
def o1 : bV := .c [.b, .dat y8]
def o2 : bV := .c [.w, .w, .w, .w, .w, .w, .dat (.int .u32), .dat (.int .u32), .dat (.int .u32), .u, .u, .u, .u, .pz, .pz, .pz]
def o3 : bV := .c [.w, .w, .w, .w, .w, .w, .dat (.int .u32), .dat (.int .u32), .dat (.int .u32), .u, .u, .u, .u, .dat AL]
def e0 : Spec := ⟨[fs 20 [.q 52, .z 52, .b 0, .q 7] [(0, .dat AL), (1, .fn (.func 21) []), (7, .w), (8, .w)], f0], [(0, o1), (1, o2), (2, o3)], 3⟩
def x0 : List Spec := [⟨[fs 20 [.q 13517, .b 1, .q 423, .z 52, .b 0, .q 7] [(4, .w)], f0], [(0, o1), (1, o2), (2, o3)], 3⟩, ⟨[fs 20 [.q 7] [], f0], [(0, o1), (1, o2), (2, o3)], 3⟩]
abbrev A0 : Type := (List (Int × List Int)) × Int × Int × LI × Bool × (List (List Int × (List LI × (List Int × List Int)))) × Int × Int × Int × Int × Int × Int × Int × Int × Int × Int × Int × Int × Int × Int × Int × Int × Int × Int × Int × Int × Int × Int × Int × Int × Int × Int × (List (Int × List Int)) × Unit
abbrev B0 : Type := (Int × LI × Bool × (List (List Int × (List LI × (List Int × List Int)))) × Int × Int × Int × Int × Int × Int × Int × Int × Int × Int × Int × Int × Int × Int × Int × Int × Int × Int × Int × Int × Int × Int × Int × Int × Int × Int × (List (Int × List Int)) × Unit) ⊕ (LI × Bool × (List (List Int × (List LI × (List Int × List Int)))) × Int × Int × Int × Int × Int × Int × Int × Int × Int × Int × Int × Int × Int × Int × Int × Int × Int × Int × Int × Int × Int × Int × Int × Int × Int × Int × (List (Int × List Int)) × Unit)
def b0 (m_ : ah) (self : A0 -> Option B0) : A0 -> Option B0 := fun v_ => match v_ with
| (s, t, t1, key, m, m1, m2, m3, m4, m5, m6, m7, m8, m9, m10, m11, m12, m13, m14, m15, m16, m17, m18, m19, m20, m21, m22, m23, m24, tu, tC, vF, rP, ()) =>
 bif decide (t1 < t) then
  bif inB t1 (s.length : Int) then
  (uy.run m_ ((rd ((0 : Int), ([] : List Int)) s t1), ())).bind fun r =>
  bif r then
   some (.inl (t1, key, m, m1, m2, m3, m4, m5, m6, m7, m8, m9, m10, m11, m12, m13, m14, m15, m16, m17, m18, m19, m20, m21, m22, m23, m24, tu, tC, vF, rP, ()))
  else
   self (s, t, (IntKind.i64.wrap (t1 + 1)), key, m, m1, m2, m3, m4, m5, m6, m7, m8, m9, m10, m11, m12, m13, m14, m15, m16, m17, m18, m19, m20, m21, m22, m23, m24, tu, tC, vF, rP, ()) else none
 else
  some (.inr (key, m, m1, m2, m3, m4, m5, m6, m7, m8, m9, m10, m11, m12, m13, m14, m15, m16, m17, m18, m19, m20, m21, m22, m23, m24, tu, tC, vF, rP, ()))
theorem k0 (m_ : ah) : KQ 7 (O m_) [20] e0 x0 [] (b0 m_) := fun _ _ => by kernel_rfl
def l0 (m_ : ah) : A0 -> Option B0 := loop m_ (b0 m_)
theorem q0 (v) : l0 .lim v = b0 .lim (l0 .lim) v := KS.q (k0 .lim) v
def s0 (m_ : ah) : SO P 7 := so m_ (k0 m_)
def run (m_ : ah) : P8 × (List Int) × (List Int) × Unit -> Option (DT0 × Int × Unit) := fun v_ => match v_ with
| (v, s, key, ()) =>
 (sG.run m_ (s, ())).bind fun (r, r1, ()) =>
 bif !(decide (r1 = 0)) then
  some (((0, (0, (0, (0, (0, (0, (0, (0, (0, (0, (0, (0, (0, ([] : List (Int × List Int))))))))))))))), Dq), r1, ())
 else
  bif aB (r.2.2.2.2.2.2.2.2.2.2.2.2.2.length : Int) then
  (iU.l0 m_ (r.2.2.2.2.2.2.2.2.2.2.2.2.2, (r.2.2.2.2.2.2.2.2.2.2.2.2.2.length : Int), 0, key, v.1, v.2, 0, 0, 0, 0, 0, 0, 0, 0, 0, 0, 0, 0, 0, r.1, r.2.1, r.2.2.1, r.2.2.2.1, r.2.2.2.2.1, r.2.2.2.2.2.1, r.2.2.2.2.2.2.1, r.2.2.2.2.2.2.2.1, r.2.2.2.2.2.2.2.2.1, r.2.2.2.2.2.2.2.2.2.1, r.2.2.2.2.2.2.2.2.2.2.1, r.2.2.2.2.2.2.2.2.2.2.2.1, r.2.2.2.2.2.2.2.2.2.2.2.2.1, r.2.2.2.2.2.2.2.2.2.2.2.2.2, ())).bind fun g_ => match g_ with
  | .inl (t, key1, m, m1, m2, m3, m4, m5, m6, m7, m8, m9, m10, m11, m12, m13, m14, m15, m16, m17, m18, m19, m20, m21, m22, m23, m24, tu, tC, vF, rP, ()) =>
   bif decide (t < 0) then
    some (((0, (0, (0, (0, (0, (0, (0, (0, (0, (0, (0, (0, (0, ([] : List (Int × List Int))))))))))))))), Dq), 19, ())
   else
    bif ((dG 0 t t) && (decide (t <= (rP.length : Int)))) then
    bif inB t (rP.length : Int) then
    (pU.run m_ ((rd ((0 : Int), ([] : List Int)) rP t).2, ())).bind fun (r2, r3, r4, ()) =>
    bif !(decide (r4 = 0)) then
     some (((0, (0, (0, (0, (0, (0, (0, (0, (0, (0, (0, (0, (0, ([] : List (Int × List Int))))))))))))))), Dq), r4, ())
    else
     (aS.run m_ ((m15, (m16, (m17, (m18, (m19, (m20, (m21, (m22, (m23, (m24, (tu, (tC, (vF, (cut rP 0 t)))))))))))))), ())).bind fun (r5, r6, ()) =>
     (gW.run m_ ((m, m1), key1, ([r5, r2] : List (List Int)), r3, ())).bind fun (r7, r8, ()) =>
     bif !(decide (r8 = 0)) then
      some (((0, (0, (0, (0, (0, (0, (0, (0, (0, (0, (0, (0, (0, ([] : List (Int × List Int))))))))))))))), Dq), r8, ())
     else
      (dX.run m_ (r7, ())).bind fun (r9, r10, ()) =>
      bif !(decide (r10 = 0)) then
       some (((0, (0, (0, (0, (0, (0, (0, (0, (0, (0, (0, (0, (0, ([] : List (Int × List Int))))))))))))))), Dq), r10, ())
      else
       some (((m15, (m16, (m17, (m18, (m19, (m20, (m21, (m22, (m23, (m24, (tu, (tC, (vF, ([] : List (Int × List Int))))))))))))))), ((cut rP 0 t), r9)), 0, ()) else none else none
  | .inr (key2, wU, Ig, LQ, m32, Gu, LU, Oe, LV, Og, P9, P_, Qa, Qb, Oh, Rh, Oi, Oj, Ri, VT, VU, VW, VX, VY, X9, X_, Ya, Y7, WT, WU, ()) =>
   some (((0, (0, (0, (0, (0, (0, (0, (0, (0, (0, (0, (0, (0, ([] : List (Int × List Int))))))))))))))), Dq), 19, ()) else none
theorem k (m_ : ah) : KT (O m_) [20] ⟨7, [.ag y9, .one .str, .one .str], .jL [.sh (.ag WR), .sh (.one (.int .i64))], run m_⟩ [s0 m_] := fun _ => by kernel_rfl
def c (m_ : ah) : CO P := co (k m_)
end iU

namespace Aj
def O (m_ : ah) : OO P := gJ [iF.c m_]
def run (m_ : ah) : (List (Int × List Int)) × Int × Unit -> Option ((List Int) × Int × Unit) := fun v_ => match v_ with
| (l, kind, ()) =>
 (iF.run m_ (l, kind, ())).bind fun r =>
 bif aB (r.length : Int) then
 bif decide ((r.length : Int) = 0) then
  some (([] : List Int), 19, ())
 else
  bif decide ((r.length : Int) = 1) then
   bif inB 0 (r.length : Int) then
   bif inB (rd 0 r 0) (l.length : Int) then
   some ((rd ((0 : Int), ([] : List Int)) l (rd 0 r 0)).2, 0, ()) else none else none
  else
   some (([] : List Int), 24, ()) else none
theorem k (m_ : ah) : KT (O m_) [] ⟨13, [.one AL, .one (.int .i64)], .jL [.sh (.one .str), .sh (.one (.int .i64))], run m_⟩ [] := fun _ => by kernel_rfl
def c (m_ : ah) : CO P := co (k m_)
end Aj

namespace bI
def O (m_ : ah) : OO P := gJ [iU.c m_, Aj.c m_, wX.c m_]
def e0 : Spec := ⟨[fs 6 [.q 116, .z 116, .b 0, .q 15] [(1, .s), (2, .s), (3, .s), (14, .w)]], [], 0⟩
def x0 : List Spec := [⟨[fs 6 [.q 15] [(1, .s), (2, .s), (3, .s)]], [], 0⟩]
abbrev A0 : Type := LI × LI × LI × Int × Unit
abbrev B0 : Type := (LI × LI × LI × Unit)
def b0 (m_ : ah) (self : A0 -> Option B0) : A0 -> Option B0 := fun v_ => match v_ with
| (key, other, uid, t, ()) =>
 bif decide (t < 32) then
  bif decide (key.length + ([107] : List Int).length <= maxStr) then
  bif decide (other.length + ([108] : List Int).length <= maxStr) then
  bif decide (uid.length + ([117] : List Int).length <= maxStr) then
  self ((key ++ ([107] : List Int)), (other ++ ([108] : List Int)), (uid ++ ([117] : List Int)), (IntKind.i64.wrap (t + 1)), ()) else none else none else none
 else
  some (key, other, uid, ())
theorem k0 (m_ : ah) : KQ 6 (O m_) [] e0 x0 [] (b0 m_) := fun _ _ => by kernel_rfl
def l0 (m_ : ah) : A0 -> Option B0 := loop m_ (b0 m_)
theorem q0 (v) : l0 .lim v = b0 .lim (l0 .lim) v := KS.q (k0 .lim) v
def s0 (m_ : ah) : SO P 6 := so m_ (k0 m_)
def run (m_ : ah) : Unit -> Option (Bool) := fun v_ => match v_ with
| (()) =>
 (bI.l0 m_ (([] : List Int), ([] : List Int), ([] : List Int), 0, ())).bind fun (key, other, uid, ()) =>
 bif dG 0 16 (key.length : Int) then
 (wX.run m_ ((false, ([] : List sD)), (0, (4, (3, (0, (0, (0, (0, (0, (0, (0, (0, (0, (0, ([(260, uid)] : List (Int × List Int))))))))))))))), key, (cut key 0 16), ([] : List (Int × List Int)), ())).bind fun (r, r1, r2, ()) =>
 (iU.run m_ (r, r1, key, ())).bind fun (r3, r4, ()) =>
 (iU.run m_ (r, r1, other, ())).bind fun (r5, r6, ()) =>
 (Aj.run m_ (r3.2.1, 260, ())).bind fun (r7, r8, ()) =>
 bif ((!(decide (r2 = 0))) || (aB (r1.length : Int))) then
 some ((((((decide (r2 = 0)) && (decide ((r1.length : Int) = 124))) && (decide (r4 = 0))) && (decide (r6 = 17))) && (decide (r7 = uid))) && (decide (r8 = 0))) else none else none
theorem k (m_ : ah) : KT (O m_) [] ⟨6, [], .one (.sh (.one .bool)), run m_⟩ [s0 m_] := fun _ => by kernel_rfl
def c (m_ : ah) : CO P := co (k m_)
end bI

namespace bH
def O (m_ : ah) : OO P := gJ []
def e0 : Spec := ⟨[fs 26 [.q 116, .z 116, .b 0, .q 15] [(0, .dat AL), (1, .dat AL), (5, .w)]], [], 0⟩
def x0 : List Spec := [⟨[fs 26 [.q 7461, .b 1, .q 467, .z 116, .b 0, .q 15] [(4, .b)]], [], 0⟩, ⟨[fs 26 [.q 15] []], [], 0⟩]
abbrev A0 : Type := (List (Int × List Int)) × (List (Int × List Int)) × Int × Unit
abbrev B0 : Type := (Bool × Unit) ⊕ (Unit)
def b0 (m_ : ah) (self : A0 -> Option B0) : A0 -> Option B0 := fun v_ => match v_ with
| (a, b, i, ()) =>
 bif aB (a.length : Int) then
 bif decide (i < (a.length : Int)) then
  bif inB i (a.length : Int) then
  bif inB i (b.length : Int) then
  bif !((decide (((rd ((0 : Int), ([] : List Int)) a i).1) = ((rd ((0 : Int), ([] : List Int)) b i).1))) && (decide (((rd ((0 : Int), ([] : List Int)) a i).2) = ((rd ((0 : Int), ([] : List Int)) b i).2)))) then
   some (.inl (false, ()))
  else
   self (a, b, (IntKind.i64.wrap (i + 1)), ()) else none else none
 else
  some (.inr (())) else none
theorem k0 (m_ : ah) : KQ 26 (O m_) [] e0 x0 [] (b0 m_) := fun _ _ => by kernel_rfl
def l0 (m_ : ah) : A0 -> Option B0 := loop m_ (b0 m_)
theorem q0 (v) : l0 .lim v = b0 .lim (l0 .lim) v := KS.q (k0 .lim) v
def s0 (m_ : ah) : SO P 26 := so m_ (k0 m_)
def run (m_ : ah) : (List (Int × List Int)) × (List (Int × List Int)) × Unit -> Option (Bool) := fun v_ => match v_ with
| (a, b, ()) =>
 bif aB (a.length : Int) then
 bif aB (b.length : Int) then
 bif !(decide ((a.length : Int) = (b.length : Int))) then
  some false
 else
  (bH.l0 m_ (a, b, 0, ())).bind fun g_ => match g_ with
  | .inl (t, ()) =>
   some t
  | .inr (()) =>
   some true else none else none
theorem k (m_ : ah) : KT (O m_) [] ⟨26, [.one AL, .one AL], .one (.sh (.one .bool)), run m_⟩ [s0 m_] := fun _ => by kernel_rfl
def c (m_ : ah) : CO P := co (k m_)
end bH

namespace jr
def O (m_ : ah) : OO P := gJ [bH.c m_]
def run (m_ : ah) : DT1 × DT1 × Unit -> Option (Bool) := fun v_ => match v_ with
| (a, b, ()) =>
 bif ((((((((!(decide (a.1 = b.1))) || (!(decide (a.2.1 = b.2.1)))) || (!(decide (a.2.2.1 = b.2.2.1)))) || (!(decide (a.2.2.2.1 = b.2.2.2.1)))) || (!(decide (a.2.2.2.2.1 = b.2.2.2.2.1)))) || (!(decide (a.2.2.2.2.2.1 = b.2.2.2.2.2.1)))) || (!(decide (a.2.2.2.2.2.2.1 = b.2.2.2.2.2.2.1)))) || (!(decide (a.2.2.2.2.2.2.2.1 = b.2.2.2.2.2.2.2.1)))) then
  some false
 else
  ((bif (((((decide (a.2.2.2.2.2.2.2.2.1 = b.2.2.2.2.2.2.2.2.1)) && (decide (a.2.2.2.2.2.2.2.2.2.1 = b.2.2.2.2.2.2.2.2.2.1))) && (decide (a.2.2.2.2.2.2.2.2.2.2.1 = b.2.2.2.2.2.2.2.2.2.2.1))) && (decide (a.2.2.2.2.2.2.2.2.2.2.2.1 = b.2.2.2.2.2.2.2.2.2.2.2.1))) && (decide (a.2.2.2.2.2.2.2.2.2.2.2.2.1 = b.2.2.2.2.2.2.2.2.2.2.2.2.1))) then bH.run m_ (a.2.2.2.2.2.2.2.2.2.2.2.2.2, b.2.2.2.2.2.2.2.2.2.2.2.2.2, ()) else some false)).bind fun r =>
  some ((((((decide (a.2.2.2.2.2.2.2.2.1 = b.2.2.2.2.2.2.2.2.1)) && (decide (a.2.2.2.2.2.2.2.2.2.1 = b.2.2.2.2.2.2.2.2.2.1))) && (decide (a.2.2.2.2.2.2.2.2.2.2.1 = b.2.2.2.2.2.2.2.2.2.2.1))) && (decide (a.2.2.2.2.2.2.2.2.2.2.2.1 = b.2.2.2.2.2.2.2.2.2.2.2.1))) && (decide (a.2.2.2.2.2.2.2.2.2.2.2.2.1 = b.2.2.2.2.2.2.2.2.2.2.2.2.1))) && r)
theorem k (m_ : ah) : KT (O m_) [] ⟨25, [.ag Oc, .ag Oc], .one (.sh (.one .bool)), run m_⟩ [] := fun _ => by kernel_rfl
def c (m_ : ah) : CO P := co (k m_)
end jr

namespace iH
def O (m_ : ah) : OO P := gJ [jr.c m_, bH.c m_]
def run (m_ : ah) : DT0 × DT0 × Unit -> Option (Bool) := fun v_ => match v_ with
| (a, b, ()) =>
 (jr.run m_ (a.1, b.1, ())).bind fun r =>
 ((bif r then bH.run m_ (a.2.1, b.2.1, ()) else some false)).bind fun r1 =>
 ((bif (r && r1) then bH.run m_ (a.2.2, b.2.2, ()) else some false)).bind fun r2 =>
 some ((r && r1) && r2)
theorem k (m_ : ah) : KT (O m_) [] ⟨8, [.ag WR, .ag WR], .one (.sh (.one .bool)), run m_⟩ [] := fun _ => by kernel_rfl
def c (m_ : ah) : CO P := co (k m_)
end iH

namespace aK
def O (m_ : ah) : OO P := gJ []
def e0 : Spec := ⟨[fs 49 [.q 116, .z 116, .b 0, .q 15] [(0, .s), (3, .u), (4, .w)]], [], 0⟩
def x0 : List Spec := [⟨[fs 49 [.q 15] [(3, .u)]], [], 0⟩]
abbrev A0 : Type := LI × Int × Int × Unit
abbrev B0 : Type := (Int × Unit)
def b0 (m_ : ah) (self : A0 -> Option B0) : A0 -> Option B0 := fun v_ => match v_ with
| (s, n, i, ()) =>
 bif aB (s.length : Int) then
 bif decide (i < (s.length : Int)) then
  bif inB i (s.length : Int) then
  self (s, (oJ .u64 (fA .u64 n 8) (IntKind.u64.wrap (rd 0 s i))), (IntKind.i64.wrap (i + 1)), ()) else none
 else
  some (n, ()) else none
theorem k0 (m_ : ah) : KQ 49 (O m_) [] e0 x0 [] (b0 m_) := fun _ _ => by kernel_rfl
def l0 (m_ : ah) : A0 -> Option B0 := loop m_ (b0 m_)
theorem q0 (v) : l0 .lim v = b0 .lim (l0 .lim) v := KS.q (k0 .lim) v
def s0 (m_ : ah) : SO P 49 := so m_ (k0 m_)
def run (m_ : ah) : (List Int) × Unit -> Option (Int) := fun v_ => match v_ with
| (s, ()) =>
 (aK.l0 m_ (s, 0, 0, ())).bind fun (n, ()) =>
 some n
theorem k (m_ : ah) : KT (O m_) [] ⟨49, [.one .str], .one (.sh (.one (.int .u64))), run m_⟩ [s0 m_] := fun _ => by kernel_rfl
def c (m_ : ah) : CO P := co (k m_)
end aK

namespace aU
def O (m_ : ah) : OO P := gJ [aK.c m_]
def o0 : bV := .c [.row Q_]
def e0 : Spec := ⟨[fs 27 [.q 56, .z 56, .b 0, .q 15] [(0, .s), (4, .own 5008 Q_)]], [(5008, o0)], 5009⟩
def x0 : List Spec := [⟨[fs 27 [.q 3621, .q 453, .b 1, .z 56, .b 0, .q 15] [(2, .pz), (3, .w)]], [], 0⟩, ⟨[fs 27 [.q 14517, .q 1815, .b 1, .z 56, .b 0, .q 15] [(2, .pz), (3, .w)]], [], 0⟩, ⟨[fs 27 [.q 29045, .q 3631, .b 1, .z 56, .b 0, .q 15] [(2, .pz), (3, .w)]], [], 0⟩, ⟨[fs 27 [.q 15] [(4, .own 0 Q_)]], [(0, o0)], 1⟩]
abbrev A0 : Type := LI × (List (Int × List Int)) × Unit
abbrev B0 : Type := (Int × Unit) ⊕ (Int × Unit) ⊕ (Int × Unit) ⊕ ((List (Int × List Int)) × Unit)
def b0 (m_ : ah) (self : A0 -> Option B0) : A0 -> Option B0 := fun v_ => match v_ with
| (s, m, ()) =>
 bif !(decide (s = ([] : List Int))) then
  bif aB (s.length : Int) then
  bif decide ((s.length : Int) < 4) then
   some (.inl (10, ()))
  else
   bif dG 2 4 (s.length : Int) then
   (aK.run m_ ((cut s 2 4), ())).bind fun r =>
   bif ((!(!(decide ((IntKind.i64.wrap r) < 16)))) || true) then
   bif ((!(!((decide ((IntKind.i64.wrap r) < 16)) || (!(decide (((IntKind.i64.wrap r).tmod 4) = 0)))))) || (aB (s.length : Int))) then
   bif (((decide ((IntKind.i64.wrap r) < 16)) || (!(decide (((IntKind.i64.wrap r).tmod 4) = 0)))) || (decide ((IntKind.i64.wrap r) > (s.length : Int)))) then
    some (.inr (.inl (10, ())))
   else
    bif aB (m.length : Int) then
    bif decide ((m.length : Int) = 16) then
     some (.inr (.inr (.inl (18, ()))))
    else
     bif dG 0 2 (s.length : Int) then
     (aK.run m_ ((cut s 0 2), ())).bind fun r1 =>
     bif dG 4 (IntKind.i64.wrap r) (s.length : Int) then
     bif decide (m.length + ([((IntKind.i64.wrap r1), (cut s 4 (IntKind.i64.wrap r)))] : List (Int × List Int)).length < 2932031007402) then
     bif dG (IntKind.i64.wrap r) (s.length : Int) (s.length : Int) then
     self ((cut s (IntKind.i64.wrap r) (s.length : Int)), (m ++ ([((IntKind.i64.wrap r1), (cut s 4 (IntKind.i64.wrap r)))] : List (Int × List Int))), ()) else none else none else none else none else none else none else none else none else none
 else
  some (.inr (.inr (.inr (m, ()))))
theorem k0 (m_ : ah) : KQ 27 (O m_) [] e0 x0 [] (b0 m_) := fun _ _ => by kernel_rfl
def l0 (m_ : ah) : A0 -> Option B0 := loop m_ (b0 m_)
theorem q0 (v) : l0 .lim v = b0 .lim (l0 .lim) v := KS.q (k0 .lim) v
def s0 (m_ : ah) : SO P 27 := so m_ (k0 m_)
def run (m_ : ah) : (List Int) × Unit -> Option ((List (Int × List Int)) × Int × Unit) := fun v_ => match v_ with
| (s, ()) =>
 (aU.l0 m_ (s, ([] : List (Int × List Int)), ())).bind fun g_ => match g_ with
 | .inl (t, ()) =>
  some (([] : List (Int × List Int)), t, ())
 | .inr (.inl (t1, ())) =>
  some (([] : List (Int × List Int)), t1, ())
 | .inr (.inr (.inl (t2, ()))) =>
  some (([] : List (Int × List Int)), t2, ())
 | .inr (.inr (.inr (m, ()))) =>
  some (m, 0, ())
theorem k (m_ : ah) : KT (O m_) [] ⟨27, [.one .str], .jL [.own Q_, .sh (.one (.int .i64))], run m_⟩ [s0 m_] := fun _ => by kernel_rfl
def c (m_ : ah) : CO P := co (k m_)
end aU

namespace iK
def O (m_ : ah) : OO P := gJ [bH.c m_, aU.c m_]
def run (m_ : ah) : (List Int) × (List (Int × List Int)) × Unit -> Option (Bool) := fun v_ => match v_ with
| (plain, l, ()) =>
 (aU.run m_ (plain, ())).bind fun (r, r1, ()) =>
 ((bif decide (r1 = 0) then bH.run m_ (r, l, ()) else some false)).bind fun r2 =>
 some ((decide (r1 = 0)) && r2)
theorem k (m_ : ah) : KT (O m_) [] ⟨9, [.one .str, .one AL], .one (.sh (.one .bool)), run m_⟩ [] := fun _ => by kernel_rfl
def c (m_ : ah) : CO P := co (k m_)
end iK

namespace aI
def O (m_ : ah) : OO P := gJ [aZ.c m_, bI.c m_, iU.c m_, iH.c m_, iK.c m_]
def o0 : bV := .c [.b, .dat y8]
def o1 : bV := .c [.w, .w, .w, .w, .w, .w, .dat (.int .u32), .dat (.int .u32), .dat (.int .u32), .u, .u, .u, .u, .dat AL, .dat AL, .dat AL]
def e0 : Spec := ⟨[fs 3 [.q 1012, .z 1012, .b 0, .q 127] [(1, .s), (2, .s), (3, .ptr 0 0), (7, .ptr 1 0), (9, .w), (49, .dat AL), (50, .w), (51, .w)]], [(0, o0), (1, o1)], 2⟩
def x0 : List Spec := [⟨[fs 3 [.q 127] [(1, .s), (2, .s), (3, .ptr 0 0), (7, .ptr 1 0), (9, .w)]], [(0, o0), (1, o1)], 2⟩]
abbrev A0 : Type := LI × LI × Int × (List (Int × List Int)) × Int × Int × Bool × (List (List Int × (List LI × (List Int × List Int)))) × Int × Int × Int × Int × Int × Int × Int × Int × Int × Int × Int × Int × Int × (List (Int × List Int)) × (List (Int × List Int)) × (List (Int × List Int)) × Unit
abbrev B0 : Type := (LI × LI × Int × Bool × (List (List Int × (List LI × (List Int × List Int)))) × Int × Int × Int × Int × Int × Int × Int × Int × Int × Int × Int × Int × Int × (List (Int × List Int)) × (List (Int × List Int)) × (List (Int × List Int)) × Unit)
def b0 (m_ : ah) (self : A0 -> Option B0) : A0 -> Option B0 := fun v_ => match v_ with
| (s, key, n, t, t1, t2, m, m1, m2, m3, m4, m5, m6, m7, m8, m9, m10, m11, m12, m13, m14, m15, m16, m17, ()) =>
 bif decide (t2 < t1) then
  bif inB t2 (t.length : Int) then
  bif aB (((rd ((0 : Int), ([] : List Int)) t t2).2).length : Int) then
  self (s, key, (IntKind.i64.wrap (n + (IntKind.i64.wrap (4 + (((rd ((0 : Int), ([] : List Int)) t t2).2).length : Int))))), t, t1, (IntKind.i64.wrap (t2 + 1)), m, m1, m2, m3, m4, m5, m6, m7, m8, m9, m10, m11, m12, m13, m14, m15, m16, m17, ()) else none else none
 else
  some (s, key, n, m, m1, m2, m3, m4, m5, m6, m7, m8, m9, m10, m11, m12, m13, m14, m15, m16, m17, ())
theorem k0 (m_ : ah) : KQ 3 (O m_) [] e0 x0 [] (b0 m_) := fun _ _ => by kernel_rfl
def l0 (m_ : ah) : A0 -> Option B0 := loop m_ (b0 m_)
theorem q0 (v) : l0 .lim v = b0 .lim (l0 .lim) v := KS.q (k0 .lim) v
def s0 (m_ : ah) : SO P 3 := so m_ (k0 m_)
def e1 : Spec := ⟨[fs 3 [.q 4084, .z 4084, .b 2, .q 511] [(1, .s), (2, .s), (7, .ptr 0 0), (9, .w), (67, .dat y8), (68, .w), (69, .w)]], [(0, o1)], 1⟩
def x1 : List Spec := [⟨[fs 3 [.q 1045709, .b 3, .q 32679, .z 4084, .b 2, .q 511] [(6, .b)]], [], 0⟩, ⟨[fs 3 [.q 511] []], [], 0⟩]
abbrev A1 : Type := LI × LI × Int × (List (List Int × (List LI × (List Int × List Int)))) × Int × Int × Int × Int × Int × Int × Int × Int × Int × Int × Int × Int × Int × Int × Int × (List (Int × List Int)) × (List (Int × List Int)) × (List (Int × List Int)) × Unit
abbrev B1 : Type := (Bool × Unit) ⊕ (Unit)
def b1 (m_ : ah) (self : A1 -> Option B1) : A1 -> Option B1 := fun v_ => match v_ with
| (s, key, n, t, t1, t2, m, m1, m2, m3, m4, m5, m6, m7, m8, m9, m10, m11, m12, m13, m14, m15, ()) =>
 bif decide (t2 < t1) then
  bif inB t2 (t.length : Int) then
  bif ((!(decide (((rd fU t t2).1) = key))) || (aB ((((rd fU t t2).2).1).length : Int))) then
  bif ((!((decide (((rd fU t t2).1) = key)) && (decide (((((rd fU t t2).2).1).length : Int) = 2)))) || (inB 0 ((((rd fU t t2).2).1).length : Int))) then
  bif ((!((decide (((rd fU t t2).1) = key)) && (decide (((((rd fU t t2).2).1).length : Int) = 2)))) || (dG 0 n (s.length : Int))) then
  ((bif (((decide (((rd fU t t2).1) = key)) && (decide (((((rd fU t t2).2).1).length : Int) = 2))) && (decide ((rd ([] : List Int) (((rd fU t t2).2).1) 0) = (cut s 0 n)))) then iK.run m_ ((((rd fU t t2).2).2).1, m15, ()) else some false)).bind fun r =>
  bif ((((decide (((rd fU t t2).1) = key)) && (decide (((((rd fU t t2).2).1).length : Int) = 2))) && (decide ((rd ([] : List Int) (((rd fU t t2).2).1) 0) = (cut s 0 n)))) && r) then
   (bI.run m_ (())).bind fun r1 =>
   some (.inl (r1, ()))
  else
   self (s, key, n, t, t1, (IntKind.i64.wrap (t2 + 1)), m, m1, m2, m3, m4, m5, m6, m7, m8, m9, m10, m11, m12, m13, m14, m15, ()) else none else none else none else none
 else
  some (.inr (()))
theorem k1 (m_ : ah) : KQ 3 (O m_) [] e1 x1 [] (b1 m_) := fun _ _ => by kernel_rfl
def l1 (m_ : ah) : A1 -> Option B1 := loop m_ (b1 m_)
theorem q1 (v) : l1 .lim v = b1 .lim (l1 .lim) v := KS.q (k1 .lim) v
def s1 (m_ : ah) : SO P 3 := so m_ (k1 m_)
def run (m_ : ah) : P8 × (List Int) × (List Int) × Unit -> Option (Bool) := fun v_ => match v_ with
| (v, s, key, ()) =>
 ((bif !!v.1 then aZ.run m_ (v, ([] : List (List (Int × List Int))), ()) else some false)).bind fun r =>
 bif ((!(!(!v.1 || !r))) || (aB (s.length : Int))) then
 bif ((!(!((!v.1 || !r) || (decide ((s.length : Int) > 5000))))) || (aB (key.length : Int))) then
 bif (((!v.1 || !r) || (decide ((s.length : Int) > 5000))) || (decide ((key.length : Int) > 100))) then
  (bI.run m_ (())).bind fun r1 =>
  some r1
 else
  (iU.run m_ (v, s, key, ())).bind fun (r2, r3, ()) =>
  bif !(decide (r3 = 0)) then
   (iH.run m_ (r2, ((0, (0, (0, (0, (0, (0, (0, (0, (0, (0, (0, (0, (0, ([] : List (Int × List Int))))))))))))))), Dq), ())).bind fun r4 =>
   ((bif r4 then bI.run m_ (()) else some false)).bind fun r5 =>
   some (r4 && r5)
  else
   bif aB (r2.2.1.length : Int) then
   (aI.l0 m_ (s, key, 48, r2.2.1, (r2.2.1.length : Int), 0, v.1, v.2, r2.1.1, r2.1.2.1, r2.1.2.2.1, r2.1.2.2.2.1, r2.1.2.2.2.2.1, r2.1.2.2.2.2.2.1, r2.1.2.2.2.2.2.2.1, r2.1.2.2.2.2.2.2.2.1, r2.1.2.2.2.2.2.2.2.2.1, r2.1.2.2.2.2.2.2.2.2.2.1, r2.1.2.2.2.2.2.2.2.2.2.2.1, r2.1.2.2.2.2.2.2.2.2.2.2.2.1, r2.1.2.2.2.2.2.2.2.2.2.2.2.2.1, r2.1.2.2.2.2.2.2.2.2.2.2.2.2.2, r2.2.1, r2.2.2, ())).bind fun (s1, key1, n, m, m1, m2, m3, m4, m5, m6, m7, m8, m9, m10, m11, m12, m13, m14, m15, m16, m17, ()) =>
   bif aB (s1.length : Int) then
   bif decide (n > (s1.length : Int)) then
    some false
   else
    bif aB (m1.length : Int) then
    (aI.l1 m_ (s1, key1, n, m1, (m1.length : Int), 0, m2, m3, m4, m5, m6, m7, m8, m9, m10, m11, m12, m13, m14, m15, m16, m17, ())).bind fun g_ => match g_ with
    | .inl (t, ()) =>
     some t
    | .inr (()) =>
     some false else none else none else none else none else none
theorem k (m_ : ah) : KT (O m_) [] ⟨3, [.ag y9, .one .str, .one .str], .one (.sh (.one .bool)), run m_⟩ [s0 m_, s1 m_] := fun _ => by kernel_rfl
def c (m_ : ah) : CO P := co (k m_)
end aI

namespace gu
def O (m_ : ah) : OO P := gJ []
def run (m_ : ah) : Int × Unit -> Option (Int) := fun v_ => match v_ with
| (c, ()) =>
 bif decide (c > 127) then
  some (IntKind.i64.wrap ((IntKind.i64.wrap c) - 256))
 else
  some (IntKind.i64.wrap c)
theorem k (m_ : ah) : KT (O m_) [] ⟨50, [.one (.int .u8)], .one (.sh (.one (.int .i64))), run m_⟩ [] := fun _ => by kernel_rfl
def c (m_ : ah) : CO P := co (k m_)
end gu

namespace jv
def O (m_ : ah) : OO P := gJ [aU.c m_, aK.c m_, gu.c m_]
def run (m_ : ah) : (List Int) × Unit -> Option (DT1 × Int × Unit) := fun v_ => match v_ with
| (s, ()) =>
 bif aB (s.length : Int) then
 bif decide ((s.length : Int) < 48) then
  some ((0, (0, (0, (0, (0, (0, (0, (0, (0, (0, (0, (0, (0, ([] : List (Int × List Int))))))))))))))), 11, ())
 else
  bif aB (s.length : Int) then
  bif decide ((s.length : Int) > 1280) then
   some ((0, (0, (0, (0, (0, (0, (0, (0, (0, (0, (0, (0, (0, ([] : List (Int × List Int))))))))))))))), 12, ())
  else
   bif dG 48 (s.length : Int) (s.length : Int) then
   (aU.run m_ ((cut s 48 (s.length : Int)), ())).bind fun (r, r1, ()) =>
   bif !(decide (r1 = 0)) then
    some ((0, (0, (0, (0, (0, (0, (0, (0, (0, (0, (0, (0, (0, ([] : List (Int × List Int))))))))))))))), r1, ())
   else
    bif inB 0 (s.length : Int) then
    bif inB 0 (s.length : Int) then
    bif inB 0 (s.length : Int) then
    bif inB 1 (s.length : Int) then
    bif inB 2 (s.length : Int) then
    (gu.run m_ ((rd 0 s 2), ())).bind fun r2 =>
    bif inB 3 (s.length : Int) then
    (gu.run m_ ((rd 0 s 3), ())).bind fun r3 =>
    bif dG 4 8 (s.length : Int) then
    (aK.run m_ ((cut s 4 8), ())).bind fun r4 =>
    bif dG 8 12 (s.length : Int) then
    (aK.run m_ ((cut s 8 12), ())).bind fun r5 =>
    bif dG 12 16 (s.length : Int) then
    (aK.run m_ ((cut s 12 16), ())).bind fun r6 =>
    bif dG 16 24 (s.length : Int) then
    (aK.run m_ ((cut s 16 24), ())).bind fun r7 =>
    bif dG 24 32 (s.length : Int) then
    (aK.run m_ ((cut s 24 32), ())).bind fun r8 =>
    bif dG 32 40 (s.length : Int) then
    (aK.run m_ ((cut s 32 40), ())).bind fun r9 =>
    bif dG 40 48 (s.length : Int) then
    (aK.run m_ ((cut s 40 48), ())).bind fun r10 =>
    some (((IntKind.i64.wrap (jc .u8 (rd 0 s 0) 6)), ((IntKind.i64.wrap (gB .u8 (jc .u8 (rd 0 s 0) 3) 7)), ((IntKind.i64.wrap (gB .u8 (rd 0 s 0) 7)), ((IntKind.i64.wrap (rd 0 s 1)), (r2, (r3, ((IntKind.u32.wrap r4), ((IntKind.u32.wrap r5), ((IntKind.u32.wrap r6), (r7, (r8, (r9, (r10, r))))))))))))), 0, ()) else none else none else none else none else none else none else none else none else none else none else none else none else none else none else none else none
theorem k (m_ : ah) : KT (O m_) [] ⟨28, [.one .str], .jL [.sh (.ag Oc), .sh (.one (.int .i64))], run m_⟩ [] := fun _ => by kernel_rfl
def c (m_ : ah) : CO P := co (k m_)
end jv

namespace cZ
def O (m_ : ah) : OO P := gJ []
def e0 : Spec := ⟨[fs 29 [.q 116, .z 116, .b 0, .q 15] [(0, .dat AL), (1, .w), (5, .own 5009 (.int .i64)), (6, .w)]], [(5009, .c [.row (.int .i64)])], 5010⟩
def x0 : List Spec := [⟨[fs 29 [.q 15] [(5, .own 0 (.int .i64))]], [(0, .c [.row (.int .i64)])], 1⟩]
abbrev A0 : Type := (List (Int × List Int)) × Int × Int × LI × Unit
abbrev B0 : Type := (LI × Unit)
def b0 (m_ : ah) (self : A0 -> Option B0) : A0 -> Option B0 := fun v_ => match v_ with
| (l, kind, i, m, ()) =>
 bif aB (l.length : Int) then
 bif decide (i < (l.length : Int)) then
  bif inB i (l.length : Int) then
  bif decide (((rd ((0 : Int), ([] : List Int)) l i).1) = kind) then
   bif decide (m.length + ([i] : List Int).length < 8796093022208) then
   self (l, kind, (IntKind.i64.wrap (i + 1)), (m ++ ([i] : List Int)), ()) else none
  else
   self (l, kind, (IntKind.i64.wrap (i + 1)), m, ()) else none
 else
  some (m, ()) else none
theorem k0 (m_ : ah) : KQ 29 (O m_) [] e0 x0 [] (b0 m_) := fun _ _ => by kernel_rfl
def l0 (m_ : ah) : A0 -> Option B0 := loop m_ (b0 m_)
theorem q0 (v) : l0 .lim v = b0 .lim (l0 .lim) v := KS.q (k0 .lim) v
def s0 (m_ : ah) : SO P 29 := so m_ (k0 m_)
def run (m_ : ah) : (List (Int × List Int)) × Int × Unit -> Option (List Int) := fun v_ => match v_ with
| (l, kind, ()) =>
 (cZ.l0 m_ (l, kind, 0, ([] : List Int), ())).bind fun (m, ()) =>
 some m
theorem k (m_ : ah) : KT (O m_) [] ⟨29, [.one AL, .one (.int .i64)], .one (.own (.int .i64)), run m_⟩ [s0 m_] := fun _ => by kernel_rfl
def c (m_ : ah) : CO P := co (k m_)
end cZ

namespace dh
def O (m_ : ah) : OO P := gJ []
def e0 : Spec := ⟨[fs 35 [.q 24, .z 24, .b 0, .q 7] [(0, .s)]], [], 0⟩
def x0 : List Spec := [⟨[fs 35 [.q 7] [(0, .s)]], [], 0⟩]
abbrev A0 : Type := LI × Unit
abbrev B0 : Type := (LI × Unit)
def b0 (m_ : ah) (self : A0 -> Option B0) : A0 -> Option B0 := fun v_ => match v_ with
| (s, ()) =>
 bif aB (s.length : Int) then
 bif !(decide (((s.length : Int).tmod 4) = 0)) then
  bif decide (s.length + ([0] : List Int).length <= maxStr) then
  self ((s ++ ([0] : List Int)), ()) else none
 else
  some (s, ()) else none
theorem k0 (m_ : ah) : KQ 35 (O m_) [] e0 x0 [] (b0 m_) := fun _ _ => by kernel_rfl
def l0 (m_ : ah) : A0 -> Option B0 := loop m_ (b0 m_)
theorem q0 (v) : l0 .lim v = b0 .lim (l0 .lim) v := KS.q (k0 .lim) v
def s0 (m_ : ah) : SO P 35 := so m_ (k0 m_)
def run (m_ : ah) : (List Int) × Unit -> Option (List Int) := fun v_ => match v_ with
| (s, ()) =>
 (dh.l0 m_ (s, ())).bind fun (s1, ()) =>
 some s1
theorem k (m_ : ah) : KT (O m_) [] ⟨35, [.one .str], .one (.sh (.one .str)), run m_⟩ [s0 m_] := fun _ => by kernel_rfl
def c (m_ : ah) : CO P := co (k m_)
end dh

namespace gZ
def O (m_ : ah) : OO P := gJ [dh.c m_]
def run (m_ : ah) : (List Int) × Unit -> Option ((List Int) × (List Int) × Int × Unit) := fun v_ => match v_ with
| (body, ()) =>
 bif aB (body.length : Int) then
 bif decide ((body.length : Int) < 4) then
  some (([] : List Int), ([] : List Int), 11, ())
 else
  bif inB 0 (body.length : Int) then
  bif inB 1 (body.length : Int) then
  bif inB 2 (body.length : Int) then
  bif inB 3 (body.length : Int) then
  bif ((!(!(!(decide ((IntKind.i64.wrap ((IntKind.i64.wrap ((IntKind.i64.wrap (rd 0 body 0)) * 256)) + (IntKind.i64.wrap (rd 0 body 1)))) = 16))))) || (aB (body.length : Int))) then
  bif ((!(decide ((IntKind.i64.wrap ((IntKind.i64.wrap ((IntKind.i64.wrap (rd 0 body 0)) * 256)) + (IntKind.i64.wrap (rd 0 body 1)))) = 16))) || (decide ((body.length : Int) < (IntKind.i64.wrap ((IntKind.i64.wrap (4 + (IntKind.i64.wrap ((IntKind.i64.wrap ((IntKind.i64.wrap (rd 0 body 0)) * 256)) + (IntKind.i64.wrap (rd 0 body 1)))))) + (IntKind.i64.wrap ((IntKind.i64.wrap ((IntKind.i64.wrap (rd 0 body 2)) * 256)) + (IntKind.i64.wrap (rd 0 body 3))))))))) then
   some (([] : List Int), ([] : List Int), 10, ())
  else
   bif dG (IntKind.i64.wrap (4 + (IntKind.i64.wrap ((IntKind.i64.wrap ((IntKind.i64.wrap (rd 0 body 0)) * 256)) + (IntKind.i64.wrap (rd 0 body 1)))))) (IntKind.i64.wrap ((IntKind.i64.wrap (4 + (IntKind.i64.wrap ((IntKind.i64.wrap ((IntKind.i64.wrap (rd 0 body 0)) * 256)) + (IntKind.i64.wrap (rd 0 body 1)))))) + (IntKind.i64.wrap ((IntKind.i64.wrap ((IntKind.i64.wrap (rd 0 body 2)) * 256)) + (IntKind.i64.wrap (rd 0 body 3)))))) (body.length : Int) then
   bif dG (IntKind.i64.wrap (4 + (IntKind.i64.wrap ((IntKind.i64.wrap ((IntKind.i64.wrap (rd 0 body 0)) * 256)) + (IntKind.i64.wrap (rd 0 body 1)))))) (body.length : Int) (body.length : Int) then
   (dh.run m_ ((cut body (IntKind.i64.wrap (4 + (IntKind.i64.wrap ((IntKind.i64.wrap ((IntKind.i64.wrap (rd 0 body 0)) * 256)) + (IntKind.i64.wrap (rd 0 body 1)))))) (IntKind.i64.wrap ((IntKind.i64.wrap (4 + (IntKind.i64.wrap ((IntKind.i64.wrap ((IntKind.i64.wrap (rd 0 body 0)) * 256)) + (IntKind.i64.wrap (rd 0 body 1)))))) + (IntKind.i64.wrap ((IntKind.i64.wrap ((IntKind.i64.wrap (rd 0 body 2)) * 256)) + (IntKind.i64.wrap (rd 0 body 3))))))), ())).bind fun r =>
   bif !(decide ((cut body (IntKind.i64.wrap (4 + (IntKind.i64.wrap ((IntKind.i64.wrap ((IntKind.i64.wrap (rd 0 body 0)) * 256)) + (IntKind.i64.wrap (rd 0 body 1)))))) (body.length : Int)) = r)) then
    some (([] : List Int), ([] : List Int), 10, ())
   else
    bif dG 4 (IntKind.i64.wrap (4 + (IntKind.i64.wrap ((IntKind.i64.wrap ((IntKind.i64.wrap (rd 0 body 0)) * 256)) + (IntKind.i64.wrap (rd 0 body 1)))))) (body.length : Int) then
    some ((cut body 4 (IntKind.i64.wrap (4 + (IntKind.i64.wrap ((IntKind.i64.wrap ((IntKind.i64.wrap (rd 0 body 0)) * 256)) + (IntKind.i64.wrap (rd 0 body 1))))))), (cut body (IntKind.i64.wrap (4 + (IntKind.i64.wrap ((IntKind.i64.wrap ((IntKind.i64.wrap (rd 0 body 0)) * 256)) + (IntKind.i64.wrap (rd 0 body 1)))))) (IntKind.i64.wrap ((IntKind.i64.wrap (4 + (IntKind.i64.wrap ((IntKind.i64.wrap ((IntKind.i64.wrap (rd 0 body 0)) * 256)) + (IntKind.i64.wrap (rd 0 body 1)))))) + (IntKind.i64.wrap ((IntKind.i64.wrap ((IntKind.i64.wrap (rd 0 body 2)) * 256)) + (IntKind.i64.wrap (rd 0 body 3))))))), 0, ()) else none else none else none else none else none else none else none else none else none
theorem k (m_ : ah) : KT (O m_) [] ⟨12, [.one .str], .jL [.sh (.one .str), .sh (.one .str), .sh (.one (.int .i64))], run m_⟩ [] := fun v_ => match v_ with | (body, ()) => by kernel_rfl
def c (m_ : ah) : CO P := co (k m_)
end gZ

namespace iD
def O (m_ : ah) : OO P := gJ []
def run (m_ : ah) : (List Int) × (List (List Int)) × Unit -> Option (Int) := fun v_ => match v_ with
| (key, ad, ()) =>
 bif aB (key.length : Int) then
 bif ((!(!(decide ((key.length : Int) = 32)))) || (aB (key.length : Int))) then
 bif ((!(decide ((key.length : Int) = 32))) && (!(decide ((key.length : Int) = 64)))) then
  some 13
 else
  bif aB (ad.length : Int) then
  bif decide ((ad.length : Int) >= 127) then
   some 18
  else
   some 0 else none else none else none
theorem k (m_ : ah) : KT (O m_) [] ⟨62, [.one .str, .one (.lst .str)], .one (.sh (.one (.int .i64))), run m_⟩ [] := fun _ => by kernel_rfl
def c (m_ : ah) : CO P := co (k m_)
end iD

namespace iV
def O (m_ : ah) : OO P := gJ []
def run (m_ : ah) : (List Int) × Unit -> Option (Bool) := fun v_ => match v_ with
| (key, ()) =>
 bif aB (key.length : Int) then
 bif ((!(!(decide ((key.length : Int) = 16)))) || (aB (key.length : Int))) then
 some ((decide ((key.length : Int) = 16)) || (decide ((key.length : Int) = 32))) else none else none
theorem k (m_ : ah) : KT (O m_) [] ⟨87, [.one .str], .one (.sh (.one .bool)), run m_⟩ [] := fun _ => by kernel_rfl
def c (m_ : ah) : CO P := co (k m_)
end iV

namespace fG
def O (m_ : ah) : OO P := gJ [iV.c m_]
def run (m_ : ah) : (List Int) × (List Int) × Unit -> Option (Int) := fun v_ => match v_ with
| (key, block, ()) =>
 (iV.run m_ (key, ())).bind fun r =>
 bif !r then
  some 13
 else
  bif aB (block.length : Int) then
  bif !(decide ((block.length : Int) = 16)) then
   some 10
  else
   some 0 else none
theorem k (m_ : ah) : KT (O m_) [] ⟨78, [.one .str, .one .str], .one (.sh (.one (.int .i64))), run m_⟩ [] := fun _ => by kernel_rfl
def c (m_ : ah) : CO P := co (k m_)
end fG

namespace bU
def O (m_ : ah) : OO P := gJ []
def run (m_ : ah) : Int × Unit -> Option (Int) := fun v_ => match v_ with
| (b, ()) =>
 bif inB b (([99, 124, 119, 123, 242, 107, 111, 197, 48, 1, 103, 43, 254, 215, 171, 118, 202, 130, 201, 125, 250, 89, 71, 240, 173, 212, 162, 175, 156, 164, 114, 192, 183, 253, 147, 38, 54, 63, 247, 204, 52, 165, 229, 241, 113, 216, 49, 21, 4, 199, 35, 195, 24, 150, 5, 154, 7, 18, 128, 226, 235, 39, 178, 117, 9, 131, 44, 26, 27, 110, 90, 160, 82, 59, 214, 179, 41, 227, 47, 132, 83, 209, 0, 237, 32, 252, 177, 91, 106, 203, 190, 57, 74, 76, 88, 207, 208, 239, 170, 251, 67, 77, 51, 133, 69, 249, 2, 127, 80, 60, 159, 168, 81, 163, 64, 143, 146, 157, 56, 245, 188, 182, 218, 33, 16, 255, 243, 210, 205, 12, 19, 236, 95, 151, 68, 23, 196, 167, 126, 61, 100, 93, 25, 115, 96, 129, 79, 220, 34, 42, 144, 136, 70, 238, 184, 20, 222, 94, 11, 219, 224, 50, 58, 10, 73, 6, 36, 92, 194, 211, 172, 98, 145, 149, 228, 121, 231, 200, 55, 109, 141, 213, 78, 169, 108, 86, 244, 234, 101, 122, 174, 8, 186, 120, 37, 46, 28, 166, 180, 198, 232, 221, 116, 31, 75, 189, 139, 138, 112, 62, 181, 102, 72, 3, 246, 14, 97, 53, 87, 185, 134, 193, 29, 158, 225, 248, 152, 17, 105, 217, 142, 148, 155, 30, 135, 233, 206, 85, 40, 223, 140, 161, 137, 13, 191, 230, 66, 104, 65, 153, 45, 15, 176, 84, 187, 22] : List Int).length : Int) then
 some (rd 0 ([99, 124, 119, 123, 242, 107, 111, 197, 48, 1, 103, 43, 254, 215, 171, 118, 202, 130, 201, 125, 250, 89, 71, 240, 173, 212, 162, 175, 156, 164, 114, 192, 183, 253, 147, 38, 54, 63, 247, 204, 52, 165, 229, 241, 113, 216, 49, 21, 4, 199, 35, 195, 24, 150, 5, 154, 7, 18, 128, 226, 235, 39, 178, 117, 9, 131, 44, 26, 27, 110, 90, 160, 82, 59, 214, 179, 41, 227, 47, 132, 83, 209, 0, 237, 32, 252, 177, 91, 106, 203, 190, 57, 74, 76, 88, 207, 208, 239, 170, 251, 67, 77, 51, 133, 69, 249, 2, 127, 80, 60, 159, 168, 81, 163, 64, 143, 146, 157, 56, 245, 188, 182, 218, 33, 16, 255, 243, 210, 205, 12, 19, 236, 95, 151, 68, 23, 196, 167, 126, 61, 100, 93, 25, 115, 96, 129, 79, 220, 34, 42, 144, 136, 70, 238, 184, 20, 222, 94, 11, 219, 224, 50, 58, 10, 73, 6, 36, 92, 194, 211, 172, 98, 145, 149, 228, 121, 231, 200, 55, 109, 141, 213, 78, 169, 108, 86, 244, 234, 101, 122, 174, 8, 186, 120, 37, 46, 28, 166, 180, 198, 232, 221, 116, 31, 75, 189, 139, 138, 112, 62, 181, 102, 72, 3, 246, 14, 97, 53, 87, 185, 134, 193, 29, 158, 225, 248, 152, 17, 105, 217, 142, 148, 155, 30, 135, 233, 206, 85, 40, 223, 140, 161, 137, 13, 191, 230, 66, 104, 65, 153, 45, 15, 176, 84, 187, 22] : List Int) b) else none
theorem k (m_ : ah) : KT (O m_) [] ⟨88, [.one (.int .u8)], .one (.sh (.one (.int .u8))), run m_⟩ [] := fun _ => by kernel_rfl
def c (m_ : ah) : CO P := co (k m_)
end bU

namespace cO
def O (m_ : ah) : OO P := gJ []
def e0 : Spec := ⟨[fs 89 [.q 116, .z 116, .b 0, .q 15] [(0, .y), (1, .y), (5, .y), (6, .w)]], [], 0⟩
def x0 : List Spec := [⟨[fs 89 [.q 15] [(5, .y)]], [], 0⟩]
abbrev A0 : Type := Int × Int × Int × Int × Unit
abbrev B0 : Type := (Int × Unit)
def b0 (m_ : ah) (self : A0 -> Option B0) : A0 -> Option B0 := fun v_ => match v_ with
| (a, b, r, i, ()) =>
 bif decide (i < 8) then
  bif decide ((gB .u8 b 1) = 1) then
   bif !(decide ((gB .u8 a 128) = 0)) then
    self ((dP .u8 (fA .u8 a 1) 27), (jc .u8 b 1), (dP .u8 r a), (IntKind.i64.wrap (i + 1)), ())
   else
    self ((fA .u8 a 1), (jc .u8 b 1), (dP .u8 r a), (IntKind.i64.wrap (i + 1)), ())
  else
   bif !(decide ((gB .u8 a 128) = 0)) then
    self ((dP .u8 (fA .u8 a 1) 27), (jc .u8 b 1), r, (IntKind.i64.wrap (i + 1)), ())
   else
    self ((fA .u8 a 1), (jc .u8 b 1), r, (IntKind.i64.wrap (i + 1)), ())
 else
  some (r, ())
theorem k0 (m_ : ah) : KQ 89 (O m_) [] e0 x0 [] (b0 m_) := fun _ _ => by kernel_rfl
def l0 (m_ : ah) : A0 -> Option B0 := loop m_ (b0 m_)
theorem q0 (v) : l0 .lim v = b0 .lim (l0 .lim) v := KS.q (k0 .lim) v
def s0 (m_ : ah) : SO P 89 := so m_ (k0 m_)
def run (m_ : ah) : Int × Int × Unit -> Option (Int) := fun v_ => match v_ with
| (a, b, ()) =>
 (cO.l0 m_ (a, b, 0, 0, ())).bind fun (r, ()) =>
 some r
theorem k (m_ : ah) : KT (O m_) [] ⟨89, [.one (.int .u8), .one (.int .u8)], .one (.sh (.one (.int .u8))), run m_⟩ [s0 m_] := fun _ => by kernel_rfl
def c (m_ : ah) : CO P := co (k m_)
end cO

namespace aO
def O (m_ : ah) : OO P := gJ [bU.c m_, cO.c m_]
def e0 : Spec := ⟨[fs 79 [.q 128156, .z 128156, .b 2, .b 1, .q 2003, .z 500, .b 0, .q 63] [(3, .w), (4, .oy 0), (5, .y), (6, .w), (7, .oy 1), (8, .w)]], [(0, .c [.ry]), (1, .c [.ry])], 2⟩
def x0 : List Spec := [⟨[fs 79 [.q 2003, .z 500, .b 0, .q 63] [(3, .w), (4, .oy 0), (5, .y), (6, .w)]], [(0, .c [.ry])], 1⟩]
abbrev A0 : Type := Int × Int × Int × Int × LI × LI × Unit
abbrev B0 : Type := (Int × Int × Int × LI × Unit)
def b0 (m_ : ah) (self : A0 -> Option B0) : A0 -> Option B0 := fun v_ => match v_ with
| (nk, c, i, k, m, m1, ()) =>
 bif decide (k < 4) then
  bif inB (IntKind.i64.wrap ((IntKind.i64.wrap (4 * (IntKind.i64.wrap (i - nk)))) + k)) (m.length : Int) then
  bif inB k (m1.length : Int) then
  bif decide (m.length + ([(dP .u8 (rd 0 m (IntKind.i64.wrap ((IntKind.i64.wrap (4 * (IntKind.i64.wrap (i - nk)))) + k))) (rd 0 m1 k))] : List Int).length < 70368744177664) then
  self (nk, c, i, (IntKind.i64.wrap (k + 1)), (m ++ ([(dP .u8 (rd 0 m (IntKind.i64.wrap ((IntKind.i64.wrap (4 * (IntKind.i64.wrap (i - nk)))) + k))) (rd 0 m1 k))] : List Int)), m1, ()) else none else none else none
 else
  some (nk, c, i, m, ())
theorem k0 (m_ : ah) : KQ 79 (O m_) [] e0 x0 [] (b0 m_) := fun _ _ => by kernel_rfl
def l0 (m_ : ah) : A0 -> Option B0 := loop m_ (b0 m_)
theorem q0 (v) : l0 .lim v = b0 .lim (l0 .lim) v := KS.q (k0 .lim) v
def s0 (m_ : ah) : SO P 79 := so m_ (k0 m_)
def e1 : Spec := ⟨[fs 79 [.q 500, .z 500, .b 0, .q 63] [(3, .w), (4, .oy 0), (5, .y), (6, .w)]], [(0, .c [.ry])], 1⟩
def x1 : List Spec := [⟨[fs 79 [.q 63] [(4, .oy 0)]], [(0, .c [.ry])], 1⟩]
abbrev A1 : Type := Int × Int × Int × LI × Unit
abbrev B1 : Type := (LI × Unit)
def b1 (m_ : ah) (self : A1 -> Option B1) : A1 -> Option B1 := fun v_ => match v_ with
| (nk, c, i, m, ()) =>
 bif decide (i < (IntKind.i64.wrap (4 * (IntKind.i64.wrap (nk + 7))))) then
  bif inB (IntKind.i64.wrap ((IntKind.i64.wrap (4 * i)) - 4)) (m.length : Int) then
  bif inB (IntKind.i64.wrap ((IntKind.i64.wrap (4 * i)) - 3)) (m.length : Int) then
  bif inB (IntKind.i64.wrap ((IntKind.i64.wrap (4 * i)) - 2)) (m.length : Int) then
  bif inB (IntKind.i64.wrap ((IntKind.i64.wrap (4 * i)) - 1)) (m.length : Int) then
  bif !(decide (nk = 0)) then
  bif decide ((i.tmod nk) = 0) then
   bif inB 1 (([(rd 0 m (IntKind.i64.wrap ((IntKind.i64.wrap (4 * i)) - 4))), (rd 0 m (IntKind.i64.wrap ((IntKind.i64.wrap (4 * i)) - 3))), (rd 0 m (IntKind.i64.wrap ((IntKind.i64.wrap (4 * i)) - 2))), (rd 0 m (IntKind.i64.wrap ((IntKind.i64.wrap (4 * i)) - 1)))] : List Int).length : Int) then
   (bU.run m_ ((rd 0 ([(rd 0 m (IntKind.i64.wrap ((IntKind.i64.wrap (4 * i)) - 4))), (rd 0 m (IntKind.i64.wrap ((IntKind.i64.wrap (4 * i)) - 3))), (rd 0 m (IntKind.i64.wrap ((IntKind.i64.wrap (4 * i)) - 2))), (rd 0 m (IntKind.i64.wrap ((IntKind.i64.wrap (4 * i)) - 1)))] : List Int) 1), ())).bind fun r =>
   bif inB 2 (([(rd 0 m (IntKind.i64.wrap ((IntKind.i64.wrap (4 * i)) - 4))), (rd 0 m (IntKind.i64.wrap ((IntKind.i64.wrap (4 * i)) - 3))), (rd 0 m (IntKind.i64.wrap ((IntKind.i64.wrap (4 * i)) - 2))), (rd 0 m (IntKind.i64.wrap ((IntKind.i64.wrap (4 * i)) - 1)))] : List Int).length : Int) then
   (bU.run m_ ((rd 0 ([(rd 0 m (IntKind.i64.wrap ((IntKind.i64.wrap (4 * i)) - 4))), (rd 0 m (IntKind.i64.wrap ((IntKind.i64.wrap (4 * i)) - 3))), (rd 0 m (IntKind.i64.wrap ((IntKind.i64.wrap (4 * i)) - 2))), (rd 0 m (IntKind.i64.wrap ((IntKind.i64.wrap (4 * i)) - 1)))] : List Int) 2), ())).bind fun r1 =>
   bif inB 3 (([(rd 0 m (IntKind.i64.wrap ((IntKind.i64.wrap (4 * i)) - 4))), (rd 0 m (IntKind.i64.wrap ((IntKind.i64.wrap (4 * i)) - 3))), (rd 0 m (IntKind.i64.wrap ((IntKind.i64.wrap (4 * i)) - 2))), (rd 0 m (IntKind.i64.wrap ((IntKind.i64.wrap (4 * i)) - 1)))] : List Int).length : Int) then
   (bU.run m_ ((rd 0 ([(rd 0 m (IntKind.i64.wrap ((IntKind.i64.wrap (4 * i)) - 4))), (rd 0 m (IntKind.i64.wrap ((IntKind.i64.wrap (4 * i)) - 3))), (rd 0 m (IntKind.i64.wrap ((IntKind.i64.wrap (4 * i)) - 2))), (rd 0 m (IntKind.i64.wrap ((IntKind.i64.wrap (4 * i)) - 1)))] : List Int) 3), ())).bind fun r2 =>
   bif inB 0 (([(rd 0 m (IntKind.i64.wrap ((IntKind.i64.wrap (4 * i)) - 4))), (rd 0 m (IntKind.i64.wrap ((IntKind.i64.wrap (4 * i)) - 3))), (rd 0 m (IntKind.i64.wrap ((IntKind.i64.wrap (4 * i)) - 2))), (rd 0 m (IntKind.i64.wrap ((IntKind.i64.wrap (4 * i)) - 1)))] : List Int).length : Int) then
   (bU.run m_ ((rd 0 ([(rd 0 m (IntKind.i64.wrap ((IntKind.i64.wrap (4 * i)) - 4))), (rd 0 m (IntKind.i64.wrap ((IntKind.i64.wrap (4 * i)) - 3))), (rd 0 m (IntKind.i64.wrap ((IntKind.i64.wrap (4 * i)) - 2))), (rd 0 m (IntKind.i64.wrap ((IntKind.i64.wrap (4 * i)) - 1)))] : List Int) 0), ())).bind fun r3 =>
   (cO.run m_ (c, 2, ())).bind fun r4 =>
   (aO.l0 m_ (nk, r4, i, 0, m, ([(dP .u8 r c), r1, r2, r3] : List Int), ())).bind fun (nk1, c1, i1, m1, ()) =>
   self (nk1, c1, (IntKind.i64.wrap (i1 + 1)), m1, ()) else none else none else none else none
  else
   bif ((!(decide (nk = 8))) || true) then
   bif ((decide (nk = 8)) && (decide ((i.tmod 8) = 4))) then
    bif inB 0 (([(rd 0 m (IntKind.i64.wrap ((IntKind.i64.wrap (4 * i)) - 4))), (rd 0 m (IntKind.i64.wrap ((IntKind.i64.wrap (4 * i)) - 3))), (rd 0 m (IntKind.i64.wrap ((IntKind.i64.wrap (4 * i)) - 2))), (rd 0 m (IntKind.i64.wrap ((IntKind.i64.wrap (4 * i)) - 1)))] : List Int).length : Int) then
    (bU.run m_ ((rd 0 ([(rd 0 m (IntKind.i64.wrap ((IntKind.i64.wrap (4 * i)) - 4))), (rd 0 m (IntKind.i64.wrap ((IntKind.i64.wrap (4 * i)) - 3))), (rd 0 m (IntKind.i64.wrap ((IntKind.i64.wrap (4 * i)) - 2))), (rd 0 m (IntKind.i64.wrap ((IntKind.i64.wrap (4 * i)) - 1)))] : List Int) 0), ())).bind fun r5 =>
    bif inB 1 (([(rd 0 m (IntKind.i64.wrap ((IntKind.i64.wrap (4 * i)) - 4))), (rd 0 m (IntKind.i64.wrap ((IntKind.i64.wrap (4 * i)) - 3))), (rd 0 m (IntKind.i64.wrap ((IntKind.i64.wrap (4 * i)) - 2))), (rd 0 m (IntKind.i64.wrap ((IntKind.i64.wrap (4 * i)) - 1)))] : List Int).length : Int) then
    (bU.run m_ ((rd 0 ([(rd 0 m (IntKind.i64.wrap ((IntKind.i64.wrap (4 * i)) - 4))), (rd 0 m (IntKind.i64.wrap ((IntKind.i64.wrap (4 * i)) - 3))), (rd 0 m (IntKind.i64.wrap ((IntKind.i64.wrap (4 * i)) - 2))), (rd 0 m (IntKind.i64.wrap ((IntKind.i64.wrap (4 * i)) - 1)))] : List Int) 1), ())).bind fun r6 =>
    bif inB 2 (([(rd 0 m (IntKind.i64.wrap ((IntKind.i64.wrap (4 * i)) - 4))), (rd 0 m (IntKind.i64.wrap ((IntKind.i64.wrap (4 * i)) - 3))), (rd 0 m (IntKind.i64.wrap ((IntKind.i64.wrap (4 * i)) - 2))), (rd 0 m (IntKind.i64.wrap ((IntKind.i64.wrap (4 * i)) - 1)))] : List Int).length : Int) then
    (bU.run m_ ((rd 0 ([(rd 0 m (IntKind.i64.wrap ((IntKind.i64.wrap (4 * i)) - 4))), (rd 0 m (IntKind.i64.wrap ((IntKind.i64.wrap (4 * i)) - 3))), (rd 0 m (IntKind.i64.wrap ((IntKind.i64.wrap (4 * i)) - 2))), (rd 0 m (IntKind.i64.wrap ((IntKind.i64.wrap (4 * i)) - 1)))] : List Int) 2), ())).bind fun r7 =>
    bif inB 3 (([(rd 0 m (IntKind.i64.wrap ((IntKind.i64.wrap (4 * i)) - 4))), (rd 0 m (IntKind.i64.wrap ((IntKind.i64.wrap (4 * i)) - 3))), (rd 0 m (IntKind.i64.wrap ((IntKind.i64.wrap (4 * i)) - 2))), (rd 0 m (IntKind.i64.wrap ((IntKind.i64.wrap (4 * i)) - 1)))] : List Int).length : Int) then
    (bU.run m_ ((rd 0 ([(rd 0 m (IntKind.i64.wrap ((IntKind.i64.wrap (4 * i)) - 4))), (rd 0 m (IntKind.i64.wrap ((IntKind.i64.wrap (4 * i)) - 3))), (rd 0 m (IntKind.i64.wrap ((IntKind.i64.wrap (4 * i)) - 2))), (rd 0 m (IntKind.i64.wrap ((IntKind.i64.wrap (4 * i)) - 1)))] : List Int) 3), ())).bind fun r8 =>
    (aO.l0 m_ (nk, c, i, 0, m, ([r5, r6, r7, r8] : List Int), ())).bind fun (nk2, c2, i2, m2, ()) =>
    self (nk2, c2, (IntKind.i64.wrap (i2 + 1)), m2, ()) else none else none else none else none
   else
    (aO.l0 m_ (nk, c, i, 0, m, ([(rd 0 m (IntKind.i64.wrap ((IntKind.i64.wrap (4 * i)) - 4))), (rd 0 m (IntKind.i64.wrap ((IntKind.i64.wrap (4 * i)) - 3))), (rd 0 m (IntKind.i64.wrap ((IntKind.i64.wrap (4 * i)) - 2))), (rd 0 m (IntKind.i64.wrap ((IntKind.i64.wrap (4 * i)) - 1)))] : List Int), ())).bind fun (nk3, c3, i3, m3, ()) =>
    self (nk3, c3, (IntKind.i64.wrap (i3 + 1)), m3, ()) else none else none else none else none else none else none
 else
  some (m, ())
theorem k1 (m_ : ah) : KQ 79 (O m_) [] e1 x1 [s0 m_] (b1 m_) := fun _ _ => by kernel_rfl
def l1 (m_ : ah) : A1 -> Option B1 := loop m_ (b1 m_)
theorem q1 (v) : l1 .lim v = b1 .lim (l1 .lim) v := KS.q (k1 .lim) v
def s1 (m_ : ah) : SO P 79 := so m_ (k1 m_)
def run (m_ : ah) : (List Int) × Unit -> Option (List Int) := fun v_ => match v_ with
| (key, ()) =>
 bif aB (key.length : Int) then
 (aO.l1 m_ ((IntKind.i64.wrap ((key.length : Int).tdiv 4)), 1, (IntKind.i64.wrap ((key.length : Int).tdiv 4)), key, ())).bind fun (m, ()) =>
 some m else none
theorem k (m_ : ah) : KT (O m_) [] ⟨79, [.one .str], .one (.own (.int .u8)), run m_⟩ [s1 m_] := fun _ => by kernel_rfl
def c (m_ : ah) : CO P := co (k m_)
end aO

namespace aT
def O (m_ : ah) : OO P := gJ []
def e0 : Spec := ⟨[fs 91 [.q 7460, .z 7460, .b 2, .b 1, .q 467, .z 116, .b 0, .q 15] [(0, .dat Dp), (1, .b), (5, .oy 0), (6, .w), (7, .w)]], [(0, .c [.ry])], 1⟩
def x0 : List Spec := [⟨[fs 91 [.q 467, .z 116, .b 0, .q 15] [(0, .dat Dp), (1, .b), (5, .oy 0), (6, .w)]], [(0, .c [.ry])], 1⟩]
abbrev A0 : Type := LI × Bool × Int × Int × LI × Unit
abbrev B0 : Type := (LI × Bool × Int × LI × Unit)
def b0 (m_ : ah) (self : A0 -> Option B0) : A0 -> Option B0 := fun v_ => match v_ with
| (b, back, c, r, m, ()) =>
 bif decide (r < 4) then
  bif back then
   bif inB (IntKind.i64.wrap ((IntKind.i64.wrap (4 * c)) + r)) (b.length : Int) then
   bif inB (IntKind.i64.wrap ((IntKind.i64.wrap (4 * ((IntKind.i64.wrap (c + r)).tmod 4))) + r)) (m.length : Int) then
   self (b, back, c, (IntKind.i64.wrap (r + 1)), (m.set ((IntKind.i64.wrap ((IntKind.i64.wrap (4 * ((IntKind.i64.wrap (c + r)).tmod 4))) + r)).toNat) (rd 0 b (IntKind.i64.wrap ((IntKind.i64.wrap (4 * c)) + r)))), ()) else none else none
  else
   bif inB (IntKind.i64.wrap ((IntKind.i64.wrap (4 * ((IntKind.i64.wrap (c + r)).tmod 4))) + r)) (b.length : Int) then
   bif inB (IntKind.i64.wrap ((IntKind.i64.wrap (4 * c)) + r)) (m.length : Int) then
   self (b, back, c, (IntKind.i64.wrap (r + 1)), (m.set ((IntKind.i64.wrap ((IntKind.i64.wrap (4 * c)) + r)).toNat) (rd 0 b (IntKind.i64.wrap ((IntKind.i64.wrap (4 * ((IntKind.i64.wrap (c + r)).tmod 4))) + r)))), ()) else none else none
 else
  some (b, back, c, m, ())
theorem k0 (m_ : ah) : KQ 91 (O m_) [] e0 x0 [] (b0 m_) := fun _ _ => by kernel_rfl
def l0 (m_ : ah) : A0 -> Option B0 := loop m_ (b0 m_)
theorem q0 (v) : l0 .lim v = b0 .lim (l0 .lim) v := KS.q (k0 .lim) v
def s0 (m_ : ah) : SO P 91 := so m_ (k0 m_)
def e1 : Spec := ⟨[fs 91 [.q 116, .z 116, .b 0, .q 15] [(0, .dat Dp), (1, .b), (5, .oy 0), (6, .w)]], [(0, .c [.ry])], 1⟩
def x1 : List Spec := [⟨[fs 91 [.q 15] [(5, .oy 0)]], [(0, .c [.ry])], 1⟩]
abbrev A1 : Type := LI × Bool × Int × LI × Unit
abbrev B1 : Type := (LI × Unit)
def b1 (m_ : ah) (self : A1 -> Option B1) : A1 -> Option B1 := fun v_ => match v_ with
| (b, back, c, m, ()) =>
 bif decide (c < 4) then
  (aT.l0 m_ (b, back, c, 0, m, ())).bind fun (b1, back1, c1, m1, ()) =>
  self (b1, back1, (IntKind.i64.wrap (c1 + 1)), m1, ())
 else
  some (m, ())
theorem k1 (m_ : ah) : KQ 91 (O m_) [] e1 x1 [s0 m_] (b1 m_) := fun _ _ => by kernel_rfl
def l1 (m_ : ah) : A1 -> Option B1 := loop m_ (b1 m_)
theorem q1 (v) : l1 .lim v = b1 .lim (l1 .lim) v := KS.q (k1 .lim) v
def s1 (m_ : ah) : SO P 91 := so m_ (k1 m_)
def run (m_ : ah) : (List Int) × Bool × Unit -> Option (List Int) := fun v_ => match v_ with
| (b, back, ()) =>
 bif Nat.blt 16 70368744177664 then
 (aT.l1 m_ (b, back, 0, (List.replicate 16 0), ())).bind fun (m, ()) =>
 some m else none
theorem k (m_ : ah) : KT (O m_) [] ⟨91, [.one Dp, .one .bool], .one (.own (.int .u8)), run m_⟩ [s1 m_] := fun _ => by kernel_rfl
def c (m_ : ah) : CO P := co (k m_)
end aT

namespace aJ
def O (m_ : ah) : OO P := gJ [cO.c m_]
def e0 : Spec := ⟨[fs 92 [.q 477476, .z 477476, .b 4, .b 3, .q 29843, .z 7460, .b 2, .b 1, .q 467, .z 116, .b 0, .q 15] [(0, .dat Dp), (1, .dat Dp), (5, .oy 0), (6, .w), (7, .w), (8, .w)]], [(0, .c [.ry])], 1⟩
def x0 : List Spec := [⟨[fs 92 [.q 29843, .z 7460, .b 2, .b 1, .q 467, .z 116, .b 0, .q 15] [(0, .dat Dp), (1, .dat Dp), (5, .oy 0), (6, .w), (7, .w)]], [(0, .c [.ry])], 1⟩]
abbrev A0 : Type := LI × LI × Int × Int × Int × LI × Unit
abbrev B0 : Type := (LI × LI × Int × Int × LI × Unit)
def b0 (m_ : ah) (self : A0 -> Option B0) : A0 -> Option B0 := fun v_ => match v_ with
| (b, m, c, r, k, m1, ()) =>
 bif decide (k < 4) then
  bif inB (IntKind.i64.wrap ((IntKind.i64.wrap (4 * c)) + r)) (m1.length : Int) then
  bif inB (IntKind.i64.wrap ((IntKind.i64.wrap (4 * c)) + ((IntKind.i64.wrap (r + k)).tmod 4))) (b.length : Int) then
  bif inB k (m.length : Int) then
  (cO.run m_ ((rd 0 b (IntKind.i64.wrap ((IntKind.i64.wrap (4 * c)) + ((IntKind.i64.wrap (r + k)).tmod 4)))), (rd 0 m k), ())).bind fun r1 =>
  bif inB (IntKind.i64.wrap ((IntKind.i64.wrap (4 * c)) + r)) (m1.length : Int) then
  self (b, m, c, r, (IntKind.i64.wrap (k + 1)), (m1.set ((IntKind.i64.wrap ((IntKind.i64.wrap (4 * c)) + r)).toNat) (dP .u8 (rd 0 m1 (IntKind.i64.wrap ((IntKind.i64.wrap (4 * c)) + r))) r1)), ()) else none else none else none else none
 else
  some (b, m, c, r, m1, ())
theorem k0 (m_ : ah) : KQ 92 (O m_) [] e0 x0 [] (b0 m_) := fun _ _ => by kernel_rfl
def l0 (m_ : ah) : A0 -> Option B0 := loop m_ (b0 m_)
theorem q0 (v) : l0 .lim v = b0 .lim (l0 .lim) v := KS.q (k0 .lim) v
def s0 (m_ : ah) : SO P 92 := so m_ (k0 m_)
def e1 : Spec := ⟨[fs 92 [.q 7460, .z 7460, .b 2, .b 1, .q 467, .z 116, .b 0, .q 15] [(0, .dat Dp), (1, .dat Dp), (5, .oy 0), (6, .w), (7, .w)]], [(0, .c [.ry])], 1⟩
def x1 : List Spec := [⟨[fs 92 [.q 467, .z 116, .b 0, .q 15] [(0, .dat Dp), (1, .dat Dp), (5, .oy 0), (6, .w)]], [(0, .c [.ry])], 1⟩]
abbrev A1 : Type := LI × LI × Int × Int × LI × Unit
abbrev B1 : Type := (LI × LI × Int × LI × Unit)
def b1 (m_ : ah) (self : A1 -> Option B1) : A1 -> Option B1 := fun v_ => match v_ with
| (b, m, c, r, m1, ()) =>
 bif decide (r < 4) then
  (aJ.l0 m_ (b, m, c, r, 0, m1, ())).bind fun (b1, m2, c1, r1, m3, ()) =>
  self (b1, m2, c1, (IntKind.i64.wrap (r1 + 1)), m3, ())
 else
  some (b, m, c, m1, ())
theorem k1 (m_ : ah) : KQ 92 (O m_) [] e1 x1 [s0 m_] (b1 m_) := fun _ _ => by kernel_rfl
def l1 (m_ : ah) : A1 -> Option B1 := loop m_ (b1 m_)
theorem q1 (v) : l1 .lim v = b1 .lim (l1 .lim) v := KS.q (k1 .lim) v
def s1 (m_ : ah) : SO P 92 := so m_ (k1 m_)
def e2 : Spec := ⟨[fs 92 [.q 116, .z 116, .b 0, .q 15] [(0, .dat Dp), (1, .dat Dp), (5, .oy 0), (6, .w)]], [(0, .c [.ry])], 1⟩
def x2 : List Spec := [⟨[fs 92 [.q 15] [(5, .oy 0)]], [(0, .c [.ry])], 1⟩]
abbrev A2 : Type := LI × LI × Int × LI × Unit
abbrev B2 : Type := (LI × Unit)
def b2 (m_ : ah) (self : A2 -> Option B2) : A2 -> Option B2 := fun v_ => match v_ with
| (b, m, c, m1, ()) =>
 bif decide (c < 4) then
  (aJ.l1 m_ (b, m, c, 0, m1, ())).bind fun (b1, m2, c1, m3, ()) =>
  self (b1, m2, (IntKind.i64.wrap (c1 + 1)), m3, ())
 else
  some (m1, ())
theorem k2 (m_ : ah) : KQ 92 (O m_) [] e2 x2 [s1 m_] (b2 m_) := fun _ _ => by kernel_rfl
def l2 (m_ : ah) : A2 -> Option B2 := loop m_ (b2 m_)
theorem q2 (v) : l2 .lim v = b2 .lim (l2 .lim) v := KS.q (k2 .lim) v
def s2 (m_ : ah) : SO P 92 := so m_ (k2 m_)
def run (m_ : ah) : (List Int) × (List Int) × Unit -> Option (List Int) := fun v_ => match v_ with
| (b, m, ()) =>
 bif Nat.blt 16 70368744177664 then
 (aJ.l2 m_ (b, m, 0, (List.replicate 16 0), ())).bind fun (m1, ()) =>
 some m1 else none
theorem k (m_ : ah) : KT (O m_) [] ⟨92, [.one Dp, .one Dp], .one (.own (.int .u8)), run m_⟩ [s2 m_] := fun _ => by kernel_rfl
def c (m_ : ah) : CO P := co (k m_)
end aJ

namespace aC
def O (m_ : ah) : OO P := gJ [bU.c m_, aT.c m_, aJ.c m_]
def f0 : bY := fs 90 [.q 12, .z 12, .b 0] [(0, .oy 0), (1, .dat Dp), (4, .w)]
def f1 : bY := fs 80 [.v 14 [3], .q 15] [(0, .dat Dp), (5, .oy 0)]
def e0 : Spec := ⟨[f0, f1], [(0, .c [.ry])], 1⟩
def x0 : List Spec := [⟨[fs 90 [] [], f1], [(0, .c [.ry])], 1⟩]
abbrev A0 : Type := LI × Int × LI × LI × Unit
abbrev B0 : Type := (LI × LI × Unit)
def b0 (m_ : ah) (self : A0 -> Option B0) : A0 -> Option B0 := fun v_ => match v_ with
| (w, i, w1, m, ()) =>
 bif decide (i < 16) then
  bif inB i (m.length : Int) then
  bif inB i (w.length : Int) then
  bif inB i (m.length : Int) then
  self (w, (IntKind.i64.wrap (i + 1)), w1, (m.set i.toNat (dP .u8 (rd 0 m i) (rd 0 w i))), ()) else none else none else none
 else
  some (w1, m, ())
theorem k0 (m_ : ah) : KQ 80 (O m_) [90] e0 x0 [] (b0 m_) := fun _ _ => by kernel_rfl
def l0 (m_ : ah) : A0 -> Option B0 := loop m_ (b0 m_)
theorem q0 (v) : l0 .lim v = b0 .lim (l0 .lim) v := KS.q (k0 .lim) v
def s0 (m_ : ah) : SO P 80 := so m_ (k0 m_)
def e1 : Spec := ⟨[fs 80 [.q 31300, .z 31300, .b 2, .q 3913, .b 1, .q 979, .z 244, .b 0, .q 31] [(0, .dat Dp), (5, .oy 0), (6, .w), (7, .w)]], [(0, .c [.ry])], 1⟩
def x1 : List Spec := [⟨[fs 80 [.q 3913, .b 1, .q 979, .z 244, .b 0, .q 31] [(0, .dat Dp), (5, .oy 0), (6, .w)]], [(0, .c [.ry])], 1⟩]
abbrev A1 : Type := LI × Int × Int × LI × Unit
abbrev B1 : Type := (LI × Int × LI × Unit)
def b1 (m_ : ah) (self : A1 -> Option B1) : A1 -> Option B1 := fun v_ => match v_ with
| (w, i, k, m, ()) =>
 bif decide (k < 16) then
  bif inB k (m.length : Int) then
  (bU.run m_ ((rd 0 m k), ())).bind fun r =>
  bif inB k (m.length : Int) then
  self (w, i, (IntKind.i64.wrap (k + 1)), (m.set k.toNat r), ()) else none else none
 else
  some (w, i, m, ())
theorem k1 (m_ : ah) : KQ 80 (O m_) [90] e1 x1 [] (b1 m_) := fun _ _ => by kernel_rfl
def l1 (m_ : ah) : A1 -> Option B1 := loop m_ (b1 m_)
theorem q1 (v) : l1 .lim v = b1 .lim (l1 .lim) v := KS.q (k1 .lim) v
def s1 (m_ : ah) : SO P 80 := so m_ (k1 m_)
def f2 : bY := fs 80 [.v 15655 [6], .b 1, .q 979, .z 244, .b 0, .q 31] [(0, .dat Dp), (5, .oy 0), (6, .w)]
def e2 : Spec := ⟨[f0, f2], [(0, .c [.ry])], 1⟩
def x2 : List Spec := [⟨[fs 90 [] [], f2], [(0, .c [.ry])], 1⟩]
abbrev A2 : Type := LI × Int × LI × Int × LI × Unit
abbrev B2 : Type := (LI × Int × LI × Unit)
def b2 (m_ : ah) (self : A2 -> Option B2) : A2 -> Option B2 := fun v_ => match v_ with
| (w, i, w1, i1, m, ()) =>
 bif decide (i < 16) then
  bif inB i (m.length : Int) then
  bif inB i (w.length : Int) then
  bif inB i (m.length : Int) then
  self (w, (IntKind.i64.wrap (i + 1)), w1, i1, (m.set i.toNat (dP .u8 (rd 0 m i) (rd 0 w i))), ()) else none else none else none
 else
  some (w1, i1, m, ())
theorem k2 (m_ : ah) : KQ 80 (O m_) [90] e2 x2 [] (b2 m_) := fun _ _ => by kernel_rfl
def l2 (m_ : ah) : A2 -> Option B2 := loop m_ (b2 m_)
theorem q2 (v) : l2 .lim v = b2 .lim (l2 .lim) v := KS.q (k2 .lim) v
def s2 (m_ : ah) : SO P 80 := so m_ (k2 m_)
def e3 : Spec := ⟨[fs 80 [.q 244, .z 244, .b 0, .q 31] [(0, .dat Dp), (5, .oy 0), (6, .w)]], [(0, .c [.ry])], 1⟩
def x3 : List Spec := [⟨[fs 80 [.q 31] [(5, .oy 0)]], [(0, .c [.ry])], 1⟩]
abbrev A3 : Type := LI × Int × LI × Unit
abbrev B3 : Type := (LI × Unit)
def b3 (m_ : ah) (self : A3 -> Option B3) : A3 -> Option B3 := fun v_ => match v_ with
| (w, i, m, ()) =>
 bif aB (w.length : Int) then
 bif decide (i < (w.length : Int)) then
  (aC.l1 m_ (w, i, 0, m, ())).bind fun (w1, i1, m1, ()) =>
  (aT.run m_ (m1, false, ())).bind fun r =>
  bif aB (w1.length : Int) then
  bif decide ((IntKind.i64.wrap (i1 + 16)) < (w1.length : Int)) then
   (aJ.run m_ (r, ([2, 3, 1, 1] : List Int), ())).bind fun r1 =>
   bif dG i1 (IntKind.i64.wrap (i1 + 16)) (w1.length : Int) then
   (aC.l2 m_ ((cut w1 i1 (IntKind.i64.wrap (i1 + 16))), 0, w1, i1, r1, ())).bind fun (w2, i2, m2, ()) =>
   self (w2, (IntKind.i64.wrap (i2 + 16)), m2, ()) else none
  else
   bif dG i1 (IntKind.i64.wrap (i1 + 16)) (w1.length : Int) then
   (aC.l2 m_ ((cut w1 i1 (IntKind.i64.wrap (i1 + 16))), 0, w1, i1, r, ())).bind fun (w3, i3, m3, ()) =>
   self (w3, (IntKind.i64.wrap (i3 + 16)), m3, ()) else none else none
 else
  some (m, ()) else none
theorem k3 (m_ : ah) : KQ 80 (O m_) [90] e3 x3 [s1 m_, s2 m_] (b3 m_) := fun _ _ => by kernel_rfl
def l3 (m_ : ah) : A3 -> Option B3 := loop m_ (b3 m_)
theorem q3 (v) : l3 .lim v = b3 .lim (l3 .lim) v := KS.q (k3 .lim) v
def s3 (m_ : ah) : SO P 80 := so m_ (k3 m_)
def run (m_ : ah) : (List Int) × (List Int) × Unit -> Option (List Int) := fun v_ => match v_ with
| (w, block, ()) =>
 bif dG 0 16 (w.length : Int) then
 (aC.l0 m_ ((cut w 0 16), 0, w, block, ())).bind fun (w1, m, ()) =>
 (aC.l3 m_ (w1, 16, m, ())).bind fun (m1, ()) =>
 some m1 else none
theorem k (m_ : ah) : KT (O m_) [90] ⟨80, [.one Dp, .one .str], .one (.sh (.one .str)), run m_⟩ [s0 m_, s3 m_] := fun _ => by kernel_rfl
def c (m_ : ah) : CO P := co (k m_)
end aC

namespace aY
def O (m_ : ah) : OO P := gJ [fG.c m_, aO.c m_, aC.c m_]
def f0 : bY := fs 70 [.q 2040, .z 2040, .b 0, .q 511] [(2, .w), (9, .oy 0), (10, .oy 1), (11, .s)]
def e0 : Spec := ⟨[fs 70 [.q 130604, .z 130604, .b 2, .b 1, .z 2040, .b 0, .q 511] [(2, .w), (9, .oy 0), (10, .oy 1), (11, .s), (12, .w)]], [(0, .c [.ry]), (1, .c [.ry])], 2⟩
def x0 : List Spec := [⟨[f0], [(0, .c [.ry]), (1, .c [.ry])], 2⟩]
abbrev A0 : Type := Int × LI × Int × LI × LI × Unit
abbrev B0 : Type := (Int × LI × LI × LI × Unit)
def b0 (m_ : ah) (self : A0 -> Option B0) : A0 -> Option B0 := fun v_ => match v_ with
| (n, out, i, m, m1, ()) =>
 bif decide (i >= 0) then
  bif inB i (m1.length : Int) then
  bif inB i (m1.length : Int) then
  bif inB i ((m1.set i.toNat (IntKind.u8.wrap ((rd 0 m1 i) + 1))).length : Int) then
  bif !(decide ((rd 0 (m1.set i.toNat (IntKind.u8.wrap ((rd 0 m1 i) + 1))) i) = 0)) then
   some (n, out, m, (m1.set i.toNat (IntKind.u8.wrap ((rd 0 m1 i) + 1))), ())
  else
   self (n, out, (IntKind.i64.wrap (i - 1)), m, (m1.set i.toNat (IntKind.u8.wrap ((rd 0 m1 i) + 1))), ()) else none else none else none
 else
  some (n, out, m, m1, ())
theorem k0 (m_ : ah) : KQ 70 (O m_) [] e0 x0 [] (b0 m_) := fun _ _ => by kernel_rfl
def l0 (m_ : ah) : A0 -> Option B0 := loop m_ (b0 m_)
theorem q0 (v) : l0 .lim v = b0 .lim (l0 .lim) v := KS.q (k0 .lim) v
def s0 (m_ : ah) : SO P 70 := so m_ (k0 m_)
def e1 : Spec := ⟨[f0], [(0, .c [.ry]), (1, .c [.ry])], 2⟩
def x1 : List Spec := [⟨[fs 70 [.q 511] [(2, .w), (11, .s)]], [], 0⟩]
abbrev A1 : Type := Int × LI × LI × LI × Unit
abbrev B1 : Type := (Int × LI × Unit)
def b1 (m_ : ah) (self : A1 -> Option B1) : A1 -> Option B1 := fun v_ => match v_ with
| (n, out, m, m1, ()) =>
 bif aB (out.length : Int) then
 bif decide ((out.length : Int) < n) then
  (aC.run m_ (m, m1, ())).bind fun r =>
  bif decide (out.length + r.length <= maxStr) then
  (aY.l0 m_ (n, (out ++ r), 15, m, m1, ())).bind fun (n1, out1, m2, m3, ()) =>
  self (n1, out1, m2, m3, ()) else none
 else
  some (n, out, ()) else none
theorem k1 (m_ : ah) : KQ 70 (O m_) [] e1 x1 [s0 m_] (b1 m_) := fun _ _ => by kernel_rfl
def l1 (m_ : ah) : A1 -> Option B1 := loop m_ (b1 m_)
theorem q1 (v) : l1 .lim v = b1 .lim (l1 .lim) v := KS.q (k1 .lim) v
def s1 (m_ : ah) : SO P 70 := so m_ (k1 m_)
def run (m_ : ah) : (List Int) × (List Int) × Int × Unit -> Option ((List Int) × Int × Unit) := fun v_ => match v_ with
| (key, first, n, ()) =>
 bif ((decide (n < 0)) || (decide (n > 65536))) then
  some (([] : List Int), 13, ())
 else
  (fG.run m_ (key, first, ())).bind fun r =>
  bif !(decide (r = 0)) then
   some (([] : List Int), r, ())
  else
   (aO.run m_ (key, ())).bind fun r1 =>
   (aY.l1 m_ (n, ([] : List Int), r1, first, ())).bind fun (n1, out, ()) =>
   bif dG 0 n1 (out.length : Int) then
   some ((cut out 0 n1), 0, ()) else none
theorem k (m_ : ah) : KT (O m_) [] ⟨70, [.one .str, .one .str, .one (.int .i64)], .jL [.sh (.one .str), .sh (.one (.int .i64))], run m_⟩ [s1 m_] := fun _ => by kernel_rfl
def c (m_ : ah) : CO P := co (k m_)
end aY

end
end Go.AM
end
