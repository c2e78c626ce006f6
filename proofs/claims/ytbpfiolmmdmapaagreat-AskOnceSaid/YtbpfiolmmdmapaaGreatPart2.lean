import Derived.Test.YtbpfiolmmdmapaaGreatPart1
import Derived.Test.YtbpfiolmmdmapaaGreatProg
import Derived.Shelf.Strings.Repeat
import Derived.Shelf.Sort.Plain
import Derived.Shelf.Slices.CompactS
import Derived.Shelf.Slices.In.SortNone

/-! The functions that the laws of this seat reach, as plain functions, and what these answer; no condition. -/
set_option linter.unusedSimpArgs false
set_option linter.unusedVariables false
set_option linter.unusedSectionVars false

section
namespace Go.Proofs
def Tryz.lays105_ren : Go.Shelf.Ren := ⟨fun | 105 => 33 | 212 => 67 | 99 => 68 | 165 => 69 | 166 => 70 | 170 => 71 | 169 => 72 | 263 => 106 | 264 => 107 | 206 => 108 | 240 => 109 | 241 => 110 | 276 => 140 | 277 => 141 | n => n, fun | 9 => 9 | 3 => 3 | 4 => 4 | 20 => 20 | 0 => 0 | 46 => 96 | 109 => 136 | 5 => 5 | 72 => 141 | 76 => 145 | 51 => 38 | 146 => 185 | 53 => 28 | 148 => 187 | 70 => 139 | 37 => 82 | 75 => 144 | 127 => 189 | 164 => 233 | 80 => 148 | n => n, fun | n => n⟩
theorem Tryz.lays105 : Go.Proofs.Lays.n105 Tryz.prog Tryz.lays105_ren := {
  mixed := by kernel_rfl
  f99 := Tryz.func68.trans (congrArg some (by kernel_rfl))
  f105 := Tryz.func33.trans (congrArg some (by kernel_rfl))
  f165 := Tryz.func69.trans (congrArg some (by kernel_rfl))
  f166 := Tryz.func70.trans (congrArg some (by kernel_rfl))
  f169 := Tryz.func72.trans (congrArg some (by kernel_rfl))
  f170 := Tryz.func71.trans (congrArg some (by kernel_rfl))
  f206 := Tryz.func108.trans (congrArg some (by kernel_rfl))
  f212 := Tryz.func67.trans (congrArg some (by kernel_rfl))
  f240 := Tryz.func109.trans (congrArg some (by kernel_rfl))
  f241 := Tryz.func110.trans (congrArg some (by kernel_rfl))
  f263 := Tryz.func106.trans (congrArg some (by kernel_rfl))
  f264 := Tryz.func107.trans (congrArg some (by kernel_rfl))
  f276 := Tryz.func140.trans (congrArg some (by kernel_rfl))
  f277 := Tryz.func141.trans (congrArg some (by kernel_rfl))
  t0 := Tryz.underlying0
  a0 := Tryz.isAgg0
  z0 := Tryz.sizeOf0
  v0 := Tryz.zeroValue0
  t3 := Tryz.underlying3
  a3 := Tryz.isAgg3
  z3 := Tryz.sizeOf3
  v3 := Tryz.zeroValue3
  t4 := Tryz.underlying4
  a4 := Tryz.isAgg4
  z4 := Tryz.sizeOf4
  v4 := Tryz.zeroValue4
  t5 := Tryz.underlying5
  a5 := Tryz.isAgg5
  z5 := Tryz.sizeOf5
  v5 := Tryz.zeroValue5
  t9 := Tryz.underlying9
  a9 := Tryz.isAgg9
  z9 := Tryz.sizeOf9
  v9 := Tryz.zeroValue9
  t20 := Tryz.underlying20
  a20 := Tryz.isAgg20
  z20 := Tryz.sizeOf20
  v20 := Tryz.zeroValue20
  t37 := Tryz.underlying82
  a37 := Tryz.isAgg82
  z37 := Tryz.sizeOf82
  v37 := Tryz.zeroValue82
  t46 := Tryz.underlying96
  a46 := Tryz.isAgg96
  z46 := Tryz.sizeOf96
  v46 := Tryz.zeroValue96
  t51 := Tryz.underlying38
  a51 := Tryz.isAgg38
  z51 := Tryz.sizeOf38
  v51 := Tryz.zeroValue38
  t53 := Tryz.underlying28
  a53 := Tryz.isAgg28
  z53 := Tryz.sizeOf28
  v53 := Tryz.zeroValue28
  t70 := Tryz.underlying139
  a70 := Tryz.isAgg139
  z70 := Tryz.sizeOf139
  v70 := Tryz.zeroValue139
  t72 := Tryz.underlying141
  a72 := Tryz.isAgg141
  z72 := Tryz.sizeOf141
  v72 := Tryz.zeroValue141
  t75 := Tryz.underlying144
  a75 := Tryz.isAgg144
  z75 := Tryz.sizeOf144
  v75 := Tryz.zeroValue144
  t76 := Tryz.underlying145
  a76 := Tryz.isAgg145
  z76 := Tryz.sizeOf145
  v76 := Tryz.zeroValue145
  t109 := Tryz.underlying136
  a109 := Tryz.isAgg136
  z109 := Tryz.sizeOf136
  v109 := Tryz.zeroValue136
  t127 := Tryz.underlying189
  a127 := Tryz.isAgg189
  z127 := Tryz.sizeOf189
  v127 := Tryz.zeroValue189
  t146 := Tryz.underlying185
  a146 := Tryz.isAgg185
  z146 := Tryz.sizeOf185
  v146 := Tryz.zeroValue185
  t148 := Tryz.underlying187
  a148 := Tryz.isAgg187
  z148 := Tryz.sizeOf187
  v148 := Tryz.zeroValue187
  t164 := Tryz.underlying233
  a164 := Tryz.isAgg233
  z164 := Tryz.sizeOf233
  v164 := Tryz.zeroValue233 }
theorem Tryz.Builder_Extra_105 : Builder.Extra Tryz.prog Tryz.lays105_ren := {
  sizeBuilder := by kernel_rfl
  liesBuilder := by kernel_rfl
  t5 := Tryz.underlying5
  a5 := Tryz.isAgg5
  z5 := Tryz.sizeOf5
  v5 := Tryz.zeroValue5
  infoByte := by kernel_rfl
  cellsByte := by kernel_rfl
  sizeByte := by kernel_rfl
  neB5 := by decide }
def Tryz.lays190_ren : Go.Shelf.Ren := ⟨fun | 190 => 146 | 125 => 153 | 258 => 152 | 128 => 171 | 129 => 172 | 302 => 162 | 303 => 163 | 304 => 164 | 305 => 165 | 306 => 166 | 307 => 167 | 308 => 168 | 309 => 169 | 310 => 170 | 333 => 180 | 329 => 181 | 330 => 182 | 334 => 183 | 335 => 184 | 336 => 185 | 344 => 186 | n => n, fun | 31 => 27 | 9 => 9 | 3 => 3 | 46 => 96 | 0 => 0 | 51 => 38 | 53 => 28 | 4 => 4 | 183 => 254 | 182 => 253 | 131 => 258 | 5 => 5 | 218 => 268 | 222 => 272 | 228 => 274 | 229 => 275 | n => n, fun | n => n⟩
theorem Tryz.lays190 : Go.Proofs.Lays.n190 Tryz.prog Tryz.lays190_ren := {
  mixed := by kernel_rfl
  f125 := Tryz.func153.trans (congrArg some (by kernel_rfl))
  f128 := Tryz.func171.trans (congrArg some (by kernel_rfl))
  f129 := Tryz.func172.trans (congrArg some (by kernel_rfl))
  f190 := Tryz.func146.trans (congrArg some (by kernel_rfl))
  f258 := Tryz.func152.trans (congrArg some (by kernel_rfl))
  f302 := Tryz.func162.trans (congrArg some (by kernel_rfl))
  f303 := Tryz.func163.trans (congrArg some (by kernel_rfl))
  f304 := Tryz.func164.trans (congrArg some (by kernel_rfl))
  f305 := Tryz.func165.trans (congrArg some (by kernel_rfl))
  f306 := Tryz.func166.trans (congrArg some (by kernel_rfl))
  f307 := Tryz.func167.trans (congrArg some (by kernel_rfl))
  f308 := Tryz.func168.trans (congrArg some (by kernel_rfl))
  f309 := Tryz.func169.trans (congrArg some (by kernel_rfl))
  f310 := Tryz.func170.trans (congrArg some (by kernel_rfl))
  f329 := Tryz.func181.trans (congrArg some (by kernel_rfl))
  f330 := Tryz.func182.trans (congrArg some (by kernel_rfl))
  f333 := Tryz.func180.trans (congrArg some (by kernel_rfl))
  f334 := Tryz.func183.trans (congrArg some (by kernel_rfl))
  f335 := Tryz.func184.trans (congrArg some (by kernel_rfl))
  f336 := Tryz.func185.trans (congrArg some (by kernel_rfl))
  f344 := Tryz.func186.trans (congrArg some (by kernel_rfl))
  t0 := Tryz.underlying0
  a0 := Tryz.isAgg0
  z0 := Tryz.sizeOf0
  v0 := Tryz.zeroValue0
  t3 := Tryz.underlying3
  a3 := Tryz.isAgg3
  z3 := Tryz.sizeOf3
  v3 := Tryz.zeroValue3
  t4 := Tryz.underlying4
  a4 := Tryz.isAgg4
  z4 := Tryz.sizeOf4
  v4 := Tryz.zeroValue4
  t5 := Tryz.underlying5
  a5 := Tryz.isAgg5
  z5 := Tryz.sizeOf5
  v5 := Tryz.zeroValue5
  t9 := Tryz.underlying9
  a9 := Tryz.isAgg9
  z9 := Tryz.sizeOf9
  v9 := Tryz.zeroValue9
  t31 := Tryz.underlying27
  a31 := Tryz.isAgg27
  z31 := Tryz.sizeOf27
  v31 := Tryz.zeroValue27
  t46 := Tryz.underlying96
  a46 := Tryz.isAgg96
  z46 := Tryz.sizeOf96
  v46 := Tryz.zeroValue96
  t51 := Tryz.underlying38
  a51 := Tryz.isAgg38
  z51 := Tryz.sizeOf38
  v51 := Tryz.zeroValue38
  t53 := Tryz.underlying28
  a53 := Tryz.isAgg28
  z53 := Tryz.sizeOf28
  v53 := Tryz.zeroValue28
  t131 := Tryz.underlying258
  a131 := Tryz.isAgg258
  z131 := Tryz.sizeOf258
  v131 := Tryz.zeroValue258
  t182 := Tryz.underlying253
  a182 := Tryz.isAgg253
  z182 := Tryz.sizeOf253
  v182 := Tryz.zeroValue253
  t183 := Tryz.underlying254
  a183 := Tryz.isAgg254
  z183 := Tryz.sizeOf254
  v183 := Tryz.zeroValue254
  t218 := Tryz.underlying268
  a218 := Tryz.isAgg268
  z218 := Tryz.sizeOf268
  v218 := Tryz.zeroValue268
  t222 := Tryz.underlying272
  a222 := Tryz.isAgg272
  z222 := Tryz.sizeOf272
  v222 := Tryz.zeroValue272
  t228 := Tryz.underlying274
  a228 := Tryz.isAgg274
  z228 := Tryz.sizeOf274
  v228 := Tryz.zeroValue274
  t229 := Tryz.underlying275
  a229 := Tryz.isAgg275
  z229 := Tryz.sizeOf275
  v229 := Tryz.zeroValue275 }
def Tryz.lays194_ren : Go.Shelf.Ren := ⟨fun | 194 => 136 | n => n, fun | 31 => 27 | 9 => 9 | 3 => 3 | 4 => 4 | 0 => 0 | n => n, fun | n => n⟩
theorem Tryz.lays194 : Go.Proofs.Lays.n194 Tryz.prog Tryz.lays194_ren := {
  mixed := by kernel_rfl
  f194 := Tryz.func136.trans (congrArg some (by kernel_rfl))
  t0 := Tryz.underlying0
  a0 := Tryz.isAgg0
  z0 := Tryz.sizeOf0
  v0 := Tryz.zeroValue0
  t3 := Tryz.underlying3
  a3 := Tryz.isAgg3
  z3 := Tryz.sizeOf3
  v3 := Tryz.zeroValue3
  t4 := Tryz.underlying4
  a4 := Tryz.isAgg4
  z4 := Tryz.sizeOf4
  v4 := Tryz.zeroValue4
  t9 := Tryz.underlying9
  a9 := Tryz.isAgg9
  z9 := Tryz.sizeOf9
  v9 := Tryz.zeroValue9
  t31 := Tryz.underlying27
  a31 := Tryz.isAgg27
  z31 := Tryz.sizeOf27
  v31 := Tryz.zeroValue27 }
end Go.Proofs
section
set_option maxRecDepth 100000
namespace Go.Proofs
open Go.Shelf Go.RowKit
def Tryz.bld_ren : Go.Shelf.Ren := ⟨fun | 166 => 70 | 169 => 72 | 170 => 71 | 240 => 109 | n => n, fun | 70 => 139 | 9 => 9 | 0 => 0 | 72 => 141 | 37 => 82 | 127 => 189 | 3 => 3 | 5 => 5 | 4 => 4 | 20 => 20 | 46 => 96 | 109 => 136 | 76 => 145 | 51 => 38 | 146 => 185 | 53 => 28 | 148 => 187 | 75 => 144 | 164 => 233 | 80 => 148 | n => n, fun | n => n⟩
theorem Tryz.bld169 : Go.Proofs.Lays.n169 Tryz.prog Tryz.bld_ren := {
  mixed := by kernel_rfl
  f169 := Tryz.func72.trans (congrArg some (by kernel_rfl))
  t0 := Tryz.underlying0
  a0 := Tryz.isAgg0
  z0 := Tryz.sizeOf0
  v0 := Tryz.zeroValue0
  t3 := Tryz.underlying3
  a3 := Tryz.isAgg3
  z3 := Tryz.sizeOf3
  v3 := Tryz.zeroValue3
  t9 := Tryz.underlying9
  a9 := Tryz.isAgg9
  z9 := Tryz.sizeOf9
  v9 := Tryz.zeroValue9
  t37 := Tryz.underlying82
  a37 := Tryz.isAgg82
  z37 := Tryz.sizeOf82
  v37 := Tryz.zeroValue82
  t70 := Tryz.underlying139
  a70 := Tryz.isAgg139
  z70 := Tryz.sizeOf139
  v70 := Tryz.zeroValue139
  t72 := Tryz.underlying141
  a72 := Tryz.isAgg141
  z72 := Tryz.sizeOf141
  v72 := Tryz.zeroValue141
  t127 := Tryz.underlying189
  a127 := Tryz.isAgg189
  z127 := Tryz.sizeOf189
  v127 := Tryz.zeroValue189 }
theorem Tryz.bld170 : Go.Proofs.Lays.n170 Tryz.prog Tryz.bld_ren := {
  mixed := by kernel_rfl
  f170 := Tryz.func71.trans (congrArg some (by kernel_rfl))
  t0 := Tryz.underlying0
  a0 := Tryz.isAgg0
  z0 := Tryz.sizeOf0
  v0 := Tryz.zeroValue0
  t3 := Tryz.underlying3
  a3 := Tryz.isAgg3
  z3 := Tryz.sizeOf3
  v3 := Tryz.zeroValue3
  t37 := Tryz.underlying82
  a37 := Tryz.isAgg82
  z37 := Tryz.sizeOf82
  v37 := Tryz.zeroValue82
  t70 := Tryz.underlying139
  a70 := Tryz.isAgg139
  z70 := Tryz.sizeOf139
  v70 := Tryz.zeroValue139
  t72 := Tryz.underlying141
  a72 := Tryz.isAgg141
  z72 := Tryz.sizeOf141
  v72 := Tryz.zeroValue141 }
theorem Tryz.bldX : Builder.Extra Tryz.prog Tryz.bld_ren := {
  sizeBuilder := by kernel_rfl
  liesBuilder := by kernel_rfl
  t5 := Tryz.underlying5
  a5 := Tryz.isAgg5
  z5 := Tryz.sizeOf5
  v5 := Tryz.zeroValue5
  infoByte := by kernel_rfl
  cellsByte := by kernel_rfl
  sizeByte := by kernel_rfl
  neB5 := by decide }
theorem Tryz.bld166 : Tryz.prog.funcs[Tryz.bld_ren.f 166]? = some (Body.n166 Tryz.bld_ren) := Tryz.func70.trans (congrArg some (by kernel_rfl))
theorem Tryz.bld240 : ∀ args w, (callFunc (Tryz.bld_ren.f 240) args).run Tryz.prog w = .ok (.enter (Tryz.bld_ren.f 240) args) w := enters_of Tryz.func109 (by kernel_rfl) rfl
set_option maxHeartbeats 1000000 in
theorem Tryz.bld_used (b : Nat) (w : World) (h0 : w.cell? ⟨b, 0, none⟩ = some (.pointer (some ⟨b, 0, none⟩))) :
    Calls Tryz.prog 109 #[.pointer (some ⟨b, 0, none⟩)] w fun e w' => e = .returned (.tuple #[]) /\ w' = w := by
  obtain ⟨j, hj, hjs⟩ := Option.map_eq_some_iff.1 Tryz.bldX.sizeBuilder;have hj : Tryz.prog.info? 141 = some j := hj;have mixed := Tryz.bld169.mixed;have t72 := Tryz.underlying141; have a72 := Tryz.isAgg141; have z72 := Tryz.sizeOf141; have v72 := Tryz.zeroValue141; have u72 := run_underlying Tryz.underlying141;have t70 := Tryz.underlying139; have a70 := Tryz.isAgg139; have z70 := Tryz.sizeOf139; have v70 := Tryz.zeroValue139; have u70 := run_underlying Tryz.underlying139;have t9 := Tryz.underlying9; have a9 := Tryz.isAgg9; have z9 := Tryz.sizeOf9; have v9 := Tryz.zeroValue9; have u9 := run_underlying Tryz.underlying9;have t4 := Tryz.underlying4; have a4 := Tryz.isAgg4; have z4 := Tryz.sizeOf4; have v4 := Tryz.zeroValue4; have u4 := run_underlying Tryz.underlying4;have t164 := Tryz.underlying233; have a164 := Tryz.isAgg233; have z164 := Tryz.sizeOf233; have v164 := Tryz.zeroValue233; have u164 := run_underlying Tryz.underlying233
  go_enter Tryz.func109, (show Tryz.f109.ntmps = 20 by kernel_rfl)
  go_wp2
  rw [Lib.run_neq_ptr_same w _ t70 hj]
  go_wp2
  go_end0
  exact ⟨rfl, rfl⟩
set_option maxHeartbeats 1000000 in
theorem Tryz.bld_fresh (b : Nat) (w : World) (h0 : w.cell? ⟨b, 0, none⟩ = some (.pointer none)) (hsh : w.shape? b = some (141, 2)) (hfz : w.frozen? ⟨b, 0, none⟩ = false) :
    Calls Tryz.prog 109 #[.pointer (some ⟨b, 0, none⟩)] w fun e w' => e = .returned (.tuple #[]) /\ w' = w.setCell ⟨b, 0, none⟩ (.pointer (some ⟨b, 0, none⟩)) := by
  obtain ⟨j, hj, hjs⟩ := Option.map_eq_some_iff.1 Tryz.bldX.sizeBuilder;have hj : Tryz.prog.info? 141 = some j := hj;have mixed := Tryz.bld169.mixed;have t72 := Tryz.underlying141; have a72 := Tryz.isAgg141; have z72 := Tryz.sizeOf141; have v72 := Tryz.zeroValue141; have u72 := run_underlying Tryz.underlying141;have t70 := Tryz.underlying139; have a70 := Tryz.isAgg139; have z70 := Tryz.sizeOf139; have v70 := Tryz.zeroValue139; have u70 := run_underlying Tryz.underlying139;have t9 := Tryz.underlying9; have a9 := Tryz.isAgg9; have z9 := Tryz.sizeOf9; have v9 := Tryz.zeroValue9; have u9 := run_underlying Tryz.underlying9;have t4 := Tryz.underlying4; have a4 := Tryz.isAgg4; have z4 := Tryz.sizeOf4; have v4 := Tryz.zeroValue4; have u4 := run_underlying Tryz.underlying4;have t164 := Tryz.underlying233; have a164 := Tryz.isAgg233; have z164 := Tryz.sizeOf233; have v164 := Tryz.zeroValue233; have u164 := run_underlying Tryz.underlying233
  go_enter Tryz.func109, (show Tryz.f109.ntmps = 20 by kernel_rfl)
  go_wp2
  rw [Lib.run_to_unsafe w ⟨b, 0, none⟩ t70 t164 hj (by rw [hjs]; decide) hsh (Nat.zero_lt_succ 1)];simp only [Result.andThen];rw [Oper.upon_value]
  go_wp2
  rw [run_callFunc_extern Tryz.func140 (by kernel_rfl) (by kernel_rfl) (by kernel_rfl) (e := Extern.AbiNoEscape.same) (by kernel_rfl)];rw [Lib.run_noEscape];simp only [Result.andThen];rw [Oper.upon_value]
  go_wp2
  rw [Lib.run_from_unsafe w ⟨b, 0, none⟩ t164 t70 hj hsh Tryz.bldX.liesBuilder];simp only [Result.andThen];rw [Oper.upon_value]
  go_wp2
  go_end0
  exact ⟨rfl, rfl⟩
open Go.AM in
theorem Tryz.bld_cc (b : Nat) (v : Value) (bs : List Value) (w : World) (h : wU 141 5 b v bs w) : Calls Tryz.prog 109 #[.pointer (some ⟨b, 0, none⟩)] w (Ic 141 5 b v bs w) := Zb h (fun h1 h2 h3 => Tryz.bld_fresh b w h1 h2 h3) (fun h1 => Tryz.bld_used b w h1)
open Go.AM in
theorem Tryz.bld_ws (b : Nat) (v : Value) (bs : List Value) (s : ByteArray) (w : World) (h : wU 141 5 b v bs w) (hlen : bs.length + s.size <= 140737488355328) :
    Calls Tryz.prog 70 #[.pointer (some ⟨b, 0, none⟩), .string s] w fun e w' => e = .returned (.tuple #[.int .i64 s.size, .nilIface]) /\ Only b v.ownBlock w w' /\ ∃ v', wU 141 5 b v' (bs ++ Lib.strCells s) w' /\ ∀ k, v'.ownBlock = some k -> v.ownBlock = some k \/ w.heap.size <= k :=
  BA (ρ := Tryz.bld_ren) Tryz.bld169 Tryz.bldX Tryz.bld166 Tryz.bld240 Tryz.bld_cc b v bs s w h hlen
open Go.AM in
theorem Tryz.bld_str (b : Nat) (v : Value) (l : List UInt8) (w : World) (h : wU 141 5 b v (Lib.byteCells l) w) :
    Calls Tryz.prog 72 #[.pointer (some ⟨b, 0, none⟩)] w fun e w' => e = .returned (.string ⟨l.toArray⟩) /\ Only b v.ownBlock w w' /\ wU 141 5 b v (Lib.byteCells l) w' := Mc (ρ := Tryz.bld_ren) Tryz.bld169 Tryz.bldX b v l w h
open Go.AM in
theorem Tryz.bld_len (b : Nat) (v : Value) (bs : List Value) (w : World) (h : wU 141 5 b v bs w) :
    Calls Tryz.prog 71 #[.pointer (some ⟨b, 0, none⟩)] w fun e w' => e = .returned (.int .i64 bs.length) /\ w' = w := Vt (ρ := Tryz.bld_ren) Tryz.bld170 b v bs w h
end Go.Proofs
end
namespace Go.AM
open Go.Proofs
noncomputable abbrev P := Tryz.prog
instance tb : Tabs := ⟨fun _ => none⟩
universe u
theorem an {α : Type u} {p : α -> Prop} : ∀ k ∈ ([] : List α), p k := fun k h => nomatch h
theorem ac {α : Type u} {p : α -> Prop} {a : α} {l : List α} (h : p a) (k : ∀ x ∈ l, p x) : ∀ x ∈ a :: l, p x := fun x hx => by
  rcases List.mem_cons.1 hx with rfl | hx
  · exact h
  · exact k x hx
set_option maxRecDepth 100000
set_option linter.unusedVariables false
noncomputable section
variable (m_ : aJ)
def bldK : BK := ⟨141, 5, 70, 72, 71⟩
theorem Yp : bldK.OK P := ⟨by kernel_rfl, by kernel_rfl, by kernel_rfl, Go.Proofs.Tryz.bld_ws, Go.Proofs.Tryz.bld_str, Go.Proofs.Tryz.bld_len⟩
def srtK : SK := ⟨146, 136⟩
theorem Yq : srtK.OK P := ⟨by kernel_rfl, by kernel_rfl, fun b o c ss w h1 h2 h3 => Go.Proofs.Any.slices_Sort_string Go.Proofs.Tryz.lays190 b o c ss w h1 h2 h3, fun p c w => Go.Proofs.Any.slices_Sort_string_none Go.Proofs.Tryz.lays190 p c w, fun b o c ss w h1 h2 h3 => Go.Proofs.Any.slices_Compact_string Go.Proofs.Tryz.lays194 b o c ss w h1 h2 h3, fun p c w => Go.Proofs.Any.slices_Compact_string_empty Go.Proofs.Tryz.lays194 p c w⟩
abbrev tY0 : Ty := .lst (.int .u8)
abbrev tY1 : Ty := .pair .str .str
abbrev LG : Ty := .arr 4 (.int .u8)
abbrev sV : Ty := .arr 16 (.int .u8)
abbrev tY4 : Ty := .arr 3 (.int .u32)
abbrev rV : Ty := .arr 256 (.int .u8)
abbrev ZH : Ty := .lst tY0
abbrev QG : Ty := .pair (.int .i64) .str
abbrev tY8 : Ty := .pair .str tY1
abbrev tY9 : Ty := .pair (.int .u64) (.int .u64)
abbrev o_ : Ty := .lst QG
abbrev ZI : Ty := .pair (.int .i64) (.int .i64)
abbrev rW : Ty := .arr 16 rV
abbrev VW : Ty := .pair (.int .i64) tY1
abbrev tY14 : Ty := .pair (.lst .str) tY1
abbrev FH : Ty := .pair .str tY14
abbrev tY16 : Ty := .pair (.int .u64) tY9
abbrev tY17 : Ty := .pair (.int .u64) o_
abbrev zZ : Ty := .lst FH
abbrev tY19 : Ty := .pair (.int .u64) tY16
abbrev tY20 : Ty := .pair (.int .u64) tY17
abbrev xB : Ty := .pair .bool zZ
abbrev tY22 : Ty := .pair (.int .u64) tY19
abbrev tY23 : Ty := .pair (.int .u64) tY20
abbrev tY24 : Ty := .pair .str tY22
abbrev tY25 : Ty := .pair (.int .u64) tY23
abbrev tY26 : Ty := .pair .str tY24
abbrev tY27 : Ty := .pair (.int .u32) tY25
abbrev tY28 : Ty := .pair (.lst .str) tY26
abbrev tY29 : Ty := .pair (.int .u32) tY27
abbrev tY30 : Ty := .pair (.int .u32) tY29
abbrev BN : Ty := .pair VW tY28
abbrev tY32 : Ty := .pair (.int .i64) tY30
abbrev tY33 : Ty := .pair (.int .i64) tY32
abbrev tY34 : Ty := .pair (.int .i64) tY33
abbrev tY35 : Ty := .pair (.int .i64) tY34
abbrev tY36 : Ty := .pair (.int .i64) tY35
abbrev Ns : Ty := .pair (.int .i64) tY36
abbrev tY38 : Ty := .pair Ns ZI
abbrev tY39 : Ty := .pair .str tY38
abbrev tY40 : Ty := .pair .str tY39
abbrev Yr : Ty := .pair (.int .i64) tY40
abbrev VX : Type := (List Int × (List Int × List Int))
abbrev qK : Type := (List Int × (List (List Int) × (List Int × List Int)))
abbrev xC : Type := (Bool × List (List Int × (List (List Int) × (List Int × List Int))))
abbrev RD : Type := ((Int × (List Int × List Int)) × (List (List Int) × (List Int × (List Int × (Int × (Int × (Int × (Int × Int))))))))
abbrev Y5 : Type := (Int × (Int × (Int × (Int × (Int × (Int × (Int × (Int × (Int × (Int × (Int × (Int × (Int × List (Int × List Int))))))))))))))
abbrev DT1 : Type := (Int × (List Int × (List Int × ((Int × (Int × (Int × (Int × (Int × (Int × (Int × (Int × (Int × (Int × (Int × (Int × (Int × List (Int × List Int)))))))))))))) × (Int × Int)))))
abbrev dK : (List Int × (List (List Int) × (List Int × List Int))) := (([] : List Int), (([] : List (List Int)), (([] : List Int), ([] : List Int))))
abbrev QH : (List (Int × List Int) × List (Int × List Int)) := (([] : List (Int × List Int)), ([] : List (Int × List Int)))
abbrev Yt : (List Int × (List Int × List Int)) := (([] : List Int), (([] : List Int), ([] : List Int)))
namespace aI
def O (m_ : aJ) : OO P := fK []
def o0 : bC := .c [.b, .dat zZ]
def e0 : Spec := ⟨[fs 29 [.q 29852, .z 29852, .b 2, .b 1, .q 467, .z 116, .b 0, .q 15] [(1, .ptr 0 0), (3, .w), (4, .w), (5, .ptr 1 0), (6, .w)]], [(0, o0), (1, .c [.s, .t, .s, .s])], 2⟩
def x0 : List Spec := [⟨[fs 29 [.q 467, .z 116, .b 0, .q 15] [(1, .ptr 0 0), (3, .w), (4, .w)]], [(0, o0)], 1⟩]
abbrev A0 : Type := Int × Int × Int × Bool × (List (List Int × (List LI × (List Int × List Int)))) × LI × LL × LI × LI × Unit
abbrev B0 : Type := (Int × Int × Bool × (List (List Int × (List LI × (List Int × List Int)))) × Unit)
def b0 (m_ : aJ) (self : A0 -> Option B0) : A0 -> Option B0 := fun v_ => match v_ with
| (left, i, j, m, m1, m2, m3, m4, m5, ()) =>
 bif ay (m3.length : Int) then
 bif ((decide (j < (m3.length : Int))) && (decide (left >= 0))) then
  bif inB j (m3.length : Int) then
  bif ay ((rd ([] : List Int) m3 j).length : Int) then
  self ((IntKind.i64.wrap (left - ((rd ([] : List Int) m3 j).length : Int))), i, (IntKind.i64.wrap (j + 1)), m, m1, m2, m3, m4, m5, ()) else none else none
 else
  some (left, i, m, m1, ()) else none
theorem k0 : KQ 29 (O m_) [] e0 x0 [] (b0 m_) := fun _ _ => by kernel_rfl
def l0 := loop m_ (b0 m_)
theorem q0 (v) : l0 .lim v = b0 .lim (l0 .lim) v := KS.q (k0 .lim) v
def s0 := so m_ (k0 m_)
def e1 : Spec := ⟨[fs 29 [.q 116, .z 116, .b 0, .q 15] [(1, .ptr 0 0), (3, .w), (4, .w)]], [(0, o0)], 1⟩
def x1 : List Spec := [⟨[fs 29 [.q 15] [(1, .ptr 0 0), (3, .w)]], [(0, o0)], 1⟩]
abbrev A1 : Type := Int × Int × Bool × (List (List Int × (List LI × (List Int × List Int)))) × Unit
abbrev B1 : Type := (Int × Bool × (List (List Int × (List LI × (List Int × List Int)))) × Unit)
def b1 (self : A1 -> Option B1) : A1 -> Option B1 := fun v_ => match v_ with
| (left, i, m, m1, ()) =>
 bif ay (m1.length : Int) then
 bif ((decide (i < (m1.length : Int))) && (decide (left >= 0))) then
  bif inB i (m1.length : Int) then
  bif ay (((rd dK m1 i).1).length : Int) then
  bif ay (((((rd dK m1 i).2).2).1).length : Int) then
  bif ay (((((rd dK m1 i).2).2).2).length : Int) then
  bif ay ((((rd dK m1 i).2).1).length : Int) then
  (aI.l0 m_ ((IntKind.i64.wrap ((IntKind.i64.wrap ((IntKind.i64.wrap ((IntKind.i64.wrap ((IntKind.i64.wrap (left - 10)) - (((rd dK m1 i).1).length : Int))) - (((((rd dK m1 i).2).2).1).length : Int))) - (((((rd dK m1 i).2).2).2).length : Int))) - ((((rd dK m1 i).2).1).length : Int))), i, 0, m, m1, (rd dK m1 i).1, ((rd dK m1 i).2).1, (((rd dK m1 i).2).2).1, (((rd dK m1 i).2).2).2, ())).bind fun (left1, i1, m2, m3, ()) =>
  self (left1, (IntKind.i64.wrap (i1 + 1)), m2, m3, ()) else none else none else none else none else none
 else
  some (left, m, m1, ()) else none
theorem k1 : KQ 29 (O m_) [] e1 x1 [s0 m_] (b1 m_) := fun _ _ => by kernel_rfl
def l1 := loop m_ (b1 m_)
theorem q1 (v) : l1 .lim v = b1 .lim (l1 .lim) v := KS.q (k1 .lim) v
def s1 := so m_ (k1 m_)
def run : xC × Unit -> Option (Bool) := fun v_ => match v_ with
| (v, ()) =>
 (aI.l1 m_ (400000, 0, v.1, v.2, ())).bind fun (left, m, m1, ()) =>
 bif ((!(decide (left >= 0))) || (ay (m1.length : Int))) then
 some ((decide (left >= 0)) && (decide ((m1.length : Int) <= 300))) else none
theorem k : KT (O m_) [] ⟨29, [.ag xB], .one (.sh (.one .bool)), run m_⟩ [s1 m_] := fun _ => by kernel_rfl
def c := co (k m_)
end aI

namespace bU
def O (m_ : aJ) : OO P := fK []
def e0 : Spec := ⟨[fs 65 [.q 116, .z 116, .b 0, .q 15] [(0, .w), (5, .oy 0), (6, .w)]], [(0, .c [.ry])], 1⟩
def x0 : List Spec := [⟨[fs 65 [.q 15] [(5, .oy 0)]], [(0, .c [.ry])], 1⟩]
abbrev A0 : Type := Int × Int × LI × Unit
abbrev B0 : Type := (LI × Unit)
def b0 (m_ : aJ) (self : A0 -> Option B0) : A0 -> Option B0 := fun v_ => match v_ with
| (n, i, m, ()) =>
 bif decide (i >= 0) then
  bif inB i (m.length : Int) then
  self ((IntKind.i64.wrap (n.tdiv 256)), (IntKind.i64.wrap (i - 1)), (m.set i.toNat (IntKind.u8.wrap (n.tmod 256))), ()) else none
 else
  some (m, ())
theorem k0 : KQ 65 (O m_) [] e0 x0 [] (b0 m_) := fun _ _ => by kernel_rfl
def l0 := loop m_ (b0 m_)
theorem q0 (v) : l0 .lim v = b0 .lim (l0 .lim) v := KS.q (k0 .lim) v
def s0 := so m_ (k0 m_)
def run : Int × (List Int) × Unit -> Option (List Int) := fun v_ => match v_ with
| (n, plain, ()) =>
 bif ay (plain.length : Int) then
 bif (((decide (0 <= (IntKind.i64.wrap (16 + (plain.length : Int))))) && (decide ((IntKind.i64.wrap (16 + (plain.length : Int))) <= (IntKind.i64.wrap (16 + (plain.length : Int)))))) && (Nat.blt ((IntKind.i64.wrap (16 + (plain.length : Int))).toNat) 70368744177664)) then
 (bU.l0 m_ (n, 15, (List.replicate ((IntKind.i64.wrap (16 + (plain.length : Int))).toNat) 0), ())).bind fun (m, ()) =>
 some m else none else none
theorem k : KT (O m_) [] ⟨65, [.one (.int .i64), .one .str], .one (.sh (.one .str)), run m_⟩ [s0 m_] := fun _ => by kernel_rfl
def c := co (k m_)
end bU

namespace bQ
def O (m_ : aJ) : OO P := fK []
def e0 : Spec := ⟨[fs 79 [.q 116, .z 116, .b 0, .q 15] [(0, .t), (1, .t), (5, .w)]], [], 0⟩
def x0 : List Spec := [⟨[fs 79 [.q 7461, .b 1, .q 467, .z 116, .b 0, .q 15] [(4, .b)]], [], 0⟩, ⟨[fs 79 [.q 15] []], [], 0⟩]
abbrev A0 : Type := LL × LL × Int × Unit
abbrev B0 : Type := (Bool × Unit) ⊕ (Unit)
def b0 (m_ : aJ) (self : A0 -> Option B0) : A0 -> Option B0 := fun v_ => match v_ with
| (a, b, i, ()) =>
 bif ay (a.length : Int) then
 bif decide (i < (a.length : Int)) then
  bif inB i (a.length : Int) then
  bif inB i (b.length : Int) then
  bif !(decide ((rd ([] : List Int) a i) = (rd ([] : List Int) b i))) then
   some (.inl (false, ()))
  else
   self (a, b, (IntKind.i64.wrap (i + 1)), ()) else none else none
 else
  some (.inr (())) else none
theorem k0 : KQ 79 (O m_) [] e0 x0 [] (b0 m_) := fun _ _ => by kernel_rfl
def l0 := loop m_ (b0 m_)
theorem q0 (v) : l0 .lim v = b0 .lim (l0 .lim) v := KS.q (k0 .lim) v
def s0 := so m_ (k0 m_)
def run : (List (List Int)) × (List (List Int)) × Unit -> Option (Bool) := fun v_ => match v_ with
| (a, b, ()) =>
 bif ay (a.length : Int) then
 bif ay (b.length : Int) then
 bif !(decide ((a.length : Int) = (b.length : Int))) then
  some false
 else
  (bQ.l0 m_ (a, b, 0, ())).bind fun g_ => match g_ with
  | .inl (t, ()) =>
   some t
  | .inr (()) =>
   some true else none else none
theorem k : KT (O m_) [] ⟨79, [.one (.lst .str), .one (.lst .str)], .one (.sh (.one .bool)), run m_⟩ [s0 m_] := fun _ => by kernel_rfl
def c := co (k m_)
end bQ

namespace fC
def O : OO P := fK [bQ.c m_]
def run : qK × qK × Unit -> Option (Bool) := fun v_ => match v_ with
| (a, b, ()) =>
 ((bif ((decide (a.1 = b.1)) && (decide (a.2.2.1 = b.2.2.1))) then bQ.run m_ (a.2.1, b.2.1, ()) else some false)).bind fun r =>
 some (((decide (a.1 = b.1)) && (decide (a.2.2.1 = b.2.2.1))) && r)
theorem k : KT (O m_) [] ⟨37, [.ag FH, .ag FH], .one (.sh (.one .bool)), run m_⟩ [] := fun _ => by kernel_rfl
def c := co (k m_)
end fC

namespace aZ
def O : OO P := fK [fC.c m_, bU.c m_]
def o0 : bC := .c [.b, .dat zZ]
def f1 : bH := fs 30 [.q 4007717, .b 3, .q 250483, .z 62620, .b 2, .b 1, .q 979, .z 244, .b 0, .q 31] [(2, .b)]
def e0 : Spec := ⟨[fs 30 [.q 62620, .z 62620, .b 2, .b 1, .q 979, .z 244, .b 0, .q 31] [(1, .ptr 0 0), (3, .w), (4, .ptr 1 0), (5, .w)]], [(0, o0), (1, .c [.s, .t, .s, .s])], 2⟩
def x0 : List Spec := [⟨[f1], [], 0⟩, ⟨[fs 30 [.q 979, .z 244, .b 0, .q 31] [(1, .ptr 0 0), (3, .w)]], [(0, o0)], 1⟩]
abbrev A0 : Type := Int × Int × Bool × (List (List Int × (List LI × (List Int × List Int)))) × LI × LL × LI × LI × Unit
abbrev B0 : Type := (Bool × Unit) ⊕ (Int × Bool × (List (List Int × (List LI × (List Int × List Int)))) × Unit)
def b0 (self : A0 -> Option B0) : A0 -> Option B0 := fun v_ => match v_ with
| (i, j, m, m1, m2, m3, m4, m5, ()) =>
 bif decide (j < i) then
  bif inB j (m1.length : Int) then
  (fC.run m_ ((m2, (m3, (m4, m5))), (rd dK m1 j), ())).bind fun r =>
  bif r then
   some (.inl (false, ()))
  else
   self (i, (IntKind.i64.wrap (j + 1)), m, m1, m2, m3, m4, m5, ()) else none
 else
  some (.inr (i, m, m1, ()))
theorem k0 : KQ 30 (O m_) [] e0 x0 [] (b0 m_) := fun _ _ => by kernel_rfl
def l0 := loop m_ (b0 m_)
theorem q0 (v) : l0 .lim v = b0 .lim (l0 .lim) v := KS.q (k0 .lim) v
def s0 := so m_ (k0 m_)
def e1 : Spec := ⟨[fs 30 [.q 244, .z 244, .b 0, .q 31] [(1, .ptr 0 0), (3, .w)]], [(0, o0)], 1⟩
def x1 : List Spec := [⟨[fs 30 [.q 62613, .q 7827, .b 1, .q 979, .z 244, .b 0, .q 31] [(2, .b)]], [], 0⟩, ⟨[f1], [], 0⟩, ⟨[fs 30 [.q 31] []], [], 0⟩]
abbrev A1 : Type := Int × Bool × (List (List Int × (List LI × (List Int × List Int)))) × Unit
abbrev B1 : Type := (Bool × Unit) ⊕ (Bool × Unit) ⊕ (Unit)
def b1 (self : A1 -> Option B1) : A1 -> Option B1 := fun v_ => match v_ with
| (i, m, m1, ()) =>
 bif ay (m1.length : Int) then
 bif decide (i < (m1.length : Int)) then
  bif inB i (m1.length : Int) then
  bif ay (((rd dK m1 i).1).length : Int) then
  bif ((!(!(decide ((((rd dK m1 i).1).length : Int) = 32)))) || (ay (((rd dK m1 i).1).length : Int))) then
  bif ((!(!((!(decide ((((rd dK m1 i).1).length : Int) = 32))) && (!(decide ((((rd dK m1 i).1).length : Int) = 64)))))) || (ay ((((rd dK m1 i).2).1).length : Int))) then
  bif ((!(!(((!(decide ((((rd dK m1 i).1).length : Int) = 32))) && (!(decide ((((rd dK m1 i).1).length : Int) = 64)))) || (decide (((((rd dK m1 i).2).1).length : Int) > 126))))) || (ay (((((rd dK m1 i).2).2).1).length : Int))) then
  ((bif !((((!(decide ((((rd dK m1 i).1).length : Int) = 32))) && (!(decide ((((rd dK m1 i).1).length : Int) = 64)))) || (decide (((((rd dK m1 i).2).1).length : Int) > 126))) || (decide ((((((rd dK m1 i).2).2).1).length : Int) > 65536))) then bU.run m_ ((IntKind.i64.wrap (i + 1)), (((rd dK m1 i).2).2).1, ()) else some ([] : List Int))).bind fun r =>
  bif (((((!(decide ((((rd dK m1 i).1).length : Int) = 32))) && (!(decide ((((rd dK m1 i).1).length : Int) = 64)))) || (decide (((((rd dK m1 i).2).1).length : Int) > 126))) || (decide ((((((rd dK m1 i).2).2).1).length : Int) > 65536))) || (!(decide (((((rd dK m1 i).2).2).2) = r)))) then
   some (.inl (false, ()))
  else
   (aZ.l0 m_ (i, 0, m, m1, (rd dK m1 i).1, ((rd dK m1 i).2).1, (((rd dK m1 i).2).2).1, (((rd dK m1 i).2).2).2, ())).bind fun g_ => match g_ with
   | .inl (t, ()) =>
    some (.inr (.inl (t, ())))
   | .inr (i1, m2, m3, ()) =>
    self ((IntKind.i64.wrap (i1 + 1)), m2, m3, ()) else none else none else none else none else none
 else
  some (.inr (.inr (()))) else none
theorem k1 : KQ 30 (O m_) [] e1 x1 [s0 m_] (b1 m_) := fun _ _ => by kernel_rfl
def l1 := loop m_ (b1 m_)
theorem q1 (v) : l1 .lim v = b1 .lim (l1 .lim) v := KS.q (k1 .lim) v
def s1 := so m_ (k1 m_)
def run : xC × Unit -> Option (Bool) := fun v_ => match v_ with
| (v, ()) =>
 bif !v.1 then
  bif ay (v.2.length : Int) then
  some (decide ((v.2.length : Int) = 0)) else none
 else
  bif ay (v.2.length : Int) then
  bif decide ((v.2.length : Int) > 2048) then
   some false
  else
   (aZ.l1 m_ (0, v.1, v.2, ())).bind fun g_ => match g_ with
   | .inl (t, ()) =>
    some t
   | .inr (.inl (t1, ())) =>
    some t1
   | .inr (.inr (())) =>
    some true else none
theorem k : KT (O m_) [] ⟨30, [.ag xB], .one (.sh (.one .bool)), run m_⟩ [s1 m_] := fun _ => by kernel_rfl
def c := co (k m_)
end aZ

namespace fP
def O (m_ : aJ) : OO P := fK []
def run (m_ : aJ) : Int × Unit -> Option (Int) := fun v_ => match v_ with
| (TM, ()) =>
 bif decide (TM = 15) then
  some 32
 else
  bif decide (TM = 17) then
   some 64
  else
   some 0
theorem k : KT (O m_) [] ⟨54, [.one (.int .i64)], .one (.sh (.one (.int .i64))), run m_⟩ [] := fun _ => by kernel_rfl
def c := co (k m_)
end fP

namespace iM
def O : OO P := fK [fP.c m_]
def run : (Int × (List Int × List Int)) × Unit -> Option (Bool) := fun v_ => match v_ with
| (k, ()) =>
 (fP.run m_ (k.1, ())).bind fun r =>
 bif ((!(decide (r > 0))) || (ay (k.2.1.length : Int))) then
 bif ((!((decide (r > 0)) && (decide ((k.2.1.length : Int) = r)))) || (ay (k.2.2.length : Int))) then
 some (((decide (r > 0)) && (decide ((k.2.1.length : Int) = r))) && (decide ((k.2.2.length : Int) = r))) else none else none
theorem k : KT (O m_) [] ⟨23, [.ag VW], .one (.sh (.one .bool)), run m_⟩ [] := fun _ => by kernel_rfl
def c := co (k m_)
end iM

namespace iO
def O (m_ : aJ) : OO P := fK []
def run (m_ : aJ) : (List Int) × Unit -> Option (Bool) := fun v_ => match v_ with
| (s, ()) =>
 bif ay (s.length : Int) then
 bif ((!(decide ((s.length : Int) >= 12))) || (ay (s.length : Int))) then
 bif ((!((decide ((s.length : Int) >= 12)) && (decide ((s.length : Int) <= 256)))) || (ay (s.length : Int))) then
 bif ((!((decide ((s.length : Int) >= 12)) && (decide ((s.length : Int) <= 256)))) || true) then
 some (((decide ((s.length : Int) >= 12)) && (decide ((s.length : Int) <= 256))) && (decide (((s.length : Int).tmod 4) = 0))) else none else none else none else none
theorem k : KT (O m_) [] ⟨51, [.one .str], .one (.sh (.one .bool)), run m_⟩ [] := fun _ => by kernel_rfl
def c := co (k m_)
end iO

namespace bT
def O (m_ : aJ) : OO P := fK []
def e0 : Spec := ⟨[fs 52 [.q 52, .z 52, .b 0, .q 7] [(0, .t), (1, .s), (5, .w)]], [], 0⟩
def x0 : List Spec := [⟨[fs 52 [.q 3365, .b 1, .q 211, .z 52, .b 0, .q 7] [(4, .b)]], [], 0⟩, ⟨[fs 52 [.q 7] []], [], 0⟩]
abbrev A0 : Type := LL × LI × Int × Unit
abbrev B0 : Type := (Bool × Unit) ⊕ (Unit)
def b0 (m_ : aJ) (self : A0 -> Option B0) : A0 -> Option B0 := fun v_ => match v_ with
| (l, s, i, ()) =>
 bif ay (l.length : Int) then
 bif decide (i < (l.length : Int)) then
  bif inB i (l.length : Int) then
  bif decide ((rd ([] : List Int) l i) = s) then
   some (.inl (true, ()))
  else
   self (l, s, (IntKind.i64.wrap (i + 1)), ()) else none
 else
  some (.inr (())) else none
theorem k0 : KQ 52 (O m_) [] e0 x0 [] (b0 m_) := fun _ _ => by kernel_rfl
def l0 := loop m_ (b0 m_)
theorem q0 (v) : l0 .lim v = b0 .lim (l0 .lim) v := KS.q (k0 .lim) v
def s0 := so m_ (k0 m_)
def run : (List (List Int)) × (List Int) × Unit -> Option (Bool) := fun v_ => match v_ with
| (l, s, ()) =>
 (bT.l0 m_ (l, s, 0, ())).bind fun g_ => match g_ with
 | .inl (t, ()) =>
  some t
 | .inr (()) =>
  some false
theorem k : KT (O m_) [] ⟨52, [.one (.lst .str), .one .str], .one (.sh (.one .bool)), run m_⟩ [s0 m_] := fun _ => by kernel_rfl
def c := co (k m_)
end bT

namespace aW
def O : OO P := fK [iO.c m_, bT.c m_]
def e0 : Spec := ⟨[fs 41 [.q 116, .z 116, .b 0, .q 15] [(0, .t), (3, .w)]], [], 0⟩
def x0 : List Spec := [⟨[fs 41 [.q 7461, .b 1, .q 467, .z 116, .b 0, .q 15] [(2, .w)]], [], 0⟩, ⟨[fs 41 [.q 15] [(0, .t)]], [], 0⟩]
abbrev A0 : Type := LL × Int × Unit
abbrev B0 : Type := (Int × Unit) ⊕ (LL × Unit)
def b0 (self : A0 -> Option B0) : A0 -> Option B0 := fun v_ => match v_ with
| (l, i, ()) =>
 bif ay (l.length : Int) then
 bif decide (i < (l.length : Int)) then
  bif inB i (l.length : Int) then
  (iO.run m_ ((rd ([] : List Int) l i), ())).bind fun r =>
  bif !r then
   some (.inl (12, ()))
  else
   self (l, (IntKind.i64.wrap (i + 1)), ()) else none
 else
  some (.inr (l, ())) else none
theorem k0 : KQ 41 (O m_) [] e0 x0 [] (b0 m_) := fun _ _ => by kernel_rfl
def l0 := loop m_ (b0 m_)
theorem q0 (v) : l0 .lim v = b0 .lim (l0 .lim) v := KS.q (k0 .lim) v
def s0 := so m_ (k0 m_)
def e1 : Spec := ⟨[fs 41 [.q 244, .z 244, .b 2, .q 31] [(0, .t), (4, .w)]], [], 0⟩
def x1 : List Spec := [⟨[fs 41 [.q 15653, .b 3, .q 979, .z 244, .b 2, .q 31] [(2, .w)]], [], 0⟩, ⟨[fs 41 [.q 31] []], [], 0⟩]
abbrev A1 : Type := LL × Int × Unit
abbrev B1 : Type := (Int × Unit) ⊕ (Unit)
def b1 (self : A1 -> Option B1) : A1 -> Option B1 := fun v_ => match v_ with
| (l, i, ()) =>
 bif ay (l.length : Int) then
 bif decide (i < (l.length : Int)) then
  bif dR 0 i (l.length : Int) then
  bif inB i (l.length : Int) then
  (bT.run m_ ((cut l 0 i), (rd ([] : List Int) l i), ())).bind fun r =>
  bif r then
   some (.inl (24, ()))
  else
   self (l, (IntKind.i64.wrap (i + 1)), ()) else none else none
 else
  some (.inr (())) else none
theorem k1 : KQ 41 (O m_) [] e1 x1 [] (b1 m_) := fun _ _ => by kernel_rfl
def l1 := loop m_ (b1 m_)
theorem q1 (v) : l1 .lim v = b1 .lim (l1 .lim) v := KS.q (k1 .lim) v
def s1 := so m_ (k1 m_)
def run : (List (List Int)) × Unit -> Option (Int) := fun v_ => match v_ with
| (l, ()) =>
 bif ay (l.length : Int) then
 bif decide ((l.length : Int) > 8) then
  some 18
 else
  (aW.l0 m_ (l, 0, ())).bind fun g_ => match g_ with
  | .inl (t, ()) =>
   some t
  | .inr (l1, ()) =>
   (aW.l1 m_ (l1, 0, ())).bind fun g_ => match g_ with
   | .inl (t1, ()) =>
    some t1
   | .inr (()) =>
    some 0 else none
theorem k : KT (O m_) [] ⟨41, [.one (.lst .str)], .one (.sh (.one (.int .i64))), run m_⟩ [s0 m_, s1 m_] := fun _ => by kernel_rfl
def c := co (k m_)
end aW

namespace dM
def O : OO P := fK [iM.c m_, aW.c m_]
def run : RD × Unit -> Option (Bool) := fun v_ => match v_ with
| (x, ()) =>
 (iM.run m_ (x.1, ())).bind fun r =>
 ((bif !!r then aW.run m_ (x.2.1, ()) else some (0 : Int))).bind fun r1 =>
 bif (!r || (!(decide (r1 = 0)))) then
  some false
 else
  bif decide (x.2.2.1 = ([] : List Int)) then
   some ((decide (x.2.2.2.1 = ([] : List Int))) && (decide (x.2.2.2.2.1 = 0)))
  else
   bif ay (x.2.2.1.length : Int) then
   some (decide ((x.2.2.1.length : Int) = 32)) else none
theorem k : KT (O m_) [] ⟨13, [.ag BN], .one (.sh (.one .bool)), run m_⟩ [] := fun _ => by kernel_rfl
def c := co (k m_)
end dM

namespace iE
def O : OO P := fK [dM.c m_, aI.c m_, aZ.c m_]
def run : xC × RD × (List Int) × Unit -> Option (Bool) := fun v_ => match v_ with
| (v, x, s, ()) =>
 (aI.run m_ (v, ())).bind fun r =>
 ((bif r then aZ.run m_ (v, ()) else some false)).bind fun r1 =>
 ((bif (r && r1) then dM.run m_ (x, ()) else some false)).bind fun r2 =>
 bif ((!((r && r1) && r2)) || (ay (s.length : Int))) then
 some (((r && r1) && r2) && (decide ((s.length : Int) <= 4000))) else none
theorem k : KT (O m_) [] ⟨7, [.ag xB, .ag BN, .one .str], .one (.sh (.one .bool)), run m_⟩ [] := fun _ => by kernel_rfl
def c := co (k m_)
end iE

namespace lF
def O (m_ : aJ) : OO P := fK []
def run (m_ : aJ) : Int × Unit -> Option (Int) := fun v_ => match v_ with
| (TM, ()) =>
 bif decide (TM = 15) then
  some 32
 else
  bif decide (TM = 17) then
   some 64
  else
   some 0
theorem k : KT (O m_) [] ⟨99, [.one (.int .i64)], .one (.sh (.one (.int .i64))), run m_⟩ [] := fun _ => by kernel_rfl
def c := co (k m_)
end lF

namespace uT
def O : OO P := fK [lF.c m_]
def run : (Int × (List Int × List Int)) × Unit -> Option (Bool) := fun v_ => match v_ with
| (k, ()) =>
 (lF.run m_ (k.1, ())).bind fun r =>
 bif ((!(decide (r > 0))) || (ay (k.2.1.length : Int))) then
 bif ((!((decide (r > 0)) && (decide ((k.2.1.length : Int) = r)))) || (ay (k.2.2.length : Int))) then
 some (((decide (r > 0)) && (decide ((k.2.1.length : Int) = r))) && (decide ((k.2.2.length : Int) = r))) else none else none
theorem k : KT (O m_) [] ⟨56, [.ag VW], .one (.sh (.one .bool)), run m_⟩ [] := fun _ => by kernel_rfl
def c := co (k m_)
end uT

namespace lG
def O (m_ : aJ) : OO P := fK []
def run (m_ : aJ) : Int × Bool × Unit -> Option (Bool × Int × Unit) := fun v_ => match v_ with
| (e, is, ()) =>
 some (is, e, ())
theorem k : KT (O m_) [] ⟨32, [.one (.int .i64), .one .bool], .one (.clo 66 [.bool, (.int .i64)]), run m_⟩ [] := fun _ => by kernel_rfl
def c := co (k m_)
end lG

namespace rX
def O (m_ : aJ) : OO P := fK []
def run (m_ : aJ) : (List Int) × Unit -> Option (Bool) := fun v_ => match v_ with
| (s, ()) =>
 bif ay (s.length : Int) then
 bif ((!(decide ((s.length : Int) >= 12))) || (ay (s.length : Int))) then
 bif ((!((decide ((s.length : Int) >= 12)) && (decide ((s.length : Int) <= 256)))) || (ay (s.length : Int))) then
 some (((decide ((s.length : Int) >= 12)) && (decide ((s.length : Int) <= 256))) && (decide ((fO .i64 (s.length : Int) 3) = 0))) else none else none else none
theorem k : KT (O m_) [] ⟨92, [.one .str], .one (.sh (.one .bool)), run m_⟩ [] := fun _ => by kernel_rfl
def c := co (k m_)
end rX

namespace qL
def O : OO P := fK [rX.c m_]
def run : (List Int) × Unit -> Option (Bool) := fun v_ => match v_ with
| (s, ()) =>
 (rX.run m_ (s, ())).bind fun r =>
 some !r
theorem k : KT (O m_) [] ⟨101, [.one .str], .one (.sh (.one .bool)), run m_⟩ [] := fun _ => by kernel_rfl
def c := co (k m_)
end qL

namespace iq
def O (m_ : aJ) : OO P := ors Yq
def f0 : bH := fs 145 [.v 6 [1,2], .q 7] []
def f1 : bH := fs 134 [.v 6 [1,2], .q 7] []
def f2 : bH := fs 102 [.v 6 [2,3], .q 7] [(0, .t)]
def e0 : Spec := ⟨[fs 147 [.q 12, .z 12, .b 0] [(0, .fn (.yield 0) []), (5, .t), (6, .w), (7, .w)], ⟨151, [.inRange 0, .b 0, .q 7], [(2, .ptr 1 0)], none, [.mark 2], false⟩, f0, f1, f2], [(0, .loop .ready none 151 [(2, .ptr 1 0)] [7] (vY 26) 2), (1, .c [.own 5000 .str]), (2, .deferred false), (5000, .c [.row .str])], 5001⟩
def x0 : List Spec := [⟨[fs 147 [] [], ⟨151, [.inRange 1, .b 0, .q 7], [(2, .ptr 0 0)], none, [.mark 2], false⟩, f0, f1, f2], [(0, .c [.own 3 .str]), (1, .loop .ready none 151 [(2, .ptr 0 0)] [7] (vY 26) 2), (2, .deferred false), (3, .c [.row .str])], 4⟩]
abbrev A0 : Type := LL × Int × Int × LL × LL × Unit
abbrev B0 : Type := (LL × LL × Unit)
def b0 (m_ : aJ) (self : A0 -> Option B0) : A0 -> Option B0 := fun v_ => match v_ with
| (t, t1, t2, l, m, ()) =>
 bif decide (t2 < t1) then
  bif inB t2 (t.length : Int) then
  bif decide (m.length + ([(rd ([] : List Int) t t2)] : List (List Int)).length < 4398046511104) then
  self (t, t1, (IntKind.i64.wrap (t2 + 1)), l, (m ++ ([(rd ([] : List Int) t t2)] : List (List Int))), ()) else none else none
 else
  some (l, m, ())
theorem k0 : KQ 102 (O m_) [134, 135, 145, 151] e0 x0 [] (b0 m_) := fun _ _ => by kernel_rfl
def l0 := loop m_ (b0 m_)
theorem q0 (v) : l0 .lim v = b0 .lim (l0 .lim) v := KS.q (k0 .lim) v
def s0 := so m_ (k0 m_)
def run : (List (List Int)) × Unit -> Option (Bool) := fun v_ => match v_ with
| (l, ()) =>
 bif ay (l.length : Int) then
 (iq.l0 m_ (l, (l.length : Int), 0, l, ([] : List (List Int)), ())).bind fun (l1, m, ()) =>
 (GV m.length).bind fun _ =>
 (GV (wL m).length).bind fun _ =>
 bif ay ((nC (wL m)).length : Int) then
 bif ay (l1.length : Int) then
 some (decide (((nC (wL m)).length : Int) < (l1.length : Int))) else none else none else none
theorem k : KT (O m_) [134, 135, 145, 151] ⟨102, [.one (.lst .str)], .one (.sh (.one .bool)), run m_⟩ [s0 m_] := fun _ => by kernel_rfl
def c := co (k m_)
end iq

namespace gq
def O : OO P := fK [lG.c m_, qL.c m_, iq.c m_]
def f0 : bH := fs 100 [.v 6 [2,3,4], .q 7] []
def f1 : bH := fs 58 [.v 6 [5,6,7,8,9,10,11,12,13,14], .q 7] [(0, .t), (6, .clo 66 [.bool, (.int .i64)])]
def e0 : Spec := ⟨[fs 133 [.q 52, .z 52, .b 0, .q 7] [(0, .t), (1, .fn (.func 101) []), (7, .w), (8, .w)], f0, f1], [], 0⟩
def x0 : List Spec := [⟨[fs 133 [.q 13517, .b 1, .q 423, .z 52, .b 0, .q 7] [(4, .w)], f0, f1], [], 0⟩, ⟨[fs 133 [.q 7] [], f0, f1], [], 0⟩]
abbrev A0 : Type := LL × Int × Int × LL × (Bool × Int × Unit) × Unit
abbrev B0 : Type := (Int × LL × (Bool × Int × Unit) × Unit) ⊕ (LL × (Bool × Int × Unit) × Unit)
def b0 (self : A0 -> Option B0) : A0 -> Option B0 := fun v_ => match v_ with
| (s, t, t1, l, t2, ()) =>
 bif decide (t1 < t) then
  bif inB t1 (s.length : Int) then
  (qL.run m_ ((rd ([] : List Int) s t1), ())).bind fun r =>
  bif r then
   some (.inl (t1, l, (t2.1, t2.2.1, ()), ()))
  else
   self (s, t, (IntKind.i64.wrap (t1 + 1)), l, (t2.1, t2.2.1, ()), ()) else none
 else
  some (.inr (l, (t2.1, t2.2.1, ()), ()))
theorem k0 : KQ 58 (O m_) [31, 66, 100, 133] e0 x0 [] (b0 m_) := fun _ _ => by kernel_rfl
def l0 := loop m_ (b0 m_)
theorem q0 (v) : l0 .lim v = b0 .lim (l0 .lim) v := KS.q (k0 .lim) v
def s0 := so m_ (k0 m_)
def e1 : Spec := ⟨[fs 31 [.q 1] [(0, .qE 0 3)], fs 58 [.v 6 [13,14], .q 7] []], [(0, .c [.clo 66 [.bool, (.int .i64)], .clo 66 [.bool, (.int .i64)], .clo 66 [.bool, (.int .i64)]])], 1⟩
def x1 : List Spec := [⟨[fs 58 [.q 7] [(2, .w)]], [], 0⟩]
abbrev A1 : Type := (Bool × Int × Unit) × (Bool × Int × Unit) × (Bool × Int × Unit) × Unit
abbrev B1 : Type := (Int × Unit)
def b1 (m_ : aJ) (self : A1 -> Option B1) : A1 -> Option B1 := fun v_ => match v_ with
| (m, m1, m2, ()) =>
 bif m.1 then
  bif m1.1 then
   bif m2.1 then
    some (0, ())
   else
    bif !(decide (m2.2.1 = 0)) then
     some (m2.2.1, ())
    else
     some (0, ())
  else
   bif !(decide (m1.2.1 = 0)) then
    some (m1.2.1, ())
   else
    bif m2.1 then
     some (0, ())
    else
     bif !(decide (m2.2.1 = 0)) then
      some (m2.2.1, ())
     else
      some (0, ())
 else
  bif !(decide (m.2.1 = 0)) then
   some (m.2.1, ())
  else
   bif m1.1 then
    bif m2.1 then
     some (0, ())
    else
     bif !(decide (m2.2.1 = 0)) then
      some (m2.2.1, ())
     else
      some (0, ())
   else
    bif !(decide (m1.2.1 = 0)) then
     some (m1.2.1, ())
    else
     bif m2.1 then
      some (0, ())
     else
      bif !(decide (m2.2.1 = 0)) then
       some (m2.2.1, ())
      else
       some (0, ())
theorem k1 : KQ 58 (O m_) [31, 66, 100, 133] e1 x1 [] (b1 m_) := fun _ _ => by kernel_rfl
def l1 := loop m_ (b1 m_)
theorem q1 (v) : l1 .lim v = b1 .lim (l1 .lim) v := KS.q (k1 .lim) v
def s1 := so m_ (k1 m_)
def run : (List (List Int)) × Unit -> Option (Int) := fun v_ => match v_ with
| (l, ()) =>
 bif ay (l.length : Int) then
 (lG.run m_ (18, decide ((l.length : Int) <= 8), ())).bind fun (e, b, ()) =>
 bif ay (l.length : Int) then
 (gq.l0 m_ (l, (l.length : Int), 0, l, (e, b, ()), ())).bind fun g_ => match g_ with
 | .inl (t, l1, t1, ()) =>
  (lG.run m_ (12, !(decide (t >= 0)), ())).bind fun (e1, b1, ()) =>
  (iq.run m_ (l1, ())).bind fun r2 =>
  (lG.run m_ (24, !r2, ())).bind fun (e2, b2, ()) =>
  (gq.l1 m_ ((t1.1, t1.2.1, ()), (e1, b1, ()), (e2, b2, ()), ())).bind fun (t2, ()) =>
  some t2
 | .inr (l2, t3, ()) =>
  (lG.run m_ (12, true, ())).bind fun (e3, b3, ()) =>
  (iq.run m_ (l2, ())).bind fun r5 =>
  (lG.run m_ (24, !r5, ())).bind fun (e4, b4, ()) =>
  (gq.l1 m_ ((t3.1, t3.2.1, ()), (e3, b3, ()), (e4, b4, ()), ())).bind fun (t4, ()) =>
  some t4 else none else none
theorem k : KT (O m_) [31, 66, 100, 133] ⟨58, [.one (.lst .str)], .one (.sh (.one (.int .i64))), run m_⟩ [s0 m_, s1 m_] := fun _ => by kernel_rfl
def c := co (k m_)
end gq

namespace aB
def inl : FuncId -> Bool := fun f => [].any (Nat.beq f)
def O (m_ : aJ) : mJ := (KE [])
theorem Ok (m_ : aJ) {S0 w0} : gI P S0 w0 (O m_) := (yO (an))
def run (m_ : aJ) : (List (List Int)) × Unit -> Option (List (List Int)) := fun v_ => match v_ with
| (s, ()) =>
 bif decide (([] : List (List Int)).length + s.length < 4398046511104) then
 some (([] : List (List Int)) ++ s) else none
def c_ (m_ : aJ) : Callee := ⟨35, [.one (.lst .str)], .one (.own .str), run m_⟩
theorem kn (m_ : aJ) : iJ P (O m_) inl [] [] (c_ m_).res.fin 20000 false (start 35 [.bD]) = (
 some ([] : List (List Int))) := by kernel_rfl
theorem k (m_ : aJ) : ∀ xs : List (List Int), iJ P (O m_) inl [] [] (c_ m_).res.fin 20000 false (start 35 [.lI .str xs]) = run m_ (xs, ()) := by intro xs; kernel_rfl
theorem ok (m_ : aJ) : (c_ m_).OK P := Callee.of_nil (fun S0 w0 => (Ok m_)) (by kernel_rfl) (by rfl) (fun S0 w0 cs0 => an) (fun r h => (kn m_).trans ((show (
 some ([] : List (List Int))) = aB.run m_ ([], ()) from by kernel_rfl).trans h)) (fun x r h => (aB.k m_ x).trans h)
def c (m_ : aJ) : CO P := ⟨c_ m_, ok m_⟩
end aB

namespace jv
def O : OO P := fK [lG.c m_, aB.c m_, uT.c m_, gq.c m_]
def o0 : bC := .c [.w, .s, .s, .lW, .s, .s, .u, .u, .u, .u, .u]
def e0 : Spec := ⟨[fs 31 [.q 1] [(0, .qE 0 3)], fs 25 [.v 6 [9,10], .q 7] [(2, .ptr 1 0), (3, .ptr 2 0), (4, .ptr 3 0)]], [(0, .c [.clo 66 [.bool, (.int .i64)], .clo 66 [.bool, (.int .i64)], .fn (.func 57) [2]]), (1, .c [.w, .s, .s]), (2, .c [.t]), (3, o0)], 4⟩
def x0 : List Spec := [⟨[fs 25 [.q 7] [(2, .ptr 0 0), (3, .ptr 1 0), (4, .ptr 2 0), (6, .w)]], [(0, .c [.w, .s, .s]), (1, .c [.t]), (2, o0)], 3⟩]
abbrev A0 : Type := (Bool × Int × Unit) × (Bool × Int × Unit) × Int × LI × LI × LL × Int × LI × LI × LI × LI × Int × Int × Int × Int × Int × Unit
abbrev B0 : Type := (Int × Int × LI × LI × LL × Int × LI × LI × LI × LI × Int × Int × Int × Int × Int × Unit)
def b0 (self : A0 -> Option B0) : A0 -> Option B0 := fun v_ => match v_ with
| (m, m1, m2, m3, m4, m5, m6) =>
 bif m.1 then
  bif m1.1 then
   (gq.run m_ (m5, ())).bind fun r =>
   bif !(decide (r = 0)) then
    some (r, m2, m3, m4, m5, m6)
   else
    some (0, m2, m3, m4, m5, m6)
  else
   bif !(decide (m1.2.1 = 0)) then
    some (m1.2.1, m2, m3, m4, m5, m6)
   else
    (gq.run m_ (m5, ())).bind fun r1 =>
    bif !(decide (r1 = 0)) then
     some (r1, m2, m3, m4, m5, m6)
    else
     some (0, m2, m3, m4, m5, m6)
 else
  bif !(decide (m.2.1 = 0)) then
   some (m.2.1, m2, m3, m4, m5, m6)
  else
   bif m1.1 then
    (gq.run m_ (m5, ())).bind fun r2 =>
    bif !(decide (r2 = 0)) then
     some (r2, m2, m3, m4, m5, m6)
    else
     some (0, m2, m3, m4, m5, m6)
   else
    bif !(decide (m1.2.1 = 0)) then
     some (m1.2.1, m2, m3, m4, m5, m6)
    else
     (gq.run m_ (m5, ())).bind fun r3 =>
     bif !(decide (r3 = 0)) then
      some (r3, m2, m3, m4, m5, m6)
     else
      some (0, m2, m3, m4, m5, m6)
theorem k0 : KQ 25 (O m_) [31, 57, 66] e0 x0 [] (b0 m_) := fun _ _ => by kernel_rfl
def l0 := loop m_ (b0 m_)
theorem q0 (v) : l0 .lim v = b0 .lim (l0 .lim) v := KS.q (k0 .lim) v
def s0 := so m_ (k0 m_)
def run : (Int × (List Int × List Int)) × (List (List Int)) × Unit -> Option (RD × Int × Unit) := fun v_ => match v_ with
| (k, l, ()) =>
 (uT.run m_ (k, ())).bind fun r =>
 (lG.run m_ (13, r, ())).bind fun (e, b, ()) =>
 bif ay (l.length : Int) then
 (lG.run m_ (19, decide ((l.length : Int) > 0), ())).bind fun (e1, b1, ()) =>
 (jv.l0 m_ ((e, b, ()), (e1, b1, ()), k.1, k.2.1, k.2.2, l, 0, ([] : List Int), ([] : List Int), ([] : List Int), ([] : List Int), 0, 0, 0, 0, 0, ())).bind fun (e2, m, m1, m2, m3, m4) =>
 bif !(decide (e2 = 0)) then
  some (((0, (([] : List Int), ([] : List Int))), (([] : List (List Int)), (([] : List Int), (([] : List Int), (0, (0, (0, (0, 0)))))))), e2, ())
 else
  (aB.run m_ (m3, ())).bind fun r3 =>
  some (((m, (m1, m2)), (r3, (([] : List Int), (([] : List Int), (0, (0, (0, (0, 0)))))))), 0, ()) else none
theorem k : KT (O m_) [31, 57, 66] ⟨25, [.ag VW, .one (.lst .str)], .je [.sh (.ag BN), .sh (.one (.int .i64))], run m_⟩ [s0 m_] := fun _ => by kernel_rfl
def c := co (k m_)
end jv

namespace strings_Repeat
def run (_ : aJ) : (List Int) × Int × Unit -> Option (List Int) := FD
def c (m_ : aJ) : CO P := ⟨⟨33, [.one .str, .one (.int .i64)], .one (.sh (.one .str)), run m_⟩, QF (by kernel_rfl) fun s c w hc hl => Go.Proofs.Any.strings_Repeat Go.Proofs.Tryz.lays105 Go.Proofs.Tryz.Builder_Extra_105 s c w hc hl⟩
end strings_Repeat

namespace fQ
def O (m_ : aJ) : OO P := fK []
def e0 : Spec := ⟨[fs 73 [.q 116, .z 116, .b 0, .q 15] [(1, .w), (5, .own 5001 (.int .i64)), (8, .dat o_), (9, .w), (10, .w)]], [(5001, .c [.row (.int .i64)])], 5002⟩
def x0 : List Spec := [⟨[fs 73 [.q 15] [(5, .own 0 (.int .i64))]], [(0, .c [.row (.int .i64)])], 1⟩]
abbrev A0 : Type := Int × (List (Int × List Int)) × Int × Int × LI × Unit
abbrev B0 : Type := (LI × Unit)
def b0 (m_ : aJ) (self : A0 -> Option B0) : A0 -> Option B0 := fun v_ => match v_ with
| (kind, t, t1, t2, m, ()) =>
 bif decide (t2 < t1) then
  bif inB t2 (t.length : Int) then
  bif decide (((rd ((0 : Int), ([] : List Int)) t t2).1) = kind) then
   bif decide (m.length + ([t2] : List Int).length < 8796093022208) then
   self (kind, t, t1, (IntKind.i64.wrap (t2 + 1)), (m ++ ([t2] : List Int)), ()) else none
  else
   self (kind, t, t1, (IntKind.i64.wrap (t2 + 1)), m, ()) else none
 else
  some (m, ())
theorem k0 : KQ 73 (O m_) [] e0 x0 [] (b0 m_) := fun _ _ => by kernel_rfl
def l0 := loop m_ (b0 m_)
theorem q0 (v) : l0 .lim v = b0 .lim (l0 .lim) v := KS.q (k0 .lim) v
def s0 := so m_ (k0 m_)
def run : (List (Int × List Int)) × Int × Unit -> Option (List Int) := fun v_ => match v_ with
| (l, kind, ()) =>
 bif ay (l.length : Int) then
 (fQ.l0 m_ (kind, l, (l.length : Int), 0, ([] : List Int), ())).bind fun (m, ()) =>
 some m else none
theorem k : KT (O m_) [] ⟨73, [.one o_, .one (.int .i64)], .one (.own (.int .i64)), run m_⟩ [s0 m_] := fun _ => by kernel_rfl
def c := co (k m_)
end fQ

namespace jR
def O (m_ : aJ) : OO P := fK []
def run (m_ : aJ) : Int × Int × Int × Unit -> Option (Bool) := fun v_ => match v_ with
| (n, low, high, ()) =>
 some ((decide (low <= n)) && (decide (n <= high)))
theorem k : KT (O m_) [] ⟨111, [.one (.int .i64), .one (.int .i64), .one (.int .i64)], .one (.sh (.one .bool)), run m_⟩ [] := fun _ => by kernel_rfl
def c := co (k m_)
end jR

namespace uU
def O (m_ : aJ) : OO P := fK []
def run (m_ : aJ) : Int × Unit -> Option (List Int) := fun v_ => match v_ with
| (n, ()) =>
 some ([(IntKind.u8.wrap (iI .i64 n 8)), (IntKind.u8.wrap n)] : List Int)
theorem k : KT (O m_) [] ⟨142, [.one (.int .i64)], .one (.sh (.one .str)), run m_⟩ [] := fun _ => by kernel_rfl
def c := co (k m_)
end uU

namespace dW
def O : OO P := orj (fK [uU.c m_]) (orb Yp)
def e0 : Spec := ⟨[fs 112 [.q 500, .z 500, .b 0, .q 63] [(4, .ptr 0 0), (5, .b), (11, .dat o_), (12, .w), (13, .w)]], [(0, .nK 141 5)], 1⟩
def x0 : List Spec := [⟨[fs 112 [.q 512805, .b 2, .q 32051, .b 1, .q 4007, .z 500, .b 0, .q 63] [(2, .s), (3, .w)]], [], 0⟩, ⟨[fs 112 [.q 2051229, .b 2, .q 32051, .b 1, .q 4007, .z 500, .b 0, .q 63] [(2, .s), (3, .w)]], [], 0⟩, ⟨[fs 112 [.q 63] [(4, .ptr 0 0), (5, .b)]], [(0, .nK 141 5)], 1⟩]
abbrev A0 : Type := Bool × (List (Int × List Int)) × Int × Int × LI × Unit
abbrev B0 : Type := (LI × Int × Unit) ⊕ (LI × Int × Unit) ⊕ (Bool × LI × Unit)
def b0 (self : A0 -> Option B0) : A0 -> Option B0 := fun v_ => match v_ with
| (long, t, t1, t2, m, ()) =>
 bif decide (t2 < t1) then
  bif inB t2 (t.length : Int) then
  bif ((decide (((rd ((0 : Int), ([] : List Int)) t t2).1) < 0)) || (decide (((rd ((0 : Int), ([] : List Int)) t t2).1) >= 65536))) then
   some (.inl (([] : List Int), 13, ()))
  else
   bif ay (((rd ((0 : Int), ([] : List Int)) t t2).2).length : Int) then
   bif ((!(!(decide ((((rd ((0 : Int), ([] : List Int)) t t2).2).length : Int) < 12)))) || (ay (((rd ((0 : Int), ([] : List Int)) t t2).2).length : Int))) then
   bif ((decide ((((rd ((0 : Int), ([] : List Int)) t t2).2).length : Int) < 12)) || (!(decide ((fO .i64 (((rd ((0 : Int), ([] : List Int)) t t2).2).length : Int) 3) = 0)))) then
    some (.inr (.inl (([] : List Int), 10, ())))
   else
    ((bif !long then some () else some ())).bind fun _ =>
    bif (!!long || (ay (((rd ((0 : Int), ([] : List Int)) t t2).2).length : Int))) then
    bif !(long || (decide ((IntKind.i64.wrap ((IntKind.i64.wrap ((m.length : Int) + 4)) + (((rd ((0 : Int), ([] : List Int)) t t2).2).length : Int))) > 1232))) then
     (uU.run m_ ((rd ((0 : Int), ([] : List Int)) t t2).1, ())).bind fun r =>
     bif ay (((rd ((0 : Int), ([] : List Int)) t t2).2).length : Int) then
     (uU.run m_ ((IntKind.i64.wrap ((((rd ((0 : Int), ([] : List Int)) t t2).2).length : Int) + 4)), ())).bind fun r1 =>
     bif decide (r.length + r1.length <= maxStr) then
     bif decide ((r ++ r1).length + ((rd ((0 : Int), ([] : List Int)) t t2).2).length <= maxStr) then
     (GU (m.length + ((r ++ r1) ++ ((rd ((0 : Int), ([] : List Int)) t t2).2)).length)).bind fun _ =>
     self ((long || (decide ((IntKind.i64.wrap ((IntKind.i64.wrap ((m.length : Int) + 4)) + (((rd ((0 : Int), ([] : List Int)) t t2).2).length : Int))) > 1232))), t, t1, (IntKind.i64.wrap (t2 + 1)), (m ++ ((r ++ r1) ++ ((rd ((0 : Int), ([] : List Int)) t t2).2))), ()) else none else none else none
    else
     self ((long || (decide ((IntKind.i64.wrap ((IntKind.i64.wrap ((m.length : Int) + 4)) + (((rd ((0 : Int), ([] : List Int)) t t2).2).length : Int))) > 1232))), t, t1, (IntKind.i64.wrap (t2 + 1)), m, ()) else none else none else none else none
 else
  some (.inr (.inr (long, m, ())))
theorem k0 : KQ 112 (O m_) [] e0 x0 [] (b0 m_) := fun _ _ => by kernel_rfl
def l0 := loop m_ (b0 m_)
theorem q0 (v) : l0 .lim v = b0 .lim (l0 .lim) v := KS.q (k0 .lim) v
def s0 := so m_ (k0 m_)
def run : (List (Int × List Int)) × Unit -> Option ((List Int) × Int × Unit) := fun v_ => match v_ with
| (l, ()) =>
 bif ay (l.length : Int) then
 bif decide ((l.length : Int) > 16) then
  some (([] : List Int), 18, ())
 else
  bif ay (l.length : Int) then
  (dW.l0 m_ (false, l, (l.length : Int), 0, ([] : List Int), ())).bind fun g_ => match g_ with
  | .inl (t, t1, ()) =>
   some (t, t1, ())
  | .inr (.inl (t2, t3, ())) =>
   some (t2, t3, ())
  | .inr (.inr (long, m, ())) =>
   bif long then
    some (([] : List Int), 12, ())
   else
    some (m, 0, ()) else none else none
theorem k : KT (O m_) [] ⟨112, [.one o_], .je [.sh (.one .str), .sh (.one (.int .i64))], run m_⟩ [s0 m_] := fun _ => by kernel_rfl
def c := co (k m_)
end dW

namespace aK
def O : OO P := fK [jR.c m_, dW.c m_]
def f0 : bH := fs 113 [.q 12, .z 12, .b 0] [(0, .slc 0 0 (some 48) (.int .u8)), (1, .u), (6, .w), (7, .w)]
def o1 : bC := .c [.dat (.arr 48 (.int .u8))]
def o2 : bC := .c [.w, .w, .w, .w, .w, .w, .dat (.int .u32), .dat (.int .u32), .dat (.int .u32), .u, .u, .u, .u, .dat o_]
def e0 : Spec := ⟨[f0, fs 74 [.v 130713 [9], .b 1, .q 32679, .z 4084, .b 0, .q 511] [(1, .ptr 1 0), (4, .s), (6, .ptr 0 0), (84, .dat tY4), (85, .w)]], [(0, o1), (1, o2)], 2⟩
def x0 : List Spec := [⟨[fs 113 [] [], fs 74 [.v 130713 [9], .b 1, .q 32679, .z 4084, .b 0, .q 511] [(1, .ptr 0 0), (4, .s), (6, .ptr 1 0), (84, .dat tY4), (85, .w)]], [(0, o2), (1, o1)], 2⟩]
abbrev A0 : Type := Int × Int × Int × Int × Int × LI × LI × Int × LI × Int × Int × Int × Int × Int × Int × Int × Int × Int × Int × Int × Int × Int × (List (Int × List Int)) × Unit
abbrev B0 : Type := (LI × LI × Int × Int × Int × Int × Int × Int × Int × Int × Int × Int × Int × Int × Int × Int × (List (Int × List Int)) × LI × Unit)
def b0 (m_ : aJ) (self : A0 -> Option B0) : A0 -> Option B0 := fun v_ => match v_ with
| (bp, bq, n, t, t1, f, t2, t3, m, m1, m2, m3, m4, m5, m6, m7, m8, m9, m10, m11, m12, m13, m14, ()) =>
 bif decide (t1 < t) then
  bif ay bq then
  bif decide (0 <= (IntKind.i64.wrap (8 * (IntKind.i64.wrap ((IntKind.i64.wrap (bq - 1)) - t1))))) then
  bif inB t1 bq then
  self (bp, bq, n, t, (IntKind.i64.wrap (t1 + 1)), f, t2, t3, (m.set ((bp + t1).toNat) (IntKind.u8.wrap (iI .u64 n (IntKind.i64.wrap (8 * (IntKind.i64.wrap ((IntKind.i64.wrap (bq - 1)) - t1))))))), m1, m2, m3, m4, m5, m6, m7, m8, m9, m10, m11, m12, m13, m14, ()) else none else none else none
 else
  some (f, t2, t3, m1, m2, m3, m4, m5, m6, m7, m8, m9, m10, m11, m12, m13, m14, m, ())
theorem k0 : KQ 74 (O m_) [113] e0 x0 [] (b0 m_) := fun _ _ => by kernel_rfl
def l0 := loop m_ (b0 m_)
theorem q0 (v) : l0 .lim v = b0 .lim (l0 .lim) v := KS.q (k0 .lim) v
def s0 := so m_ (k0 m_)
def e1 : Spec := ⟨[fs 74 [.q 4084, .z 4084, .b 0, .q 511] [(1, .ptr 0 0), (4, .s), (6, .ptr 1 0), (84, .dat tY4), (85, .w)]], [(0, o2), (1, o1)], 2⟩
def x1 : List Spec := [⟨[fs 74 [.q 511] [(1, .ptr 0 0), (4, .s), (6, .ptr 1 0)]], [(0, o2), (1, o1)], 2⟩]
abbrev A1 : Type := LI × LI × Int × Int × Int × Int × Int × Int × Int × Int × Int × Int × Int × Int × Int × Int × (List (Int × List Int)) × LI × Unit
abbrev B1 : Type := (LI × Int × Int × Int × Int × Int × Int × Int × Int × Int × Int × Int × Int × Int × (List (Int × List Int)) × LI × Unit)
def b1 (self : A1 -> Option B1) : A1 -> Option B1 := fun v_ => match v_ with
| (f, t, t1, m, m1, m2, m3, m4, m5, m6, m7, m8, m9, m10, m11, m12, m13, m14, ()) =>
 bif decide (t1 < 3) then
  bif inB t1 3 then
  bif dR (IntKind.i64.wrap (4 + (IntKind.i64.wrap (4 * t1)))) (IntKind.i64.wrap (8 + (IntKind.i64.wrap (4 * t1)))) 48 then
  bif ay ((IntKind.i64.wrap (8 + (IntKind.i64.wrap (4 * t1)))) - (IntKind.i64.wrap (4 + (IntKind.i64.wrap (4 * t1))))) then
  (aK.l0 m_ ((IntKind.i64.wrap (4 + (IntKind.i64.wrap (4 * t1)))), ((IntKind.i64.wrap (8 + (IntKind.i64.wrap (4 * t1)))) - (IntKind.i64.wrap (4 + (IntKind.i64.wrap (4 * t1))))), (IntKind.u64.wrap (rd 0 t t1)), ((IntKind.i64.wrap (8 + (IntKind.i64.wrap (4 * t1)))) - (IntKind.i64.wrap (4 + (IntKind.i64.wrap (4 * t1))))), 0, f, t, t1, m14, m, m1, m2, m3, m4, m5, m6, m7, m8, m9, m10, m11, m12, m13, ())).bind fun (f1, t2, t3, m15) =>
  self (f1, t2, (IntKind.i64.wrap (t3 + 1)), m15) else none else none else none
 else
  some (f, m, m1, m2, m3, m4, m5, m6, m7, m8, m9, m10, m11, m12, m13, m14, ())
theorem k1 : KQ 74 (O m_) [113] e1 x1 [s0 m_] (b1 m_) := fun _ _ => by kernel_rfl
def l1 := loop m_ (b1 m_)
theorem q1 (v) : l1 .lim v = b1 .lim (l1 .lim) v := KS.q (k1 .lim) v
def s1 := so m_ (k1 m_)
def f3 : bH := fs 74 [.v 261785 [8], .b 3, .q 65447, .z 8180, .b 2, .q 1023] [(4, .s), (6, .ptr 0 0), (108, .dat (.arr 4 (.int .u64))), (109, .w)]
def e2 : Spec := ⟨[f0, f3], [(0, o1)], 1⟩
def x2 : List Spec := [⟨[fs 113 [] [], f3], [(0, o1)], 1⟩]
abbrev A2 : Type := Int × Int × Int × Int × Int × LI × LI × Int × LI × Unit
abbrev B2 : Type := (LI × LI × Int × LI × Unit)
def b2 (m_ : aJ) (self : A2 -> Option B2) : A2 -> Option B2 := fun v_ => match v_ with
| (bp, bq, n, t, t1, f, t2, t3, m, ()) =>
 bif decide (t1 < t) then
  bif ay bq then
  bif decide (0 <= (IntKind.i64.wrap (8 * (IntKind.i64.wrap ((IntKind.i64.wrap (bq - 1)) - t1))))) then
  bif inB t1 bq then
  self (bp, bq, n, t, (IntKind.i64.wrap (t1 + 1)), f, t2, t3, (m.set ((bp + t1).toNat) (IntKind.u8.wrap (iI .u64 n (IntKind.i64.wrap (8 * (IntKind.i64.wrap ((IntKind.i64.wrap (bq - 1)) - t1))))))), ()) else none else none else none
 else
  some (f, t2, t3, m, ())
theorem k2 : KQ 74 (O m_) [113] e2 x2 [] (b2 m_) := fun _ _ => by kernel_rfl
def l2 := loop m_ (b2 m_)
theorem q2 (v) : l2 .lim v = b2 .lim (l2 .lim) v := KS.q (k2 .lim) v
def s2 := so m_ (k2 m_)
def e3 : Spec := ⟨[fs 74 [.q 8180, .z 8180, .b 2, .q 1023] [(4, .s), (6, .ptr 0 0), (108, .dat (.arr 4 (.int .u64))), (109, .w)]], [(0, o1)], 1⟩
def x3 : List Spec := [⟨[fs 74 [.q 1023] [(4, .s), (6, .ptr 0 0)]], [(0, o1)], 1⟩]
abbrev A3 : Type := LI × LI × Int × LI × Unit
abbrev B3 : Type := (LI × LI × Unit)
def b3 (self : A3 -> Option B3) : A3 -> Option B3 := fun v_ => match v_ with
| (f, t, t1, m, ()) =>
 bif decide (t1 < 4) then
  bif inB t1 4 then
  bif dR (IntKind.i64.wrap (16 + (IntKind.i64.wrap (8 * t1)))) (IntKind.i64.wrap (24 + (IntKind.i64.wrap (8 * t1)))) 48 then
  bif ay ((IntKind.i64.wrap (24 + (IntKind.i64.wrap (8 * t1)))) - (IntKind.i64.wrap (16 + (IntKind.i64.wrap (8 * t1))))) then
  (aK.l2 m_ ((IntKind.i64.wrap (16 + (IntKind.i64.wrap (8 * t1)))), ((IntKind.i64.wrap (24 + (IntKind.i64.wrap (8 * t1)))) - (IntKind.i64.wrap (16 + (IntKind.i64.wrap (8 * t1))))), (rd 0 t t1), ((IntKind.i64.wrap (24 + (IntKind.i64.wrap (8 * t1)))) - (IntKind.i64.wrap (16 + (IntKind.i64.wrap (8 * t1))))), 0, f, t, t1, m, ())).bind fun (f1, t2, t3, m1, ()) =>
  self (f1, t2, (IntKind.i64.wrap (t3 + 1)), m1, ()) else none else none else none
 else
  some (f, m, ())
theorem k3 : KQ 74 (O m_) [113] e3 x3 [s2 m_] (b3 m_) := fun _ _ => by kernel_rfl
def l3 := loop m_ (b3 m_)
theorem q3 (v) : l3 .lim v = b3 .lim (l3 .lim) v := KS.q (k3 .lim) v
def s3 := so m_ (k3 m_)
def run : Y5 × Unit -> Option ((List Int) × Int × Unit) := fun v_ => match v_ with
| (p, ()) =>
 (jR.run m_ (p.1, 0, 3, ())).bind fun r =>
 ((bif !!r then jR.run m_ (p.2.1, 0, 7, ()) else some false)).bind fun r1 =>
 ((bif !(!r || !r1) then jR.run m_ (p.2.2.1, 0, 7, ()) else some false)).bind fun r2 =>
 ((bif !((!r || !r1) || !r2) then jR.run m_ (p.2.2.2.1, 0, 255, ()) else some false)).bind fun r3 =>
 ((bif !(((!r || !r1) || !r2) || !r3) then jR.run m_ (p.2.2.2.2.1, (-128), 127, ()) else some false)).bind fun r4 =>
 ((bif !((((!r || !r1) || !r2) || !r3) || !r4) then jR.run m_ (p.2.2.2.2.2.1, (-128), 127, ()) else some false)).bind fun r5 =>
 bif (((((!r || !r1) || !r2) || !r3) || !r4) || !r5) then
  some (([] : List Int), 13, ())
 else
  (dW.run m_ (p.2.2.2.2.2.2.2.2.2.2.2.2.2, ())).bind fun (r6, r7, ()) =>
  bif !(decide (r7 = 0)) then
   some (([] : List Int), r7, ())
  else
   (aK.l1 m_ (r6, ((((List.replicate 3 (0 : Int) : List Int).set 0 p.2.2.2.2.2.2.1).set 1 p.2.2.2.2.2.2.2.1).set 2 p.2.2.2.2.2.2.2.2.1), 0, p.1, p.2.1, p.2.2.1, p.2.2.2.1, p.2.2.2.2.1, p.2.2.2.2.2.1, p.2.2.2.2.2.2.1, p.2.2.2.2.2.2.2.1, p.2.2.2.2.2.2.2.2.1, p.2.2.2.2.2.2.2.2.2.1, p.2.2.2.2.2.2.2.2.2.2.1, p.2.2.2.2.2.2.2.2.2.2.2.1, p.2.2.2.2.2.2.2.2.2.2.2.2.1, p.2.2.2.2.2.2.2.2.2.2.2.2.2, (((((List.replicate 48 (0 : Int)).set 0 (IntKind.u8.wrap (nM .i64 (nM .i64 (eP .i64 p.1 6) (eP .i64 p.2.1 3)) p.2.2.1))).set 1 (IntKind.u8.wrap p.2.2.2.1)).set 2 (IntKind.u8.wrap p.2.2.2.2.1)).set 3 (IntKind.u8.wrap p.2.2.2.2.2.1)), ())).bind fun (f, m, m1, m2, m3, m4, m5, m6, m7, m8, m9, m10, m11, m12, m13, m14, ()) =>
   (aK.l3 m_ (f, (((((List.replicate 4 (0 : Int) : List Int).set 0 m9).set 1 m10).set 2 m11).set 3 m12), 0, m14, ())).bind fun (f1, m15, ()) =>
   bif decide (((m15.drop 0).take 48).length + f1.length <= maxStr) then
   some ((((m15.drop 0).take 48) ++ f1), 0, ()) else none
theorem k : KT (O m_) [113] ⟨74, [.ag Ns], .je [.sh (.one .str), .sh (.one (.int .i64))], run m_⟩ [s1 m_, s3 m_] := fun _ => by kernel_rfl
def c := co (k m_)
end aK

namespace iQ
def O (m_ : aJ) : OO P := fK []
def run (m_ : aJ) : qK × Unit -> Option (Int) := fun v_ => match v_ with
| (k, ()) =>
 bif ay (k.1.length : Int) then
 bif ((!(!(decide ((k.1.length : Int) = 32)))) || (ay (k.1.length : Int))) then
 bif ((!(decide ((k.1.length : Int) = 32))) && (!(decide ((k.1.length : Int) = 64)))) then
  some 13
 else
  bif ay (k.2.1.length : Int) then
  bif decide ((k.2.1.length : Int) > 126) then
   some 18
  else
   some 0 else none else none else none
theorem k : KT (O m_) [] ⟨207, [.ag FH], .one (.sh (.one (.int .i64))), run m_⟩ [] := fun _ => by kernel_rfl
def c := co (k m_)
end iQ

namespace aN
def O (m_ : aJ) : OO P := fK []
def e0 : Spec := ⟨[fs 210 [.q 116, .z 116, .b 0, .q 15] [(0, .t), (1, .t), (12, .w), (13, .w)]], [], 0⟩
def x0 : List Spec := [⟨[fs 210 [.q 29901, .b 1, .q 935, .z 116, .b 0, .q 15] [(4, .b)]], [], 0⟩, ⟨[fs 210 [.q 15] []], [], 0⟩]
abbrev A0 : Type := LL × LL × Int × Int × Unit
abbrev B0 : Type := (Bool × Unit) ⊕ (Unit)
def b0 (m_ : aJ) (self : A0 -> Option B0) : A0 -> Option B0 := fun v_ => match v_ with
| (s1, s2, t, t1, ()) =>
 bif decide (t1 < t) then
  bif inB t1 (s1.length : Int) then
  bif inB t1 (s2.length : Int) then
  bif !(decide ((rd ([] : List Int) s1 t1) = (rd ([] : List Int) s2 t1))) then
   some (.inl (false, ()))
  else
   self (s1, s2, t, (IntKind.i64.wrap (t1 + 1)), ()) else none else none
 else
  some (.inr (()))
theorem k0 : KQ 210 (O m_) [] e0 x0 [] (b0 m_) := fun _ _ => by kernel_rfl
def l0 := loop m_ (b0 m_)
theorem q0 (v) : l0 .lim v = b0 .lim (l0 .lim) v := KS.q (k0 .lim) v
def s0 := so m_ (k0 m_)
def run : (List (List Int)) × (List (List Int)) × Unit -> Option (Bool) := fun v_ => match v_ with
| (s1, s2, ()) =>
 bif ay (s1.length : Int) then
 bif ay (s2.length : Int) then
 bif !(decide ((s1.length : Int) = (s2.length : Int))) then
  some false
 else
  bif ay (s1.length : Int) then
  (aN.l0 m_ (s1, s2, (s1.length : Int), 0, ())).bind fun g_ => match g_ with
  | .inl (t, ()) =>
   some t
  | .inr (()) =>
   some true else none else none else none
theorem k : KT (O m_) [] ⟨210, [.one (.lst .str), .one (.lst .str)], .one (.sh (.one .bool)), run m_⟩ [s0 m_] := fun _ => by kernel_rfl
def c := co (k m_)
end aN

namespace nD
def O : OO P := fK [aN.c m_]
def run : qK × qK × Unit -> Option (Bool) := fun v_ => match v_ with
| (a, b, ()) =>
 ((bif ((decide (a.1 = b.1)) && (decide (a.2.2.1 = b.2.2.1))) then aN.run m_ (a.2.1, b.2.1, ()) else some false)).bind fun r =>
 some (((decide (a.1 = b.1)) && (decide (a.2.2.1 = b.2.2.1))) && r)
theorem k : KT (O m_) [] ⟨212, [.ag FH, .ag FH], .one (.sh (.one .bool)), run m_⟩ [] := fun _ => by kernel_rfl
def c := co (k m_)
end nD

namespace eG
def O : OO P := fK [strings_Repeat.c m_]
def o0 : bC := .c [.dat sV]
def e0 : Spec := ⟨[fs 213 [.q 116, .z 116, .b 0, .q 15] [(0, .w), (1, .s), (5, .ptr 0 0), (7, .w)]], [(0, o0)], 1⟩
def x0 : List Spec := [⟨[fs 213 [.q 15] [(1, .s), (5, .ptr 0 0)]], [(0, o0)], 1⟩]
abbrev A0 : Type := Int × LI × Int × LI × Unit
abbrev B0 : Type := (LI × LI × Unit)
def b0 (m_ : aJ) (self : A0 -> Option B0) : A0 -> Option B0 := fun v_ => match v_ with
| (n, plain, t, m, ()) =>
 bif decide (t < 8) then
  bif decide (0 <= (IntKind.i64.wrap (8 * t))) then
  bif inB (IntKind.i64.wrap (15 - t)) 16 then
  self (n, plain, (IntKind.i64.wrap (t + 1)), (m.set ((IntKind.i64.wrap (15 - t)).toNat) (IntKind.u8.wrap (iI .i64 n (IntKind.i64.wrap (8 * t))))), ()) else none else none
 else
  some (plain, m, ())
theorem k0 : KQ 213 (O m_) [] e0 x0 [] (b0 m_) := fun _ _ => by kernel_rfl
def l0 := loop m_ (b0 m_)
theorem q0 (v) : l0 .lim v = b0 .lim (l0 .lim) v := KS.q (k0 .lim) v
def s0 := so m_ (k0 m_)
def run : Int × (List Int) × Unit -> Option (List Int) := fun v_ => match v_ with
| (n, plain, ()) =>
 (eG.l0 m_ (n, plain, 0, (List.replicate 16 (0 : Int)), ())).bind fun (TN, m, ()) =>
 bif ay (TN.length : Int) then
 (strings_Repeat.run m_ (([0] : List Int), (TN.length : Int), ())).bind fun r =>
 bif decide (((m.drop 0).take 16).length + r.length <= maxStr) then
 some (((m.drop 0).take 16) ++ r) else none else none
theorem k : KT (O m_) [] ⟨213, [.one (.int .i64), .one .str], .one (.sh (.one .str)), run m_⟩ [s0 m_] := fun _ => by kernel_rfl
def c := co (k m_)
end eG

namespace bG
def inl : FuncId -> Bool := fun f => [].any (Nat.beq f)
def O (m_ : aJ) : mJ := (KE [])
theorem Ok (m_ : aJ) {S0 w0} : gI P S0 w0 (O m_) := (yO (an))
def run (m_ : aJ) : (List qK) × Unit -> Option (List qK) := fun v_ => match v_ with
| (s, ()) =>
 bif decide (([] : List qK).length + s.length < 977343669134) then
 some (([] : List qK) ++ s) else none
def c_ (m_ : aJ) : Callee := ⟨214, [.one zZ], .one (.own FH), run m_⟩
theorem kn (m_ : aJ) : iJ P (O m_) inl [] [] (c_ m_).res.fin 20000 false (start 214 [.bD]) = (
 some ([] : List qK)) := by kernel_rfl
theorem k (m_ : aJ) : ∀ xs : List qK, iJ P (O m_) inl [] [] (c_ m_).res.fin 20000 false (start 214 [.lI FH xs]) = run m_ (xs, ()) := by intro xs; kernel_rfl
theorem ok (m_ : aJ) : (c_ m_).OK P := Callee.of_nil (fun S0 w0 => (Ok m_)) (by kernel_rfl) (by rfl) (fun S0 w0 cs0 => an) (fun r h => (kn m_).trans ((show (
 some ([] : List qK)) = bG.run m_ ([], ()) from by kernel_rfl).trans h)) (fun x r h => (bG.k m_ x).trans h)
def c (m_ : aJ) : CO P := ⟨c_ m_, ok m_⟩
end bG

namespace gu
def O : OO P := fK [strings_Repeat.c m_]
def run : Int × Unit -> Option (List Int) := fun v_ => match v_ with
| (n, ()) =>
 (strings_Repeat.run m_ (([0] : List Int), n, ())).bind fun r =>
 some r
theorem k : KT (O m_) [] ⟨223, [.one (.int .i64)], .one (.sh (.one .str)), run m_⟩ [] := fun _ => by kernel_rfl
def c := co (k m_)
end gu

namespace dV
def O (m_ : aJ) : OO P := fK []
def e0 : Spec := ⟨[fs 250 [.q 56, .z 56, .b 0, .q 15] [(0, .y), (1, .y), (5, .y)]], [], 0⟩
def x0 : List Spec := [⟨[fs 250 [.q 15] [(5, .y)]], [], 0⟩]
abbrev A0 : Type := Int × Int × Int × Unit
abbrev B0 : Type := (Int × Unit)
def b0 (m_ : aJ) (self : A0 -> Option B0) : A0 -> Option B0 := fun v_ => match v_ with
| (a, b, r, ()) =>
 bif decide (b > 0) then
  self ((dN .u8 (eP .u8 a 1) (IntKind.u8.wrap ((iI .u8 a 7) * 27))), (iI .u8 b 1), (dN .u8 r (IntKind.u8.wrap (a * (fO .u8 b 1)))), ())
 else
  some (r, ())
theorem k0 : KQ 250 (O m_) [] e0 x0 [] (b0 m_) := fun _ _ => by kernel_rfl
def l0 := loop m_ (b0 m_)
theorem q0 (v) : l0 .lim v = b0 .lim (l0 .lim) v := KS.q (k0 .lim) v
def s0 := so m_ (k0 m_)
def run : Int × Int × Unit -> Option (Int) := fun v_ => match v_ with
| (a, b, ()) =>
 (dV.l0 m_ (a, b, 0, ())).bind fun (r, ()) =>
 some r
theorem k : KT (O m_) [] ⟨250, [.one (.int .u8), .one (.int .u8)], .one (.sh (.one (.int .u8))), run m_⟩ [s0 m_] := fun _ => by kernel_rfl
def c := co (k m_)
end dV

namespace f_
def O : OO P := fK [dV.c m_]
def e0 : Spec := ⟨[fs 258 [.q 116, .z 116, .b 0, .q 15] [(3, .y), (4, .y), (6, .w)]], [], 0⟩
def x0 : List Spec := [⟨[fs 258 [.q 15] [(3, .y)]], [], 0⟩]
abbrev A0 : Type := Int × Int × Int × Unit
abbrev B0 : Type := (Int × Unit)
def b0 (self : A0 -> Option B0) : A0 -> Option B0 := fun v_ => match v_ with
| (r, s, t, ()) =>
 bif decide (t < 7) then
  (dV.run m_ (s, s, ())).bind fun r1 =>
  (dV.run m_ (r, r1, ())).bind fun r2 =>
  self (r2, r1, (IntKind.i64.wrap (t + 1)), ())
 else
  some (r, ())
theorem k0 : KQ 258 (O m_) [] e0 x0 [] (b0 m_) := fun _ _ => by kernel_rfl
def l0 := loop m_ (b0 m_)
theorem q0 (v) : l0 .lim v = b0 .lim (l0 .lim) v := KS.q (k0 .lim) v
def s0 := so m_ (k0 m_)
def run : Int × Unit -> Option (Int) := fun v_ => match v_ with
| (b, ()) =>
 (f_.l0 m_ (1, b, 0, ())).bind fun (r, ()) =>
 some r
theorem k : KT (O m_) [] ⟨258, [.one (.int .u8)], .one (.sh (.one (.int .u8))), run m_⟩ [s0 m_] := fun _ => by kernel_rfl
def c := co (k m_)
end f_

namespace oM
def O (m_ : aJ) : OO P := fK []
def run (m_ : aJ) : Int × Int × Unit -> Option (Int) := fun v_ => match v_ with
| (b, n, ()) =>
 bif decide (0 <= n) then
 bif decide (0 <= (IntKind.i64.wrap (8 - n))) then
 some (nM .u8 (eP .u8 b n) (iI .u8 b (IntKind.i64.wrap (8 - n)))) else none else none
theorem k : KT (O m_) [] ⟨259, [.one (.int .u8), .one (.int .i64)], .one (.sh (.one (.int .u8))), run m_⟩ [] := fun _ => by kernel_rfl
def c := co (k m_)
end oM

namespace qg
def O : OO P := fK [f_.c m_, oM.c m_]
def run : Int × Unit -> Option (Int) := fun v_ => match v_ with
| (b, ()) =>
 (f_.run m_ (b, ())).bind fun r =>
 (oM.run m_ (r, 1, ())).bind fun r1 =>
 (oM.run m_ (r, 2, ())).bind fun r2 =>
 (oM.run m_ (r, 3, ())).bind fun r3 =>
 (oM.run m_ (r, 4, ())).bind fun r4 =>
 some (dN .u8 (dN .u8 (dN .u8 (dN .u8 (dN .u8 r r1) r2) r3) r4) 99)
theorem k : KT (O m_) [] ⟨249, [.one (.int .u8)], .one (.sh (.one (.int .u8))), run m_⟩ [] := fun _ => by kernel_rfl
def c := co (k m_)
end qg

namespace aC
def O (m_ : aJ) : OO P := fK []
def e0 : Spec := ⟨[fs 253 [.q 116, .z 116, .b 0, .q 15] [(0, .dat ZH), (3, .w), (9, .dat ZH), (10, .w), (11, .w)]], [], 0⟩
def x0 : List Spec := [⟨[fs 253 [.q 15] [(0, .dat ZH), (3, .w)]], [], 0⟩]
abbrev A0 : Type := LL × Int × LL × Int × Int × Unit
abbrev B0 : Type := (LL × Int × Unit)
def b0 (m_ : aJ) (self : A0 -> Option B0) : A0 -> Option B0 := fun v_ => match v_ with
| (slices, size, t, t1, t2, ()) =>
 bif decide (t2 < t1) then
  bif inB t2 (t.length : Int) then
  bif ay ((rd ([] : List Int) t t2).length : Int) then
  bif decide ((IntKind.i64.wrap (size + ((rd ([] : List Int) t t2).length : Int))) < 0) then
   none
  else
   self (slices, (IntKind.i64.wrap (size + ((rd ([] : List Int) t t2).length : Int))), t, t1, (IntKind.i64.wrap (t2 + 1)), ()) else none else none
 else
  some (slices, size, ())
theorem k0 : KQ 253 (O m_) [262] e0 x0 [] (b0 m_) := fun _ _ => by kernel_rfl
def l0 := loop m_ (b0 m_)
theorem q0 (v) : l0 .lim v = b0 .lim (l0 .lim) v := KS.q (k0 .lim) v
def s0 := so m_ (k0 m_)
def e1 : Spec := ⟨[fs 253 [.q 500, .z 500, .b 2, .q 63] [(6, .pre 0 (.int .u8)), (25, .dat ZH), (26, .w), (27, .w)]], [(0, .c [.ry])], 1⟩
def x1 : List Spec := [⟨[fs 253 [.q 63] [(6, .pre 0 (.int .u8))]], [(0, .c [.ry])], 1⟩]
abbrev A1 : Type := Int × LL × Int × Int × LI × Unit
abbrev B1 : Type := (Int × LI × Unit)
def b1 (m_ : aJ) (self : A1 -> Option B1) : A1 -> Option B1 := fun v_ => match v_ with
| (oN, t, t1, t2, m, ()) =>
 bif decide (t2 < t1) then
  bif inB t2 (t.length : Int) then
  bif ((decide (m.length + (rd ([] : List Int) t t2).length < 70368744177664)) && (decide (0 <= oN))) then
  self ((oN + ((rd ([] : List Int) t t2).length : Int)), t, t1, (IntKind.i64.wrap (t2 + 1)), (m.take oN.toNat ++ ((rd ([] : List Int) t t2) ++ m.drop (oN.toNat + (rd ([] : List Int) t t2).length))), ()) else none else none
 else
  some (oN, m, ())
theorem k1 : KQ 253 (O m_) [262] e1 x1 [] (b1 m_) := fun _ _ => by kernel_rfl
def l1 := loop m_ (b1 m_)
theorem q1 (v) : l1 .lim v = b1 .lim (l1 .lim) v := KS.q (k1 .lim) v
def s1 := so m_ (k1 m_)
def run : (List (List Int)) × Unit -> Option (List Int) := fun v_ => match v_ with
| (slices, ()) =>
 bif ay (slices.length : Int) then
 (aC.l0 m_ (slices, 0, slices, (slices.length : Int), 0, ())).bind fun (vP, size, ()) =>
 bif decide (size < 0) then
  none
 else
  bif decide ((IntKind.i64.wrap (size - 0)) > 0) then
   bif ((decide (0 <= (IntKind.i64.wrap (size - 0)))) && (Nat.blt ((IntKind.i64.wrap (size - 0)).toNat) 70368744177664)) then
   bif dR 0 0 ((List.replicate ((IntKind.i64.wrap (size - 0)).toNat) 0).length : Int) then
   bif ay (vP.length : Int) then
   (aC.l1 m_ (0, vP, (vP.length : Int), 0, (List.replicate ((IntKind.i64.wrap (size - 0)).toNat) 0), ())).bind fun (oN, m, ()) =>
   some ((m.drop 0).take oN.toNat) else none else none else none
  else
   bif ay (vP.length : Int) then
   (aC.l1 m_ (0, vP, (vP.length : Int), 0, ([] : List Int), ())).bind fun (QI, m1, ()) =>
   some ((m1.drop 0).take QI.toNat) else none else none
theorem k : KT (O m_) [262] ⟨253, [.one ZH], .one (.sh (.one tY0)), run m_⟩ [s0 m_, s1 m_] := fun _ => by kernel_rfl
def c := co (k m_)
end aC

namespace gG
def O (m_ : aJ) : OO P := fK []
def run (m_ : aJ) : Bool × Unit -> Option (Int) := fun v_ => match v_ with
| (b, ()) =>
 bif b then
  some 1
 else
  some 0
theorem k : KT (O m_) [] ⟨266, [.one .bool], .one (.sh (.one (.int .u32))), run m_⟩ [] := fun _ => by kernel_rfl
def c := co (k m_)
end gG

namespace aj
def xs : List (FuncId × XK) := [(254, .load .u32), (265, .store), (267, .En .disable), (268, .cas .i32), (269, .En .enable), (270, .Eo .acquire), (272, .Eo .releaseMerge), (273, .add .i32)]
theorem TP : ∀ x ∈ xs, x.2.OK P x.1 := ac ⟨_, Go.Proofs.Tryz.func254, by kernel_rfl, by kernel_rfl, by kernel_rfl, by kernel_rfl⟩ (ac ⟨_, Go.Proofs.Tryz.func265, by kernel_rfl, by kernel_rfl, by kernel_rfl, by kernel_rfl⟩ (ac ⟨_, Go.Proofs.Tryz.func267, by kernel_rfl, by kernel_rfl, by kernel_rfl, by kernel_rfl⟩ (ac ⟨_, Go.Proofs.Tryz.func268, by kernel_rfl, by kernel_rfl, by kernel_rfl, by kernel_rfl⟩ (ac ⟨_, Go.Proofs.Tryz.func269, by kernel_rfl, by kernel_rfl, by kernel_rfl, by kernel_rfl⟩ (ac ⟨_, Go.Proofs.Tryz.func270, by kernel_rfl, by kernel_rfl, by kernel_rfl, by kernel_rfl⟩ (ac ⟨_, Go.Proofs.Tryz.func272, by kernel_rfl, by kernel_rfl, by kernel_rfl, by kernel_rfl⟩ (ac ⟨_, Go.Proofs.Tryz.func273, by kernel_rfl, by kernel_rfl, by kernel_rfl, by kernel_rfl⟩ (an))))))))
def O : OO P := orj (fK [qg.c m_, dV.c m_, aC.c m_, gG.c m_]) (orx TP)
def f0 : bH := ⟨248, [.v 61 [1]], [], none, [.call 257 [.ptr 0 1, .b], .call 256 [.ptr 0 2]], false⟩
def f1 : bH := fs 228 [.v 30 [5,6,7], .q 31] []
def o2 : bC := .c [.s, .dat (.int .u32), .dat (.int .i32), .dat (.int .u32), .dat rV, .dat rV, .dat rW, .lW]
def o3 : bC := .c [.dat sV]
def f4 : bH := fs 242 [.v 2 [1], .q 3] [(0, .ptr 1 0)]
def f5 : bH := fs 230 [.v 6 [1], .q 7] [(2, .ptr 2 0), (3, .ptr 3 0), (4, .ptr 4 0)]
def e0 : Spec := ⟨[fs 243 [.q 13116, .z 13116, .b 2, .b 1, .q 103, .z 12, .b 0] [(0, .ptr 0 0), (2, .w), (6, .w), (25, .oy 1), (26, .w), (27, .w)], fs 242 [.v 2 [1], .q 3] [(0, .ptr 2 0)], f0, fs 241 [.v 6 [2]] [], fs 233 [.v 3 [4]] [], fs 230 [.v 6 [1], .q 7] [(2, .ptr 3 0), (3, .ptr 4 0), (4, .ptr 5 0)], f1], [(0, o2), (1, .c [.ry]), (2, .c [.ptr 0 0]), (3, .c [.ptr 0 0]), (4, o3), (5, o3)], 6⟩
def x0 : List Spec := [⟨[fs 243 [.q 103, .z 12, .b 0] [(0, .ptr 0 0), (6, .w)], f4, f0, fs 241 [.v 6 [2]] [], fs 233 [.v 3 [4]] [], f5, f1], [(0, o2), (1, .c [.ptr 0 0]), (2, .c [.ptr 0 0]), (3, o3), (4, o3)], 5⟩]
abbrev A0 : Type := Int × Int × Int × Int × Bool × LI × Int × Int × Int × LI × LI × LL × LI × LI × LI × Unit
abbrev B0 : Type := (Int × Bool × LI × Int × Int × Int × LI × LI × LL × LI × LI × Unit)
def b0 (self : A0 -> Option B0) : A0 -> Option B0 := fun v_ => match v_ with
| (i, t, t1, t2, m, m1, m2, m3, m4, m5, m6, m7, m8, m9, m10, ()) =>
 bif decide (t2 < t1) then
  bif inB t2 (m8.length : Int) then
  (dV.run m_ ((IntKind.u8.wrap i), (rd 0 m8 t2), ())).bind fun r =>
  bif inB (rd 0 m8 t2) 16 then
  bif inB i 256 then
  self (i, t, t1, (IntKind.i64.wrap (t2 + 1)), m, m1, m2, m3, m4, m5, m6, (m7.set ((rd 0 m8 t2).toNat) ((rd (List.replicate 256 (0 : Int) : List Int) m7 (rd 0 m8 t2)).set i.toNat r)), m8, m9, m10, ()) else none else none else none
 else
  some (t, m, m1, m2, m3, m4, m5, m6, m7, m9, m10, ())
theorem k0 : KQ 228 (O m_) [229, 230, 233, 234, 235, 236, 237, 238, 241, 242, 243, 244, 247, 248, 251, 252, 253, 255, 263, 264] e0 x0 [] (b0 m_) := fun _ _ => by kernel_rfl
def l0 := loop m_ (b0 m_)
theorem q0 (v) : l0 .lim v = b0 .lim (l0 .lim) v := KS.q (k0 .lim) v
def s0 := so m_ (k0 m_)
def e1 : Spec := ⟨[fs 243 [.q 12, .z 12, .b 0] [(0, .ptr 0 0), (6, .w)], f4, f0, fs 241 [.v 6 [2]] [], fs 233 [.v 3 [4]] [], f5, f1], [(0, o2), (1, .c [.ptr 0 0]), (2, .c [.ptr 0 0]), (3, o3), (4, o3)], 5⟩
def x1 : List Spec := [⟨[fs 243 [] [], fs 242 [.v 2 [1], .q 3] [(0, .ptr 0 0)], ⟨248, [.v 61 [1]], [], none, [.call 257 [.ptr 1 1, .b], .call 256 [.ptr 1 2]], false⟩, fs 241 [.v 6 [2]] [], fs 233 [.v 3 [4]] [], f5, f1], [(0, .c [.ptr 1 0]), (1, o2), (2, .c [.ptr 1 0]), (3, o3), (4, o3)], 5⟩]
abbrev A1 : Type := Int × Bool × LI × Int × Int × Int × LI × LI × LL × LI × LI × Unit
abbrev B1 : Type := (Bool × LI × Int × Int × Int × LI × LI × LL × LI × LI × Unit)
def b1 (self : A1 -> Option B1) : A1 -> Option B1 := fun v_ => match v_ with
| (t, m, m1, m2, m3, m4, m5, m6, m7, m8, m9, ()) =>
 bif decide (t < 256) then
  (qg.run m_ ((IntKind.u8.wrap t), ())).bind fun r =>
  bif inB t 256 then
  bif inB r 256 then
  bif ay (([1, 2, 3, 9, 11, 13, 14] : List Int).length : Int) then
  (aj.l0 m_ (t, t, (([1, 2, 3, 9, 11, 13, 14] : List Int).length : Int), 0, m, m1, m2, m3, m4, (m5.set t.toNat r), (m6.set r.toNat (IntKind.u8.wrap t)), m7, ([1, 2, 3, 9, 11, 13, 14] : List Int), m8, m9, ())).bind fun (t1, m10) =>
  self ((IntKind.i64.wrap (t1 + 1)), m10) else none else none else none
 else
  some (m, m1, m2, m3, m4, m5, m6, m7, m8, m9, ())
theorem k1 : KQ 228 (O m_) [229, 230, 233, 234, 235, 236, 237, 238, 241, 242, 243, 244, 247, 248, 251, 252, 253, 255, 263, 264] e1 x1 [s0 m_] (b1 m_) := fun _ _ => by kernel_rfl
def l1 := loop m_ (b1 m_)
theorem q1 (v) : l1 .lim v = b1 .lim (l1 .lim) v := KS.q (k1 .lim) v
def s1 := so m_ (k1 m_)
def o6 : bC := .c [.row LG]
def f7 : bH := ⟨248, [.v 61 [1]], [], none, [.call 257 [.ptr 4 1, .b], .call 256 [.ptr 4 2]], false⟩
def f8 : bH := fs 230 [.v 6 [1], .q 7] [(2, .ptr 5 0), (3, .ptr 6 0), (4, .ptr 7 0)]
def o9 : bC := .c [.own 8 LG]
def e2 : Spec := ⟨[fs 260 [.q 12, .z 12, .b 0] [(0, .fn (.yield 0) []), (1, .ptr 1 0), (2, .ptr 2 0), (4, .w)], ⟨244, [.inRange 0, .b 0, .q 31], [(1, .ptr 3 0), (2, .w), (3, .ptr 4 0)], none, [.mark 5], false⟩, fs 242 [.v 3 [1]] [], ⟨248, [.v 61 [1]], [], none, [.call 257 [.ptr 6 1, .b], .call 256 [.ptr 6 2]], false⟩, fs 241 [.v 6 [2]] [], fs 233 [.v 3 [4]] [], fs 230 [.v 6 [1], .q 7] [(2, .ptr 7 0), (3, .ptr 8 0), (4, .ptr 9 0)], f1], [(0, .loop .ready none 244 [(3, .ptr 4 0)] [22] (vY 122) 5), (1, .c [.oy 10]), (2, .c [.w]), (3, .c [.ptr 6 0]), (4, .c [.own 5002 LG]), (5, .deferred false), (6, o2), (7, .c [.ptr 6 0]), (8, o3), (9, o3), (10, .d [.ry]), (5002, o6)], 5003⟩
def x2 : List Spec := [⟨[fs 260 [] [], ⟨244, [.inRange 2, .b 0, .q 31], [(1, .ptr 0 0), (2, .w), (3, .ptr 1 0)], none, [.mark 3], false⟩, fs 242 [.v 3 [1]] [], f7, fs 241 [.v 6 [2]] [], fs 233 [.v 3 [4]] [], f8, f1], [(0, .c [.ptr 4 0]), (1, o9), (2, .loop .ready none 244 [(3, .ptr 1 0)] [22] (vY 122) 3), (3, .deferred false), (4, o2), (5, .c [.ptr 4 0]), (6, o3), (7, o3), (8, o6)], 9⟩]
abbrev A2 : Type := Int × Int × Bool × Int × LI × Int × Int × Int × LI × LI × LL × LI × LI × LI × LL × Unit
abbrev B2 : Type := (Int × Bool × LI × Int × Int × Int × LI × LI × LL × LI × LI × LL × Unit)
def b2 (m_ : aJ) (self : A2 -> Option B2) : A2 -> Option B2 := fun v_ => match v_ with
| (i, nk, m, m1, m2, m3, m4, m5, m6, m7, m8, m9, m10, m11, m12, ()) =>
 bif ay (m11.length : Int) then
 bif decide (i < (m11.length : Int)) then
  bif dR i (m11.length : Int) (m11.length : Int) then
  bif ay ((m11.length : Int) - i) then
  bif ((dR i (IntKind.i64.wrap (i + (mn m1 ((m11.length : Int) - i)))) (IntKind.i64.wrap (i + (mn m1 ((m11.length : Int) - i))))) && (decide ((IntKind.i64.wrap (i + (mn m1 ((m11.length : Int) - i)))) <= (m11.length : Int)))) then
  bif (Nat.ble 1 4 && Nat.ble 4 (cut m11 i (IntKind.i64.wrap (i + (mn m1 ((m11.length : Int) - i))))).length) then
  bif decide (m12.length + ([((cut m11 i (IntKind.i64.wrap (i + (mn m1 ((m11.length : Int) - i))))).take 4)] : List (List Int)).length < 17592186044416) then
  self ((IntKind.i64.wrap (i + m1)), nk, m, m1, m2, m3, m4, m5, m6, m7, m8, m9, m10, m11, (m12 ++ ([((cut m11 i (IntKind.i64.wrap (i + (mn m1 ((m11.length : Int) - i))))).take 4)] : List (List Int))), ()) else none else none else none else none else none
 else
  some (nk, m, m2, m3, m4, m5, m6, m7, m8, m9, m10, m12, ()) else none
theorem k2 : KQ 228 (O m_) [229, 230, 233, 234, 235, 236, 237, 238, 241, 242, 243, 244, 247, 248, 251, 252, 253, 255, 263, 264] e2 x2 [] (b2 m_) := fun _ _ => by kernel_rfl
def l2 := loop m_ (b2 m_)
theorem q2 (v) : l2 .lim v = b2 .lim (l2 .lim) v := KS.q (k2 .lim) v
def s2 := so m_ (k2 m_)
def ZJ : bC := .c [.dat LG]
def e3 : Spec := ⟨[⟨244, [.q 518452, .z 518452, .b 4, .q 64807, .b 3, .q 4051, .z 1012, .b 2, .q 127], [(1, .ptr 0 0), (2, .w), (3, .ptr 1 0), (5, .y), (6, .w), (7, .ptr 2 0), (115, .w)], none, [.mark 3], false⟩, fs 242 [.v 3 [1]] [], f7, fs 241 [.v 6 [2]] [], fs 233 [.v 3 [4]] [], f8, f1], [(0, .c [.ptr 4 0]), (1, o9), (2, ZJ), (3, .deferred false), (4, o2), (5, .c [.ptr 4 0]), (6, o3), (7, o3), (8, o6)], 9⟩
def x3 : List Spec := [⟨[⟨244, [.q 64807, .b 3, .q 4051, .z 1012, .b 2, .q 127], [(1, .ptr 0 0), (2, .w), (3, .ptr 1 0), (5, .y), (6, .w), (7, .ptr 2 0)], none, [.mark 3], false⟩, fs 242 [.v 3 [1]] [], f7, fs 241 [.v 6 [2]] [], fs 233 [.v 3 [4]] [], f8, f1], [(0, .c [.ptr 4 0]), (1, o9), (2, ZJ), (3, .deferred false), (4, o2), (5, .c [.ptr 4 0]), (6, o3), (7, o3), (8, o6)], 9⟩]
abbrev A3 : Type := Int × Int × Int × Int × Bool × LI × LI × Int × Int × Int × LI × LI × LL × LI × LI × LL × Unit
abbrev B3 : Type := (Int × Int × Int × Bool × LI × LI × Int × Int × Int × LI × LI × LL × LI × LI × LL × Unit)
def b3 (m_ : aJ) (self : A3 -> Option B3) : A3 -> Option B3 := fun v_ => match v_ with
| (nk, x, i, t, m, m1, m2, m3, m4, m5, m6, m7, m8, m9, m10, m11, ()) =>
 bif decide (t < 4) then
  bif inB t 4 then
  bif inB (IntKind.i64.wrap (i - nk)) (m11.length : Int) then
  bif inB t 4 then
  bif inB t 4 then
  self (nk, x, i, (IntKind.i64.wrap (t + 1)), m, (m1.set t.toNat (dN .u8 (rd 0 m1 t) (rd 0 (rd (List.replicate 4 (0 : Int) : List Int) m11 (IntKind.i64.wrap (i - nk))) t))), m2, m3, m4, m5, m6, m7, m8, m9, m10, m11, ()) else none else none else none else none
 else
  some (nk, x, i, m, m1, m2, m3, m4, m5, m6, m7, m8, m9, m10, m11, ())
theorem k3 : KQ 228 (O m_) [229, 230, 233, 234, 235, 236, 237, 238, 241, 242, 243, 244, 247, 248, 251, 252, 253, 255, 263, 264] e3 x3 [] (b3 m_) := fun _ _ => by kernel_rfl
def l3 := loop m_ (b3 m_)
theorem q3 (v) : l3 .lim v = b3 .lim (l3 .lim) v := KS.q (k3 .lim) v
def s3 := so m_ (k3 m_)
def f11 : bH := ⟨248, [.v 61 [1]], [], none, [.call 257 [.ptr 3 1, .b], .call 256 [.ptr 3 2]], false⟩
def f12 : bH := fs 230 [.v 6 [1], .q 7] [(2, .ptr 4 0), (3, .ptr 5 0), (4, .ptr 6 0)]
def Y6 : bC := .c [.own 7 LG]
def e4 : Spec := ⟨[⟨244, [.q 1012, .z 1012, .b 2, .q 127], [(1, .ptr 0 0), (2, .w), (3, .ptr 1 0), (5, .y), (6, .w)], none, [.mark 2], false⟩, fs 242 [.v 3 [1]] [], f11, fs 241 [.v 6 [2]] [], fs 233 [.v 3 [4]] [], f12, f1], [(0, .c [.ptr 3 0]), (1, Y6), (2, .deferred false), (3, o2), (4, .c [.ptr 3 0]), (5, o3), (6, o3), (7, o6)], 8⟩
def x4 : List Spec := [⟨[⟨244, [.q 127], [(1, .ptr 0 0), (3, .ptr 1 0)], none, [.mark 2], false⟩, fs 242 [.v 3 [1]] [], f11, fs 241 [.v 6 [2]] [], fs 233 [.v 3 [4]] [], f12, f1], [(0, .c [.ptr 3 0]), (1, Y6), (2, .deferred false), (3, o2), (4, .c [.ptr 3 0]), (5, o3), (6, o3), (7, o6)], 8⟩]
abbrev A4 : Type := Int × Int × Int × Bool × LI × Int × Int × Int × LI × LI × LL × LI × LI × LL × Unit
abbrev B4 : Type := (Bool × LI × Int × Int × Int × LI × LI × LL × LI × LI × LL × Unit)
def b4 (self : A4 -> Option B4) : A4 -> Option B4 := fun v_ => match v_ with
| (nk, x, i, m, m1, m2, m3, m4, m5, m6, m7, m8, m9, m10, ()) =>
 bif decide (i < (IntKind.i64.wrap (4 * (IntKind.i64.wrap (nk + 7))))) then
  bif inB (IntKind.i64.wrap (i - 1)) (m10.length : Int) then
  bif !(decide (nk = 0)) then
  bif decide ((i.tmod nk) = 0) then
   bif inB (rd 0 (rd (List.replicate 4 (0 : Int) : List Int) m10 (IntKind.i64.wrap (i - 1))) 1) 256 then
   bif inB (rd 0 (rd (List.replicate 4 (0 : Int) : List Int) m10 (IntKind.i64.wrap (i - 1))) 2) 256 then
   bif inB (rd 0 (rd (List.replicate 4 (0 : Int) : List Int) m10 (IntKind.i64.wrap (i - 1))) 3) 256 then
   bif inB (rd 0 (rd (List.replicate 4 (0 : Int) : List Int) m10 (IntKind.i64.wrap (i - 1))) 0) 256 then
   (dV.run m_ (x, 2, ())).bind fun r =>
   (aj.l3 m_ (nk, r, i, 0, m, (((((List.replicate 4 (0 : Int) : List Int).set 0 (dN .u8 (rd 0 m5 (rd 0 (rd (List.replicate 4 (0 : Int) : List Int) m10 (IntKind.i64.wrap (i - 1))) 1)) x)).set 1 (rd 0 m5 (rd 0 (rd (List.replicate 4 (0 : Int) : List Int) m10 (IntKind.i64.wrap (i - 1))) 2))).set 2 (rd 0 m5 (rd 0 (rd (List.replicate 4 (0 : Int) : List Int) m10 (IntKind.i64.wrap (i - 1))) 3))).set 3 (rd 0 m5 (rd 0 (rd (List.replicate 4 (0 : Int) : List Int) m10 (IntKind.i64.wrap (i - 1))) 0))), m1, m2, m3, m4, m5, m6, m7, m8, m9, m10, ())).bind fun (nk1, x1, i1, m11, m12, m13, m14, m15, m16, m17, m18, m19, m20, m21, m22, ()) =>
   bif decide (m22.length + ([m12] : List (List Int)).length < 17592186044416) then
   self (nk1, x1, (IntKind.i64.wrap (i1 + 1)), m11, m13, m14, m15, m16, m17, m18, m19, m20, m21, (m22 ++ ([m12] : List (List Int))), ()) else none else none else none else none else none
  else
   bif ((!(decide (nk = 8))) || true) then
   bif ((decide (nk = 8)) && (decide ((i.tmod 8) = 4))) then
    bif inB (rd 0 (rd (List.replicate 4 (0 : Int) : List Int) m10 (IntKind.i64.wrap (i - 1))) 0) 256 then
    bif inB (rd 0 (rd (List.replicate 4 (0 : Int) : List Int) m10 (IntKind.i64.wrap (i - 1))) 1) 256 then
    bif inB (rd 0 (rd (List.replicate 4 (0 : Int) : List Int) m10 (IntKind.i64.wrap (i - 1))) 2) 256 then
    bif inB (rd 0 (rd (List.replicate 4 (0 : Int) : List Int) m10 (IntKind.i64.wrap (i - 1))) 3) 256 then
    (aj.l3 m_ (nk, x, i, 0, m, (((((List.replicate 4 (0 : Int) : List Int).set 0 (rd 0 m5 (rd 0 (rd (List.replicate 4 (0 : Int) : List Int) m10 (IntKind.i64.wrap (i - 1))) 0))).set 1 (rd 0 m5 (rd 0 (rd (List.replicate 4 (0 : Int) : List Int) m10 (IntKind.i64.wrap (i - 1))) 1))).set 2 (rd 0 m5 (rd 0 (rd (List.replicate 4 (0 : Int) : List Int) m10 (IntKind.i64.wrap (i - 1))) 2))).set 3 (rd 0 m5 (rd 0 (rd (List.replicate 4 (0 : Int) : List Int) m10 (IntKind.i64.wrap (i - 1))) 3))), m1, m2, m3, m4, m5, m6, m7, m8, m9, m10, ())).bind fun (nk2, x2, i2, m23, m24, z_, yU, Bg, Bh, E5, FI, GX, m32, Ez, Je, ()) =>
    bif decide (Je.length + ([m24] : List (List Int)).length < 17592186044416) then
    self (nk2, x2, (IntKind.i64.wrap (i2 + 1)), m23, z_, yU, Bg, Bh, E5, FI, GX, m32, Ez, (Je ++ ([m24] : List (List Int))), ()) else none else none else none else none else none
   else
    (aj.l3 m_ (nk, x, i, 0, m, (rd (List.replicate 4 (0 : Int) : List Int) m10 (IntKind.i64.wrap (i - 1))), m1, m2, m3, m4, m5, m6, m7, m8, m9, m10, ())).bind fun (nk3, x3, i3, KL, Jf, O9, TQ, QJ, QK, TR, Nu, O_, Pg, Jr, Js, ()) =>
    bif decide (Js.length + ([Jf] : List (List Int)).length < 17592186044416) then
    self (nk3, x3, (IntKind.i64.wrap (i3 + 1)), KL, O9, TQ, QJ, QK, TR, Nu, O_, Pg, Jr, (Js ++ ([Jf] : List (List Int))), ()) else none else none else none else none
 else
  some (m, m1, m2, m3, m4, m5, m6, m7, m8, m9, m10, ())
theorem k4 : KQ 228 (O m_) [229, 230, 233, 234, 235, 236, 237, 238, 241, 242, 243, 244, 247, 248, 251, 252, 253, 255, 263, 264] e4 x4 [s3 m_] (b4 m_) := fun _ _ => by kernel_rfl
def l4 := loop m_ (b4 m_)
theorem q4 (v) : l4 .lim v = b4 .lim (l4 .lim) v := KS.q (k4 .lim) v
def s4 := so m_ (k4 m_)
def FK : bC := .c [.row sV]
def e5 : Spec := ⟨[fs 261 [.q 12, .z 12, .b 0] [(0, .fn (.yield 0) []), (1, .ptr 1 0), (2, .ptr 2 0), (4, .w)], ⟨244, [.inRange 0, .b 6], [], none, [.mark 3, .mark 4], false⟩, fs 242 [.v 3 [1]] [], ⟨248, [.v 61 [1]], [], none, [.call 257 [.ptr 5 1, .b], .call 256 [.ptr 5 2]], false⟩, fs 241 [.v 6 [2]] [], fs 233 [.v 3 [4]] [], fs 230 [.v 6 [1], .q 7] [(2, .ptr 6 0), (3, .ptr 7 0), (4, .ptr 8 0)], f1], [(0, .loop .ready none 244 [(1, .ptr 9 0)] [138] (vY 510) 3), (1, .c [.own 10 LG]), (2, .c [.w]), (3, .deferred false), (4, .deferred false), (5, .c [.s, .dat (.int .u32), .dat (.int .i32), .dat (.int .u32), .dat rV, .dat rV, .dat rW, .own 5003 sV]), (6, .c [.ptr 5 0]), (7, o3), (8, o3), (9, .c [.ptr 5 0]), (10, .d [.row LG]), (5003, FK)], 5004⟩
def x5 : List Spec := [⟨[fs 261 [] [], ⟨244, [.inRange 0, .b 6], [], none, [.mark 1, .mark 2], false⟩, fs 242 [.v 3 [1]] [], f11, fs 241 [.v 6 [2]] [], fs 233 [.v 3 [4]] [], f12, f1], [(0, .loop .ready none 244 [(1, .ptr 7 0)] [138] (vY 510) 1), (1, .deferred false), (2, .deferred false), (3, .c [.s, .dat (.int .u32), .dat (.int .i32), .dat (.int .u32), .dat rV, .dat rV, .dat rW, .own 8 sV]), (4, .c [.ptr 3 0]), (5, o3), (6, o3), (7, .c [.ptr 3 0]), (8, FK)], 9⟩]
abbrev A5 : Type := Int × Bool × Int × LI × Int × Int × Int × LI × LI × LL × LI × LI × LL × LL × Unit
abbrev B5 : Type := (Bool × LI × Int × Int × Int × LI × LI × LL × LI × LI × LL × Unit)
def b5 (self : A5 -> Option B5) : A5 -> Option B5 := fun v_ => match v_ with
| (i, m, m1, m2, m3, m4, m5, m6, m7, m8, m9, m10, m11, m12, ()) =>
 bif ay (m11.length : Int) then
 bif decide (i < (m11.length : Int)) then
  bif dR i (m11.length : Int) (m11.length : Int) then
  bif ay ((m11.length : Int) - i) then
  bif ((dR i (IntKind.i64.wrap (i + (mn m1 ((m11.length : Int) - i)))) (IntKind.i64.wrap (i + (mn m1 ((m11.length : Int) - i))))) && (decide ((IntKind.i64.wrap (i + (mn m1 ((m11.length : Int) - i)))) <= (m11.length : Int)))) then
  bif inB 0 ((cut m11 i (IntKind.i64.wrap (i + (mn m1 ((m11.length : Int) - i))))).length : Int) then
  bif inB 1 ((cut m11 i (IntKind.i64.wrap (i + (mn m1 ((m11.length : Int) - i))))).length : Int) then
  bif inB 2 ((cut m11 i (IntKind.i64.wrap (i + (mn m1 ((m11.length : Int) - i))))).length : Int) then
  bif inB 3 ((cut m11 i (IntKind.i64.wrap (i + (mn m1 ((m11.length : Int) - i))))).length : Int) then
  (aC.run m_ (([(cut (rd (List.replicate 4 (0 : Int) : List Int) (cut m11 i (IntKind.i64.wrap (i + (mn m1 ((m11.length : Int) - i))))) 0) 0 4), (cut (rd (List.replicate 4 (0 : Int) : List Int) (cut m11 i (IntKind.i64.wrap (i + (mn m1 ((m11.length : Int) - i))))) 1) 0 4), (cut (rd (List.replicate 4 (0 : Int) : List Int) (cut m11 i (IntKind.i64.wrap (i + (mn m1 ((m11.length : Int) - i))))) 2) 0 4), (cut (rd (List.replicate 4 (0 : Int) : List Int) (cut m11 i (IntKind.i64.wrap (i + (mn m1 ((m11.length : Int) - i))))) 3) 0 4)] : List (List Int)), ())).bind fun r =>
  bif (Nat.ble 1 16 && Nat.ble 16 r.length) then
  bif decide (m12.length + ([(r.take 16)] : List (List Int)).length < 4398046511104) then
  self ((IntKind.i64.wrap (i + m1)), m, m1, m2, m3, m4, m5, m6, m7, m8, m9, m10, m11, (m12 ++ ([(r.take 16)] : List (List Int))), ()) else none else none else none else none else none else none else none else none else none
 else
  some (m, m2, m3, m4, m5, m6, m7, m8, m9, m10, m12, ()) else none
theorem k5 : KQ 228 (O m_) [229, 230, 233, 234, 235, 236, 237, 238, 241, 242, 243, 244, 247, 248, 251, 252, 253, 255, 263, 264] e5 x5 [] (b5 m_) := fun _ _ => by kernel_rfl
def l5 := loop m_ (b5 m_)
theorem q5 (v) : l5 .lim v = b5 .lim (l5 .lim) v := KS.q (k5 .lim) v
def s5 := so m_ (k5 m_)
def Vf : bC := .c [.s, .dat (.int .u32), .dat (.int .i32), .dat (.int .u32), .dat rV, .dat rV, .dat rW, .own 4 sV]
def e6 : Spec := ⟨[fs 233 [.q 1] [(0, .ptr 0 0)], fs 230 [.v 6 [1], .q 7] [(2, .ptr 1 0), (3, .ptr 2 0), (4, .ptr 3 0)], f1], [(0, o2), (1, .c [.ptr 0 0]), (2, o3), (3, o3)], 4⟩
def x6 : List Spec := [⟨[fs 233 [] [], fs 230 [.v 6 [1], .q 7] [(2, .ptr 0 0), (3, .ptr 1 0), (4, .ptr 2 0)], f1], [(0, .c [.ptr 3 0]), (1, o3), (2, o3), (3, Vf), (4, FK)], 5⟩]
abbrev A6 : Type := LI × Int × Int × Int × LI × LI × LL × LI × LI × Unit
abbrev B6 : Type := (LI × LI × LI × Int × Int × Int × LI × LI × LL × LL × Unit)
def b6 (self : A6 -> Option B6) : A6 -> Option B6 := fun v_ => match v_ with
| (m, m1, m2, m3, m4, m5, m6, m7, m8, ()) =>
 bif !(!(decide (m1 = 0))) then
  bif decide (m2 = 0) then
  bif !(!(decide (m1 = 0))) then
   (aj.l1 m_ (0, true, m, m1, (bif decide (m2 = 0) then 1 else m2), m3, m4, m5, m6, m7, m8, ())).bind fun (m9, m10, m11, m12, m13, m14, m15, m16, m17, m18, ()) =>
   bif ay (m10.length : Int) then
   (aj.l2 m_ (0, (IntKind.i64.wrap ((m10.length : Int).tdiv 4)), m9, 4, m10, m11, m12, m13, m14, m15, m16, m17, m18, m10, ([] : List (List Int)), ())).bind fun (nk, m19) =>
   (aj.l4 m_ (nk, 1, nk, m19)).bind fun (FI, GX, m32, Ez, Je, KL, Jf, O9, TQ, QJ, QK, ()) =>
   (aj.l5 m_ (0, FI, 4, GX, m32, Ez, Je, KL, Jf, O9, TQ, QJ, QK, ([] : List (List Int)), ())).bind fun (TR, Nu, O_, Pg, Jr, Js, KN, LH, GY, GZ, Jt, ()) =>
   (gG.run m_ (TR, ())).bind fun r =>
   bif !(decide ((IntKind.i32.wrap (Pg + (-1))) = 0)) then
    none
   else
    some (GY, GZ, Nu, r, (IntKind.i32.wrap (Pg + (-1))), Jr, Js, KN, LH, Jt, ()) else none
  else
   bif !(decide ((IntKind.i32.wrap ((bif decide (m2 = 0) then 1 else m2) + (-1))) = 0)) then
    none
   else
    some (m7, m8, m, m1, (IntKind.i32.wrap ((bif decide (m2 = 0) then 1 else m2) + (-1))), m3, m4, m5, m6, ([] : List (List Int)), ()) else none
 else
  some (m7, m8, m, m1, m2, m3, m4, m5, m6, ([] : List (List Int)), ())
theorem k6 : KQ 228 (O m_) [229, 230, 233, 234, 235, 236, 237, 238, 241, 242, 243, 244, 247, 248, 251, 252, 253, 255, 263, 264] e6 x6 [s1 m_, s2 m_, s4 m_, s5 m_] (b6 m_) := fun _ _ => by kernel_rfl
def l6 := loop m_ (b6 m_)
theorem q6 (v) : l6 .lim v = b6 .lim (l6 .lim) v := KS.q (k6 .lim) v
def s6 := so m_ (k6 m_)
def f16 : bH := fs 234 [.q 28, .z 28, .b 0] [(0, .ptr 0 0), (3, .ptr 1 0), (5, .w)]
def o17 : bC := .c [.s, .dat (.int .u32), .dat (.int .i32), .dat (.int .u32), .dat rV, .dat rV, .dat rW, .own 5 sV]
def e7 : Spec := ⟨[f16, fs 230 [.v 14 [6], .q 15] [(2, .ptr 2 0), (3, .ptr 0 0), (4, .ptr 3 0)], f1], [(0, o3), (1, o3), (2, .c [.ptr 4 0]), (3, o3), (4, o17), (5, FK)], 6⟩
def x7 : List Spec := [⟨[fs 234 [] [], fs 230 [.v 14 [6], .q 15] [(2, .ptr 0 0), (3, .ptr 1 0), (4, .ptr 2 0)], f1], [(0, .c [.ptr 3 0]), (1, o3), (2, o3), (3, Vf), (4, FK)], 5⟩]
abbrev A7 : Type := Int × LI × LI × LI × LI × Int × Int × Int × LI × LI × LL × LL × Unit
abbrev B7 : Type := (LI × LI × LI × Int × Int × Int × LI × LI × LL × LL × Unit)
def b7 (m_ : aJ) (self : A7 -> Option B7) : A7 -> Option B7 := fun v_ => match v_ with
| (t, m, m1, m2) =>
 bif decide (t < 16) then
  bif inB t 16 then
  bif inB t 16 then
  bif inB t 16 then
  self ((IntKind.i64.wrap (t + 1)), (m.set t.toNat (dN .u8 (rd 0 m t) (rd 0 m1 t))), m1, m2) else none else none else none
 else
  some (m, m2)
theorem k7 : KQ 228 (O m_) [229, 230, 233, 234, 235, 236, 237, 238, 241, 242, 243, 244, 247, 248, 251, 252, 253, 255, 263, 264] e7 x7 [] (b7 m_) := fun _ _ => by kernel_rfl
def l7 := loop m_ (b7 m_)
theorem q7 (v) : l7 .lim v = b7 .lim (l7 .lim) v := KS.q (k7 .lim) v
def s7 := so m_ (k7 m_)
def f18 : bH := fs 245 [.v 818 [10,11], .q 819, .b 1, .q 103, .z 12, .b 0] [(0, .fn (.yield 4) []), (1, .ptr 5 0), (9, .slc 6 0 none sV), (10, .w), (11, .w)]
def f19 : bH := ⟨230, [.inRange 4, .b 0, .q 31], [(3, .ptr 0 0), (4, .ptr 7 0)], none, [.mark 8], false⟩
def Yu : bC := .c [.s, .dat (.int .u32), .dat (.int .i32), .dat (.int .u32), .dat rV, .dat rV, .dat rW, .own 6 sV]
def XC : bC := .loop .busy none 230 [(2, .ptr 2 0), (3, .ptr 0 0)] [18, 19] (vY 122) 8
def f22 : bH := fs 245 [.v 818 [10,11], .q 819, .b 1, .q 103, .z 12, .b 0] [(0, .fn (.yield 3) []), (1, .ptr 4 0), (9, .slc 5 0 none sV), (10, .w), (11, .w)]
def f23 : bH := ⟨230, [.inRange 3, .b 0, .q 31], [(3, .ptr 1 0), (4, .ptr 6 0)], none, [.mark 7], false⟩
def o24 : bC := .loop .busy none 230 [(2, .ptr 0 0), (3, .ptr 1 0)] [18, 19] (vY 122) 7
def e8 : Spec := ⟨[fs 236 [.q 12, .z 12, .b 0] [(0, .ptr 0 0), (1, .ptr 1 4), (6, .ptr 0 0), (7, .w)], ⟨230, [.v 980 [3], .q 981, .b 1], [(2, .ptr 2 0), (3, .ptr 0 0), (5, .ptr 3 0), (6, .b)], some 4, [], false⟩, f18, f19, f1], [(0, o3), (1, Yu), (2, .c [.ptr 1 0]), (3, o3), (4, XC), (5, .c [.ptr 1 0]), (6, FK), (7, o3), (8, .deferred false)], 9⟩
def x8 : List Spec := [⟨[fs 236 [] [], ⟨230, [.v 980 [3], .q 981, .b 1], [(2, .ptr 0 0), (3, .ptr 1 0), (5, .ptr 2 0), (6, .b)], some 3, [], false⟩, f22, f23, f1], [(0, .c [.ptr 8 0]), (1, o3), (2, o3), (3, o24), (4, .c [.ptr 8 0]), (5, FK), (6, o3), (7, .deferred false), (8, o17)], 9⟩]
abbrev A8 : Type := Int × Bool × Int × Int × Int × Int × LI × LI × Int × Int × Int × LI × LI × LL × LI × LL × LI × Unit
abbrev B8 : Type := (Bool × Int × Int × Int × Int × LI × LI × LL × LI × LI × Int × Int × Int × LI × LI × LL × Unit)
def b8 (m_ : aJ) (self : A8 -> Option B8) : A8 -> Option B8 := fun v_ => match v_ with
| (t, last, tp, tq, t1, t2, m, m1, m2, m3, m4, m5, m6, m7, m8, m9, m10, ()) =>
 bif decide (t < 16) then
  bif inB t 16 then
  bif inB (rd 0 m t) 256 then
  bif inB t 16 then
  self ((IntKind.i64.wrap (t + 1)), last, tp, tq, t1, t2, (m.set t.toNat (rd 0 m5 (rd 0 m t))), m1, m2, m3, m4, m5, m6, m7, m8, m9, m10, ()) else none else none else none
 else
  some (last, tp, tq, t1, t2, m, m8, m9, m10, m1, m2, m3, m4, m5, m6, m7, ())
theorem k8 : KQ 228 (O m_) [229, 230, 233, 234, 235, 236, 237, 238, 241, 242, 243, 244, 247, 248, 251, 252, 253, 255, 263, 264] e8 x8 [] (b8 m_) := fun _ _ => by kernel_rfl
def l8 := loop m_ (b8 m_)
theorem q8 (v) : l8 .lim v = b8 .lim (l8 .lim) v := KS.q (k8 .lim) v
def s8 := so m_ (k8 m_)
def e9 : Spec := ⟨[fs 237 [.q 28, .z 28, .b 0] [(0, .ptr 0 0), (1, .w), (4, .ptr 1 0), (9, .w)], ⟨230, [.v 1962 [0], .q 1963, .b 1], [(2, .ptr 2 0), (3, .ptr 0 0), (5, .ptr 3 0), (6, .b)], some 4, [], false⟩, f18, f19, f1], [(0, o3), (1, o3), (2, .c [.ptr 9 0]), (3, o3), (4, XC), (5, .c [.ptr 9 0]), (6, FK), (7, o3), (8, .deferred false), (9, Yu)], 10⟩
def x9 : List Spec := [⟨[fs 237 [] [], ⟨230, [.v 1962 [0], .q 1963, .b 1], [(2, .ptr 0 0), (3, .ptr 1 0), (5, .ptr 2 0), (6, .b)], some 3, [], false⟩, f22, f23, f1], [(0, .c [.ptr 8 0]), (1, o3), (2, o3), (3, o24), (4, .c [.ptr 8 0]), (5, FK), (6, o3), (7, .deferred false), (8, o17)], 9⟩]
abbrev A9 : Type := Int × Int × Bool × Int × Int × Int × Int × LI × LI × LI × LL × LI × LI × Int × Int × Int × LI × LI × LL × Unit
abbrev B9 : Type := (Bool × Int × Int × Int × Int × LI × LI × LL × LI × LI × Int × Int × Int × LI × LI × LL × Unit)
def b9 (m_ : aJ) (self : A9 -> Option B9) : A9 -> Option B9 := fun v_ => match v_ with
| (Yv, t, last, tp, tq, t1, t2, m, m1, m2) =>
 bif decide (t < 16) then
  bif inB ((IntKind.i64.wrap ((IntKind.i64.wrap (t + (IntKind.i64.wrap (Yv * (t.tmod 4))))) + 64)).tmod 16) 16 then
  bif inB t 16 then
  self (Yv, (IntKind.i64.wrap (t + 1)), last, tp, tq, t1, t2, (m.set t.toNat (rd 0 m1 ((IntKind.i64.wrap ((IntKind.i64.wrap (t + (IntKind.i64.wrap (Yv * (t.tmod 4))))) + 64)).tmod 16))), m1, m2) else none else none
 else
  some (last, tp, tq, t1, t2, m, m2)
theorem k9 : KQ 228 (O m_) [229, 230, 233, 234, 235, 236, 237, 238, 241, 242, 243, 244, 247, 248, 251, 252, 253, 255, 263, 264] e9 x9 [] (b9 m_) := fun _ _ => by kernel_rfl
def l9 := loop m_ (b9 m_)
theorem q9 (v) : l9 .lim v = b9 .lim (l9 .lim) v := KS.q (k9 .lim) v
def s9 := so m_ (k9 m_)
def f25 : bH := ⟨230, [.v 15706 [2], .q 3927, .b 1], [(3, .ptr 1 0), (5, .ptr 4 0)], some 5, [], false⟩
def f26 : bH := fs 245 [.v 818 [10,11], .q 819, .b 1, .q 103, .z 12, .b 0] [(0, .fn (.yield 5) []), (1, .ptr 6 0), (9, .slc 7 0 none sV), (10, .w), (11, .w)]
def f27 : bH := ⟨230, [.inRange 5, .b 0, .q 31], [(3, .ptr 1 0), (4, .ptr 8 0)], none, [.mark 9], false⟩
def o28 : bC := .c [.s, .dat (.int .u32), .dat (.int .i32), .dat (.int .u32), .dat rV, .dat rV, .dat rW, .own 7 sV]
def o29 : bC := .loop .busy none 230 [(2, .ptr 10 0), (3, .ptr 1 0)] [18, 19] (vY 122) 9
def e10 : Spec := ⟨[fs 238 [.q 31132, .z 31132, .b 2, .b 1, .q 487, .z 60, .b 0] [(0, .ptr 0 0), (1, .ptr 1 0), (5, .ptr 2 0), (6, .ptr 3 0), (7, .w), (13, .w), (20, .dat LG), (21, .w)], f25, f26, f27, f1], [(0, o28), (1, o3), (2, ZJ), (3, o3), (4, o3), (5, o29), (6, .c [.ptr 0 0]), (7, FK), (8, o3), (9, .deferred false), (10, .c [.ptr 0 0])], 11⟩
def x10 : List Spec := [⟨[fs 238 [.q 487, .z 60, .b 0] [(0, .ptr 0 0), (1, .ptr 1 0), (5, .ptr 2 0), (6, .ptr 3 0), (13, .w)], f25, f26, f27, f1], [(0, o28), (1, o3), (2, ZJ), (3, o3), (4, o3), (5, o29), (6, .c [.ptr 0 0]), (7, FK), (8, o3), (9, .deferred false), (10, .c [.ptr 0 0])], 11⟩]
abbrev ZK : Type := Int × Int × LI × Int × Int × Int × Int × Int × LI × Int × Int × Int × LI × LI × LL × LI × LI × LI × LI × LL × LI × Unit
abbrev B10 : Type := (Int × Int × Int × Int × Int × LI × Int × Int × Int × LI × LI × LL × LI × LI × LI × LI × LL × LI × Unit)
def b10 (m_ : aJ) (self : ZK -> Option B10) : ZK -> Option B10 := fun v_ => match v_ with
| (i, t, t1, t2, tp, tq, t3, t4, m, m1, m2, m3, m4, m5, m6, m7, m8, m9, m10) =>
 bif decide (t2 < 4) then
  bif inB t2 4 then
  bif inB i 16 then
  bif inB (IntKind.i64.wrap ((IntKind.i64.wrap ((IntKind.i64.wrap (i.tdiv 4)) * 4)) + ((IntKind.i64.wrap (i + t2)).tmod 4))) 16 then
  bif inB (rd 0 t1 t2) 16 then
  bif inB (rd 0 m9 (IntKind.i64.wrap ((IntKind.i64.wrap ((IntKind.i64.wrap (i.tdiv 4)) * 4)) + ((IntKind.i64.wrap (i + t2)).tmod 4)))) 256 then
  bif inB i 16 then
  self (i, t, t1, (IntKind.i64.wrap (t2 + 1)), tp, tq, t3, t4, m, m1, m2, m3, m4, m5, m6, (m7.set i.toNat (dN .u8 (rd 0 m7 i) (rd 0 (rd (List.replicate 256 (0 : Int) : List Int) m6 (rd 0 t1 t2)) (rd 0 m9 (IntKind.i64.wrap ((IntKind.i64.wrap ((IntKind.i64.wrap (i.tdiv 4)) * 4)) + ((IntKind.i64.wrap (i + t2)).tmod 4))))))), m8, m9, m10) else none else none else none else none else none else none
 else
  some (t, tp, tq, t3, t4, m, m1, m2, m3, m4, m5, m6, m7, m8, m9, m10)
theorem k10 : KQ 228 (O m_) [229, 230, 233, 234, 235, 236, 237, 238, 241, 242, 243, 244, 247, 248, 251, 252, 253, 255, 263, 264] e10 x10 [] (b10 m_) := fun _ _ => by kernel_rfl
def l10 := loop m_ (b10 m_)
theorem q10 (v) : l10 .lim v = b10 .lim (l10 .lim) v := KS.q (k10 .lim) v
def s10 := so m_ (k10 m_)
def f30 : bH := fs 245 [.v 818 [10,11], .q 819, .b 1, .q 103, .z 12, .b 0] [(0, .fn (.yield 2) []), (1, .ptr 3 0), (9, .slc 4 0 none sV), (10, .w), (11, .w)]
def f31 : bH := ⟨230, [.inRange 2, .b 0, .q 31], [(3, .ptr 0 0), (4, .ptr 5 0)], none, [.mark 6], false⟩
def o32 : bC := .loop .busy none 230 [(2, .ptr 7 0), (3, .ptr 0 0)] [18, 19] (vY 122) 6
def e11 : Spec := ⟨[fs 238 [.q 60, .z 60, .b 0] [(0, .ptr 0 0), (1, .ptr 1 0), (5, .ptr 2 0), (6, .ptr 3 0), (13, .w)], f25, f26, f27, f1], [(0, o28), (1, o3), (2, ZJ), (3, o3), (4, o3), (5, o29), (6, .c [.ptr 0 0]), (7, FK), (8, o3), (9, .deferred false), (10, .c [.ptr 0 0])], 11⟩
def x11 : List Spec := [⟨[fs 238 [] [], ⟨230, [.v 15706 [2], .q 3927, .b 1], [(3, .ptr 0 0), (5, .ptr 1 0)], some 2, [], false⟩, f30, f31, f1], [(0, o3), (1, o3), (2, o32), (3, .c [.ptr 8 0]), (4, FK), (5, o3), (6, .deferred false), (7, .c [.ptr 8 0]), (8, Vf)], 9⟩]
abbrev ZL : Type := Int × Int × Int × Int × Int × LI × Int × Int × Int × LI × LI × LL × LI × LI × LI × LI × LL × LI × Unit
abbrev B11 : Type := (Int × Int × Int × Int × LI × LI × LL × LI × LI × Int × Int × Int × LI × LI × LL × Unit)
def b11 (self : ZL -> Option B11) : ZL -> Option B11 := fun v_ => match v_ with
| (t, tp, tq, t1, t2, m, m1, m2, m3, m4, m5, m6, m7, m8, m9, m10, m11, m12, ()) =>
 bif decide (t < 16) then
  bif inB t 16 then
  (aj.l10 m_ (t, t, m8, 0, tp, tq, t1, t2, m, m1, m2, m3, m4, m5, m6, (m7.set t.toNat 0), m8, m9, m10, m11, m12, ())).bind fun (t3, Yw) =>
  self ((IntKind.i64.wrap (t3 + 1)), Yw) else none
 else
  some (tp, tq, t1, t2, m7, m10, m11, m12, m, m1, m2, m3, m4, m5, m6, ())
theorem k11 : KQ 228 (O m_) [229, 230, 233, 234, 235, 236, 237, 238, 241, 242, 243, 244, 247, 248, 251, 252, 253, 255, 263, 264] e11 x11 [s10 m_] (b11 m_) := fun _ _ => by kernel_rfl
def TS := loop m_ (b11 m_)
theorem q11 (v) : TS .lim v = b11 .lim (TS .lim) v := KS.q (k11 .lim) v
def s11 := so m_ (k11 m_)
def f33 : bH := ⟨230, [.inRange 0, .b 0, .q 31], [(3, .ptr 3 0), (4, .ptr 4 0)], none, [.mark 5], false⟩
def o34 : bC := .c [.s, .dat (.int .u32), .dat (.int .i32), .dat (.int .u32), .dat rV, .dat rV, .dat rW, .own 2 sV]
def e12 : Spec := ⟨[f16, ⟨230, [.v 3927 [1], .b 1], [], some 2, [], false⟩, f30, f31, f1], [(0, o3), (1, o3), (2, o32), (3, .c [.ptr 8 0]), (4, FK), (5, o3), (6, .deferred false), (7, .c [.ptr 8 0]), (8, Vf)], 9⟩
def x12 : List Spec := [⟨[fs 234 [] [], ⟨230, [.v 3927 [1], .b 1], [], some 0, [], false⟩, fs 245 [.v 818 [10,11], .q 819, .b 1, .q 103, .z 12, .b 0] [(0, .fn (.yield 0) []), (1, .ptr 1 0), (9, .slc 2 0 none sV), (10, .w), (11, .w)], f33, f1], [(0, .loop .busy none 230 [(2, .ptr 6 0), (3, .ptr 3 0)] [18, 19] (vY 122) 5), (1, .c [.ptr 7 0]), (2, FK), (3, o3), (4, o3), (5, .deferred false), (6, .c [.ptr 7 0]), (7, o34)], 8⟩]
abbrev ZM : Type := Int × Int × Int × Int × Int × LI × LI × LL × LI × LI × Int × Int × Int × LI × LI × LL × Unit
abbrev ZN : Type := (Int × Int × Int × Int × LL × LI × LI × LI × Int × Int × Int × LI × LI × LL × Unit)
def b12 (m_ : aJ) (self : ZM -> Option ZN) : ZM -> Option ZN := fun v_ => match v_ with
| (t, tp, tq, t1, t2, m, m1, m2, m3) =>
 bif decide (t < 16) then
  bif inB t 16 then
  bif inB t 16 then
  bif inB t 16 then
  self ((IntKind.i64.wrap (t + 1)), tp, tq, t1, t2, (m.set t.toNat (dN .u8 (rd 0 m t) (rd 0 m1 t))), m1, m2, m3) else none else none else none
 else
  some (tp, tq, t1, t2, m2, m, m3)
theorem k12 : KQ 228 (O m_) [229, 230, 233, 234, 235, 236, 237, 238, 241, 242, 243, 244, 247, 248, 251, 252, 253, 255, 263, 264] e12 x12 [] (b12 m_) := fun _ _ => by kernel_rfl
def l12 := loop m_ (b12 m_)
theorem q12 (v) : l12 .lim v = b12 .lim (l12 .lim) v := KS.q (k12 .lim) v
def s12 := so m_ (k12 m_)
def e13 : Spec := ⟨[fs 245 [.q 12, .z 12, .b 0] [(0, .fn (.yield 0) []), (1, .ptr 1 0), (9, .slc 2 0 none sV), (10, .w), (11, .w)], f33, f1], [(0, .loop .ready none 230 [(2, .ptr 6 0), (3, .ptr 3 0)] [18, 19] (vY 122) 5), (1, .c [.ptr 7 0]), (2, FK), (3, o3), (4, o3), (5, .deferred false), (6, .c [.ptr 7 0]), (7, o34)], 8⟩
def x13 : List Spec := [⟨[fs 245 [] [], ⟨230, [.inRange 2, .b 0, .q 31], [(3, .ptr 0 0), (4, .ptr 1 0)], none, [.mark 3], false⟩, f1], [(0, o3), (1, o3), (2, .loop .ready none 230 [(2, .ptr 4 0), (3, .ptr 0 0)] [18, 19] (vY 122) 3), (3, .deferred false), (4, .c [.ptr 5 0]), (5, Yu), (6, FK)], 7⟩]
abbrev ZO : Type := Int × Int × Int × Int × LL × LI × LI × LI × Int × Int × Int × LI × LI × LL × Unit
abbrev ZP : Type := (LI × LI × LI × Int × Int × Int × LI × LI × LL × LL × Unit)
def b13 (self : ZO -> Option ZP) : ZO -> Option ZP := fun v_ => match v_ with
| (tp, tq, t, t1, m, m1, m2, m3, m4, m5, m6, m7, m8, m9, ()) =>
 bif decide (t1 < t) then
  bif inB t1 tq then
  bif ay (m.length : Int) then
  (aj.l8 m_ (0, decide (t1 = (IntKind.i64.wrap ((m.length : Int) - 2))), tp, tq, t, t1, m1, m3, m4, m5, m6, m7, m8, m9, (rd (List.replicate 16 (0 : Int) : List Int) m (tp + t1)), m, m2, ())).bind fun (last, Yw, tq1, t2, t3, m10, m11) =>
  (aj.l9 m_ (4, 0, last, Yw, tq1, t2, t3, m10, m10, m11)).bind fun (TT, ZQ, ZR, t4, t5, m21, m22, m23, m24, z_, yU, Bg, Bh, E5, FI, GX, ()) =>
  bif !TT then
   (aj.TS m_ (0, ZQ, ZR, t4, t5, z_, yU, Bg, Bh, E5, FI, GX, m21, (((((List.replicate 4 (0 : Int) : List Int).set 0 2).set 1 3).set 2 1).set 3 1), m21, m22, m23, m24, ())).bind fun (tp3) =>
   (aj.l12 m_ (0, tp3)).bind fun (tp4, tq4, t8, t9, O_) =>
   self (tp4, tq4, t8, (IntKind.i64.wrap (t9 + 1)), O_)
  else
   (aj.l12 m_ (0, ZQ, ZR, t4, t5, m21, m22, m23, m24, z_, yU, Bg, Bh, E5, FI, GX, ())).bind fun (tp5, tq5, t10, t11, LJ) =>
   self (tp5, tq5, t10, (IntKind.i64.wrap (t11 + 1)), LJ) else none else none
 else
  some (m1, m2, m3, m4, m5, m6, m7, m8, m9, m, ())
theorem k13 : KQ 228 (O m_) [229, 230, 233, 234, 235, 236, 237, 238, 241, 242, 243, 244, 247, 248, 251, 252, 253, 255, 263, 264] e13 x13 [s8 m_, s9 m_, s11 m_, s12 m_] (b13 m_) := fun _ _ => by kernel_rfl
def Nv := loop m_ (b13 m_)
theorem q13 (v) : Nv .lim v = b13 .lim (Nv .lim) v := KS.q (k13 .lim) v
def s13 := so m_ (k13 m_)
def e14 : Spec := ⟨[fs 230 [.q 1] [(0, .ptr 0 0), (1, .dat sV)], f1], [(0, o2)], 1⟩
def x14 : List Spec := [⟨[⟨230, [.q 63], [(4, .ptr 0 0)], none, [.mark 1], false⟩, f1], [(0, o3), (1, .deferred false)], 2⟩]
abbrev ZT : Type := LI × LI × Int × Int × Int × LI × LI × LL × Unit
abbrev ZU : Type := (LI × Unit)
def b14 (self : ZT -> Option ZU) : ZT -> Option ZU := fun v_ => match v_ with
| (b, m, m1, m2, m3, m4, m5, m6, ()) =>
 (aj.l6 m_ (m, m1, m2, m3, m4, m5, m6, b, (List.replicate 16 (0 : Int)), ())).bind fun (m7, m8, m9, m10, m11, m12, m13, m14, m15, m16, ()) =>
 bif inB 0 (m16.length : Int) then
 (aj.l7 m_ (0, m7, (rd (List.replicate 16 (0 : Int) : List Int) m16 0), m8, m9, m10, m11, m12, m13, m14, m15, m16, ())).bind fun (m17, m18, m19, m20, m21, m22, m23, m24, z_, yU, ()) =>
 bif dR 1 (yU.length : Int) (yU.length : Int) then
 bif ay ((yU.length : Int) - 1) then
 (aj.Nv m_ (1, ((yU.length : Int) - 1), ((yU.length : Int) - 1), 0, yU, m17, m18, m19, m20, m21, m22, m23, m24, z_, ())).bind fun (Bg, Bh) =>
 some (Bg, ()) else none else none else none
theorem k14 : KQ 228 (O m_) [229, 230, 233, 234, 235, 236, 237, 238, 241, 242, 243, 244, 247, 248, 251, 252, 253, 255, 263, 264] e14 x14 [s6 m_, s7 m_, s13 m_] (b14 m_) := fun _ _ => by kernel_rfl
def KO := loop m_ (b14 m_)
theorem q14 (v) : KO .lim v = b14 .lim (KO .lim) v := KS.q (k14 .lim) v
def s14 := so m_ (k14 m_)
def run : (List Int) × (List Int) × Unit -> Option ((List Int) × Int × Unit) := fun v_ => match v_ with
| (key, s, ()) =>
 bif ay (key.length : Int) then
 bif ((!(!(decide ((key.length : Int) = 16)))) || (ay (key.length : Int))) then
 bif ((!(decide ((key.length : Int) = 16))) && (!(decide ((key.length : Int) = 32)))) then
  some (([] : List Int), 13, ())
 else
  bif ay (s.length : Int) then
  bif !(decide ((s.length : Int) = 16)) then
   some (([] : List Int), 10, ())
  else
   bif (Nat.ble 1 16 && Nat.ble 16 s.length) then
   (aj.KO m_ ((s.take 16), key, 0, 0, 0, (List.replicate 256 (0 : Int)), (List.replicate 256 (0 : Int)), (List.replicate 16 (List.replicate 256 (0 : Int) : List Int)), ())).bind fun (m, ()) =>
   some (((m.drop 0).take 16), 0, ()) else none else none else none else none
theorem k : KT (O m_) [229, 230, 233, 234, 235, 236, 237, 238, 241, 242, 243, 244, 247, 248, 251, 252, 253, 255, 263, 264] ⟨228, [.one .str, .one .str], .je [.sh (.one .str), .sh (.one (.int .i64))], run m_⟩ [s14 m_] := fun _ => by kernel_rfl
def c := co (k m_)
end aj

namespace iZ
def O (m_ : aJ) : OO P := fK []
def e0 : Spec := ⟨[fs 246 [.q 12, .z 12, .b 0] [(0, .fn (.yield 0) []), (1, .ptr 1 0), (3, .w)], ⟨232, [.inRange 0, .b 0, .q 31], [(4, .ptr 2 0), (5, .ptr 3 0)], none, [.mark 4], false⟩], [(0, .loop .ready none 232 [(4, .ptr 2 0), (5, .ptr 3 0)] [15, 16] (vY 122) 4), (1, .c [.oy 5]), (2, .c [.oy 5]), (3, .c [.y]), (4, .deferred false), (5, .c [.ry])], 6⟩
def x0 : List Spec := [⟨[fs 246 [] [], ⟨232, [.inRange 2, .b 0, .q 31], [(4, .ptr 0 0), (5, .ptr 1 0)], none, [.mark 3], false⟩], [(0, .c [.oy 4]), (1, .c [.y]), (2, .loop .ready none 232 [(4, .ptr 0 0), (5, .ptr 1 0)] [15, 16] (vY 122) 3), (3, .deferred false), (4, .c [.ry])], 5⟩]
abbrev A0 : Type := Int × Int × LI × Unit
abbrev B0 : Type := (Int × LI × Unit)
def b0 (m_ : aJ) (self : A0 -> Option B0) : A0 -> Option B0 := fun v_ => match v_ with
| (i, m, m1, ()) =>
 bif decide (i >= 0) then
  bif inB i (m1.length : Int) then
  bif inB i (m1.length : Int) then
  self ((IntKind.i64.wrap (i - 1)), (iI .u8 (rd 0 m1 i) 7), (m1.set i.toNat (nM .u8 (eP .u8 (rd 0 m1 i) 1) m)), ()) else none else none
 else
  some (m, m1, ())
theorem k0 : KQ 232 (O m_) [240] e0 x0 [] (b0 m_) := fun _ _ => by kernel_rfl
def l0 := loop m_ (b0 m_)
theorem q0 (v) : l0 .lim v = b0 .lim (l0 .lim) v := KS.q (k0 .lim) v
def s0 := so m_ (k0 m_)
def run : (List Int) × Unit -> Option ((List Int) × Int × Unit) := fun v_ => match v_ with
| (b, ()) =>
 bif ay (b.length : Int) then
 bif !(decide ((b.length : Int) = 16)) then
  some (([] : List Int), 10, ())
 else
  bif ay (b.length : Int) then
  (iZ.l0 m_ ((IntKind.i64.wrap ((b.length : Int) - 1)), 0, b, ())).bind fun (m, m1, ()) =>
  bif inB 15 (m1.length : Int) then
  bif inB 15 (m1.length : Int) then
  some ((m1.set 15 (dN .u8 (rd 0 m1 15) (IntKind.u8.wrap (m * 135)))), 0, ()) else none else none else none else none
theorem k : KT (O m_) [240] ⟨232, [.one .str], .je [.sh (.one .str), .sh (.one (.int .i64))], run m_⟩ [s0 m_] := fun _ => by kernel_rfl
def c := co (k m_)
end iZ

namespace jS
def O : OO P := fK [iZ.c m_]
def run : (List Int) × Unit -> Option (List Int) := fun v_ => match v_ with
| (b, ()) =>
 (iZ.run m_ (b, ())).bind fun (r, r1, ()) =>
 some r
theorem k : KT (O m_) [] ⟨227, [.one .str], .one (.sh (.one .str)), run m_⟩ [] := fun _ => by kernel_rfl
def c := co (k m_)
end jS

namespace qM
def O : OO P := fK [gu.c m_, jS.c m_, aj.c m_]
def run : (List Int) × Unit -> Option (VX × Int × Unit) := fun v_ => match v_ with
| (key, ()) =>
 (gu.run m_ (16, ())).bind fun r =>
 (aj.run m_ (key, r, ())).bind fun (r1, r2, ()) =>
 bif !(decide (r2 = 0)) then
  some (Yt, 13, ())
 else
  (jS.run m_ (r1, ())).bind fun r3 =>
  (jS.run m_ (r3, ())).bind fun r4 =>
  some ((key, (r3, r4)), 0, ())
theorem k : KT (O m_) [] ⟨224, [.one .str], .je [.sh (.ag tY8), .sh (.one (.int .i64))], run m_⟩ [] := fun _ => by kernel_rfl
def c := co (k m_)
end qM

namespace kS
def O : OO P := fK [qM.c m_]
def run : (List Int) × (List (List Int)) × Unit -> Option (VX × (List Int) × Int × Unit) := fun v_ => match v_ with
| (key, ad, ()) =>
 bif ay (key.length : Int) then
 bif ((!(!(decide ((key.length : Int) = 32)))) || (ay (key.length : Int))) then
 bif ((!(decide ((key.length : Int) = 32))) && (!(decide ((key.length : Int) = 64)))) then
  some (Yt, ([] : List Int), 13, ())
 else
  bif ay (ad.length : Int) then
  bif decide ((ad.length : Int) >= 127) then
   some (Yt, ([] : List Int), 18, ())
  else
   bif ay (key.length : Int) then
   bif dR 0 (IntKind.i64.wrap ((key.length : Int).tdiv 2)) (key.length : Int) then
   (qM.run m_ ((cut key 0 (IntKind.i64.wrap ((key.length : Int).tdiv 2))), ())).bind fun (r, r1, ()) =>
   bif ay (key.length : Int) then
   bif dR (IntKind.i64.wrap ((key.length : Int).tdiv 2)) (key.length : Int) (key.length : Int) then
   some (r, (cut key (IntKind.i64.wrap ((key.length : Int).tdiv 2)) (key.length : Int)), r1, ()) else none else none else none else none else none else none else none
theorem k : KT (O m_) [] ⟨219, [.one .str, .one (.lst .str)], .je [.sh (.ag tY8), .sh (.one .str), .sh (.one (.int .i64))], run m_⟩ [] := fun _ => by kernel_rfl
def c := co (k m_)
end kS

namespace fA
def O (m_ : aJ) : OO P := fK []
def e0 : Spec := ⟨[fs 221 [.q 116, .z 116, .b 0, .q 15] [(1, .s), (5, .oy 0), (10, .w), (11, .w)]], [(0, .c [.ry])], 1⟩
def x0 : List Spec := [⟨[fs 221 [.q 15] [(5, .oy 0)]], [(0, .c [.ry])], 1⟩]
abbrev A0 : Type := LI × Int × Int × LI × Unit
abbrev B0 : Type := (LI × Unit)
def b0 (m_ : aJ) (self : A0 -> Option B0) : A0 -> Option B0 := fun v_ => match v_ with
| (b, t, t1, m, ()) =>
 bif decide (t1 < t) then
  bif inB t1 (m.length : Int) then
  bif inB t1 (b.length : Int) then
  bif inB t1 (m.length : Int) then
  self (b, t, (IntKind.i64.wrap (t1 + 1)), (m.set t1.toNat (dN .u8 (rd 0 m t1) (rd 0 b t1))), ()) else none else none else none
 else
  some (m, ())
theorem k0 : KQ 221 (O m_) [] e0 x0 [] (b0 m_) := fun _ _ => by kernel_rfl
def l0 := loop m_ (b0 m_)
theorem q0 (v) : l0 .lim v = b0 .lim (l0 .lim) v := KS.q (k0 .lim) v
def s0 := so m_ (k0 m_)
def run : (List Int) × (List Int) × Unit -> Option (List Int) := fun v_ => match v_ with
| (a, b, ()) =>
 bif ay (a.length : Int) then
 (fA.l0 m_ (b, (a.length : Int), 0, a, ())).bind fun (m, ()) =>
 some m else none
theorem k : KT (O m_) [] ⟨221, [.one .str, .one .str], .one (.sh (.one .str)), run m_⟩ [s0 m_] := fun _ => by kernel_rfl
def c := co (k m_)
end fA

namespace b_
def O : OO P := fK [fA.c m_, gu.c m_, aj.c m_]
def f0 : bH := ⟨226, [.inRange 0, .b 0, .q 15], [(5, .ptr 3 0)], none, [.mark 4], false⟩
def o1 : bC := .loop .ready none 226 [(2, .ptr 5 0), (5, .ptr 3 0)] [11] (vY 58) 4
def e0 : Spec := ⟨[fs 239 [.q 8, .z 8, .b 0, .q 3] [(0, .fn (.yield 0) []), (1, .ptr 1 0), (2, .ptr 2 0)], f0], [(0, o1), (1, .c [.s]), (2, .c [.s, .s, .s]), (3, .c [.s]), (4, .deferred false), (5, .c [.s, .s, .s])], 6⟩
def x0 : List Spec := [⟨[fs 239 [.q 3] [(0, .fn (.yield 0) []), (1, .ptr 1 0), (2, .ptr 2 0)], f0], [(0, o1), (1, .c [.s]), (2, .c [.s, .s, .s]), (3, .c [.s]), (4, .deferred false), (5, .c [.s, .s, .s])], 6⟩]
abbrev A0 : Type := LI × LI × LI × LI × LI × LI × LI × LI × Unit
abbrev B0 : Type := (LI × LI × LI × LI × LI × LI × LI × LI × Unit)
def b0 (self : A0 -> Option B0) : A0 -> Option B0 := fun v_ => match v_ with
| (m, m1, m2, m3, m4, m5, m6, m7, ()) =>
 bif ay (m.length : Int) then
 bif decide ((m.length : Int) > 16) then
  bif dR 0 16 (m.length : Int) then
  (fA.run m_ (m4, (cut m 0 16), ())).bind fun r =>
  (aj.run m_ (m5, r, ())).bind fun (r1, r2, ()) =>
  bif dR 16 (m.length : Int) (m.length : Int) then
  self ((cut m 16 (m.length : Int)), m1, m2, m3, r1, m5, m6, m7, ()) else none else none
 else
  some (m, m1, m2, m3, m4, m5, m6, m7, ()) else none
theorem k0 : KQ 226 (O m_) [231] e0 x0 [] (b0 m_) := fun _ _ => by kernel_rfl
def l0 := loop m_ (b0 m_)
theorem q0 (v) : l0 .lim v = b0 .lim (l0 .lim) v := KS.q (k0 .lim) v
def s0 := so m_ (k0 m_)
def run : VX × (List Int) × Unit -> Option (List Int) := fun v_ => match v_ with
| (m, s, ()) =>
 (gu.run m_ (16, ())).bind fun r =>
 (b_.l0 m_ (s, m.1, m.2.1, m.2.2, r, m.1, m.2.1, m.2.2, ())).bind fun (m1, m2, m3, m4, m5, m6, m7, m8, ()) =>
 bif ay (m1.length : Int) then
 bif decide ((m1.length : Int) = 16) then
  (fA.run m_ (m1, m3, ())).bind fun r1 =>
  (fA.run m_ (m5, r1, ())).bind fun r2 =>
  (aj.run m_ (m6, r2, ())).bind fun (r3, r4, ()) =>
  some r3
 else
  bif decide (m1.length + ([128] : List Int).length <= maxStr) then
  bif ay (m1.length : Int) then
  (gu.run m_ ((IntKind.i64.wrap (15 - (m1.length : Int))), ())).bind fun r5 =>
  bif decide ((m1 ++ ([128] : List Int)).length + r5.length <= maxStr) then
  (fA.run m_ (((m1 ++ ([128] : List Int)) ++ r5), m4, ())).bind fun r6 =>
  (fA.run m_ (m5, r6, ())).bind fun r7 =>
  (aj.run m_ (m6, r7, ())).bind fun (r8, r9, ()) =>
  some r8 else none else none else none else none
theorem k : KT (O m_) [231] ⟨226, [.ag tY8, .one .str], .one (.sh (.one .str)), run m_⟩ [s0 m_] := fun _ => by kernel_rfl
def c := co (k m_)
end b_

namespace dL
def O : OO P := fK [fA.c m_, gu.c m_, b_.c m_, jS.c m_]
def e0 : Spec := ⟨[fs 222 [.q 500, .z 500, .b 0, .q 63] [(2, .ptr 0 0), (5, .s), (6, .s), (30, .t), (31, .w), (32, .w)]], [(0, .c [.s, .s, .s])], 1⟩
def x0 : List Spec := [⟨[fs 222 [.q 63] [(2, .ptr 0 0), (5, .s), (6, .s)]], [(0, .c [.s, .s, .s])], 1⟩]
abbrev A0 : Type := LI × LI × LL × Int × Int × LI × LI × LI × Unit
abbrev B0 : Type := (LI × LI × LI × LI × LI × Unit)
def b0 (self : A0 -> Option B0) : A0 -> Option B0 := fun v_ => match v_ with
| (d, s, t, t1, t2, m, m1, m2, ()) =>
 bif decide (t2 < t1) then
  bif inB t2 (t.length : Int) then
  (jS.run m_ (d, ())).bind fun r =>
  (b_.run m_ ((m, (m1, m2)), (rd ([] : List Int) t t2), ())).bind fun r1 =>
  (fA.run m_ (r, r1, ())).bind fun r2 =>
  self (r2, s, t, t1, (IntKind.i64.wrap (t2 + 1)), m, m1, m2, ()) else none
 else
  some (d, s, m, m1, m2, ())
theorem k0 : KQ 222 (O m_) [] e0 x0 [] (b0 m_) := fun _ _ => by kernel_rfl
def l0 := loop m_ (b0 m_)
theorem q0 (v) : l0 .lim v = b0 .lim (l0 .lim) v := KS.q (k0 .lim) v
def s0 := so m_ (k0 m_)
def run : VX × (List (List Int)) × Unit -> Option (List Int) := fun v_ => match v_ with
| (m, l, ()) =>
 bif ay (l.length : Int) then
 bif decide ((l.length : Int) = 0) then
  (gu.run m_ (15, ())).bind fun r =>
  bif decide (r.length + ([1] : List Int).length <= maxStr) then
  (b_.run m_ (m, (r ++ ([1] : List Int)), ())).bind fun r1 =>
  some r1 else none
 else
  (gu.run m_ (16, ())).bind fun r2 =>
  (b_.run m_ (m, r2, ())).bind fun r3 =>
  bif ay (l.length : Int) then
  bif inB (IntKind.i64.wrap ((l.length : Int) - 1)) (l.length : Int) then
  bif ay (l.length : Int) then
  bif dR 0 (IntKind.i64.wrap ((l.length : Int) - 1)) (l.length : Int) then
  bif ay ((cut l 0 (IntKind.i64.wrap ((l.length : Int) - 1))).length : Int) then
  (dL.l0 m_ (r3, (rd ([] : List Int) l (IntKind.i64.wrap ((l.length : Int) - 1))), (cut l 0 (IntKind.i64.wrap ((l.length : Int) - 1))), ((cut l 0 (IntKind.i64.wrap ((l.length : Int) - 1))).length : Int), 0, m.1, m.2.1, m.2.2, ())).bind fun (d, s, m1, m2, m3, ()) =>
  bif ay (s.length : Int) then
  bif decide ((IntKind.i64.wrap ((s.length : Int) - 16)) >= 0) then
   bif dR 0 (IntKind.i64.wrap ((s.length : Int) - 16)) (s.length : Int) then
   bif dR (IntKind.i64.wrap ((s.length : Int) - 16)) (s.length : Int) (s.length : Int) then
   (fA.run m_ ((cut s (IntKind.i64.wrap ((s.length : Int) - 16)) (s.length : Int)), d, ())).bind fun r4 =>
   bif decide ((cut s 0 (IntKind.i64.wrap ((s.length : Int) - 16))).length + r4.length <= maxStr) then
   (b_.run m_ ((m1, (m2, m3)), ((cut s 0 (IntKind.i64.wrap ((s.length : Int) - 16))) ++ r4), ())).bind fun r5 =>
   some r5 else none else none else none
  else
   bif decide (s.length + ([128] : List Int).length <= maxStr) then
   bif ay (s.length : Int) then
   (gu.run m_ ((IntKind.i64.wrap (15 - (s.length : Int))), ())).bind fun r6 =>
   bif decide ((s ++ ([128] : List Int)).length + r6.length <= maxStr) then
   (jS.run m_ (d, ())).bind fun r7 =>
   (fA.run m_ (((s ++ ([128] : List Int)) ++ r6), r7, ())).bind fun r8 =>
   (b_.run m_ ((m1, (m2, m3)), r8, ())).bind fun r9 =>
   some r9 else none else none else none else none else none else none else none else none else none else none
theorem k : KT (O m_) [] ⟨222, [.ag tY8, .one (.lst .str)], .one (.sh (.one .str)), run m_⟩ [s0 m_] := fun _ => by kernel_rfl
def c := co (k m_)
end dL

namespace ah
def xs : List (FuncId × XK) := [(254, .load .u32), (265, .store), (267, .En .disable), (268, .cas .i32), (269, .En .enable), (270, .Eo .acquire), (272, .Eo .releaseMerge), (273, .add .i32)]
theorem TP : ∀ x ∈ xs, x.2.OK P x.1 := ac ⟨_, Go.Proofs.Tryz.func254, by kernel_rfl, by kernel_rfl, by kernel_rfl, by kernel_rfl⟩ (ac ⟨_, Go.Proofs.Tryz.func265, by kernel_rfl, by kernel_rfl, by kernel_rfl, by kernel_rfl⟩ (ac ⟨_, Go.Proofs.Tryz.func267, by kernel_rfl, by kernel_rfl, by kernel_rfl, by kernel_rfl⟩ (ac ⟨_, Go.Proofs.Tryz.func268, by kernel_rfl, by kernel_rfl, by kernel_rfl, by kernel_rfl⟩ (ac ⟨_, Go.Proofs.Tryz.func269, by kernel_rfl, by kernel_rfl, by kernel_rfl, by kernel_rfl⟩ (ac ⟨_, Go.Proofs.Tryz.func270, by kernel_rfl, by kernel_rfl, by kernel_rfl, by kernel_rfl⟩ (ac ⟨_, Go.Proofs.Tryz.func272, by kernel_rfl, by kernel_rfl, by kernel_rfl, by kernel_rfl⟩ (ac ⟨_, Go.Proofs.Tryz.func273, by kernel_rfl, by kernel_rfl, by kernel_rfl, by kernel_rfl⟩ (an))))))))
def O : OO P := orj (fK [qg.c m_, dV.c m_, aC.c m_, gG.c m_]) (orx TP)
def f0 : bH := ⟨248, [.v 61 [1]], [], none, [.call 257 [.ptr 0 1, .b], .call 256 [.ptr 0 2]], false⟩
def o1 : bC := .c [.s, .dat (.int .u32), .dat (.int .i32), .dat (.int .u32), .dat rV, .dat rV, .dat rW, .own 8 sV]
def o2 : bC := .c [.dat sV]
def o3 : bC := .c [.row sV]
def f4 : bH := fs 242 [.v 2 [1], .q 3] [(0, .ptr 1 0)]
def f5 : bH := fs 230 [.v 6 [1], .q 7] [(2, .ptr 2 0), (3, .ptr 3 0), (4, .ptr 4 0)]
def f6 : bH := fs 225 [.v 8132 [2,3,4], .q 8133, .b 1, .z 1016, .b 0, .q 255] [(2, .w), (8, .ptr 0 0), (10, .ptr 5 0), (11, .oy 6)]
def o7 : bC := .c [.s, .dat (.int .u32), .dat (.int .i32), .dat (.int .u32), .dat rV, .dat rV, .dat rW, .own 7 sV]
def e0 : Spec := ⟨[fs 243 [.q 13116, .z 13116, .b 2, .b 1, .q 103, .z 12, .b 0] [(0, .ptr 0 0), (2, .w), (6, .w), (25, .oy 1), (26, .w), (27, .w)], fs 242 [.v 2 [1], .q 3] [(0, .ptr 2 0)], f0, fs 241 [.v 6 [2]] [], fs 233 [.v 3 [4]] [], fs 230 [.v 6 [1], .q 7] [(2, .ptr 3 0), (3, .ptr 4 0), (4, .ptr 5 0)], fs 225 [.v 8132 [2,3,4], .q 8133, .b 1, .z 1016, .b 0, .q 255] [(2, .w), (8, .ptr 0 0), (10, .ptr 6 0), (11, .oy 7)]], [(0, o1), (1, .c [.ry]), (2, .c [.ptr 0 0]), (3, .c [.ptr 0 0]), (4, o2), (5, o2), (6, o2), (7, .d [.ry]), (8, o3)], 9⟩
def x0 : List Spec := [⟨[fs 243 [.q 103, .z 12, .b 0] [(0, .ptr 0 0), (6, .w)], f4, f0, fs 241 [.v 6 [2]] [], fs 233 [.v 3 [4]] [], f5, f6], [(0, o7), (1, .c [.ptr 0 0]), (2, .c [.ptr 0 0]), (3, o2), (4, o2), (5, o2), (6, .d [.ry]), (7, o3)], 8⟩]
abbrev A0 : Type := Int × Int × Int × Int × Bool × Int × LI × Int × Int × Int × LI × LI × LL × LI × LI × LI × LI × LI × LL × Unit
abbrev B0 : Type := (Int × Bool × Int × LI × Int × Int × Int × LI × LI × LL × LI × LI × LI × LI × LL × Unit)
def b0 (self : A0 -> Option B0) : A0 -> Option B0 := fun v_ => match v_ with
| (i, t, t1, t2, m, n, m1, m2, m3, m4, m5, m6, m7, m8, m9) =>
 bif decide (t2 < t1) then
  bif inB t2 (m8.length : Int) then
  (dV.run m_ ((IntKind.u8.wrap i), (rd 0 m8 t2), ())).bind fun r =>
  bif inB (rd 0 m8 t2) 16 then
  bif inB i 256 then
  self (i, t, t1, (IntKind.i64.wrap (t2 + 1)), m, n, m1, m2, m3, m4, m5, m6, (m7.set ((rd 0 m8 t2).toNat) ((rd (List.replicate 256 (0 : Int) : List Int) m7 (rd 0 m8 t2)).set i.toNat r)), m8, m9) else none else none else none
 else
  some (t, m, n, m1, m2, m3, m4, m5, m6, m7, m9)
theorem k0 : KQ 225 (O m_) [229, 230, 233, 234, 235, 236, 237, 238, 241, 242, 243, 244, 247, 248, 251, 252, 253, 255, 263, 264] e0 x0 [] (b0 m_) := fun _ _ => by kernel_rfl
def l0 := loop m_ (b0 m_)
theorem q0 (v) : l0 .lim v = b0 .lim (l0 .lim) v := KS.q (k0 .lim) v
def s0 := so m_ (k0 m_)
def e1 : Spec := ⟨[fs 243 [.q 12, .z 12, .b 0] [(0, .ptr 0 0), (6, .w)], f4, f0, fs 241 [.v 6 [2]] [], fs 233 [.v 3 [4]] [], f5, f6], [(0, o7), (1, .c [.ptr 0 0]), (2, .c [.ptr 0 0]), (3, o2), (4, o2), (5, o2), (6, .d [.ry]), (7, o3)], 8⟩
def x1 : List Spec := [⟨[fs 243 [] [], fs 242 [.v 2 [1], .q 3] [(0, .ptr 0 0)], ⟨248, [.v 61 [1]], [], none, [.call 257 [.ptr 1 1, .b], .call 256 [.ptr 1 2]], false⟩, fs 241 [.v 6 [2]] [], fs 233 [.v 3 [4]] [], f5, fs 225 [.v 8132 [2,3,4], .q 8133, .b 1, .z 1016, .b 0, .q 255] [(2, .w), (8, .ptr 1 0), (10, .ptr 5 0), (11, .oy 6)]], [(0, .c [.ptr 1 0]), (1, o7), (2, .c [.ptr 1 0]), (3, o2), (4, o2), (5, o2), (6, .d [.ry]), (7, o3)], 8⟩]
abbrev A1 : Type := Int × Bool × Int × LI × Int × Int × Int × LI × LI × LL × LI × LI × LI × LI × LL × Unit
abbrev B1 : Type := (Bool × Int × LI × Int × Int × Int × LI × LI × LL × LI × LI × LI × LI × LL × Unit)
def b1 (self : A1 -> Option B1) : A1 -> Option B1 := fun v_ => match v_ with
| (t, m, n, m1, m2, m3, m4, m5, m6, m7, m8) =>
 bif decide (t < 256) then
  (qg.run m_ ((IntKind.u8.wrap t), ())).bind fun r =>
  bif inB t 256 then
  bif inB r 256 then
  bif ay (([1, 2, 3, 9, 11, 13, 14] : List Int).length : Int) then
  (ah.l0 m_ (t, t, (([1, 2, 3, 9, 11, 13, 14] : List Int).length : Int), 0, m, n, m1, m2, m3, m4, (m5.set t.toNat r), (m6.set r.toNat (IntKind.u8.wrap t)), m7, ([1, 2, 3, 9, 11, 13, 14] : List Int), m8)).bind fun (t1, m13) =>
  self ((IntKind.i64.wrap (t1 + 1)), m13) else none else none else none
 else
  some (m, n, m1, m2, m3, m4, m5, m6, m7, m8)
theorem k1 : KQ 225 (O m_) [229, 230, 233, 234, 235, 236, 237, 238, 241, 242, 243, 244, 247, 248, 251, 252, 253, 255, 263, 264] e1 x1 [s0 m_] (b1 m_) := fun _ _ => by kernel_rfl
def l1 := loop m_ (b1 m_)
theorem q1 (v) : l1 .lim v = b1 .lim (l1 .lim) v := KS.q (k1 .lim) v
def s1 := so m_ (k1 m_)
def o8 : bC := .c [.s, .dat (.int .u32), .dat (.int .i32), .dat (.int .u32), .dat rV, .dat rV, .dat rW, .own 13 sV]
def o9 : bC := .c [.row LG]
def f10 : bH := ⟨248, [.v 61 [1]], [], none, [.call 257 [.ptr 4 1, .b], .call 256 [.ptr 4 2]], false⟩
def f11 : bH := fs 230 [.v 6 [1], .q 7] [(2, .ptr 5 0), (3, .ptr 6 0), (4, .ptr 7 0)]
def f12 : bH := fs 225 [.v 8132 [2,3,4], .q 8133, .b 1, .z 1016, .b 0, .q 255] [(2, .w), (8, .ptr 4 0), (10, .ptr 8 0), (11, .oy 9)]
def Y6 : bC := .c [.own 10 LG]
def FK : bC := .c [.s, .dat (.int .u32), .dat (.int .i32), .dat (.int .u32), .dat rV, .dat rV, .dat rW, .own 11 sV]
def e2 : Spec := ⟨[fs 260 [.q 12, .z 12, .b 0] [(0, .fn (.yield 0) []), (1, .ptr 1 0), (2, .ptr 2 0), (4, .w)], ⟨244, [.inRange 0, .b 0, .q 31], [(1, .ptr 3 0), (2, .w), (3, .ptr 4 0)], none, [.mark 5], false⟩, fs 242 [.v 3 [1]] [], ⟨248, [.v 61 [1]], [], none, [.call 257 [.ptr 6 1, .b], .call 256 [.ptr 6 2]], false⟩, fs 241 [.v 6 [2]] [], fs 233 [.v 3 [4]] [], fs 230 [.v 6 [1], .q 7] [(2, .ptr 7 0), (3, .ptr 8 0), (4, .ptr 9 0)], fs 225 [.v 8132 [2,3,4], .q 8133, .b 1, .z 1016, .b 0, .q 255] [(2, .w), (8, .ptr 6 0), (10, .ptr 10 0), (11, .oy 11)]], [(0, .loop .ready none 244 [(3, .ptr 4 0)] [22] (vY 122) 5), (1, .c [.oy 12]), (2, .c [.w]), (3, .c [.ptr 6 0]), (4, .c [.own 5004 LG]), (5, .deferred false), (6, o8), (7, .c [.ptr 6 0]), (8, o2), (9, o2), (10, o2), (11, .d [.ry]), (12, .d [.ry]), (5004, o9), (13, o3)], 5005⟩
def x2 : List Spec := [⟨[fs 260 [] [], ⟨244, [.inRange 2, .b 0, .q 31], [(1, .ptr 0 0), (2, .w), (3, .ptr 1 0)], none, [.mark 3], false⟩, fs 242 [.v 3 [1]] [], f10, fs 241 [.v 6 [2]] [], fs 233 [.v 3 [4]] [], f11, f12], [(0, .c [.ptr 4 0]), (1, Y6), (2, .loop .ready none 244 [(3, .ptr 1 0)] [22] (vY 122) 3), (3, .deferred false), (4, FK), (5, .c [.ptr 4 0]), (6, o2), (7, o2), (8, o2), (9, .d [.ry]), (10, o9), (11, o3)], 12⟩]
abbrev A2 : Type := Int × Int × Bool × Int × Int × LI × Int × Int × Int × LI × LI × LL × LI × LI × LI × LI × LI × LL × LL × Unit
abbrev B2 : Type := (Int × Bool × Int × LI × Int × Int × Int × LI × LI × LL × LI × LI × LI × LI × LL × LL × Unit)
def b2 (m_ : aJ) (self : A2 -> Option B2) : A2 -> Option B2 := fun v_ => match v_ with
| (i, nk, m, n, m1, m2, m3, m4, m5, m6, m7, m8, m9, m10, m11, m12, m13, m14, m15, ()) =>
 bif ay (m13.length : Int) then
 bif decide (i < (m13.length : Int)) then
  bif dR i (m13.length : Int) (m13.length : Int) then
  bif ay ((m13.length : Int) - i) then
  bif ((dR i (IntKind.i64.wrap (i + (mn m1 ((m13.length : Int) - i)))) (IntKind.i64.wrap (i + (mn m1 ((m13.length : Int) - i))))) && (decide ((IntKind.i64.wrap (i + (mn m1 ((m13.length : Int) - i)))) <= (m13.length : Int)))) then
  bif (Nat.ble 1 4 && Nat.ble 4 (cut m13 i (IntKind.i64.wrap (i + (mn m1 ((m13.length : Int) - i))))).length) then
  bif decide (m14.length + ([((cut m13 i (IntKind.i64.wrap (i + (mn m1 ((m13.length : Int) - i))))).take 4)] : List (List Int)).length < 17592186044416) then
  self ((IntKind.i64.wrap (i + m1)), nk, m, n, m1, m2, m3, m4, m5, m6, m7, m8, m9, m10, m11, m12, m13, (m14 ++ ([((cut m13 i (IntKind.i64.wrap (i + (mn m1 ((m13.length : Int) - i))))).take 4)] : List (List Int))), m15, ()) else none else none else none else none else none
 else
  some (nk, m, n, m2, m3, m4, m5, m6, m7, m8, m9, m10, m11, m12, m14, m15, ()) else none
theorem k2 : KQ 225 (O m_) [229, 230, 233, 234, 235, 236, 237, 238, 241, 242, 243, 244, 247, 248, 251, 252, 253, 255, 263, 264] e2 x2 [] (b2 m_) := fun _ _ => by kernel_rfl
def l2 := loop m_ (b2 m_)
theorem q2 (v) : l2 .lim v = b2 .lim (l2 .lim) v := KS.q (k2 .lim) v
def s2 := so m_ (k2 m_)
def Vf : bC := .c [.dat LG]
def e3 : Spec := ⟨[⟨244, [.q 518452, .z 518452, .b 4, .q 64807, .b 3, .q 4051, .z 1012, .b 2, .q 127], [(1, .ptr 0 0), (2, .w), (3, .ptr 1 0), (5, .y), (6, .w), (7, .ptr 2 0), (115, .w)], none, [.mark 3], false⟩, fs 242 [.v 3 [1]] [], f10, fs 241 [.v 6 [2]] [], fs 233 [.v 3 [4]] [], f11, f12], [(0, .c [.ptr 4 0]), (1, Y6), (2, Vf), (3, .deferred false), (4, FK), (5, .c [.ptr 4 0]), (6, o2), (7, o2), (8, o2), (9, .d [.ry]), (10, o9), (11, o3)], 12⟩
def x3 : List Spec := [⟨[⟨244, [.q 64807, .b 3, .q 4051, .z 1012, .b 2, .q 127], [(1, .ptr 0 0), (2, .w), (3, .ptr 1 0), (5, .y), (6, .w), (7, .ptr 2 0)], none, [.mark 3], false⟩, fs 242 [.v 3 [1]] [], f10, fs 241 [.v 6 [2]] [], fs 233 [.v 3 [4]] [], f11, f12], [(0, .c [.ptr 4 0]), (1, Y6), (2, Vf), (3, .deferred false), (4, FK), (5, .c [.ptr 4 0]), (6, o2), (7, o2), (8, o2), (9, .d [.ry]), (10, o9), (11, o3)], 12⟩]
abbrev A3 : Type := Int × Int × Int × Int × Bool × Int × LI × LI × Int × Int × Int × LI × LI × LL × LI × LI × LI × LI × LL × LL × Unit
abbrev B3 : Type := (Int × Int × Int × Bool × Int × LI × LI × Int × Int × Int × LI × LI × LL × LI × LI × LI × LI × LL × LL × Unit)
def b3 (m_ : aJ) (self : A3 -> Option B3) : A3 -> Option B3 := fun v_ => match v_ with
| (nk, x, i, t, m, n, m1, m2, m3, m4, m5, m6, m7, m8, m9, m10, m11, m12, m13, m14, ()) =>
 bif decide (t < 4) then
  bif inB t 4 then
  bif inB (IntKind.i64.wrap (i - nk)) (m13.length : Int) then
  bif inB t 4 then
  bif inB t 4 then
  self (nk, x, i, (IntKind.i64.wrap (t + 1)), m, n, (m1.set t.toNat (dN .u8 (rd 0 m1 t) (rd 0 (rd (List.replicate 4 (0 : Int) : List Int) m13 (IntKind.i64.wrap (i - nk))) t))), m2, m3, m4, m5, m6, m7, m8, m9, m10, m11, m12, m13, m14, ()) else none else none else none else none
 else
  some (nk, x, i, m, n, m1, m2, m3, m4, m5, m6, m7, m8, m9, m10, m11, m12, m13, m14, ())
theorem k3 : KQ 225 (O m_) [229, 230, 233, 234, 235, 236, 237, 238, 241, 242, 243, 244, 247, 248, 251, 252, 253, 255, 263, 264] e3 x3 [] (b3 m_) := fun _ _ => by kernel_rfl
def l3 := loop m_ (b3 m_)
theorem q3 (v) : l3 .lim v = b3 .lim (l3 .lim) v := KS.q (k3 .lim) v
def s3 := so m_ (k3 m_)
def f16 : bH := ⟨248, [.v 61 [1]], [], none, [.call 257 [.ptr 3 1, .b], .call 256 [.ptr 3 2]], false⟩
def f17 : bH := fs 230 [.v 6 [1], .q 7] [(2, .ptr 4 0), (3, .ptr 5 0), (4, .ptr 6 0)]
def f18 : bH := fs 225 [.v 8132 [2,3,4], .q 8133, .b 1, .z 1016, .b 0, .q 255] [(2, .w), (8, .ptr 3 0), (10, .ptr 7 0), (11, .oy 8)]
def o19 : bC := .c [.own 9 LG]
def Yu : bC := .c [.s, .dat (.int .u32), .dat (.int .i32), .dat (.int .u32), .dat rV, .dat rV, .dat rW, .own 10 sV]
def e4 : Spec := ⟨[⟨244, [.q 1012, .z 1012, .b 2, .q 127], [(1, .ptr 0 0), (2, .w), (3, .ptr 1 0), (5, .y), (6, .w)], none, [.mark 2], false⟩, fs 242 [.v 3 [1]] [], f16, fs 241 [.v 6 [2]] [], fs 233 [.v 3 [4]] [], f17, f18], [(0, .c [.ptr 3 0]), (1, o19), (2, .deferred false), (3, Yu), (4, .c [.ptr 3 0]), (5, o2), (6, o2), (7, o2), (8, .d [.ry]), (9, o9), (10, o3)], 11⟩
def x4 : List Spec := [⟨[⟨244, [.q 127], [(1, .ptr 0 0), (3, .ptr 1 0)], none, [.mark 2], false⟩, fs 242 [.v 3 [1]] [], f16, fs 241 [.v 6 [2]] [], fs 233 [.v 3 [4]] [], f17, f18], [(0, .c [.ptr 3 0]), (1, o19), (2, .deferred false), (3, Yu), (4, .c [.ptr 3 0]), (5, o2), (6, o2), (7, o2), (8, .d [.ry]), (9, o9), (10, o3)], 11⟩]
abbrev A4 : Type := Int × Int × Int × Bool × Int × LI × Int × Int × Int × LI × LI × LL × LI × LI × LI × LI × LL × LL × Unit
abbrev B4 : Type := (Bool × Int × LI × Int × Int × Int × LI × LI × LL × LI × LI × LI × LI × LL × LL × Unit)
def b4 (self : A4 -> Option B4) : A4 -> Option B4 := fun v_ => match v_ with
| (nk, x, i, m, n, m1, m2, m3, m4, m5, m6, m7, m8, m9, m10, m11, m12, m13, ()) =>
 bif decide (i < (IntKind.i64.wrap (4 * (IntKind.i64.wrap (nk + 7))))) then
  bif inB (IntKind.i64.wrap (i - 1)) (m12.length : Int) then
  bif !(decide (nk = 0)) then
  bif decide ((i.tmod nk) = 0) then
   bif inB (rd 0 (rd (List.replicate 4 (0 : Int) : List Int) m12 (IntKind.i64.wrap (i - 1))) 1) 256 then
   bif inB (rd 0 (rd (List.replicate 4 (0 : Int) : List Int) m12 (IntKind.i64.wrap (i - 1))) 2) 256 then
   bif inB (rd 0 (rd (List.replicate 4 (0 : Int) : List Int) m12 (IntKind.i64.wrap (i - 1))) 3) 256 then
   bif inB (rd 0 (rd (List.replicate 4 (0 : Int) : List Int) m12 (IntKind.i64.wrap (i - 1))) 0) 256 then
   (dV.run m_ (x, 2, ())).bind fun r =>
   (ah.l3 m_ (nk, r, i, 0, m, n, (((((List.replicate 4 (0 : Int) : List Int).set 0 (dN .u8 (rd 0 m5 (rd 0 (rd (List.replicate 4 (0 : Int) : List Int) m12 (IntKind.i64.wrap (i - 1))) 1)) x)).set 1 (rd 0 m5 (rd 0 (rd (List.replicate 4 (0 : Int) : List Int) m12 (IntKind.i64.wrap (i - 1))) 2))).set 2 (rd 0 m5 (rd 0 (rd (List.replicate 4 (0 : Int) : List Int) m12 (IntKind.i64.wrap (i - 1))) 3))).set 3 (rd 0 m5 (rd 0 (rd (List.replicate 4 (0 : Int) : List Int) m12 (IntKind.i64.wrap (i - 1))) 0))), m1, m2, m3, m4, m5, m6, m7, m8, m9, m10, m11, m12, m13, ())).bind fun (nk1, x1, i1, m14, n1, m15, m16, m17, m18, m19, m20, m21, m22, m23, m24, z_, yU, Bg, Bh, ()) =>
   bif decide (Bg.length + ([m15] : List (List Int)).length < 17592186044416) then
   self (nk1, x1, (IntKind.i64.wrap (i1 + 1)), m14, n1, m16, m17, m18, m19, m20, m21, m22, m23, m24, z_, yU, (Bg ++ ([m15] : List (List Int))), Bh, ()) else none else none else none else none else none
  else
   bif ((!(decide (nk = 8))) || true) then
   bif ((decide (nk = 8)) && (decide ((i.tmod 8) = 4))) then
    bif inB (rd 0 (rd (List.replicate 4 (0 : Int) : List Int) m12 (IntKind.i64.wrap (i - 1))) 0) 256 then
    bif inB (rd 0 (rd (List.replicate 4 (0 : Int) : List Int) m12 (IntKind.i64.wrap (i - 1))) 1) 256 then
    bif inB (rd 0 (rd (List.replicate 4 (0 : Int) : List Int) m12 (IntKind.i64.wrap (i - 1))) 2) 256 then
    bif inB (rd 0 (rd (List.replicate 4 (0 : Int) : List Int) m12 (IntKind.i64.wrap (i - 1))) 3) 256 then
    (ah.l3 m_ (nk, x, i, 0, m, n, (((((List.replicate 4 (0 : Int) : List Int).set 0 (rd 0 m5 (rd 0 (rd (List.replicate 4 (0 : Int) : List Int) m12 (IntKind.i64.wrap (i - 1))) 0))).set 1 (rd 0 m5 (rd 0 (rd (List.replicate 4 (0 : Int) : List Int) m12 (IntKind.i64.wrap (i - 1))) 1))).set 2 (rd 0 m5 (rd 0 (rd (List.replicate 4 (0 : Int) : List Int) m12 (IntKind.i64.wrap (i - 1))) 2))).set 3 (rd 0 m5 (rd 0 (rd (List.replicate 4 (0 : Int) : List Int) m12 (IntKind.i64.wrap (i - 1))) 3))), m1, m2, m3, m4, m5, m6, m7, m8, m9, m10, m11, m12, m13, ())).bind fun (nk2, x2, i2, E5, n2, FI, GX, m32, Ez, Je, KL, Jf, O9, TQ, QJ, QK, TR, Nu, O_, ()) =>
    bif decide (Nu.length + ([FI] : List (List Int)).length < 17592186044416) then
    self (nk2, x2, (IntKind.i64.wrap (i2 + 1)), E5, n2, GX, m32, Ez, Je, KL, Jf, O9, TQ, QJ, QK, TR, (Nu ++ ([FI] : List (List Int))), O_, ()) else none else none else none else none else none
   else
    (ah.l3 m_ (nk, x, i, 0, m, n, (rd (List.replicate 4 (0 : Int) : List Int) m12 (IntKind.i64.wrap (i - 1))), m1, m2, m3, m4, m5, m6, m7, m8, m9, m10, m11, m12, m13, ())).bind fun (nk3, x3, i3, Pg, n3, Jr, Js, KN, LH, GY, GZ, Jt, RF, LJ, Ph, QL, TU, LK, Y7, ()) =>
    bif decide (LK.length + ([Jr] : List (List Int)).length < 17592186044416) then
    self (nk3, x3, (IntKind.i64.wrap (i3 + 1)), Pg, n3, Js, KN, LH, GY, GZ, Jt, RF, LJ, Ph, QL, TU, (LK ++ ([Jr] : List (List Int))), Y7, ()) else none else none else none else none
 else
  some (m, n, m1, m2, m3, m4, m5, m6, m7, m8, m9, m10, m11, m12, m13, ())
theorem k4 : KQ 225 (O m_) [229, 230, 233, 234, 235, 236, 237, 238, 241, 242, 243, 244, 247, 248, 251, 252, 253, 255, 263, 264] e4 x4 [s3 m_] (b4 m_) := fun _ _ => by kernel_rfl
def l4 := loop m_ (b4 m_)
theorem q4 (v) : l4 .lim v = b4 .lim (l4 .lim) v := KS.q (k4 .lim) v
def s4 := so m_ (k4 m_)
def e5 : Spec := ⟨[fs 261 [.q 12, .z 12, .b 0] [(0, .fn (.yield 0) []), (1, .ptr 1 0), (2, .ptr 2 0), (4, .w)], ⟨244, [.inRange 0, .b 6], [], none, [.mark 3, .mark 4], false⟩, fs 242 [.v 3 [1]] [], ⟨248, [.v 61 [1]], [], none, [.call 257 [.ptr 5 1, .b], .call 256 [.ptr 5 2]], false⟩, fs 241 [.v 6 [2]] [], fs 233 [.v 3 [4]] [], fs 230 [.v 6 [1], .q 7] [(2, .ptr 6 0), (3, .ptr 7 0), (4, .ptr 8 0)], fs 225 [.v 8132 [2,3,4], .q 8133, .b 1, .z 1016, .b 0, .q 255] [(2, .w), (8, .ptr 5 0), (10, .ptr 9 0), (11, .oy 10)]], [(0, .loop .ready none 244 [(1, .ptr 11 0)] [138] (vY 510) 3), (1, .c [.own 12 LG]), (2, .c [.w]), (3, .deferred false), (4, .deferred false), (5, o8), (6, .c [.ptr 5 0]), (7, o2), (8, o2), (9, o2), (10, .d [.ry]), (11, .d [.ptr 5 0]), (12, .d [.row LG]), (13, o3)], 14⟩
def x5 : List Spec := [⟨[fs 261 [] [], ⟨244, [.inRange 0, .b 6], [], none, [.mark 1, .mark 2], false⟩, fs 242 [.v 3 [1]] [], f16, fs 241 [.v 6 [2]] [], fs 233 [.v 3 [4]] [], f17, f18], [(0, .loop .ready none 244 [(1, .ptr 9 0)] [138] (vY 510) 1), (1, .deferred false), (2, .deferred false), (3, Yu), (4, .c [.ptr 3 0]), (5, o2), (6, o2), (7, o2), (8, .d [.ry]), (9, .d [.ptr 3 0]), (10, o3)], 11⟩]
abbrev A5 : Type := Int × Bool × Int × Int × LI × Int × Int × Int × LI × LI × LL × LI × LI × LI × LI × LL × LL × Unit
abbrev B5 : Type := (Bool × Int × LI × Int × Int × Int × LI × LI × LL × LI × LI × LI × LI × LL × Unit)
def b5 (self : A5 -> Option B5) : A5 -> Option B5 := fun v_ => match v_ with
| (i, m, n, m1, m2, m3, m4, m5, m6, m7, m8, m9, m10, m11, m12, m13, m14, ()) =>
 bif ay (m13.length : Int) then
 bif decide (i < (m13.length : Int)) then
  bif dR i (m13.length : Int) (m13.length : Int) then
  bif ay ((m13.length : Int) - i) then
  bif ((dR i (IntKind.i64.wrap (i + (mn m1 ((m13.length : Int) - i)))) (IntKind.i64.wrap (i + (mn m1 ((m13.length : Int) - i))))) && (decide ((IntKind.i64.wrap (i + (mn m1 ((m13.length : Int) - i)))) <= (m13.length : Int)))) then
  bif inB 0 ((cut m13 i (IntKind.i64.wrap (i + (mn m1 ((m13.length : Int) - i))))).length : Int) then
  bif inB 1 ((cut m13 i (IntKind.i64.wrap (i + (mn m1 ((m13.length : Int) - i))))).length : Int) then
  bif inB 2 ((cut m13 i (IntKind.i64.wrap (i + (mn m1 ((m13.length : Int) - i))))).length : Int) then
  bif inB 3 ((cut m13 i (IntKind.i64.wrap (i + (mn m1 ((m13.length : Int) - i))))).length : Int) then
  (aC.run m_ (([(cut (rd (List.replicate 4 (0 : Int) : List Int) (cut m13 i (IntKind.i64.wrap (i + (mn m1 ((m13.length : Int) - i))))) 0) 0 4), (cut (rd (List.replicate 4 (0 : Int) : List Int) (cut m13 i (IntKind.i64.wrap (i + (mn m1 ((m13.length : Int) - i))))) 1) 0 4), (cut (rd (List.replicate 4 (0 : Int) : List Int) (cut m13 i (IntKind.i64.wrap (i + (mn m1 ((m13.length : Int) - i))))) 2) 0 4), (cut (rd (List.replicate 4 (0 : Int) : List Int) (cut m13 i (IntKind.i64.wrap (i + (mn m1 ((m13.length : Int) - i))))) 3) 0 4)] : List (List Int)), ())).bind fun r =>
  bif (Nat.ble 1 16 && Nat.ble 16 r.length) then
  bif decide (m14.length + ([(r.take 16)] : List (List Int)).length < 4398046511104) then
  self ((IntKind.i64.wrap (i + m1)), m, n, m1, m2, m3, m4, m5, m6, m7, m8, m9, m10, m11, m12, m13, (m14 ++ ([(r.take 16)] : List (List Int))), ()) else none else none else none else none else none else none else none else none else none
 else
  some (m, n, m2, m3, m4, m5, m6, m7, m8, m9, m10, m11, m12, m14, ()) else none
theorem k5 : KQ 225 (O m_) [229, 230, 233, 234, 235, 236, 237, 238, 241, 242, 243, 244, 247, 248, 251, 252, 253, 255, 263, 264] e5 x5 [] (b5 m_) := fun _ _ => by kernel_rfl
def l5 := loop m_ (b5 m_)
theorem q5 (v) : l5 .lim v = b5 .lim (l5 .lim) v := KS.q (k5 .lim) v
def s5 := so m_ (k5 m_)
def XC : bC := .c [.s, .dat (.int .u32), .dat (.int .i32), .dat (.int .u32), .dat rV, .dat rV, .dat rW, .own 6 sV]
def f22 : bH := fs 225 [.v 8132 [2,3,4], .q 8133, .b 1, .z 1016, .b 0, .q 255] [(2, .w), (8, .ptr 3 0), (10, .ptr 4 0), (11, .oy 5)]
def e6 : Spec := ⟨[fs 233 [.q 1] [(0, .ptr 0 0)], fs 230 [.v 6 [1], .q 7] [(2, .ptr 1 0), (3, .ptr 2 0), (4, .ptr 3 0)], fs 225 [.v 8132 [2,3,4], .q 8133, .b 1, .z 1016, .b 0, .q 255] [(2, .w), (8, .ptr 0 0), (10, .ptr 4 0), (11, .oy 5)]], [(0, XC), (1, .c [.ptr 0 0]), (2, o2), (3, o2), (4, o2), (5, .d [.ry]), (6, o3)], 7⟩
def x6 : List Spec := [⟨[fs 233 [] [], fs 230 [.v 6 [1], .q 7] [(2, .ptr 0 0), (3, .ptr 1 0), (4, .ptr 2 0)], f22], [(0, .c [.ptr 3 0]), (1, o2), (2, o2), (3, XC), (4, o2), (5, .d [.ry]), (6, o3)], 7⟩]
abbrev A6 : Type := Int × LI × Int × Int × Int × LI × LI × LL × LI × LI × LI × LI × LL × Unit
abbrev B6 : Type := (Int × LI × LI × LI × Int × Int × Int × LI × LI × LL × LI × LI × LL × Unit)
def b6 (self : A6 -> Option B6) : A6 -> Option B6 := fun v_ => match v_ with
| (n, m, m1, m2, m3, m4, m5, m6, m7, m8, m9) =>
 bif !(!(decide (m1 = 0))) then
  bif decide (m2 = 0) then
  bif !(!(decide (m1 = 0))) then
   (ah.l1 m_ (0, true, n, m, m1, (bif decide (m2 = 0) then 1 else m2), m3, m4, m5, m6, m7, m8, m9)).bind fun (m12, n1, m13, m14, m15, m16, m17, m18, m19, m20, m21, m22, m23, m24, ()) =>
   bif ay (m13.length : Int) then
   (ah.l2 m_ (0, (IntKind.i64.wrap ((m13.length : Int).tdiv 4)), m12, n1, 4, m13, m14, m15, m16, m17, m18, m19, m20, m21, m22, m23, m13, ([] : List (List Int)), m24, ())).bind fun (nk, z_) =>
   (ah.l4 m_ (nk, 1, nk, z_)).bind fun (QJ, n3, QK) =>
   (ah.l5 m_ (0, QJ, n3, 4, QK)).bind fun (LJ, n4, Ph, QL, TU, LK, Y7, m59, m60, m61, m62, m63) =>
   (gG.run m_ (LJ, ())).bind fun r =>
   bif !(decide ((IntKind.i32.wrap (TU + (-1))) = 0)) then
    none
   else
    some (n4, m61, m62, Ph, r, (IntKind.i32.wrap (TU + (-1))), LK, Y7, m59, m60, m63) else none
  else
   bif !(decide ((IntKind.i32.wrap ((bif decide (m2 = 0) then 1 else m2) + (-1))) = 0)) then
    none
   else
    some (n, m7, m8, m, m1, (IntKind.i32.wrap ((bif decide (m2 = 0) then 1 else m2) + (-1))), m3, m4, m5, m6, m9) else none
 else
  some (n, m7, m8, m, m1, m2, m3, m4, m5, m6, m9)
theorem k6 : KQ 225 (O m_) [229, 230, 233, 234, 235, 236, 237, 238, 241, 242, 243, 244, 247, 248, 251, 252, 253, 255, 263, 264] e6 x6 [s1 m_, s2 m_, s4 m_, s5 m_] (b6 m_) := fun _ _ => by kernel_rfl
def l6 := loop m_ (b6 m_)
theorem q6 (v) : l6 .lim v = b6 .lim (l6 .lim) v := KS.q (k6 .lim) v
def s6 := so m_ (k6 m_)
def f23 : bH := fs 234 [.q 28, .z 28, .b 0] [(0, .ptr 0 0), (3, .ptr 1 0), (5, .w)]
def f24 : bH := fs 225 [.v 8132 [2,3,4], .q 8133, .b 1, .z 1016, .b 0, .q 255] [(2, .w), (8, .ptr 4 0), (10, .ptr 5 0), (11, .oy 6)]
def e7 : Spec := ⟨[f23, fs 230 [.v 14 [6], .q 15] [(2, .ptr 2 0), (3, .ptr 0 0), (4, .ptr 3 0)], f24], [(0, o2), (1, o2), (2, .c [.ptr 4 0]), (3, o2), (4, o7), (5, o2), (6, .d [.ry]), (7, o3)], 8⟩
def x7 : List Spec := [⟨[fs 234 [] [], fs 230 [.v 14 [6], .q 15] [(2, .ptr 0 0), (3, .ptr 1 0), (4, .ptr 2 0)], f22], [(0, .c [.ptr 3 0]), (1, o2), (2, o2), (3, XC), (4, o2), (5, .d [.ry]), (6, o3)], 7⟩]
abbrev A7 : Type := Int × Int × LI × LI × LI × LI × Int × Int × Int × LI × LI × LL × LI × LI × LL × Unit
abbrev B7 : Type := (Int × LI × LI × LI × Int × Int × Int × LI × LI × LL × LI × LI × LL × Unit)
def b7 (m_ : aJ) (self : A7 -> Option B7) : A7 -> Option B7 := fun v_ => match v_ with
| (t, n, m, m1, m2) =>
 bif decide (t < 16) then
  bif inB t 16 then
  bif inB t 16 then
  bif inB t 16 then
  self ((IntKind.i64.wrap (t + 1)), n, (m.set t.toNat (dN .u8 (rd 0 m t) (rd 0 m1 t))), m1, m2) else none else none else none
 else
  some (n, m, m2)
theorem k7 : KQ 225 (O m_) [229, 230, 233, 234, 235, 236, 237, 238, 241, 242, 243, 244, 247, 248, 251, 252, 253, 255, 263, 264] e7 x7 [] (b7 m_) := fun _ _ => by kernel_rfl
def l7 := loop m_ (b7 m_)
theorem q7 (v) : l7 .lim v = b7 .lim (l7 .lim) v := KS.q (k7 .lim) v
def s7 := so m_ (k7 m_)
def f25 : bH := fs 245 [.v 818 [10,11], .q 819, .b 1, .q 103, .z 12, .b 0] [(0, .fn (.yield 4) []), (1, .ptr 5 0), (9, .slc 6 0 none sV), (10, .w), (11, .w)]
def f26 : bH := ⟨230, [.inRange 4, .b 0, .q 31], [(3, .ptr 0 0), (4, .ptr 7 0)], none, [.mark 8], false⟩
def o27 : bC := .loop .busy none 230 [(2, .ptr 2 0), (3, .ptr 0 0)] [18, 19] (vY 122) 8
def f28 : bH := fs 245 [.v 818 [10,11], .q 819, .b 1, .q 103, .z 12, .b 0] [(0, .fn (.yield 3) []), (1, .ptr 4 0), (9, .slc 5 0 none sV), (10, .w), (11, .w)]
def f29 : bH := ⟨230, [.inRange 3, .b 0, .q 31], [(3, .ptr 1 0), (4, .ptr 6 0)], none, [.mark 7], false⟩
def f30 : bH := fs 225 [.v 8132 [2,3,4], .q 8133, .b 1, .z 1016, .b 0, .q 255] [(2, .w), (8, .ptr 8 0), (10, .ptr 9 0), (11, .oy 10)]
def o31 : bC := .loop .busy none 230 [(2, .ptr 0 0), (3, .ptr 1 0)] [18, 19] (vY 122) 7
def o32 : bC := .c [.s, .dat (.int .u32), .dat (.int .i32), .dat (.int .u32), .dat rV, .dat rV, .dat rW, .own 5 sV]
def e8 : Spec := ⟨[fs 236 [.q 12, .z 12, .b 0] [(0, .ptr 0 0), (1, .ptr 1 4), (6, .ptr 0 0), (7, .w)], ⟨230, [.v 980 [3], .q 981, .b 1], [(2, .ptr 2 0), (3, .ptr 0 0), (5, .ptr 3 0), (6, .b)], some 4, [], false⟩, f25, f26, fs 225 [.v 8132 [2,3,4], .q 8133, .b 1, .z 1016, .b 0, .q 255] [(2, .w), (8, .ptr 1 0), (10, .ptr 9 0), (11, .oy 10)]], [(0, o2), (1, XC), (2, .c [.ptr 1 0]), (3, o2), (4, o27), (5, .c [.ptr 1 0]), (6, o3), (7, o2), (8, .deferred false), (9, o2), (10, .d [.ry])], 11⟩
def x8 : List Spec := [⟨[fs 236 [] [], ⟨230, [.v 980 [3], .q 981, .b 1], [(2, .ptr 0 0), (3, .ptr 1 0), (5, .ptr 2 0), (6, .b)], some 3, [], false⟩, f28, f29, f30], [(0, .c [.ptr 8 0]), (1, o2), (2, o2), (3, o31), (4, .c [.ptr 8 0]), (5, o3), (6, o2), (7, .deferred false), (8, o32), (9, o2), (10, .d [.ry])], 11⟩]
abbrev A8 : Type := Int × Bool × Int × Int × Int × Int × Int × LI × LI × Int × Int × Int × LI × LI × LL × LI × LL × LI × LI × LI × Unit
abbrev B8 : Type := (Bool × Int × Int × Int × Int × Int × LI × LI × LL × LI × LI × Int × Int × Int × LI × LI × LL × LI × LI × Unit)
def b8 (m_ : aJ) (self : A8 -> Option B8) : A8 -> Option B8 := fun v_ => match v_ with
| (t, last, tp, tq, t1, t2, n, m, m1, m2, m3, m4, m5, m6, m7, m8, m9, m10, m11, m12, ()) =>
 bif decide (t < 16) then
  bif inB t 16 then
  bif inB (rd 0 m t) 256 then
  bif inB t 16 then
  self ((IntKind.i64.wrap (t + 1)), last, tp, tq, t1, t2, n, (m.set t.toNat (rd 0 m5 (rd 0 m t))), m1, m2, m3, m4, m5, m6, m7, m8, m9, m10, m11, m12, ()) else none else none else none
 else
  some (last, tp, tq, t1, t2, n, m, m8, m9, m10, m1, m2, m3, m4, m5, m6, m7, m11, m12, ())
theorem k8 : KQ 225 (O m_) [229, 230, 233, 234, 235, 236, 237, 238, 241, 242, 243, 244, 247, 248, 251, 252, 253, 255, 263, 264] e8 x8 [] (b8 m_) := fun _ _ => by kernel_rfl
def l8 := loop m_ (b8 m_)
theorem q8 (v) : l8 .lim v = b8 .lim (l8 .lim) v := KS.q (k8 .lim) v
def s8 := so m_ (k8 m_)
def e9 : Spec := ⟨[fs 237 [.q 28, .z 28, .b 0] [(0, .ptr 0 0), (1, .w), (4, .ptr 1 0), (9, .w)], ⟨230, [.v 1962 [0], .q 1963, .b 1], [(2, .ptr 2 0), (3, .ptr 0 0), (5, .ptr 3 0), (6, .b)], some 4, [], false⟩, f25, f26, fs 225 [.v 8132 [2,3,4], .q 8133, .b 1, .z 1016, .b 0, .q 255] [(2, .w), (8, .ptr 9 0), (10, .ptr 10 0), (11, .oy 11)]], [(0, o2), (1, o2), (2, .c [.ptr 9 0]), (3, o2), (4, o27), (5, .c [.ptr 9 0]), (6, o3), (7, o2), (8, .deferred false), (9, XC), (10, o2), (11, .d [.ry])], 12⟩
def x9 : List Spec := [⟨[fs 237 [] [], ⟨230, [.v 1962 [0], .q 1963, .b 1], [(2, .ptr 0 0), (3, .ptr 1 0), (5, .ptr 2 0), (6, .b)], some 3, [], false⟩, f28, f29, f30], [(0, .c [.ptr 8 0]), (1, o2), (2, o2), (3, o31), (4, .c [.ptr 8 0]), (5, o3), (6, o2), (7, .deferred false), (8, o32), (9, o2), (10, .d [.ry])], 11⟩]
abbrev A9 : Type := Int × Int × Bool × Int × Int × Int × Int × Int × LI × LI × LI × LL × LI × LI × Int × Int × Int × LI × LI × LL × LI × LI × Unit
abbrev B9 : Type := (Bool × Int × Int × Int × Int × Int × LI × LI × LL × LI × LI × Int × Int × Int × LI × LI × LL × LI × LI × Unit)
def b9 (m_ : aJ) (self : A9 -> Option B9) : A9 -> Option B9 := fun v_ => match v_ with
| (Yv, t, last, tp, tq, t1, t2, n, m, m1, m2) =>
 bif decide (t < 16) then
  bif inB ((IntKind.i64.wrap ((IntKind.i64.wrap (t + (IntKind.i64.wrap (Yv * (t.tmod 4))))) + 64)).tmod 16) 16 then
  bif inB t 16 then
  self (Yv, (IntKind.i64.wrap (t + 1)), last, tp, tq, t1, t2, n, (m.set t.toNat (rd 0 m1 ((IntKind.i64.wrap ((IntKind.i64.wrap (t + (IntKind.i64.wrap (Yv * (t.tmod 4))))) + 64)).tmod 16))), m1, m2) else none else none
 else
  some (last, tp, tq, t1, t2, n, m, m2)
theorem k9 : KQ 225 (O m_) [229, 230, 233, 234, 235, 236, 237, 238, 241, 242, 243, 244, 247, 248, 251, 252, 253, 255, 263, 264] e9 x9 [] (b9 m_) := fun _ _ => by kernel_rfl
def l9 := loop m_ (b9 m_)
theorem q9 (v) : l9 .lim v = b9 .lim (l9 .lim) v := KS.q (k9 .lim) v
def s9 := so m_ (k9 m_)
def f33 : bH := ⟨230, [.v 15706 [2], .q 3927, .b 1], [(3, .ptr 1 0), (5, .ptr 4 0)], some 5, [], false⟩
def f34 : bH := fs 245 [.v 818 [10,11], .q 819, .b 1, .q 103, .z 12, .b 0] [(0, .fn (.yield 5) []), (1, .ptr 6 0), (9, .slc 7 0 none sV), (10, .w), (11, .w)]
def f35 : bH := ⟨230, [.inRange 5, .b 0, .q 31], [(3, .ptr 1 0), (4, .ptr 8 0)], none, [.mark 9], false⟩
def f36 : bH := fs 225 [.v 8132 [2,3,4], .q 8133, .b 1, .z 1016, .b 0, .q 255] [(2, .w), (8, .ptr 0 0), (10, .ptr 10 0), (11, .oy 11)]
def o37 : bC := .loop .busy none 230 [(2, .ptr 12 0), (3, .ptr 1 0)] [18, 19] (vY 122) 9
def e10 : Spec := ⟨[fs 238 [.q 31132, .z 31132, .b 2, .b 1, .q 487, .z 60, .b 0] [(0, .ptr 0 0), (1, .ptr 1 0), (5, .ptr 2 0), (6, .ptr 3 0), (7, .w), (13, .w), (20, .dat LG), (21, .w)], f33, f34, f35, f36], [(0, o7), (1, o2), (2, Vf), (3, o2), (4, o2), (5, o37), (6, .c [.ptr 0 0]), (7, o3), (8, o2), (9, .deferred false), (10, o2), (11, .d [.ry]), (12, .c [.ptr 0 0])], 13⟩
def x10 : List Spec := [⟨[fs 238 [.q 487, .z 60, .b 0] [(0, .ptr 0 0), (1, .ptr 1 0), (5, .ptr 2 0), (6, .ptr 3 0), (13, .w)], f33, f34, f35, f36], [(0, o7), (1, o2), (2, Vf), (3, o2), (4, o2), (5, o37), (6, .c [.ptr 0 0]), (7, o3), (8, o2), (9, .deferred false), (10, o2), (11, .d [.ry]), (12, .c [.ptr 0 0])], 13⟩]
abbrev ZK : Type := Int × Int × LI × Int × Int × Int × Int × Int × Int × LI × Int × Int × Int × LI × LI × LL × LI × LI × LI × LI × LL × LI × LI × LI × Unit
abbrev B10 : Type := (Int × Int × Int × Int × Int × Int × LI × Int × Int × Int × LI × LI × LL × LI × LI × LI × LI × LL × LI × LI × LI × Unit)
def b10 (m_ : aJ) (self : ZK -> Option B10) : ZK -> Option B10 := fun v_ => match v_ with
| (i, t, t1, t2, tp, tq, t3, t4, n, m, m1, m2, m3, m4, m5, m6, m7, m8, m9, m10) =>
 bif decide (t2 < 4) then
  bif inB t2 4 then
  bif inB i 16 then
  bif inB (IntKind.i64.wrap ((IntKind.i64.wrap ((IntKind.i64.wrap (i.tdiv 4)) * 4)) + ((IntKind.i64.wrap (i + t2)).tmod 4))) 16 then
  bif inB (rd 0 t1 t2) 16 then
  bif inB (rd 0 m9 (IntKind.i64.wrap ((IntKind.i64.wrap ((IntKind.i64.wrap (i.tdiv 4)) * 4)) + ((IntKind.i64.wrap (i + t2)).tmod 4)))) 256 then
  bif inB i 16 then
  self (i, t, t1, (IntKind.i64.wrap (t2 + 1)), tp, tq, t3, t4, n, m, m1, m2, m3, m4, m5, m6, (m7.set i.toNat (dN .u8 (rd 0 m7 i) (rd 0 (rd (List.replicate 256 (0 : Int) : List Int) m6 (rd 0 t1 t2)) (rd 0 m9 (IntKind.i64.wrap ((IntKind.i64.wrap ((IntKind.i64.wrap (i.tdiv 4)) * 4)) + ((IntKind.i64.wrap (i + t2)).tmod 4))))))), m8, m9, m10) else none else none else none else none else none else none
 else
  some (t, tp, tq, t3, t4, n, m, m1, m2, m3, m4, m5, m6, m7, m8, m9, m10)
theorem k10 : KQ 225 (O m_) [229, 230, 233, 234, 235, 236, 237, 238, 241, 242, 243, 244, 247, 248, 251, 252, 253, 255, 263, 264] e10 x10 [] (b10 m_) := fun _ _ => by kernel_rfl
def l10 := loop m_ (b10 m_)
theorem q10 (v) : l10 .lim v = b10 .lim (l10 .lim) v := KS.q (k10 .lim) v
def s10 := so m_ (k10 m_)
def f38 : bH := fs 245 [.v 818 [10,11], .q 819, .b 1, .q 103, .z 12, .b 0] [(0, .fn (.yield 2) []), (1, .ptr 3 0), (9, .slc 4 0 none sV), (10, .w), (11, .w)]
def f39 : bH := ⟨230, [.inRange 2, .b 0, .q 31], [(3, .ptr 0 0), (4, .ptr 5 0)], none, [.mark 6], false⟩
def f40 : bH := fs 225 [.v 8132 [2,3,4], .q 8133, .b 1, .z 1016, .b 0, .q 255] [(2, .w), (8, .ptr 7 0), (10, .ptr 8 0), (11, .oy 9)]
def o41 : bC := .loop .busy none 230 [(2, .ptr 10 0), (3, .ptr 0 0)] [18, 19] (vY 122) 6
def o42 : bC := .c [.s, .dat (.int .u32), .dat (.int .i32), .dat (.int .u32), .dat rV, .dat rV, .dat rW, .own 4 sV]
def e11 : Spec := ⟨[fs 238 [.q 60, .z 60, .b 0] [(0, .ptr 0 0), (1, .ptr 1 0), (5, .ptr 2 0), (6, .ptr 3 0), (13, .w)], f33, f34, f35, f36], [(0, o7), (1, o2), (2, Vf), (3, o2), (4, o2), (5, o37), (6, .c [.ptr 0 0]), (7, o3), (8, o2), (9, .deferred false), (10, o2), (11, .d [.ry]), (12, .c [.ptr 0 0])], 13⟩
def x11 : List Spec := [⟨[fs 238 [] [], ⟨230, [.v 15706 [2], .q 3927, .b 1], [(3, .ptr 0 0), (5, .ptr 1 0)], some 2, [], false⟩, f38, f39, f40], [(0, o2), (1, o2), (2, o41), (3, .c [.ptr 7 0]), (4, o3), (5, o2), (6, .deferred false), (7, o42), (8, o2), (9, .d [.ry]), (10, .c [.ptr 7 0])], 11⟩]
abbrev ZL : Type := Int × Int × Int × Int × Int × Int × LI × Int × Int × Int × LI × LI × LL × LI × LI × LI × LI × LL × LI × LI × LI × Unit
abbrev B11 : Type := (Int × Int × Int × Int × Int × LI × LI × LL × LI × LI × Int × Int × Int × LI × LI × LL × LI × LI × Unit)
def b11 (self : ZL -> Option B11) : ZL -> Option B11 := fun v_ => match v_ with
| (t, tp, tq, t1, t2, n, m, m1, m2, m3, m4, m5, m6, m7, m8, m9, m10, m11, m12, m13, m14, ()) =>
 bif decide (t < 16) then
  bif inB t 16 then
  (ah.l10 m_ (t, t, m8, 0, tp, tq, t1, t2, n, m, m1, m2, m3, m4, m5, m6, (m7.set t.toNat 0), m8, m9, m10, m11, m12, m13, m14, ())).bind fun (t3, Yw) =>
  self ((IntKind.i64.wrap (t3 + 1)), Yw) else none
 else
  some (tp, tq, t1, t2, n, m7, m10, m11, m12, m, m1, m2, m3, m4, m5, m6, m13, m14, ())
theorem k11 : KQ 225 (O m_) [229, 230, 233, 234, 235, 236, 237, 238, 241, 242, 243, 244, 247, 248, 251, 252, 253, 255, 263, 264] e11 x11 [s10 m_] (b11 m_) := fun _ _ => by kernel_rfl
def TS := loop m_ (b11 m_)
theorem q11 (v) : TS .lim v = b11 .lim (TS .lim) v := KS.q (k11 .lim) v
def s11 := so m_ (k11 m_)
def f43 : bH := ⟨230, [.inRange 0, .b 0, .q 31], [(3, .ptr 3 0), (4, .ptr 4 0)], none, [.mark 5], false⟩
def f44 : bH := fs 225 [.v 8132 [2,3,4], .q 8133, .b 1, .z 1016, .b 0, .q 255] [(2, .w), (8, .ptr 6 0), (10, .ptr 7 0), (11, .oy 8)]
def o45 : bC := .c [.s, .dat (.int .u32), .dat (.int .i32), .dat (.int .u32), .dat rV, .dat rV, .dat rW, .own 2 sV]
def e12 : Spec := ⟨[f23, ⟨230, [.v 3927 [1], .b 1], [], some 2, [], false⟩, f38, f39, f40], [(0, o2), (1, o2), (2, o41), (3, .c [.ptr 7 0]), (4, o3), (5, o2), (6, .deferred false), (7, o42), (8, o2), (9, .d [.ry]), (10, .c [.ptr 7 0])], 11⟩
def x12 : List Spec := [⟨[fs 234 [] [], ⟨230, [.v 3927 [1], .b 1], [], some 0, [], false⟩, fs 245 [.v 818 [10,11], .q 819, .b 1, .q 103, .z 12, .b 0] [(0, .fn (.yield 0) []), (1, .ptr 1 0), (9, .slc 2 0 none sV), (10, .w), (11, .w)], f43, f44], [(0, .loop .busy none 230 [(2, .ptr 9 0), (3, .ptr 3 0)] [18, 19] (vY 122) 5), (1, .c [.ptr 6 0]), (2, o3), (3, o2), (4, o2), (5, .deferred false), (6, o45), (7, o2), (8, .d [.ry]), (9, .c [.ptr 6 0])], 10⟩]
abbrev ZM : Type := Int × Int × Int × Int × Int × Int × LI × LI × LL × LI × LI × Int × Int × Int × LI × LI × LL × LI × LI × Unit
abbrev ZN : Type := (Int × Int × Int × Int × Int × LL × LI × LI × LI × Int × Int × Int × LI × LI × LL × LI × LI × Unit)
def b12 (m_ : aJ) (self : ZM -> Option ZN) : ZM -> Option ZN := fun v_ => match v_ with
| (t, tp, tq, t1, t2, n, m, m1, m2, m3) =>
 bif decide (t < 16) then
  bif inB t 16 then
  bif inB t 16 then
  bif inB t 16 then
  self ((IntKind.i64.wrap (t + 1)), tp, tq, t1, t2, n, (m.set t.toNat (dN .u8 (rd 0 m t) (rd 0 m1 t))), m1, m2, m3) else none else none else none
 else
  some (tp, tq, t1, t2, n, m2, m, m3)
theorem k12 : KQ 225 (O m_) [229, 230, 233, 234, 235, 236, 237, 238, 241, 242, 243, 244, 247, 248, 251, 252, 253, 255, 263, 264] e12 x12 [] (b12 m_) := fun _ _ => by kernel_rfl
def l12 := loop m_ (b12 m_)
theorem q12 (v) : l12 .lim v = b12 .lim (l12 .lim) v := KS.q (k12 .lim) v
def s12 := so m_ (k12 m_)
def e13 : Spec := ⟨[fs 245 [.q 12, .z 12, .b 0] [(0, .fn (.yield 0) []), (1, .ptr 1 0), (9, .slc 2 0 none sV), (10, .w), (11, .w)], f43, f44], [(0, .loop .ready none 230 [(2, .ptr 9 0), (3, .ptr 3 0)] [18, 19] (vY 122) 5), (1, .c [.ptr 6 0]), (2, o3), (3, o2), (4, o2), (5, .deferred false), (6, o45), (7, o2), (8, .d [.ry]), (9, .c [.ptr 6 0])], 10⟩
def x13 : List Spec := [⟨[fs 245 [] [], ⟨230, [.inRange 2, .b 0, .q 31], [(3, .ptr 0 0), (4, .ptr 1 0)], none, [.mark 3], false⟩, f24], [(0, o2), (1, o2), (2, .loop .ready none 230 [(2, .ptr 7 0), (3, .ptr 0 0)] [18, 19] (vY 122) 3), (3, .deferred false), (4, o1), (5, o2), (6, .d [.ry]), (7, .c [.ptr 4 0]), (8, o3)], 9⟩]
abbrev ZO : Type := Int × Int × Int × Int × Int × LL × LI × LI × LI × Int × Int × Int × LI × LI × LL × LI × LI × Unit
abbrev ZP : Type := (Int × LI × LI × LI × Int × Int × Int × LI × LI × LL × LI × LI × LL × Unit)
def b13 (self : ZO -> Option ZP) : ZO -> Option ZP := fun v_ => match v_ with
| (tp, tq, t, t1, n, m, m1, m2, m3, m4, m5, m6, m7, m8, m9, m10, m11, ()) =>
 bif decide (t1 < t) then
  bif inB t1 tq then
  bif ay (m.length : Int) then
  (ah.l8 m_ (0, decide (t1 = (IntKind.i64.wrap ((m.length : Int) - 2))), tp, tq, t, t1, n, m1, m3, m4, m5, m6, m7, m8, m9, (rd (List.replicate 16 (0 : Int) : List Int) m (tp + t1)), m, m2, m10, m11, ())).bind fun (last, Yw, tq1, t2, t3, n1, m12, m13) =>
  (ah.l9 m_ (4, 0, last, Yw, tq1, t2, t3, n1, m12, m12, m13)).bind fun (TT, ZQ, ZR, t4, t5, n2, z_, yU, Bg, Bh, E5, FI, GX, m32, Ez, Je, KL, Jf, O9, ()) =>
  bif !TT then
   (ah.TS m_ (0, ZQ, ZR, t4, t5, n2, E5, FI, GX, m32, Ez, Je, KL, z_, (((((List.replicate 4 (0 : Int) : List Int).set 0 2).set 1 3).set 2 1).set 3 1), z_, yU, Bg, Bh, Jf, O9, ())).bind fun (tp3) =>
   (ah.l12 m_ (0, tp3)).bind fun (tp4, tq4, t8, t9, n4) =>
   self (tp4, tq4, t8, (IntKind.i64.wrap (t9 + 1)), n4)
  else
   (ah.l12 m_ (0, ZQ, ZR, t4, t5, n2, z_, yU, Bg, Bh, E5, FI, GX, m32, Ez, Je, KL, Jf, O9, ())).bind fun (tp5, tq5, t10, t11, n5) =>
   self (tp5, tq5, t10, (IntKind.i64.wrap (t11 + 1)), n5) else none else none
 else
  some (n, m1, m2, m3, m4, m5, m6, m7, m8, m9, m10, m11, m, ())
theorem k13 : KQ 225 (O m_) [229, 230, 233, 234, 235, 236, 237, 238, 241, 242, 243, 244, 247, 248, 251, 252, 253, 255, 263, 264] e13 x13 [s8 m_, s9 m_, s11 m_, s12 m_] (b13 m_) := fun _ _ => by kernel_rfl
def Nv := loop m_ (b13 m_)
theorem q13 (v) : Nv .lim v = b13 .lim (Nv .lim) v := KS.q (k13 .lim) v
def s13 := so m_ (k13 m_)
def o46 : bC := .c [.s, .dat (.int .u32), .dat (.int .i32), .dat (.int .u32), .dat rV, .dat rV, .dat rW, .own 3 sV]
def e14 : Spec := ⟨[fs 230 [.q 1] [(0, .ptr 0 0), (1, .dat sV)], fs 225 [.v 8132 [2,3,4], .q 8133, .b 1, .z 1016, .b 0, .q 255] [(2, .w), (8, .ptr 0 0), (10, .ptr 1 0), (11, .oy 2)]], [(0, o46), (1, o2), (2, .d [.ry]), (3, o3)], 4⟩
def x14 : List Spec := [⟨[⟨230, [.q 63], [(4, .ptr 0 0)], none, [.mark 1], false⟩, fs 225 [.v 8132 [2,3,4], .q 8133, .b 1, .z 1016, .b 0, .q 255] [(2, .w), (8, .ptr 2 0), (10, .ptr 3 0), (11, .oy 4)]], [(0, o2), (1, .deferred false), (2, o32), (3, o2), (4, .d [.ry]), (5, o3)], 6⟩]
abbrev ZT : Type := LI × Int × LI × Int × Int × Int × LI × LI × LL × LI × LI × LL × Unit
abbrev ZU : Type := (Int × LI × LI × Int × Int × Int × LI × LI × LL × LI × LI × LL × Unit)
def b14 (self : ZT -> Option ZU) : ZT -> Option ZU := fun v_ => match v_ with
| (b, n, m, m1, m2, m3, m4, m5, m6, m7) =>
 (ah.l6 m_ (n, m, m1, m2, m3, m4, m5, m6, b, (List.replicate 16 (0 : Int)), m7)).bind fun (n1, m10, m11, m12, m13, m14, m15, m16, m17, m18, m19, m20, m21, ()) =>
 bif inB 0 (m21.length : Int) then
 (ah.l7 m_ (0, n1, m10, (rd (List.replicate 16 (0 : Int) : List Int) m21 0), m11, m12, m13, m14, m15, m16, m17, m18, m19, m20, m21, ())).bind fun (n2, m22, m23, m24, z_, yU, Bg, Bh, E5, FI, GX, m32, Ez, ()) =>
 bif dR 1 (Ez.length : Int) (Ez.length : Int) then
 bif ay ((Ez.length : Int) - 1) then
 (ah.Nv m_ (1, ((Ez.length : Int) - 1), ((Ez.length : Int) - 1), 0, n2, Ez, m22, m23, m24, z_, yU, Bg, Bh, E5, FI, GX, m32, ())).bind fun (n3, Je, KL, Jf) =>
 some (n3, Je, Jf) else none else none else none
theorem k14 : KQ 225 (O m_) [229, 230, 233, 234, 235, 236, 237, 238, 241, 242, 243, 244, 247, 248, 251, 252, 253, 255, 263, 264] e14 x14 [s6 m_, s7 m_, s13 m_] (b14 m_) := fun _ _ => by kernel_rfl
def KO := loop m_ (b14 m_)
theorem q14 (v) : KO .lim v = b14 .lim (KO .lim) v := KS.q (k14 .lim) v
def s14 := so m_ (k14 m_)
def e15 : Spec := ⟨[fs 225 [.q 130140, .z 130140, .b 2, .b 1, .z 1016, .b 0, .q 255] [(2, .w), (8, .ptr 0 0), (10, .ptr 1 0), (11, .oy 2), (13, .w)]], [(0, o46), (1, o2), (2, .d [.ry]), (3, o3)], 4⟩
def x15 : List Spec := [⟨[fs 225 [.q 1016, .z 1016, .b 0, .q 255] [(2, .w), (8, .ptr 0 0), (10, .ptr 1 0), (11, .oy 2)]], [(0, o46), (1, o2), (2, .d [.ry]), (3, o3)], 4⟩]
abbrev A15 : Type := Int × Int × LI × Int × Int × Int × LI × LI × LL × LI × LI × LL × Unit
abbrev B15 : Type := (Int × LI × Int × Int × Int × LI × LI × LL × LI × LI × LL × Unit)
def b15 (m_ : aJ) (self : A15 -> Option B15) : A15 -> Option B15 := fun v_ => match v_ with
| (n, i, m, m1, m2, m3, m4, m5, m6, m7, m8, m9, ()) =>
 bif decide (i >= 0) then
  bif inB i 16 then
  bif inB i 16 then
  bif inB i 16 then
  bif !(decide ((rd 0 (m7.set i.toNat (IntKind.u8.wrap ((rd 0 m7 i) + 1))) i) = 0)) then
   some (n, m, m1, m2, m3, m4, m5, m6, (m7.set i.toNat (IntKind.u8.wrap ((rd 0 m7 i) + 1))), m8, m9, ())
  else
   self (n, (IntKind.i64.wrap (i - 1)), m, m1, m2, m3, m4, m5, m6, (m7.set i.toNat (IntKind.u8.wrap ((rd 0 m7 i) + 1))), m8, m9, ()) else none else none else none
 else
  some (n, m, m1, m2, m3, m4, m5, m6, m7, m8, m9, ())
theorem k15 : KQ 225 (O m_) [229, 230, 233, 234, 235, 236, 237, 238, 241, 242, 243, 244, 247, 248, 251, 252, 253, 255, 263, 264] e15 x15 [] (b15 m_) := fun _ _ => by kernel_rfl
def l15 := loop m_ (b15 m_)
theorem q15 (v) : l15 .lim v = b15 .lim (l15 .lim) v := KS.q (k15 .lim) v
def s15 := so m_ (k15 m_)
def e16 : Spec := ⟨[fs 225 [.q 1016, .z 1016, .b 0, .q 255] [(2, .w), (8, .ptr 0 0), (10, .ptr 1 0), (11, .oy 5006)]], [(0, .c [.s, .dat (.int .u32), .dat (.int .i32), .dat (.int .u32), .dat rV, .dat rV, .dat rW, .own 5007 sV]), (1, o2), (5006, .d [.ry]), (5007, o3)], 5008⟩
def x16 : List Spec := [⟨[fs 225 [.q 255] [(2, .w), (11, .oy 0)]], [(0, .d [.ry])], 1⟩]
abbrev A16 : Type := Int × LI × Int × Int × Int × LI × LI × LL × LI × LI × LL × Unit
abbrev B16 : Type := (Int × LI × Unit)
def b16 (self : A16 -> Option B16) : A16 -> Option B16 := fun v_ => match v_ with
| (n, m, m1, m2, m3, m4, m5, m6, m7, m8, m9, ()) =>
 bif ay (m8.length : Int) then
 bif decide ((m8.length : Int) < n) then
  (ah.KO m_ (m7, n, m, m1, m2, m3, m4, m5, m6, m7, m8, m9, ())).bind fun (n1, m10, m11, m12, m13, m14, m15, m16, m17, m18, m19, m20, ()) =>
  bif decide (m19.length + ((m10.drop 0).take 16).length < 70368744177664) then
  (ah.l15 m_ (n1, 15, m11, m12, m13, m14, m15, m16, m17, m18, (m19 ++ ((m10.drop 0).take 16)), m20, ())).bind fun (n2) =>
  self (n2) else none
 else
  some (n, m8, ()) else none
theorem k16 : KQ 225 (O m_) [229, 230, 233, 234, 235, 236, 237, 238, 241, 242, 243, 244, 247, 248, 251, 252, 253, 255, 263, 264] e16 x16 [s14 m_, s15 m_] (b16 m_) := fun _ _ => by kernel_rfl
def XD := loop m_ (b16 m_)
theorem q16 (v) : XD .lim v = b16 .lim (XD .lim) v := KS.q (k16 .lim) v
def s16 := so m_ (k16 m_)
def run : (List Int) × (List Int) × Int × Unit -> Option ((List Int) × Int × Unit) := fun v_ => match v_ with
| (key, first, n, ()) =>
 bif ((decide (n < 0)) || (decide (n > 65536))) then
  some (([] : List Int), 13, ())
 else
  bif ay (key.length : Int) then
  bif ((!(!(decide ((key.length : Int) = 16)))) || (ay (key.length : Int))) then
  bif ((!(decide ((key.length : Int) = 16))) && (!(decide ((key.length : Int) = 32)))) then
   some (([] : List Int), 13, ())
  else
   bif ay (first.length : Int) then
   bif !(decide ((first.length : Int) = 16)) then
    some (([] : List Int), 10, ())
   else
    bif (Nat.ble 1 16 && Nat.ble 16 first.length) then
    (ah.XD m_ (n, key, 0, 0, 0, (List.replicate 256 (0 : Int)), (List.replicate 256 (0 : Int)), (List.replicate 16 (List.replicate 256 (0 : Int) : List Int)), (first.take 16), ([] : List Int), ([] : List (List Int)), ())).bind fun (n1, m, ()) =>
    bif dR 0 n1 (m.length : Int) then
    some (((m.drop 0).take ((n1 - 0).toNat)), 0, ()) else none else none else none else none else none
theorem k : KT (O m_) [229, 230, 233, 234, 235, 236, 237, 238, 241, 242, 243, 244, 247, 248, 251, 252, 253, 255, 263, 264] ⟨225, [.one .str, .one .str, .one (.int .i64)], .je [.sh (.one .str), .sh (.one (.int .i64))], run m_⟩ [s16 m_] := fun _ => by kernel_rfl
def c := co (k m_)
end ah

namespace kT
def O : OO P := fK [fA.c m_, ah.c m_]
def run : (List Int) × (List Int) × (List Int) × Unit -> Option (List Int) := fun v_ => match v_ with
| (key, v, s, ()) =>
 bif inB 8 (v.length : Int) then
 bif inB 8 (v.length : Int) then
 bif inB 12 ((v.set 8 (fO .u8 (rd 0 v 8) 127)).length : Int) then
 bif inB 12 ((v.set 8 (fO .u8 (rd 0 v 8) 127)).length : Int) then
 bif ay (s.length : Int) then
 (ah.run m_ (key, ((v.set 8 (fO .u8 (rd 0 v 8) 127)).set 12 (fO .u8 (rd 0 (v.set 8 (fO .u8 (rd 0 v 8) 127)) 12) 127)), (s.length : Int), ())).bind fun (r, r1, ()) =>
 (fA.run m_ (s, r, ())).bind fun r2 =>
 some r2 else none else none else none else none else none
theorem k : KT (O m_) [] ⟨220, [.one .str, .one .str, .one .str], .one (.sh (.one .str)), run m_⟩ [] := fun _ => by kernel_rfl
def c := co (k m_)
end kT

namespace uV
def O : OO P := fK [aB.c m_, kS.c m_, kT.c m_, dL.c m_]
def run : (List Int) × (List (List Int)) × (List Int) × Unit -> Option ((List Int) × Int × Unit) := fun v_ => match v_ with
| (key, ad, plain, ()) =>
 (kS.run m_ (key, ad, ())).bind fun (r, r1, r2, ()) =>
 bif !(decide (r2 = 0)) then
  some (([] : List Int), r2, ())
 else
  bif ay (plain.length : Int) then
  bif decide ((plain.length : Int) > 65536) then
   some (([] : List Int), 12, ())
  else
   (aB.run m_ (ad, ())).bind fun r3 =>
   bif decide (r3.length + ([plain] : List (List Int)).length < 4398046511104) then
   (dL.run m_ (r, (r3 ++ ([plain] : List (List Int))), ())).bind fun r4 =>
   (kT.run m_ (r1, r4, plain, ())).bind fun r5 =>
   bif decide (r4.length + r5.length <= maxStr) then
   some ((r4 ++ r5), 0, ()) else none else none else none
theorem k : KT (O m_) [] ⟨218, [.one .str, .one (.lst .str), .one .str], .je [.sh (.one .str), .sh (.one (.int .i64))], run m_⟩ [] := fun _ => by kernel_rfl
def c := co (k m_)
end uV

namespace jT
def O : OO P := fK [uV.c m_]
def run : Unit × qK × Unit -> Option ((List Int) × Int × Unit) := fun v_ => match v_ with
| (a, k, ()) =>
 (uV.run m_ (k.1, k.2.1, k.2.2.1, ())).bind fun (r, r1, ()) =>
 some (r, r1, ())
theorem k : KT (O m_) [] ⟨216, [.ag .unit, .ag FH], .je [.sh (.one .str), .sh (.one (.int .i64))], run m_⟩ [] := fun _ => by kernel_rfl
def c := co (k m_)
end jT

namespace fU
def O : OO P := fK [aB.c m_, iQ.c m_, nD.c m_, eG.c m_, bG.c m_, jT.c m_]
def o0 : bC := .c [.dat zZ]
def o1 : bC := .c [.b, .dat zZ]
def f2 : bH := fs 206 [.v 60 [5,6], .q 61, .q 31] [(0, .ptr 0 0), (3, .ptr 1 0)]
def f3 : bH := fs 114 [.v 14 [5,6,7,8,9,10], .q 15] [(4, .ptr 2 0), (8, .ptr 3 0), (11, .Rz 237 (.ptr 0 0))]
def e0 : Spec := ⟨[fs 208 [.q 52, .z 52, .b 0, .q 7] [(0, .dat zZ), (1, .fn (.func 211) [0]), (7, .w), (8, .w)], fs 206 [.v 60 [5,6], .q 61, .q 31] [(0, .ptr 1 0), (3, .ptr 0 0)], fs 114 [.v 14 [5,6,7,8,9,10], .q 15] [(4, .ptr 2 0), (8, .ptr 3 0), (11, .Rz 237 (.ptr 1 0))]], [(0, .c [.s, .t, .s, .s]), (1, o0), (2, o1), (3, .c [.b, .lW])], 4⟩
def x0 : List Spec := [⟨[fs 208 [.q 13517, .b 1, .q 423, .z 52, .b 0, .q 7] [(4, .w)], f2, f3], [(0, o0), (1, .c [.s, .t, .s, .s]), (2, o1), (3, .c [.b, .lW])], 4⟩, ⟨[fs 208 [.q 7] [], f2, f3], [(0, o0), (1, .c [.s, .t, .s, .s]), (2, o1), (3, .c [.b, .lW])], 4⟩]
abbrev A0 : Type := (List (List Int × (List LI × (List Int × List Int)))) × Int × Int × LI × LL × LI × LI × (List (List Int × (List LI × (List Int × List Int)))) × Bool × (List (List Int × (List LI × (List Int × List Int)))) × Bool × Unit
abbrev B0 : Type := (Int × (List (List Int × (List LI × (List Int × List Int)))) × LI × LL × LI × LI × Bool × (List (List Int × (List LI × (List Int × List Int)))) × Bool × Unit) ⊕ ((List (List Int × (List LI × (List Int × List Int)))) × LI × LL × LI × LI × Bool × (List (List Int × (List LI × (List Int × List Int)))) × Bool × Unit)
def b0 (self : A0 -> Option B0) : A0 -> Option B0 := fun v_ => match v_ with
| (s, t, t1, m, m1, m2, m3, m4, m5) =>
 bif decide (t1 < t) then
  bif inB t1 (s.length : Int) then
  (nD.run m_ ((rd dK s t1), (m, (m1, (m2, m3))), ())).bind fun r =>
  bif r then
   some (.inl (t1, m4, m, m1, m2, m3, m5))
  else
   self (s, t, (IntKind.i64.wrap (t1 + 1)), m, m1, m2, m3, m4, m5) else none
 else
  some (.inr (m4, m, m1, m2, m3, m5))
theorem k0 : KQ 114 (O m_) [128, 143, 206, 208, 211] e0 x0 [] (b0 m_) := fun _ _ => by kernel_rfl
def l0 := loop m_ (b0 m_)
theorem q0 (v) : l0 .lim v = b0 .lim (l0 .lim) v := KS.q (k0 .lim) v
def s0 := so m_ (k0 m_)
def run : xC × (List Int) × (List (List Int)) × (List Int) × Unit -> Option (xC × (List Int) × Int × Unit) := fun v_ => match v_ with
| (v, key, ad, plain, ()) =>
 bif v.1 then
  (iQ.run m_ ((key, (ad, (plain, ([] : List Int)))), ())).bind fun r =>
  bif !(decide (r = 0)) then
   bif !(decide (r = 0)) then
    some (v, ([] : List Int), r, ())
   else
    some ((true, v.2), ([] : List Int), 0, ())
  else
   bif ay (plain.length : Int) then
   bif decide ((plain.length : Int) > 65536) then
    some (v, ([] : List Int), 12, ())
   else
    bif ay (v.2.length : Int) then
    (fU.l0 m_ (v.2, (v.2.length : Int), 0, key, ad, plain, ([] : List Int), v.2, v.1, v.2, false, ())).bind fun g_ => match g_ with
    | .inl (t, m, m1, m2, m3, m4, m5, m6, m7, ()) =>
     bif decide (t >= 0) then
      bif inB t (m.length : Int) then
      some ((true, m), (((rd dK m t).2).2).2, 0, ()) else none
     else
      bif ay (m.length : Int) then
      bif decide ((m.length : Int) >= 2048) then
       some ((m5, m6), ([] : List Int), 18, ())
      else
       (aB.run m_ (m2, ())).bind fun r1 =>
       bif ay (m.length : Int) then
       (eG.run m_ ((IntKind.i64.wrap ((m.length : Int) + 1)), m3, ())).bind fun r2 =>
       (bG.run m_ (m, ())).bind fun r3 =>
       bif decide (r3.length + ([(m1, (r1, (m3, r2)))] : List qK).length < 977343669134) then
       some ((true, (r3 ++ ([(m1, (r1, (m3, r2)))] : List qK))), r2, 0, ()) else none else none else none
    | .inr (m8, m9, m10, m11, m12, m13, m14, m15, ()) =>
     bif ay (m8.length : Int) then
     bif decide ((m8.length : Int) >= 2048) then
      some ((m13, m14), ([] : List Int), 18, ())
     else
      (aB.run m_ (m10, ())).bind fun r4 =>
      bif ay (m8.length : Int) then
      (eG.run m_ ((IntKind.i64.wrap ((m8.length : Int) + 1)), m11, ())).bind fun r5 =>
      (bG.run m_ (m8, ())).bind fun r6 =>
      bif decide (r6.length + ([(m9, (r4, (m11, r5)))] : List qK).length < 977343669134) then
      some ((true, (r6 ++ ([(m9, (r4, (m11, r5)))] : List qK))), r5, 0, ()) else none else none else none else none else none
 else
  (jT.run m_ ((), (key, (ad, (plain, ([] : List Int)))), ())).bind fun (r7, r8, ()) =>
  bif !(decide (r8 = 0)) then
   some (v, ([] : List Int), r8, ())
  else
   some ((false, ([] : List qK)), r7, 0, ())
theorem k : KT (O m_) [128, 143, 206, 208, 211] ⟨114, [.ag xB, .one .str, .one (.lst .str), .one .str], .je [.sh (.ag xB), .sh (.one .str), .sh (.one (.int .i64))], run m_⟩ [s0 m_] := fun _ => by kernel_rfl
def c := co (k m_)
end fU

namespace yV
def O (m_ : aJ) : OO P := fK []
def run (m_ : aJ) : Int × Unit -> Option (List Int) := fun v_ => match v_ with
| (n, ()) =>
 some ([(IntKind.u8.wrap (iI .i64 n 8)), (IntKind.u8.wrap n)] : List Int)
theorem k : KT (O m_) [] ⟨115, [.one (.int .i64)], .one (.sh (.one .str)), run m_⟩ [] := fun _ => by kernel_rfl
def c := co (k m_)
end yV

namespace kU
def O : OO P := fK [strings_Repeat.c m_]
def run : (List Int) × Unit -> Option (List Int) := fun v_ => match v_ with
| (s, ()) =>
 bif ay (s.length : Int) then
 (strings_Repeat.run m_ (([0] : List Int), (fO .i64 (IntKind.i64.wrap (0 - (s.length : Int))) 3), ())).bind fun r =>
 bif decide (s.length + r.length <= maxStr) then
 some (s ++ r) else none else none
theorem k : KT (O m_) [] ⟨116, [.one .str], .one (.sh (.one .str)), run m_⟩ [] := fun _ => by kernel_rfl
def c := co (k m_)
end kU

namespace uX
def O : OO P := fK [dW.c m_, fU.c m_, yV.c m_, kU.c m_]
def run : xC × (List Int) × (List Int) × (List Int) × (List (Int × List Int)) × Unit -> Option (xC × (Int × List Int) × Int × Unit) := fun v_ => match v_ with
| (v, key, aH, ahead, inner, ()) =>
 bif ay (aH.length : Int) then
 bif !(decide ((aH.length : Int) = 16)) then
  some (v, (0, ([] : List Int)), 10, ())
 else
  bif ay (ahead.length : Int) then
  bif decide ((ahead.length : Int) > 1280) then
   some (v, (0, ([] : List Int)), 12, ())
  else
   (dW.run m_ (inner, ())).bind fun (r, r1, ()) =>
   bif !(decide (r1 = 0)) then
    some (v, (0, ([] : List Int)), r1, ())
   else
    (fU.run m_ (v, key, ([ahead, aH] : List (List Int)), r, ())).bind fun (r2, r3, r4, ()) =>
    bif !(decide (r4 = 0)) then
     some (v, (0, ([] : List Int)), r4, ())
    else
     (yV.run m_ (16, ())).bind fun r5 =>
     bif ay (r3.length : Int) then
     (yV.run m_ ((r3.length : Int), ())).bind fun r6 =>
     bif decide (r5.length + r6.length <= maxStr) then
     bif decide ((r5 ++ r6).length + aH.length <= maxStr) then
     (kU.run m_ (r3, ())).bind fun r7 =>
     bif decide (((r5 ++ r6) ++ aH).length + r7.length <= maxStr) then
     some (r2, (1028, (((r5 ++ r6) ++ aH) ++ r7)), 0, ()) else none else none else none else none else none else none
theorem k : KT (O m_) [] ⟨75, [.ag xB, .one .str, .one .str, .one .str, .one o_], .je [.sh (.ag xB), .sh (.ag QG), .sh (.one (.int .i64))], run m_⟩ [] := fun _ => by kernel_rfl
def c := co (k m_)
end uX

namespace bI
def inl : FuncId -> Bool := fun f => [].any (Nat.beq f)
def O (m_ : aJ) : mJ := (KE [])
theorem Ok (m_ : aJ) {S0 w0} : gI P S0 w0 (O m_) := (yO (an))
def run (m_ : aJ) : (List (Int × List Int)) × Unit -> Option (List (Int × List Int)) := fun v_ => match v_ with
| (s, ()) =>
 bif decide (([] : List (Int × List Int)).length + s.length < 2932031007402) then
 some (([] : List (Int × List Int)) ++ s) else none
def c_ (m_ : aJ) : Callee := ⟨76, [.one o_], .one (.own QG), run m_⟩
theorem kn (m_ : aJ) : iJ P (O m_) inl [] [] (c_ m_).res.fin 20000 false (start 76 [.bD]) = (
 some ([] : List (Int × List Int))) := by kernel_rfl
theorem k (m_ : aJ) : ∀ xs : List (Int × List Int), iJ P (O m_) inl [] [] (c_ m_).res.fin 20000 false (start 76 [.lI QG xs]) = run m_ (xs, ()) := by intro xs; kernel_rfl
theorem ok (m_ : aJ) : (c_ m_).OK P := Callee.of_nil (fun S0 w0 => (Ok m_)) (by kernel_rfl) (by rfl) (fun S0 w0 cs0 => an) (fun r h => (kn m_).trans ((show (
 some ([] : List (Int × List Int))) = bI.run m_ ([], ()) from by kernel_rfl).trans h)) (fun x r h => (bI.k m_ x).trans h)
def c (m_ : aJ) : CO P := ⟨c_ m_, ok m_⟩
end bI

namespace qN
def O : OO P := fK [fQ.c m_, aK.c m_, uX.c m_, bI.c m_]
def run : xC × Y5 × (List Int) × (List Int) × (List (Int × List Int)) × Unit -> Option (xC × (List Int) × Int × Unit) := fun v_ => match v_ with
| (v, p, key, aH, inner, ()) =>
 (fQ.run m_ (p.2.2.2.2.2.2.2.2.2.2.2.2.2, 1028, ())).bind fun r =>
 bif ay (r.length : Int) then
 bif decide ((r.length : Int) > 0) then
  some (v, ([] : List Int), 23, ())
 else
  (aK.run m_ (p, ())).bind fun (r1, r2, ()) =>
  bif !(decide (r2 = 0)) then
   some (v, ([] : List Int), r2, ())
  else
   (uX.run m_ (v, key, aH, r1, inner, ())).bind fun (r3, r4, r5, ()) =>
   bif !(decide (r5 = 0)) then
    some (v, ([] : List Int), r5, ())
   else
    (bI.run m_ (p.2.2.2.2.2.2.2.2.2.2.2.2.2, ())).bind fun r6 =>
    bif decide (r6.length + ([r4] : List (Int × List Int)).length < 2932031007402) then
    (aK.run m_ ((p.1, (p.2.1, (p.2.2.1, (p.2.2.2.1, (p.2.2.2.2.1, (p.2.2.2.2.2.1, (p.2.2.2.2.2.2.1, (p.2.2.2.2.2.2.2.1, (p.2.2.2.2.2.2.2.2.1, (p.2.2.2.2.2.2.2.2.2.1, (p.2.2.2.2.2.2.2.2.2.2.1, (p.2.2.2.2.2.2.2.2.2.2.2.1, (p.2.2.2.2.2.2.2.2.2.2.2.2.1, (r6 ++ ([r4] : List (Int × List Int)))))))))))))))), ())).bind fun (r7, r8, ()) =>
    bif !(decide (r8 = 0)) then
     some (v, ([] : List Int), r8, ())
    else
     some (r3, r7, 0, ()) else none else none
theorem k : KT (O m_) [] ⟨34, [.ag xB, .ag Ns, .one .str, .one .str, .one o_], .je [.sh (.ag xB), .sh (.one .str), .sh (.one (.int .i64))], run m_⟩ [] := fun _ => by kernel_rfl
def c := co (k m_)
end qN

namespace kH
def xs : List (FuncId × XK) := [(117, .store), (118, .add .u64)]
theorem TP : ∀ x ∈ xs, x.2.OK P x.1 := ac ⟨_, Go.Proofs.Tryz.func117, by kernel_rfl, by kernel_rfl, by kernel_rfl, by kernel_rfl⟩ (ac ⟨_, Go.Proofs.Tryz.func118, by kernel_rfl, by kernel_rfl, by kernel_rfl, by kernel_rfl⟩ (an))
def O (m_ : aJ) : OO P := orx TP
def run (m_ : aJ) : Int × Unit -> Option (Int) := fun v_ => match v_ with
| (n, ()) =>
 some (IntKind.u64.wrap (n + 1))
theorem k : KT (O m_) [77, 78] ⟨36, [.one (.int .u64)], .one (.sh (.one (.int .u64))), run m_⟩ [] := fun _ => by kernel_rfl
def c := co (k m_)
end kH

namespace gZ
def O : OO P := fK [lG.c m_, strings_Repeat.c m_, qN.c m_, aB.c m_, kH.c m_]
def o0 : bC := .c [.b, .dat zZ]
def o1 : bC := .c [.w, .s, .s, .t, .s, .s, .u, .u, .u, .u, .u]
def o2 : bC := .c [.w, .s, .s, .lW, .s, .s, .u, .u, .u, .u, .u]
def e0 : Spec := ⟨[fs 31 [.q 1] [(0, .qE 0 2)], fs 9 [.v 12 [10,11], .q 13, .q 7] [(2, .s), (3, .s), (4, .u), (5, .ptr 1 0), (6, .ptr 2 0), (10, .ptr 3 0), (11, .ptr 4 0)]], [(0, .c [.clo 66 [.bool, (.int .i64)], .clo 66 [.bool, (.int .i64)]]), (1, o0), (2, o1), (3, .c [.b, .lW]), (4, o2)], 5⟩
def x0 : List Spec := [⟨[fs 9 [.q 13, .q 7] [(2, .s), (3, .s), (4, .u), (5, .ptr 0 0), (6, .ptr 1 0), (10, .ptr 2 0), (11, .ptr 3 0), (14, .w)]], [(0, o0), (1, o1), (2, .c [.b, .lW]), (3, o2)], 4⟩]
abbrev A0 : Type := LI × LI × Int × (Bool × Int × Unit) × (Bool × Int × Unit) × Bool × (List (List Int × (List LI × (List Int × List Int)))) × Int × LI × LI × LL × LI × LI × Int × Int × Int × Int × Int × Bool × Int × LI × LI × LI × LI × Int × Int × Int × Int × Int × Unit
abbrev B0 : Type := (LI × LI × Int × Int × Bool × (List (List Int × (List LI × (List Int × List Int)))) × Int × LI × LI × LL × LI × LI × Int × Int × Int × Int × Int × Bool × Int × LI × LI × LI × LI × Int × Int × Int × Int × Int × Unit)
def b0 (m_ : aJ) (self : A0 -> Option B0) : A0 -> Option B0 := fun v_ => match v_ with
| (unique, aH, t1, m, m1, m2) =>
 bif m.1 then
  bif m1.1 then
   some (unique, aH, t1, 0, m2)
  else
   bif !(decide (m1.2.1 = 0)) then
    some (unique, aH, t1, m1.2.1, m2)
   else
    some (unique, aH, t1, 0, m2)
 else
  bif !(decide (m.2.1 = 0)) then
   some (unique, aH, t1, m.2.1, m2)
  else
   bif m1.1 then
    some (unique, aH, t1, 0, m2)
   else
    bif !(decide (m1.2.1 = 0)) then
     some (unique, aH, t1, m1.2.1, m2)
    else
     some (unique, aH, t1, 0, m2)
theorem k0 : KQ 9 (O m_) [31, 66] e0 x0 [] (b0 m_) := fun _ _ => by kernel_rfl
def l0 := loop m_ (b0 m_)
theorem q0 (v) : l0 .lim v = b0 .lim (l0 .lim) v := KS.q (k0 .lim) v
def s0 := so m_ (k0 m_)
def o3 : bC := .c [.row QG]
def e1 : Spec := ⟨[fs 9 [.q 1012, .z 1012, .b 0, .q 127] [(2, .s), (3, .s), (4, .u), (5, .ptr 0 0), (6, .ptr 1 0), (10, .ptr 2 0), (11, .ptr 3 0), (15, .w), (17, .own 4 QG), (59, .w), (60, .w)]], [(0, o0), (1, o1), (2, .c [.b, .lW]), (3, o2), (4, o3)], 5⟩
def x1 : List Spec := [⟨[fs 9 [.q 127] [(2, .s), (3, .s), (4, .u), (5, .ptr 0 0), (6, .ptr 1 0), (10, .ptr 2 0), (11, .ptr 3 0), (17, .own 4 QG)]], [(0, o0), (1, o1), (2, .c [.b, .lW]), (3, o2), (4, o3)], 5⟩]
abbrev A1 : Type := LI × LI × Int × Int × Int × Int × Bool × (List (List Int × (List LI × (List Int × List Int)))) × Int × LI × LI × LL × LI × LI × Int × Int × Int × Int × Int × Bool × Int × LI × LI × LI × LI × Int × Int × Int × Int × Int × (List (Int × List Int)) × Unit
abbrev B1 : Type := (LI × LI × Int × Bool × (List (List Int × (List LI × (List Int × List Int)))) × Int × LI × LI × LL × LI × LI × Int × Int × Int × Int × Int × Bool × Int × LI × LI × LI × LI × Int × Int × Int × Int × Int × (List (Int × List Int)) × Unit)
def b1 (self : A1 -> Option B1) : A1 -> Option B1 := fun v_ => match v_ with
| (unique, aH, t1, size, t, t2, m, m1, m2, m3, m4, m5, m6, m7, m8, m9, m10, m11, m12, m13, m14, m15, m16, m17, m18, m19, m20, m21, m22, m23, m24, ()) =>
 bif decide (t2 < t) then
  (strings_Repeat.run m_ (([0] : List Int), (IntKind.i64.wrap (size - 4)), ())).bind fun r =>
  bif decide (m24.length + ([(772, r)] : List (Int × List Int)).length < 2932031007402) then
  self (unique, aH, t1, size, t, (IntKind.i64.wrap (t2 + 1)), m, m1, m2, m3, m4, m5, m6, m7, m8, m9, m10, m11, m12, m13, m14, m15, m16, m17, m18, m19, m20, m21, m22, m23, (m24 ++ ([(772, r)] : List (Int × List Int))), ()) else none
 else
  some (unique, aH, t1, m, m1, m2, m3, m4, m5, m6, m7, m8, m9, m10, m11, m12, m13, m14, m15, m16, m17, m18, m19, m20, m21, m22, m23, m24, ())
theorem k1 : KQ 9 (O m_) [31, 66] e1 x1 [] (b1 m_) := fun _ _ => by kernel_rfl
def l1 := loop m_ (b1 m_)
theorem q1 (v) : l1 .lim v = b1 .lim (l1 .lim) v := KS.q (k1 .lim) v
def s1 := so m_ (k1 m_)
def run : xC × RD × (List Int) × (List Int) × Int × Unit -> Option (xC × RD × (List Int) × Int × Unit) := fun v_ => match v_ with
| (v, x, unique, aH, t1, ()) =>
 bif ay (unique.length : Int) then
 (lG.run m_ (10, decide ((unique.length : Int) = 32), ())).bind fun (e, b, ()) =>
 bif ay (x.2.1.length : Int) then
 (lG.run m_ (19, decide ((x.2.1.length : Int) > 0), ())).bind fun (e1, b1, ()) =>
 (gZ.l0 m_ (unique, aH, t1, (e, b, ()), (e1, b1, ()), v.1, v.2, x.1.1, x.1.2.1, x.1.2.2, x.2.1, x.2.2.1, x.2.2.2.1, x.2.2.2.2.1, x.2.2.2.2.2.1, x.2.2.2.2.2.2.1, x.2.2.2.2.2.2.2.1, x.2.2.2.2.2.2.2.2, false, 0, ([] : List Int), ([] : List Int), ([] : List Int), ([] : List Int), 0, 0, 0, 0, 0, ())).bind fun (Pj, Yx, t11, e2, m, m1, m2, m3, m4, m5, m6, m7, m8, m9, m10, m11, m12, m13, m14, m15, m16, m17, m18, m19, m20, m21, m22, m23, ()) =>
 bif !(decide (e2 = 0)) then
  some ((m, m1), ((m2, (m3, m4)), (m5, (m6, (m7, (m8, (m9, (m10, (m11, m12)))))))), ([] : List Int), e2, ())
 else
  bif inB 0 (m5.length : Int) then
  bif ay ((rd ([] : List Int) m5 0).length : Int) then
  bif ay (m5.length : Int) then
  bif !(decide ((IntKind.i64.wrap (4 + ((rd ([] : List Int) m5 0).length : Int))) = 0)) then
  bif inB 0 (m5.length : Int) then
  (gZ.l1 m_ (Pj, Yx, t11, (IntKind.i64.wrap (4 + ((rd ([] : List Int) m5 0).length : Int))), (mn (IntKind.i64.wrap (8 - (m5.length : Int))) (IntKind.i64.wrap ((IntKind.i64.wrap ((1156 : Int).tdiv (IntKind.i64.wrap (4 + ((rd ([] : List Int) m5 0).length : Int))))) - 1))), 0, m, m1, m2, m3, m4, m5, m6, m7, m8, m9, m10, m11, m12, m13, m14, m15, m16, m17, m18, m19, m20, m21, m22, m23, ([(260, Pj), (516, (rd ([] : List Int) m5 0))] : List (Int × List Int)), ())).bind fun (VY, Yy, t12, m24, z_, yU, Bg, Bh, E5, FI, GX, m32, Ez, Je, KL, Jf, O9, TQ, QJ, QK, TR, Nu, O_, Pg, Jr, Js, KN, LH, ()) =>
  (qN.run m_ ((m24, z_), (0, (4, (3, (0, (0, (0, (0, (0, (0, (0, (0, (0, (t12, LH))))))))))))), Bg, Yy, ([] : List (Int × List Int)), ())).bind fun (r2, r3, r4, ()) =>
  bif !(decide (r4 = 0)) then
   some ((m24, z_), ((yU, (Bg, Bh)), (E5, (FI, (GX, (m32, (Ez, (Je, (KL, Jf)))))))), ([] : List Int), r4, ())
  else
   bif dR 1 (E5.length : Int) (E5.length : Int) then
   (aB.run m_ ((cut E5 1 (E5.length : Int)), ())).bind fun r5 =>
   (kH.run m_ (Ez, ())).bind fun r6 =>
   some (r2, ((yU, (Bg, Bh)), (r5, (VY, (r3, (t12, (r6, (Je, (KL, Jf)))))))), r3, 0, ()) else none else none else none else none else none else none else none else none
theorem k : KT (O m_) [31, 66] ⟨9, [.ag xB, .ag BN, .one .str, .one .str, .one (.int .u64)], .je [.sh (.ag xB), .sh (.ag BN), .sh (.one .str), .sh (.one (.int .i64))], run m_⟩ [s0 m_, s1 m_] := fun _ => by kernel_rfl
def c := co (k m_)
end gZ

namespace aP
def O : OO P := fK [gZ.c m_, jv.c m_]
def e0 : Spec := ⟨[fs 8 [.q 116, .z 116, .b 0, .q 15] [(1, .s), (12, .w)]], [], 0⟩
def x0 : List Spec := [⟨[fs 8 [.q 15] [(1, .s)]], [], 0⟩]
abbrev A0 : Type := LI × Int × Unit
abbrev B0 : Type := (LI × Unit)
def b0 (m_ : aJ) (self : A0 -> Option B0) : A0 -> Option B0 := fun v_ => match v_ with
| (key, t, ()) =>
 bif decide (t < 32) then
  bif decide (key.length + ([107] : List Int).length <= maxStr) then
  self ((key ++ ([107] : List Int)), (IntKind.i64.wrap (t + 1)), ()) else none
 else
  some (key, ())
theorem k0 : KQ 8 (O m_) [] e0 x0 [] (b0 m_) := fun _ _ => by kernel_rfl
def l0 := loop m_ (b0 m_)
theorem q0 (v) : l0 .lim v = b0 .lim (l0 .lim) v := KS.q (k0 .lim) v
def s0 := so m_ (k0 m_)
def run : Unit -> Option (Bool) := fun v_ => match v_ with
| (()) =>
 (aP.l0 m_ (([] : List Int), 0, ())).bind fun (key, ()) =>
 bif Nat.blt 104 70368744177664 then
 (jv.run m_ ((15, (key, key)), ([(List.replicate 104 0)] : List (List Int)), ())).bind fun (r, r1, ()) =>
 bif dR 0 16 (key.length : Int) then
 (gZ.run m_ ((false, ([] : List qK)), r, key, (cut key 0 16), 5, ())).bind fun (r2, r3, r4, r5, ()) =>
 bif dR 0 16 (key.length : Int) then
 (gZ.run m_ (r2, r3, key, (cut key 0 16), 6, ())).bind fun (r6, r7, r8, r9, ()) =>
 bif ((!((decide (r1 = 0)) && (decide (r5 = 0)))) || (ay (r4.length : Int))) then
 bif ((!(((decide (r1 = 0)) && (decide (r5 = 0))) && (decide ((r4.length : Int) = 988)))) || (ay (r3.2.1.length : Int))) then
 some (((((decide (r1 = 0)) && (decide (r5 = 0))) && (decide ((r4.length : Int) = 988))) && (decide ((r3.2.1.length : Int) = 0))) && (decide (r9 = 19))) else none else none else none else none else none
theorem k : KT (O m_) [] ⟨8, [], .one (.sh (.one .bool)), run m_⟩ [s0 m_] := fun _ => by kernel_rfl
def c := co (k m_)
end aP

namespace bV
def O (m_ : aJ) : OO P := fK []
def e0 : Spec := ⟨[fs 124 [.q 116, .z 116, .b 0, .q 15] [(0, .s), (3, .u), (6, .w), (7, .w)]], [], 0⟩
def x0 : List Spec := [⟨[fs 124 [.q 15] [(3, .u)]], [], 0⟩]
abbrev A0 : Type := LI × Int × Int × Int × Unit
abbrev B0 : Type := (Int × Unit)
def b0 (m_ : aJ) (self : A0 -> Option B0) : A0 -> Option B0 := fun v_ => match v_ with
| (s, n, t, t1, ()) =>
 bif decide (t1 < t) then
  bif inB t1 (s.length : Int) then
  self (s, (nM .u64 (eP .u64 n 8) (IntKind.u64.wrap (rd 0 s t1))), t, (IntKind.i64.wrap (t1 + 1)), ()) else none
 else
  some (n, ())
theorem k0 : KQ 124 (O m_) [] e0 x0 [] (b0 m_) := fun _ _ => by kernel_rfl
def l0 := loop m_ (b0 m_)
theorem q0 (v) : l0 .lim v = b0 .lim (l0 .lim) v := KS.q (k0 .lim) v
def s0 := so m_ (k0 m_)
def run : (List Int) × Unit -> Option (Int) := fun v_ => match v_ with
| (s, ()) =>
 bif ay (s.length : Int) then
 (bV.l0 m_ (s, 0, (s.length : Int), 0, ())).bind fun (n, ()) =>
 some n else none
theorem k : KT (O m_) [] ⟨124, [.one .str], .one (.sh (.one (.int .u64))), run m_⟩ [s0 m_] := fun _ => by kernel_rfl
def c := co (k m_)
end bV

namespace dh
def O : OO P := fK [bV.c m_]
def o0 : bC := .c [.row QG]
def f1 : bH := ⟨89, [.inRange 3, .b 0, .q 15], [(2, .ptr 0 0), (3, .ptr 1 0), (4, .ptr 2 0)], none, [.mark 4], false⟩
def o2 : bC := .c [.own 5 QG]
def o3 : bC := .loop .done (some .ret) 89 [(2, .ptr 0 0), (3, .ptr 1 0), (4, .ptr 2 0)] [9, 10] (vY 58) 4
def e0 : Spec := ⟨[fs 144 [.q 4, .z 4, .b 0] [(0, .fn (.yield 0) []), (1, .ptr 1 0)], ⟨89, [.inRange 0, .b 0, .q 15], [(2, .ptr 2 0), (3, .ptr 3 0), (4, .ptr 4 0)], none, [.mark 5], false⟩], [(0, .loop .ready none 89 [(2, .ptr 2 0), (3, .ptr 3 0), (4, .ptr 4 0)] [9, 10] (vY 58) 5), (1, .c [.s]), (2, .c [.lW]), (3, .c [.w]), (4, .c [.own 5008 QG]), (5, .deferred false), (5008, o0)], 5009⟩
def x0 : List Spec := [⟨[fs 144 [.q 1205, .q 151, .b 1, .z 4, .b 0] [], f1], [(0, .c [.lW]), (1, .c [.w]), (2, o2), (3, o3), (4, .deferred false), (5, o0)], 6⟩, ⟨[fs 144 [.q 2430, .b 1, .z 4, .b 0] [], f1], [(0, .c [.lW]), (1, .c [.w]), (2, o2), (3, o3), (4, .deferred false), (5, o0)], 6⟩, ⟨[fs 144 [] [], f1], [(0, .c [.lW]), (1, .c [.w]), (2, o2), (3, .loop .ready none 89 [(2, .ptr 0 0), (3, .ptr 1 0), (4, .ptr 2 0)] [9, 10] (vY 58) 4), (4, .deferred false), (5, o0)], 6⟩]
abbrev A0 : Type := LI × Int × (List (Int × List Int)) × Unit
abbrev B0 : Type := (Int × (List (Int × List Int)) × Unit) ⊕ (Int × (List (Int × List Int)) × Unit) ⊕ (Int × (List (Int × List Int)) × Unit)
def b0 (self : A0 -> Option B0) : A0 -> Option B0 := fun v_ => match v_ with
| (m, m1, m2, ()) =>
 bif !(decide (m = ([] : List Int))) then
  bif ay (m.length : Int) then
  bif decide ((m.length : Int) >= 4) then
   bif dR 2 4 (m.length : Int) then
   (bV.run m_ ((cut m 2 4), ())).bind fun r =>
   bif ((!(!((decide ((IntKind.i64.wrap r) < 16)) || (!(decide ((fO .i64 (IntKind.i64.wrap r) 3) = 0)))))) || (ay (m.length : Int))) then
   bif (((decide ((IntKind.i64.wrap r) < 16)) || (!(decide ((fO .i64 (IntKind.i64.wrap r) 3) = 0)))) || (decide ((IntKind.i64.wrap r) > (m.length : Int)))) then
    some (.inl (10, m2, ()))
   else
    bif dR 0 2 (m.length : Int) then
    (bV.run m_ ((cut m 0 2), ())).bind fun r1 =>
    bif dR 4 (IntKind.i64.wrap r) (m.length : Int) then
    bif dR (IntKind.i64.wrap r) (m.length : Int) (m.length : Int) then
    bif ay (m2.length : Int) then
    bif decide ((m2.length : Int) = 16) then
     some (.inr (.inl (18, m2, ())))
    else
     bif decide (m2.length + ([((IntKind.i64.wrap r1), (cut m 4 (IntKind.i64.wrap r)))] : List (Int × List Int)).length < 2932031007402) then
     self ((cut m (IntKind.i64.wrap r) (m.length : Int)), m1, (m2 ++ ([((IntKind.i64.wrap r1), (cut m 4 (IntKind.i64.wrap r)))] : List (Int × List Int))), ()) else none else none else none else none else none else none else none
  else
   some (.inl (10, m2, ())) else none
 else
  some (.inr (.inr (m1, m2, ())))
theorem k0 : KQ 89 (O m_) [129] e0 x0 [] (b0 m_) := fun _ _ => by kernel_rfl
def l0 := loop m_ (b0 m_)
theorem q0 (v) : l0 .lim v = b0 .lim (l0 .lim) v := KS.q (k0 .lim) v
def s0 := so m_ (k0 m_)
def run : (List Int) × Unit -> Option ((List (Int × List Int)) × Int × Unit) := fun v_ => match v_ with
| (s, ()) =>
 (dh.l0 m_ (s, 0, ([] : List (Int × List Int)), ())).bind fun g_ => match g_ with
 | .inl (m, m1, ()) =>
  some (([] : List (Int × List Int)), m, ())
 | .inr (.inl (m2, m3, ())) =>
  some (([] : List (Int × List Int)), m2, ())
 | .inr (.inr (m4, m5, ())) =>
  some (m5, 0, ())
theorem k : KT (O m_) [129] ⟨89, [.one .str], .je [.own QG, .sh (.one (.int .i64))], run m_⟩ [s0 m_] := fun _ => by kernel_rfl
def c := co (k m_)
end dh

namespace lZ
def O : OO P := fK [dh.c m_, bV.c m_]
def run : (List Int) × Unit -> Option (Y5 × Int × Unit) := fun v_ => match v_ with
| (s, ()) =>
 bif ay (s.length : Int) then
 bif decide ((s.length : Int) < 48) then
  some ((0, (0, (0, (0, (0, (0, (0, (0, (0, (0, (0, (0, (0, ([] : List (Int × List Int))))))))))))))), 11, ())
 else
  bif ay (s.length : Int) then
  bif decide ((s.length : Int) > 1280) then
   some ((0, (0, (0, (0, (0, (0, (0, (0, (0, (0, (0, (0, (0, ([] : List (Int × List Int))))))))))))))), 12, ())
  else
   bif dR 48 (s.length : Int) (s.length : Int) then
   (dh.run m_ ((cut s 48 (s.length : Int)), ())).bind fun (r, r1, ()) =>
   bif !(decide (r1 = 0)) then
    some ((0, (0, (0, (0, (0, (0, (0, (0, (0, (0, (0, (0, (0, ([] : List (Int × List Int))))))))))))))), r1, ())
   else
    bif inB 0 (s.length : Int) then
    bif inB 0 (s.length : Int) then
    bif inB 0 (s.length : Int) then
    bif inB 1 (s.length : Int) then
    bif inB 2 (s.length : Int) then
    bif inB 3 (s.length : Int) then
    bif dR 4 8 (s.length : Int) then
    (bV.run m_ ((cut s 4 8), ())).bind fun r2 =>
    bif dR 8 12 (s.length : Int) then
    (bV.run m_ ((cut s 8 12), ())).bind fun r3 =>
    bif dR 12 16 (s.length : Int) then
    (bV.run m_ ((cut s 12 16), ())).bind fun r4 =>
    bif dR 16 24 (s.length : Int) then
    (bV.run m_ ((cut s 16 24), ())).bind fun r5 =>
    bif dR 24 32 (s.length : Int) then
    (bV.run m_ ((cut s 24 32), ())).bind fun r6 =>
    bif dR 32 40 (s.length : Int) then
    (bV.run m_ ((cut s 32 40), ())).bind fun r7 =>
    bif dR 40 48 (s.length : Int) then
    (bV.run m_ ((cut s 40 48), ())).bind fun r8 =>
    some (((IntKind.i64.wrap (iI .u8 (rd 0 s 0) 6)), ((IntKind.i64.wrap (fO .u8 (iI .u8 (rd 0 s 0) 3) 7)), ((IntKind.i64.wrap (fO .u8 (rd 0 s 0) 7)), ((IntKind.i64.wrap (rd 0 s 1)), ((IntKind.i64.wrap (IntKind.i8.wrap (rd 0 s 2))), ((IntKind.i64.wrap (IntKind.i8.wrap (rd 0 s 3))), ((IntKind.u32.wrap r2), ((IntKind.u32.wrap r3), ((IntKind.u32.wrap r4), (r5, (r6, (r7, (r8, r))))))))))))), 0, ()) else none else none else none else none else none else none else none else none else none else none else none else none else none else none else none else none
theorem k : KT (O m_) [] ⟨82, [.one .str], .je [.sh (.ag Ns), .sh (.one (.int .i64))], run m_⟩ [] := fun _ => by kernel_rfl
def c := co (k m_)
end lZ

namespace kJ
def O (m_ : aJ) : OO P := fK []
def run (m_ : aJ) : (Int × List Int) × Unit -> Option (Bool) := fun v_ => match v_ with
| (f, ()) =>
 some (decide (f.1 = 1028))
theorem k : KT (O m_) [] ⟨84, [.ag QG], .one (.sh (.one .bool)), run m_⟩ [] := fun _ => by kernel_rfl
def c := co (k m_)
end kJ

namespace qh
def O : OO P := fK [fQ.c m_]
def run : (List (Int × List Int)) × Int × Unit -> Option ((List Int) × Int × Unit) := fun v_ => match v_ with
| (l, kind, ()) =>
 (fQ.run m_ (l, kind, ())).bind fun r =>
 bif ay (r.length : Int) then
 bif decide ((r.length : Int) = 0) then
  some (([] : List Int), 19, ())
 else
  bif decide ((r.length : Int) = 1) then
   bif inB 0 (r.length : Int) then
   bif inB (rd 0 r 0) (l.length : Int) then
   some ((rd ((0 : Int), ([] : List Int)) l (rd 0 r 0)).2, 0, ()) else none else none
  else
   some (([] : List Int), 24, ()) else none
theorem k : KT (O m_) [] ⟨85, [.one o_, .one (.int .i64)], .je [.sh (.one .str), .sh (.one (.int .i64))], run m_⟩ [] := fun _ => by kernel_rfl
def c := co (k m_)
end qh

namespace rY
def O (m_ : aJ) : OO P := fK []
def run (m_ : aJ) : (Int × List Int) × Unit -> Option (Bool) := fun v_ => match v_ with
| (f, ()) =>
 some (decide (f.1 = 1028))
theorem k : KT (O m_) [] ⟨86, [.ag QG], .one (.sh (.one .bool)), run m_⟩ [] := fun _ => by kernel_rfl
def c := co (k m_)
end rY

namespace nY
def O : OO P := fK [kU.c m_]
def run : (List Int) × Unit -> Option ((List Int) × (List Int) × Int × Unit) := fun v_ => match v_ with
| (body, ()) =>
 bif ay (body.length : Int) then
 bif decide ((body.length : Int) < 2) then
  some (([] : List Int), ([] : List Int), 11, ())
 else
  bif dR 0 2 (body.length : Int) then
  bif dR 2 (body.length : Int) (body.length : Int) then
  bif inB 0 ((cut body 0 2).length : Int) then
  bif inB 1 ((cut body 0 2).length : Int) then
  bif ay ((cut body 2 (body.length : Int)).length : Int) then
  bif decide (((cut body 2 (body.length : Int)).length : Int) < 2) then
   some (([] : List Int), ([] : List Int), 11, ())
  else
   bif dR 0 2 ((cut body 2 (body.length : Int)).length : Int) then
   bif dR 2 ((cut body 2 (body.length : Int)).length : Int) ((cut body 2 (body.length : Int)).length : Int) then
   bif inB 0 ((cut (cut body 2 (body.length : Int)) 0 2).length : Int) then
   bif inB 1 ((cut (cut body 2 (body.length : Int)) 0 2).length : Int) then
   bif !(decide ((nM .i64 (eP .i64 (IntKind.i64.wrap (rd 0 (cut body 0 2) 0)) 8) (IntKind.i64.wrap (rd 0 (cut body 0 2) 1))) = 16)) then
    some (([] : List Int), ([] : List Int), 10, ())
   else
    bif ay ((cut (cut body 2 (body.length : Int)) 2 ((cut body 2 (body.length : Int)).length : Int)).length : Int) then
    bif decide (((cut (cut body 2 (body.length : Int)) 2 ((cut body 2 (body.length : Int)).length : Int)).length : Int) < (nM .i64 (eP .i64 (IntKind.i64.wrap (rd 0 (cut body 0 2) 0)) 8) (IntKind.i64.wrap (rd 0 (cut body 0 2) 1)))) then
     some (([] : List Int), ([] : List Int), 10, ())
    else
     bif dR 0 (nM .i64 (eP .i64 (IntKind.i64.wrap (rd 0 (cut body 0 2) 0)) 8) (IntKind.i64.wrap (rd 0 (cut body 0 2) 1))) ((cut (cut body 2 (body.length : Int)) 2 ((cut body 2 (body.length : Int)).length : Int)).length : Int) then
     bif dR (nM .i64 (eP .i64 (IntKind.i64.wrap (rd 0 (cut body 0 2) 0)) 8) (IntKind.i64.wrap (rd 0 (cut body 0 2) 1))) ((cut (cut body 2 (body.length : Int)) 2 ((cut body 2 (body.length : Int)).length : Int)).length : Int) ((cut (cut body 2 (body.length : Int)) 2 ((cut body 2 (body.length : Int)).length : Int)).length : Int) then
     bif ay ((cut (cut (cut body 2 (body.length : Int)) 2 ((cut body 2 (body.length : Int)).length : Int)) (nM .i64 (eP .i64 (IntKind.i64.wrap (rd 0 (cut body 0 2) 0)) 8) (IntKind.i64.wrap (rd 0 (cut body 0 2) 1))) ((cut (cut body 2 (body.length : Int)) 2 ((cut body 2 (body.length : Int)).length : Int)).length : Int)).length : Int) then
     bif decide (((cut (cut (cut body 2 (body.length : Int)) 2 ((cut body 2 (body.length : Int)).length : Int)) (nM .i64 (eP .i64 (IntKind.i64.wrap (rd 0 (cut body 0 2) 0)) 8) (IntKind.i64.wrap (rd 0 (cut body 0 2) 1))) ((cut (cut body 2 (body.length : Int)) 2 ((cut body 2 (body.length : Int)).length : Int)).length : Int)).length : Int) < (nM .i64 (eP .i64 (IntKind.i64.wrap (rd 0 (cut (cut body 2 (body.length : Int)) 0 2) 0)) 8) (IntKind.i64.wrap (rd 0 (cut (cut body 2 (body.length : Int)) 0 2) 1)))) then
      some (([] : List Int), ([] : List Int), 10, ())
     else
      bif dR 0 (nM .i64 (eP .i64 (IntKind.i64.wrap (rd 0 (cut (cut body 2 (body.length : Int)) 0 2) 0)) 8) (IntKind.i64.wrap (rd 0 (cut (cut body 2 (body.length : Int)) 0 2) 1))) ((cut (cut (cut body 2 (body.length : Int)) 2 ((cut body 2 (body.length : Int)).length : Int)) (nM .i64 (eP .i64 (IntKind.i64.wrap (rd 0 (cut body 0 2) 0)) 8) (IntKind.i64.wrap (rd 0 (cut body 0 2) 1))) ((cut (cut body 2 (body.length : Int)) 2 ((cut body 2 (body.length : Int)).length : Int)).length : Int)).length : Int) then
      bif dR (nM .i64 (eP .i64 (IntKind.i64.wrap (rd 0 (cut (cut body 2 (body.length : Int)) 0 2) 0)) 8) (IntKind.i64.wrap (rd 0 (cut (cut body 2 (body.length : Int)) 0 2) 1))) ((cut (cut (cut body 2 (body.length : Int)) 2 ((cut body 2 (body.length : Int)).length : Int)) (nM .i64 (eP .i64 (IntKind.i64.wrap (rd 0 (cut body 0 2) 0)) 8) (IntKind.i64.wrap (rd 0 (cut body 0 2) 1))) ((cut (cut body 2 (body.length : Int)) 2 ((cut body 2 (body.length : Int)).length : Int)).length : Int)).length : Int) ((cut (cut (cut body 2 (body.length : Int)) 2 ((cut body 2 (body.length : Int)).length : Int)) (nM .i64 (eP .i64 (IntKind.i64.wrap (rd 0 (cut body 0 2) 0)) 8) (IntKind.i64.wrap (rd 0 (cut body 0 2) 1))) ((cut (cut body 2 (body.length : Int)) 2 ((cut body 2 (body.length : Int)).length : Int)).length : Int)).length : Int) then
      bif decide ((cut (cut (cut (cut body 2 (body.length : Int)) 2 ((cut body 2 (body.length : Int)).length : Int)) (nM .i64 (eP .i64 (IntKind.i64.wrap (rd 0 (cut body 0 2) 0)) 8) (IntKind.i64.wrap (rd 0 (cut body 0 2) 1))) ((cut (cut body 2 (body.length : Int)) 2 ((cut body 2 (body.length : Int)).length : Int)).length : Int)) 0 (nM .i64 (eP .i64 (IntKind.i64.wrap (rd 0 (cut (cut body 2 (body.length : Int)) 0 2) 0)) 8) (IntKind.i64.wrap (rd 0 (cut (cut body 2 (body.length : Int)) 0 2) 1)))).length + (cut (cut (cut (cut body 2 (body.length : Int)) 2 ((cut body 2 (body.length : Int)).length : Int)) (nM .i64 (eP .i64 (IntKind.i64.wrap (rd 0 (cut body 0 2) 0)) 8) (IntKind.i64.wrap (rd 0 (cut body 0 2) 1))) ((cut (cut body 2 (body.length : Int)) 2 ((cut body 2 (body.length : Int)).length : Int)).length : Int)) (nM .i64 (eP .i64 (IntKind.i64.wrap (rd 0 (cut (cut body 2 (body.length : Int)) 0 2) 0)) 8) (IntKind.i64.wrap (rd 0 (cut (cut body 2 (body.length : Int)) 0 2) 1))) ((cut (cut (cut body 2 (body.length : Int)) 2 ((cut body 2 (body.length : Int)).length : Int)) (nM .i64 (eP .i64 (IntKind.i64.wrap (rd 0 (cut body 0 2) 0)) 8) (IntKind.i64.wrap (rd 0 (cut body 0 2) 1))) ((cut (cut body 2 (body.length : Int)) 2 ((cut body 2 (body.length : Int)).length : Int)).length : Int)).length : Int)).length <= maxStr) then
      (kU.run m_ ((cut (cut (cut (cut body 2 (body.length : Int)) 2 ((cut body 2 (body.length : Int)).length : Int)) (nM .i64 (eP .i64 (IntKind.i64.wrap (rd 0 (cut body 0 2) 0)) 8) (IntKind.i64.wrap (rd 0 (cut body 0 2) 1))) ((cut (cut body 2 (body.length : Int)) 2 ((cut body 2 (body.length : Int)).length : Int)).length : Int)) 0 (nM .i64 (eP .i64 (IntKind.i64.wrap (rd 0 (cut (cut body 2 (body.length : Int)) 0 2) 0)) 8) (IntKind.i64.wrap (rd 0 (cut (cut body 2 (body.length : Int)) 0 2) 1)))), ())).bind fun r =>
      bif !(decide (((cut (cut (cut (cut body 2 (body.length : Int)) 2 ((cut body 2 (body.length : Int)).length : Int)) (nM .i64 (eP .i64 (IntKind.i64.wrap (rd 0 (cut body 0 2) 0)) 8) (IntKind.i64.wrap (rd 0 (cut body 0 2) 1))) ((cut (cut body 2 (body.length : Int)) 2 ((cut body 2 (body.length : Int)).length : Int)).length : Int)) 0 (nM .i64 (eP .i64 (IntKind.i64.wrap (rd 0 (cut (cut body 2 (body.length : Int)) 0 2) 0)) 8) (IntKind.i64.wrap (rd 0 (cut (cut body 2 (body.length : Int)) 0 2) 1)))) ++ (cut (cut (cut (cut body 2 (body.length : Int)) 2 ((cut body 2 (body.length : Int)).length : Int)) (nM .i64 (eP .i64 (IntKind.i64.wrap (rd 0 (cut body 0 2) 0)) 8) (IntKind.i64.wrap (rd 0 (cut body 0 2) 1))) ((cut (cut body 2 (body.length : Int)) 2 ((cut body 2 (body.length : Int)).length : Int)).length : Int)) (nM .i64 (eP .i64 (IntKind.i64.wrap (rd 0 (cut (cut body 2 (body.length : Int)) 0 2) 0)) 8) (IntKind.i64.wrap (rd 0 (cut (cut body 2 (body.length : Int)) 0 2) 1))) ((cut (cut (cut body 2 (body.length : Int)) 2 ((cut body 2 (body.length : Int)).length : Int)) (nM .i64 (eP .i64 (IntKind.i64.wrap (rd 0 (cut body 0 2) 0)) 8) (IntKind.i64.wrap (rd 0 (cut body 0 2) 1))) ((cut (cut body 2 (body.length : Int)) 2 ((cut body 2 (body.length : Int)).length : Int)).length : Int)).length : Int))) = r)) then
       some (([] : List Int), ([] : List Int), 10, ())
      else
       some ((cut (cut (cut body 2 (body.length : Int)) 2 ((cut body 2 (body.length : Int)).length : Int)) 0 (nM .i64 (eP .i64 (IntKind.i64.wrap (rd 0 (cut body 0 2) 0)) 8) (IntKind.i64.wrap (rd 0 (cut body 0 2) 1)))), (cut (cut (cut (cut body 2 (body.length : Int)) 2 ((cut body 2 (body.length : Int)).length : Int)) (nM .i64 (eP .i64 (IntKind.i64.wrap (rd 0 (cut body 0 2) 0)) 8) (IntKind.i64.wrap (rd 0 (cut body 0 2) 1))) ((cut (cut body 2 (body.length : Int)) 2 ((cut body 2 (body.length : Int)).length : Int)).length : Int)) 0 (nM .i64 (eP .i64 (IntKind.i64.wrap (rd 0 (cut (cut body 2 (body.length : Int)) 0 2) 0)) 8) (IntKind.i64.wrap (rd 0 (cut (cut body 2 (body.length : Int)) 0 2) 1)))), 0, ()) else none else none else none else none else none else none else none else none else none else none else none else none else none else none else none else none else none
theorem k : KT (O m_) [126, 127] ⟨87, [.one .str], .je [.sh (.one .str), .sh (.one .str), .sh (.one (.int .i64))], run m_⟩ [] := fun v_ => match v_ with | (body, ()) => by kernel_rfl
def c := co (k m_)
end nY

namespace uY
def O : OO P := fK [aB.c m_, kS.c m_, kT.c m_, fA.c m_, dL.c m_, gu.c m_]
def run : (List Int) × (List (List Int)) × (List Int) × Unit -> Option ((List Int) × Int × Unit) := fun v_ => match v_ with
| (key, ad, sealed, ()) =>
 (kS.run m_ (key, ad, ())).bind fun (r, r1, r2, ()) =>
 bif !(decide (r2 = 0)) then
  some (([] : List Int), r2, ())
 else
  bif ay (sealed.length : Int) then
  bif decide ((sealed.length : Int) < 16) then
   some (([] : List Int), 11, ())
  else
   bif ay (sealed.length : Int) then
   bif decide ((sealed.length : Int) > 65552) then
    some (([] : List Int), 12, ())
   else
    bif dR 0 16 (sealed.length : Int) then
    bif dR 16 (sealed.length : Int) (sealed.length : Int) then
    (kT.run m_ (r1, (cut sealed 0 16), (cut sealed 16 (sealed.length : Int)), ())).bind fun r3 =>
    (aB.run m_ (ad, ())).bind fun r4 =>
    bif decide (r4.length + ([r3] : List (List Int)).length < 4398046511104) then
    (dL.run m_ (r, (r4 ++ ([r3] : List (List Int))), ())).bind fun r5 =>
    (fA.run m_ ((cut sealed 0 16), r5, ())).bind fun r6 =>
    (gu.run m_ (16, ())).bind fun r7 =>
    bif !(decide (r6 = r7)) then
     some (([] : List Int), 17, ())
    else
     some (r3, 0, ()) else none else none else none else none else none
theorem k : KT (O m_) [] ⟨217, [.one .str, .one (.lst .str), .one .str], .je [.sh (.one .str), .sh (.one (.int .i64))], run m_⟩ [] := fun _ => by kernel_rfl
def c := co (k m_)
end uY

namespace jU
def O : OO P := fK [uY.c m_]
def run : Unit × qK × Unit -> Option ((List Int) × Int × Unit) := fun v_ => match v_ with
| (a, k, ()) =>
 (uY.run m_ (k.1, k.2.1, k.2.2.2, ())).bind fun (r, r1, ()) =>
 some (r, r1, ())
theorem k : KT (O m_) [] ⟨215, [.ag .unit, .ag FH], .je [.sh (.one .str), .sh (.one (.int .i64))], run m_⟩ [] := fun _ => by kernel_rfl
def c := co (k m_)
end jU

namespace fB
def O : OO P := fK [iQ.c m_, aN.c m_, jU.c m_]
def f0 : bH := fs 88 [.v 6 [6,7,8,9,10], .q 7] []
def o1 : bC := .c [.dat zZ]
def f2 : bH := fs 205 [.v 30 [5,6], .q 31] [(0, .ptr 0 0)]
def e0 : Spec := ⟨[fs 208 [.q 52, .z 52, .b 0, .q 7] [(0, .dat zZ), (1, .fn (.func 209) [0]), (7, .w), (8, .w)], fs 205 [.v 30 [5,6], .q 31] [(0, .ptr 1 0)], f0], [(0, .c [.s, .t, .s, .s]), (1, o1)], 2⟩
def x0 : List Spec := [⟨[fs 208 [.q 13517, .b 1, .q 423, .z 52, .b 0, .q 7] [(4, .w)], f2, f0], [(0, o1)], 1⟩, ⟨[fs 208 [.q 7] [], f2, f0], [(0, o1)], 1⟩]
abbrev A0 : Type := (List (List Int × (List LI × (List Int × List Int)))) × Int × Int × LI × LL × LI × LI × (List (List Int × (List LI × (List Int × List Int)))) × Unit
abbrev B0 : Type := (Int × (List (List Int × (List LI × (List Int × List Int)))) × Unit) ⊕ ((List (List Int × (List LI × (List Int × List Int)))) × Unit)
def b0 (self : A0 -> Option B0) : A0 -> Option B0 := fun v_ => match v_ with
| (s, t, t1, m, m1, m2, m3, m4, ()) =>
 bif decide (t1 < t) then
  bif inB t1 (s.length : Int) then
  ((bif ((decide (((((rd dK s t1).2).2).2) = m3)) && (decide (((rd dK s t1).1) = m))) then aN.run m_ (((rd dK s t1).2).1, m1, ()) else some false)).bind fun r =>
  bif (((decide (((((rd dK s t1).2).2).2) = m3)) && (decide (((rd dK s t1).1) = m))) && r) then
   some (.inl (t1, m4, ()))
  else
   self (s, t, (IntKind.i64.wrap (t1 + 1)), m, m1, m2, m3, m4, ()) else none
 else
  some (.inr (m4, ()))
theorem k0 : KQ 88 (O m_) [128, 205, 208, 209] e0 x0 [] (b0 m_) := fun _ _ => by kernel_rfl
def l0 := loop m_ (b0 m_)
theorem q0 (v) : l0 .lim v = b0 .lim (l0 .lim) v := KS.q (k0 .lim) v
def s0 := so m_ (k0 m_)
def run : xC × (List Int) × (List (List Int)) × (List Int) × Unit -> Option ((List Int) × Int × Unit) := fun v_ => match v_ with
| (v, key, ad, text, ()) =>
 bif v.1 then
  (iQ.run m_ ((key, (ad, (([] : List Int), text))), ())).bind fun r =>
  bif !(decide (r = 0)) then
   some (([] : List Int), r, ())
  else
   bif ay (text.length : Int) then
   bif decide ((text.length : Int) < 16) then
    some (([] : List Int), 11, ())
   else
    bif ay (text.length : Int) then
    bif decide ((text.length : Int) > 65552) then
     some (([] : List Int), 12, ())
    else
     bif ay (v.2.length : Int) then
     (fB.l0 m_ (v.2, (v.2.length : Int), 0, key, ad, ([] : List Int), text, v.2, ())).bind fun g_ => match g_ with
     | .inl (t, m, ()) =>
      bif decide (t < 0) then
       some (([] : List Int), 17, ())
      else
       bif inB t (m.length : Int) then
       some ((((rd dK m t).2).2).1, 0, ()) else none
     | .inr (m1, ()) =>
      some (([] : List Int), 17, ()) else none else none else none
 else
  (jU.run m_ ((), (key, (ad, (([] : List Int), text))), ())).bind fun (r1, r2, ()) =>
  some (r1, r2, ())
theorem k : KT (O m_) [128, 205, 208, 209] ⟨88, [.ag xB, .one .str, .one (.lst .str), .one .str], .je [.sh (.one .str), .sh (.one (.int .i64))], run m_⟩ [s0 m_] := fun _ => by kernel_rfl
def c := co (k m_)
end fB

namespace iF
def O : OO P := fK [aK.c m_, lZ.c m_, rY.c m_, nY.c m_, fB.c m_, dh.c m_]
def f0 : bH := fs 45 [.v 30 [2,3], .q 31] [(2, .s), (3, .ptr 0 0), (6, .ptr 1 0), (8, .ptr 2 0)]
def o1 : bC := .c [.b, .dat zZ]
def o2 : bC := .c [.w, .w, .w, .w, .w, .w, .dat (.int .u32), .dat (.int .u32), .dat (.int .u32), .u, .u, .u, .u, .lW, .lW, .lW]
def o3 : bC := .c [.w, .w, .w, .w, .w, .w, .dat (.int .u32), .dat (.int .u32), .dat (.int .u32), .u, .u, .u, .u, .dat o_]
def e0 : Spec := ⟨[fs 83 [.q 52, .z 52, .b 0, .q 7] [(0, .dat o_), (1, .fn (.func 86) []), (7, .w), (8, .w)], f0], [(0, o1), (1, o2), (2, o3)], 3⟩
def x0 : List Spec := [⟨[fs 83 [.q 13517, .b 1, .q 423, .z 52, .b 0, .q 7] [(4, .w)], f0], [(0, o1), (1, o2), (2, o3)], 3⟩, ⟨[fs 83 [.q 7] [], f0], [(0, o1), (1, o2), (2, o3)], 3⟩]
abbrev A0 : Type := (List (Int × List Int)) × Int × Int × LI × Bool × (List (List Int × (List LI × (List Int × List Int)))) × Int × Int × Int × Int × Int × Int × Int × Int × Int × Int × Int × Int × Int × Int × Int × Int × Int × Int × Int × Int × Int × Int × Int × Int × Int × Int × (List (Int × List Int)) × Unit
abbrev B0 : Type := (Int × LI × Bool × (List (List Int × (List LI × (List Int × List Int)))) × Int × Int × Int × Int × Int × Int × Int × Int × Int × Int × Int × Int × Int × Int × Int × Int × Int × Int × Int × Int × Int × Int × Int × Int × Int × Int × (List (Int × List Int)) × Unit) ⊕ (LI × Bool × (List (List Int × (List LI × (List Int × List Int)))) × Int × Int × Int × Int × Int × Int × Int × Int × Int × Int × Int × Int × Int × Int × Int × Int × Int × Int × Int × Int × Int × Int × Int × Int × Int × Int × (List (Int × List Int)) × Unit)
def b0 (self : A0 -> Option B0) : A0 -> Option B0 := fun v_ => match v_ with
| (s, t, t1, key) =>
 bif decide (t1 < t) then
  bif inB t1 (s.length : Int) then
  (rY.run m_ ((rd ((0 : Int), ([] : List Int)) s t1), ())).bind fun r =>
  bif r then
   some (.inl (t1, key))
  else
   self (s, t, (IntKind.i64.wrap (t1 + 1)), key) else none
 else
  some (.inr (key))
theorem k0 : KQ 45 (O m_) [83] e0 x0 [] (b0 m_) := fun _ _ => by kernel_rfl
def l0 := loop m_ (b0 m_)
theorem q0 (v) : l0 .lim v = b0 .lim (l0 .lim) v := KS.q (k0 .lim) v
def s0 := so m_ (k0 m_)
def run : xC × (List Int) × (List Int) × Unit -> Option ((Y5 × (List (Int × List Int) × List (Int × List Int))) × Int × Unit) := fun v_ => match v_ with
| (v, s, key, ()) =>
 (lZ.run m_ (s, ())).bind fun (r, r1, ()) =>
 bif !(decide (r1 = 0)) then
  some (((0, (0, (0, (0, (0, (0, (0, (0, (0, (0, (0, (0, (0, ([] : List (Int × List Int))))))))))))))), QH), r1, ())
 else
  bif ay (r.2.2.2.2.2.2.2.2.2.2.2.2.2.length : Int) then
  (iF.l0 m_ (r.2.2.2.2.2.2.2.2.2.2.2.2.2, (r.2.2.2.2.2.2.2.2.2.2.2.2.2.length : Int), 0, key, v.1, v.2, 0, 0, 0, 0, 0, 0, 0, 0, 0, 0, 0, 0, 0, r.1, r.2.1, r.2.2.1, r.2.2.2.1, r.2.2.2.2.1, r.2.2.2.2.2.1, r.2.2.2.2.2.2.1, r.2.2.2.2.2.2.2.1, r.2.2.2.2.2.2.2.2.1, r.2.2.2.2.2.2.2.2.2.1, r.2.2.2.2.2.2.2.2.2.2.1, r.2.2.2.2.2.2.2.2.2.2.2.1, r.2.2.2.2.2.2.2.2.2.2.2.2.1, r.2.2.2.2.2.2.2.2.2.2.2.2.2, ())).bind fun g_ => match g_ with
  | .inl (t, key1, m, m1, m2, m3, m4, m5, m6, m7, m8, m9, m10, m11, m12, m13, m14, m15, m16, m17, m18, m19, m20, m21, m22, m23, m24, z_, yU, Bg, Bh, ()) =>
   bif decide (t < 0) then
    some (((0, (0, (0, (0, (0, (0, (0, (0, (0, (0, (0, (0, (0, ([] : List (Int × List Int))))))))))))))), QH), 19, ())
   else
    bif ((dR 0 t t) && (decide (t <= (Bh.length : Int)))) then
    bif inB t (Bh.length : Int) then
    (nY.run m_ ((rd ((0 : Int), ([] : List Int)) Bh t).2, ())).bind fun (r2, r3, r4, ()) =>
    bif !(decide (r4 = 0)) then
     some (((0, (0, (0, (0, (0, (0, (0, (0, (0, (0, (0, (0, (0, ([] : List (Int × List Int))))))))))))))), QH), r4, ())
    else
     (aK.run m_ ((m15, (m16, (m17, (m18, (m19, (m20, (m21, (m22, (m23, (m24, (z_, (yU, (Bg, (cut Bh 0 t)))))))))))))), ())).bind fun (r5, r6, ()) =>
     (fB.run m_ ((m, m1), key1, ([r5, r2] : List (List Int)), r3, ())).bind fun (r7, r8, ()) =>
     bif !(decide (r8 = 0)) then
      some (((0, (0, (0, (0, (0, (0, (0, (0, (0, (0, (0, (0, (0, ([] : List (Int × List Int))))))))))))))), QH), r8, ())
     else
      (dh.run m_ (r7, ())).bind fun (r9, r10, ()) =>
      bif !(decide (r10 = 0)) then
       some (((0, (0, (0, (0, (0, (0, (0, (0, (0, (0, (0, (0, (0, ([] : List (Int × List Int))))))))))))))), QH), r10, ())
      else
       some (((m15, (m16, (m17, (m18, (m19, (m20, (m21, (m22, (m23, (m24, (z_, (yU, (Bg, ([] : List (Int × List Int))))))))))))))), ((cut Bh 0 t), r9)), 0, ()) else none else none
  | .inr (key2) =>
   some (((0, (0, (0, (0, (0, (0, (0, (0, (0, (0, (0, (0, (0, ([] : List (Int × List Int))))))))))))))), QH), 19, ()) else none
theorem k : KT (O m_) [83] ⟨45, [.ag xB, .one .str, .one .str], .je [.sh (.ag (.pair Ns (.pair o_ o_))), .sh (.one (.int .i64))], run m_⟩ [s0 m_] := fun _ => by kernel_rfl
def c := co (k m_)
end iF

namespace qO
def O (m_ : aJ) : OO P := fK []
def run (m_ : aJ) : RD × Unit -> Option (RD) := fun v_ => match v_ with
| (x, ()) =>
 some (x.1, (x.2.1, (([] : List Int), (([] : List Int), (0, x.2.2.2.2.2)))))
theorem k : KT (O m_) [] ⟨20, [.ag BN], .one (.sh (.ag BN)), run m_⟩ [] := fun _ => by kernel_rfl
def c := co (k m_)
end qO

namespace oO
def O (m_ : aJ) : OO P := fK []
def run (m_ : aJ) : Int × Int × Unit -> Option (Int) := fun v_ => match v_ with
| (a, b, ()) =>
 some (IntKind.i64.wrap (IntKind.u64.wrap (a - b)))
theorem k : KT (O m_) [] ⟨91, [.one (.int .u64), .one (.int .u64)], .one (.sh (.one (.int .i64))), run m_⟩ [] := fun _ => by kernel_rfl
def c := co (k m_)
end oO

namespace dG
def O (m_ : aJ) : OO P := fK []
def e0 : Spec := ⟨[fs 90 [.q 244, .z 244, .b 0, .q 31] [(3, .ptr 0 0), (4, .ptr 1 0), (5, .fn (.func 130) [0, 1]), (9, .dat (.lst (.int .i64))), (10, .w), (11, .w)]], [(0, .c [.w]), (1, .c [.w])], 2⟩
def x0 : List Spec := [⟨[fs 90 [.q 31] [(3, .ptr 0 0), (4, .ptr 1 0)]], [(0, .c [.w]), (1, .c [.w])], 2⟩]
abbrev A0 : Type := LI × Int × Int × Int × Int × Unit
abbrev B0 : Type := (Int × Int × Unit)
def b0 (m_ : aJ) (self : A0 -> Option B0) : A0 -> Option B0 := fun v_ => match v_ with
| (t, t1, t2, m, m1, ()) =>
 bif decide (t2 < t1) then
  bif inB t2 (t.length : Int) then
  self (t, t1, (IntKind.i64.wrap (t2 + 1)), (IntKind.i64.wrap (m + (iI .i64 (rd 0 t t2) 1))), (IntKind.i64.wrap (m1 + (fO .i64 (rd 0 t t2) 1))), ()) else none
 else
  some (m, m1, ())
theorem k0 : KQ 90 (O m_) [130] e0 x0 [] (b0 m_) := fun _ _ => by kernel_rfl
def l0 := loop m_ (b0 m_)
theorem q0 (v) : l0 .lim v = b0 .lim (l0 .lim) v := KS.q (k0 .lim) v
def s0 := so m_ (k0 m_)
def run : (List Int) × Unit -> Option (Int) := fun v_ => match v_ with
| (l, ()) =>
 bif ay (l.length : Int) then
 (dG.l0 m_ (l, (l.length : Int), 0, 0, 0, ())).bind fun (m, m1, ()) =>
 some (IntKind.i64.wrap (m + (iI .i64 m1 1))) else none
theorem k : KT (O m_) [130] ⟨90, [.one (.lst (.int .i64))], .one (.sh (.one (.int .i64))), run m_⟩ [s0 m_] := fun _ => by kernel_rfl
def c := co (k m_)
end dG

namespace jw
def O : OO P := fK [dG.c m_, oO.c m_]
def run : Int × Int × Int × Int × Unit -> Option ((Int × Int)) := fun v_ => match v_ with
| (t1, t2, t3, t4, ()) =>
 (oO.run m_ (t2, t1, ())).bind fun r =>
 (oO.run m_ (t3, t4, ())).bind fun r1 =>
 (dG.run m_ (([r, r1] : List Int), ())).bind fun r2 =>
 some (r2, (IntKind.i64.wrap (IntKind.u64.wrap ((IntKind.u64.wrap (t4 - t1)) - (IntKind.u64.wrap (t3 - t2))))))
theorem k : KT (O m_) [] ⟨46, [.one (.int .u64), .one (.int .u64), .one (.int .u64), .one (.int .u64)], .one (.sh (.ag ZI)), run m_⟩ [] := fun _ => by kernel_rfl
def c := co (k m_)
end jw

namespace aY
def O (m_ : aJ) : OO P := fK []
def e0 : Spec := ⟨[fs 131 [.q 52, .z 52, .b 0, .q 7] [(0, .t), (1, .s), (7, .w), (8, .w)]], [], 0⟩
def x0 : List Spec := [⟨[fs 131 [.q 13517, .b 1, .q 423, .z 52, .b 0, .q 7] [(4, .w)]], [], 0⟩, ⟨[fs 131 [.q 7] []], [], 0⟩]
abbrev A0 : Type := LL × LI × Int × Int × Unit
abbrev B0 : Type := (Int × Unit) ⊕ (Unit)
def b0 (m_ : aJ) (self : A0 -> Option B0) : A0 -> Option B0 := fun v_ => match v_ with
| (s, v, t, t1, ()) =>
 bif decide (t1 < t) then
  bif inB t1 (s.length : Int) then
  bif decide (v = (rd ([] : List Int) s t1)) then
   some (.inl (t1, ()))
  else
   self (s, v, t, (IntKind.i64.wrap (t1 + 1)), ()) else none
 else
  some (.inr (()))
theorem k0 : KQ 131 (O m_) [] e0 x0 [] (b0 m_) := fun _ _ => by kernel_rfl
def l0 := loop m_ (b0 m_)
theorem q0 (v) : l0 .lim v = b0 .lim (l0 .lim) v := KS.q (k0 .lim) v
def s0 := so m_ (k0 m_)
def run : (List (List Int)) × (List Int) × Unit -> Option (Int) := fun v_ => match v_ with
| (s, v, ()) =>
 bif ay (s.length : Int) then
 (aY.l0 m_ (s, v, (s.length : Int), 0, ())).bind fun g_ => match g_ with
 | .inl (t, ()) =>
  some t
 | .inr (()) =>
  some (-1) else none
theorem k : KT (O m_) [] ⟨131, [.one (.lst .str), .one .str], .one (.sh (.one (.int .i64))), run m_⟩ [s0 m_] := fun _ => by kernel_rfl
def c := co (k m_)
end aY

namespace dD
def O : OO P := fK [aY.c m_]
def run : (List (List Int)) × (List Int) × Unit -> Option (Bool) := fun v_ => match v_ with
| (s, v, ()) =>
 (aY.run m_ (s, v, ())).bind fun r =>
 some (decide (r >= 0))
theorem k : KT (O m_) [] ⟨93, [.one (.lst .str), .one .str], .one (.sh (.one .bool)), run m_⟩ [] := fun _ => by kernel_rfl
def c := co (k m_)
end dD

namespace dI
def O : OO P := fK [qO.c m_, aB.c m_, kH.c m_, iF.c m_, jw.c m_, lZ.c m_, kJ.c m_, qh.c m_, rX.c m_, dD.c m_]
def f0 : bH := fs 44 [.v 30 [2,3], .q 31] [(0, .ptr 0 0), (6, .ptr 1 0)]
def f1 : bH := fs 17 [.v 14 [2,3,4,5,6,7], .q 15] [(2, .s), (3, .u), (4, .ptr 2 0), (5, .ptr 3 0), (8, .ptr 4 0), (9, .ptr 5 0), (10, .ptr 0 0)]
def o2 : bC := .c [.w, .s, .s, .t, .s, .s, .u, .u, .u, .u, .u, .w, .s, .s, .w, .w, .w, .w, .w, .w, .dat (.int .u32), .dat (.int .u32), .dat (.int .u32), .u, .u, .u, .u, .lW, .w, .w]
def o3 : bC := .c [.w, .w, .w, .w, .w, .w, .dat (.int .u32), .dat (.int .u32), .dat (.int .u32), .u, .u, .u, .u, .dat o_]
def o4 : bC := .c [.b, .dat zZ]
def o5 : bC := .c [.w, .s, .s, .t, .s, .s, .u, .u, .u, .u, .u]
def o6 : bC := .c [.w, .s, .s, .lW, .s, .s, .u, .u, .u, .u, .u]
def o7 : bC := .c [.w, .s, .s, .w, .w, .w, .w, .w, .w, .dat (.int .u32), .dat (.int .u32), .dat (.int .u32), .u, .u, .u, .u, .lW, .w, .w]
def e0 : Spec := ⟨[fs 83 [.q 52, .z 52, .b 0, .q 7] [(0, .dat o_), (1, .fn (.func 84) []), (7, .w), (8, .w)], f0, f1], [(0, o2), (1, o3), (2, o4), (3, o5), (4, o6), (5, o7)], 6⟩
def x0 : List Spec := [⟨[fs 83 [.q 13517, .b 1, .q 423, .z 52, .b 0, .q 7] [(4, .w)], f0, f1], [(0, o2), (1, o3), (2, o4), (3, o5), (4, o6), (5, o7)], 6⟩, ⟨[fs 83 [.q 7] [], f0, f1], [(0, o2), (1, o3), (2, o4), (3, o5), (4, o6), (5, o7)], 6⟩]
abbrev A0 : Type := (List (Int × List Int)) × Int × Int × LI × Int × Int × LI × LI × LL × LI × LI × Int × Int × Int × Int × Int × Int × LI × LI × Int × Int × Int × Int × Int × Int × Int × Int × Int × Int × Int × Int × Int × Int × Int × Int × Int × Int × Int × Int × Int × Int × Int × Int × Int × Int × Int × Int × (List (Int × List Int)) × Bool × (List (List Int × (List LI × (List Int × List Int)))) × Int × LI × LI × LL × LI × LI × Int × Int × Int × Int × Int × Int × LI × LI × LI × LI × Int × Int × Int × Int × Int × Int × LI × LI × Int × Int × Int × Int × Int × Int × Int × Int × Int × Int × Int × Int × Int × Int × Int × Unit
abbrev B0 : Type := (Int × LI × Int × Int × LI × LI × LL × LI × LI × Int × Int × Int × Int × Int × Int × LI × LI × Int × Int × Int × Int × Int × Int × Int × Int × Int × Int × Int × Int × Int × Int × Int × Int × Int × Int × Int × Int × Int × Int × Int × Int × Int × Int × Int × Int × (List (Int × List Int)) × Bool × (List (List Int × (List LI × (List Int × List Int)))) × Int × LI × LI × LL × LI × LI × Int × Int × Int × Int × Int × Int × LI × LI × LI × LI × Int × Int × Int × Int × Int × Int × LI × LI × Int × Int × Int × Int × Int × Int × Int × Int × Int × Int × Int × Int × Int × Int × Int × Unit) ⊕ (LI × Int × Int × LI × LI × LL × LI × LI × Int × Int × Int × Int × Int × Int × LI × LI × Int × Int × Int × Int × Int × Int × Int × Int × Int × Int × Int × Int × Int × Int × Int × Int × Int × Int × Int × Int × Int × Int × Int × Int × Int × Int × Int × Int × (List (Int × List Int)) × Bool × (List (List Int × (List LI × (List Int × List Int)))) × Int × LI × LI × LL × LI × LI × Int × Int × Int × Int × Int × Int × LI × LI × LI × LI × Int × Int × Int × Int × Int × Int × LI × LI × Int × Int × Int × Int × Int × Int × Int × Int × Int × Int × Int × Int × Int × Int × Int × Unit)
def b0 (self : A0 -> Option B0) : A0 -> Option B0 := fun v_ => match v_ with
| (s, t, t1, s1) =>
 bif decide (t1 < t) then
  bif inB t1 (s.length : Int) then
  (kJ.run m_ ((rd ((0 : Int), ([] : List Int)) s t1), ())).bind fun r =>
  bif r then
   some (.inl (t1, s1))
  else
   self (s, t, (IntKind.i64.wrap (t1 + 1)), s1) else none
 else
  some (.inr (s1))
theorem k0 : KQ 17 (O m_) [44, 47, 83] e0 x0 [] (b0 m_) := fun _ _ => by kernel_rfl
def l0 := loop m_ (b0 m_)
theorem q0 (v) : l0 .lim v = b0 .lim (l0 .lim) v := KS.q (k0 .lim) v
def s0 := so m_ (k0 m_)
def o8 : bC := .c [.w, .s, .s, .own 3 .str, .s, .s, .u, .u, .u, .u, .u, .w, .s, .s, .w, .w, .w, .w, .w, .w, .dat (.int .u32), .dat (.int .u32), .dat (.int .u32), .u, .u, .u, .u, .dat o_, .w, .w]
def e1 : Spec := ⟨[fs 47 [.q 28, .z 28, .b 0] [(0, .ptr 0 0), (16, .dat o_), (17, .w), (18, .w)], fs 17 [.v 16382 [3], .q 16383] [(8, .ptr 1 0), (9, .ptr 2 0), (10, .ptr 0 0)]], [(0, o8), (1, o6), (2, o7), (3, .c [.row .str])], 4⟩
def x1 : List Spec := [⟨[fs 47 [] [], fs 17 [.v 16382 [3], .q 16383] [(8, .ptr 0 0), (9, .ptr 1 0), (10, .ptr 2 0)]], [(0, o6), (1, o7), (2, o8), (3, .c [.row .str])], 4⟩]
abbrev A1 : Type := (List (Int × List Int)) × Int × Int × Int × LI × LI × LI × LI × Int × Int × Int × Int × Int × Int × LI × LI × Int × Int × Int × Int × Int × Int × Int × Int × Int × Int × Int × Int × Int × (List (Int × List Int)) × Int × Int × Int × LI × LI × LI × LI × Int × Int × Int × Int × Int × Int × LI × LI × Int × Int × Int × Int × Int × Int × Int × Int × Int × Int × Int × Int × Int × Int × Int × LL × Unit
abbrev B1 : Type := (Int × LI × LI × LI × LI × Int × Int × Int × Int × Int × Int × LI × LI × Int × Int × Int × Int × Int × Int × Int × Int × Int × Int × Int × Int × Int × Int × Int × Int × LI × LI × LI × LI × Int × Int × Int × Int × Int × Int × LI × LI × Int × Int × Int × Int × Int × Int × Int × Int × Int × Int × Int × Int × Int × (List (Int × List Int)) × Int × Int × LL × Unit)
def b1 (self : A1 -> Option B1) : A1 -> Option B1 := fun v_ => match v_ with
| (t, t1, t2, m, m1, m2, m3, m4, m5, m6, m7, m8, m9, m10, m11, m12, m13, m14, m15, m16, m17, m18, m19, m20, m21, m22, m23, m24, z_, yU, Bg, Bh, E5, FI, GX, m32, Ez, Je, KL, Jf, O9, TQ, QJ, QK, TR, Nu, O_, Pg, Jr, Js, KN, LH, GY, GZ, Jt, RF, LJ, Ph, QL, TU, LK, ()) =>
 bif decide (t2 < t1) then
  bif inB t2 (t.length : Int) then
  ((bif decide (((rd ((0 : Int), ([] : List Int)) t t2).1) = 516) then rX.run m_ ((rd ((0 : Int), ([] : List Int)) t t2).2, ()) else some false)).bind fun r =>
  bif ((!((decide (((rd ((0 : Int), ([] : List Int)) t t2).1) = 516)) && r)) || (ay (LK.length : Int))) then
  ((bif (((decide (((rd ((0 : Int), ([] : List Int)) t t2).1) = 516)) && r) && (decide ((LK.length : Int) < 8))) then dD.run m_ (LK, (rd ((0 : Int), ([] : List Int)) t t2).2, ()) else some false)).bind fun r1 =>
  bif ((((decide (((rd ((0 : Int), ([] : List Int)) t t2).1) = 516)) && r) && (decide ((LK.length : Int) < 8))) && !r1) then
   bif decide (LK.length + ([(rd ((0 : Int), ([] : List Int)) t t2).2] : List (List Int)).length < 4398046511104) then
   self (t, t1, (IntKind.i64.wrap (t2 + 1)), m, m1, m2, m3, m4, m5, m6, m7, m8, m9, m10, m11, m12, m13, m14, m15, m16, m17, m18, m19, m20, m21, m22, m23, m24, z_, yU, Bg, Bh, E5, FI, GX, m32, Ez, Je, KL, Jf, O9, TQ, QJ, QK, TR, Nu, O_, Pg, Jr, Js, KN, LH, GY, GZ, Jt, RF, LJ, Ph, QL, TU, (LK ++ ([(rd ((0 : Int), ([] : List Int)) t t2).2] : List (List Int))), ()) else none
  else
   self (t, t1, (IntKind.i64.wrap (t2 + 1)), m, m1, m2, m3, m4, m5, m6, m7, m8, m9, m10, m11, m12, m13, m14, m15, m16, m17, m18, m19, m20, m21, m22, m23, m24, z_, yU, Bg, Bh, E5, FI, GX, m32, Ez, Je, KL, Jf, O9, TQ, QJ, QK, TR, Nu, O_, Pg, Jr, Js, KN, LH, GY, GZ, Jt, RF, LJ, Ph, QL, TU, LK, ()) else none else none
 else
  some (E5, FI, GX, m32, Ez, Je, KL, Jf, O9, TQ, QJ, QK, TR, Nu, O_, Pg, Jr, Js, KN, LH, GY, GZ, Jt, RF, LJ, Ph, QL, TU, m, m1, m2, m3, m4, m5, m6, m7, m8, m9, m10, m11, m12, m13, m14, m15, m16, m17, m18, m19, m20, m21, m22, m23, m24, z_, yU, Bg, Bh, LK, ())
theorem k1 : KQ 17 (O m_) [44, 47, 83] e1 x1 [] (b1 m_) := fun _ _ => by kernel_rfl
def l1 := loop m_ (b1 m_)
theorem q1 (v) : l1 .lim v = b1 .lim (l1 .lim) v := KS.q (k1 .lim) v
def s1 := so m_ (k1 m_)
def run : xC × RD × (List Int) × Int × Unit -> Option (RD × DT1 × Unit) := fun v_ => match v_ with
| (v, x, s, t4, ()) =>
 (lZ.run m_ (s, ())).bind fun (r, r1, ()) =>
 bif ((((decide (x.2.2.1 = ([] : List Int))) || (!(decide (r1 = 0)))) || (!(decide (r.2.1 = 4)))) || (!(decide (r.2.2.1 = 4)))) then
  some (x, (0, (([] : List Int), (([] : List Int), ((0, (0, (0, (0, (0, (0, (0, (0, (0, (0, (0, (0, (0, ([] : List (Int × List Int))))))))))))))), (0, 0))))), ())
 else
  bif ay (r.2.2.2.2.2.2.2.2.2.2.2.2.2.length : Int) then
  (dI.l0 m_ (r.2.2.2.2.2.2.2.2.2.2.2.2.2, (r.2.2.2.2.2.2.2.2.2.2.2.2.2.length : Int), 0, s, t4, x.1.1, x.1.2.1, x.1.2.2, x.2.1, x.2.2.1, x.2.2.2.1, x.2.2.2.2.1, x.2.2.2.2.2.1, x.2.2.2.2.2.2.1, x.2.2.2.2.2.2.2.1, x.2.2.2.2.2.2.2.2, 0, ([] : List Int), ([] : List Int), 0, 0, 0, 0, 0, 0, 0, 0, 0, 0, 0, 0, 0, 0, 0, r.1, r.2.1, r.2.2.1, r.2.2.2.1, r.2.2.2.2.1, r.2.2.2.2.2.1, r.2.2.2.2.2.2.1, r.2.2.2.2.2.2.2.1, r.2.2.2.2.2.2.2.2.1, r.2.2.2.2.2.2.2.2.2.1, r.2.2.2.2.2.2.2.2.2.2.1, r.2.2.2.2.2.2.2.2.2.2.2.1, r.2.2.2.2.2.2.2.2.2.2.2.2.1, r.2.2.2.2.2.2.2.2.2.2.2.2.2, v.1, v.2, x.1.1, x.1.2.1, x.1.2.2, x.2.1, x.2.2.1, x.2.2.2.1, x.2.2.2.2.1, x.2.2.2.2.2.1, x.2.2.2.2.2.2.1, x.2.2.2.2.2.2.2.1, x.2.2.2.2.2.2.2.2, 0, ([] : List Int), ([] : List Int), ([] : List Int), ([] : List Int), 0, 0, 0, 0, 0, 0, ([] : List Int), ([] : List Int), 0, 0, 0, 0, 0, 0, 0, 0, 0, 0, 0, 0, 0, 0, 0, ())).bind fun g_ => match g_ with
  | .inl (t, s1, t41, m, m1, m2, m3, m4, m5, m6, m7, m8, m9, m10, m11, m12, m13, m14, m15, m16, m17, m18, m19, m20, m21, m22, m23, m24, z_, yU, Bg, Bh, E5, FI, GX, m32, Ez, Je, KL, Jf, O9, TQ, QJ, QK, TR, Nu, O_, Pg, Jr, Js, KN, LH, GY, GZ, Jt, RF, LJ, Ph, QL, TU, LK, Y7, m59, m60, m61, m62, m63, m64, m65, m66, m67, m68, m69, m70, m71, m72, m73, m74, m75, m76, m77, m78, m79, m80, m81, m82, m83, ()) =>
   bif decide (t >= 0) then
    bif dR 0 t (Nu.length : Int) then
    (qh.run m_ ((cut Nu 0 t), 260, ())).bind fun (r2, r3, ()) =>
    bif !((decide (r3 = 0)) && (decide (r2 = m4))) then
     some (((Jr, (Js, KN)), (LH, (GY, (GZ, (Jt, (RF, (LJ, (Ph, QL)))))))), (0, (([] : List Int), (([] : List Int), ((0, (0, (0, (0, (0, (0, (0, (0, (0, (0, (0, (0, (0, ([] : List (Int × List Int))))))))))))))), (0, 0))))), ())
    else
     bif !(decide (t >= 0)) then
      (kH.run m_ (m9, ())).bind fun r4 =>
      some (((m, (m1, m2)), (m3, (m4, (m5, (m6, (m7, (m8, (r4, m10)))))))), (1, (GY, (GZ, ((0, (0, (0, (0, (0, (0, (0, (0, (0, (0, (0, (0, (0, ([] : List (Int × List Int))))))))))))))), (0, 0))))), ())
     else
      (iF.run m_ ((O_, Pg), s1, KN, ())).bind fun (r5, r6, ()) =>
      bif (((!(decide (r6 = 0))) || (!(decide (r5.1.2.2.2.2.2.2.2.2.2.2.1 = Jt)))) || (decide (r5.1.2.2.2.1 > 15))) then
       some (((Jr, (Js, KN)), (LH, (GY, (GZ, (Jt, (RF, (LJ, (Ph, QL)))))))), (0, (([] : List Int), (([] : List Int), ((0, (0, (0, (0, (0, (0, (0, (0, (0, (0, (0, (0, (0, ([] : List (Int × List Int))))))))))))))), (0, 0))))), ())
      else
       (qO.run m_ (((Jr, (Js, KN)), (LH, (GY, (GZ, (Jt, (RF, (LJ, (Ph, QL)))))))), ())).bind fun r7 =>
       bif decide (r5.1.2.2.2.1 = 0) then
        (kH.run m_ (r7.2.2.2.2.2.2.2.2, ())).bind fun r8 =>
        some ((r7.1, (r7.2.1, (r7.2.2.1, (r7.2.2.2.1, (r7.2.2.2.2.1, (r7.2.2.2.2.2.1, (r7.2.2.2.2.2.2.1, (r7.2.2.2.2.2.2.2.1, r8)))))))), (2, (GY, (GZ, (r5.1, (0, 0))))), ())
       else
        (kH.run m_ (r7.2.2.2.2.2.2.1, ())).bind fun r9 =>
        (jw.run m_ (Jt, r5.1.2.2.2.2.2.2.2.2.2.2.2.1, r5.1.2.2.2.2.2.2.2.2.2.2.2.2.1, t41, ())).bind fun r10 =>
        (aB.run m_ (r7.2.1, ())).bind fun r11 =>
        bif ay (r5.2.2.length : Int) then
        (dI.l1 m_ (r5.2.2, (r5.2.2.length : Int), 0, r7.1.1, r7.1.2.1, r7.1.2.2, r7.2.2.1, r7.2.2.2.1, r7.2.2.2.2.1, r7.2.2.2.2.2.1, r9, r7.2.2.2.2.2.2.2.1, r7.2.2.2.2.2.2.2.2, 3, GY, GZ, r5.1.1, r5.1.2.1, r5.1.2.2.1, r5.1.2.2.2.1, r5.1.2.2.2.2.1, r5.1.2.2.2.2.2.1, r5.1.2.2.2.2.2.2.1, r5.1.2.2.2.2.2.2.2.1, r5.1.2.2.2.2.2.2.2.2.1, r5.1.2.2.2.2.2.2.2.2.2.1, r5.1.2.2.2.2.2.2.2.2.2.2.1, r5.1.2.2.2.2.2.2.2.2.2.2.2.1, r5.1.2.2.2.2.2.2.2.2.2.2.2.2.1, r5.1.2.2.2.2.2.2.2.2.2.2.2.2.2, r10.1, r10.2, TU, LK, Y7, m59, m60, m61, m62, m63, m64, m65, m66, m67, m68, m69, m70, m71, m72, m73, m74, m75, m76, m77, m78, m79, m80, m81, m82, m83, r11, ())).bind fun (m84, m85, m86, m87, m88, m89, m90, m91, m92, m93, m94, m95, m96, m97, m98, m99, m100, m101, m102, m103, m104, m105, m106, m107, m108, m109, m110, m111, m112, m113, m114, m115, m116, m117, m118, m119, m120, m121, m122, m123, m124, m125, m126, m127, m128, m129, m130, m131, m132, m133, m134, m135, m136, m137, m138, m139, m140, m141, ()) =>
        some (((m112, (m113, m114)), (m141, (m115, (m116, (m117, (m118, (m119, (m120, m121)))))))), (m122, (m123, (m124, ((m125, (m126, (m127, (m128, (m129, (m130, (m131, (m132, (m133, (m134, (m135, (m136, (m137, m138))))))))))))), (m139, m140))))), ()) else none else none
   else
    (qh.run m_ (Nu, 260, ())).bind fun (r12, r13, ()) =>
    bif !((decide (r13 = 0)) && (decide (r12 = m4))) then
     some (((Jr, (Js, KN)), (LH, (GY, (GZ, (Jt, (RF, (LJ, (Ph, QL)))))))), (0, (([] : List Int), (([] : List Int), ((0, (0, (0, (0, (0, (0, (0, (0, (0, (0, (0, (0, (0, ([] : List (Int × List Int))))))))))))))), (0, 0))))), ())
    else
     bif !(decide (t >= 0)) then
      (kH.run m_ (m9, ())).bind fun r14 =>
      some (((m, (m1, m2)), (m3, (m4, (m5, (m6, (m7, (m8, (r14, m10)))))))), (1, (GY, (GZ, ((0, (0, (0, (0, (0, (0, (0, (0, (0, (0, (0, (0, (0, ([] : List (Int × List Int))))))))))))))), (0, 0))))), ())
     else
      (iF.run m_ ((O_, Pg), s1, KN, ())).bind fun (BO, r16, ()) =>
      bif (((!(decide (r16 = 0))) || (!(decide (BO.1.2.2.2.2.2.2.2.2.2.2.1 = Jt)))) || (decide (BO.1.2.2.2.1 > 15))) then
       some (((Jr, (Js, KN)), (LH, (GY, (GZ, (Jt, (RF, (LJ, (Ph, QL)))))))), (0, (([] : List Int), (([] : List Int), ((0, (0, (0, (0, (0, (0, (0, (0, (0, (0, (0, (0, (0, ([] : List (Int × List Int))))))))))))))), (0, 0))))), ())
      else
       (qO.run m_ (((Jr, (Js, KN)), (LH, (GY, (GZ, (Jt, (RF, (LJ, (Ph, QL)))))))), ())).bind fun E8 =>
       bif decide (BO.1.2.2.2.1 = 0) then
        (kH.run m_ (E8.2.2.2.2.2.2.2.2, ())).bind fun r18 =>
        some ((E8.1, (E8.2.1, (E8.2.2.1, (E8.2.2.2.1, (E8.2.2.2.2.1, (E8.2.2.2.2.2.1, (E8.2.2.2.2.2.2.1, (E8.2.2.2.2.2.2.2.1, r18)))))))), (2, (GY, (GZ, (BO.1, (0, 0))))), ())
       else
        (kH.run m_ (E8.2.2.2.2.2.2.1, ())).bind fun r19 =>
        (jw.run m_ (Jt, BO.1.2.2.2.2.2.2.2.2.2.2.2.1, BO.1.2.2.2.2.2.2.2.2.2.2.2.2.1, t41, ())).bind fun r20 =>
        (aB.run m_ (E8.2.1, ())).bind fun r21 =>
        bif ay (BO.2.2.length : Int) then
        (dI.l1 m_ (BO.2.2, (BO.2.2.length : Int), 0, E8.1.1, E8.1.2.1, E8.1.2.2, E8.2.2.1, E8.2.2.2.1, E8.2.2.2.2.1, E8.2.2.2.2.2.1, r19, E8.2.2.2.2.2.2.2.1, E8.2.2.2.2.2.2.2.2, 3, GY, GZ, BO.1.1, BO.1.2.1, BO.1.2.2.1, BO.1.2.2.2.1, BO.1.2.2.2.2.1, BO.1.2.2.2.2.2.1, BO.1.2.2.2.2.2.2.1, BO.1.2.2.2.2.2.2.2.1, BO.1.2.2.2.2.2.2.2.2.1, BO.1.2.2.2.2.2.2.2.2.2.1, BO.1.2.2.2.2.2.2.2.2.2.2.1, BO.1.2.2.2.2.2.2.2.2.2.2.2.1, BO.1.2.2.2.2.2.2.2.2.2.2.2.2.1, BO.1.2.2.2.2.2.2.2.2.2.2.2.2.2, r20.1, r20.2, TU, LK, Y7, m59, m60, m61, m62, m63, m64, m65, m66, m67, m68, m69, m70, m71, m72, m73, m74, m75, m76, m77, m78, m79, m80, m81, m82, m83, r21, ())).bind fun (m142, m143, m144, m145, m146, m147, m148, m149, m150, m151, m152, m153, m154, m155, m156, m157, m158, m159, m160, m161, m162, m163, m164, m165, m166, m167, m168, m169, m170, m171, m172, m173, m174, m175, m176, m177, m178, m179, m180, m181, m182, m183, m184, m185, m186, m187, m188, m189, m190, m191, m192, m193, m194, m195, m196, m197, m198, m199, ()) =>
        some (((m170, (m171, m172)), (m199, (m173, (m174, (m175, (m176, (m177, (m178, m179)))))))), (m180, (m181, (m182, ((m183, (m184, (m185, (m186, (m187, (m188, (m189, (m190, (m191, (m192, (m193, (m194, (m195, m196))))))))))))), (m197, m198))))), ()) else none
  | .inr (s2, t42, m200, m201, m202, m203, ZV, m205, m206, m207, m208, m209, m210, m211, m212, m213, m214, m215, m216, m217, m218, m219, m220, m221, m222, m223, m224, m225, m226, m227, m228, m229, m230, m231, m232, m233, m234, m235, m236, m237, m238, m239, m240, m241, m242, m243, m244, m245, m246, m247, m248, ZW, ZX, m251, m252, m253, m254, m255, m256) =>
   (qh.run m_ (m242, 260, ())).bind fun (r22, r23, ()) =>
   bif !((decide (r23 = 0)) && (decide (r22 = ZV))) then
    some (((m245, (m246, m247)), (m248, (ZW, (ZX, (m251, (m252, (m253, (m254, m255)))))))), (0, (([] : List Int), (([] : List Int), ((0, (0, (0, (0, (0, (0, (0, (0, (0, (0, (0, (0, (0, ([] : List (Int × List Int))))))))))))))), (0, 0))))), ())
   else
    (kH.run m_ (m209, ())).bind fun r24 =>
    some (((m200, (m201, m202)), (m203, (ZV, (m205, (m206, (m207, (m208, (r24, m210)))))))), (1, (ZW, (ZX, ((0, (0, (0, (0, (0, (0, (0, (0, (0, (0, (0, (0, (0, ([] : List (Int × List Int))))))))))))))), (0, 0))))), ()) else none
theorem k : KT (O m_) [44, 47, 83] ⟨17, [.ag xB, .ag BN, .one .str, .one (.int .u64)], .je [.sh (.ag BN), .sh (.ag Yr)], run m_⟩ [s0 m_, s1 m_] := fun v_ => match v_ with | (v, x, s, t4, ()) => by kernel_rfl
def c := co (k m_)
end dI

namespace bJ
def O (m_ : aJ) : OO P := fK []
def e0 : Spec := ⟨[fs 15 [.q 116, .z 116, .b 0, .q 15] [(0, .t), (1, .t), (5, .w)]], [], 0⟩
def x0 : List Spec := [⟨[fs 15 [.q 7461, .b 1, .q 467, .z 116, .b 0, .q 15] [(4, .b)]], [], 0⟩, ⟨[fs 15 [.q 15] []], [], 0⟩]
abbrev A0 : Type := LL × LL × Int × Unit
abbrev B0 : Type := (Bool × Unit) ⊕ (Unit)
def b0 (m_ : aJ) (self : A0 -> Option B0) : A0 -> Option B0 := fun v_ => match v_ with
| (a, b, i, ()) =>
 bif ay (a.length : Int) then
 bif decide (i < (a.length : Int)) then
  bif inB i (a.length : Int) then
  bif inB i (b.length : Int) then
  bif !(decide ((rd ([] : List Int) a i) = (rd ([] : List Int) b i))) then
   some (.inl (false, ()))
  else
   self (a, b, (IntKind.i64.wrap (i + 1)), ()) else none else none
 else
  some (.inr (())) else none
theorem k0 : KQ 15 (O m_) [] e0 x0 [] (b0 m_) := fun _ _ => by kernel_rfl
def l0 := loop m_ (b0 m_)
theorem q0 (v) : l0 .lim v = b0 .lim (l0 .lim) v := KS.q (k0 .lim) v
def s0 := so m_ (k0 m_)
def run : (List (List Int)) × (List (List Int)) × Unit -> Option (Bool) := fun v_ => match v_ with
| (a, b, ()) =>
 bif ay (a.length : Int) then
 bif ay (b.length : Int) then
 bif !(decide ((a.length : Int) = (b.length : Int))) then
  some false
 else
  (bJ.l0 m_ (a, b, 0, ())).bind fun g_ => match g_ with
  | .inl (t, ()) =>
   some t
  | .inr (()) =>
   some true else none else none
theorem k : KT (O m_) [] ⟨15, [.one (.lst .str), .one (.lst .str)], .one (.sh (.one .bool)), run m_⟩ [s0 m_] := fun _ => by kernel_rfl
def c := co (k m_)
end bJ

namespace cu
def O : OO P := fK [bJ.c m_]
def run : RD × RD × Unit -> Option (Bool) := fun v_ => match v_ with
| (a, b, ()) =>
 ((bif ((decide (a.1.1 = b.1.1)) && ((decide (a.1.2.1 = b.1.2.1)) && (decide (a.1.2.2 = b.1.2.2)))) then bJ.run m_ (a.2.1, b.2.1, ()) else some false)).bind fun r =>
 some ((((((((((decide (a.1.1 = b.1.1)) && ((decide (a.1.2.1 = b.1.2.1)) && (decide (a.1.2.2 = b.1.2.2)))) && r) && (decide (a.2.2.1 = b.2.2.1))) && (decide (a.2.2.2.1 = b.2.2.2.1))) && (decide (a.2.2.2.2.1 = b.2.2.2.2.1))) && (decide (a.2.2.2.2.2.1 = b.2.2.2.2.2.1))) && (decide (a.2.2.2.2.2.2.1 = b.2.2.2.2.2.2.1))) && (decide (a.2.2.2.2.2.2.2.1 = b.2.2.2.2.2.2.2.1))) && (decide (a.2.2.2.2.2.2.2.2 = b.2.2.2.2.2.2.2.2)))
theorem k : KT (O m_) [] ⟨11, [.ag BN, .ag BN], .one (.sh (.one .bool)), run m_⟩ [] := fun _ => by kernel_rfl
def c := co (k m_)
end cu

namespace bM
def O (m_ : aJ) : OO P := fK []
def e0 : Spec := ⟨[fs 96 [.q 116, .z 116, .b 0, .q 15] [(0, .dat o_), (1, .dat o_), (5, .w)]], [], 0⟩
def x0 : List Spec := [⟨[fs 96 [.q 7461, .b 1, .q 467, .z 116, .b 0, .q 15] [(4, .b)]], [], 0⟩, ⟨[fs 96 [.q 15] []], [], 0⟩]
abbrev A0 : Type := (List (Int × List Int)) × (List (Int × List Int)) × Int × Unit
abbrev B0 : Type := (Bool × Unit) ⊕ (Unit)
def b0 (m_ : aJ) (self : A0 -> Option B0) : A0 -> Option B0 := fun v_ => match v_ with
| (a, b, i, ()) =>
 bif ay (a.length : Int) then
 bif decide (i < (a.length : Int)) then
  bif inB i (a.length : Int) then
  bif inB i (b.length : Int) then
  bif !((decide (((rd ((0 : Int), ([] : List Int)) a i).1) = ((rd ((0 : Int), ([] : List Int)) b i).1))) && (decide (((rd ((0 : Int), ([] : List Int)) a i).2) = ((rd ((0 : Int), ([] : List Int)) b i).2)))) then
   some (.inl (false, ()))
  else
   self (a, b, (IntKind.i64.wrap (i + 1)), ()) else none else none
 else
  some (.inr (())) else none
theorem k0 : KQ 96 (O m_) [] e0 x0 [] (b0 m_) := fun _ _ => by kernel_rfl
def l0 := loop m_ (b0 m_)
theorem q0 (v) : l0 .lim v = b0 .lim (l0 .lim) v := KS.q (k0 .lim) v
def s0 := so m_ (k0 m_)
def run : (List (Int × List Int)) × (List (Int × List Int)) × Unit -> Option (Bool) := fun v_ => match v_ with
| (a, b, ()) =>
 bif ay (a.length : Int) then
 bif ay (b.length : Int) then
 bif !(decide ((a.length : Int) = (b.length : Int))) then
  some false
 else
  (bM.l0 m_ (a, b, 0, ())).bind fun g_ => match g_ with
  | .inl (t, ()) =>
   some t
  | .inr (()) =>
   some true else none else none
theorem k : KT (O m_) [] ⟨96, [.one o_, .one o_], .one (.sh (.one .bool)), run m_⟩ [s0 m_] := fun _ => by kernel_rfl
def c := co (k m_)
end bM

namespace iG
def O : OO P := fK [bM.c m_]
def run : Y5 × Y5 × Unit -> Option (Bool) := fun v_ => match v_ with
| (a, b, ()) =>
 bif ((((((((!(decide (a.1 = b.1))) || (!(decide (a.2.1 = b.2.1)))) || (!(decide (a.2.2.1 = b.2.2.1)))) || (!(decide (a.2.2.2.1 = b.2.2.2.1)))) || (!(decide (a.2.2.2.2.1 = b.2.2.2.2.1)))) || (!(decide (a.2.2.2.2.2.1 = b.2.2.2.2.2.1)))) || (!(decide (a.2.2.2.2.2.2.1 = b.2.2.2.2.2.2.1)))) || (!(decide (a.2.2.2.2.2.2.2.1 = b.2.2.2.2.2.2.2.1)))) then
  some false
 else
  ((bif (((((decide (a.2.2.2.2.2.2.2.2.1 = b.2.2.2.2.2.2.2.2.1)) && (decide (a.2.2.2.2.2.2.2.2.2.1 = b.2.2.2.2.2.2.2.2.2.1))) && (decide (a.2.2.2.2.2.2.2.2.2.2.1 = b.2.2.2.2.2.2.2.2.2.2.1))) && (decide (a.2.2.2.2.2.2.2.2.2.2.2.1 = b.2.2.2.2.2.2.2.2.2.2.2.1))) && (decide (a.2.2.2.2.2.2.2.2.2.2.2.2.1 = b.2.2.2.2.2.2.2.2.2.2.2.2.1))) then bM.run m_ (a.2.2.2.2.2.2.2.2.2.2.2.2.2, b.2.2.2.2.2.2.2.2.2.2.2.2.2, ()) else some false)).bind fun r =>
  some ((((((decide (a.2.2.2.2.2.2.2.2.1 = b.2.2.2.2.2.2.2.2.1)) && (decide (a.2.2.2.2.2.2.2.2.2.1 = b.2.2.2.2.2.2.2.2.2.1))) && (decide (a.2.2.2.2.2.2.2.2.2.2.1 = b.2.2.2.2.2.2.2.2.2.2.1))) && (decide (a.2.2.2.2.2.2.2.2.2.2.2.1 = b.2.2.2.2.2.2.2.2.2.2.2.1))) && (decide (a.2.2.2.2.2.2.2.2.2.2.2.2.1 = b.2.2.2.2.2.2.2.2.2.2.2.2.1))) && r)
theorem k : KT (O m_) [] ⟨53, [.ag Ns, .ag Ns], .one (.sh (.one .bool)), run m_⟩ [] := fun _ => by kernel_rfl
def c := co (k m_)
end iG

namespace gU
def O : OO P := fK [iG.c m_]
def run : DT1 × DT1 × Unit -> Option (Bool) := fun v_ => match v_ with
| (a, b, ()) =>
 ((bif (((decide (a.1 = b.1)) && (decide (a.2.1 = b.2.1))) && (decide (a.2.2.1 = b.2.2.1))) then iG.run m_ (a.2.2.2.1, b.2.2.2.1, ()) else some false)).bind fun r =>
 some (((((decide (a.1 = b.1)) && (decide (a.2.1 = b.2.1))) && (decide (a.2.2.1 = b.2.2.1))) && r) && ((decide (a.2.2.2.2.1 = b.2.2.2.2.1)) && (decide (a.2.2.2.2.2 = b.2.2.2.2.2))))
theorem k : KT (O m_) [] ⟨19, [.ag Yr, .ag Yr], .one (.sh (.one .bool)), run m_⟩ [] := fun _ => by kernel_rfl
def c := co (k m_)
end gU

namespace aV
def O : OO P := fK [iE.c m_, aP.c m_, cu.c m_, dM.c m_, dI.c m_, gU.c m_]
def e0 : Spec := ⟨[fs 5 [.q 16372, .z 16372, .b 1, .q 2047] [(2, .s), (6, .ptr 0 0), (125, .dat zZ), (126, .w), (127, .w)]], [(0, .c [.w, .s, .s, .t, .s, .s, .u, .u, .u, .u, .u])], 1⟩
def x0 : List Spec := [⟨[fs 5 [.q 4191437, .b 2, .q 130983, .z 16372, .b 1, .q 2047] [(10, .b)]], [], 0⟩, ⟨[fs 5 [.q 2047] []], [], 0⟩]
abbrev A0 : Type := LI × (List (List Int × (List LI × (List Int × List Int)))) × Int × Int × Int × LI × LI × LL × LI × LI × Int × Int × Int × Int × Int × Unit
abbrev B0 : Type := (Bool × Unit) ⊕ (Unit)
def b0 (self : A0 -> Option B0) : A0 -> Option B0 := fun v_ => match v_ with
| (s, t, t1, t2, m, m1, m2, m3) =>
 bif decide (t2 < t1) then
  bif inB t2 (t.length : Int) then
  bif ((!(decide (((rd dK t t2).1) = m2))) || (ay ((((rd dK t t2).2).1).length : Int))) then
  bif ((!((decide (((rd dK t t2).1) = m2)) && (decide (((((rd dK t t2).2).1).length : Int) = 2)))) || (inB 0 ((((rd dK t t2).2).1).length : Int))) then
  bif ((!((decide (((rd dK t t2).1) = m2)) && (decide (((((rd dK t t2).2).1).length : Int) = 2)))) || (ay ((rd ([] : List Int) (((rd dK t t2).2).1) 0).length : Int))) then
  bif ((!((decide (((rd dK t t2).1) = m2)) && (decide (((((rd dK t t2).2).1).length : Int) = 2)))) || (ay (s.length : Int))) then
  bif ((!(((decide (((rd dK t t2).1) = m2)) && (decide (((((rd dK t t2).2).1).length : Int) = 2))) && (decide (((rd ([] : List Int) (((rd dK t t2).2).1) 0).length : Int) <= (s.length : Int))))) || (inB 0 ((((rd dK t t2).2).1).length : Int))) then
  bif ((!(((decide (((rd dK t t2).1) = m2)) && (decide (((((rd dK t t2).2).1).length : Int) = 2))) && (decide (((rd ([] : List Int) (((rd dK t t2).2).1) 0).length : Int) <= (s.length : Int))))) || (ay ((rd ([] : List Int) (((rd dK t t2).2).1) 0).length : Int))) then
  bif ((!(((decide (((rd dK t t2).1) = m2)) && (decide (((((rd dK t t2).2).1).length : Int) = 2))) && (decide (((rd ([] : List Int) (((rd dK t t2).2).1) 0).length : Int) <= (s.length : Int))))) || (dR 0 ((rd ([] : List Int) (((rd dK t t2).2).1) 0).length : Int) (s.length : Int))) then
  bif ((!(((decide (((rd dK t t2).1) = m2)) && (decide (((((rd dK t t2).2).1).length : Int) = 2))) && (decide (((rd ([] : List Int) (((rd dK t t2).2).1) 0).length : Int) <= (s.length : Int))))) || (inB 0 ((((rd dK t t2).2).1).length : Int))) then
  bif ((((decide (((rd dK t t2).1) = m2)) && (decide (((((rd dK t t2).2).1).length : Int) = 2))) && (decide (((rd ([] : List Int) (((rd dK t t2).2).1) 0).length : Int) <= (s.length : Int)))) && (decide ((cut s 0 ((rd ([] : List Int) (((rd dK t t2).2).1) 0).length : Int)) = (rd ([] : List Int) (((rd dK t t2).2).1) 0)))) then
   (aP.run m_ (())).bind fun r =>
   some (.inl (r, ()))
  else
   self (s, t, t1, (IntKind.i64.wrap (t2 + 1)), m, m1, m2, m3) else none else none else none else none else none else none else none else none else none
 else
  some (.inr (()))
theorem k0 : KQ 5 (O m_) [] e0 x0 [] (b0 m_) := fun _ _ => by kernel_rfl
def l0 := loop m_ (b0 m_)
theorem q0 (v) : l0 .lim v = b0 .lim (l0 .lim) v := KS.q (k0 .lim) v
def s0 := so m_ (k0 m_)
def run : xC × RD × (List Int) × (List Int) × Int × Unit -> Option (Bool) := fun v_ => match v_ with
| (v, x, s, again, t, ()) =>
 (iE.run m_ (v, x, s, ())).bind fun r =>
 bif (!!!r || (ay (again.length : Int))) then
 bif (!r || (decide ((again.length : Int) > 4000))) then
  (aP.run m_ (())).bind fun r1 =>
  some r1
 else
  (dI.run m_ (v, x, s, t, ())).bind fun (r2, r3, ()) =>
  bif decide (r3.1 = 0) then
   (cu.run m_ (x, r2, ())).bind fun r4 =>
   ((bif r4 then gU.run m_ (r3, (0, (([] : List Int), (([] : List Int), ((0, (0, (0, (0, (0, (0, (0, (0, (0, (0, (0, (0, (0, ([] : List (Int × List Int))))))))))))))), (0, 0))))), ()) else some false)).bind fun r5 =>
   ((bif (r4 && r5) then aP.run m_ (()) else some false)).bind fun r6 =>
   some ((r4 && r5) && r6)
  else
   bif decide (r3.1 = 1) then
    (cu.run m_ (r2, (x.1, (x.2.1, (x.2.2.1, (x.2.2.2.1, (x.2.2.2.2.1, (x.2.2.2.2.2.1, (x.2.2.2.2.2.2.1, ((IntKind.u64.wrap (x.2.2.2.2.2.2.2.1 + 1)), x.2.2.2.2.2.2.2.2)))))))), ())).bind fun r7 =>
    ((bif (r7 && (decide (r3.2.1 = x.2.2.1))) then aP.run m_ (()) else some false)).bind fun r8 =>
    some ((r7 && (decide (r3.2.1 = x.2.2.1))) && r8)
   else
    bif decide (r3.1 = 2) then
     bif decide (r3.1 = 2) then
      ((bif !((((!(decide (r2.2.2.1 = ([] : List Int)))) || (decide (x.2.2.1 = ([] : List Int)))) || (!(decide (r3.2.2.1 = x.2.2.2.1)))) || (!(decide (r3.2.2.2.1.2.2.2.2.2.2.2.2.2.2.1 = x.2.2.2.2.1)))) then dM.run m_ (r2, ()) else some false)).bind fun r9 =>
      bif (((((!(decide (r2.2.2.1 = ([] : List Int)))) || (decide (x.2.2.1 = ([] : List Int)))) || (!(decide (r3.2.2.1 = x.2.2.2.1)))) || (!(decide (r3.2.2.2.1.2.2.2.2.2.2.2.2.2.2.1 = x.2.2.2.2.1)))) || !r9) then
       some false
      else
       (dI.run m_ (v, r2, again, t, ())).bind fun (r10, r11, ()) =>
       ((bif !(!(decide (r11.1 = 0))) then cu.run m_ (r10, r2, ()) else some false)).bind fun r12 =>
       bif ((!(decide (r11.1 = 0))) || !r12) then
        some false
       else
        bif !v.1 then
         (aP.run m_ (())).bind fun r13 =>
         some r13
        else
         bif ay (v.2.length : Int) then
         (aV.l0 m_ (s, v.2, (v.2.length : Int), 0, x.1.1, x.1.2.1, x.1.2.2, x.2.1, x.2.2.1, x.2.2.2.1, x.2.2.2.2.1, x.2.2.2.2.2.1, x.2.2.2.2.2.2.1, x.2.2.2.2.2.2.2.1, x.2.2.2.2.2.2.2.2, ())).bind fun g_ => match g_ with
         | .inl (t1, ()) =>
          some t1
         | .inr (()) =>
          some false else none
     else
      some false
    else
     bif decide (r3.1 = 3) then
      ((bif !((((!(decide (r2.2.2.1 = ([] : List Int)))) || (decide (x.2.2.1 = ([] : List Int)))) || (!(decide (r3.2.2.1 = x.2.2.2.1)))) || (!(decide (r3.2.2.2.1.2.2.2.2.2.2.2.2.2.2.1 = x.2.2.2.2.1)))) then dM.run m_ (r2, ()) else some false)).bind fun r14 =>
      bif (((((!(decide (r2.2.2.1 = ([] : List Int)))) || (decide (x.2.2.1 = ([] : List Int)))) || (!(decide (r3.2.2.1 = x.2.2.2.1)))) || (!(decide (r3.2.2.2.1.2.2.2.2.2.2.2.2.2.2.1 = x.2.2.2.2.1)))) || !r14) then
       some false
      else
       (dI.run m_ (v, r2, again, t, ())).bind fun (BO, r16, ()) =>
       ((bif !(!(decide (r16.1 = 0))) then cu.run m_ (BO, r2, ()) else some false)).bind fun E8 =>
       bif ((!(decide (r16.1 = 0))) || !E8) then
        some false
       else
        bif !v.1 then
         (aP.run m_ (())).bind fun r18 =>
         some r18
        else
         bif ay (v.2.length : Int) then
         (aV.l0 m_ (s, v.2, (v.2.length : Int), 0, x.1.1, x.1.2.1, x.1.2.2, x.2.1, x.2.2.1, x.2.2.2.1, x.2.2.2.2.1, x.2.2.2.2.2.1, x.2.2.2.2.2.2.1, x.2.2.2.2.2.2.2.1, x.2.2.2.2.2.2.2.2, ())).bind fun g_ => match g_ with
         | .inl (t2, ()) =>
          some t2
         | .inr (()) =>
          some false else none
     else
      some false else none
theorem k : KT (O m_) [] ⟨5, [.ag xB, .ag BN, .one .str, .one .str, .one (.int .u64)], .one (.sh (.one .bool)), run m_⟩ [s0 m_] := fun v_ => match v_ with | (v, x, s, again, t, ()) => by kernel_rfl
def c := co (k m_)
end aV

namespace qj
def O (m_ : aJ) : OO P := fK []
def run (m_ : aJ) : Int × Unit -> Option (Int) := fun v_ => match v_ with
| (b, ()) =>
 bif inB b (([99, 124, 119, 123, 242, 107, 111, 197, 48, 1, 103, 43, 254, 215, 171, 118, 202, 130, 201, 125, 250, 89, 71, 240, 173, 212, 162, 175, 156, 164, 114, 192, 183, 253, 147, 38, 54, 63, 247, 204, 52, 165, 229, 241, 113, 216, 49, 21, 4, 199, 35, 195, 24, 150, 5, 154, 7, 18, 128, 226, 235, 39, 178, 117, 9, 131, 44, 26, 27, 110, 90, 160, 82, 59, 214, 179, 41, 227, 47, 132, 83, 209, 0, 237, 32, 252, 177, 91, 106, 203, 190, 57, 74, 76, 88, 207, 208, 239, 170, 251, 67, 77, 51, 133, 69, 249, 2, 127, 80, 60, 159, 168, 81, 163, 64, 143, 146, 157, 56, 245, 188, 182, 218, 33, 16, 255, 243, 210, 205, 12, 19, 236, 95, 151, 68, 23, 196, 167, 126, 61, 100, 93, 25, 115, 96, 129, 79, 220, 34, 42, 144, 136, 70, 238, 184, 20, 222, 94, 11, 219, 224, 50, 58, 10, 73, 6, 36, 92, 194, 211, 172, 98, 145, 149, 228, 121, 231, 200, 55, 109, 141, 213, 78, 169, 108, 86, 244, 234, 101, 122, 174, 8, 186, 120, 37, 46, 28, 166, 180, 198, 232, 221, 116, 31, 75, 189, 139, 138, 112, 62, 181, 102, 72, 3, 246, 14, 97, 53, 87, 185, 134, 193, 29, 158, 225, 248, 152, 17, 105, 217, 142, 148, 155, 30, 135, 233, 206, 85, 40, 223, 140, 161, 137, 13, 191, 230, 66, 104, 65, 153, 45, 15, 176, 84, 187, 22] : List Int).length : Int) then
 some (rd 0 ([99, 124, 119, 123, 242, 107, 111, 197, 48, 1, 103, 43, 254, 215, 171, 118, 202, 130, 201, 125, 250, 89, 71, 240, 173, 212, 162, 175, 156, 164, 114, 192, 183, 253, 147, 38, 54, 63, 247, 204, 52, 165, 229, 241, 113, 216, 49, 21, 4, 199, 35, 195, 24, 150, 5, 154, 7, 18, 128, 226, 235, 39, 178, 117, 9, 131, 44, 26, 27, 110, 90, 160, 82, 59, 214, 179, 41, 227, 47, 132, 83, 209, 0, 237, 32, 252, 177, 91, 106, 203, 190, 57, 74, 76, 88, 207, 208, 239, 170, 251, 67, 77, 51, 133, 69, 249, 2, 127, 80, 60, 159, 168, 81, 163, 64, 143, 146, 157, 56, 245, 188, 182, 218, 33, 16, 255, 243, 210, 205, 12, 19, 236, 95, 151, 68, 23, 196, 167, 126, 61, 100, 93, 25, 115, 96, 129, 79, 220, 34, 42, 144, 136, 70, 238, 184, 20, 222, 94, 11, 219, 224, 50, 58, 10, 73, 6, 36, 92, 194, 211, 172, 98, 145, 149, 228, 121, 231, 200, 55, 109, 141, 213, 78, 169, 108, 86, 244, 234, 101, 122, 174, 8, 186, 120, 37, 46, 28, 166, 180, 198, 232, 221, 116, 31, 75, 189, 139, 138, 112, 62, 181, 102, 72, 3, 246, 14, 97, 53, 87, 185, 134, 193, 29, 158, 225, 248, 152, 17, 105, 217, 142, 148, 155, 30, 135, 233, 206, 85, 40, 223, 140, 161, 137, 13, 191, 230, 66, 104, 65, 153, 45, 15, 176, 84, 187, 22] : List Int) b) else none
theorem k : KT (O m_) [] ⟨174, [.one (.int .u8)], .one (.sh (.one (.int .u8))), run m_⟩ [] := fun _ => by kernel_rfl
def c := co (k m_)
end qj

end
end Go.AM
end
