import Derived.Test.YtbpfiolmmdmapaaGreatPart1
import Derived.Test.YtbpfiolmmdmapaaGreatProg
import Derived.Shelf.Strings.Repeat
import Derived.Shelf.Sort.Plain
import Derived.Shelf.Slices.CompactS
import Derived.Shelf.Slices.In.SortNone

/-! The functions that the laws of this seat reach, as plain functions, and what these answer; no condition. -/
set_option linter.unusedSimpArgs false
set_option linter.unusedVariables false
set_option linter.unusedSectionVars false

open Go.Extern.AbiNoEscape renaming same->ahI
open Go.IntKind renaming i64->ahw,u8->ahy,i32->ahz,u64->ahA
open Go.Lib renaming byteCells->ahJ
open Go.Oper renaming upon_value->ahD
open Go.Proofs.Any renaming strings_Repeat->ahH
open Go.Proofs.Builder renaming Extra->ahK
open Go.Proofs.Lays renaming n105->ahL,n169->ahM,n170->ahN,n190->ahO,n194->ahP
open Go.Result renaming andThen->ahG
open Go.Shelf renaming Ren->ahE
open List renaming replicate->ahx
open Nat renaming ble->ahB,blt->ahF
open Option renaming map_eq_some_iff->ahC
section
namespace Go.Proofs
def Tryz.lays105_ren:ahE:=⟨fun|105=>33|212=>67|99=>68|165=>69|166=>70|170=>71|169=>72|263=>106|264=>107|206=>108|240=>109|241=>110|276=>140|277=>141|n=>n,fun|9=>9|3=>3|4=>4|20=>20|0=>0|46=>96|109=>136|5=>5|72=>141|76=>145|51=>38|146=>185|53=>28|148=>187|70=>139|37=>82|75=>144|127=>189|164=>233|80=>148|n=>n,fun|n=>n⟩
theorem Tryz.lays105:ahL Tryz.prog Tryz.lays105_ren:= {
  mixed:=by kernel_rfl
  f99:=Tryz.func68.trans (congrArg some (by kernel_rfl))
  f105:=Tryz.func33.trans (congrArg some (by kernel_rfl))
  f165:=Tryz.func69.trans (congrArg some (by kernel_rfl))
  f166:=Tryz.func70.trans (congrArg some (by kernel_rfl))
  f169:=Tryz.func72.trans (congrArg some (by kernel_rfl))
  f170:=Tryz.func71.trans (congrArg some (by kernel_rfl))
  f206:=Tryz.func108.trans (congrArg some (by kernel_rfl))
  f212:=Tryz.func67.trans (congrArg some (by kernel_rfl))
  f240:=Tryz.func109.trans (congrArg some (by kernel_rfl))
  f241:=Tryz.func110.trans (congrArg some (by kernel_rfl))
  f263:=Tryz.func106.trans (congrArg some (by kernel_rfl))
  f264:=Tryz.func107.trans (congrArg some (by kernel_rfl))
  f276:=Tryz.func140.trans (congrArg some (by kernel_rfl))
  f277:=Tryz.func141.trans (congrArg some (by kernel_rfl))
  t0:=Tryz.underlying0
  a0:=Tryz.isAgg0
  z0:=Tryz.sizeOf0
  v0:=Tryz.zeroValue0
  t3:=Tryz.underlying3
  a3:=Tryz.isAgg3
  z3:=Tryz.sizeOf3
  v3:=Tryz.zeroValue3
  t4:=Tryz.underlying4
  a4:=Tryz.isAgg4
  z4:=Tryz.sizeOf4
  v4:=Tryz.zeroValue4
  t5:=Tryz.underlying5
  a5:=Tryz.isAgg5
  z5:=Tryz.sizeOf5
  v5:=Tryz.zeroValue5
  t9:=Tryz.underlying9
  a9:=Tryz.isAgg9
  z9:=Tryz.sizeOf9
  v9:=Tryz.zeroValue9
  t20:=Tryz.underlying20
  a20:=Tryz.isAgg20
  z20:=Tryz.sizeOf20
  v20:=Tryz.zeroValue20
  t37:=Tryz.underlying82
  a37:=Tryz.isAgg82
  z37:=Tryz.sizeOf82
  v37:=Tryz.zeroValue82
  t46:=Tryz.underlying96
  a46:=Tryz.isAgg96
  z46:=Tryz.sizeOf96
  v46:=Tryz.zeroValue96
  t51:=Tryz.underlying38
  a51:=Tryz.isAgg38
  z51:=Tryz.sizeOf38
  v51:=Tryz.zeroValue38
  t53:=Tryz.underlying28
  a53:=Tryz.isAgg28
  z53:=Tryz.sizeOf28
  v53:=Tryz.zeroValue28
  t70:=Tryz.underlying139
  a70:=Tryz.isAgg139
  z70:=Tryz.sizeOf139
  v70:=Tryz.zeroValue139
  t72:=Tryz.underlying141
  a72:=Tryz.isAgg141
  z72:=Tryz.sizeOf141
  v72:=Tryz.zeroValue141
  t75:=Tryz.underlying144
  a75:=Tryz.isAgg144
  z75:=Tryz.sizeOf144
  v75:=Tryz.zeroValue144
  t76:=Tryz.underlying145
  a76:=Tryz.isAgg145
  z76:=Tryz.sizeOf145
  v76:=Tryz.zeroValue145
  t109:=Tryz.underlying136
  a109:=Tryz.isAgg136
  z109:=Tryz.sizeOf136
  v109:=Tryz.zeroValue136
  t127:=Tryz.underlying189
  a127:=Tryz.isAgg189
  z127:=Tryz.sizeOf189
  v127:=Tryz.zeroValue189
  t146:=Tryz.underlying185
  a146:=Tryz.isAgg185
  z146:=Tryz.sizeOf185
  v146:=Tryz.zeroValue185
  t148:=Tryz.underlying187
  a148:=Tryz.isAgg187
  z148:=Tryz.sizeOf187
  v148:=Tryz.zeroValue187
  t164:=Tryz.underlying233
  a164:=Tryz.isAgg233
  z164:=Tryz.sizeOf233
  v164:=Tryz.zeroValue233}
theorem Tryz.Builder_Extra_105:ahK Tryz.prog Tryz.lays105_ren:= {
  sizeBuilder:=by kernel_rfl
  liesBuilder:=by kernel_rfl
  t5:=Tryz.underlying5
  a5:=Tryz.isAgg5
  z5:=Tryz.sizeOf5
  v5:=Tryz.zeroValue5
  infoByte:=by kernel_rfl
  cellsByte:=by kernel_rfl
  sizeByte:=by kernel_rfl
  neB5:=by decide}
def Tryz.lays190_ren:ahE:=⟨fun|190=>146|125=>153|258=>152|128=>171|129=>172|302=>162|303=>163|304=>164|305=>165|306=>166|307=>167|308=>168|309=>169|310=>170|333=>180|329=>181|330=>182|334=>183|335=>184|336=>185|344=>186|n=>n,fun|31=>27|9=>9|3=>3|46=>96|0=>0|51=>38|53=>28|4=>4|183=>254|182=>253|131=>258|5=>5|218=>268|222=>272|228=>274|229=>275|n=>n,fun|n=>n⟩
theorem Tryz.lays190:ahO Tryz.prog Tryz.lays190_ren:= {
  mixed:=by kernel_rfl
  f125:=Tryz.func153.trans (congrArg some (by kernel_rfl))
  f128:=Tryz.func171.trans (congrArg some (by kernel_rfl))
  f129:=Tryz.func172.trans (congrArg some (by kernel_rfl))
  f190:=Tryz.func146.trans (congrArg some (by kernel_rfl))
  f258:=Tryz.func152.trans (congrArg some (by kernel_rfl))
  f302:=Tryz.func162.trans (congrArg some (by kernel_rfl))
  f303:=Tryz.func163.trans (congrArg some (by kernel_rfl))
  f304:=Tryz.func164.trans (congrArg some (by kernel_rfl))
  f305:=Tryz.func165.trans (congrArg some (by kernel_rfl))
  f306:=Tryz.func166.trans (congrArg some (by kernel_rfl))
  f307:=Tryz.func167.trans (congrArg some (by kernel_rfl))
  f308:=Tryz.func168.trans (congrArg some (by kernel_rfl))
  f309:=Tryz.func169.trans (congrArg some (by kernel_rfl))
  f310:=Tryz.func170.trans (congrArg some (by kernel_rfl))
  f329:=Tryz.func181.trans (congrArg some (by kernel_rfl))
  f330:=Tryz.func182.trans (congrArg some (by kernel_rfl))
  f333:=Tryz.func180.trans (congrArg some (by kernel_rfl))
  f334:=Tryz.func183.trans (congrArg some (by kernel_rfl))
  f335:=Tryz.func184.trans (congrArg some (by kernel_rfl))
  f336:=Tryz.func185.trans (congrArg some (by kernel_rfl))
  f344:=Tryz.func186.trans (congrArg some (by kernel_rfl))
  t0:=Tryz.underlying0
  a0:=Tryz.isAgg0
  z0:=Tryz.sizeOf0
  v0:=Tryz.zeroValue0
  t3:=Tryz.underlying3
  a3:=Tryz.isAgg3
  z3:=Tryz.sizeOf3
  v3:=Tryz.zeroValue3
  t4:=Tryz.underlying4
  a4:=Tryz.isAgg4
  z4:=Tryz.sizeOf4
  v4:=Tryz.zeroValue4
  t5:=Tryz.underlying5
  a5:=Tryz.isAgg5
  z5:=Tryz.sizeOf5
  v5:=Tryz.zeroValue5
  t9:=Tryz.underlying9
  a9:=Tryz.isAgg9
  z9:=Tryz.sizeOf9
  v9:=Tryz.zeroValue9
  t31:=Tryz.underlying27
  a31:=Tryz.isAgg27
  z31:=Tryz.sizeOf27
  v31:=Tryz.zeroValue27
  t46:=Tryz.underlying96
  a46:=Tryz.isAgg96
  z46:=Tryz.sizeOf96
  v46:=Tryz.zeroValue96
  t51:=Tryz.underlying38
  a51:=Tryz.isAgg38
  z51:=Tryz.sizeOf38
  v51:=Tryz.zeroValue38
  t53:=Tryz.underlying28
  a53:=Tryz.isAgg28
  z53:=Tryz.sizeOf28
  v53:=Tryz.zeroValue28
  t131:=Tryz.underlying258
  a131:=Tryz.isAgg258
  z131:=Tryz.sizeOf258
  v131:=Tryz.zeroValue258
  t182:=Tryz.underlying253
  a182:=Tryz.isAgg253
  z182:=Tryz.sizeOf253
  v182:=Tryz.zeroValue253
  t183:=Tryz.underlying254
  a183:=Tryz.isAgg254
  z183:=Tryz.sizeOf254
  v183:=Tryz.zeroValue254
  t218:=Tryz.underlying268
  a218:=Tryz.isAgg268
  z218:=Tryz.sizeOf268
  v218:=Tryz.zeroValue268
  t222:=Tryz.underlying272
  a222:=Tryz.isAgg272
  z222:=Tryz.sizeOf272
  v222:=Tryz.zeroValue272
  t228:=Tryz.underlying274
  a228:=Tryz.isAgg274
  z228:=Tryz.sizeOf274
  v228:=Tryz.zeroValue274
  t229:=Tryz.underlying275
  a229:=Tryz.isAgg275
  z229:=Tryz.sizeOf275
  v229:=Tryz.zeroValue275}
def Tryz.lays194_ren:ahE:=⟨fun|194=>136|n=>n,fun|31=>27|9=>9|3=>3|4=>4|0=>0|n=>n,fun|n=>n⟩
theorem Tryz.lays194:ahP Tryz.prog Tryz.lays194_ren:= {
  mixed:=by kernel_rfl
  f194:=Tryz.func136.trans (congrArg some (by kernel_rfl))
  t0:=Tryz.underlying0
  a0:=Tryz.isAgg0
  z0:=Tryz.sizeOf0
  v0:=Tryz.zeroValue0
  t3:=Tryz.underlying3
  a3:=Tryz.isAgg3
  z3:=Tryz.sizeOf3
  v3:=Tryz.zeroValue3
  t4:=Tryz.underlying4
  a4:=Tryz.isAgg4
  z4:=Tryz.sizeOf4
  v4:=Tryz.zeroValue4
  t9:=Tryz.underlying9
  a9:=Tryz.isAgg9
  z9:=Tryz.sizeOf9
  v9:=Tryz.zeroValue9
  t31:=Tryz.underlying27
  a31:=Tryz.isAgg27
  z31:=Tryz.sizeOf27
  v31:=Tryz.zeroValue27}
end Go.Proofs
section
set_option maxRecDepth 100000
namespace Go.Proofs
open Go.Shelf Go.RowKit
def Tryz.bld_ren:ahE:=⟨fun|166=>70|169=>72|170=>71|240=>109|n=>n,fun|70=>139|9=>9|0=>0|72=>141|37=>82|127=>189|3=>3|5=>5|4=>4|20=>20|46=>96|109=>136|76=>145|51=>38|146=>185|53=>28|148=>187|75=>144|164=>233|80=>148|n=>n,fun|n=>n⟩
theorem Tryz.bld169:ahM Tryz.prog Tryz.bld_ren:= {
  mixed:=by kernel_rfl
  f169:=Tryz.func72.trans (congrArg some (by kernel_rfl))
  t0:=Tryz.underlying0
  a0:=Tryz.isAgg0
  z0:=Tryz.sizeOf0
  v0:=Tryz.zeroValue0
  t3:=Tryz.underlying3
  a3:=Tryz.isAgg3
  z3:=Tryz.sizeOf3
  v3:=Tryz.zeroValue3
  t9:=Tryz.underlying9
  a9:=Tryz.isAgg9
  z9:=Tryz.sizeOf9
  v9:=Tryz.zeroValue9
  t37:=Tryz.underlying82
  a37:=Tryz.isAgg82
  z37:=Tryz.sizeOf82
  v37:=Tryz.zeroValue82
  t70:=Tryz.underlying139
  a70:=Tryz.isAgg139
  z70:=Tryz.sizeOf139
  v70:=Tryz.zeroValue139
  t72:=Tryz.underlying141
  a72:=Tryz.isAgg141
  z72:=Tryz.sizeOf141
  v72:=Tryz.zeroValue141
  t127:=Tryz.underlying189
  a127:=Tryz.isAgg189
  z127:=Tryz.sizeOf189
  v127:=Tryz.zeroValue189}
theorem Tryz.bld170:ahN Tryz.prog Tryz.bld_ren:= {
  mixed:=by kernel_rfl
  f170:=Tryz.func71.trans (congrArg some (by kernel_rfl))
  t0:=Tryz.underlying0
  a0:=Tryz.isAgg0
  z0:=Tryz.sizeOf0
  v0:=Tryz.zeroValue0
  t3:=Tryz.underlying3
  a3:=Tryz.isAgg3
  z3:=Tryz.sizeOf3
  v3:=Tryz.zeroValue3
  t37:=Tryz.underlying82
  a37:=Tryz.isAgg82
  z37:=Tryz.sizeOf82
  v37:=Tryz.zeroValue82
  t70:=Tryz.underlying139
  a70:=Tryz.isAgg139
  z70:=Tryz.sizeOf139
  v70:=Tryz.zeroValue139
  t72:=Tryz.underlying141
  a72:=Tryz.isAgg141
  z72:=Tryz.sizeOf141
  v72:=Tryz.zeroValue141}
theorem Tryz.bldX:ahK Tryz.prog Tryz.bld_ren:= {
  sizeBuilder:=by kernel_rfl
  liesBuilder:=by kernel_rfl
  t5:=Tryz.underlying5
  a5:=Tryz.isAgg5
  z5:=Tryz.sizeOf5
  v5:=Tryz.zeroValue5
  infoByte:=by kernel_rfl
  cellsByte:=by kernel_rfl
  sizeByte:=by kernel_rfl
  neB5:=by decide}
theorem Tryz.bld166:Tryz.prog.funcs[Tryz.bld_ren.f 166]?=some (Body.n166 Tryz.bld_ren):=Tryz.func70.trans (congrArg some (by kernel_rfl))
theorem Tryz.bld240: ∀args w,(callFunc (Tryz.bld_ren.f 240) args).run Tryz.prog w= .ok (.enter (Tryz.bld_ren.f 240) args) w:=enters_of Tryz.func109 (by kernel_rfl) rfl
set_option maxHeartbeats 1000000 in
theorem Tryz.bld_used(b:Nat)(w:World)(h0:w.cell? ⟨b,0,none⟩=some (.pointer (some ⟨b,0,none⟩))):
    Calls Tryz.prog 109 #[.pointer (some ⟨b,0,none⟩)] w fun e w'=>e= .returned (.tuple #[])/\w'=w:=by
  obtain⟨j,hj,hjs⟩:=ahC.1 Tryz.bldX.sizeBuilder;have hj:Tryz.prog.info? 141=some j:=hj;have mixed:=Tryz.bld169.mixed;have t72:=Tryz.underlying141;have a72:=Tryz.isAgg141;have z72:=Tryz.sizeOf141;have v72:=Tryz.zeroValue141;have u72:=run_underlying Tryz.underlying141;have t70:=Tryz.underlying139;have a70:=Tryz.isAgg139;have z70:=Tryz.sizeOf139;have v70:=Tryz.zeroValue139;have u70:=run_underlying Tryz.underlying139;have t9:=Tryz.underlying9;have a9:=Tryz.isAgg9;have z9:=Tryz.sizeOf9;have v9:=Tryz.zeroValue9;have u9:=run_underlying Tryz.underlying9;have t4:=Tryz.underlying4;have a4:=Tryz.isAgg4;have z4:=Tryz.sizeOf4;have v4:=Tryz.zeroValue4;have u4:=run_underlying Tryz.underlying4;have t164:=Tryz.underlying233;have a164:=Tryz.isAgg233;have z164:=Tryz.sizeOf233;have v164:=Tryz.zeroValue233;have u164:=run_underlying Tryz.underlying233
  go_enter Tryz.func109,(show Tryz.f109.ntmps=20 by kernel_rfl)
  go_wp2
  rw[Lib.run_neq_ptr_same w _ t70 hj]
  go_wp2
  go_end0
  exact⟨rfl,rfl⟩
set_option maxHeartbeats 1000000 in
theorem Tryz.bld_fresh(b:Nat)(w:World)(h0:w.cell? ⟨b,0,none⟩=some (.pointer none))(hsh:w.shape? b=some (141,2))(hfz:w.frozen? ⟨b,0,none⟩=false):
    Calls Tryz.prog 109 #[.pointer (some ⟨b,0,none⟩)] w fun e w'=>e= .returned (.tuple #[])/\w'=w.setCell ⟨b,0,none⟩ (.pointer (some ⟨b,0,none⟩)):=by
  obtain⟨j,hj,hjs⟩:=ahC.1 Tryz.bldX.sizeBuilder;have hj:Tryz.prog.info? 141=some j:=hj;have mixed:=Tryz.bld169.mixed;have t72:=Tryz.underlying141;have a72:=Tryz.isAgg141;have z72:=Tryz.sizeOf141;have v72:=Tryz.zeroValue141;have u72:=run_underlying Tryz.underlying141;have t70:=Tryz.underlying139;have a70:=Tryz.isAgg139;have z70:=Tryz.sizeOf139;have v70:=Tryz.zeroValue139;have u70:=run_underlying Tryz.underlying139;have t9:=Tryz.underlying9;have a9:=Tryz.isAgg9;have z9:=Tryz.sizeOf9;have v9:=Tryz.zeroValue9;have u9:=run_underlying Tryz.underlying9;have t4:=Tryz.underlying4;have a4:=Tryz.isAgg4;have z4:=Tryz.sizeOf4;have v4:=Tryz.zeroValue4;have u4:=run_underlying Tryz.underlying4;have t164:=Tryz.underlying233;have a164:=Tryz.isAgg233;have z164:=Tryz.sizeOf233;have v164:=Tryz.zeroValue233;have u164:=run_underlying Tryz.underlying233
  go_enter Tryz.func109,(show Tryz.f109.ntmps=20 by kernel_rfl)
  go_wp2
  rw[Lib.run_to_unsafe w ⟨b,0,none⟩ t70 t164 hj (by rw[hjs];decide) hsh (Nat.zero_lt_succ 1)];simp only[ahG];rw[ahD]
  go_wp2
  rw[run_callFunc_extern Tryz.func140 (by kernel_rfl) (by kernel_rfl) (by kernel_rfl) (e:=ahI) (by kernel_rfl)];rw[Lib.run_noEscape];simp only[ahG];rw[ahD]
  go_wp2
  rw[Lib.run_from_unsafe w ⟨b,0,none⟩ t164 t70 hj hsh Tryz.bldX.liesBuilder];simp only[ahG];rw[ahD]
  go_wp2
  go_end0
  exact⟨rfl,rfl⟩
open Go.AM in
theorem Tryz.bld_cc(b:Nat)(v:Value)(bs:List Value)(w:World)(h:sN 141 5 b v bs w):Calls Tryz.prog 109 #[.pointer (some ⟨b,0,none⟩)] w (BD 141 5 b v bs w):=K_ h (fun h1 h2 h3=>Tryz.bld_fresh b w h1 h2 h3) (fun h1=>Tryz.bld_used b w h1)
open Go.AM in
theorem Tryz.bld_ws(b:Nat)(v:Value)(bs:List Value)(s:ByteArray)(w:World)(h:sN 141 5 b v bs w)(hlen:bs.length+s.size<=140737488355328):
    Calls Tryz.prog 70 #[.pointer (some ⟨b,0,none⟩),.string s] w fun e w'=>e= .returned (.tuple #[.int .i64 s.size,.nilIface])/\Only b v.ownBlock w w'/\ ∃v',sN 141 5 b v' (bs++Lib.strCells s) w'/\ ∀k,v'.ownBlock=some k->v.ownBlock=some k\/w.heap.size<=k:=
  Fh (ρ:=Tryz.bld_ren) Tryz.bld169 Tryz.bldX Tryz.bld166 Tryz.bld240 Tryz.bld_cc b v bs s w h hlen
open Go.AM in
theorem Tryz.bld_str(b:Nat)(v:Value)(l:List UInt8)(w:World)(h:sN 141 5 b v (ahJ l) w):
    Calls Tryz.prog 72 #[.pointer (some ⟨b,0,none⟩)] w fun e w'=>e= .returned (.string ⟨l.toArray⟩)/\Only b v.ownBlock w w'/\sN 141 5 b v (ahJ l) w':=IJ (ρ:=Tryz.bld_ren) Tryz.bld169 Tryz.bldX b v l w h
open Go.AM in
theorem Tryz.bld_len(b:Nat)(v:Value)(bs:List Value)(w:World)(h:sN 141 5 b v bs w):
    Calls Tryz.prog 71 #[.pointer (some ⟨b,0,none⟩)] w fun e w'=>e= .returned (.int .i64 bs.length)/\w'=w:=J9 (ρ:=Tryz.bld_ren) Tryz.bld170 b v bs w h
end Go.Proofs
end
namespace Go.AM
open Go.Proofs
noncomputable abbrev P:=Tryz.prog
instance tb:Tabs:=Tabs.nil
universe u
theorem an{α:Type u}{p:α->Prop}: ∀k∈([]:List α),p k:=fun k h=>nomatch h
theorem ac{α:Type u}{p:α->Prop}{a:α}{l:List α}(h:p a)(k: ∀x∈l,p x): ∀x∈a::l,p x:=fun x hx=>by
  rcases List.mem_cons.1 hx with rfl|hx
  · exact h
  · exact k x hx
set_option maxRecDepth 100000
set_option linter.unusedVariables false
noncomputable section
variable (m_:Dq)
def adZ:BK:=⟨141,5,70,72,71⟩
theorem ac0:adZ.OK P:=⟨by kernel_rfl,by kernel_rfl,by kernel_rfl,Go.Proofs.Tryz.bld_ws,Go.Proofs.Tryz.bld_str,Go.Proofs.Tryz.bld_len⟩
def afw:SK:=⟨146,136⟩
theorem adi:afw.OK P:=⟨by kernel_rfl,by kernel_rfl,fun b o c ss w h1 h2 h3=>Go.Proofs.Any.slices_Sort_string Go.Proofs.Tryz.lays190 b o c ss w h1 h2 h3,fun p c w=>Go.Proofs.Any.slices_Sort_string_none Go.Proofs.Tryz.lays190 p c w,fun b o c ss w h1 h2 h3=>Go.Proofs.Any.slices_Compact_string Go.Proofs.Tryz.lays194 b o c ss w h1 h2 h3,fun p c w=>Go.Proofs.Any.slices_Compact_string_empty Go.Proofs.Tryz.lays194 p c w⟩
abbrev tY0:Ty:= .pair .str .str
abbrev V5:Ty:= .lst (.int .u8)
abbrev Yy:Ty:= .arr 4 (.int .u8)
abbrev Ua:Ty:= .arr 16 (.int .u8)
abbrev tY4:Ty:= .arr 3 (.int .u32)
abbrev TW:Ty:= .arr 256 (.int .u8)
abbrev Xp:Ty:= .pair (.int .i64) .str
abbrev tY7:Ty:= .lst V5
abbrev tY8:Ty:= .pair .str (.int .i64)
abbrev tY9:Ty:= .pair .str tY0
abbrev Qr:Ty:= .lst Xp
abbrev adT:Ty:= .pair (.int .u64) (.int .u64)
abbrev adn:Ty:= .pair (.int .i64) (.int .i64)
abbrev TU:Ty:= .arr 16 TW
abbrev afx:Ty:= .pair (.lst .str) tY0
abbrev acp:Ty:= .pair (.int .i64) tY0
abbrev afy:Ty:= .pair .str adT
abbrev afz:Ty:= .pair (.int .u32) tY8
abbrev Xo:Ty:= .pair .str afx
abbrev afA:Ty:= .pair (.int .u64) Qr
abbrev afB:Ty:= .lst afz
abbrev adU:Ty:= .pair (.int .u64) adT
abbrev afC:Ty:= .pair .str afy
abbrev Uo:Ty:= .lst Xo
abbrev afD:Ty:= .pair .str afC
abbrev afE:Ty:= .pair (.int .u64) adU
abbrev Q7:Ty:= .pair .bool Uo
abbrev afF:Ty:= .pair (.int .u64) afA
abbrev afG:Ty:= .pair afB (.int .u32)
abbrev afH:Ty:= .pair (.int .u32) adU
abbrev ahu:Ty:= .pair (.int .i64) afD
abbrev afI:Ty:= .pair (.int .u64) afF
abbrev afJ:Ty:= .pair (.int .u64) afE
abbrev afK:Ty:= .pair (.int .u32) afH
abbrev afL:Ty:= .pair .str afJ
abbrev afM:Ty:= .pair (.int .u64) afI
abbrev afN:Ty:= .pair (.int .u32) afK
abbrev afO:Ty:= .pair .str afL
abbrev afP:Ty:= .pair (.int .i64) afN
abbrev afQ:Ty:= .pair (.int .u32) afM
abbrev afR:Ty:= .pair (.lst .str) afO
abbrev afS:Ty:= .pair (.int .i64) afP
abbrev afT:Ty:= .pair (.int .u32) afQ
abbrev afU:Ty:= .pair (.int .u32) afT
abbrev TV:Ty:= .pair acp afR
abbrev afV:Ty:= .pair (.int .i64) afU
abbrev afW:Ty:= .pair (.int .i64) afV
abbrev afX:Ty:= .pair (.int .i64) afW
abbrev ahv:Ty:= .pair afG afS
abbrev afY:Ty:= .pair (.int .i64) afX
abbrev afZ:Ty:= .pair (.int .i64) afY
abbrev W_:Ty:= .pair (.int .i64) afZ
abbrev af0:Ty:= .pair W_ adn
abbrev af2:Ty:= .pair .str af0
abbrev af4:Ty:= .pair .str af2
abbrev acr:Ty:= .pair (.int .i64) af4
abbrev abn:Type:=(List Int×(List Int×List Int))
abbrev agc:Type:=(List (Int×(List Int×Int))×Int)
abbrev SX:Type:=(List Int×(List (List Int)×(List Int×List Int)))
abbrev agb:Type:=(Int×(List Int×(List Int×(List Int×(Int×Int)))))
abbrev QY:Type:=(Bool×List (List Int×(List (List Int)×(List Int×List Int))))
abbrev aga:Type:=((List (Int×(List Int×Int))×Int)×(Int×(Int×(Int×(Int×(Int×(Int×(Int×Int))))))))
abbrev XH:Type:=((Int×(List Int×List Int))×(List (List Int)×(List Int×(List Int×(Int×(Int×(Int×(Int×Int))))))))
abbrev DT5:Type:=(Int×(Int×(Int×(Int×(Int×(Int×(Int×(Int×(Int×(Int×(Int×(Int×(Int×List (Int×List Int))))))))))))))
abbrev DT1:Type:=(Int×(List Int×(List Int×((Int×(Int×(Int×(Int×(Int×(Int×(Int×(Int×(Int×(Int×(Int×(Int×(Int×List (Int×List Int))))))))))))))×(Int×Int)))))
abbrev Pj:(List Int×(List (List Int)×(List Int×List Int))):=(([]:List Int),(([]:List (List Int)),(([]:List Int),([]:List Int))))
abbrev WA:(List (Int×List Int)×List (Int×List Int)):=(([]:List (Int×List Int)),([]:List (Int×List Int)))
abbrev ac6:(List Int×(List Int×List Int)):=(([]:List Int),(([]:List Int),([]:List Int)))
namespace Nc
def O(m_:Dq):OO P:=lI []
def o0:dJ:= .c [.b,.dat Uo]
def e0:Spec:=⟨[fs 29 [.q 29852,.z 29852,.b 2,.b 1,.q 467,.z 116,.b 0,.q 15] [(1,.ptr 0 0),(3,.w),(4,.w),(5,.ptr 1 0),(6,.w)]],[(0,o0),(1,.c [.s,.t,.s,.s])],2⟩
def x0:List Spec:=[⟨[fs 29 [.q 467,.z 116,.b 0,.q 15] [(1,.ptr 0 0),(3,.w),(4,.w)]],[(0,o0)],1⟩]
abbrev A0:Type:=Int×Int×Int×Bool×(List (List Int×(List LI×(List Int×List Int))))×LI×LL×LI×LI×Unit
abbrev B0:Type:=(Int×Int×Bool×(List (List Int×(List LI×(List Int×List Int))))×Unit)
def b0(m_:Dq)(self:A0->Option B0):A0->Option B0:=fun v_=>match v_ with
|(left,i,j,m,m1,m2,m3,m4,m5,())=>
 bif wB (m3.length:Int)then
 bif((decide (j<(m3.length:Int)))&&(decide (left>=0)))then
  bif inB j (m3.length:Int)then
  bif wB ((rd ([]:List Int) m3 j).length:Int)then
  self ((ahw.wrap (left-((rd ([]:List Int) m3 j).length:Int))),i,(ahw.wrap (j+1)),m,m1,m2,m3,m4,m5,())else none else none
 else
  some (left,i,m,m1,())else none
theorem k0:KQ 29 (O m_) [] e0 x0 [] (b0 m_):=fun _ _=>by kernel_rfl
def l0:=loop m_ (b0 m_)
theorem q0(v):l0 .lim v=b0 .lim (l0 .lim) v:=KS.q (k0 .lim) v
def s0:=so m_ (k0 m_)
def e1:Spec:=⟨[fs 29 [.q 116,.z 116,.b 0,.q 15] [(1,.ptr 0 0),(3,.w),(4,.w)]],[(0,o0)],1⟩
def x1:List Spec:=[⟨[fs 29 [.q 15] [(1,.ptr 0 0),(3,.w)]],[(0,o0)],1⟩]
abbrev A1:Type:=Int×Int×Bool×(List (List Int×(List LI×(List Int×List Int))))×Unit
abbrev B1:Type:=(Int×Bool×(List (List Int×(List LI×(List Int×List Int))))×Unit)
def b1(self:A1->Option B1):A1->Option B1:=fun v_=>match v_ with
|(left,i,m,m1,())=>
 bif wB (m1.length:Int)then
 bif((decide (i<(m1.length:Int)))&&(decide (left>=0)))then
  bif inB i (m1.length:Int)then
  bif wB (((rd Pj m1 i).1).length:Int)then
  bif wB (((((rd Pj m1 i).2).2).1).length:Int)then
  bif wB (((((rd Pj m1 i).2).2).2).length:Int)then
  bif wB ((((rd Pj m1 i).2).1).length:Int)then
  (Nc.l0 m_ ((ahw.wrap ((ahw.wrap ((ahw.wrap ((ahw.wrap ((ahw.wrap (left-10))-(((rd Pj m1 i).1).length:Int)))-(((((rd Pj m1 i).2).2).1).length:Int)))-(((((rd Pj m1 i).2).2).2).length:Int)))-((((rd Pj m1 i).2).1).length:Int))),i,0,m,m1,(rd Pj m1 i).1,((rd Pj m1 i).2).1,(((rd Pj m1 i).2).2).1,(((rd Pj m1 i).2).2).2,())).bind fun (left1,i1,m2,m3,())=>
  self (left1,(ahw.wrap (i1+1)),m2,m3,())else none else none else none else none else none
 else
  some (left,m,m1,())else none
theorem k1:KQ 29 (O m_) [] e1 x1 [s0 m_] (b1 m_):=fun _ _=>by kernel_rfl
def l1:=loop m_ (b1 m_)
theorem q1(v):l1 .lim v=b1 .lim (l1 .lim) v:=KS.q (k1 .lim) v
def s1:=so m_ (k1 m_)
def run:QY×Unit->Option (Bool):=fun v_=>match v_ with
|(v,())=>
 (Nc.l1 m_ (400000,0,v.1,v.2,())).bind fun (left,m,m1,())=>
 bif((!(decide (left>=0)))||(wB (m1.length:Int)))then
 some ((decide (left>=0))&&(decide ((m1.length:Int)<=300)))else none
theorem k:KT (O m_) [] ⟨29,[.ag Q7],.one (.sh (.one .bool)),run m_⟩ [s1 m_]:=fun _=>by kernel_rfl
def c:=co (k m_)
end Nc

namespace NY
def O(m_:Dq):OO P:=lI []
def e0:Spec:=⟨[fs 65 [.q 116,.z 116,.b 0,.q 15] [(0,.w),(5,.oy 0),(6,.w)]],[(0,.c [.ry])],1⟩
def x0:List Spec:=[⟨[fs 65 [.q 15] [(5,.oy 0)]],[(0,.c [.ry])],1⟩]
abbrev A0:Type:=Int×Int×LI×Unit
abbrev B0:Type:=(LI×Unit)
def b0(m_:Dq)(self:A0->Option B0):A0->Option B0:=fun v_=>match v_ with
|(n,i,m,())=>
 bif decide (i>=0)then
  bif inB i (m.length:Int)then
  self ((ahw.wrap (n.tdiv 256)),(ahw.wrap (i-1)),(m.set i.toNat (ahy.wrap (n.tmod 256))),())else none
 else
  some (m,())
theorem k0:KQ 65 (O m_) [] e0 x0 [] (b0 m_):=fun _ _=>by kernel_rfl
def l0:=loop m_ (b0 m_)
theorem q0(v):l0 .lim v=b0 .lim (l0 .lim) v:=KS.q (k0 .lim) v
def s0:=so m_ (k0 m_)
def run:Int×(List Int)×Unit->Option (List Int):=fun v_=>match v_ with
|(n,plain,())=>
 bif wB (plain.length:Int)then
 bif(((decide (0<=(ahw.wrap (16+(plain.length:Int)))))&&(decide ((ahw.wrap (16+(plain.length:Int)))<=(ahw.wrap (16+(plain.length:Int))))))&&(ahF ((ahw.wrap (16+(plain.length:Int))).toNat) 70368744177664))then
 (NY.l0 m_ (n,15,(ahx ((ahw.wrap (16+(plain.length:Int))).toNat) 0),())).bind fun (m,())=>
 some m else none else none
theorem k:KT (O m_) [] ⟨65,[.one (.int .i64),.one .str],.one (.sh (.one .str)),run m_⟩ [s0 m_]:=fun _=>by kernel_rfl
def c:=co (k m_)
end NY

namespace NS
def O(m_:Dq):OO P:=lI []
def e0:Spec:=⟨[fs 79 [.q 116,.z 116,.b 0,.q 15] [(0,.t),(1,.t),(5,.w)]],[],0⟩
def x0:List Spec:=[⟨[fs 79 [.q 7461,.b 1,.q 467,.z 116,.b 0,.q 15] [(4,.b)]],[],0⟩,⟨[fs 79 [.q 15] []],[],0⟩]
abbrev A0:Type:=LL×LL×Int×Unit
abbrev B0:Type:=(Bool×Unit) ⊕ (Unit)
def b0(m_:Dq)(self:A0->Option B0):A0->Option B0:=fun v_=>match v_ with
|(a,b,i,())=>
 bif wB (a.length:Int)then
 bif decide (i<(a.length:Int))then
  bif inB i (a.length:Int)then
  bif inB i (b.length:Int)then
  bif !(decide ((rd ([]:List Int) a i)=(rd ([]:List Int) b i)))then
   some (.inl (false,()))
  else
   self (a,b,(ahw.wrap (i+1)),())else none else none
 else
  some (.inr (()))else none
theorem k0:KQ 79 (O m_) [] e0 x0 [] (b0 m_):=fun _ _=>by kernel_rfl
def l0:=loop m_ (b0 m_)
theorem q0(v):l0 .lim v=b0 .lim (l0 .lim) v:=KS.q (k0 .lim) v
def s0:=so m_ (k0 m_)
def run:(List (List Int))×(List (List Int))×Unit->Option (Bool):=fun v_=>match v_ with
|(a,b,())=>
 bif wB (a.length:Int)then
 bif wB (b.length:Int)then
 bif !(decide ((a.length:Int)=(b.length:Int)))then
  some false
 else
  (NS.l0 m_ (a,b,0,())).bind fun g_=>match g_ with
  | .inl (t,())=>
   some t
  | .inr (())=>
   some true else none else none
theorem k:KT (O m_) [] ⟨79,[.one (.lst .str),.one (.lst .str)],.one (.sh (.one .bool)),run m_⟩ [s0 m_]:=fun _=>by kernel_rfl
def c:=co (k m_)
end NS

namespace Og
def O:OO P:=lI [NS.c m_]
def run:SX×SX×Unit->Option (Bool):=fun v_=>match v_ with
|(a,b,())=>
 ((bif((decide (a.1=b.1))&&(decide (a.2.2.1=b.2.2.1)))then NS.run m_ (a.2.1,b.2.1,())else some false)).bind fun r=>
 some (((decide (a.1=b.1))&&(decide (a.2.2.1=b.2.2.1)))&&r)
theorem k:KT (O m_) [] ⟨37,[.ag Xo,.ag Xo],.one (.sh (.one .bool)),run m_⟩ []:=fun _=>by kernel_rfl
def c:=co (k m_)
end Og

namespace Nz
def O:OO P:=lI [Og.c m_,NY.c m_]
def o0:dJ:= .c [.b,.dat Uo]
def f1:gB:=fs 30 [.q 4007717,.b 3,.q 250483,.z 62620,.b 2,.b 1,.q 979,.z 244,.b 0,.q 31] [(2,.b)]
def e0:Spec:=⟨[fs 30 [.q 62620,.z 62620,.b 2,.b 1,.q 979,.z 244,.b 0,.q 31] [(1,.ptr 0 0),(3,.w),(4,.ptr 1 0),(5,.w)]],[(0,o0),(1,.c [.s,.t,.s,.s])],2⟩
def x0:List Spec:=[⟨[f1],[],0⟩,⟨[fs 30 [.q 979,.z 244,.b 0,.q 31] [(1,.ptr 0 0),(3,.w)]],[(0,o0)],1⟩]
abbrev A0:Type:=Int×Int×Bool×(List (List Int×(List LI×(List Int×List Int))))×LI×LL×LI×LI×Unit
abbrev B0:Type:=(Bool×Unit) ⊕ (Int×Bool×(List (List Int×(List LI×(List Int×List Int))))×Unit)
def b0(self:A0->Option B0):A0->Option B0:=fun v_=>match v_ with
|(i,j,m,m1,m2,m3,m4,m5,())=>
 bif decide (j<i)then
  bif inB j (m1.length:Int)then
  (Og.run m_ ((m2,(m3,(m4,m5))),(rd Pj m1 j),())).bind fun r=>
  bif r then
   some (.inl (false,()))
  else
   self (i,(ahw.wrap (j+1)),m,m1,m2,m3,m4,m5,())else none
 else
  some (.inr (i,m,m1,()))
theorem k0:KQ 30 (O m_) [] e0 x0 [] (b0 m_):=fun _ _=>by kernel_rfl
def l0:=loop m_ (b0 m_)
theorem q0(v):l0 .lim v=b0 .lim (l0 .lim) v:=KS.q (k0 .lim) v
def s0:=so m_ (k0 m_)
def e1:Spec:=⟨[fs 30 [.q 244,.z 244,.b 0,.q 31] [(1,.ptr 0 0),(3,.w)]],[(0,o0)],1⟩
def x1:List Spec:=[⟨[fs 30 [.q 62613,.q 7827,.b 1,.q 979,.z 244,.b 0,.q 31] [(2,.b)]],[],0⟩,⟨[f1],[],0⟩,⟨[fs 30 [.q 31] []],[],0⟩]
abbrev A1:Type:=Int×Bool×(List (List Int×(List LI×(List Int×List Int))))×Unit
abbrev B1:Type:=(Bool×Unit) ⊕ (Bool×Unit) ⊕ (Unit)
def b1(self:A1->Option B1):A1->Option B1:=fun v_=>match v_ with
|(i,m,m1,())=>
 bif wB (m1.length:Int)then
 bif decide (i<(m1.length:Int))then
  bif inB i (m1.length:Int)then
  bif wB (((rd Pj m1 i).1).length:Int)then
  bif((!(!(decide ((((rd Pj m1 i).1).length:Int)=32))))||(wB (((rd Pj m1 i).1).length:Int)))then
  bif((!(!((!(decide ((((rd Pj m1 i).1).length:Int)=32)))&&(!(decide ((((rd Pj m1 i).1).length:Int)=64))))))||(wB ((((rd Pj m1 i).2).1).length:Int)))then
  bif((!(!(((!(decide ((((rd Pj m1 i).1).length:Int)=32)))&&(!(decide ((((rd Pj m1 i).1).length:Int)=64))))||(decide (((((rd Pj m1 i).2).1).length:Int)>126)))))||(wB (((((rd Pj m1 i).2).2).1).length:Int)))then
  ((bif !((((!(decide ((((rd Pj m1 i).1).length:Int)=32)))&&(!(decide ((((rd Pj m1 i).1).length:Int)=64))))||(decide (((((rd Pj m1 i).2).1).length:Int)>126)))||(decide ((((((rd Pj m1 i).2).2).1).length:Int)>65536)))then NY.run m_ ((ahw.wrap (i+1)),(((rd Pj m1 i).2).2).1,())else some ([]:List Int))).bind fun r=>
  bif(((((!(decide ((((rd Pj m1 i).1).length:Int)=32)))&&(!(decide ((((rd Pj m1 i).1).length:Int)=64))))||(decide (((((rd Pj m1 i).2).1).length:Int)>126)))||(decide ((((((rd Pj m1 i).2).2).1).length:Int)>65536)))||(!(decide (((((rd Pj m1 i).2).2).2)=r))))then
   some (.inl (false,()))
  else
   (Nz.l0 m_ (i,0,m,m1,(rd Pj m1 i).1,((rd Pj m1 i).2).1,(((rd Pj m1 i).2).2).1,(((rd Pj m1 i).2).2).2,())).bind fun g_=>match g_ with
   | .inl (t,())=>
    some (.inr (.inl (t,())))
   | .inr (i1,m2,m3,())=>
    self ((ahw.wrap (i1+1)),m2,m3,())else none else none else none else none else none
 else
  some (.inr (.inr (())))else none
theorem k1:KQ 30 (O m_) [] e1 x1 [s0 m_] (b1 m_):=fun _ _=>by kernel_rfl
def l1:=loop m_ (b1 m_)
theorem q1(v):l1 .lim v=b1 .lim (l1 .lim) v:=KS.q (k1 .lim) v
def s1:=so m_ (k1 m_)
def run:QY×Unit->Option (Bool):=fun v_=>match v_ with
|(v,())=>
 bif !v.1 then
  bif wB (v.2.length:Int)then
  some (decide ((v.2.length:Int)=0))else none
 else
  bif wB (v.2.length:Int)then
  bif decide ((v.2.length:Int)>2048)then
   some false
  else
   (Nz.l1 m_ (0,v.1,v.2,())).bind fun g_=>match g_ with
   | .inl (t,())=>
    some t
   | .inr (.inl (t1,()))=>
    some t1
   | .inr (.inr (()))=>
    some true else none
theorem k:KT (O m_) [] ⟨30,[.ag Q7],.one (.sh (.one .bool)),run m_⟩ [s1 m_]:=fun _=>by kernel_rfl
def c:=co (k m_)
end Nz

namespace Pn
def O(m_:Dq):OO P:=lI []
def run(m_:Dq):Int×Unit->Option (Int):=fun v_=>match v_ with
|(aar,())=>
 bif decide (aar=15)then
  some 32
 else
  bif decide (aar=17)then
   some 64
  else
   some 0
theorem k:KT (O m_) [] ⟨54,[.one (.int .i64)],.one (.sh (.one (.int .i64))),run m_⟩ []:=fun _=>by kernel_rfl
def c:=co (k m_)
end Pn

namespace Qg
def O:OO P:=lI [Pn.c m_]
def run:(Int×(List Int×List Int))×Unit->Option (Bool):=fun v_=>match v_ with
|(k,())=>
 (Pn.run m_ (k.1,())).bind fun r=>
 bif((!(decide (r>0)))||(wB (k.2.1.length:Int)))then
 bif((!((decide (r>0))&&(decide ((k.2.1.length:Int)=r))))||(wB (k.2.2.length:Int)))then
 some (((decide (r>0))&&(decide ((k.2.1.length:Int)=r)))&&(decide ((k.2.2.length:Int)=r)))else none else none
theorem k:KT (O m_) [] ⟨23,[.ag acp],.one (.sh (.one .bool)),run m_⟩ []:=fun _=>by kernel_rfl
def c:=co (k m_)
end Qg

namespace O8
def O(m_:Dq):OO P:=lI []
def run(m_:Dq):(List Int)×Unit->Option (Bool):=fun v_=>match v_ with
|(s,())=>
 bif wB (s.length:Int)then
 bif((!(decide ((s.length:Int)>=12)))||(wB (s.length:Int)))then
 bif((!((decide ((s.length:Int)>=12))&&(decide ((s.length:Int)<=256))))||(wB (s.length:Int)))then
 bif((!((decide ((s.length:Int)>=12))&&(decide ((s.length:Int)<=256))))||true)then
 some (((decide ((s.length:Int)>=12))&&(decide ((s.length:Int)<=256)))&&(decide (((s.length:Int).tmod 4)=0)))else none else none else none else none
theorem k:KT (O m_) [] ⟨51,[.one .str],.one (.sh (.one .bool)),run m_⟩ []:=fun _=>by kernel_rfl
def c:=co (k m_)
end O8

namespace NV
def O(m_:Dq):OO P:=lI []
def e0:Spec:=⟨[fs 52 [.q 52,.z 52,.b 0,.q 7] [(0,.t),(1,.s),(5,.w)]],[],0⟩
def x0:List Spec:=[⟨[fs 52 [.q 3365,.b 1,.q 211,.z 52,.b 0,.q 7] [(4,.b)]],[],0⟩,⟨[fs 52 [.q 7] []],[],0⟩]
abbrev A0:Type:=LL×LI×Int×Unit
abbrev B0:Type:=(Bool×Unit) ⊕ (Unit)
def b0(m_:Dq)(self:A0->Option B0):A0->Option B0:=fun v_=>match v_ with
|(l,s,i,())=>
 bif wB (l.length:Int)then
 bif decide (i<(l.length:Int))then
  bif inB i (l.length:Int)then
  bif decide ((rd ([]:List Int) l i)=s)then
   some (.inl (true,()))
  else
   self (l,s,(ahw.wrap (i+1)),())else none
 else
  some (.inr (()))else none
theorem k0:KQ 52 (O m_) [] e0 x0 [] (b0 m_):=fun _ _=>by kernel_rfl
def l0:=loop m_ (b0 m_)
theorem q0(v):l0 .lim v=b0 .lim (l0 .lim) v:=KS.q (k0 .lim) v
def s0:=so m_ (k0 m_)
def run:(List (List Int))×(List Int)×Unit->Option (Bool):=fun v_=>match v_ with
|(l,s,())=>
 (NV.l0 m_ (l,s,0,())).bind fun g_=>match g_ with
 | .inl (t,())=>
  some t
 | .inr (())=>
  some false
theorem k:KT (O m_) [] ⟨52,[.one (.lst .str),.one .str],.one (.sh (.one .bool)),run m_⟩ [s0 m_]:=fun _=>by kernel_rfl
def c:=co (k m_)
end NV

namespace Nv
def O:OO P:=lI [O8.c m_,NV.c m_]
def e0:Spec:=⟨[fs 41 [.q 116,.z 116,.b 0,.q 15] [(0,.t),(3,.w)]],[],0⟩
def x0:List Spec:=[⟨[fs 41 [.q 7461,.b 1,.q 467,.z 116,.b 0,.q 15] [(2,.w)]],[],0⟩,⟨[fs 41 [.q 15] [(0,.t)]],[],0⟩]
abbrev A0:Type:=LL×Int×Unit
abbrev B0:Type:=(Int×Unit) ⊕ (LL×Unit)
def b0(self:A0->Option B0):A0->Option B0:=fun v_=>match v_ with
|(l,i,())=>
 bif wB (l.length:Int)then
 bif decide (i<(l.length:Int))then
  bif inB i (l.length:Int)then
  (O8.run m_ ((rd ([]:List Int) l i),())).bind fun r=>
  bif !r then
   some (.inl (12,()))
  else
   self (l,(ahw.wrap (i+1)),())else none
 else
  some (.inr (l,()))else none
theorem k0:KQ 41 (O m_) [] e0 x0 [] (b0 m_):=fun _ _=>by kernel_rfl
def l0:=loop m_ (b0 m_)
theorem q0(v):l0 .lim v=b0 .lim (l0 .lim) v:=KS.q (k0 .lim) v
def s0:=so m_ (k0 m_)
def e1:Spec:=⟨[fs 41 [.q 244,.z 244,.b 2,.q 31] [(0,.t),(4,.w)]],[],0⟩
def x1:List Spec:=[⟨[fs 41 [.q 15653,.b 3,.q 979,.z 244,.b 2,.q 31] [(2,.w)]],[],0⟩,⟨[fs 41 [.q 31] []],[],0⟩]
abbrev A1:Type:=LL×Int×Unit
abbrev B1:Type:=(Int×Unit) ⊕ (Unit)
def b1(self:A1->Option B1):A1->Option B1:=fun v_=>match v_ with
|(l,i,())=>
 bif wB (l.length:Int)then
 bif decide (i<(l.length:Int))then
  bif sV 0 i (l.length:Int)then
  bif inB i (l.length:Int)then
  (NV.run m_ ((cut l 0 i),(rd ([]:List Int) l i),())).bind fun r=>
  bif r then
   some (.inl (24,()))
  else
   self (l,(ahw.wrap (i+1)),())else none else none
 else
  some (.inr (()))else none
theorem k1:KQ 41 (O m_) [] e1 x1 [] (b1 m_):=fun _ _=>by kernel_rfl
def l1:=loop m_ (b1 m_)
theorem q1(v):l1 .lim v=b1 .lim (l1 .lim) v:=KS.q (k1 .lim) v
def s1:=so m_ (k1 m_)
def run:(List (List Int))×Unit->Option (Int):=fun v_=>match v_ with
|(l,())=>
 bif wB (l.length:Int)then
 bif decide ((l.length:Int)>8)then
  some 18
 else
  (Nv.l0 m_ (l,0,())).bind fun g_=>match g_ with
  | .inl (t,())=>
   some t
  | .inr (l1,())=>
   (Nv.l1 m_ (l1,0,())).bind fun g_=>match g_ with
   | .inl (t1,())=>
    some t1
   | .inr (())=>
    some 0 else none
theorem k:KT (O m_) [] ⟨41,[.one (.lst .str)],.one (.sh (.one (.int .i64))),run m_⟩ [s0 m_,s1 m_]:=fun _=>by kernel_rfl
def c:=co (k m_)
end Nv

namespace Qh
def O:OO P:=lI [Qg.c m_,Nv.c m_]
def run:XH×Unit->Option (Bool):=fun v_=>match v_ with
|(x,())=>
 (Qg.run m_ (x.1,())).bind fun r=>
 ((bif !!r then Nv.run m_ (x.2.1,())else some (0:Int))).bind fun r1=>
 bif(!r||(!(decide (r1=0))))then
  some false
 else
  bif decide (x.2.2.1=([]:List Int))then
   some ((decide (x.2.2.2.1=([]:List Int)))&&(decide (x.2.2.2.2.1=0)))
  else
   bif wB (x.2.2.1.length:Int)then
   some (decide ((x.2.2.1.length:Int)=32))else none
theorem k:KT (O m_) [] ⟨13,[.ag TV],.one (.sh (.one .bool)),run m_⟩ []:=fun _=>by kernel_rfl
def c:=co (k m_)
end Qh

namespace P8
def O:OO P:=lI [Qh.c m_,Nc.c m_,Nz.c m_]
def run:QY×XH×(List Int)×Unit->Option (Bool):=fun v_=>match v_ with
|(v,x,s,())=>
 (Nc.run m_ (v,())).bind fun r=>
 ((bif r then Nz.run m_ (v,())else some false)).bind fun r1=>
 ((bif(r&&r1)then Qh.run m_ (x,())else some false)).bind fun r2=>
 bif((!((r&&r1)&&r2))||(wB (s.length:Int)))then
 some (((r&&r1)&&r2)&&(decide ((s.length:Int)<=4000)))else none
theorem k:KT (O m_) [] ⟨7,[.ag Q7,.ag TV,.one .str],.one (.sh (.one .bool)),run m_⟩ []:=fun _=>by kernel_rfl
def c:=co (k m_)
end P8

namespace QU
def O(m_:Dq):OO P:=lI []
def run(m_:Dq):Int×Unit->Option (Int):=fun v_=>match v_ with
|(aar,())=>
 bif decide (aar=15)then
  some 32
 else
  bif decide (aar=17)then
   some 64
  else
   some 0
theorem k:KT (O m_) [] ⟨99,[.one (.int .i64)],.one (.sh (.one (.int .i64))),run m_⟩ []:=fun _=>by kernel_rfl
def c:=co (k m_)
end QU

namespace Uf
def O:OO P:=lI [QU.c m_]
def run:(Int×(List Int×List Int))×Unit->Option (Bool):=fun v_=>match v_ with
|(k,())=>
 (QU.run m_ (k.1,())).bind fun r=>
 bif((!(decide (r>0)))||(wB (k.2.1.length:Int)))then
 bif((!((decide (r>0))&&(decide ((k.2.1.length:Int)=r))))||(wB (k.2.2.length:Int)))then
 some (((decide (r>0))&&(decide ((k.2.1.length:Int)=r)))&&(decide ((k.2.2.length:Int)=r)))else none else none
theorem k:KT (O m_) [] ⟨56,[.ag acp],.one (.sh (.one .bool)),run m_⟩ []:=fun _=>by kernel_rfl
def c:=co (k m_)
end Uf

namespace QO
def O(m_:Dq):OO P:=lI []
def run(m_:Dq):Int×Bool×Unit->Option (Bool×Int×Unit):=fun v_=>match v_ with
|(e,is,())=>
 some (is,e,())
theorem k:KT (O m_) [] ⟨32,[.one (.int .i64),.one .bool],.one (.clo 66 [.bool,(.int .i64)]),run m_⟩ []:=fun _=>by kernel_rfl
def c:=co (k m_)
end QO

namespace TM
def O(m_:Dq):OO P:=lI []
def run(m_:Dq):(List Int)×Unit->Option (Bool):=fun v_=>match v_ with
|(s,())=>
 bif wB (s.length:Int)then
 bif((!(decide ((s.length:Int)>=12)))||(wB (s.length:Int)))then
 bif((!((decide ((s.length:Int)>=12))&&(decide ((s.length:Int)<=256))))||(wB (s.length:Int)))then
 some (((decide ((s.length:Int)>=12))&&(decide ((s.length:Int)<=256)))&&(decide ((I9 .i64 (s.length:Int) 3)=0)))else none else none else none
theorem k:KT (O m_) [] ⟨92,[.one .str],.one (.sh (.one .bool)),run m_⟩ []:=fun _=>by kernel_rfl
def c:=co (k m_)
end TM

namespace TB
def O:OO P:=lI [TM.c m_]
def run:(List Int)×Unit->Option (Bool):=fun v_=>match v_ with
|(s,())=>
 (TM.run m_ (s,())).bind fun r=>
 some !r
theorem k:KT (O m_) [] ⟨101,[.one .str],.one (.sh (.one .bool)),run m_⟩ []:=fun _=>by kernel_rfl
def c:=co (k m_)
end TB

namespace PZ
def O(m_:Dq):OO P:=ors adi
def f0:gB:=fs 145 [.v 6 [1,2],.q 7] []
def f1:gB:=fs 134 [.v 6 [1,2],.q 7] []
def f2:gB:=fs 102 [.v 6 [2,3],.q 7] [(0,.t)]
def e0:Spec:=⟨[fs 147 [.q 12,.z 12,.b 0] [(0,.fn (.yield 0) []),(5,.t),(6,.w),(7,.w)],⟨151,[.inRange 0,.b 0,.q 7],[(2,.ptr 1 0)],none,[.mark 2],false⟩,f0,f1,f2],[(0,.loop .ready none 151 [(2,.ptr 1 0)] [7] (KP 26) 2),(1,.c [.own 5000 .str]),(2,.deferred false),(5000,.c [.row .str])],5001⟩
def x0:List Spec:=[⟨[fs 147 [] [],⟨151,[.inRange 1,.b 0,.q 7],[(2,.ptr 0 0)],none,[.mark 2],false⟩,f0,f1,f2],[(0,.c [.own 3 .str]),(1,.loop .ready none 151 [(2,.ptr 0 0)] [7] (KP 26) 2),(2,.deferred false),(3,.c [.row .str])],4⟩]
abbrev A0:Type:=LL×Int×Int×LL×LL×Unit
abbrev B0:Type:=(LL×LL×Unit)
def b0(m_:Dq)(self:A0->Option B0):A0->Option B0:=fun v_=>match v_ with
|(t,t1,t2,l,m,())=>
 bif decide (t2<t1)then
  bif inB t2 (t.length:Int)then
  bif decide (m.length+([(rd ([]:List Int) t t2)]:List (List Int)).length<4398046511104)then
  self (t,t1,(ahw.wrap (t2+1)),l,(m++([(rd ([]:List Int) t t2)]:List (List Int))),())else none else none
 else
  some (l,m,())
theorem k0:KQ 102 (O m_) [134,135,145,151] e0 x0 [] (b0 m_):=fun _ _=>by kernel_rfl
def l0:=loop m_ (b0 m_)
theorem q0(v):l0 .lim v=b0 .lim (l0 .lim) v:=KS.q (k0 .lim) v
def s0:=so m_ (k0 m_)
def run:(List (List Int))×Unit->Option (Bool):=fun v_=>match v_ with
|(l,())=>
 bif wB (l.length:Int)then
 (PZ.l0 m_ (l,(l.length:Int),0,l,([]:List (List Int)),())).bind fun (l1,m,())=>
 (Eh m.length).bind fun _=>
 (Eh (Ep m).length).bind fun _=>
 bif wB ((jP (Ep m)).length:Int)then
 bif wB (l1.length:Int)then
 some (decide (((jP (Ep m)).length:Int)<(l1.length:Int)))else none else none else none
theorem k:KT (O m_) [134,135,145,151] ⟨102,[.one (.lst .str)],.one (.sh (.one .bool)),run m_⟩ [s0 m_]:=fun _=>by kernel_rfl
def c:=co (k m_)
end PZ

namespace PD
def O:OO P:=lI [QO.c m_,TB.c m_,PZ.c m_]
def f0:gB:=fs 100 [.v 6 [2,3,4],.q 7] []
def f1:gB:=fs 58 [.v 6 [5,6,7,8,9,10,11,12,13,14],.q 7] [(0,.t),(6,.clo 66 [.bool,(.int .i64)])]
def e0:Spec:=⟨[fs 133 [.q 52,.z 52,.b 0,.q 7] [(0,.t),(1,.fn (.func 101) []),(7,.w),(8,.w)],f0,f1],[],0⟩
def x0:List Spec:=[⟨[fs 133 [.q 13517,.b 1,.q 423,.z 52,.b 0,.q 7] [(4,.w)],f0,f1],[],0⟩,⟨[fs 133 [.q 7] [],f0,f1],[],0⟩]
abbrev A0:Type:=LL×Int×Int×LL×(Bool×Int×Unit)×Unit
abbrev B0:Type:=(Int×LL×(Bool×Int×Unit)×Unit) ⊕ (LL×(Bool×Int×Unit)×Unit)
def b0(self:A0->Option B0):A0->Option B0:=fun v_=>match v_ with
|(s,t,t1,l,t2,())=>
 bif decide (t1<t)then
  bif inB t1 (s.length:Int)then
  (TB.run m_ ((rd ([]:List Int) s t1),())).bind fun r=>
  bif r then
   some (.inl (t1,l,(t2.1,t2.2.1,()),()))
  else
   self (s,t,(ahw.wrap (t1+1)),l,(t2.1,t2.2.1,()),())else none
 else
  some (.inr (l,(t2.1,t2.2.1,()),()))
theorem k0:KQ 58 (O m_) [31,66,100,133] e0 x0 [] (b0 m_):=fun _ _=>by kernel_rfl
def l0:=loop m_ (b0 m_)
theorem q0(v):l0 .lim v=b0 .lim (l0 .lim) v:=KS.q (k0 .lim) v
def s0:=so m_ (k0 m_)
def e1:Spec:=⟨[fs 31 [.q 1] [(0,.kP 0 3)],fs 58 [.v 6 [13,14],.q 7] []],[(0,.c [.clo 66 [.bool,(.int .i64)],.clo 66 [.bool,(.int .i64)],.clo 66 [.bool,(.int .i64)]])],1⟩
def x1:List Spec:=[⟨[fs 58 [.q 7] [(2,.w)]],[],0⟩]
abbrev A1:Type:=(Bool×Int×Unit)×(Bool×Int×Unit)×(Bool×Int×Unit)×Unit
abbrev B1:Type:=(Int×Unit)
def b1(m_:Dq)(self:A1->Option B1):A1->Option B1:=fun v_=>match v_ with
|(m,m1,m2,())=>
 bif m.1 then
  bif m1.1 then
   bif m2.1 then
    some (0,())
   else
    bif !(decide (m2.2.1=0))then
     some (m2.2.1,())
    else
     some (0,())
  else
   bif !(decide (m1.2.1=0))then
    some (m1.2.1,())
   else
    bif m2.1 then
     some (0,())
    else
     bif !(decide (m2.2.1=0))then
      some (m2.2.1,())
     else
      some (0,())
 else
  bif !(decide (m.2.1=0))then
   some (m.2.1,())
  else
   bif m1.1 then
    bif m2.1 then
     some (0,())
    else
     bif !(decide (m2.2.1=0))then
      some (m2.2.1,())
     else
      some (0,())
   else
    bif !(decide (m1.2.1=0))then
     some (m1.2.1,())
    else
     bif m2.1 then
      some (0,())
     else
      bif !(decide (m2.2.1=0))then
       some (m2.2.1,())
      else
       some (0,())
theorem k1:KQ 58 (O m_) [31,66,100,133] e1 x1 [] (b1 m_):=fun _ _=>by kernel_rfl
def l1:=loop m_ (b1 m_)
theorem q1(v):l1 .lim v=b1 .lim (l1 .lim) v:=KS.q (k1 .lim) v
def s1:=so m_ (k1 m_)
def run:(List (List Int))×Unit->Option (Int):=fun v_=>match v_ with
|(l,())=>
 bif wB (l.length:Int)then
 (QO.run m_ (18,decide ((l.length:Int)<=8),())).bind fun (e,b,())=>
 bif wB (l.length:Int)then
 (PD.l0 m_ (l,(l.length:Int),0,l,(e,b,()),())).bind fun g_=>match g_ with
 | .inl (t,l1,t1,())=>
  (QO.run m_ (12,!(decide (t>=0)),())).bind fun (e1,b1,())=>
  (PZ.run m_ (l1,())).bind fun r2=>
  (QO.run m_ (24,!r2,())).bind fun (e2,b2,())=>
  (PD.l1 m_ ((t1.1,t1.2.1,()),(e1,b1,()),(e2,b2,()),())).bind fun (t2,())=>
  some t2
 | .inr (l2,t3,())=>
  (QO.run m_ (12,true,())).bind fun (e3,b3,())=>
  (PZ.run m_ (l2,())).bind fun r5=>
  (QO.run m_ (24,!r5,())).bind fun (e4,b4,())=>
  (PD.l1 m_ ((t3.1,t3.2.1,()),(e3,b3,()),(e4,b4,()),())).bind fun (t4,())=>
  some t4 else none else none
theorem k:KT (O m_) [31,66,100,133] ⟨58,[.one (.lst .str)],.one (.sh (.one (.int .i64))),run m_⟩ [s0 m_,s1 m_]:=fun _=>by kernel_rfl
def c:=co (k m_)
end PD

namespace MW
def inl:FuncId->Bool:=fun f=>[].any (Nat.beq f)
def O(m_:Dq):iL:=(Gu [])
theorem Ok(m_:Dq){S0 w0}:bW P S0 w0 (O m_):=(Ed (an))
def run(m_:Dq):(List (List Int))×Unit->Option (List (List Int)):=fun v_=>match v_ with
|(s,())=>
 bif decide (([]:List (List Int)).length+s.length<4398046511104)then
 some (([]:List (List Int))++s)else none
def c_(m_:Dq):Callee:=⟨35,[.one (.lst .str)],.one (.own .str),run m_⟩
theorem kn(m_:Dq):dA P (O m_) inl [] [] (c_ m_).res.fin 20000 false (start 35 [.aC])=(
 some ([]:List (List Int))):=by kernel_rfl
theorem k(m_:Dq): ∀xs:List (List Int),dA P (O m_) inl [] [] (c_ m_).res.fin 20000 false (start 35 [.iO .str xs])=run m_ (xs,()):=by intro xs;kernel_rfl
theorem ok(m_:Dq):(c_ m_).OK P:=Callee.of_nil (fun S0 w0=>(Ok m_)) (by kernel_rfl) (by rfl) (fun S0 w0 cs0=>an) (fun r h=>(kn m_).trans ((show (
 some ([]:List (List Int)))=MW.run m_ ([],())from by kernel_rfl).trans h)) (fun x r h=>(MW.k m_ x).trans h)
def c(m_:Dq):CO P:=⟨c_ m_,ok m_⟩
end MW

namespace Qp
def O:OO P:=lI [QO.c m_,MW.c m_,Uf.c m_,PD.c m_]
def o0:dJ:= .c [.w,.s,.s,.CW,.s,.s,.u,.u,.u,.u,.u]
def e0:Spec:=⟨[fs 31 [.q 1] [(0,.kP 0 3)],fs 25 [.v 6 [9,10],.q 7] [(2,.ptr 1 0),(3,.ptr 2 0),(4,.ptr 3 0)]],[(0,.c [.clo 66 [.bool,(.int .i64)],.clo 66 [.bool,(.int .i64)],.fn (.func 57) [2]]),(1,.c [.w,.s,.s]),(2,.c [.t]),(3,o0)],4⟩
def x0:List Spec:=[⟨[fs 25 [.q 7] [(2,.ptr 0 0),(3,.ptr 1 0),(4,.ptr 2 0),(6,.w)]],[(0,.c [.w,.s,.s]),(1,.c [.t]),(2,o0)],3⟩]
abbrev A0:Type:=(Bool×Int×Unit)×(Bool×Int×Unit)×Int×LI×LI×LL×Int×LI×LI×LI×LI×Int×Int×Int×Int×Int×Unit
abbrev B0:Type:=(Int×Int×LI×LI×LL×Int×LI×LI×LI×LI×Int×Int×Int×Int×Int×Unit)
def b0(self:A0->Option B0):A0->Option B0:=fun v_=>match v_ with
|(m,m1,m2,m3,m4,m5,m6)=>
 bif m.1 then
  bif m1.1 then
   (PD.run m_ (m5,())).bind fun r=>
   bif !(decide (r=0))then
    some (r,m2,m3,m4,m5,m6)
   else
    some (0,m2,m3,m4,m5,m6)
  else
   bif !(decide (m1.2.1=0))then
    some (m1.2.1,m2,m3,m4,m5,m6)
   else
    (PD.run m_ (m5,())).bind fun r1=>
    bif !(decide (r1=0))then
     some (r1,m2,m3,m4,m5,m6)
    else
     some (0,m2,m3,m4,m5,m6)
 else
  bif !(decide (m.2.1=0))then
   some (m.2.1,m2,m3,m4,m5,m6)
  else
   bif m1.1 then
    (PD.run m_ (m5,())).bind fun r2=>
    bif !(decide (r2=0))then
     some (r2,m2,m3,m4,m5,m6)
    else
     some (0,m2,m3,m4,m5,m6)
   else
    bif !(decide (m1.2.1=0))then
     some (m1.2.1,m2,m3,m4,m5,m6)
    else
     (PD.run m_ (m5,())).bind fun r3=>
     bif !(decide (r3=0))then
      some (r3,m2,m3,m4,m5,m6)
     else
      some (0,m2,m3,m4,m5,m6)
theorem k0:KQ 25 (O m_) [31,57,66] e0 x0 [] (b0 m_):=fun _ _=>by kernel_rfl
def l0:=loop m_ (b0 m_)
theorem q0(v):l0 .lim v=b0 .lim (l0 .lim) v:=KS.q (k0 .lim) v
def s0:=so m_ (k0 m_)
def run:(Int×(List Int×List Int))×(List (List Int))×Unit->Option (XH×Int×Unit):=fun v_=>match v_ with
|(k,l,())=>
 (Uf.run m_ (k,())).bind fun r=>
 (QO.run m_ (13,r,())).bind fun (e,b,())=>
 bif wB (l.length:Int)then
 (QO.run m_ (19,decide ((l.length:Int)>0),())).bind fun (e1,b1,())=>
 (Qp.l0 m_ ((e,b,()),(e1,b1,()),k.1,k.2.1,k.2.2,l,0,([]:List Int),([]:List Int),([]:List Int),([]:List Int),0,0,0,0,0,())).bind fun (e2,m,m1,m2,m3,m4)=>
 bif !(decide (e2=0))then
  some (((0,(([]:List Int),([]:List Int))),(([]:List (List Int)),(([]:List Int),(([]:List Int),(0,(0,(0,(0,0)))))))),e2,())
 else
  (MW.run m_ (m3,())).bind fun r3=>
  some (((m,(m1,m2)),(r3,(([]:List Int),(([]:List Int),(0,(0,(0,(0,0)))))))),0,())else none
theorem k:KT (O m_) [31,57,66] ⟨25,[.ag acp,.one (.lst .str)],.gG [.sh (.ag TV),.sh (.one (.int .i64))],run m_⟩ [s0 m_]:=fun _=>by kernel_rfl
def c:=co (k m_)
end Qp

namespace strings_Repeat
def run(_:Dq):(List Int)×Int×Unit->Option (List Int):=KW
def c(m_:Dq):CO P:=⟨⟨33,[.one .str,.one (.int .i64)],.one (.sh (.one .str)),run m_⟩,Jt (by kernel_rfl) fun s c w hc hl=>ahH Go.Proofs.Tryz.lays105 Go.Proofs.Tryz.Builder_Extra_105 s c w hc hl⟩
end strings_Repeat

namespace Pv
def O(m_:Dq):OO P:=lI []
def e0:Spec:=⟨[fs 73 [.q 116,.z 116,.b 0,.q 15] [(1,.w),(5,.own 5001 (.int .i64)),(8,.dat Qr),(9,.w),(10,.w)]],[(5001,.c [.row (.int .i64)])],5002⟩
def x0:List Spec:=[⟨[fs 73 [.q 15] [(5,.own 0 (.int .i64))]],[(0,.c [.row (.int .i64)])],1⟩]
abbrev A0:Type:=Int×(List (Int×List Int))×Int×Int×LI×Unit
abbrev B0:Type:=(LI×Unit)
def b0(m_:Dq)(self:A0->Option B0):A0->Option B0:=fun v_=>match v_ with
|(kind,t,t1,t2,m,())=>
 bif decide (t2<t1)then
  bif inB t2 (t.length:Int)then
  bif decide (((rd ((0:Int),([]:List Int)) t t2).1)=kind)then
   bif decide (m.length+([t2]:List Int).length<8796093022208)then
   self (kind,t,t1,(ahw.wrap (t2+1)),(m++([t2]:List Int)),())else none
  else
   self (kind,t,t1,(ahw.wrap (t2+1)),m,())else none
 else
  some (m,())
theorem k0:KQ 73 (O m_) [] e0 x0 [] (b0 m_):=fun _ _=>by kernel_rfl
def l0:=loop m_ (b0 m_)
theorem q0(v):l0 .lim v=b0 .lim (l0 .lim) v:=KS.q (k0 .lim) v
def s0:=so m_ (k0 m_)
def run:(List (Int×List Int))×Int×Unit->Option (List Int):=fun v_=>match v_ with
|(l,kind,())=>
 bif wB (l.length:Int)then
 (Pv.l0 m_ (kind,l,(l.length:Int),0,([]:List Int),())).bind fun (m,())=>
 some m else none
theorem k:KT (O m_) [] ⟨73,[.one Qr,.one (.int .i64)],.one (.own (.int .i64)),run m_⟩ [s0 m_]:=fun _=>by kernel_rfl
def c:=co (k m_)
end Pv

namespace Qy
def O(m_:Dq):OO P:=lI []
def run(m_:Dq):Int×Int×Int×Unit->Option (Bool):=fun v_=>match v_ with
|(n,low,high,())=>
 some ((decide (low<=n))&&(decide (n<=high)))
theorem k:KT (O m_) [] ⟨111,[.one (.int .i64),.one (.int .i64),.one (.int .i64)],.one (.sh (.one .bool)),run m_⟩ []:=fun _=>by kernel_rfl
def c:=co (k m_)
end Qy

namespace Us
def O(m_:Dq):OO P:=lI []
def run(m_:Dq):Int×Unit->Option (List Int):=fun v_=>match v_ with
|(n,())=>
 some ([(ahy.wrap (Ja .i64 n 8)),(ahy.wrap n)]:List Int)
theorem k:KT (O m_) [] ⟨142,[.one (.int .i64)],.one (.sh (.one .str)),run m_⟩ []:=fun _=>by kernel_rfl
def c:=co (k m_)
end Us

namespace OM
def O:OO P:=MG (lI [Us.c m_]) (MF ac0)
def e0:Spec:=⟨[fs 112 [.q 500,.z 500,.b 0,.q 63] [(4,.ptr 0 0),(5,.b),(11,.dat Qr),(12,.w),(13,.w)]],[(0,.iZ 141 5)],1⟩
def x0:List Spec:=[⟨[fs 112 [.q 512805,.b 2,.q 32051,.b 1,.q 4007,.z 500,.b 0,.q 63] [(2,.s),(3,.w)]],[],0⟩,⟨[fs 112 [.q 2051229,.b 2,.q 32051,.b 1,.q 4007,.z 500,.b 0,.q 63] [(2,.s),(3,.w)]],[],0⟩,⟨[fs 112 [.q 63] [(4,.ptr 0 0),(5,.b)]],[(0,.iZ 141 5)],1⟩]
abbrev A0:Type:=Bool×(List (Int×List Int))×Int×Int×LI×Unit
abbrev B0:Type:=(LI×Int×Unit) ⊕ (LI×Int×Unit) ⊕ (Bool×LI×Unit)
def b0(self:A0->Option B0):A0->Option B0:=fun v_=>match v_ with
|(long,t,t1,t2,m,())=>
 bif decide (t2<t1)then
  bif inB t2 (t.length:Int)then
  bif((decide (((rd ((0:Int),([]:List Int)) t t2).1)<0))||(decide (((rd ((0:Int),([]:List Int)) t t2).1)>=65536)))then
   some (.inl (([]:List Int),13,()))
  else
   bif wB (((rd ((0:Int),([]:List Int)) t t2).2).length:Int)then
   bif((!(!(decide ((((rd ((0:Int),([]:List Int)) t t2).2).length:Int)<12))))||(wB (((rd ((0:Int),([]:List Int)) t t2).2).length:Int)))then
   bif((decide ((((rd ((0:Int),([]:List Int)) t t2).2).length:Int)<12))||(!(decide ((I9 .i64 (((rd ((0:Int),([]:List Int)) t t2).2).length:Int) 3)=0))))then
    some (.inr (.inl (([]:List Int),10,())))
   else
    ((bif !long then some ()else some ())).bind fun _=>
    bif(!!long||(wB (((rd ((0:Int),([]:List Int)) t t2).2).length:Int)))then
    bif !(long||(decide ((ahw.wrap ((ahw.wrap ((m.length:Int)+4))+(((rd ((0:Int),([]:List Int)) t t2).2).length:Int)))>1232)))then
     (Us.run m_ ((rd ((0:Int),([]:List Int)) t t2).1,())).bind fun r=>
     bif wB (((rd ((0:Int),([]:List Int)) t t2).2).length:Int)then
     (Us.run m_ ((ahw.wrap ((((rd ((0:Int),([]:List Int)) t t2).2).length:Int)+4)),())).bind fun r1=>
     bif decide (r.length+r1.length<=maxStr)then
     bif decide ((r++r1).length+((rd ((0:Int),([]:List Int)) t t2).2).length<=maxStr)then
     (GH (m.length+((r++r1)++((rd ((0:Int),([]:List Int)) t t2).2)).length)).bind fun _=>
     self ((long||(decide ((ahw.wrap ((ahw.wrap ((m.length:Int)+4))+(((rd ((0:Int),([]:List Int)) t t2).2).length:Int)))>1232))),t,t1,(ahw.wrap (t2+1)),(m++((r++r1)++((rd ((0:Int),([]:List Int)) t t2).2))),())else none else none else none
    else
     self ((long||(decide ((ahw.wrap ((ahw.wrap ((m.length:Int)+4))+(((rd ((0:Int),([]:List Int)) t t2).2).length:Int)))>1232))),t,t1,(ahw.wrap (t2+1)),m,())else none else none else none else none
 else
  some (.inr (.inr (long,m,())))
theorem k0:KQ 112 (O m_) [] e0 x0 [] (b0 m_):=fun _ _=>by kernel_rfl
def l0:=loop m_ (b0 m_)
theorem q0(v):l0 .lim v=b0 .lim (l0 .lim) v:=KS.q (k0 .lim) v
def s0:=so m_ (k0 m_)
def run:(List (Int×List Int))×Unit->Option ((List Int)×Int×Unit):=fun v_=>match v_ with
|(l,())=>
 bif wB (l.length:Int)then
 bif decide ((l.length:Int)>16)then
  some (([]:List Int),18,())
 else
  bif wB (l.length:Int)then
  (OM.l0 m_ (false,l,(l.length:Int),0,([]:List Int),())).bind fun g_=>match g_ with
  | .inl (t,t1,())=>
   some (t,t1,())
  | .inr (.inl (t2,t3,()))=>
   some (t2,t3,())
  | .inr (.inr (long,m,()))=>
   bif long then
    some (([]:List Int),12,())
   else
    some (m,0,())else none else none
theorem k:KT (O m_) [] ⟨112,[.one Qr],.gG [.sh (.one .str),.sh (.one (.int .i64))],run m_⟩ [s0 m_]:=fun _=>by kernel_rfl
def c:=co (k m_)
end OM

namespace Nj
def O:OO P:=lI [Qy.c m_,OM.c m_]
def f0:gB:=fs 113 [.q 12,.z 12,.b 0] [(0,.slc 0 0 (some 48) (.int .u8)),(1,.u),(6,.w),(7,.w)]
def o1:dJ:= .c [.dat (.arr 48 (.int .u8))]
def o2:dJ:= .c [.w,.w,.w,.w,.w,.w,.dat (.int .u32),.dat (.int .u32),.dat (.int .u32),.u,.u,.u,.u,.dat Qr]
def e0:Spec:=⟨[f0,fs 74 [.v 130713 [9],.b 1,.q 32679,.z 4084,.b 0,.q 511] [(1,.ptr 1 0),(4,.s),(6,.ptr 0 0),(84,.dat tY4),(85,.w)]],[(0,o1),(1,o2)],2⟩
def x0:List Spec:=[⟨[fs 113 [] [],fs 74 [.v 130713 [9],.b 1,.q 32679,.z 4084,.b 0,.q 511] [(1,.ptr 0 0),(4,.s),(6,.ptr 1 0),(84,.dat tY4),(85,.w)]],[(0,o2),(1,o1)],2⟩]
abbrev A0:Type:=Int×Int×Int×Int×Int×LI×LI×Int×LI×Int×Int×Int×Int×Int×Int×Int×Int×Int×Int×Int×Int×Int×(List (Int×List Int))×Unit
abbrev B0:Type:=(LI×LI×Int×Int×Int×Int×Int×Int×Int×Int×Int×Int×Int×Int×Int×Int×(List (Int×List Int))×LI×Unit)
def b0(m_:Dq)(self:A0->Option B0):A0->Option B0:=fun v_=>match v_ with
|(bp,bq,n,t,t1,f,t2,t3,m,m1,m2,m3,m4,m5,m6,m7,m8,m9,m10,m11,m12,m13,m14,())=>
 bif decide (t1<t)then
  bif wB bq then
  bif decide (0<=(ahw.wrap (8*(ahw.wrap ((ahw.wrap (bq-1))-t1)))))then
  bif inB t1 bq then
  self (bp,bq,n,t,(ahw.wrap (t1+1)),f,t2,t3,(m.set ((bp+t1).toNat) (ahy.wrap (Ja .u64 n (ahw.wrap (8*(ahw.wrap ((ahw.wrap (bq-1))-t1))))))),m1,m2,m3,m4,m5,m6,m7,m8,m9,m10,m11,m12,m13,m14,())else none else none else none
 else
  some (f,t2,t3,m1,m2,m3,m4,m5,m6,m7,m8,m9,m10,m11,m12,m13,m14,m,())
theorem k0:KQ 74 (O m_) [113] e0 x0 [] (b0 m_):=fun _ _=>by kernel_rfl
def l0:=loop m_ (b0 m_)
theorem q0(v):l0 .lim v=b0 .lim (l0 .lim) v:=KS.q (k0 .lim) v
def s0:=so m_ (k0 m_)
def e1:Spec:=⟨[fs 74 [.q 4084,.z 4084,.b 0,.q 511] [(1,.ptr 0 0),(4,.s),(6,.ptr 1 0),(84,.dat tY4),(85,.w)]],[(0,o2),(1,o1)],2⟩
def x1:List Spec:=[⟨[fs 74 [.q 511] [(1,.ptr 0 0),(4,.s),(6,.ptr 1 0)]],[(0,o2),(1,o1)],2⟩]
abbrev A1:Type:=LI×LI×Int×Int×Int×Int×Int×Int×Int×Int×Int×Int×Int×Int×Int×Int×(List (Int×List Int))×LI×Unit
abbrev B1:Type:=(LI×Int×Int×Int×Int×Int×Int×Int×Int×Int×Int×Int×Int×Int×(List (Int×List Int))×LI×Unit)
def b1(self:A1->Option B1):A1->Option B1:=fun v_=>match v_ with
|(f,t,t1,m,m1,m2,m3,m4,m5,m6,m7,m8,m9,m10,m11,m12,m13,m14,())=>
 bif decide (t1<3)then
  bif inB t1 3 then
  bif sV (ahw.wrap (4+(ahw.wrap (4*t1)))) (ahw.wrap (8+(ahw.wrap (4*t1)))) 48 then
  bif wB ((ahw.wrap (8+(ahw.wrap (4*t1))))-(ahw.wrap (4+(ahw.wrap (4*t1)))))then
  (Nj.l0 m_ ((ahw.wrap (4+(ahw.wrap (4*t1)))),((ahw.wrap (8+(ahw.wrap (4*t1))))-(ahw.wrap (4+(ahw.wrap (4*t1))))),(ahA.wrap (rd 0 t t1)),((ahw.wrap (8+(ahw.wrap (4*t1))))-(ahw.wrap (4+(ahw.wrap (4*t1))))),0,f,t,t1,m14,m,m1,m2,m3,m4,m5,m6,m7,m8,m9,m10,m11,m12,m13,())).bind fun (f1,t2,t3,m15)=>
  self (f1,t2,(ahw.wrap (t3+1)),m15)else none else none else none
 else
  some (f,m,m1,m2,m3,m4,m5,m6,m7,m8,m9,m10,m11,m12,m13,m14,())
theorem k1:KQ 74 (O m_) [113] e1 x1 [s0 m_] (b1 m_):=fun _ _=>by kernel_rfl
def l1:=loop m_ (b1 m_)
theorem q1(v):l1 .lim v=b1 .lim (l1 .lim) v:=KS.q (k1 .lim) v
def s1:=so m_ (k1 m_)
def f3:gB:=fs 74 [.v 261785 [8],.b 3,.q 65447,.z 8180,.b 2,.q 1023] [(4,.s),(6,.ptr 0 0),(108,.dat (.arr 4 (.int .u64))),(109,.w)]
def e2:Spec:=⟨[f0,f3],[(0,o1)],1⟩
def x2:List Spec:=[⟨[fs 113 [] [],f3],[(0,o1)],1⟩]
abbrev A2:Type:=Int×Int×Int×Int×Int×LI×LI×Int×LI×Unit
abbrev B2:Type:=(LI×LI×Int×LI×Unit)
def b2(m_:Dq)(self:A2->Option B2):A2->Option B2:=fun v_=>match v_ with
|(bp,bq,n,t,t1,f,t2,t3,m,())=>
 bif decide (t1<t)then
  bif wB bq then
  bif decide (0<=(ahw.wrap (8*(ahw.wrap ((ahw.wrap (bq-1))-t1)))))then
  bif inB t1 bq then
  self (bp,bq,n,t,(ahw.wrap (t1+1)),f,t2,t3,(m.set ((bp+t1).toNat) (ahy.wrap (Ja .u64 n (ahw.wrap (8*(ahw.wrap ((ahw.wrap (bq-1))-t1))))))),())else none else none else none
 else
  some (f,t2,t3,m,())
theorem k2:KQ 74 (O m_) [113] e2 x2 [] (b2 m_):=fun _ _=>by kernel_rfl
def l2:=loop m_ (b2 m_)
theorem q2(v):l2 .lim v=b2 .lim (l2 .lim) v:=KS.q (k2 .lim) v
def s2:=so m_ (k2 m_)
def e3:Spec:=⟨[fs 74 [.q 8180,.z 8180,.b 2,.q 1023] [(4,.s),(6,.ptr 0 0),(108,.dat (.arr 4 (.int .u64))),(109,.w)]],[(0,o1)],1⟩
def x3:List Spec:=[⟨[fs 74 [.q 1023] [(4,.s),(6,.ptr 0 0)]],[(0,o1)],1⟩]
abbrev A3:Type:=LI×LI×Int×LI×Unit
abbrev B3:Type:=(LI×LI×Unit)
def b3(self:A3->Option B3):A3->Option B3:=fun v_=>match v_ with
|(f,t,t1,m,())=>
 bif decide (t1<4)then
  bif inB t1 4 then
  bif sV (ahw.wrap (16+(ahw.wrap (8*t1)))) (ahw.wrap (24+(ahw.wrap (8*t1)))) 48 then
  bif wB ((ahw.wrap (24+(ahw.wrap (8*t1))))-(ahw.wrap (16+(ahw.wrap (8*t1)))))then
  (Nj.l2 m_ ((ahw.wrap (16+(ahw.wrap (8*t1)))),((ahw.wrap (24+(ahw.wrap (8*t1))))-(ahw.wrap (16+(ahw.wrap (8*t1))))),(rd 0 t t1),((ahw.wrap (24+(ahw.wrap (8*t1))))-(ahw.wrap (16+(ahw.wrap (8*t1))))),0,f,t,t1,m,())).bind fun (f1,t2,t3,m1,())=>
  self (f1,t2,(ahw.wrap (t3+1)),m1,())else none else none else none
 else
  some (f,m,())
theorem k3:KQ 74 (O m_) [113] e3 x3 [s2 m_] (b3 m_):=fun _ _=>by kernel_rfl
def l3:=loop m_ (b3 m_)
theorem q3(v):l3 .lim v=b3 .lim (l3 .lim) v:=KS.q (k3 .lim) v
def s3:=so m_ (k3 m_)
def run:DT5×Unit->Option ((List Int)×Int×Unit):=fun v_=>match v_ with
|(p,())=>
 (Qy.run m_ (p.1,0,3,())).bind fun r=>
 ((bif !!r then Qy.run m_ (p.2.1,0,7,())else some false)).bind fun r1=>
 ((bif !(!r|| !r1)then Qy.run m_ (p.2.2.1,0,7,())else some false)).bind fun r2=>
 ((bif !((!r|| !r1)|| !r2)then Qy.run m_ (p.2.2.2.1,0,255,())else some false)).bind fun r3=>
 ((bif !(((!r|| !r1)|| !r2)|| !r3)then Qy.run m_ (p.2.2.2.2.1,(-128),127,())else some false)).bind fun r4=>
 ((bif !((((!r|| !r1)|| !r2)|| !r3)|| !r4)then Qy.run m_ (p.2.2.2.2.2.1,(-128),127,())else some false)).bind fun r5=>
 bif(((((!r|| !r1)|| !r2)|| !r3)|| !r4)|| !r5)then
  some (([]:List Int),13,())
 else
  (OM.run m_ (p.2.2.2.2.2.2.2.2.2.2.2.2.2,())).bind fun (r6,r7,())=>
  bif !(decide (r7=0))then
   some (([]:List Int),r7,())
  else
   (Nj.l1 m_ (r6,((((ahx 3 (0:Int):List Int).set 0 p.2.2.2.2.2.2.1).set 1 p.2.2.2.2.2.2.2.1).set 2 p.2.2.2.2.2.2.2.2.1),0,p.1,p.2.1,p.2.2.1,p.2.2.2.1,p.2.2.2.2.1,p.2.2.2.2.2.1,p.2.2.2.2.2.2.1,p.2.2.2.2.2.2.2.1,p.2.2.2.2.2.2.2.2.1,p.2.2.2.2.2.2.2.2.2.1,p.2.2.2.2.2.2.2.2.2.2.1,p.2.2.2.2.2.2.2.2.2.2.2.1,p.2.2.2.2.2.2.2.2.2.2.2.2.1,p.2.2.2.2.2.2.2.2.2.2.2.2.2,(((((ahx 48 (0:Int)).set 0 (ahy.wrap (KL .i64 (KL .i64 (I_ .i64 p.1 6) (I_ .i64 p.2.1 3)) p.2.2.1))).set 1 (ahy.wrap p.2.2.2.1)).set 2 (ahy.wrap p.2.2.2.2.1)).set 3 (ahy.wrap p.2.2.2.2.2.1)),())).bind fun (f,m,m1,m2,m3,m4,m5,m6,m7,m8,m9,m10,m11,m12,m13,m14,())=>
   (Nj.l3 m_ (f,(((((ahx 4 (0:Int):List Int).set 0 m9).set 1 m10).set 2 m11).set 3 m12),0,m14,())).bind fun (f1,m15,())=>
   bif decide (((m15.drop 0).take 48).length+f1.length<=maxStr)then
   some ((((m15.drop 0).take 48)++f1),0,())else none
theorem k:KT (O m_) [113] ⟨74,[.ag W_],.gG [.sh (.one .str),.sh (.one (.int .i64))],run m_⟩ [s1 m_,s3 m_]:=fun _=>by kernel_rfl
def c:=co (k m_)
end Nj

namespace Qi
def O(m_:Dq):OO P:=lI []
def run(m_:Dq):SX×Unit->Option (Int):=fun v_=>match v_ with
|(k,())=>
 bif wB (k.1.length:Int)then
 bif((!(!(decide ((k.1.length:Int)=32))))||(wB (k.1.length:Int)))then
 bif((!(decide ((k.1.length:Int)=32)))&&(!(decide ((k.1.length:Int)=64))))then
  some 13
 else
  bif wB (k.2.1.length:Int)then
  bif decide ((k.2.1.length:Int)>126)then
   some 18
  else
   some 0 else none else none else none
theorem k:KT (O m_) [] ⟨207,[.ag Xo],.one (.sh (.one (.int .i64))),run m_⟩ []:=fun _=>by kernel_rfl
def c:=co (k m_)
end Qi

namespace Nq
def O(m_:Dq):OO P:=lI []
def e0:Spec:=⟨[fs 210 [.q 116,.z 116,.b 0,.q 15] [(0,.t),(1,.t),(12,.w),(13,.w)]],[],0⟩
def x0:List Spec:=[⟨[fs 210 [.q 29901,.b 1,.q 935,.z 116,.b 0,.q 15] [(4,.b)]],[],0⟩,⟨[fs 210 [.q 15] []],[],0⟩]
abbrev A0:Type:=LL×LL×Int×Int×Unit
abbrev B0:Type:=(Bool×Unit) ⊕ (Unit)
def b0(m_:Dq)(self:A0->Option B0):A0->Option B0:=fun v_=>match v_ with
|(s1,s2,t,t1,())=>
 bif decide (t1<t)then
  bif inB t1 (s1.length:Int)then
  bif inB t1 (s2.length:Int)then
  bif !(decide ((rd ([]:List Int) s1 t1)=(rd ([]:List Int) s2 t1)))then
   some (.inl (false,()))
  else
   self (s1,s2,t,(ahw.wrap (t1+1)),())else none else none
 else
  some (.inr (()))
theorem k0:KQ 210 (O m_) [] e0 x0 [] (b0 m_):=fun _ _=>by kernel_rfl
def l0:=loop m_ (b0 m_)
theorem q0(v):l0 .lim v=b0 .lim (l0 .lim) v:=KS.q (k0 .lim) v
def s0:=so m_ (k0 m_)
def run:(List (List Int))×(List (List Int))×Unit->Option (Bool):=fun v_=>match v_ with
|(s1,s2,())=>
 bif wB (s1.length:Int)then
 bif wB (s2.length:Int)then
 bif !(decide ((s1.length:Int)=(s2.length:Int)))then
  some false
 else
  bif wB (s1.length:Int)then
  (Nq.l0 m_ (s1,s2,(s1.length:Int),0,())).bind fun g_=>match g_ with
  | .inl (t,())=>
   some t
  | .inr (())=>
   some true else none else none else none
theorem k:KT (O m_) [] ⟨210,[.one (.lst .str),.one (.lst .str)],.one (.sh (.one .bool)),run m_⟩ [s0 m_]:=fun _=>by kernel_rfl
def c:=co (k m_)
end Nq

namespace Rw
def O:OO P:=lI [Nq.c m_]
def run:SX×SX×Unit->Option (Bool):=fun v_=>match v_ with
|(a,b,())=>
 ((bif((decide (a.1=b.1))&&(decide (a.2.2.1=b.2.2.1)))then Nq.run m_ (a.2.1,b.2.1,())else some false)).bind fun r=>
 some (((decide (a.1=b.1))&&(decide (a.2.2.1=b.2.2.1)))&&r)
theorem k:KT (O m_) [] ⟨212,[.ag Xo,.ag Xo],.one (.sh (.one .bool)),run m_⟩ []:=fun _=>by kernel_rfl
def c:=co (k m_)
end Rw

namespace OV
def O:OO P:=lI [strings_Repeat.c m_]
def o0:dJ:= .c [.dat Ua]
def e0:Spec:=⟨[fs 213 [.q 116,.z 116,.b 0,.q 15] [(0,.w),(1,.s),(5,.ptr 0 0),(7,.w)]],[(0,o0)],1⟩
def x0:List Spec:=[⟨[fs 213 [.q 15] [(1,.s),(5,.ptr 0 0)]],[(0,o0)],1⟩]
abbrev A0:Type:=Int×LI×Int×LI×Unit
abbrev B0:Type:=(LI×LI×Unit)
def b0(m_:Dq)(self:A0->Option B0):A0->Option B0:=fun v_=>match v_ with
|(n,plain,t,m,())=>
 bif decide (t<8)then
  bif decide (0<=(ahw.wrap (8*t)))then
  bif inB (ahw.wrap (15-t)) 16 then
  self (n,plain,(ahw.wrap (t+1)),(m.set ((ahw.wrap (15-t)).toNat) (ahy.wrap (Ja .i64 n (ahw.wrap (8*t))))),())else none else none
 else
  some (plain,m,())
theorem k0:KQ 213 (O m_) [] e0 x0 [] (b0 m_):=fun _ _=>by kernel_rfl
def l0:=loop m_ (b0 m_)
theorem q0(v):l0 .lim v=b0 .lim (l0 .lim) v:=KS.q (k0 .lim) v
def s0:=so m_ (k0 m_)
def run:Int×(List Int)×Unit->Option (List Int):=fun v_=>match v_ with
|(n,plain,())=>
 (OV.l0 m_ (n,plain,0,(ahx 16 (0:Int)),())).bind fun (XR,m,())=>
 bif wB (XR.length:Int)then
 (strings_Repeat.run m_ (([0]:List Int),(XR.length:Int),())).bind fun r=>
 bif decide (((m.drop 0).take 16).length+r.length<=maxStr)then
 some (((m.drop 0).take 16)++r)else none else none
theorem k:KT (O m_) [] ⟨213,[.one (.int .i64),.one .str],.one (.sh (.one .str)),run m_⟩ [s0 m_]:=fun _=>by kernel_rfl
def c:=co (k m_)
end OV

namespace NK
def inl:FuncId->Bool:=fun f=>[].any (Nat.beq f)
def O(m_:Dq):iL:=(Gu [])
theorem Ok(m_:Dq){S0 w0}:bW P S0 w0 (O m_):=(Ed (an))
def run(m_:Dq):(List SX)×Unit->Option (List SX):=fun v_=>match v_ with
|(s,())=>
 bif decide (([]:List SX).length+s.length<977343669134)then
 some (([]:List SX)++s)else none
def c_(m_:Dq):Callee:=⟨214,[.one Uo],.one (.own Xo),run m_⟩
theorem kn(m_:Dq):dA P (O m_) inl [] [] (c_ m_).res.fin 20000 false (start 214 [.aC])=(
 some ([]:List SX)):=by kernel_rfl
theorem k(m_:Dq): ∀xs:List SX,dA P (O m_) inl [] [] (c_ m_).res.fin 20000 false (start 214 [.iO Xo xs])=run m_ (xs,()):=by intro xs;kernel_rfl
theorem ok(m_:Dq):(c_ m_).OK P:=Callee.of_nil (fun S0 w0=>(Ok m_)) (by kernel_rfl) (by rfl) (fun S0 w0 cs0=>an) (fun r h=>(kn m_).trans ((show (
 some ([]:List SX))=NK.run m_ ([],())from by kernel_rfl).trans h)) (fun x r h=>(NK.k m_ x).trans h)
def c(m_:Dq):CO P:=⟨c_ m_,ok m_⟩
end NK

namespace PI
def O:OO P:=lI [strings_Repeat.c m_]
def run:Int×Unit->Option (List Int):=fun v_=>match v_ with
|(n,())=>
 (strings_Repeat.run m_ (([0]:List Int),n,())).bind fun r=>
 some r
theorem k:KT (O m_) [] ⟨223,[.one (.int .i64)],.one (.sh (.one .str)),run m_⟩ []:=fun _=>by kernel_rfl
def c:=co (k m_)
end PI

namespace OE
def O(m_:Dq):OO P:=lI []
def e0:Spec:=⟨[fs 250 [.q 56,.z 56,.b 0,.q 15] [(0,.y),(1,.y),(5,.y)]],[],0⟩
def x0:List Spec:=[⟨[fs 250 [.q 15] [(5,.y)]],[],0⟩]
abbrev A0:Type:=Int×Int×Int×Unit
abbrev B0:Type:=(Int×Unit)
def b0(m_:Dq)(self:A0->Option B0):A0->Option B0:=fun v_=>match v_ with
|(a,b,r,())=>
 bif decide (b>0)then
  self ((Hz .u8 (I_ .u8 a 1) (ahy.wrap ((Ja .u8 a 7)*27))),(Ja .u8 b 1),(Hz .u8 r (ahy.wrap (a*(I9 .u8 b 1)))),())
 else
  some (r,())
theorem k0:KQ 250 (O m_) [] e0 x0 [] (b0 m_):=fun _ _=>by kernel_rfl
def l0:=loop m_ (b0 m_)
theorem q0(v):l0 .lim v=b0 .lim (l0 .lim) v:=KS.q (k0 .lim) v
def s0:=so m_ (k0 m_)
def run:Int×Int×Unit->Option (Int):=fun v_=>match v_ with
|(a,b,())=>
 (OE.l0 m_ (a,b,0,())).bind fun (r,())=>
 some r
theorem k:KT (O m_) [] ⟨250,[.one (.int .u8),.one (.int .u8)],.one (.sh (.one (.int .u8))),run m_⟩ [s0 m_]:=fun _=>by kernel_rfl
def c:=co (k m_)
end OE

namespace Py
def O:OO P:=lI [OE.c m_]
def e0:Spec:=⟨[fs 258 [.q 116,.z 116,.b 0,.q 15] [(3,.y),(4,.y),(6,.w)]],[],0⟩
def x0:List Spec:=[⟨[fs 258 [.q 15] [(3,.y)]],[],0⟩]
abbrev A0:Type:=Int×Int×Int×Unit
abbrev B0:Type:=(Int×Unit)
def b0(self:A0->Option B0):A0->Option B0:=fun v_=>match v_ with
|(r,s,t,())=>
 bif decide (t<7)then
  (OE.run m_ (s,s,())).bind fun r1=>
  (OE.run m_ (r,r1,())).bind fun r2=>
  self (r2,r1,(ahw.wrap (t+1)),())
 else
  some (r,())
theorem k0:KQ 258 (O m_) [] e0 x0 [] (b0 m_):=fun _ _=>by kernel_rfl
def l0:=loop m_ (b0 m_)
theorem q0(v):l0 .lim v=b0 .lim (l0 .lim) v:=KS.q (k0 .lim) v
def s0:=so m_ (k0 m_)
def run:Int×Unit->Option (Int):=fun v_=>match v_ with
|(b,())=>
 (Py.l0 m_ (1,b,0,())).bind fun (r,())=>
 some r
theorem k:KT (O m_) [] ⟨258,[.one (.int .u8)],.one (.sh (.one (.int .u8))),run m_⟩ [s0 m_]:=fun _=>by kernel_rfl
def c:=co (k m_)
end Py

namespace Sm
def O(m_:Dq):OO P:=lI []
def run(m_:Dq):Int×Int×Unit->Option (Int):=fun v_=>match v_ with
|(b,n,())=>
 bif decide (0<=n)then
 bif decide (0<=(ahw.wrap (8-n)))then
 some (KL .u8 (I_ .u8 b n) (Ja .u8 b (ahw.wrap (8-n))))else none else none
theorem k:KT (O m_) [] ⟨259,[.one (.int .u8),.one (.int .i64)],.one (.sh (.one (.int .u8))),run m_⟩ []:=fun _=>by kernel_rfl
def c:=co (k m_)
end Sm

namespace S9
def O:OO P:=lI [Py.c m_,Sm.c m_]
def run:Int×Unit->Option (Int):=fun v_=>match v_ with
|(b,())=>
 (Py.run m_ (b,())).bind fun r=>
 (Sm.run m_ (r,1,())).bind fun r1=>
 (Sm.run m_ (r,2,())).bind fun r2=>
 (Sm.run m_ (r,3,())).bind fun r3=>
 (Sm.run m_ (r,4,())).bind fun r4=>
 some (Hz .u8 (Hz .u8 (Hz .u8 (Hz .u8 (Hz .u8 r r1) r2) r3) r4) 99)
theorem k:KT (O m_) [] ⟨249,[.one (.int .u8)],.one (.sh (.one (.int .u8))),run m_⟩ []:=fun _=>by kernel_rfl
def c:=co (k m_)
end S9

namespace MX
def O(m_:Dq):OO P:=lI []
def e0:Spec:=⟨[fs 253 [.q 116,.z 116,.b 0,.q 15] [(0,.dat tY7),(3,.w),(9,.dat tY7),(10,.w),(11,.w)]],[],0⟩
def x0:List Spec:=[⟨[fs 253 [.q 15] [(0,.dat tY7),(3,.w)]],[],0⟩]
abbrev A0:Type:=LL×Int×LL×Int×Int×Unit
abbrev B0:Type:=(LL×Int×Unit)
def b0(m_:Dq)(self:A0->Option B0):A0->Option B0:=fun v_=>match v_ with
|(slices,size,t,t1,t2,())=>
 bif decide (t2<t1)then
  bif inB t2 (t.length:Int)then
  bif wB ((rd ([]:List Int) t t2).length:Int)then
  bif decide ((ahw.wrap (size+((rd ([]:List Int) t t2).length:Int)))<0)then
   none
  else
   self (slices,(ahw.wrap (size+((rd ([]:List Int) t t2).length:Int))),t,t1,(ahw.wrap (t2+1)),())else none else none
 else
  some (slices,size,())
theorem k0:KQ 253 (O m_) [262] e0 x0 [] (b0 m_):=fun _ _=>by kernel_rfl
def l0:=loop m_ (b0 m_)
theorem q0(v):l0 .lim v=b0 .lim (l0 .lim) v:=KS.q (k0 .lim) v
def s0:=so m_ (k0 m_)
def e1:Spec:=⟨[fs 253 [.q 500,.z 500,.b 2,.q 63] [(6,.pre 0 (.int .u8)),(25,.dat tY7),(26,.w),(27,.w)]],[(0,.c [.ry])],1⟩
def x1:List Spec:=[⟨[fs 253 [.q 63] [(6,.pre 0 (.int .u8))]],[(0,.c [.ry])],1⟩]
abbrev A1:Type:=Int×LL×Int×Int×LI×Unit
abbrev B1:Type:=(Int×LI×Unit)
def b1(m_:Dq)(self:A1->Option B1):A1->Option B1:=fun v_=>match v_ with
|(SG,t,t1,t2,m,())=>
 bif decide (t2<t1)then
  bif inB t2 (t.length:Int)then
  bif((decide (m.length+(rd ([]:List Int) t t2).length<70368744177664))&&(decide (0<=SG)))then
  self ((SG+((rd ([]:List Int) t t2).length:Int)),t,t1,(ahw.wrap (t2+1)),(m.take SG.toNat++((rd ([]:List Int) t t2)++m.drop (SG.toNat+(rd ([]:List Int) t t2).length))),())else none else none
 else
  some (SG,m,())
theorem k1:KQ 253 (O m_) [262] e1 x1 [] (b1 m_):=fun _ _=>by kernel_rfl
def l1:=loop m_ (b1 m_)
theorem q1(v):l1 .lim v=b1 .lim (l1 .lim) v:=KS.q (k1 .lim) v
def s1:=so m_ (k1 m_)
def run:(List (List Int))×Unit->Option (List Int):=fun v_=>match v_ with
|(slices,())=>
 bif wB (slices.length:Int)then
 (MX.l0 m_ (slices,0,slices,(slices.length:Int),0,())).bind fun (UC,size,())=>
 bif decide (size<0)then
  none
 else
  bif decide ((ahw.wrap (size-0))>0)then
   bif((decide (0<=(ahw.wrap (size-0))))&&(ahF ((ahw.wrap (size-0)).toNat) 70368744177664))then
   bif sV 0 0 ((ahx ((ahw.wrap (size-0)).toNat) 0).length:Int)then
   bif wB (UC.length:Int)then
   (MX.l1 m_ (0,UC,(UC.length:Int),0,(ahx ((ahw.wrap (size-0)).toNat) 0),())).bind fun (SG,m,())=>
   some ((m.drop 0).take SG.toNat)else none else none else none
  else
   bif wB (UC.length:Int)then
   (MX.l1 m_ (0,UC,(UC.length:Int),0,([]:List Int),())).bind fun (ZL,m1,())=>
   some ((m1.drop 0).take ZL.toNat)else none else none
theorem k:KT (O m_) [262] ⟨253,[.one tY7],.one (.sh (.one V5)),run m_⟩ [s0 m_,s1 m_]:=fun _=>by kernel_rfl
def c:=co (k m_)
end MX

namespace PN
def O(m_:Dq):OO P:=lI []
def run(m_:Dq):Bool×Unit->Option (Int):=fun v_=>match v_ with
|(b,())=>
 bif b then
  some 1
 else
  some 0
theorem k:KT (O m_) [] ⟨266,[.one .bool],.one (.sh (.one (.int .u32))),run m_⟩ []:=fun _=>by kernel_rfl
def c:=co (k m_)
end PN

namespace MN
def xs:List (FuncId×XK):=[(254,.load .u32),(265,.store),(267,.Gf .disable),(268,.cas .i32),(269,.Gf .enable),(270,.Gg .acquire),(272,.Gg .releaseMerge),(273,.add .i32)]
theorem abm: ∀x∈xs,x.2.OK P x.1:=ac ⟨_,Go.Proofs.Tryz.func254,by kernel_rfl,by kernel_rfl,by kernel_rfl,by kernel_rfl⟩ (ac ⟨_,Go.Proofs.Tryz.func265,by kernel_rfl,by kernel_rfl,by kernel_rfl,by kernel_rfl⟩ (ac ⟨_,Go.Proofs.Tryz.func267,by kernel_rfl,by kernel_rfl,by kernel_rfl,by kernel_rfl⟩ (ac ⟨_,Go.Proofs.Tryz.func268,by kernel_rfl,by kernel_rfl,by kernel_rfl,by kernel_rfl⟩ (ac ⟨_,Go.Proofs.Tryz.func269,by kernel_rfl,by kernel_rfl,by kernel_rfl,by kernel_rfl⟩ (ac ⟨_,Go.Proofs.Tryz.func270,by kernel_rfl,by kernel_rfl,by kernel_rfl,by kernel_rfl⟩ (ac ⟨_,Go.Proofs.Tryz.func272,by kernel_rfl,by kernel_rfl,by kernel_rfl,by kernel_rfl⟩ (ac ⟨_,Go.Proofs.Tryz.func273,by kernel_rfl,by kernel_rfl,by kernel_rfl,by kernel_rfl⟩ (an))))))))
def O:OO P:=MG (lI [S9.c m_,OE.c m_,MX.c m_,PN.c m_]) (MI abm)
def f0:gB:=⟨248,[.v 61 [1]],[],none,[.call 257 [.ptr 0 1,.b],.call 256 [.ptr 0 2]],false⟩
def f1:gB:=fs 228 [.v 30 [5,6,7],.q 31] []
def o2:dJ:= .c [.s,.dat (.int .u32),.dat (.int .i32),.dat (.int .u32),.dat TW,.dat TW,.dat TU,.CW]
def o3:dJ:= .c [.dat Ua]
def f4:gB:=fs 242 [.v 2 [1],.q 3] [(0,.ptr 1 0)]
def f5:gB:=fs 230 [.v 6 [1],.q 7] [(2,.ptr 2 0),(3,.ptr 3 0),(4,.ptr 4 0)]
def e0:Spec:=⟨[fs 243 [.q 13116,.z 13116,.b 2,.b 1,.q 103,.z 12,.b 0] [(0,.ptr 0 0),(2,.w),(6,.w),(25,.oy 1),(26,.w),(27,.w)],fs 242 [.v 2 [1],.q 3] [(0,.ptr 2 0)],f0,fs 241 [.v 6 [2]] [],fs 233 [.v 3 [4]] [],fs 230 [.v 6 [1],.q 7] [(2,.ptr 3 0),(3,.ptr 4 0),(4,.ptr 5 0)],f1],[(0,o2),(1,.c [.ry]),(2,.c [.ptr 0 0]),(3,.c [.ptr 0 0]),(4,o3),(5,o3)],6⟩
def x0:List Spec:=[⟨[fs 243 [.q 103,.z 12,.b 0] [(0,.ptr 0 0),(6,.w)],f4,f0,fs 241 [.v 6 [2]] [],fs 233 [.v 3 [4]] [],f5,f1],[(0,o2),(1,.c [.ptr 0 0]),(2,.c [.ptr 0 0]),(3,o3),(4,o3)],5⟩]
abbrev A0:Type:=Int×Int×Int×Int×Bool×LI×Int×Int×Int×LI×LI×LL×LI×LI×LI×Unit
abbrev B0:Type:=(Int×Bool×LI×Int×Int×Int×LI×LI×LL×LI×LI×Unit)
def b0(self:A0->Option B0):A0->Option B0:=fun v_=>match v_ with
|(i,t,t1,t2,m,m1,m2,m3,m4,m5,m6,m7,m8,m9,m10,())=>
 bif decide (t2<t1)then
  bif inB t2 (m8.length:Int)then
  (OE.run m_ ((ahy.wrap i),(rd 0 m8 t2),())).bind fun r=>
  bif inB (rd 0 m8 t2) 16 then
  bif inB i 256 then
  self (i,t,t1,(ahw.wrap (t2+1)),m,m1,m2,m3,m4,m5,m6,(m7.set ((rd 0 m8 t2).toNat) ((rd (ahx 256 (0:Int):List Int) m7 (rd 0 m8 t2)).set i.toNat r)),m8,m9,m10,())else none else none else none
 else
  some (t,m,m1,m2,m3,m4,m5,m6,m7,m9,m10,())
theorem k0:KQ 228 (O m_) [229,230,233,234,235,236,237,238,241,242,243,244,247,248,251,252,253,255,263,264] e0 x0 [] (b0 m_):=fun _ _=>by kernel_rfl
def l0:=loop m_ (b0 m_)
theorem q0(v):l0 .lim v=b0 .lim (l0 .lim) v:=KS.q (k0 .lim) v
def s0:=so m_ (k0 m_)
def e1:Spec:=⟨[fs 243 [.q 12,.z 12,.b 0] [(0,.ptr 0 0),(6,.w)],f4,f0,fs 241 [.v 6 [2]] [],fs 233 [.v 3 [4]] [],f5,f1],[(0,o2),(1,.c [.ptr 0 0]),(2,.c [.ptr 0 0]),(3,o3),(4,o3)],5⟩
def x1:List Spec:=[⟨[fs 243 [] [],fs 242 [.v 2 [1],.q 3] [(0,.ptr 0 0)],⟨248,[.v 61 [1]],[],none,[.call 257 [.ptr 1 1,.b],.call 256 [.ptr 1 2]],false⟩,fs 241 [.v 6 [2]] [],fs 233 [.v 3 [4]] [],f5,f1],[(0,.c [.ptr 1 0]),(1,o2),(2,.c [.ptr 1 0]),(3,o3),(4,o3)],5⟩]
abbrev A1:Type:=Int×Bool×LI×Int×Int×Int×LI×LI×LL×LI×LI×Unit
abbrev B1:Type:=(Bool×LI×Int×Int×Int×LI×LI×LL×LI×LI×Unit)
def b1(self:A1->Option B1):A1->Option B1:=fun v_=>match v_ with
|(t,m,m1,m2,m3,m4,m5,m6,m7,m8,m9,())=>
 bif decide (t<256)then
  (S9.run m_ ((ahy.wrap t),())).bind fun r=>
  bif inB t 256 then
  bif inB r 256 then
  bif wB (([1,2,3,9,11,13,14]:List Int).length:Int)then
  (MN.l0 m_ (t,t,(([1,2,3,9,11,13,14]:List Int).length:Int),0,m,m1,m2,m3,m4,(m5.set t.toNat r),(m6.set r.toNat (ahy.wrap t)),m7,([1,2,3,9,11,13,14]:List Int),m8,m9,())).bind fun (t1,m10)=>
  self ((ahw.wrap (t1+1)),m10)else none else none else none
 else
  some (m,m1,m2,m3,m4,m5,m6,m7,m8,m9,())
theorem k1:KQ 228 (O m_) [229,230,233,234,235,236,237,238,241,242,243,244,247,248,251,252,253,255,263,264] e1 x1 [s0 m_] (b1 m_):=fun _ _=>by kernel_rfl
def l1:=loop m_ (b1 m_)
theorem q1(v):l1 .lim v=b1 .lim (l1 .lim) v:=KS.q (k1 .lim) v
def s1:=so m_ (k1 m_)
def o6:dJ:= .c [.row Yy]
def f7:gB:=⟨248,[.v 61 [1]],[],none,[.call 257 [.ptr 4 1,.b],.call 256 [.ptr 4 2]],false⟩
def f8:gB:=fs 230 [.v 6 [1],.q 7] [(2,.ptr 5 0),(3,.ptr 6 0),(4,.ptr 7 0)]
def o9:dJ:= .c [.own 8 Yy]
def e2:Spec:=⟨[fs 260 [.q 12,.z 12,.b 0] [(0,.fn (.yield 0) []),(1,.ptr 1 0),(2,.ptr 2 0),(4,.w)],⟨244,[.inRange 0,.b 0,.q 31],[(1,.ptr 3 0),(2,.w),(3,.ptr 4 0)],none,[.mark 5],false⟩,fs 242 [.v 3 [1]] [],⟨248,[.v 61 [1]],[],none,[.call 257 [.ptr 6 1,.b],.call 256 [.ptr 6 2]],false⟩,fs 241 [.v 6 [2]] [],fs 233 [.v 3 [4]] [],fs 230 [.v 6 [1],.q 7] [(2,.ptr 7 0),(3,.ptr 8 0),(4,.ptr 9 0)],f1],[(0,.loop .ready none 244 [(3,.ptr 4 0)] [22] (KP 122) 5),(1,.c [.oy 10]),(2,.c [.w]),(3,.c [.ptr 6 0]),(4,.c [.own 5002 Yy]),(5,.deferred false),(6,o2),(7,.c [.ptr 6 0]),(8,o3),(9,o3),(10,.d [.ry]),(5002,o6)],5003⟩
def x2:List Spec:=[⟨[fs 260 [] [],⟨244,[.inRange 2,.b 0,.q 31],[(1,.ptr 0 0),(2,.w),(3,.ptr 1 0)],none,[.mark 3],false⟩,fs 242 [.v 3 [1]] [],f7,fs 241 [.v 6 [2]] [],fs 233 [.v 3 [4]] [],f8,f1],[(0,.c [.ptr 4 0]),(1,o9),(2,.loop .ready none 244 [(3,.ptr 1 0)] [22] (KP 122) 3),(3,.deferred false),(4,o2),(5,.c [.ptr 4 0]),(6,o3),(7,o3),(8,o6)],9⟩]
abbrev A2:Type:=Int×Int×Bool×Int×LI×Int×Int×Int×LI×LI×LL×LI×LI×LI×LL×Unit
abbrev B2:Type:=(Int×Bool×LI×Int×Int×Int×LI×LI×LL×LI×LI×LL×Unit)
def b2(m_:Dq)(self:A2->Option B2):A2->Option B2:=fun v_=>match v_ with
|(i,nk,m,m1,m2,m3,m4,m5,m6,m7,m8,m9,m10,m11,m12,())=>
 bif wB (m11.length:Int)then
 bif decide (i<(m11.length:Int))then
  bif sV i (m11.length:Int) (m11.length:Int)then
  bif wB ((m11.length:Int)-i)then
  bif((sV i (ahw.wrap (i+(mn m1 ((m11.length:Int)-i)))) (ahw.wrap (i+(mn m1 ((m11.length:Int)-i)))))&&(decide ((ahw.wrap (i+(mn m1 ((m11.length:Int)-i))))<=(m11.length:Int))))then
  bif(ahB 1 4&&ahB 4 (cut m11 i (ahw.wrap (i+(mn m1 ((m11.length:Int)-i))))).length)then
  bif decide (m12.length+([((cut m11 i (ahw.wrap (i+(mn m1 ((m11.length:Int)-i))))).take 4)]:List (List Int)).length<17592186044416)then
  self ((ahw.wrap (i+m1)),nk,m,m1,m2,m3,m4,m5,m6,m7,m8,m9,m10,m11,(m12++([((cut m11 i (ahw.wrap (i+(mn m1 ((m11.length:Int)-i))))).take 4)]:List (List Int))),())else none else none else none else none else none
 else
  some (nk,m,m2,m3,m4,m5,m6,m7,m8,m9,m10,m12,())else none
theorem k2:KQ 228 (O m_) [229,230,233,234,235,236,237,238,241,242,243,244,247,248,251,252,253,255,263,264] e2 x2 [] (b2 m_):=fun _ _=>by kernel_rfl
def l2:=loop m_ (b2 m_)
theorem q2(v):l2 .lim v=b2 .lim (l2 .lim) v:=KS.q (k2 .lim) v
def s2:=so m_ (k2 m_)
def o10:dJ:= .c [.dat Yy]
def e3:Spec:=⟨[⟨244,[.q 518452,.z 518452,.b 4,.q 64807,.b 3,.q 4051,.z 1012,.b 2,.q 127],[(1,.ptr 0 0),(2,.w),(3,.ptr 1 0),(5,.y),(6,.w),(7,.ptr 2 0),(115,.w)],none,[.mark 3],false⟩,fs 242 [.v 3 [1]] [],f7,fs 241 [.v 6 [2]] [],fs 233 [.v 3 [4]] [],f8,f1],[(0,.c [.ptr 4 0]),(1,o9),(2,o10),(3,.deferred false),(4,o2),(5,.c [.ptr 4 0]),(6,o3),(7,o3),(8,o6)],9⟩
def x3:List Spec:=[⟨[⟨244,[.q 64807,.b 3,.q 4051,.z 1012,.b 2,.q 127],[(1,.ptr 0 0),(2,.w),(3,.ptr 1 0),(5,.y),(6,.w),(7,.ptr 2 0)],none,[.mark 3],false⟩,fs 242 [.v 3 [1]] [],f7,fs 241 [.v 6 [2]] [],fs 233 [.v 3 [4]] [],f8,f1],[(0,.c [.ptr 4 0]),(1,o9),(2,o10),(3,.deferred false),(4,o2),(5,.c [.ptr 4 0]),(6,o3),(7,o3),(8,o6)],9⟩]
abbrev A3:Type:=Int×Int×Int×Int×Bool×LI×LI×Int×Int×Int×LI×LI×LL×LI×LI×LL×Unit
abbrev B3:Type:=(Int×Int×Int×Bool×LI×LI×Int×Int×Int×LI×LI×LL×LI×LI×LL×Unit)
def b3(m_:Dq)(self:A3->Option B3):A3->Option B3:=fun v_=>match v_ with
|(nk,x,i,t,m,m1,m2,m3,m4,m5,m6,m7,m8,m9,m10,m11,())=>
 bif decide (t<4)then
  bif inB t 4 then
  bif inB (ahw.wrap (i-nk)) (m11.length:Int)then
  bif inB t 4 then
  bif inB t 4 then
  self (nk,x,i,(ahw.wrap (t+1)),m,(m1.set t.toNat (Hz .u8 (rd 0 m1 t) (rd 0 (rd (ahx 4 (0:Int):List Int) m11 (ahw.wrap (i-nk))) t))),m2,m3,m4,m5,m6,m7,m8,m9,m10,m11,())else none else none else none else none
 else
  some (nk,x,i,m,m1,m2,m3,m4,m5,m6,m7,m8,m9,m10,m11,())
theorem k3:KQ 228 (O m_) [229,230,233,234,235,236,237,238,241,242,243,244,247,248,251,252,253,255,263,264] e3 x3 [] (b3 m_):=fun _ _=>by kernel_rfl
def l3:=loop m_ (b3 m_)
theorem q3(v):l3 .lim v=b3 .lim (l3 .lim) v:=KS.q (k3 .lim) v
def s3:=so m_ (k3 m_)
def f11:gB:=⟨248,[.v 61 [1]],[],none,[.call 257 [.ptr 3 1,.b],.call 256 [.ptr 3 2]],false⟩
def f12:gB:=fs 230 [.v 6 [1],.q 7] [(2,.ptr 4 0),(3,.ptr 5 0),(4,.ptr 6 0)]
def o13:dJ:= .c [.own 7 Yy]
def e4:Spec:=⟨[⟨244,[.q 1012,.z 1012,.b 2,.q 127],[(1,.ptr 0 0),(2,.w),(3,.ptr 1 0),(5,.y),(6,.w)],none,[.mark 2],false⟩,fs 242 [.v 3 [1]] [],f11,fs 241 [.v 6 [2]] [],fs 233 [.v 3 [4]] [],f12,f1],[(0,.c [.ptr 3 0]),(1,o13),(2,.deferred false),(3,o2),(4,.c [.ptr 3 0]),(5,o3),(6,o3),(7,o6)],8⟩
def x4:List Spec:=[⟨[⟨244,[.q 127],[(1,.ptr 0 0),(3,.ptr 1 0)],none,[.mark 2],false⟩,fs 242 [.v 3 [1]] [],f11,fs 241 [.v 6 [2]] [],fs 233 [.v 3 [4]] [],f12,f1],[(0,.c [.ptr 3 0]),(1,o13),(2,.deferred false),(3,o2),(4,.c [.ptr 3 0]),(5,o3),(6,o3),(7,o6)],8⟩]
abbrev A4:Type:=Int×Int×Int×Bool×LI×Int×Int×Int×LI×LI×LL×LI×LI×LL×Unit
abbrev B4:Type:=(Bool×LI×Int×Int×Int×LI×LI×LL×LI×LI×LL×Unit)
def b4(self:A4->Option B4):A4->Option B4:=fun v_=>match v_ with
|(nk,x,i,m,m1,m2,m3,m4,m5,m6,m7,m8,m9,m10,())=>
 bif decide (i<(ahw.wrap (4*(ahw.wrap (nk+7)))))then
  bif inB (ahw.wrap (i-1)) (m10.length:Int)then
  bif !(decide (nk=0))then
  bif decide ((i.tmod nk)=0)then
   bif inB (rd 0 (rd (ahx 4 (0:Int):List Int) m10 (ahw.wrap (i-1))) 1) 256 then
   bif inB (rd 0 (rd (ahx 4 (0:Int):List Int) m10 (ahw.wrap (i-1))) 2) 256 then
   bif inB (rd 0 (rd (ahx 4 (0:Int):List Int) m10 (ahw.wrap (i-1))) 3) 256 then
   bif inB (rd 0 (rd (ahx 4 (0:Int):List Int) m10 (ahw.wrap (i-1))) 0) 256 then
   (OE.run m_ (x,2,())).bind fun r=>
   (MN.l3 m_ (nk,r,i,0,m,(((((ahx 4 (0:Int):List Int).set 0 (Hz .u8 (rd 0 m5 (rd 0 (rd (ahx 4 (0:Int):List Int) m10 (ahw.wrap (i-1))) 1)) x)).set 1 (rd 0 m5 (rd 0 (rd (ahx 4 (0:Int):List Int) m10 (ahw.wrap (i-1))) 2))).set 2 (rd 0 m5 (rd 0 (rd (ahx 4 (0:Int):List Int) m10 (ahw.wrap (i-1))) 3))).set 3 (rd 0 m5 (rd 0 (rd (ahx 4 (0:Int):List Int) m10 (ahw.wrap (i-1))) 0))),m1,m2,m3,m4,m5,m6,m7,m8,m9,m10,())).bind fun (nk1,x1,i1,m11,m12,m13,m14,m15,m16,m17,m18,m19,m20,m21,m22,())=>
   bif decide (m22.length+([m12]:List (List Int)).length<17592186044416)then
   self (nk1,x1,(ahw.wrap (i1+1)),m11,m13,m14,m15,m16,m17,m18,m19,m20,m21,(m22++([m12]:List (List Int))),())else none else none else none else none else none
  else
   bif((!(decide (nk=8)))||true)then
   bif((decide (nk=8))&&(decide ((i.tmod 8)=4)))then
    bif inB (rd 0 (rd (ahx 4 (0:Int):List Int) m10 (ahw.wrap (i-1))) 0) 256 then
    bif inB (rd 0 (rd (ahx 4 (0:Int):List Int) m10 (ahw.wrap (i-1))) 1) 256 then
    bif inB (rd 0 (rd (ahx 4 (0:Int):List Int) m10 (ahw.wrap (i-1))) 2) 256 then
    bif inB (rd 0 (rd (ahx 4 (0:Int):List Int) m10 (ahw.wrap (i-1))) 3) 256 then
    (MN.l3 m_ (nk,x,i,0,m,(((((ahx 4 (0:Int):List Int).set 0 (rd 0 m5 (rd 0 (rd (ahx 4 (0:Int):List Int) m10 (ahw.wrap (i-1))) 0))).set 1 (rd 0 m5 (rd 0 (rd (ahx 4 (0:Int):List Int) m10 (ahw.wrap (i-1))) 1))).set 2 (rd 0 m5 (rd 0 (rd (ahx 4 (0:Int):List Int) m10 (ahw.wrap (i-1))) 2))).set 3 (rd 0 m5 (rd 0 (rd (ahx 4 (0:Int):List Int) m10 (ahw.wrap (i-1))) 3))),m1,m2,m3,m4,m5,m6,m7,m8,m9,m10,())).bind fun (nk2,x2,i2,m23,m24,Tz,Tc,TG,RX,SY,UG,UO,m32,Ux,UZ,())=>
    bif decide (UZ.length+([m24]:List (List Int)).length<17592186044416)then
    self (nk2,x2,(ahw.wrap (i2+1)),m23,Tz,Tc,TG,RX,SY,UG,UO,m32,Ux,(UZ++([m24]:List (List Int))),())else none else none else none else none else none
   else
    (MN.l3 m_ (nk,x,i,0,m,(rd (ahx 4 (0:Int):List Int) m10 (ahw.wrap (i-1))),m1,m2,m3,m4,m5,m6,m7,m8,m9,m10,())).bind fun (nk3,x3,i3,Vo,U0,VW,Xh,V_,Wh,Xi,VJ,VX,VY,U5,U6,())=>
    bif decide (U6.length+([U0]:List (List Int)).length<17592186044416)then
    self (nk3,x3,(ahw.wrap (i3+1)),Vo,VW,Xh,V_,Wh,Xi,VJ,VX,VY,U5,(U6++([U0]:List (List Int))),())else none else none else none else none
 else
  some (m,m1,m2,m3,m4,m5,m6,m7,m8,m9,m10,())
theorem k4:KQ 228 (O m_) [229,230,233,234,235,236,237,238,241,242,243,244,247,248,251,252,253,255,263,264] e4 x4 [s3 m_] (b4 m_):=fun _ _=>by kernel_rfl
def l4:=loop m_ (b4 m_)
theorem q4(v):l4 .lim v=b4 .lim (l4 .lim) v:=KS.q (k4 .lim) v
def s4:=so m_ (k4 m_)
def Xm:dJ:= .c [.row Ua]
def e5:Spec:=⟨[fs 261 [.q 12,.z 12,.b 0] [(0,.fn (.yield 0) []),(1,.ptr 1 0),(2,.ptr 2 0),(4,.w)],⟨244,[.inRange 0,.b 6],[],none,[.mark 3,.mark 4],false⟩,fs 242 [.v 3 [1]] [],⟨248,[.v 61 [1]],[],none,[.call 257 [.ptr 5 1,.b],.call 256 [.ptr 5 2]],false⟩,fs 241 [.v 6 [2]] [],fs 233 [.v 3 [4]] [],fs 230 [.v 6 [1],.q 7] [(2,.ptr 6 0),(3,.ptr 7 0),(4,.ptr 8 0)],f1],[(0,.loop .ready none 244 [(1,.ptr 9 0)] [138] (KP 510) 3),(1,.c [.own 10 Yy]),(2,.c [.w]),(3,.deferred false),(4,.deferred false),(5,.c [.s,.dat (.int .u32),.dat (.int .i32),.dat (.int .u32),.dat TW,.dat TW,.dat TU,.own 5003 Ua]),(6,.c [.ptr 5 0]),(7,o3),(8,o3),(9,.c [.ptr 5 0]),(10,.d [.row Yy]),(5003,Xm)],5004⟩
def x5:List Spec:=[⟨[fs 261 [] [],⟨244,[.inRange 0,.b 6],[],none,[.mark 1,.mark 2],false⟩,fs 242 [.v 3 [1]] [],f11,fs 241 [.v 6 [2]] [],fs 233 [.v 3 [4]] [],f12,f1],[(0,.loop .ready none 244 [(1,.ptr 7 0)] [138] (KP 510) 1),(1,.deferred false),(2,.deferred false),(3,.c [.s,.dat (.int .u32),.dat (.int .i32),.dat (.int .u32),.dat TW,.dat TW,.dat TU,.own 8 Ua]),(4,.c [.ptr 3 0]),(5,o3),(6,o3),(7,.c [.ptr 3 0]),(8,Xm)],9⟩]
abbrev A5:Type:=Int×Bool×Int×LI×Int×Int×Int×LI×LI×LL×LI×LI×LL×LL×Unit
abbrev B5:Type:=(Bool×LI×Int×Int×Int×LI×LI×LL×LI×LI×LL×Unit)
def b5(self:A5->Option B5):A5->Option B5:=fun v_=>match v_ with
|(i,m,m1,m2,m3,m4,m5,m6,m7,m8,m9,m10,m11,m12,())=>
 bif wB (m11.length:Int)then
 bif decide (i<(m11.length:Int))then
  bif sV i (m11.length:Int) (m11.length:Int)then
  bif wB ((m11.length:Int)-i)then
  bif((sV i (ahw.wrap (i+(mn m1 ((m11.length:Int)-i)))) (ahw.wrap (i+(mn m1 ((m11.length:Int)-i)))))&&(decide ((ahw.wrap (i+(mn m1 ((m11.length:Int)-i))))<=(m11.length:Int))))then
  bif inB 0 ((cut m11 i (ahw.wrap (i+(mn m1 ((m11.length:Int)-i))))).length:Int)then
  bif inB 1 ((cut m11 i (ahw.wrap (i+(mn m1 ((m11.length:Int)-i))))).length:Int)then
  bif inB 2 ((cut m11 i (ahw.wrap (i+(mn m1 ((m11.length:Int)-i))))).length:Int)then
  bif inB 3 ((cut m11 i (ahw.wrap (i+(mn m1 ((m11.length:Int)-i))))).length:Int)then
  (MX.run m_ (([(cut (rd (ahx 4 (0:Int):List Int) (cut m11 i (ahw.wrap (i+(mn m1 ((m11.length:Int)-i))))) 0) 0 4),(cut (rd (ahx 4 (0:Int):List Int) (cut m11 i (ahw.wrap (i+(mn m1 ((m11.length:Int)-i))))) 1) 0 4),(cut (rd (ahx 4 (0:Int):List Int) (cut m11 i (ahw.wrap (i+(mn m1 ((m11.length:Int)-i))))) 2) 0 4),(cut (rd (ahx 4 (0:Int):List Int) (cut m11 i (ahw.wrap (i+(mn m1 ((m11.length:Int)-i))))) 3) 0 4)]:List (List Int)),())).bind fun r=>
  bif(ahB 1 16&&ahB 16 r.length)then
  bif decide (m12.length+([(r.take 16)]:List (List Int)).length<4398046511104)then
  self ((ahw.wrap (i+m1)),m,m1,m2,m3,m4,m5,m6,m7,m8,m9,m10,m11,(m12++([(r.take 16)]:List (List Int))),())else none else none else none else none else none else none else none else none else none
 else
  some (m,m2,m3,m4,m5,m6,m7,m8,m9,m10,m12,())else none
theorem k5:KQ 228 (O m_) [229,230,233,234,235,236,237,238,241,242,243,244,247,248,251,252,253,255,263,264] e5 x5 [] (b5 m_):=fun _ _=>by kernel_rfl
def l5:=loop m_ (b5 m_)
theorem q5(v):l5 .lim v=b5 .lim (l5 .lim) v:=KS.q (k5 .lim) v
def s5:=so m_ (k5 m_)
def o15:dJ:= .c [.s,.dat (.int .u32),.dat (.int .i32),.dat (.int .u32),.dat TW,.dat TW,.dat TU,.own 4 Ua]
def e6:Spec:=⟨[fs 233 [.q 1] [(0,.ptr 0 0)],fs 230 [.v 6 [1],.q 7] [(2,.ptr 1 0),(3,.ptr 2 0),(4,.ptr 3 0)],f1],[(0,o2),(1,.c [.ptr 0 0]),(2,o3),(3,o3)],4⟩
def x6:List Spec:=[⟨[fs 233 [] [],fs 230 [.v 6 [1],.q 7] [(2,.ptr 0 0),(3,.ptr 1 0),(4,.ptr 2 0)],f1],[(0,.c [.ptr 3 0]),(1,o3),(2,o3),(3,o15),(4,Xm)],5⟩]
abbrev A6:Type:=LI×Int×Int×Int×LI×LI×LL×LI×LI×Unit
abbrev B6:Type:=(LI×LI×LI×Int×Int×Int×LI×LI×LL×LL×Unit)
def b6(self:A6->Option B6):A6->Option B6:=fun v_=>match v_ with
|(m,m1,m2,m3,m4,m5,m6,m7,m8,())=>
 bif !(!(decide (m1=0)))then
  bif decide (m2=0)then
  bif !(!(decide (m1=0)))then
   (MN.l1 m_ (0,true,m,m1,(bif decide (m2=0)then 1 else m2),m3,m4,m5,m6,m7,m8,())).bind fun (m9,m10,m11,m12,m13,m14,m15,m16,m17,m18,())=>
   bif wB (m10.length:Int)then
   (MN.l2 m_ (0,(ahw.wrap ((m10.length:Int).tdiv 4)),m9,4,m10,m11,m12,m13,m14,m15,m16,m17,m18,m10,([]:List (List Int)),())).bind fun (nk,m19)=>
   (MN.l4 m_ (nk,1,nk,m19)).bind fun (UG,UO,m32,Ux,UZ,Vo,U0,VW,Xh,V_,Wh,())=>
   (MN.l5 m_ (0,UG,4,UO,m32,Ux,UZ,Vo,U0,VW,Xh,V_,Wh,([]:List (List Int)),())).bind fun (Xi,VJ,VX,VY,U5,U6,VK,VZ,U7,Vp,Vx,())=>
   (PN.run m_ (Xi,())).bind fun r=>
   bif !(decide ((ahz.wrap (VY+(-1)))=0))then
    none
   else
    some (U7,Vp,VJ,r,(ahz.wrap (VY+(-1))),U5,U6,VK,VZ,Vx,())else none
  else
   bif !(decide ((ahz.wrap ((bif decide (m2=0)then 1 else m2)+(-1)))=0))then
    none
   else
    some (m7,m8,m,m1,(ahz.wrap ((bif decide (m2=0)then 1 else m2)+(-1))),m3,m4,m5,m6,([]:List (List Int)),())else none
 else
  some (m7,m8,m,m1,m2,m3,m4,m5,m6,([]:List (List Int)),())
theorem k6:KQ 228 (O m_) [229,230,233,234,235,236,237,238,241,242,243,244,247,248,251,252,253,255,263,264] e6 x6 [s1 m_,s2 m_,s4 m_,s5 m_] (b6 m_):=fun _ _=>by kernel_rfl
def l6:=loop m_ (b6 m_)
theorem q6(v):l6 .lim v=b6 .lim (l6 .lim) v:=KS.q (k6 .lim) v
def s6:=so m_ (k6 m_)
def f16:gB:=fs 234 [.q 28,.z 28,.b 0] [(0,.ptr 0 0),(3,.ptr 1 0),(5,.w)]
def o17:dJ:= .c [.s,.dat (.int .u32),.dat (.int .i32),.dat (.int .u32),.dat TW,.dat TW,.dat TU,.own 5 Ua]
def e7:Spec:=⟨[f16,fs 230 [.v 14 [6],.q 15] [(2,.ptr 2 0),(3,.ptr 0 0),(4,.ptr 3 0)],f1],[(0,o3),(1,o3),(2,.c [.ptr 4 0]),(3,o3),(4,o17),(5,Xm)],6⟩
def x7:List Spec:=[⟨[fs 234 [] [],fs 230 [.v 14 [6],.q 15] [(2,.ptr 0 0),(3,.ptr 1 0),(4,.ptr 2 0)],f1],[(0,.c [.ptr 3 0]),(1,o3),(2,o3),(3,o15),(4,Xm)],5⟩]
abbrev A7:Type:=Int×LI×LI×LI×LI×Int×Int×Int×LI×LI×LL×LL×Unit
abbrev B7:Type:=(LI×LI×LI×Int×Int×Int×LI×LI×LL×LL×Unit)
def b7(m_:Dq)(self:A7->Option B7):A7->Option B7:=fun v_=>match v_ with
|(t,m,m1,m2)=>
 bif decide (t<16)then
  bif inB t 16 then
  bif inB t 16 then
  bif inB t 16 then
  self ((ahw.wrap (t+1)),(m.set t.toNat (Hz .u8 (rd 0 m t) (rd 0 m1 t))),m1,m2)else none else none else none
 else
  some (m,m2)
theorem k7:KQ 228 (O m_) [229,230,233,234,235,236,237,238,241,242,243,244,247,248,251,252,253,255,263,264] e7 x7 [] (b7 m_):=fun _ _=>by kernel_rfl
def l7:=loop m_ (b7 m_)
theorem q7(v):l7 .lim v=b7 .lim (l7 .lim) v:=KS.q (k7 .lim) v
def s7:=so m_ (k7 m_)
def f18:gB:=fs 245 [.v 818 [10,11],.q 819,.b 1,.q 103,.z 12,.b 0] [(0,.fn (.yield 4) []),(1,.ptr 5 0),(9,.slc 6 0 none Ua),(10,.w),(11,.w)]
def f19:gB:=⟨230,[.inRange 4,.b 0,.q 31],[(3,.ptr 0 0),(4,.ptr 7 0)],none,[.mark 8],false⟩
def o20:dJ:= .c [.s,.dat (.int .u32),.dat (.int .i32),.dat (.int .u32),.dat TW,.dat TW,.dat TU,.own 6 Ua]
def o21:dJ:= .loop .busy none 230 [(2,.ptr 2 0),(3,.ptr 0 0)] [18,19] (KP 122) 8
def f22:gB:=fs 245 [.v 818 [10,11],.q 819,.b 1,.q 103,.z 12,.b 0] [(0,.fn (.yield 3) []),(1,.ptr 4 0),(9,.slc 5 0 none Ua),(10,.w),(11,.w)]
def f23:gB:=⟨230,[.inRange 3,.b 0,.q 31],[(3,.ptr 1 0),(4,.ptr 6 0)],none,[.mark 7],false⟩
def o24:dJ:= .loop .busy none 230 [(2,.ptr 0 0),(3,.ptr 1 0)] [18,19] (KP 122) 7
def e8:Spec:=⟨[fs 236 [.q 12,.z 12,.b 0] [(0,.ptr 0 0),(1,.ptr 1 4),(6,.ptr 0 0),(7,.w)],⟨230,[.v 980 [3],.q 981,.b 1],[(2,.ptr 2 0),(3,.ptr 0 0),(5,.ptr 3 0),(6,.b)],some 4,[],false⟩,f18,f19,f1],[(0,o3),(1,o20),(2,.c [.ptr 1 0]),(3,o3),(4,o21),(5,.c [.ptr 1 0]),(6,Xm),(7,o3),(8,.deferred false)],9⟩
def x8:List Spec:=[⟨[fs 236 [] [],⟨230,[.v 980 [3],.q 981,.b 1],[(2,.ptr 0 0),(3,.ptr 1 0),(5,.ptr 2 0),(6,.b)],some 3,[],false⟩,f22,f23,f1],[(0,.c [.ptr 8 0]),(1,o3),(2,o3),(3,o24),(4,.c [.ptr 8 0]),(5,Xm),(6,o3),(7,.deferred false),(8,o17)],9⟩]
abbrev A8:Type:=Int×Bool×Int×Int×Int×Int×LI×LI×Int×Int×Int×LI×LI×LL×LI×LL×LI×Unit
abbrev B8:Type:=(Bool×Int×Int×Int×Int×LI×LI×LL×LI×LI×Int×Int×Int×LI×LI×LL×Unit)
def b8(m_:Dq)(self:A8->Option B8):A8->Option B8:=fun v_=>match v_ with
|(t,last,tp,tq,t1,t2,m,m1,m2,m3,m4,m5,m6,m7,m8,m9,m10,())=>
 bif decide (t<16)then
  bif inB t 16 then
  bif inB (rd 0 m t) 256 then
  bif inB t 16 then
  self ((ahw.wrap (t+1)),last,tp,tq,t1,t2,(m.set t.toNat (rd 0 m5 (rd 0 m t))),m1,m2,m3,m4,m5,m6,m7,m8,m9,m10,())else none else none else none
 else
  some (last,tp,tq,t1,t2,m,m8,m9,m10,m1,m2,m3,m4,m5,m6,m7,())
theorem k8:KQ 228 (O m_) [229,230,233,234,235,236,237,238,241,242,243,244,247,248,251,252,253,255,263,264] e8 x8 [] (b8 m_):=fun _ _=>by kernel_rfl
def l8:=loop m_ (b8 m_)
theorem q8(v):l8 .lim v=b8 .lim (l8 .lim) v:=KS.q (k8 .lim) v
def s8:=so m_ (k8 m_)
def e9:Spec:=⟨[fs 237 [.q 28,.z 28,.b 0] [(0,.ptr 0 0),(1,.w),(4,.ptr 1 0),(9,.w)],⟨230,[.v 1962 [0],.q 1963,.b 1],[(2,.ptr 2 0),(3,.ptr 0 0),(5,.ptr 3 0),(6,.b)],some 4,[],false⟩,f18,f19,f1],[(0,o3),(1,o3),(2,.c [.ptr 9 0]),(3,o3),(4,o21),(5,.c [.ptr 9 0]),(6,Xm),(7,o3),(8,.deferred false),(9,o20)],10⟩
def x9:List Spec:=[⟨[fs 237 [] [],⟨230,[.v 1962 [0],.q 1963,.b 1],[(2,.ptr 0 0),(3,.ptr 1 0),(5,.ptr 2 0),(6,.b)],some 3,[],false⟩,f22,f23,f1],[(0,.c [.ptr 8 0]),(1,o3),(2,o3),(3,o24),(4,.c [.ptr 8 0]),(5,Xm),(6,o3),(7,.deferred false),(8,o17)],9⟩]
abbrev A9:Type:=Int×Int×Bool×Int×Int×Int×Int×LI×LI×LI×LL×LI×LI×Int×Int×Int×LI×LI×LL×Unit
abbrev B9:Type:=(Bool×Int×Int×Int×Int×LI×LI×LL×LI×LI×Int×Int×Int×LI×LI×LL×Unit)
def b9(m_:Dq)(self:A9->Option B9):A9->Option B9:=fun v_=>match v_ with
|(byV,t,last,tp,tq,t1,t2,m,m1,m2)=>
 bif decide (t<16)then
  bif inB ((ahw.wrap ((ahw.wrap (t+(ahw.wrap (byV*(t.tmod 4)))))+64)).tmod 16) 16 then
  bif inB t 16 then
  self (byV,(ahw.wrap (t+1)),last,tp,tq,t1,t2,(m.set t.toNat (rd 0 m1 ((ahw.wrap ((ahw.wrap (t+(ahw.wrap (byV*(t.tmod 4)))))+64)).tmod 16))),m1,m2)else none else none
 else
  some (last,tp,tq,t1,t2,m,m2)
theorem k9:KQ 228 (O m_) [229,230,233,234,235,236,237,238,241,242,243,244,247,248,251,252,253,255,263,264] e9 x9 [] (b9 m_):=fun _ _=>by kernel_rfl
def l9:=loop m_ (b9 m_)
theorem q9(v):l9 .lim v=b9 .lim (l9 .lim) v:=KS.q (k9 .lim) v
def s9:=so m_ (k9 m_)
def f25:gB:=⟨230,[.v 15706 [2],.q 3927,.b 1],[(3,.ptr 1 0),(5,.ptr 4 0)],some 5,[],false⟩
def f26:gB:=fs 245 [.v 818 [10,11],.q 819,.b 1,.q 103,.z 12,.b 0] [(0,.fn (.yield 5) []),(1,.ptr 6 0),(9,.slc 7 0 none Ua),(10,.w),(11,.w)]
def f27:gB:=⟨230,[.inRange 5,.b 0,.q 31],[(3,.ptr 1 0),(4,.ptr 8 0)],none,[.mark 9],false⟩
def o28:dJ:= .c [.s,.dat (.int .u32),.dat (.int .i32),.dat (.int .u32),.dat TW,.dat TW,.dat TU,.own 7 Ua]
def o29:dJ:= .loop .busy none 230 [(2,.ptr 10 0),(3,.ptr 1 0)] [18,19] (KP 122) 9
def e10:Spec:=⟨[fs 238 [.q 31132,.z 31132,.b 2,.b 1,.q 487,.z 60,.b 0] [(0,.ptr 0 0),(1,.ptr 1 0),(5,.ptr 2 0),(6,.ptr 3 0),(7,.w),(13,.w),(20,.dat Yy),(21,.w)],f25,f26,f27,f1],[(0,o28),(1,o3),(2,o10),(3,o3),(4,o3),(5,o29),(6,.c [.ptr 0 0]),(7,Xm),(8,o3),(9,.deferred false),(10,.c [.ptr 0 0])],11⟩
def x10:List Spec:=[⟨[fs 238 [.q 487,.z 60,.b 0] [(0,.ptr 0 0),(1,.ptr 1 0),(5,.ptr 2 0),(6,.ptr 3 0),(13,.w)],f25,f26,f27,f1],[(0,o28),(1,o3),(2,o10),(3,o3),(4,o3),(5,o29),(6,.c [.ptr 0 0]),(7,Xm),(8,o3),(9,.deferred false),(10,.c [.ptr 0 0])],11⟩]
abbrev A10:Type:=Int×Int×LI×Int×Int×Int×Int×Int×LI×Int×Int×Int×LI×LI×LL×LI×LI×LI×LI×LL×LI×Unit
abbrev B10:Type:=(Int×Int×Int×Int×Int×LI×Int×Int×Int×LI×LI×LL×LI×LI×LI×LI×LL×LI×Unit)
def b10(m_:Dq)(self:A10->Option B10):A10->Option B10:=fun v_=>match v_ with
|(i,t,t1,t2,tp,tq,t3,t4,m,m1,m2,m3,m4,m5,m6,m7,m8,m9,m10)=>
 bif decide (t2<4)then
  bif inB t2 4 then
  bif inB i 16 then
  bif inB (ahw.wrap ((ahw.wrap ((ahw.wrap (i.tdiv 4))*4))+((ahw.wrap (i+t2)).tmod 4))) 16 then
  bif inB (rd 0 t1 t2) 16 then
  bif inB (rd 0 m9 (ahw.wrap ((ahw.wrap ((ahw.wrap (i.tdiv 4))*4))+((ahw.wrap (i+t2)).tmod 4)))) 256 then
  bif inB i 16 then
  self (i,t,t1,(ahw.wrap (t2+1)),tp,tq,t3,t4,m,m1,m2,m3,m4,m5,m6,(m7.set i.toNat (Hz .u8 (rd 0 m7 i) (rd 0 (rd (ahx 256 (0:Int):List Int) m6 (rd 0 t1 t2)) (rd 0 m9 (ahw.wrap ((ahw.wrap ((ahw.wrap (i.tdiv 4))*4))+((ahw.wrap (i+t2)).tmod 4))))))),m8,m9,m10)else none else none else none else none else none else none
 else
  some (t,tp,tq,t3,t4,m,m1,m2,m3,m4,m5,m6,m7,m8,m9,m10)
theorem k10:KQ 228 (O m_) [229,230,233,234,235,236,237,238,241,242,243,244,247,248,251,252,253,255,263,264] e10 x10 [] (b10 m_):=fun _ _=>by kernel_rfl
def l10:=loop m_ (b10 m_)
theorem q10(v):l10 .lim v=b10 .lim (l10 .lim) v:=KS.q (k10 .lim) v
def s10:=so m_ (k10 m_)
def f30:gB:=fs 245 [.v 818 [10,11],.q 819,.b 1,.q 103,.z 12,.b 0] [(0,.fn (.yield 2) []),(1,.ptr 3 0),(9,.slc 4 0 none Ua),(10,.w),(11,.w)]
def f31:gB:=⟨230,[.inRange 2,.b 0,.q 31],[(3,.ptr 0 0),(4,.ptr 5 0)],none,[.mark 6],false⟩
def o32:dJ:= .loop .busy none 230 [(2,.ptr 7 0),(3,.ptr 0 0)] [18,19] (KP 122) 6
def e11:Spec:=⟨[fs 238 [.q 60,.z 60,.b 0] [(0,.ptr 0 0),(1,.ptr 1 0),(5,.ptr 2 0),(6,.ptr 3 0),(13,.w)],f25,f26,f27,f1],[(0,o28),(1,o3),(2,o10),(3,o3),(4,o3),(5,o29),(6,.c [.ptr 0 0]),(7,Xm),(8,o3),(9,.deferred false),(10,.c [.ptr 0 0])],11⟩
def x11:List Spec:=[⟨[fs 238 [] [],⟨230,[.v 15706 [2],.q 3927,.b 1],[(3,.ptr 0 0),(5,.ptr 1 0)],some 2,[],false⟩,f30,f31,f1],[(0,o3),(1,o3),(2,o32),(3,.c [.ptr 8 0]),(4,Xm),(5,o3),(6,.deferred false),(7,.c [.ptr 8 0]),(8,o15)],9⟩]
abbrev A11:Type:=Int×Int×Int×Int×Int×LI×Int×Int×Int×LI×LI×LL×LI×LI×LI×LI×LL×LI×Unit
abbrev B11:Type:=(Int×Int×Int×Int×LI×LI×LL×LI×LI×Int×Int×Int×LI×LI×LL×Unit)
def b11(self:A11->Option B11):A11->Option B11:=fun v_=>match v_ with
|(t,tp,tq,t1,t2,m,m1,m2,m3,m4,m5,m6,m7,m8,m9,m10,m11,m12,())=>
 bif decide (t<16)then
  bif inB t 16 then
  (MN.l10 m_ (t,t,m8,0,tp,tq,t1,t2,m,m1,m2,m3,m4,m5,m6,(m7.set t.toNat 0),m8,m9,m10,m11,m12,())).bind fun (t3,tp1)=>
  self ((ahw.wrap (t3+1)),tp1)else none
 else
  some (tp,tq,t1,t2,m7,m10,m11,m12,m,m1,m2,m3,m4,m5,m6,())
theorem k11:KQ 228 (O m_) [229,230,233,234,235,236,237,238,241,242,243,244,247,248,251,252,253,255,263,264] e11 x11 [s10 m_] (b11 m_):=fun _ _=>by kernel_rfl
def l11:=loop m_ (b11 m_)
theorem q11(v):l11 .lim v=b11 .lim (l11 .lim) v:=KS.q (k11 .lim) v
def s11:=so m_ (k11 m_)
def f33:gB:=⟨230,[.inRange 0,.b 0,.q 31],[(3,.ptr 3 0),(4,.ptr 4 0)],none,[.mark 5],false⟩
def o34:dJ:= .c [.s,.dat (.int .u32),.dat (.int .i32),.dat (.int .u32),.dat TW,.dat TW,.dat TU,.own 2 Ua]
def e12:Spec:=⟨[f16,⟨230,[.v 3927 [1],.b 1],[],some 2,[],false⟩,f30,f31,f1],[(0,o3),(1,o3),(2,o32),(3,.c [.ptr 8 0]),(4,Xm),(5,o3),(6,.deferred false),(7,.c [.ptr 8 0]),(8,o15)],9⟩
def x12:List Spec:=[⟨[fs 234 [] [],⟨230,[.v 3927 [1],.b 1],[],some 0,[],false⟩,fs 245 [.v 818 [10,11],.q 819,.b 1,.q 103,.z 12,.b 0] [(0,.fn (.yield 0) []),(1,.ptr 1 0),(9,.slc 2 0 none Ua),(10,.w),(11,.w)],f33,f1],[(0,.loop .busy none 230 [(2,.ptr 6 0),(3,.ptr 3 0)] [18,19] (KP 122) 5),(1,.c [.ptr 7 0]),(2,Xm),(3,o3),(4,o3),(5,.deferred false),(6,.c [.ptr 7 0]),(7,o34)],8⟩]
abbrev A12:Type:=Int×Int×Int×Int×Int×LI×LI×LL×LI×LI×Int×Int×Int×LI×LI×LL×Unit
abbrev B12:Type:=(Int×Int×Int×Int×LL×LI×LI×LI×Int×Int×Int×LI×LI×LL×Unit)
def b12(m_:Dq)(self:A12->Option B12):A12->Option B12:=fun v_=>match v_ with
|(t,tp,tq,t1,t2,m,m1,m2,m3)=>
 bif decide (t<16)then
  bif inB t 16 then
  bif inB t 16 then
  bif inB t 16 then
  self ((ahw.wrap (t+1)),tp,tq,t1,t2,(m.set t.toNat (Hz .u8 (rd 0 m t) (rd 0 m1 t))),m1,m2,m3)else none else none else none
 else
  some (tp,tq,t1,t2,m2,m,m3)
theorem k12:KQ 228 (O m_) [229,230,233,234,235,236,237,238,241,242,243,244,247,248,251,252,253,255,263,264] e12 x12 [] (b12 m_):=fun _ _=>by kernel_rfl
def l12:=loop m_ (b12 m_)
theorem q12(v):l12 .lim v=b12 .lim (l12 .lim) v:=KS.q (k12 .lim) v
def s12:=so m_ (k12 m_)
def e13:Spec:=⟨[fs 245 [.q 12,.z 12,.b 0] [(0,.fn (.yield 0) []),(1,.ptr 1 0),(9,.slc 2 0 none Ua),(10,.w),(11,.w)],f33,f1],[(0,.loop .ready none 230 [(2,.ptr 6 0),(3,.ptr 3 0)] [18,19] (KP 122) 5),(1,.c [.ptr 7 0]),(2,Xm),(3,o3),(4,o3),(5,.deferred false),(6,.c [.ptr 7 0]),(7,o34)],8⟩
def x13:List Spec:=[⟨[fs 245 [] [],⟨230,[.inRange 2,.b 0,.q 31],[(3,.ptr 0 0),(4,.ptr 1 0)],none,[.mark 3],false⟩,f1],[(0,o3),(1,o3),(2,.loop .ready none 230 [(2,.ptr 4 0),(3,.ptr 0 0)] [18,19] (KP 122) 3),(3,.deferred false),(4,.c [.ptr 5 0]),(5,o20),(6,Xm)],7⟩]
abbrev A13:Type:=Int×Int×Int×Int×LL×LI×LI×LI×Int×Int×Int×LI×LI×LL×Unit
abbrev B13:Type:=(LI×LI×LI×Int×Int×Int×LI×LI×LL×LL×Unit)
def b13(self:A13->Option B13):A13->Option B13:=fun v_=>match v_ with
|(tp,tq,t,t1,m,m1,m2,m3,m4,m5,m6,m7,m8,m9,())=>
 bif decide (t1<t)then
  bif inB t1 tq then
  bif wB (m.length:Int)then
  (MN.l8 m_ (0,decide (t1=(ahw.wrap ((m.length:Int)-2))),tp,tq,t,t1,m1,m3,m4,m5,m6,m7,m8,m9,(rd (ahx 16 (0:Int):List Int) m (tp+t1)),m,m2,())).bind fun (last,tp1,tq1,t2,t3,m10,m11)=>
  (MN.l9 m_ (4,0,last,tp1,tq1,t2,t3,m10,m10,m11)).bind fun (aaK,tp2,tq2,t4,t5,m21,m22,m23,m24,Tz,Tc,TG,RX,SY,UG,UO,())=>
  bif !aaK then
   (MN.l11 m_ (0,tp2,tq2,t4,t5,Tz,Tc,TG,RX,SY,UG,UO,m21,(((((ahx 4 (0:Int):List Int).set 0 2).set 1 3).set 2 1).set 3 1),m21,m22,m23,m24,())).bind fun (tp3)=>
   (MN.l12 m_ (0,tp3)).bind fun (tp4,tq4,t8,t9,VX)=>
   self (tp4,tq4,t8,(ahw.wrap (t9+1)),VX)
  else
   (MN.l12 m_ (0,tp2,tq2,t4,t5,m21,m22,m23,m24,Tz,Tc,TG,RX,SY,UG,UO,())).bind fun (tp5,tq5,t10,t11,V3)=>
   self (tp5,tq5,t10,(ahw.wrap (t11+1)),V3)else none else none
 else
  some (m1,m2,m3,m4,m5,m6,m7,m8,m9,m,())
theorem k13:KQ 228 (O m_) [229,230,233,234,235,236,237,238,241,242,243,244,247,248,251,252,253,255,263,264] e13 x13 [s8 m_,s9 m_,s11 m_,s12 m_] (b13 m_):=fun _ _=>by kernel_rfl
def YH:=loop m_ (b13 m_)
theorem q13(v):YH .lim v=b13 .lim (YH .lim) v:=KS.q (k13 .lim) v
def s13:=so m_ (k13 m_)
def e14:Spec:=⟨[fs 230 [.q 1] [(0,.ptr 0 0),(1,.dat Ua)],f1],[(0,o2)],1⟩
def x14:List Spec:=[⟨[⟨230,[.q 63],[(4,.ptr 0 0)],none,[.mark 1],false⟩,f1],[(0,o3),(1,.deferred false)],2⟩]
abbrev A14:Type:=LI×LI×Int×Int×Int×LI×LI×LL×Unit
abbrev B14:Type:=(LI×Unit)
def b14(self:A14->Option B14):A14->Option B14:=fun v_=>match v_ with
|(b,m,m1,m2,m3,m4,m5,m6,())=>
 (MN.l6 m_ (m,m1,m2,m3,m4,m5,m6,b,(ahx 16 (0:Int)),())).bind fun (m7,m8,m9,m10,m11,m12,m13,m14,m15,m16,())=>
 bif inB 0 (m16.length:Int)then
 (MN.l7 m_ (0,m7,(rd (ahx 16 (0:Int):List Int) m16 0),m8,m9,m10,m11,m12,m13,m14,m15,m16,())).bind fun (m17,m18,m19,m20,m21,m22,m23,m24,Tz,Tc,())=>
 bif sV 1 (Tc.length:Int) (Tc.length:Int)then
 bif wB ((Tc.length:Int)-1)then
 (MN.YH m_ (1,((Tc.length:Int)-1),((Tc.length:Int)-1),0,Tc,m17,m18,m19,m20,m21,m22,m23,m24,Tz,())).bind fun (TG,RX)=>
 some (TG,())else none else none else none
theorem k14:KQ 228 (O m_) [229,230,233,234,235,236,237,238,241,242,243,244,247,248,251,252,253,255,263,264] e14 x14 [s6 m_,s7 m_,s13 m_] (b14 m_):=fun _ _=>by kernel_rfl
def Yg:=loop m_ (b14 m_)
theorem q14(v):Yg .lim v=b14 .lim (Yg .lim) v:=KS.q (k14 .lim) v
def s14:=so m_ (k14 m_)
def run:(List Int)×(List Int)×Unit->Option ((List Int)×Int×Unit):=fun v_=>match v_ with
|(key,s,())=>
 bif wB (key.length:Int)then
 bif((!(!(decide ((key.length:Int)=16))))||(wB (key.length:Int)))then
 bif((!(decide ((key.length:Int)=16)))&&(!(decide ((key.length:Int)=32))))then
  some (([]:List Int),13,())
 else
  bif wB (s.length:Int)then
  bif !(decide ((s.length:Int)=16))then
   some (([]:List Int),10,())
  else
   bif(ahB 1 16&&ahB 16 s.length)then
   (MN.Yg m_ ((s.take 16),key,0,0,0,(ahx 256 (0:Int)),(ahx 256 (0:Int)),(ahx 16 (ahx 256 (0:Int):List Int)),())).bind fun (m,())=>
   some (((m.drop 0).take 16),0,())else none else none else none else none
theorem k:KT (O m_) [229,230,233,234,235,236,237,238,241,242,243,244,247,248,251,252,253,255,263,264] ⟨228,[.one .str,.one .str],.gG [.sh (.one .str),.sh (.one (.int .i64))],run m_⟩ [s14 m_]:=fun _=>by kernel_rfl
def c:=co (k m_)
end MN

namespace Qj
def O(m_:Dq):OO P:=lI []
def e0:Spec:=⟨[fs 246 [.q 12,.z 12,.b 0] [(0,.fn (.yield 0) []),(1,.ptr 1 0),(3,.w)],⟨232,[.inRange 0,.b 0,.q 31],[(4,.ptr 2 0),(5,.ptr 3 0)],none,[.mark 4],false⟩],[(0,.loop .ready none 232 [(4,.ptr 2 0),(5,.ptr 3 0)] [15,16] (KP 122) 4),(1,.c [.oy 5]),(2,.c [.oy 5]),(3,.c [.y]),(4,.deferred false),(5,.c [.ry])],6⟩
def x0:List Spec:=[⟨[fs 246 [] [],⟨232,[.inRange 2,.b 0,.q 31],[(4,.ptr 0 0),(5,.ptr 1 0)],none,[.mark 3],false⟩],[(0,.c [.oy 4]),(1,.c [.y]),(2,.loop .ready none 232 [(4,.ptr 0 0),(5,.ptr 1 0)] [15,16] (KP 122) 3),(3,.deferred false),(4,.c [.ry])],5⟩]
abbrev A0:Type:=Int×Int×LI×Unit
abbrev B0:Type:=(Int×LI×Unit)
def b0(m_:Dq)(self:A0->Option B0):A0->Option B0:=fun v_=>match v_ with
|(i,m,m1,())=>
 bif decide (i>=0)then
  bif inB i (m1.length:Int)then
  bif inB i (m1.length:Int)then
  self ((ahw.wrap (i-1)),(Ja .u8 (rd 0 m1 i) 7),(m1.set i.toNat (KL .u8 (I_ .u8 (rd 0 m1 i) 1) m)),())else none else none
 else
  some (m,m1,())
theorem k0:KQ 232 (O m_) [240] e0 x0 [] (b0 m_):=fun _ _=>by kernel_rfl
def l0:=loop m_ (b0 m_)
theorem q0(v):l0 .lim v=b0 .lim (l0 .lim) v:=KS.q (k0 .lim) v
def s0:=so m_ (k0 m_)
def run:(List Int)×Unit->Option ((List Int)×Int×Unit):=fun v_=>match v_ with
|(b,())=>
 bif wB (b.length:Int)then
 bif !(decide ((b.length:Int)=16))then
  some (([]:List Int),10,())
 else
  bif wB (b.length:Int)then
  (Qj.l0 m_ ((ahw.wrap ((b.length:Int)-1)),0,b,())).bind fun (m,m1,())=>
  bif inB 15 (m1.length:Int)then
  bif inB 15 (m1.length:Int)then
  some ((m1.set 15 (Hz .u8 (rd 0 m1 15) (ahy.wrap (m*135)))),0,())else none else none else none else none
theorem k:KT (O m_) [240] ⟨232,[.one .str],.gG [.sh (.one .str),.sh (.one (.int .i64))],run m_⟩ [s0 m_]:=fun _=>by kernel_rfl
def c:=co (k m_)
end Qj

namespace Qx
def O:OO P:=lI [Qj.c m_]
def run:(List Int)×Unit->Option (List Int):=fun v_=>match v_ with
|(b,())=>
 (Qj.run m_ (b,())).bind fun (r,r1,())=>
 some r
theorem k:KT (O m_) [] ⟨227,[.one .str],.one (.sh (.one .str)),run m_⟩ []:=fun _=>by kernel_rfl
def c:=co (k m_)
end Qx

namespace TK
def O:OO P:=lI [PI.c m_,Qx.c m_,MN.c m_]
def run:(List Int)×Unit->Option (abn×Int×Unit):=fun v_=>match v_ with
|(key,())=>
 (PI.run m_ (16,())).bind fun r=>
 (MN.run m_ (key,r,())).bind fun (r1,r2,())=>
 bif !(decide (r2=0))then
  some (ac6,13,())
 else
  (Qx.run m_ (r1,())).bind fun r3=>
  (Qx.run m_ (r3,())).bind fun r4=>
  some ((key,(r3,r4)),0,())
theorem k:KT (O m_) [] ⟨224,[.one .str],.gG [.sh (.ag tY9),.sh (.one (.int .i64))],run m_⟩ []:=fun _=>by kernel_rfl
def c:=co (k m_)
end TK

namespace QH
def O:OO P:=lI [TK.c m_]
def run:(List Int)×(List (List Int))×Unit->Option (abn×(List Int)×Int×Unit):=fun v_=>match v_ with
|(key,ad,())=>
 bif wB (key.length:Int)then
 bif((!(!(decide ((key.length:Int)=32))))||(wB (key.length:Int)))then
 bif((!(decide ((key.length:Int)=32)))&&(!(decide ((key.length:Int)=64))))then
  some (ac6,([]:List Int),13,())
 else
  bif wB (ad.length:Int)then
  bif decide ((ad.length:Int)>=127)then
   some (ac6,([]:List Int),18,())
  else
   bif wB (key.length:Int)then
   bif sV 0 (ahw.wrap ((key.length:Int).tdiv 2)) (key.length:Int)then
   (TK.run m_ ((cut key 0 (ahw.wrap ((key.length:Int).tdiv 2))),())).bind fun (r,r1,())=>
   bif wB (key.length:Int)then
   bif sV (ahw.wrap ((key.length:Int).tdiv 2)) (key.length:Int) (key.length:Int)then
   some (r,(cut key (ahw.wrap ((key.length:Int).tdiv 2)) (key.length:Int)),r1,())else none else none else none else none else none else none else none
theorem k:KT (O m_) [] ⟨219,[.one .str,.one (.lst .str)],.gG [.sh (.ag tY9),.sh (.one .str),.sh (.one (.int .i64))],run m_⟩ []:=fun _=>by kernel_rfl
def c:=co (k m_)
end QH

namespace O9
def O(m_:Dq):OO P:=lI []
def e0:Spec:=⟨[fs 221 [.q 116,.z 116,.b 0,.q 15] [(1,.s),(5,.oy 0),(10,.w),(11,.w)]],[(0,.c [.ry])],1⟩
def x0:List Spec:=[⟨[fs 221 [.q 15] [(5,.oy 0)]],[(0,.c [.ry])],1⟩]
abbrev A0:Type:=LI×Int×Int×LI×Unit
abbrev B0:Type:=(LI×Unit)
def b0(m_:Dq)(self:A0->Option B0):A0->Option B0:=fun v_=>match v_ with
|(b,t,t1,m,())=>
 bif decide (t1<t)then
  bif inB t1 (m.length:Int)then
  bif inB t1 (b.length:Int)then
  bif inB t1 (m.length:Int)then
  self (b,t,(ahw.wrap (t1+1)),(m.set t1.toNat (Hz .u8 (rd 0 m t1) (rd 0 b t1))),())else none else none else none
 else
  some (m,())
theorem k0:KQ 221 (O m_) [] e0 x0 [] (b0 m_):=fun _ _=>by kernel_rfl
def l0:=loop m_ (b0 m_)
theorem q0(v):l0 .lim v=b0 .lim (l0 .lim) v:=KS.q (k0 .lim) v
def s0:=so m_ (k0 m_)
def run:(List Int)×(List Int)×Unit->Option (List Int):=fun v_=>match v_ with
|(a,b,())=>
 bif wB (a.length:Int)then
 (O9.l0 m_ (b,(a.length:Int),0,a,())).bind fun (m,())=>
 some m else none
theorem k:KT (O m_) [] ⟨221,[.one .str,.one .str],.one (.sh (.one .str)),run m_⟩ [s0 m_]:=fun _=>by kernel_rfl
def c:=co (k m_)
end O9

namespace Oj
def O:OO P:=lI [O9.c m_,PI.c m_,MN.c m_]
def f0:gB:=⟨226,[.inRange 0,.b 0,.q 15],[(5,.ptr 3 0)],none,[.mark 4],false⟩
def o1:dJ:= .loop .ready none 226 [(2,.ptr 5 0),(5,.ptr 3 0)] [11] (KP 58) 4
def e0:Spec:=⟨[fs 239 [.q 8,.z 8,.b 0,.q 3] [(0,.fn (.yield 0) []),(1,.ptr 1 0),(2,.ptr 2 0)],f0],[(0,o1),(1,.c [.s]),(2,.c [.s,.s,.s]),(3,.c [.s]),(4,.deferred false),(5,.c [.s,.s,.s])],6⟩
def x0:List Spec:=[⟨[fs 239 [.q 3] [(0,.fn (.yield 0) []),(1,.ptr 1 0),(2,.ptr 2 0)],f0],[(0,o1),(1,.c [.s]),(2,.c [.s,.s,.s]),(3,.c [.s]),(4,.deferred false),(5,.c [.s,.s,.s])],6⟩]
abbrev A0:Type:=LI×LI×LI×LI×LI×LI×LI×LI×Unit
abbrev B0:Type:=(LI×LI×LI×LI×LI×LI×LI×LI×Unit)
def b0(self:A0->Option B0):A0->Option B0:=fun v_=>match v_ with
|(m,m1,m2,m3,m4,m5,m6,m7,())=>
 bif wB (m.length:Int)then
 bif decide ((m.length:Int)>16)then
  bif sV 0 16 (m.length:Int)then
  (O9.run m_ (m4,(cut m 0 16),())).bind fun r=>
  (MN.run m_ (m5,r,())).bind fun (r1,r2,())=>
  bif sV 16 (m.length:Int) (m.length:Int)then
  self ((cut m 16 (m.length:Int)),m1,m2,m3,r1,m5,m6,m7,())else none else none
 else
  some (m,m1,m2,m3,m4,m5,m6,m7,())else none
theorem k0:KQ 226 (O m_) [231] e0 x0 [] (b0 m_):=fun _ _=>by kernel_rfl
def l0:=loop m_ (b0 m_)
theorem q0(v):l0 .lim v=b0 .lim (l0 .lim) v:=KS.q (k0 .lim) v
def s0:=so m_ (k0 m_)
def run:abn×(List Int)×Unit->Option (List Int):=fun v_=>match v_ with
|(m,s,())=>
 (PI.run m_ (16,())).bind fun r=>
 (Oj.l0 m_ (s,m.1,m.2.1,m.2.2,r,m.1,m.2.1,m.2.2,())).bind fun (m1,m2,m3,m4,m5,m6,m7,m8,())=>
 bif wB (m1.length:Int)then
 bif decide ((m1.length:Int)=16)then
  (O9.run m_ (m1,m3,())).bind fun r1=>
  (O9.run m_ (m5,r1,())).bind fun r2=>
  (MN.run m_ (m6,r2,())).bind fun (r3,r4,())=>
  some r3
 else
  bif decide (m1.length+([128]:List Int).length<=maxStr)then
  bif wB (m1.length:Int)then
  (PI.run m_ ((ahw.wrap (15-(m1.length:Int))),())).bind fun r5=>
  bif decide ((m1++([128]:List Int)).length+r5.length<=maxStr)then
  (O9.run m_ (((m1++([128]:List Int))++r5),m4,())).bind fun r6=>
  (O9.run m_ (m5,r6,())).bind fun r7=>
  (MN.run m_ (m6,r7,())).bind fun (r8,r9,())=>
  some r8 else none else none else none else none
theorem k:KT (O m_) [231] ⟨226,[.ag tY9,.one .str],.one (.sh (.one .str)),run m_⟩ [s0 m_]:=fun _=>by kernel_rfl
def c:=co (k m_)
end Oj

namespace Oy
def O:OO P:=lI [O9.c m_,PI.c m_,Oj.c m_,Qx.c m_]
def e0:Spec:=⟨[fs 222 [.q 500,.z 500,.b 0,.q 63] [(2,.ptr 0 0),(5,.s),(6,.s),(30,.t),(31,.w),(32,.w)]],[(0,.c [.s,.s,.s])],1⟩
def x0:List Spec:=[⟨[fs 222 [.q 63] [(2,.ptr 0 0),(5,.s),(6,.s)]],[(0,.c [.s,.s,.s])],1⟩]
abbrev A0:Type:=LI×LI×LL×Int×Int×LI×LI×LI×Unit
abbrev B0:Type:=(LI×LI×LI×LI×LI×Unit)
def b0(self:A0->Option B0):A0->Option B0:=fun v_=>match v_ with
|(d,s,t,t1,t2,m,m1,m2,())=>
 bif decide (t2<t1)then
  bif inB t2 (t.length:Int)then
  (Qx.run m_ (d,())).bind fun r=>
  (Oj.run m_ ((m,(m1,m2)),(rd ([]:List Int) t t2),())).bind fun r1=>
  (O9.run m_ (r,r1,())).bind fun r2=>
  self (r2,s,t,t1,(ahw.wrap (t2+1)),m,m1,m2,())else none
 else
  some (d,s,m,m1,m2,())
theorem k0:KQ 222 (O m_) [] e0 x0 [] (b0 m_):=fun _ _=>by kernel_rfl
def l0:=loop m_ (b0 m_)
theorem q0(v):l0 .lim v=b0 .lim (l0 .lim) v:=KS.q (k0 .lim) v
def s0:=so m_ (k0 m_)
def run:abn×(List (List Int))×Unit->Option (List Int):=fun v_=>match v_ with
|(m,l,())=>
 bif wB (l.length:Int)then
 bif decide ((l.length:Int)=0)then
  (PI.run m_ (15,())).bind fun r=>
  bif decide (r.length+([1]:List Int).length<=maxStr)then
  (Oj.run m_ (m,(r++([1]:List Int)),())).bind fun r1=>
  some r1 else none
 else
  (PI.run m_ (16,())).bind fun r2=>
  (Oj.run m_ (m,r2,())).bind fun r3=>
  bif wB (l.length:Int)then
  bif inB (ahw.wrap ((l.length:Int)-1)) (l.length:Int)then
  bif wB (l.length:Int)then
  bif sV 0 (ahw.wrap ((l.length:Int)-1)) (l.length:Int)then
  bif wB ((cut l 0 (ahw.wrap ((l.length:Int)-1))).length:Int)then
  (Oy.l0 m_ (r3,(rd ([]:List Int) l (ahw.wrap ((l.length:Int)-1))),(cut l 0 (ahw.wrap ((l.length:Int)-1))),((cut l 0 (ahw.wrap ((l.length:Int)-1))).length:Int),0,m.1,m.2.1,m.2.2,())).bind fun (d,s,m1,m2,m3,())=>
  bif wB (s.length:Int)then
  bif decide ((ahw.wrap ((s.length:Int)-16))>=0)then
   bif sV 0 (ahw.wrap ((s.length:Int)-16)) (s.length:Int)then
   bif sV (ahw.wrap ((s.length:Int)-16)) (s.length:Int) (s.length:Int)then
   (O9.run m_ ((cut s (ahw.wrap ((s.length:Int)-16)) (s.length:Int)),d,())).bind fun r4=>
   bif decide ((cut s 0 (ahw.wrap ((s.length:Int)-16))).length+r4.length<=maxStr)then
   (Oj.run m_ ((m1,(m2,m3)),((cut s 0 (ahw.wrap ((s.length:Int)-16)))++r4),())).bind fun r5=>
   some r5 else none else none else none
  else
   bif decide (s.length+([128]:List Int).length<=maxStr)then
   bif wB (s.length:Int)then
   (PI.run m_ ((ahw.wrap (15-(s.length:Int))),())).bind fun r6=>
   bif decide ((s++([128]:List Int)).length+r6.length<=maxStr)then
   (Qx.run m_ (d,())).bind fun r7=>
   (O9.run m_ (((s++([128]:List Int))++r6),r7,())).bind fun r8=>
   (Oj.run m_ ((m1,(m2,m3)),r8,())).bind fun r9=>
   some r9 else none else none else none else none else none else none else none else none else none else none
theorem k:KT (O m_) [] ⟨222,[.ag tY9,.one (.lst .str)],.one (.sh (.one .str)),run m_⟩ [s0 m_]:=fun _=>by kernel_rfl
def c:=co (k m_)
end Oy

namespace ML
def xs:List (FuncId×XK):=[(254,.load .u32),(265,.store),(267,.Gf .disable),(268,.cas .i32),(269,.Gf .enable),(270,.Gg .acquire),(272,.Gg .releaseMerge),(273,.add .i32)]
theorem abm: ∀x∈xs,x.2.OK P x.1:=ac ⟨_,Go.Proofs.Tryz.func254,by kernel_rfl,by kernel_rfl,by kernel_rfl,by kernel_rfl⟩ (ac ⟨_,Go.Proofs.Tryz.func265,by kernel_rfl,by kernel_rfl,by kernel_rfl,by kernel_rfl⟩ (ac ⟨_,Go.Proofs.Tryz.func267,by kernel_rfl,by kernel_rfl,by kernel_rfl,by kernel_rfl⟩ (ac ⟨_,Go.Proofs.Tryz.func268,by kernel_rfl,by kernel_rfl,by kernel_rfl,by kernel_rfl⟩ (ac ⟨_,Go.Proofs.Tryz.func269,by kernel_rfl,by kernel_rfl,by kernel_rfl,by kernel_rfl⟩ (ac ⟨_,Go.Proofs.Tryz.func270,by kernel_rfl,by kernel_rfl,by kernel_rfl,by kernel_rfl⟩ (ac ⟨_,Go.Proofs.Tryz.func272,by kernel_rfl,by kernel_rfl,by kernel_rfl,by kernel_rfl⟩ (ac ⟨_,Go.Proofs.Tryz.func273,by kernel_rfl,by kernel_rfl,by kernel_rfl,by kernel_rfl⟩ (an))))))))
def O:OO P:=MG (lI [S9.c m_,OE.c m_,MX.c m_,PN.c m_]) (MI abm)
def f0:gB:=⟨248,[.v 61 [1]],[],none,[.call 257 [.ptr 0 1,.b],.call 256 [.ptr 0 2]],false⟩
def o1:dJ:= .c [.s,.dat (.int .u32),.dat (.int .i32),.dat (.int .u32),.dat TW,.dat TW,.dat TU,.own 8 Ua]
def o2:dJ:= .c [.dat Ua]
def o3:dJ:= .c [.row Ua]
def f4:gB:=fs 242 [.v 2 [1],.q 3] [(0,.ptr 1 0)]
def f5:gB:=fs 230 [.v 6 [1],.q 7] [(2,.ptr 2 0),(3,.ptr 3 0),(4,.ptr 4 0)]
def f6:gB:=fs 225 [.v 8132 [2,3,4],.q 8133,.b 1,.z 1016,.b 0,.q 255] [(2,.w),(8,.ptr 0 0),(10,.ptr 5 0),(11,.oy 6)]
def o7:dJ:= .c [.s,.dat (.int .u32),.dat (.int .i32),.dat (.int .u32),.dat TW,.dat TW,.dat TU,.own 7 Ua]
def e0:Spec:=⟨[fs 243 [.q 13116,.z 13116,.b 2,.b 1,.q 103,.z 12,.b 0] [(0,.ptr 0 0),(2,.w),(6,.w),(25,.oy 1),(26,.w),(27,.w)],fs 242 [.v 2 [1],.q 3] [(0,.ptr 2 0)],f0,fs 241 [.v 6 [2]] [],fs 233 [.v 3 [4]] [],fs 230 [.v 6 [1],.q 7] [(2,.ptr 3 0),(3,.ptr 4 0),(4,.ptr 5 0)],fs 225 [.v 8132 [2,3,4],.q 8133,.b 1,.z 1016,.b 0,.q 255] [(2,.w),(8,.ptr 0 0),(10,.ptr 6 0),(11,.oy 7)]],[(0,o1),(1,.c [.ry]),(2,.c [.ptr 0 0]),(3,.c [.ptr 0 0]),(4,o2),(5,o2),(6,o2),(7,.d [.ry]),(8,o3)],9⟩
def x0:List Spec:=[⟨[fs 243 [.q 103,.z 12,.b 0] [(0,.ptr 0 0),(6,.w)],f4,f0,fs 241 [.v 6 [2]] [],fs 233 [.v 3 [4]] [],f5,f6],[(0,o7),(1,.c [.ptr 0 0]),(2,.c [.ptr 0 0]),(3,o2),(4,o2),(5,o2),(6,.d [.ry]),(7,o3)],8⟩]
abbrev A0:Type:=Int×Int×Int×Int×Bool×Int×LI×Int×Int×Int×LI×LI×LL×LI×LI×LI×LI×LI×LL×Unit
abbrev B0:Type:=(Int×Bool×Int×LI×Int×Int×Int×LI×LI×LL×LI×LI×LI×LI×LL×Unit)
def b0(self:A0->Option B0):A0->Option B0:=fun v_=>match v_ with
|(i,t,t1,t2,m,n,m1,m2,m3,m4,m5,m6,m7,m8,m9)=>
 bif decide (t2<t1)then
  bif inB t2 (m8.length:Int)then
  (OE.run m_ ((ahy.wrap i),(rd 0 m8 t2),())).bind fun r=>
  bif inB (rd 0 m8 t2) 16 then
  bif inB i 256 then
  self (i,t,t1,(ahw.wrap (t2+1)),m,n,m1,m2,m3,m4,m5,m6,(m7.set ((rd 0 m8 t2).toNat) ((rd (ahx 256 (0:Int):List Int) m7 (rd 0 m8 t2)).set i.toNat r)),m8,m9)else none else none else none
 else
  some (t,m,n,m1,m2,m3,m4,m5,m6,m7,m9)
theorem k0:KQ 225 (O m_) [229,230,233,234,235,236,237,238,241,242,243,244,247,248,251,252,253,255,263,264] e0 x0 [] (b0 m_):=fun _ _=>by kernel_rfl
def l0:=loop m_ (b0 m_)
theorem q0(v):l0 .lim v=b0 .lim (l0 .lim) v:=KS.q (k0 .lim) v
def s0:=so m_ (k0 m_)
def e1:Spec:=⟨[fs 243 [.q 12,.z 12,.b 0] [(0,.ptr 0 0),(6,.w)],f4,f0,fs 241 [.v 6 [2]] [],fs 233 [.v 3 [4]] [],f5,f6],[(0,o7),(1,.c [.ptr 0 0]),(2,.c [.ptr 0 0]),(3,o2),(4,o2),(5,o2),(6,.d [.ry]),(7,o3)],8⟩
def x1:List Spec:=[⟨[fs 243 [] [],fs 242 [.v 2 [1],.q 3] [(0,.ptr 0 0)],⟨248,[.v 61 [1]],[],none,[.call 257 [.ptr 1 1,.b],.call 256 [.ptr 1 2]],false⟩,fs 241 [.v 6 [2]] [],fs 233 [.v 3 [4]] [],f5,fs 225 [.v 8132 [2,3,4],.q 8133,.b 1,.z 1016,.b 0,.q 255] [(2,.w),(8,.ptr 1 0),(10,.ptr 5 0),(11,.oy 6)]],[(0,.c [.ptr 1 0]),(1,o7),(2,.c [.ptr 1 0]),(3,o2),(4,o2),(5,o2),(6,.d [.ry]),(7,o3)],8⟩]
abbrev A1:Type:=Int×Bool×Int×LI×Int×Int×Int×LI×LI×LL×LI×LI×LI×LI×LL×Unit
abbrev B1:Type:=(Bool×Int×LI×Int×Int×Int×LI×LI×LL×LI×LI×LI×LI×LL×Unit)
def b1(self:A1->Option B1):A1->Option B1:=fun v_=>match v_ with
|(t,m,n,m1,m2,m3,m4,m5,m6,m7,m8)=>
 bif decide (t<256)then
  (S9.run m_ ((ahy.wrap t),())).bind fun r=>
  bif inB t 256 then
  bif inB r 256 then
  bif wB (([1,2,3,9,11,13,14]:List Int).length:Int)then
  (ML.l0 m_ (t,t,(([1,2,3,9,11,13,14]:List Int).length:Int),0,m,n,m1,m2,m3,m4,(m5.set t.toNat r),(m6.set r.toNat (ahy.wrap t)),m7,([1,2,3,9,11,13,14]:List Int),m8)).bind fun (t1,m13)=>
  self ((ahw.wrap (t1+1)),m13)else none else none else none
 else
  some (m,n,m1,m2,m3,m4,m5,m6,m7,m8)
theorem k1:KQ 225 (O m_) [229,230,233,234,235,236,237,238,241,242,243,244,247,248,251,252,253,255,263,264] e1 x1 [s0 m_] (b1 m_):=fun _ _=>by kernel_rfl
def l1:=loop m_ (b1 m_)
theorem q1(v):l1 .lim v=b1 .lim (l1 .lim) v:=KS.q (k1 .lim) v
def s1:=so m_ (k1 m_)
def o8:dJ:= .c [.s,.dat (.int .u32),.dat (.int .i32),.dat (.int .u32),.dat TW,.dat TW,.dat TU,.own 13 Ua]
def o9:dJ:= .c [.row Yy]
def f10:gB:=⟨248,[.v 61 [1]],[],none,[.call 257 [.ptr 4 1,.b],.call 256 [.ptr 4 2]],false⟩
def f11:gB:=fs 230 [.v 6 [1],.q 7] [(2,.ptr 5 0),(3,.ptr 6 0),(4,.ptr 7 0)]
def f12:gB:=fs 225 [.v 8132 [2,3,4],.q 8133,.b 1,.z 1016,.b 0,.q 255] [(2,.w),(8,.ptr 4 0),(10,.ptr 8 0),(11,.oy 9)]
def o13:dJ:= .c [.own 10 Yy]
def Xm:dJ:= .c [.s,.dat (.int .u32),.dat (.int .i32),.dat (.int .u32),.dat TW,.dat TW,.dat TU,.own 11 Ua]
def e2:Spec:=⟨[fs 260 [.q 12,.z 12,.b 0] [(0,.fn (.yield 0) []),(1,.ptr 1 0),(2,.ptr 2 0),(4,.w)],⟨244,[.inRange 0,.b 0,.q 31],[(1,.ptr 3 0),(2,.w),(3,.ptr 4 0)],none,[.mark 5],false⟩,fs 242 [.v 3 [1]] [],⟨248,[.v 61 [1]],[],none,[.call 257 [.ptr 6 1,.b],.call 256 [.ptr 6 2]],false⟩,fs 241 [.v 6 [2]] [],fs 233 [.v 3 [4]] [],fs 230 [.v 6 [1],.q 7] [(2,.ptr 7 0),(3,.ptr 8 0),(4,.ptr 9 0)],fs 225 [.v 8132 [2,3,4],.q 8133,.b 1,.z 1016,.b 0,.q 255] [(2,.w),(8,.ptr 6 0),(10,.ptr 10 0),(11,.oy 11)]],[(0,.loop .ready none 244 [(3,.ptr 4 0)] [22] (KP 122) 5),(1,.c [.oy 12]),(2,.c [.w]),(3,.c [.ptr 6 0]),(4,.c [.own 5004 Yy]),(5,.deferred false),(6,o8),(7,.c [.ptr 6 0]),(8,o2),(9,o2),(10,o2),(11,.d [.ry]),(12,.d [.ry]),(5004,o9),(13,o3)],5005⟩
def x2:List Spec:=[⟨[fs 260 [] [],⟨244,[.inRange 2,.b 0,.q 31],[(1,.ptr 0 0),(2,.w),(3,.ptr 1 0)],none,[.mark 3],false⟩,fs 242 [.v 3 [1]] [],f10,fs 241 [.v 6 [2]] [],fs 233 [.v 3 [4]] [],f11,f12],[(0,.c [.ptr 4 0]),(1,o13),(2,.loop .ready none 244 [(3,.ptr 1 0)] [22] (KP 122) 3),(3,.deferred false),(4,Xm),(5,.c [.ptr 4 0]),(6,o2),(7,o2),(8,o2),(9,.d [.ry]),(10,o9),(11,o3)],12⟩]
abbrev A2:Type:=Int×Int×Bool×Int×Int×LI×Int×Int×Int×LI×LI×LL×LI×LI×LI×LI×LI×LL×LL×Unit
abbrev B2:Type:=(Int×Bool×Int×LI×Int×Int×Int×LI×LI×LL×LI×LI×LI×LI×LL×LL×Unit)
def b2(m_:Dq)(self:A2->Option B2):A2->Option B2:=fun v_=>match v_ with
|(i,nk,m,n,m1,m2,m3,m4,m5,m6,m7,m8,m9,m10,m11,m12,m13,m14,m15,())=>
 bif wB (m13.length:Int)then
 bif decide (i<(m13.length:Int))then
  bif sV i (m13.length:Int) (m13.length:Int)then
  bif wB ((m13.length:Int)-i)then
  bif((sV i (ahw.wrap (i+(mn m1 ((m13.length:Int)-i)))) (ahw.wrap (i+(mn m1 ((m13.length:Int)-i)))))&&(decide ((ahw.wrap (i+(mn m1 ((m13.length:Int)-i))))<=(m13.length:Int))))then
  bif(ahB 1 4&&ahB 4 (cut m13 i (ahw.wrap (i+(mn m1 ((m13.length:Int)-i))))).length)then
  bif decide (m14.length+([((cut m13 i (ahw.wrap (i+(mn m1 ((m13.length:Int)-i))))).take 4)]:List (List Int)).length<17592186044416)then
  self ((ahw.wrap (i+m1)),nk,m,n,m1,m2,m3,m4,m5,m6,m7,m8,m9,m10,m11,m12,m13,(m14++([((cut m13 i (ahw.wrap (i+(mn m1 ((m13.length:Int)-i))))).take 4)]:List (List Int))),m15,())else none else none else none else none else none
 else
  some (nk,m,n,m2,m3,m4,m5,m6,m7,m8,m9,m10,m11,m12,m14,m15,())else none
theorem k2:KQ 225 (O m_) [229,230,233,234,235,236,237,238,241,242,243,244,247,248,251,252,253,255,263,264] e2 x2 [] (b2 m_):=fun _ _=>by kernel_rfl
def l2:=loop m_ (b2 m_)
theorem q2(v):l2 .lim v=b2 .lim (l2 .lim) v:=KS.q (k2 .lim) v
def s2:=so m_ (k2 m_)
def o15:dJ:= .c [.dat Yy]
def e3:Spec:=⟨[⟨244,[.q 518452,.z 518452,.b 4,.q 64807,.b 3,.q 4051,.z 1012,.b 2,.q 127],[(1,.ptr 0 0),(2,.w),(3,.ptr 1 0),(5,.y),(6,.w),(7,.ptr 2 0),(115,.w)],none,[.mark 3],false⟩,fs 242 [.v 3 [1]] [],f10,fs 241 [.v 6 [2]] [],fs 233 [.v 3 [4]] [],f11,f12],[(0,.c [.ptr 4 0]),(1,o13),(2,o15),(3,.deferred false),(4,Xm),(5,.c [.ptr 4 0]),(6,o2),(7,o2),(8,o2),(9,.d [.ry]),(10,o9),(11,o3)],12⟩
def x3:List Spec:=[⟨[⟨244,[.q 64807,.b 3,.q 4051,.z 1012,.b 2,.q 127],[(1,.ptr 0 0),(2,.w),(3,.ptr 1 0),(5,.y),(6,.w),(7,.ptr 2 0)],none,[.mark 3],false⟩,fs 242 [.v 3 [1]] [],f10,fs 241 [.v 6 [2]] [],fs 233 [.v 3 [4]] [],f11,f12],[(0,.c [.ptr 4 0]),(1,o13),(2,o15),(3,.deferred false),(4,Xm),(5,.c [.ptr 4 0]),(6,o2),(7,o2),(8,o2),(9,.d [.ry]),(10,o9),(11,o3)],12⟩]
abbrev A3:Type:=Int×Int×Int×Int×Bool×Int×LI×LI×Int×Int×Int×LI×LI×LL×LI×LI×LI×LI×LL×LL×Unit
abbrev B3:Type:=(Int×Int×Int×Bool×Int×LI×LI×Int×Int×Int×LI×LI×LL×LI×LI×LI×LI×LL×LL×Unit)
def b3(m_:Dq)(self:A3->Option B3):A3->Option B3:=fun v_=>match v_ with
|(nk,x,i,t,m,n,m1,m2,m3,m4,m5,m6,m7,m8,m9,m10,m11,m12,m13,m14,())=>
 bif decide (t<4)then
  bif inB t 4 then
  bif inB (ahw.wrap (i-nk)) (m13.length:Int)then
  bif inB t 4 then
  bif inB t 4 then
  self (nk,x,i,(ahw.wrap (t+1)),m,n,(m1.set t.toNat (Hz .u8 (rd 0 m1 t) (rd 0 (rd (ahx 4 (0:Int):List Int) m13 (ahw.wrap (i-nk))) t))),m2,m3,m4,m5,m6,m7,m8,m9,m10,m11,m12,m13,m14,())else none else none else none else none
 else
  some (nk,x,i,m,n,m1,m2,m3,m4,m5,m6,m7,m8,m9,m10,m11,m12,m13,m14,())
theorem k3:KQ 225 (O m_) [229,230,233,234,235,236,237,238,241,242,243,244,247,248,251,252,253,255,263,264] e3 x3 [] (b3 m_):=fun _ _=>by kernel_rfl
def l3:=loop m_ (b3 m_)
theorem q3(v):l3 .lim v=b3 .lim (l3 .lim) v:=KS.q (k3 .lim) v
def s3:=so m_ (k3 m_)
def f16:gB:=⟨248,[.v 61 [1]],[],none,[.call 257 [.ptr 3 1,.b],.call 256 [.ptr 3 2]],false⟩
def f17:gB:=fs 230 [.v 6 [1],.q 7] [(2,.ptr 4 0),(3,.ptr 5 0),(4,.ptr 6 0)]
def f18:gB:=fs 225 [.v 8132 [2,3,4],.q 8133,.b 1,.z 1016,.b 0,.q 255] [(2,.w),(8,.ptr 3 0),(10,.ptr 7 0),(11,.oy 8)]
def o19:dJ:= .c [.own 9 Yy]
def o20:dJ:= .c [.s,.dat (.int .u32),.dat (.int .i32),.dat (.int .u32),.dat TW,.dat TW,.dat TU,.own 10 Ua]
def e4:Spec:=⟨[⟨244,[.q 1012,.z 1012,.b 2,.q 127],[(1,.ptr 0 0),(2,.w),(3,.ptr 1 0),(5,.y),(6,.w)],none,[.mark 2],false⟩,fs 242 [.v 3 [1]] [],f16,fs 241 [.v 6 [2]] [],fs 233 [.v 3 [4]] [],f17,f18],[(0,.c [.ptr 3 0]),(1,o19),(2,.deferred false),(3,o20),(4,.c [.ptr 3 0]),(5,o2),(6,o2),(7,o2),(8,.d [.ry]),(9,o9),(10,o3)],11⟩
def x4:List Spec:=[⟨[⟨244,[.q 127],[(1,.ptr 0 0),(3,.ptr 1 0)],none,[.mark 2],false⟩,fs 242 [.v 3 [1]] [],f16,fs 241 [.v 6 [2]] [],fs 233 [.v 3 [4]] [],f17,f18],[(0,.c [.ptr 3 0]),(1,o19),(2,.deferred false),(3,o20),(4,.c [.ptr 3 0]),(5,o2),(6,o2),(7,o2),(8,.d [.ry]),(9,o9),(10,o3)],11⟩]
abbrev A4:Type:=Int×Int×Int×Bool×Int×LI×Int×Int×Int×LI×LI×LL×LI×LI×LI×LI×LL×LL×Unit
abbrev B4:Type:=(Bool×Int×LI×Int×Int×Int×LI×LI×LL×LI×LI×LI×LI×LL×LL×Unit)
def b4(self:A4->Option B4):A4->Option B4:=fun v_=>match v_ with
|(nk,x,i,m,n,m1,m2,m3,m4,m5,m6,m7,m8,m9,m10,m11,m12,m13,())=>
 bif decide (i<(ahw.wrap (4*(ahw.wrap (nk+7)))))then
  bif inB (ahw.wrap (i-1)) (m12.length:Int)then
  bif !(decide (nk=0))then
  bif decide ((i.tmod nk)=0)then
   bif inB (rd 0 (rd (ahx 4 (0:Int):List Int) m12 (ahw.wrap (i-1))) 1) 256 then
   bif inB (rd 0 (rd (ahx 4 (0:Int):List Int) m12 (ahw.wrap (i-1))) 2) 256 then
   bif inB (rd 0 (rd (ahx 4 (0:Int):List Int) m12 (ahw.wrap (i-1))) 3) 256 then
   bif inB (rd 0 (rd (ahx 4 (0:Int):List Int) m12 (ahw.wrap (i-1))) 0) 256 then
   (OE.run m_ (x,2,())).bind fun r=>
   (ML.l3 m_ (nk,r,i,0,m,n,(((((ahx 4 (0:Int):List Int).set 0 (Hz .u8 (rd 0 m5 (rd 0 (rd (ahx 4 (0:Int):List Int) m12 (ahw.wrap (i-1))) 1)) x)).set 1 (rd 0 m5 (rd 0 (rd (ahx 4 (0:Int):List Int) m12 (ahw.wrap (i-1))) 2))).set 2 (rd 0 m5 (rd 0 (rd (ahx 4 (0:Int):List Int) m12 (ahw.wrap (i-1))) 3))).set 3 (rd 0 m5 (rd 0 (rd (ahx 4 (0:Int):List Int) m12 (ahw.wrap (i-1))) 0))),m1,m2,m3,m4,m5,m6,m7,m8,m9,m10,m11,m12,m13,())).bind fun (nk1,x1,i1,m14,n1,m15,m16,m17,m18,m19,m20,m21,m22,m23,m24,Tz,Tc,TG,RX,())=>
   bif decide (TG.length+([m15]:List (List Int)).length<17592186044416)then
   self (nk1,x1,(ahw.wrap (i1+1)),m14,n1,m16,m17,m18,m19,m20,m21,m22,m23,m24,Tz,Tc,(TG++([m15]:List (List Int))),RX,())else none else none else none else none else none
  else
   bif((!(decide (nk=8)))||true)then
   bif((decide (nk=8))&&(decide ((i.tmod 8)=4)))then
    bif inB (rd 0 (rd (ahx 4 (0:Int):List Int) m12 (ahw.wrap (i-1))) 0) 256 then
    bif inB (rd 0 (rd (ahx 4 (0:Int):List Int) m12 (ahw.wrap (i-1))) 1) 256 then
    bif inB (rd 0 (rd (ahx 4 (0:Int):List Int) m12 (ahw.wrap (i-1))) 2) 256 then
    bif inB (rd 0 (rd (ahx 4 (0:Int):List Int) m12 (ahw.wrap (i-1))) 3) 256 then
    (ML.l3 m_ (nk,x,i,0,m,n,(((((ahx 4 (0:Int):List Int).set 0 (rd 0 m5 (rd 0 (rd (ahx 4 (0:Int):List Int) m12 (ahw.wrap (i-1))) 0))).set 1 (rd 0 m5 (rd 0 (rd (ahx 4 (0:Int):List Int) m12 (ahw.wrap (i-1))) 1))).set 2 (rd 0 m5 (rd 0 (rd (ahx 4 (0:Int):List Int) m12 (ahw.wrap (i-1))) 2))).set 3 (rd 0 m5 (rd 0 (rd (ahx 4 (0:Int):List Int) m12 (ahw.wrap (i-1))) 3))),m1,m2,m3,m4,m5,m6,m7,m8,m9,m10,m11,m12,m13,())).bind fun (nk2,x2,i2,SY,n2,UG,UO,m32,Ux,UZ,Vo,U0,VW,Xh,V_,Wh,Xi,VJ,VX,())=>
    bif decide (VJ.length+([UG]:List (List Int)).length<17592186044416)then
    self (nk2,x2,(ahw.wrap (i2+1)),SY,n2,UO,m32,Ux,UZ,Vo,U0,VW,Xh,V_,Wh,Xi,(VJ++([UG]:List (List Int))),VX,())else none else none else none else none else none
   else
    (ML.l3 m_ (nk,x,i,0,m,n,(rd (ahx 4 (0:Int):List Int) m12 (ahw.wrap (i-1))),m1,m2,m3,m4,m5,m6,m7,m8,m9,m10,m11,m12,m13,())).bind fun (nk3,x3,i3,VY,n3,U5,U6,VK,VZ,U7,Vp,Vx,Xl,V3,WJ,Xj,Xw,V4,YJ,())=>
    bif decide (V4.length+([U5]:List (List Int)).length<17592186044416)then
    self (nk3,x3,(ahw.wrap (i3+1)),VY,n3,U6,VK,VZ,U7,Vp,Vx,Xl,V3,WJ,Xj,Xw,(V4++([U5]:List (List Int))),YJ,())else none else none else none else none
 else
  some (m,n,m1,m2,m3,m4,m5,m6,m7,m8,m9,m10,m11,m12,m13,())
theorem k4:KQ 225 (O m_) [229,230,233,234,235,236,237,238,241,242,243,244,247,248,251,252,253,255,263,264] e4 x4 [s3 m_] (b4 m_):=fun _ _=>by kernel_rfl
def l4:=loop m_ (b4 m_)
theorem q4(v):l4 .lim v=b4 .lim (l4 .lim) v:=KS.q (k4 .lim) v
def s4:=so m_ (k4 m_)
def e5:Spec:=⟨[fs 261 [.q 12,.z 12,.b 0] [(0,.fn (.yield 0) []),(1,.ptr 1 0),(2,.ptr 2 0),(4,.w)],⟨244,[.inRange 0,.b 6],[],none,[.mark 3,.mark 4],false⟩,fs 242 [.v 3 [1]] [],⟨248,[.v 61 [1]],[],none,[.call 257 [.ptr 5 1,.b],.call 256 [.ptr 5 2]],false⟩,fs 241 [.v 6 [2]] [],fs 233 [.v 3 [4]] [],fs 230 [.v 6 [1],.q 7] [(2,.ptr 6 0),(3,.ptr 7 0),(4,.ptr 8 0)],fs 225 [.v 8132 [2,3,4],.q 8133,.b 1,.z 1016,.b 0,.q 255] [(2,.w),(8,.ptr 5 0),(10,.ptr 9 0),(11,.oy 10)]],[(0,.loop .ready none 244 [(1,.ptr 11 0)] [138] (KP 510) 3),(1,.c [.own 12 Yy]),(2,.c [.w]),(3,.deferred false),(4,.deferred false),(5,o8),(6,.c [.ptr 5 0]),(7,o2),(8,o2),(9,o2),(10,.d [.ry]),(11,.d [.ptr 5 0]),(12,.d [.row Yy]),(13,o3)],14⟩
def x5:List Spec:=[⟨[fs 261 [] [],⟨244,[.inRange 0,.b 6],[],none,[.mark 1,.mark 2],false⟩,fs 242 [.v 3 [1]] [],f16,fs 241 [.v 6 [2]] [],fs 233 [.v 3 [4]] [],f17,f18],[(0,.loop .ready none 244 [(1,.ptr 9 0)] [138] (KP 510) 1),(1,.deferred false),(2,.deferred false),(3,o20),(4,.c [.ptr 3 0]),(5,o2),(6,o2),(7,o2),(8,.d [.ry]),(9,.d [.ptr 3 0]),(10,o3)],11⟩]
abbrev A5:Type:=Int×Bool×Int×Int×LI×Int×Int×Int×LI×LI×LL×LI×LI×LI×LI×LL×LL×Unit
abbrev B5:Type:=(Bool×Int×LI×Int×Int×Int×LI×LI×LL×LI×LI×LI×LI×LL×Unit)
def b5(self:A5->Option B5):A5->Option B5:=fun v_=>match v_ with
|(i,m,n,m1,m2,m3,m4,m5,m6,m7,m8,m9,m10,m11,m12,m13,m14,())=>
 bif wB (m13.length:Int)then
 bif decide (i<(m13.length:Int))then
  bif sV i (m13.length:Int) (m13.length:Int)then
  bif wB ((m13.length:Int)-i)then
  bif((sV i (ahw.wrap (i+(mn m1 ((m13.length:Int)-i)))) (ahw.wrap (i+(mn m1 ((m13.length:Int)-i)))))&&(decide ((ahw.wrap (i+(mn m1 ((m13.length:Int)-i))))<=(m13.length:Int))))then
  bif inB 0 ((cut m13 i (ahw.wrap (i+(mn m1 ((m13.length:Int)-i))))).length:Int)then
  bif inB 1 ((cut m13 i (ahw.wrap (i+(mn m1 ((m13.length:Int)-i))))).length:Int)then
  bif inB 2 ((cut m13 i (ahw.wrap (i+(mn m1 ((m13.length:Int)-i))))).length:Int)then
  bif inB 3 ((cut m13 i (ahw.wrap (i+(mn m1 ((m13.length:Int)-i))))).length:Int)then
  (MX.run m_ (([(cut (rd (ahx 4 (0:Int):List Int) (cut m13 i (ahw.wrap (i+(mn m1 ((m13.length:Int)-i))))) 0) 0 4),(cut (rd (ahx 4 (0:Int):List Int) (cut m13 i (ahw.wrap (i+(mn m1 ((m13.length:Int)-i))))) 1) 0 4),(cut (rd (ahx 4 (0:Int):List Int) (cut m13 i (ahw.wrap (i+(mn m1 ((m13.length:Int)-i))))) 2) 0 4),(cut (rd (ahx 4 (0:Int):List Int) (cut m13 i (ahw.wrap (i+(mn m1 ((m13.length:Int)-i))))) 3) 0 4)]:List (List Int)),())).bind fun r=>
  bif(ahB 1 16&&ahB 16 r.length)then
  bif decide (m14.length+([(r.take 16)]:List (List Int)).length<4398046511104)then
  self ((ahw.wrap (i+m1)),m,n,m1,m2,m3,m4,m5,m6,m7,m8,m9,m10,m11,m12,m13,(m14++([(r.take 16)]:List (List Int))),())else none else none else none else none else none else none else none else none else none
 else
  some (m,n,m2,m3,m4,m5,m6,m7,m8,m9,m10,m11,m12,m14,())else none
theorem k5:KQ 225 (O m_) [229,230,233,234,235,236,237,238,241,242,243,244,247,248,251,252,253,255,263,264] e5 x5 [] (b5 m_):=fun _ _=>by kernel_rfl
def l5:=loop m_ (b5 m_)
theorem q5(v):l5 .lim v=b5 .lim (l5 .lim) v:=KS.q (k5 .lim) v
def s5:=so m_ (k5 m_)
def o21:dJ:= .c [.s,.dat (.int .u32),.dat (.int .i32),.dat (.int .u32),.dat TW,.dat TW,.dat TU,.own 6 Ua]
def f22:gB:=fs 225 [.v 8132 [2,3,4],.q 8133,.b 1,.z 1016,.b 0,.q 255] [(2,.w),(8,.ptr 3 0),(10,.ptr 4 0),(11,.oy 5)]
def e6:Spec:=⟨[fs 233 [.q 1] [(0,.ptr 0 0)],fs 230 [.v 6 [1],.q 7] [(2,.ptr 1 0),(3,.ptr 2 0),(4,.ptr 3 0)],fs 225 [.v 8132 [2,3,4],.q 8133,.b 1,.z 1016,.b 0,.q 255] [(2,.w),(8,.ptr 0 0),(10,.ptr 4 0),(11,.oy 5)]],[(0,o21),(1,.c [.ptr 0 0]),(2,o2),(3,o2),(4,o2),(5,.d [.ry]),(6,o3)],7⟩
def x6:List Spec:=[⟨[fs 233 [] [],fs 230 [.v 6 [1],.q 7] [(2,.ptr 0 0),(3,.ptr 1 0),(4,.ptr 2 0)],f22],[(0,.c [.ptr 3 0]),(1,o2),(2,o2),(3,o21),(4,o2),(5,.d [.ry]),(6,o3)],7⟩]
abbrev A6:Type:=Int×LI×Int×Int×Int×LI×LI×LL×LI×LI×LI×LI×LL×Unit
abbrev B6:Type:=(Int×LI×LI×LI×Int×Int×Int×LI×LI×LL×LI×LI×LL×Unit)
def b6(self:A6->Option B6):A6->Option B6:=fun v_=>match v_ with
|(n,m,m1,m2,m3,m4,m5,m6,m7,m8,m9)=>
 bif !(!(decide (m1=0)))then
  bif decide (m2=0)then
  bif !(!(decide (m1=0)))then
   (ML.l1 m_ (0,true,n,m,m1,(bif decide (m2=0)then 1 else m2),m3,m4,m5,m6,m7,m8,m9)).bind fun (m12,n1,m13,m14,m15,m16,m17,m18,m19,m20,m21,m22,m23,m24,())=>
   bif wB (m13.length:Int)then
   (ML.l2 m_ (0,(ahw.wrap ((m13.length:Int).tdiv 4)),m12,n1,4,m13,m14,m15,m16,m17,m18,m19,m20,m21,m22,m23,m13,([]:List (List Int)),m24,())).bind fun (nk,Tz)=>
   (ML.l4 m_ (nk,1,nk,Tz)).bind fun (V_,n3,Wh)=>
   (ML.l5 m_ (0,V_,n3,4,Wh)).bind fun (V3,n4,WJ,Xj,Xw,V4,YJ,m59,m60,m61,X4,ZJ)=>
   (PN.run m_ (V3,())).bind fun r=>
   bif !(decide ((ahz.wrap (Xw+(-1)))=0))then
    none
   else
    some (n4,m61,X4,WJ,r,(ahz.wrap (Xw+(-1))),V4,YJ,m59,m60,ZJ)else none
  else
   bif !(decide ((ahz.wrap ((bif decide (m2=0)then 1 else m2)+(-1)))=0))then
    none
   else
    some (n,m7,m8,m,m1,(ahz.wrap ((bif decide (m2=0)then 1 else m2)+(-1))),m3,m4,m5,m6,m9)else none
 else
  some (n,m7,m8,m,m1,m2,m3,m4,m5,m6,m9)
theorem k6:KQ 225 (O m_) [229,230,233,234,235,236,237,238,241,242,243,244,247,248,251,252,253,255,263,264] e6 x6 [s1 m_,s2 m_,s4 m_,s5 m_] (b6 m_):=fun _ _=>by kernel_rfl
def l6:=loop m_ (b6 m_)
theorem q6(v):l6 .lim v=b6 .lim (l6 .lim) v:=KS.q (k6 .lim) v
def s6:=so m_ (k6 m_)
def f23:gB:=fs 234 [.q 28,.z 28,.b 0] [(0,.ptr 0 0),(3,.ptr 1 0),(5,.w)]
def f24:gB:=fs 225 [.v 8132 [2,3,4],.q 8133,.b 1,.z 1016,.b 0,.q 255] [(2,.w),(8,.ptr 4 0),(10,.ptr 5 0),(11,.oy 6)]
def e7:Spec:=⟨[f23,fs 230 [.v 14 [6],.q 15] [(2,.ptr 2 0),(3,.ptr 0 0),(4,.ptr 3 0)],f24],[(0,o2),(1,o2),(2,.c [.ptr 4 0]),(3,o2),(4,o7),(5,o2),(6,.d [.ry]),(7,o3)],8⟩
def x7:List Spec:=[⟨[fs 234 [] [],fs 230 [.v 14 [6],.q 15] [(2,.ptr 0 0),(3,.ptr 1 0),(4,.ptr 2 0)],f22],[(0,.c [.ptr 3 0]),(1,o2),(2,o2),(3,o21),(4,o2),(5,.d [.ry]),(6,o3)],7⟩]
abbrev A7:Type:=Int×Int×LI×LI×LI×LI×Int×Int×Int×LI×LI×LL×LI×LI×LL×Unit
abbrev B7:Type:=(Int×LI×LI×LI×Int×Int×Int×LI×LI×LL×LI×LI×LL×Unit)
def b7(m_:Dq)(self:A7->Option B7):A7->Option B7:=fun v_=>match v_ with
|(t,n,m,m1,m2)=>
 bif decide (t<16)then
  bif inB t 16 then
  bif inB t 16 then
  bif inB t 16 then
  self ((ahw.wrap (t+1)),n,(m.set t.toNat (Hz .u8 (rd 0 m t) (rd 0 m1 t))),m1,m2)else none else none else none
 else
  some (n,m,m2)
theorem k7:KQ 225 (O m_) [229,230,233,234,235,236,237,238,241,242,243,244,247,248,251,252,253,255,263,264] e7 x7 [] (b7 m_):=fun _ _=>by kernel_rfl
def l7:=loop m_ (b7 m_)
theorem q7(v):l7 .lim v=b7 .lim (l7 .lim) v:=KS.q (k7 .lim) v
def s7:=so m_ (k7 m_)
def f25:gB:=fs 245 [.v 818 [10,11],.q 819,.b 1,.q 103,.z 12,.b 0] [(0,.fn (.yield 4) []),(1,.ptr 5 0),(9,.slc 6 0 none Ua),(10,.w),(11,.w)]
def f26:gB:=⟨230,[.inRange 4,.b 0,.q 31],[(3,.ptr 0 0),(4,.ptr 7 0)],none,[.mark 8],false⟩
def o27:dJ:= .loop .busy none 230 [(2,.ptr 2 0),(3,.ptr 0 0)] [18,19] (KP 122) 8
def f28:gB:=fs 245 [.v 818 [10,11],.q 819,.b 1,.q 103,.z 12,.b 0] [(0,.fn (.yield 3) []),(1,.ptr 4 0),(9,.slc 5 0 none Ua),(10,.w),(11,.w)]
def f29:gB:=⟨230,[.inRange 3,.b 0,.q 31],[(3,.ptr 1 0),(4,.ptr 6 0)],none,[.mark 7],false⟩
def f30:gB:=fs 225 [.v 8132 [2,3,4],.q 8133,.b 1,.z 1016,.b 0,.q 255] [(2,.w),(8,.ptr 8 0),(10,.ptr 9 0),(11,.oy 10)]
def o31:dJ:= .loop .busy none 230 [(2,.ptr 0 0),(3,.ptr 1 0)] [18,19] (KP 122) 7
def o32:dJ:= .c [.s,.dat (.int .u32),.dat (.int .i32),.dat (.int .u32),.dat TW,.dat TW,.dat TU,.own 5 Ua]
def e8:Spec:=⟨[fs 236 [.q 12,.z 12,.b 0] [(0,.ptr 0 0),(1,.ptr 1 4),(6,.ptr 0 0),(7,.w)],⟨230,[.v 980 [3],.q 981,.b 1],[(2,.ptr 2 0),(3,.ptr 0 0),(5,.ptr 3 0),(6,.b)],some 4,[],false⟩,f25,f26,fs 225 [.v 8132 [2,3,4],.q 8133,.b 1,.z 1016,.b 0,.q 255] [(2,.w),(8,.ptr 1 0),(10,.ptr 9 0),(11,.oy 10)]],[(0,o2),(1,o21),(2,.c [.ptr 1 0]),(3,o2),(4,o27),(5,.c [.ptr 1 0]),(6,o3),(7,o2),(8,.deferred false),(9,o2),(10,.d [.ry])],11⟩
def x8:List Spec:=[⟨[fs 236 [] [],⟨230,[.v 980 [3],.q 981,.b 1],[(2,.ptr 0 0),(3,.ptr 1 0),(5,.ptr 2 0),(6,.b)],some 3,[],false⟩,f28,f29,f30],[(0,.c [.ptr 8 0]),(1,o2),(2,o2),(3,o31),(4,.c [.ptr 8 0]),(5,o3),(6,o2),(7,.deferred false),(8,o32),(9,o2),(10,.d [.ry])],11⟩]
abbrev A8:Type:=Int×Bool×Int×Int×Int×Int×Int×LI×LI×Int×Int×Int×LI×LI×LL×LI×LL×LI×LI×LI×Unit
abbrev B8:Type:=(Bool×Int×Int×Int×Int×Int×LI×LI×LL×LI×LI×Int×Int×Int×LI×LI×LL×LI×LI×Unit)
def b8(m_:Dq)(self:A8->Option B8):A8->Option B8:=fun v_=>match v_ with
|(t,last,tp,tq,t1,t2,n,m,m1,m2,m3,m4,m5,m6,m7,m8,m9,m10,m11,m12,())=>
 bif decide (t<16)then
  bif inB t 16 then
  bif inB (rd 0 m t) 256 then
  bif inB t 16 then
  self ((ahw.wrap (t+1)),last,tp,tq,t1,t2,n,(m.set t.toNat (rd 0 m5 (rd 0 m t))),m1,m2,m3,m4,m5,m6,m7,m8,m9,m10,m11,m12,())else none else none else none
 else
  some (last,tp,tq,t1,t2,n,m,m8,m9,m10,m1,m2,m3,m4,m5,m6,m7,m11,m12,())
theorem k8:KQ 225 (O m_) [229,230,233,234,235,236,237,238,241,242,243,244,247,248,251,252,253,255,263,264] e8 x8 [] (b8 m_):=fun _ _=>by kernel_rfl
def l8:=loop m_ (b8 m_)
theorem q8(v):l8 .lim v=b8 .lim (l8 .lim) v:=KS.q (k8 .lim) v
def s8:=so m_ (k8 m_)
def e9:Spec:=⟨[fs 237 [.q 28,.z 28,.b 0] [(0,.ptr 0 0),(1,.w),(4,.ptr 1 0),(9,.w)],⟨230,[.v 1962 [0],.q 1963,.b 1],[(2,.ptr 2 0),(3,.ptr 0 0),(5,.ptr 3 0),(6,.b)],some 4,[],false⟩,f25,f26,fs 225 [.v 8132 [2,3,4],.q 8133,.b 1,.z 1016,.b 0,.q 255] [(2,.w),(8,.ptr 9 0),(10,.ptr 10 0),(11,.oy 11)]],[(0,o2),(1,o2),(2,.c [.ptr 9 0]),(3,o2),(4,o27),(5,.c [.ptr 9 0]),(6,o3),(7,o2),(8,.deferred false),(9,o21),(10,o2),(11,.d [.ry])],12⟩
def x9:List Spec:=[⟨[fs 237 [] [],⟨230,[.v 1962 [0],.q 1963,.b 1],[(2,.ptr 0 0),(3,.ptr 1 0),(5,.ptr 2 0),(6,.b)],some 3,[],false⟩,f28,f29,f30],[(0,.c [.ptr 8 0]),(1,o2),(2,o2),(3,o31),(4,.c [.ptr 8 0]),(5,o3),(6,o2),(7,.deferred false),(8,o32),(9,o2),(10,.d [.ry])],11⟩]
abbrev A9:Type:=Int×Int×Bool×Int×Int×Int×Int×Int×LI×LI×LI×LL×LI×LI×Int×Int×Int×LI×LI×LL×LI×LI×Unit
abbrev B9:Type:=(Bool×Int×Int×Int×Int×Int×LI×LI×LL×LI×LI×Int×Int×Int×LI×LI×LL×LI×LI×Unit)
def b9(m_:Dq)(self:A9->Option B9):A9->Option B9:=fun v_=>match v_ with
|(byV,t,last,tp,tq,t1,t2,n,m,m1,m2)=>
 bif decide (t<16)then
  bif inB ((ahw.wrap ((ahw.wrap (t+(ahw.wrap (byV*(t.tmod 4)))))+64)).tmod 16) 16 then
  bif inB t 16 then
  self (byV,(ahw.wrap (t+1)),last,tp,tq,t1,t2,n,(m.set t.toNat (rd 0 m1 ((ahw.wrap ((ahw.wrap (t+(ahw.wrap (byV*(t.tmod 4)))))+64)).tmod 16))),m1,m2)else none else none
 else
  some (last,tp,tq,t1,t2,n,m,m2)
theorem k9:KQ 225 (O m_) [229,230,233,234,235,236,237,238,241,242,243,244,247,248,251,252,253,255,263,264] e9 x9 [] (b9 m_):=fun _ _=>by kernel_rfl
def l9:=loop m_ (b9 m_)
theorem q9(v):l9 .lim v=b9 .lim (l9 .lim) v:=KS.q (k9 .lim) v
def s9:=so m_ (k9 m_)
def f33:gB:=⟨230,[.v 15706 [2],.q 3927,.b 1],[(3,.ptr 1 0),(5,.ptr 4 0)],some 5,[],false⟩
def f34:gB:=fs 245 [.v 818 [10,11],.q 819,.b 1,.q 103,.z 12,.b 0] [(0,.fn (.yield 5) []),(1,.ptr 6 0),(9,.slc 7 0 none Ua),(10,.w),(11,.w)]
def f35:gB:=⟨230,[.inRange 5,.b 0,.q 31],[(3,.ptr 1 0),(4,.ptr 8 0)],none,[.mark 9],false⟩
def f36:gB:=fs 225 [.v 8132 [2,3,4],.q 8133,.b 1,.z 1016,.b 0,.q 255] [(2,.w),(8,.ptr 0 0),(10,.ptr 10 0),(11,.oy 11)]
def o37:dJ:= .loop .busy none 230 [(2,.ptr 12 0),(3,.ptr 1 0)] [18,19] (KP 122) 9
def e10:Spec:=⟨[fs 238 [.q 31132,.z 31132,.b 2,.b 1,.q 487,.z 60,.b 0] [(0,.ptr 0 0),(1,.ptr 1 0),(5,.ptr 2 0),(6,.ptr 3 0),(7,.w),(13,.w),(20,.dat Yy),(21,.w)],f33,f34,f35,f36],[(0,o7),(1,o2),(2,o15),(3,o2),(4,o2),(5,o37),(6,.c [.ptr 0 0]),(7,o3),(8,o2),(9,.deferred false),(10,o2),(11,.d [.ry]),(12,.c [.ptr 0 0])],13⟩
def x10:List Spec:=[⟨[fs 238 [.q 487,.z 60,.b 0] [(0,.ptr 0 0),(1,.ptr 1 0),(5,.ptr 2 0),(6,.ptr 3 0),(13,.w)],f33,f34,f35,f36],[(0,o7),(1,o2),(2,o15),(3,o2),(4,o2),(5,o37),(6,.c [.ptr 0 0]),(7,o3),(8,o2),(9,.deferred false),(10,o2),(11,.d [.ry]),(12,.c [.ptr 0 0])],13⟩]
abbrev A10:Type:=Int×Int×LI×Int×Int×Int×Int×Int×Int×LI×Int×Int×Int×LI×LI×LL×LI×LI×LI×LI×LL×LI×LI×LI×Unit
abbrev B10:Type:=(Int×Int×Int×Int×Int×Int×LI×Int×Int×Int×LI×LI×LL×LI×LI×LI×LI×LL×LI×LI×LI×Unit)
def b10(m_:Dq)(self:A10->Option B10):A10->Option B10:=fun v_=>match v_ with
|(i,t,t1,t2,tp,tq,t3,t4,n,m,m1,m2,m3,m4,m5,m6,m7,m8,m9,m10)=>
 bif decide (t2<4)then
  bif inB t2 4 then
  bif inB i 16 then
  bif inB (ahw.wrap ((ahw.wrap ((ahw.wrap (i.tdiv 4))*4))+((ahw.wrap (i+t2)).tmod 4))) 16 then
  bif inB (rd 0 t1 t2) 16 then
  bif inB (rd 0 m9 (ahw.wrap ((ahw.wrap ((ahw.wrap (i.tdiv 4))*4))+((ahw.wrap (i+t2)).tmod 4)))) 256 then
  bif inB i 16 then
  self (i,t,t1,(ahw.wrap (t2+1)),tp,tq,t3,t4,n,m,m1,m2,m3,m4,m5,m6,(m7.set i.toNat (Hz .u8 (rd 0 m7 i) (rd 0 (rd (ahx 256 (0:Int):List Int) m6 (rd 0 t1 t2)) (rd 0 m9 (ahw.wrap ((ahw.wrap ((ahw.wrap (i.tdiv 4))*4))+((ahw.wrap (i+t2)).tmod 4))))))),m8,m9,m10)else none else none else none else none else none else none
 else
  some (t,tp,tq,t3,t4,n,m,m1,m2,m3,m4,m5,m6,m7,m8,m9,m10)
theorem k10:KQ 225 (O m_) [229,230,233,234,235,236,237,238,241,242,243,244,247,248,251,252,253,255,263,264] e10 x10 [] (b10 m_):=fun _ _=>by kernel_rfl
def l10:=loop m_ (b10 m_)
theorem q10(v):l10 .lim v=b10 .lim (l10 .lim) v:=KS.q (k10 .lim) v
def s10:=so m_ (k10 m_)
def f38:gB:=fs 245 [.v 818 [10,11],.q 819,.b 1,.q 103,.z 12,.b 0] [(0,.fn (.yield 2) []),(1,.ptr 3 0),(9,.slc 4 0 none Ua),(10,.w),(11,.w)]
def f39:gB:=⟨230,[.inRange 2,.b 0,.q 31],[(3,.ptr 0 0),(4,.ptr 5 0)],none,[.mark 6],false⟩
def f40:gB:=fs 225 [.v 8132 [2,3,4],.q 8133,.b 1,.z 1016,.b 0,.q 255] [(2,.w),(8,.ptr 7 0),(10,.ptr 8 0),(11,.oy 9)]
def o41:dJ:= .loop .busy none 230 [(2,.ptr 10 0),(3,.ptr 0 0)] [18,19] (KP 122) 6
def o42:dJ:= .c [.s,.dat (.int .u32),.dat (.int .i32),.dat (.int .u32),.dat TW,.dat TW,.dat TU,.own 4 Ua]
def e11:Spec:=⟨[fs 238 [.q 60,.z 60,.b 0] [(0,.ptr 0 0),(1,.ptr 1 0),(5,.ptr 2 0),(6,.ptr 3 0),(13,.w)],f33,f34,f35,f36],[(0,o7),(1,o2),(2,o15),(3,o2),(4,o2),(5,o37),(6,.c [.ptr 0 0]),(7,o3),(8,o2),(9,.deferred false),(10,o2),(11,.d [.ry]),(12,.c [.ptr 0 0])],13⟩
def x11:List Spec:=[⟨[fs 238 [] [],⟨230,[.v 15706 [2],.q 3927,.b 1],[(3,.ptr 0 0),(5,.ptr 1 0)],some 2,[],false⟩,f38,f39,f40],[(0,o2),(1,o2),(2,o41),(3,.c [.ptr 7 0]),(4,o3),(5,o2),(6,.deferred false),(7,o42),(8,o2),(9,.d [.ry]),(10,.c [.ptr 7 0])],11⟩]
abbrev A11:Type:=Int×Int×Int×Int×Int×Int×LI×Int×Int×Int×LI×LI×LL×LI×LI×LI×LI×LL×LI×LI×LI×Unit
abbrev B11:Type:=(Int×Int×Int×Int×Int×LI×LI×LL×LI×LI×Int×Int×Int×LI×LI×LL×LI×LI×Unit)
def b11(self:A11->Option B11):A11->Option B11:=fun v_=>match v_ with
|(t,tp,tq,t1,t2,n,m,m1,m2,m3,m4,m5,m6,m7,m8,m9,m10,m11,m12,m13,m14,())=>
 bif decide (t<16)then
  bif inB t 16 then
  (ML.l10 m_ (t,t,m8,0,tp,tq,t1,t2,n,m,m1,m2,m3,m4,m5,m6,(m7.set t.toNat 0),m8,m9,m10,m11,m12,m13,m14,())).bind fun (t3,tp1)=>
  self ((ahw.wrap (t3+1)),tp1)else none
 else
  some (tp,tq,t1,t2,n,m7,m10,m11,m12,m,m1,m2,m3,m4,m5,m6,m13,m14,())
theorem k11:KQ 225 (O m_) [229,230,233,234,235,236,237,238,241,242,243,244,247,248,251,252,253,255,263,264] e11 x11 [s10 m_] (b11 m_):=fun _ _=>by kernel_rfl
def l11:=loop m_ (b11 m_)
theorem q11(v):l11 .lim v=b11 .lim (l11 .lim) v:=KS.q (k11 .lim) v
def s11:=so m_ (k11 m_)
def f43:gB:=⟨230,[.inRange 0,.b 0,.q 31],[(3,.ptr 3 0),(4,.ptr 4 0)],none,[.mark 5],false⟩
def f44:gB:=fs 225 [.v 8132 [2,3,4],.q 8133,.b 1,.z 1016,.b 0,.q 255] [(2,.w),(8,.ptr 6 0),(10,.ptr 7 0),(11,.oy 8)]
def o45:dJ:= .c [.s,.dat (.int .u32),.dat (.int .i32),.dat (.int .u32),.dat TW,.dat TW,.dat TU,.own 2 Ua]
def e12:Spec:=⟨[f23,⟨230,[.v 3927 [1],.b 1],[],some 2,[],false⟩,f38,f39,f40],[(0,o2),(1,o2),(2,o41),(3,.c [.ptr 7 0]),(4,o3),(5,o2),(6,.deferred false),(7,o42),(8,o2),(9,.d [.ry]),(10,.c [.ptr 7 0])],11⟩
def x12:List Spec:=[⟨[fs 234 [] [],⟨230,[.v 3927 [1],.b 1],[],some 0,[],false⟩,fs 245 [.v 818 [10,11],.q 819,.b 1,.q 103,.z 12,.b 0] [(0,.fn (.yield 0) []),(1,.ptr 1 0),(9,.slc 2 0 none Ua),(10,.w),(11,.w)],f43,f44],[(0,.loop .busy none 230 [(2,.ptr 9 0),(3,.ptr 3 0)] [18,19] (KP 122) 5),(1,.c [.ptr 6 0]),(2,o3),(3,o2),(4,o2),(5,.deferred false),(6,o45),(7,o2),(8,.d [.ry]),(9,.c [.ptr 6 0])],10⟩]
abbrev A12:Type:=Int×Int×Int×Int×Int×Int×LI×LI×LL×LI×LI×Int×Int×Int×LI×LI×LL×LI×LI×Unit
abbrev B12:Type:=(Int×Int×Int×Int×Int×LL×LI×LI×LI×Int×Int×Int×LI×LI×LL×LI×LI×Unit)
def b12(m_:Dq)(self:A12->Option B12):A12->Option B12:=fun v_=>match v_ with
|(t,tp,tq,t1,t2,n,m,m1,m2,m3)=>
 bif decide (t<16)then
  bif inB t 16 then
  bif inB t 16 then
  bif inB t 16 then
  self ((ahw.wrap (t+1)),tp,tq,t1,t2,n,(m.set t.toNat (Hz .u8 (rd 0 m t) (rd 0 m1 t))),m1,m2,m3)else none else none else none
 else
  some (tp,tq,t1,t2,n,m2,m,m3)
theorem k12:KQ 225 (O m_) [229,230,233,234,235,236,237,238,241,242,243,244,247,248,251,252,253,255,263,264] e12 x12 [] (b12 m_):=fun _ _=>by kernel_rfl
def l12:=loop m_ (b12 m_)
theorem q12(v):l12 .lim v=b12 .lim (l12 .lim) v:=KS.q (k12 .lim) v
def s12:=so m_ (k12 m_)
def e13:Spec:=⟨[fs 245 [.q 12,.z 12,.b 0] [(0,.fn (.yield 0) []),(1,.ptr 1 0),(9,.slc 2 0 none Ua),(10,.w),(11,.w)],f43,f44],[(0,.loop .ready none 230 [(2,.ptr 9 0),(3,.ptr 3 0)] [18,19] (KP 122) 5),(1,.c [.ptr 6 0]),(2,o3),(3,o2),(4,o2),(5,.deferred false),(6,o45),(7,o2),(8,.d [.ry]),(9,.c [.ptr 6 0])],10⟩
def x13:List Spec:=[⟨[fs 245 [] [],⟨230,[.inRange 2,.b 0,.q 31],[(3,.ptr 0 0),(4,.ptr 1 0)],none,[.mark 3],false⟩,f24],[(0,o2),(1,o2),(2,.loop .ready none 230 [(2,.ptr 7 0),(3,.ptr 0 0)] [18,19] (KP 122) 3),(3,.deferred false),(4,o1),(5,o2),(6,.d [.ry]),(7,.c [.ptr 4 0]),(8,o3)],9⟩]
abbrev A13:Type:=Int×Int×Int×Int×Int×LL×LI×LI×LI×Int×Int×Int×LI×LI×LL×LI×LI×Unit
abbrev B13:Type:=(Int×LI×LI×LI×Int×Int×Int×LI×LI×LL×LI×LI×LL×Unit)
def b13(self:A13->Option B13):A13->Option B13:=fun v_=>match v_ with
|(tp,tq,t,t1,n,m,m1,m2,m3,m4,m5,m6,m7,m8,m9,m10,m11,())=>
 bif decide (t1<t)then
  bif inB t1 tq then
  bif wB (m.length:Int)then
  (ML.l8 m_ (0,decide (t1=(ahw.wrap ((m.length:Int)-2))),tp,tq,t,t1,n,m1,m3,m4,m5,m6,m7,m8,m9,(rd (ahx 16 (0:Int):List Int) m (tp+t1)),m,m2,m10,m11,())).bind fun (last,tp1,tq1,t2,t3,n1,m12,m13)=>
  (ML.l9 m_ (4,0,last,tp1,tq1,t2,t3,n1,m12,m12,m13)).bind fun (aaK,tp2,tq2,t4,t5,n2,Tz,Tc,TG,RX,SY,UG,UO,m32,Ux,UZ,Vo,U0,VW,())=>
  bif !aaK then
   (ML.l11 m_ (0,tp2,tq2,t4,t5,n2,SY,UG,UO,m32,Ux,UZ,Vo,Tz,(((((ahx 4 (0:Int):List Int).set 0 2).set 1 3).set 2 1).set 3 1),Tz,Tc,TG,RX,U0,VW,())).bind fun (tp3)=>
   (ML.l12 m_ (0,tp3)).bind fun (tp4,tq4,t8,t9,n4)=>
   self (tp4,tq4,t8,(ahw.wrap (t9+1)),n4)
  else
   (ML.l12 m_ (0,tp2,tq2,t4,t5,n2,Tz,Tc,TG,RX,SY,UG,UO,m32,Ux,UZ,Vo,U0,VW,())).bind fun (tp5,tq5,t10,t11,n5)=>
   self (tp5,tq5,t10,(ahw.wrap (t11+1)),n5)else none else none
 else
  some (n,m1,m2,m3,m4,m5,m6,m7,m8,m9,m10,m11,m,())
theorem k13:KQ 225 (O m_) [229,230,233,234,235,236,237,238,241,242,243,244,247,248,251,252,253,255,263,264] e13 x13 [s8 m_,s9 m_,s11 m_,s12 m_] (b13 m_):=fun _ _=>by kernel_rfl
def YH:=loop m_ (b13 m_)
theorem q13(v):YH .lim v=b13 .lim (YH .lim) v:=KS.q (k13 .lim) v
def s13:=so m_ (k13 m_)
def o46:dJ:= .c [.s,.dat (.int .u32),.dat (.int .i32),.dat (.int .u32),.dat TW,.dat TW,.dat TU,.own 3 Ua]
def e14:Spec:=⟨[fs 230 [.q 1] [(0,.ptr 0 0),(1,.dat Ua)],fs 225 [.v 8132 [2,3,4],.q 8133,.b 1,.z 1016,.b 0,.q 255] [(2,.w),(8,.ptr 0 0),(10,.ptr 1 0),(11,.oy 2)]],[(0,o46),(1,o2),(2,.d [.ry]),(3,o3)],4⟩
def x14:List Spec:=[⟨[⟨230,[.q 63],[(4,.ptr 0 0)],none,[.mark 1],false⟩,fs 225 [.v 8132 [2,3,4],.q 8133,.b 1,.z 1016,.b 0,.q 255] [(2,.w),(8,.ptr 2 0),(10,.ptr 3 0),(11,.oy 4)]],[(0,o2),(1,.deferred false),(2,o32),(3,o2),(4,.d [.ry]),(5,o3)],6⟩]
abbrev A14:Type:=LI×Int×LI×Int×Int×Int×LI×LI×LL×LI×LI×LL×Unit
abbrev B14:Type:=(Int×LI×LI×Int×Int×Int×LI×LI×LL×LI×LI×LL×Unit)
def b14(self:A14->Option B14):A14->Option B14:=fun v_=>match v_ with
|(b,n,m,m1,m2,m3,m4,m5,m6,m7)=>
 (ML.l6 m_ (n,m,m1,m2,m3,m4,m5,m6,b,(ahx 16 (0:Int)),m7)).bind fun (n1,m10,m11,m12,m13,m14,m15,m16,m17,m18,m19,m20,m21,())=>
 bif inB 0 (m21.length:Int)then
 (ML.l7 m_ (0,n1,m10,(rd (ahx 16 (0:Int):List Int) m21 0),m11,m12,m13,m14,m15,m16,m17,m18,m19,m20,m21,())).bind fun (n2,m22,m23,m24,Tz,Tc,TG,RX,SY,UG,UO,m32,Ux,())=>
 bif sV 1 (Ux.length:Int) (Ux.length:Int)then
 bif wB ((Ux.length:Int)-1)then
 (ML.YH m_ (1,((Ux.length:Int)-1),((Ux.length:Int)-1),0,n2,Ux,m22,m23,m24,Tz,Tc,TG,RX,SY,UG,UO,m32,())).bind fun (n3,UZ,Vo,U0)=>
 some (n3,UZ,U0)else none else none else none
theorem k14:KQ 225 (O m_) [229,230,233,234,235,236,237,238,241,242,243,244,247,248,251,252,253,255,263,264] e14 x14 [s6 m_,s7 m_,s13 m_] (b14 m_):=fun _ _=>by kernel_rfl
def Yg:=loop m_ (b14 m_)
theorem q14(v):Yg .lim v=b14 .lim (Yg .lim) v:=KS.q (k14 .lim) v
def s14:=so m_ (k14 m_)
def e15:Spec:=⟨[fs 225 [.q 130140,.z 130140,.b 2,.b 1,.z 1016,.b 0,.q 255] [(2,.w),(8,.ptr 0 0),(10,.ptr 1 0),(11,.oy 2),(13,.w)]],[(0,o46),(1,o2),(2,.d [.ry]),(3,o3)],4⟩
def x15:List Spec:=[⟨[fs 225 [.q 1016,.z 1016,.b 0,.q 255] [(2,.w),(8,.ptr 0 0),(10,.ptr 1 0),(11,.oy 2)]],[(0,o46),(1,o2),(2,.d [.ry]),(3,o3)],4⟩]
abbrev A15:Type:=Int×Int×LI×Int×Int×Int×LI×LI×LL×LI×LI×LL×Unit
abbrev B15:Type:=(Int×LI×Int×Int×Int×LI×LI×LL×LI×LI×LL×Unit)
def b15(m_:Dq)(self:A15->Option B15):A15->Option B15:=fun v_=>match v_ with
|(n,i,m,m1,m2,m3,m4,m5,m6,m7,m8,m9,())=>
 bif decide (i>=0)then
  bif inB i 16 then
  bif inB i 16 then
  bif inB i 16 then
  bif !(decide ((rd 0 (m7.set i.toNat (ahy.wrap ((rd 0 m7 i)+1))) i)=0))then
   some (n,m,m1,m2,m3,m4,m5,m6,(m7.set i.toNat (ahy.wrap ((rd 0 m7 i)+1))),m8,m9,())
  else
   self (n,(ahw.wrap (i-1)),m,m1,m2,m3,m4,m5,m6,(m7.set i.toNat (ahy.wrap ((rd 0 m7 i)+1))),m8,m9,())else none else none else none
 else
  some (n,m,m1,m2,m3,m4,m5,m6,m7,m8,m9,())
theorem k15:KQ 225 (O m_) [229,230,233,234,235,236,237,238,241,242,243,244,247,248,251,252,253,255,263,264] e15 x15 [] (b15 m_):=fun _ _=>by kernel_rfl
def l15:=loop m_ (b15 m_)
theorem q15(v):l15 .lim v=b15 .lim (l15 .lim) v:=KS.q (k15 .lim) v
def s15:=so m_ (k15 m_)
def e16:Spec:=⟨[fs 225 [.q 1016,.z 1016,.b 0,.q 255] [(2,.w),(8,.ptr 0 0),(10,.ptr 1 0),(11,.oy 5006)]],[(0,.c [.s,.dat (.int .u32),.dat (.int .i32),.dat (.int .u32),.dat TW,.dat TW,.dat TU,.own 5007 Ua]),(1,o2),(5006,.d [.ry]),(5007,o3)],5008⟩
def x16:List Spec:=[⟨[fs 225 [.q 255] [(2,.w),(11,.oy 0)]],[(0,.d [.ry])],1⟩]
abbrev A16:Type:=Int×LI×Int×Int×Int×LI×LI×LL×LI×LI×LL×Unit
abbrev B16:Type:=(Int×LI×Unit)
def b16(self:A16->Option B16):A16->Option B16:=fun v_=>match v_ with
|(n,m,m1,m2,m3,m4,m5,m6,m7,m8,m9,())=>
 bif wB (m8.length:Int)then
 bif decide ((m8.length:Int)<n)then
  (ML.Yg m_ (m7,n,m,m1,m2,m3,m4,m5,m6,m7,m8,m9,())).bind fun (n1,m10,m11,m12,m13,m14,m15,m16,m17,m18,m19,m20,())=>
  bif decide (m19.length+((m10.drop 0).take 16).length<70368744177664)then
  (ML.l15 m_ (n1,15,m11,m12,m13,m14,m15,m16,m17,m18,(m19++((m10.drop 0).take 16)),m20,())).bind fun (n2)=>
  self (n2)else none
 else
  some (n,m8,())else none
theorem k16:KQ 225 (O m_) [229,230,233,234,235,236,237,238,241,242,243,244,247,248,251,252,253,255,263,264] e16 x16 [s14 m_,s15 m_] (b16 m_):=fun _ _=>by kernel_rfl
def l16:=loop m_ (b16 m_)
theorem q16(v):l16 .lim v=b16 .lim (l16 .lim) v:=KS.q (k16 .lim) v
def s16:=so m_ (k16 m_)
def run:(List Int)×(List Int)×Int×Unit->Option ((List Int)×Int×Unit):=fun v_=>match v_ with
|(key,first,n,())=>
 bif((decide (n<0))||(decide (n>65536)))then
  some (([]:List Int),13,())
 else
  bif wB (key.length:Int)then
  bif((!(!(decide ((key.length:Int)=16))))||(wB (key.length:Int)))then
  bif((!(decide ((key.length:Int)=16)))&&(!(decide ((key.length:Int)=32))))then
   some (([]:List Int),13,())
  else
   bif wB (first.length:Int)then
   bif !(decide ((first.length:Int)=16))then
    some (([]:List Int),10,())
   else
    bif(ahB 1 16&&ahB 16 first.length)then
    (ML.l16 m_ (n,key,0,0,0,(ahx 256 (0:Int)),(ahx 256 (0:Int)),(ahx 16 (ahx 256 (0:Int):List Int)),(first.take 16),([]:List Int),([]:List (List Int)),())).bind fun (n1,m,())=>
    bif sV 0 n1 (m.length:Int)then
    some (((m.drop 0).take ((n1-0).toNat)),0,())else none else none else none else none else none
theorem k:KT (O m_) [229,230,233,234,235,236,237,238,241,242,243,244,247,248,251,252,253,255,263,264] ⟨225,[.one .str,.one .str,.one (.int .i64)],.gG [.sh (.one .str),.sh (.one (.int .i64))],run m_⟩ [s16 m_]:=fun _=>by kernel_rfl
def c:=co (k m_)
end ML

namespace QI
def O:OO P:=lI [O9.c m_,ML.c m_]
def run:(List Int)×(List Int)×(List Int)×Unit->Option (List Int):=fun v_=>match v_ with
|(key,v,s,())=>
 bif inB 8 (v.length:Int)then
 bif inB 8 (v.length:Int)then
 bif inB 12 ((v.set 8 (I9 .u8 (rd 0 v 8) 127)).length:Int)then
 bif inB 12 ((v.set 8 (I9 .u8 (rd 0 v 8) 127)).length:Int)then
 bif wB (s.length:Int)then
 (ML.run m_ (key,((v.set 8 (I9 .u8 (rd 0 v 8) 127)).set 12 (I9 .u8 (rd 0 (v.set 8 (I9 .u8 (rd 0 v 8) 127)) 12) 127)),(s.length:Int),())).bind fun (r,r1,())=>
 (O9.run m_ (s,r,())).bind fun r2=>
 some r2 else none else none else none else none else none
theorem k:KT (O m_) [] ⟨220,[.one .str,.one .str,.one .str],.one (.sh (.one .str)),run m_⟩ []:=fun _=>by kernel_rfl
def c:=co (k m_)
end QI

namespace Un
def O:OO P:=lI [MW.c m_,QH.c m_,QI.c m_,Oy.c m_]
def run:(List Int)×(List (List Int))×(List Int)×Unit->Option ((List Int)×Int×Unit):=fun v_=>match v_ with
|(key,ad,plain,())=>
 (QH.run m_ (key,ad,())).bind fun (r,r1,r2,())=>
 bif !(decide (r2=0))then
  some (([]:List Int),r2,())
 else
  bif wB (plain.length:Int)then
  bif decide ((plain.length:Int)>65536)then
   some (([]:List Int),12,())
  else
   (MW.run m_ (ad,())).bind fun r3=>
   bif decide (r3.length+([plain]:List (List Int)).length<4398046511104)then
   (Oy.run m_ (r,(r3++([plain]:List (List Int))),())).bind fun r4=>
   (QI.run m_ (r1,r4,plain,())).bind fun r5=>
   bif decide (r4.length+r5.length<=maxStr)then
   some ((r4++r5),0,())else none else none else none
theorem k:KT (O m_) [] ⟨218,[.one .str,.one (.lst .str),.one .str],.gG [.sh (.one .str),.sh (.one (.int .i64))],run m_⟩ []:=fun _=>by kernel_rfl
def c:=co (k m_)
end Un

namespace Qw
def O:OO P:=lI [Un.c m_]
def run:Unit×SX×Unit->Option ((List Int)×Int×Unit):=fun v_=>match v_ with
|(a,k,())=>
 (Un.run m_ (k.1,k.2.1,k.2.2.1,())).bind fun (r,r1,())=>
 some (r,r1,())
theorem k:KT (O m_) [] ⟨216,[.ag .unit,.ag Xo],.gG [.sh (.one .str),.sh (.one (.int .i64))],run m_⟩ []:=fun _=>by kernel_rfl
def c:=co (k m_)
end Qw

namespace Pq
def O:OO P:=lI [MW.c m_,Qi.c m_,Rw.c m_,OV.c m_,NK.c m_,Qw.c m_]
def o0:dJ:= .c [.dat Uo]
def o1:dJ:= .c [.b,.dat Uo]
def f2:gB:=fs 206 [.v 60 [5,6],.q 61,.q 31] [(0,.ptr 0 0),(3,.ptr 1 0)]
def f3:gB:=fs 114 [.v 14 [5,6,7,8,9,10],.q 15] [(4,.ptr 2 0),(8,.ptr 3 0),(11,.G6 237 (.ptr 0 0))]
def e0:Spec:=⟨[fs 208 [.q 52,.z 52,.b 0,.q 7] [(0,.dat Uo),(1,.fn (.func 211) [0]),(7,.w),(8,.w)],fs 206 [.v 60 [5,6],.q 61,.q 31] [(0,.ptr 1 0),(3,.ptr 0 0)],fs 114 [.v 14 [5,6,7,8,9,10],.q 15] [(4,.ptr 2 0),(8,.ptr 3 0),(11,.G6 237 (.ptr 1 0))]],[(0,.c [.s,.t,.s,.s]),(1,o0),(2,o1),(3,.c [.b,.CW])],4⟩
def x0:List Spec:=[⟨[fs 208 [.q 13517,.b 1,.q 423,.z 52,.b 0,.q 7] [(4,.w)],f2,f3],[(0,o0),(1,.c [.s,.t,.s,.s]),(2,o1),(3,.c [.b,.CW])],4⟩,⟨[fs 208 [.q 7] [],f2,f3],[(0,o0),(1,.c [.s,.t,.s,.s]),(2,o1),(3,.c [.b,.CW])],4⟩]
abbrev A0:Type:=(List (List Int×(List LI×(List Int×List Int))))×Int×Int×LI×LL×LI×LI×(List (List Int×(List LI×(List Int×List Int))))×Bool×(List (List Int×(List LI×(List Int×List Int))))×Bool×Unit
abbrev B0:Type:=(Int×(List (List Int×(List LI×(List Int×List Int))))×LI×LL×LI×LI×Bool×(List (List Int×(List LI×(List Int×List Int))))×Bool×Unit) ⊕ ((List (List Int×(List LI×(List Int×List Int))))×LI×LL×LI×LI×Bool×(List (List Int×(List LI×(List Int×List Int))))×Bool×Unit)
def b0(self:A0->Option B0):A0->Option B0:=fun v_=>match v_ with
|(s,t,t1,m,m1,m2,m3,m4,m5)=>
 bif decide (t1<t)then
  bif inB t1 (s.length:Int)then
  (Rw.run m_ ((rd Pj s t1),(m,(m1,(m2,m3))),())).bind fun r=>
  bif r then
   some (.inl (t1,m4,m,m1,m2,m3,m5))
  else
   self (s,t,(ahw.wrap (t1+1)),m,m1,m2,m3,m4,m5)else none
 else
  some (.inr (m4,m,m1,m2,m3,m5))
theorem k0:KQ 114 (O m_) [128,143,206,208,211] e0 x0 [] (b0 m_):=fun _ _=>by kernel_rfl
def l0:=loop m_ (b0 m_)
theorem q0(v):l0 .lim v=b0 .lim (l0 .lim) v:=KS.q (k0 .lim) v
def s0:=so m_ (k0 m_)
def run:QY×(List Int)×(List (List Int))×(List Int)×Unit->Option (QY×(List Int)×Int×Unit):=fun v_=>match v_ with
|(v,key,ad,plain,())=>
 bif v.1 then
  (Qi.run m_ ((key,(ad,(plain,([]:List Int)))),())).bind fun r=>
  bif !(decide (r=0))then
   bif !(decide (r=0))then
    some (v,([]:List Int),r,())
   else
    some ((true,v.2),([]:List Int),0,())
  else
   bif wB (plain.length:Int)then
   bif decide ((plain.length:Int)>65536)then
    some (v,([]:List Int),12,())
   else
    bif wB (v.2.length:Int)then
    (Pq.l0 m_ (v.2,(v.2.length:Int),0,key,ad,plain,([]:List Int),v.2,v.1,v.2,false,())).bind fun g_=>match g_ with
    | .inl (t,m,m1,m2,m3,m4,m5,m6,m7,())=>
     bif decide (t>=0)then
      bif inB t (m.length:Int)then
      some ((true,m),(((rd Pj m t).2).2).2,0,())else none
     else
      bif wB (m.length:Int)then
      bif decide ((m.length:Int)>=2048)then
       some ((m5,m6),([]:List Int),18,())
      else
       (MW.run m_ (m2,())).bind fun r1=>
       bif wB (m.length:Int)then
       (OV.run m_ ((ahw.wrap ((m.length:Int)+1)),m3,())).bind fun r2=>
       (NK.run m_ (m,())).bind fun r3=>
       bif decide (r3.length+([(m1,(r1,(m3,r2)))]:List SX).length<977343669134)then
       some ((true,(r3++([(m1,(r1,(m3,r2)))]:List SX))),r2,0,())else none else none else none
    | .inr (m8,m9,m10,m11,m12,m13,m14,m15,())=>
     bif wB (m8.length:Int)then
     bif decide ((m8.length:Int)>=2048)then
      some ((m13,m14),([]:List Int),18,())
     else
      (MW.run m_ (m10,())).bind fun r4=>
      bif wB (m8.length:Int)then
      (OV.run m_ ((ahw.wrap ((m8.length:Int)+1)),m11,())).bind fun r5=>
      (NK.run m_ (m8,())).bind fun r6=>
      bif decide (r6.length+([(m9,(r4,(m11,r5)))]:List SX).length<977343669134)then
      some ((true,(r6++([(m9,(r4,(m11,r5)))]:List SX))),r5,0,())else none else none else none else none else none
 else
  (Qw.run m_ ((),(key,(ad,(plain,([]:List Int)))),())).bind fun (r7,r8,())=>
  bif !(decide (r8=0))then
   some (v,([]:List Int),r8,())
  else
   some ((false,([]:List SX)),r7,0,())
theorem k:KT (O m_) [128,143,206,208,211] ⟨114,[.ag Q7,.one .str,.one (.lst .str),.one .str],.gG [.sh (.ag Q7),.sh (.one .str),.sh (.one (.int .i64))],run m_⟩ [s0 m_]:=fun _=>by kernel_rfl
def c:=co (k m_)
end Pq

namespace U9
def O(m_:Dq):OO P:=lI []
def run(m_:Dq):Int×Unit->Option (List Int):=fun v_=>match v_ with
|(n,())=>
 some ([(ahy.wrap (Ja .i64 n 8)),(ahy.wrap n)]:List Int)
theorem k:KT (O m_) [] ⟨115,[.one (.int .i64)],.one (.sh (.one .str)),run m_⟩ []:=fun _=>by kernel_rfl
def c:=co (k m_)
end U9

namespace QG
def O:OO P:=lI [strings_Repeat.c m_]
def run:(List Int)×Unit->Option (List Int):=fun v_=>match v_ with
|(s,())=>
 bif wB (s.length:Int)then
 (strings_Repeat.run m_ (([0]:List Int),(I9 .i64 (ahw.wrap (0-(s.length:Int))) 3),())).bind fun r=>
 bif decide (s.length+r.length<=maxStr)then
 some (s++r)else none else none
theorem k:KT (O m_) [] ⟨116,[.one .str],.one (.sh (.one .str)),run m_⟩ []:=fun _=>by kernel_rfl
def c:=co (k m_)
end QG

namespace Ui
def O:OO P:=lI [OM.c m_,Pq.c m_,U9.c m_,QG.c m_]
def run:QY×(List Int)×(List Int)×(List Int)×(List (Int×List Int))×Unit->Option (QY×(Int×List Int)×Int×Unit):=fun v_=>match v_ with
|(v,key,MS,ahead,inner,())=>
 bif wB (MS.length:Int)then
 bif !(decide ((MS.length:Int)=16))then
  some (v,(0,([]:List Int)),10,())
 else
  bif wB (ahead.length:Int)then
  bif decide ((ahead.length:Int)>1280)then
   some (v,(0,([]:List Int)),12,())
  else
   (OM.run m_ (inner,())).bind fun (r,r1,())=>
   bif !(decide (r1=0))then
    some (v,(0,([]:List Int)),r1,())
   else
    (Pq.run m_ (v,key,([ahead,MS]:List (List Int)),r,())).bind fun (r2,r3,r4,())=>
    bif !(decide (r4=0))then
     some (v,(0,([]:List Int)),r4,())
    else
     (U9.run m_ (16,())).bind fun r5=>
     bif wB (r3.length:Int)then
     (U9.run m_ ((r3.length:Int),())).bind fun r6=>
     bif decide (r5.length+r6.length<=maxStr)then
     bif decide ((r5++r6).length+MS.length<=maxStr)then
     (QG.run m_ (r3,())).bind fun r7=>
     bif decide (((r5++r6)++MS).length+r7.length<=maxStr)then
     some (r2,(1028,(((r5++r6)++MS)++r7)),0,())else none else none else none else none else none else none
theorem k:KT (O m_) [] ⟨75,[.ag Q7,.one .str,.one .str,.one .str,.one Qr],.gG [.sh (.ag Q7),.sh (.ag Xp),.sh (.one (.int .i64))],run m_⟩ []:=fun _=>by kernel_rfl
def c:=co (k m_)
end Ui

namespace NQ
def inl:FuncId->Bool:=fun f=>[].any (Nat.beq f)
def O(m_:Dq):iL:=(Gu [])
theorem Ok(m_:Dq){S0 w0}:bW P S0 w0 (O m_):=(Ed (an))
def run(m_:Dq):(List (Int×List Int))×Unit->Option (List (Int×List Int)):=fun v_=>match v_ with
|(s,())=>
 bif decide (([]:List (Int×List Int)).length+s.length<2932031007402)then
 some (([]:List (Int×List Int))++s)else none
def c_(m_:Dq):Callee:=⟨76,[.one Qr],.one (.own Xp),run m_⟩
theorem kn(m_:Dq):dA P (O m_) inl [] [] (c_ m_).res.fin 20000 false (start 76 [.aC])=(
 some ([]:List (Int×List Int))):=by kernel_rfl
theorem k(m_:Dq): ∀xs:List (Int×List Int),dA P (O m_) inl [] [] (c_ m_).res.fin 20000 false (start 76 [.iO Xp xs])=run m_ (xs,()):=by intro xs;kernel_rfl
theorem ok(m_:Dq):(c_ m_).OK P:=Callee.of_nil (fun S0 w0=>(Ok m_)) (by kernel_rfl) (by rfl) (fun S0 w0 cs0=>an) (fun r h=>(kn m_).trans ((show (
 some ([]:List (Int×List Int)))=NQ.run m_ ([],())from by kernel_rfl).trans h)) (fun x r h=>(NQ.k m_ x).trans h)
def c(m_:Dq):CO P:=⟨c_ m_,ok m_⟩
end NQ

namespace TI
def O:OO P:=lI [Pv.c m_,Nj.c m_,Ui.c m_,NQ.c m_]
def run:QY×DT5×(List Int)×(List Int)×(List (Int×List Int))×Unit->Option (QY×(List Int)×Int×Unit):=fun v_=>match v_ with
|(v,p,key,MS,inner,())=>
 (Pv.run m_ (p.2.2.2.2.2.2.2.2.2.2.2.2.2,1028,())).bind fun r=>
 bif wB (r.length:Int)then
 bif decide ((r.length:Int)>0)then
  some (v,([]:List Int),23,())
 else
  (Nj.run m_ (p,())).bind fun (r1,r2,())=>
  bif !(decide (r2=0))then
   some (v,([]:List Int),r2,())
  else
   (Ui.run m_ (v,key,MS,r1,inner,())).bind fun (r3,r4,r5,())=>
   bif !(decide (r5=0))then
    some (v,([]:List Int),r5,())
   else
    (NQ.run m_ (p.2.2.2.2.2.2.2.2.2.2.2.2.2,())).bind fun r6=>
    bif decide (r6.length+([r4]:List (Int×List Int)).length<2932031007402)then
    (Nj.run m_ ((p.1,(p.2.1,(p.2.2.1,(p.2.2.2.1,(p.2.2.2.2.1,(p.2.2.2.2.2.1,(p.2.2.2.2.2.2.1,(p.2.2.2.2.2.2.2.1,(p.2.2.2.2.2.2.2.2.1,(p.2.2.2.2.2.2.2.2.2.1,(p.2.2.2.2.2.2.2.2.2.2.1,(p.2.2.2.2.2.2.2.2.2.2.2.1,(p.2.2.2.2.2.2.2.2.2.2.2.2.1,(r6++([r4]:List (Int×List Int)))))))))))))))),())).bind fun (r7,r8,())=>
    bif !(decide (r8=0))then
     some (v,([]:List Int),r8,())
    else
     some (r3,r7,0,())else none else none
theorem k:KT (O m_) [] ⟨34,[.ag Q7,.ag W_,.one .str,.one .str,.one Qr],.gG [.sh (.ag Q7),.sh (.one .str),.sh (.one (.int .i64))],run m_⟩ []:=fun _=>by kernel_rfl
def c:=co (k m_)
end TI

namespace QE
def xs:List (FuncId×XK):=[(117,.store),(118,.add .u64)]
theorem abm: ∀x∈xs,x.2.OK P x.1:=ac ⟨_,Go.Proofs.Tryz.func117,by kernel_rfl,by kernel_rfl,by kernel_rfl,by kernel_rfl⟩ (ac ⟨_,Go.Proofs.Tryz.func118,by kernel_rfl,by kernel_rfl,by kernel_rfl,by kernel_rfl⟩ (an))
def O(m_:Dq):OO P:=MI abm
def run(m_:Dq):Int×Unit->Option (Int):=fun v_=>match v_ with
|(n,())=>
 some (ahA.wrap (n+1))
theorem k:KT (O m_) [77,78] ⟨36,[.one (.int .u64)],.one (.sh (.one (.int .u64))),run m_⟩ []:=fun _=>by kernel_rfl
def c:=co (k m_)
end QE

namespace Px
def O:OO P:=lI [QO.c m_,strings_Repeat.c m_,TI.c m_,MW.c m_,QE.c m_]
def o0:dJ:= .c [.b,.dat Uo]
def o1:dJ:= .c [.w,.s,.s,.t,.s,.s,.u,.u,.u,.u,.u]
def o2:dJ:= .c [.w,.s,.s,.CW,.s,.s,.u,.u,.u,.u,.u]
def e0:Spec:=⟨[fs 31 [.q 1] [(0,.kP 0 2)],fs 9 [.v 12 [10,11],.q 13,.q 7] [(2,.s),(3,.s),(4,.u),(5,.ptr 1 0),(6,.ptr 2 0),(10,.ptr 3 0),(11,.ptr 4 0)]],[(0,.c [.clo 66 [.bool,(.int .i64)],.clo 66 [.bool,(.int .i64)]]),(1,o0),(2,o1),(3,.c [.b,.CW]),(4,o2)],5⟩
def x0:List Spec:=[⟨[fs 9 [.q 13,.q 7] [(2,.s),(3,.s),(4,.u),(5,.ptr 0 0),(6,.ptr 1 0),(10,.ptr 2 0),(11,.ptr 3 0),(14,.w)]],[(0,o0),(1,o1),(2,.c [.b,.CW]),(3,o2)],4⟩]
abbrev A0:Type:=LI×LI×Int×(Bool×Int×Unit)×(Bool×Int×Unit)×Bool×(List (List Int×(List LI×(List Int×List Int))))×Int×LI×LI×LL×LI×LI×Int×Int×Int×Int×Int×Bool×Int×LI×LI×LI×LI×Int×Int×Int×Int×Int×Unit
abbrev B0:Type:=(LI×LI×Int×Int×Bool×(List (List Int×(List LI×(List Int×List Int))))×Int×LI×LI×LL×LI×LI×Int×Int×Int×Int×Int×Bool×Int×LI×LI×LI×LI×Int×Int×Int×Int×Int×Unit)
def b0(m_:Dq)(self:A0->Option B0):A0->Option B0:=fun v_=>match v_ with
|(unique,MS,t1,m,m1,m2)=>
 bif m.1 then
  bif m1.1 then
   some (unique,MS,t1,0,m2)
  else
   bif !(decide (m1.2.1=0))then
    some (unique,MS,t1,m1.2.1,m2)
   else
    some (unique,MS,t1,0,m2)
 else
  bif !(decide (m.2.1=0))then
   some (unique,MS,t1,m.2.1,m2)
  else
   bif m1.1 then
    some (unique,MS,t1,0,m2)
   else
    bif !(decide (m1.2.1=0))then
     some (unique,MS,t1,m1.2.1,m2)
    else
     some (unique,MS,t1,0,m2)
theorem k0:KQ 9 (O m_) [31,66] e0 x0 [] (b0 m_):=fun _ _=>by kernel_rfl
def l0:=loop m_ (b0 m_)
theorem q0(v):l0 .lim v=b0 .lim (l0 .lim) v:=KS.q (k0 .lim) v
def s0:=so m_ (k0 m_)
def o3:dJ:= .c [.row Xp]
def e1:Spec:=⟨[fs 9 [.q 1012,.z 1012,.b 0,.q 127] [(2,.s),(3,.s),(4,.u),(5,.ptr 0 0),(6,.ptr 1 0),(10,.ptr 2 0),(11,.ptr 3 0),(15,.w),(17,.own 4 Xp),(59,.w),(60,.w)]],[(0,o0),(1,o1),(2,.c [.b,.CW]),(3,o2),(4,o3)],5⟩
def x1:List Spec:=[⟨[fs 9 [.q 127] [(2,.s),(3,.s),(4,.u),(5,.ptr 0 0),(6,.ptr 1 0),(10,.ptr 2 0),(11,.ptr 3 0),(17,.own 4 Xp)]],[(0,o0),(1,o1),(2,.c [.b,.CW]),(3,o2),(4,o3)],5⟩]
abbrev A1:Type:=LI×LI×Int×Int×Int×Int×Bool×(List (List Int×(List LI×(List Int×List Int))))×Int×LI×LI×LL×LI×LI×Int×Int×Int×Int×Int×Bool×Int×LI×LI×LI×LI×Int×Int×Int×Int×Int×(List (Int×List Int))×Unit
abbrev B1:Type:=(LI×LI×Int×Bool×(List (List Int×(List LI×(List Int×List Int))))×Int×LI×LI×LL×LI×LI×Int×Int×Int×Int×Int×Bool×Int×LI×LI×LI×LI×Int×Int×Int×Int×Int×(List (Int×List Int))×Unit)
def b1(self:A1->Option B1):A1->Option B1:=fun v_=>match v_ with
|(unique,MS,t1,size,t,t2,m,m1,m2,m3,m4,m5,m6,m7,m8,m9,m10,m11,m12,m13,m14,m15,m16,m17,m18,m19,m20,m21,m22,m23,m24,())=>
 bif decide (t2<t)then
  (strings_Repeat.run m_ (([0]:List Int),(ahw.wrap (size-4)),())).bind fun r=>
  bif decide (m24.length+([(772,r)]:List (Int×List Int)).length<2932031007402)then
  self (unique,MS,t1,size,t,(ahw.wrap (t2+1)),m,m1,m2,m3,m4,m5,m6,m7,m8,m9,m10,m11,m12,m13,m14,m15,m16,m17,m18,m19,m20,m21,m22,m23,(m24++([(772,r)]:List (Int×List Int))),())else none
 else
  some (unique,MS,t1,m,m1,m2,m3,m4,m5,m6,m7,m8,m9,m10,m11,m12,m13,m14,m15,m16,m17,m18,m19,m20,m21,m22,m23,m24,())
theorem k1:KQ 9 (O m_) [31,66] e1 x1 [] (b1 m_):=fun _ _=>by kernel_rfl
def l1:=loop m_ (b1 m_)
theorem q1(v):l1 .lim v=b1 .lim (l1 .lim) v:=KS.q (k1 .lim) v
def s1:=so m_ (k1 m_)
def run:QY×XH×(List Int)×(List Int)×Int×Unit->Option (QY×XH×(List Int)×Int×Unit):=fun v_=>match v_ with
|(v,x,unique,MS,t1,())=>
 bif wB (unique.length:Int)then
 (QO.run m_ (10,decide ((unique.length:Int)=32),())).bind fun (e,b,())=>
 bif wB (x.2.1.length:Int)then
 (QO.run m_ (19,decide ((x.2.1.length:Int)>0),())).bind fun (e1,b1,())=>
 (Px.l0 m_ (unique,MS,t1,(e,b,()),(e1,b1,()),v.1,v.2,x.1.1,x.1.2.1,x.1.2.2,x.2.1,x.2.2.1,x.2.2.2.1,x.2.2.2.2.1,x.2.2.2.2.2.1,x.2.2.2.2.2.2.1,x.2.2.2.2.2.2.2.1,x.2.2.2.2.2.2.2.2,false,0,([]:List Int),([]:List Int),([]:List Int),([]:List Int),0,0,0,0,0,())).bind fun (Wp,YK,t11,e2,m,m1,m2,m3,m4,m5,m6,m7,m8,m9,m10,m11,m12,m13,m14,m15,m16,m17,m18,m19,m20,m21,m22,m23,())=>
 bif !(decide (e2=0))then
  some ((m,m1),((m2,(m3,m4)),(m5,(m6,(m7,(m8,(m9,(m10,(m11,m12)))))))),([]:List Int),e2,())
 else
  bif inB 0 (m5.length:Int)then
  bif wB ((rd ([]:List Int) m5 0).length:Int)then
  bif wB (m5.length:Int)then
  bif !(decide ((ahw.wrap (4+((rd ([]:List Int) m5 0).length:Int)))=0))then
  bif inB 0 (m5.length:Int)then
  (Px.l1 m_ (Wp,YK,t11,(ahw.wrap (4+((rd ([]:List Int) m5 0).length:Int))),(mn (ahw.wrap (8-(m5.length:Int))) (ahw.wrap ((ahw.wrap ((1156:Int).tdiv (ahw.wrap (4+((rd ([]:List Int) m5 0).length:Int)))))-1))),0,m,m1,m2,m3,m4,m5,m6,m7,m8,m9,m10,m11,m12,m13,m14,m15,m16,m17,m18,m19,m20,m21,m22,m23,([(260,Wp),(516,(rd ([]:List Int) m5 0))]:List (Int×List Int)),())).bind fun (acy,adb,t12,m24,Tz,Tc,TG,RX,SY,UG,UO,m32,Ux,UZ,Vo,U0,VW,Xh,V_,Wh,Xi,VJ,VX,VY,U5,U6,VK,VZ,())=>
  (TI.run m_ ((m24,Tz),(0,(4,(3,(0,(0,(0,(0,(0,(0,(0,(0,(0,(t12,VZ))))))))))))),TG,adb,([]:List (Int×List Int)),())).bind fun (r2,r3,r4,())=>
  bif !(decide (r4=0))then
   some ((m24,Tz),((Tc,(TG,RX)),(SY,(UG,(UO,(m32,(Ux,(UZ,(Vo,U0)))))))),([]:List Int),r4,())
  else
   bif sV 1 (SY.length:Int) (SY.length:Int)then
   (MW.run m_ ((cut SY 1 (SY.length:Int)),())).bind fun r5=>
   (QE.run m_ (Ux,())).bind fun r6=>
   some (r2,((Tc,(TG,RX)),(r5,(acy,(r3,(t12,(r6,(UZ,(Vo,U0)))))))),r3,0,())else none else none else none else none else none else none else none else none
theorem k:KT (O m_) [31,66] ⟨9,[.ag Q7,.ag TV,.one .str,.one .str,.one (.int .u64)],.gG [.sh (.ag Q7),.sh (.ag TV),.sh (.one .str),.sh (.one (.int .i64))],run m_⟩ [s0 m_,s1 m_]:=fun _=>by kernel_rfl
def c:=co (k m_)
end Px

namespace NH
def O:OO P:=lI [Px.c m_,Qp.c m_]
def e0:Spec:=⟨[fs 8 [.q 116,.z 116,.b 0,.q 15] [(1,.s),(12,.w)]],[],0⟩
def x0:List Spec:=[⟨[fs 8 [.q 15] [(1,.s)]],[],0⟩]
abbrev A0:Type:=LI×Int×Unit
abbrev B0:Type:=(LI×Unit)
def b0(m_:Dq)(self:A0->Option B0):A0->Option B0:=fun v_=>match v_ with
|(key,t,())=>
 bif decide (t<32)then
  bif decide (key.length+([107]:List Int).length<=maxStr)then
  self ((key++([107]:List Int)),(ahw.wrap (t+1)),())else none
 else
  some (key,())
theorem k0:KQ 8 (O m_) [] e0 x0 [] (b0 m_):=fun _ _=>by kernel_rfl
def l0:=loop m_ (b0 m_)
theorem q0(v):l0 .lim v=b0 .lim (l0 .lim) v:=KS.q (k0 .lim) v
def s0:=so m_ (k0 m_)
def run:Unit->Option (Bool):=fun v_=>match v_ with
|(())=>
 (NH.l0 m_ (([]:List Int),0,())).bind fun (key,())=>
 bif ahF 104 70368744177664 then
 (Qp.run m_ ((15,(key,key)),([(ahx 104 0)]:List (List Int)),())).bind fun (r,r1,())=>
 bif sV 0 16 (key.length:Int)then
 (Px.run m_ ((false,([]:List SX)),r,key,(cut key 0 16),5,())).bind fun (r2,r3,r4,r5,())=>
 bif sV 0 16 (key.length:Int)then
 (Px.run m_ (r2,r3,key,(cut key 0 16),6,())).bind fun (r6,r7,r8,r9,())=>
 bif((!((decide (r1=0))&&(decide (r5=0))))||(wB (r4.length:Int)))then
 bif((!(((decide (r1=0))&&(decide (r5=0)))&&(decide ((r4.length:Int)=988))))||(wB (r3.2.1.length:Int)))then
 some (((((decide (r1=0))&&(decide (r5=0)))&&(decide ((r4.length:Int)=988)))&&(decide ((r3.2.1.length:Int)=0)))&&(decide (r9=19)))else none else none else none else none else none
theorem k:KT (O m_) [] ⟨8,[],.one (.sh (.one .bool)),run m_⟩ [s0 m_]:=fun _=>by kernel_rfl
def c:=co (k m_)
end NH

namespace Nk
def O(m_:Dq):OO P:=lI []
def e0:Spec:=⟨[fs 42 [.q 116,.z 116,.b 0,.q 15] [(0,.dat Qr),(1,.w),(5,.own 5008 (.int .i64)),(6,.w)]],[(5008,.c [.row (.int .i64)])],5009⟩
def x0:List Spec:=[⟨[fs 42 [.q 15] [(5,.own 0 (.int .i64))]],[(0,.c [.row (.int .i64)])],1⟩]
abbrev A0:Type:=(List (Int×List Int))×Int×Int×LI×Unit
abbrev B0:Type:=(LI×Unit)
def b0(m_:Dq)(self:A0->Option B0):A0->Option B0:=fun v_=>match v_ with
|(l,kind,i,m,())=>
 bif wB (l.length:Int)then
 bif decide (i<(l.length:Int))then
  bif inB i (l.length:Int)then
  bif decide (((rd ((0:Int),([]:List Int)) l i).1)=kind)then
   bif decide (m.length+([i]:List Int).length<8796093022208)then
   self (l,kind,(ahw.wrap (i+1)),(m++([i]:List Int)),())else none
  else
   self (l,kind,(ahw.wrap (i+1)),m,())else none
 else
  some (m,())else none
theorem k0:KQ 42 (O m_) [] e0 x0 [] (b0 m_):=fun _ _=>by kernel_rfl
def l0:=loop m_ (b0 m_)
theorem q0(v):l0 .lim v=b0 .lim (l0 .lim) v:=KS.q (k0 .lim) v
def s0:=so m_ (k0 m_)
def run:(List (Int×List Int))×Int×Unit->Option (List Int):=fun v_=>match v_ with
|(l,kind,())=>
 (Nk.l0 m_ (l,kind,0,([]:List Int),())).bind fun (m,())=>
 some m
theorem k:KT (O m_) [] ⟨42,[.one Qr,.one (.int .i64)],.one (.own (.int .i64)),run m_⟩ [s0 m_]:=fun _=>by kernel_rfl
def c:=co (k m_)
end Nk

namespace Oi
def O(m_:Dq):OO P:=lI []
def run(m_:Dq):Int×Int×Int×Unit->Option (Bool):=fun v_=>match v_ with
|(n,low,high,())=>
 some ((decide (n>=low))&&(decide (n<=high)))
theorem k:KT (O m_) [] ⟨119,[.one (.int .i64),.one (.int .i64),.one (.int .i64)],.one (.sh (.one .bool)),run m_⟩ []:=fun _=>by kernel_rfl
def c:=co (k m_)
end Oi

namespace MQ
def O(m_:Dq):OO P:=lI []
def e0:Spec:=⟨[fs 121 [.q 116,.z 116,.b 0,.q 15] [(0,.u),(5,.oy 0),(6,.w)]],[(0,.c [.ry])],1⟩
def x0:List Spec:=[⟨[fs 121 [.q 15] [(5,.oy 0)]],[(0,.c [.ry])],1⟩]
abbrev A0:Type:=Int×Int×LI×Unit
abbrev B0:Type:=(LI×Unit)
def b0(m_:Dq)(self:A0->Option B0):A0->Option B0:=fun v_=>match v_ with
|(n,i,m,())=>
 bif decide (i>=0)then
  bif inB i (m.length:Int)then
  self ((ahA.wrap (n.tdiv 256)),(ahw.wrap (i-1)),(m.set i.toNat (ahy.wrap (n.tmod 256))),())else none
 else
  some (m,())
theorem k0:KQ 121 (O m_) [] e0 x0 [] (b0 m_):=fun _ _=>by kernel_rfl
def l0:=loop m_ (b0 m_)
theorem q0(v):l0 .lim v=b0 .lim (l0 .lim) v:=KS.q (k0 .lim) v
def s0:=so m_ (k0 m_)
def run:Int×Int×Unit->Option (List Int):=fun v_=>match v_ with
|(n,size,())=>
 bif(((decide (0<=size))&&(decide (size<=size)))&&(ahF size.toNat 70368744177664))then
 (MQ.l0 m_ (n,(ahw.wrap (size-1)),(ahx size.toNat 0),())).bind fun (m,())=>
 some m else none
theorem k:KT (O m_) [] ⟨121,[.one (.int .u64),.one (.int .i64)],.one (.sh (.one .str)),run m_⟩ [s0 m_]:=fun _=>by kernel_rfl
def c:=co (k m_)
end MQ

namespace Nw
def O:OO P:=lI [MQ.c m_]
def e0:Spec:=⟨[fs 120 [.q 500,.z 500,.b 0,.q 63] [(0,.dat Qr),(4,.s),(5,.w),(6,.w)]],[],0⟩
def x0:List Spec:=[⟨[fs 120 [.q 128149,.q 16019,.b 1,.q 2003,.z 500,.b 0,.q 63] [(2,.s),(3,.w)]],[],0⟩,⟨[fs 120 [.q 256309,.q 32039,.b 1,.q 2003,.z 500,.b 0,.q 63] [(2,.s),(3,.w)]],[],0⟩,⟨[fs 120 [.q 63] [(4,.s),(5,.w)]],[],0⟩]
abbrev A0:Type:=(List (Int×List Int))×LI×Int×Int×Unit
abbrev B0:Type:=(LI×Int×Unit) ⊕ (LI×Int×Unit) ⊕ (LI×Int×Unit)
def b0(self:A0->Option B0):A0->Option B0:=fun v_=>match v_ with
|(l,s,n,i,())=>
 bif wB (l.length:Int)then
 bif decide (i<(l.length:Int))then
  bif inB i (l.length:Int)then
  bif((decide (((rd ((0:Int),([]:List Int)) l i).1)<0))||(decide (((rd ((0:Int),([]:List Int)) l i).1)>65535)))then
   some (.inl (([]:List Int),13,()))
  else
   bif wB (((rd ((0:Int),([]:List Int)) l i).2).length:Int)then
   bif((!(!(decide ((((rd ((0:Int),([]:List Int)) l i).2).length:Int)<12))))||(wB (((rd ((0:Int),([]:List Int)) l i).2).length:Int)))then
   bif((!(!(decide ((((rd ((0:Int),([]:List Int)) l i).2).length:Int)<12))))||true)then
   bif((decide ((((rd ((0:Int),([]:List Int)) l i).2).length:Int)<12))||(!(decide (((((rd ((0:Int),([]:List Int)) l i).2).length:Int).tmod 4)=0))))then
    some (.inr (.inl (([]:List Int),10,())))
   else
    bif wB (((rd ((0:Int),([]:List Int)) l i).2).length:Int)then
    bif decide ((mn (ahw.wrap ((ahw.wrap (n+4))+(((rd ((0:Int),([]:List Int)) l i).2).length:Int))) 1233)<=1232)then
     (MQ.run m_ ((ahA.wrap ((rd ((0:Int),([]:List Int)) l i).1)),2,())).bind fun r=>
     bif decide (s.length+r.length<=maxStr)then
     bif wB (((rd ((0:Int),([]:List Int)) l i).2).length:Int)then
     (MQ.run m_ ((ahA.wrap (ahw.wrap ((((rd ((0:Int),([]:List Int)) l i).2).length:Int)+4))),2,())).bind fun r1=>
     bif decide ((s++r).length+r1.length<=maxStr)then
     bif decide (((s++r)++r1).length+((rd ((0:Int),([]:List Int)) l i).2).length<=maxStr)then
     self (l,(((s++r)++r1)++((rd ((0:Int),([]:List Int)) l i).2)),(mn (ahw.wrap ((ahw.wrap (n+4))+(((rd ((0:Int),([]:List Int)) l i).2).length:Int))) 1233),(ahw.wrap (i+1)),())else none else none else none else none
    else
     self (l,s,(mn (ahw.wrap ((ahw.wrap (n+4))+(((rd ((0:Int),([]:List Int)) l i).2).length:Int))) 1233),(ahw.wrap (i+1)),())else none else none else none else none else none
 else
  some (.inr (.inr (s,n,())))else none
theorem k0:KQ 120 (O m_) [] e0 x0 [] (b0 m_):=fun _ _=>by kernel_rfl
def l0:=loop m_ (b0 m_)
theorem q0(v):l0 .lim v=b0 .lim (l0 .lim) v:=KS.q (k0 .lim) v
def s0:=so m_ (k0 m_)
def run:(List (Int×List Int))×Unit->Option ((List Int)×Int×Unit):=fun v_=>match v_ with
|(l,())=>
 bif wB (l.length:Int)then
 bif decide ((l.length:Int)>16)then
  some (([]:List Int),18,())
 else
  (Nw.l0 m_ (l,([]:List Int),0,0,())).bind fun g_=>match g_ with
  | .inl (t,t1,())=>
   some (t,t1,())
  | .inr (.inl (t2,t3,()))=>
   some (t2,t3,())
  | .inr (.inr (s,n,()))=>
   bif decide (n>1232)then
    some (([]:List Int),12,())
   else
    some (s,0,())else none
theorem k:KT (O m_) [] ⟨120,[.one Qr],.gG [.sh (.one .str),.sh (.one (.int .i64))],run m_⟩ [s0 m_]:=fun _=>by kernel_rfl
def c:=co (k m_)
end Nw

namespace OL
def O:OO P:=lI [Oi.c m_,Nw.c m_,MQ.c m_]
def run:DT5×Unit->Option ((List Int)×Int×Unit):=fun v_=>match v_ with
|(p,())=>
 (Oi.run m_ (p.1,0,3,())).bind fun r=>
 ((bif !!r then Oi.run m_ (p.2.1,0,7,())else some false)).bind fun r1=>
 ((bif !(!r|| !r1)then Oi.run m_ (p.2.2.1,0,7,())else some false)).bind fun r2=>
 ((bif !((!r|| !r1)|| !r2)then Oi.run m_ (p.2.2.2.1,0,255,())else some false)).bind fun r3=>
 ((bif !(((!r|| !r1)|| !r2)|| !r3)then Oi.run m_ (p.2.2.2.2.1,(-128),127,())else some false)).bind fun r4=>
 ((bif !((((!r|| !r1)|| !r2)|| !r3)|| !r4)then Oi.run m_ (p.2.2.2.2.2.1,(-128),127,())else some false)).bind fun r5=>
 bif(((((!r|| !r1)|| !r2)|| !r3)|| !r4)|| !r5)then
  some (([]:List Int),13,())
 else
  (Nw.run m_ (p.2.2.2.2.2.2.2.2.2.2.2.2.2,())).bind fun (r6,r7,())=>
  bif !(decide (r7=0))then
   some (([]:List Int),r7,())
  else
   (MQ.run m_ ((ahA.wrap p.2.2.2.2.2.2.1),4,())).bind fun r8=>
   bif decide (([(ahy.wrap (ahw.wrap ((ahw.wrap ((ahw.wrap (p.1*64))+(ahw.wrap (p.2.1*8))))+p.2.2.1))),(ahy.wrap p.2.2.2.1),(ahy.wrap p.2.2.2.2.1),(ahy.wrap p.2.2.2.2.2.1)]:List Int).length+r8.length<=maxStr)then
   (MQ.run m_ ((ahA.wrap p.2.2.2.2.2.2.2.1),4,())).bind fun r9=>
   bif decide ((([(ahy.wrap (ahw.wrap ((ahw.wrap ((ahw.wrap (p.1*64))+(ahw.wrap (p.2.1*8))))+p.2.2.1))),(ahy.wrap p.2.2.2.1),(ahy.wrap p.2.2.2.2.1),(ahy.wrap p.2.2.2.2.2.1)]:List Int)++r8).length+r9.length<=maxStr)then
   (MQ.run m_ ((ahA.wrap p.2.2.2.2.2.2.2.2.1),4,())).bind fun r10=>
   bif decide (((([(ahy.wrap (ahw.wrap ((ahw.wrap ((ahw.wrap (p.1*64))+(ahw.wrap (p.2.1*8))))+p.2.2.1))),(ahy.wrap p.2.2.2.1),(ahy.wrap p.2.2.2.2.1),(ahy.wrap p.2.2.2.2.2.1)]:List Int)++r8)++r9).length+r10.length<=maxStr)then
   (MQ.run m_ (p.2.2.2.2.2.2.2.2.2.1,8,())).bind fun r11=>
   bif decide ((((([(ahy.wrap (ahw.wrap ((ahw.wrap ((ahw.wrap (p.1*64))+(ahw.wrap (p.2.1*8))))+p.2.2.1))),(ahy.wrap p.2.2.2.1),(ahy.wrap p.2.2.2.2.1),(ahy.wrap p.2.2.2.2.2.1)]:List Int)++r8)++r9)++r10).length+r11.length<=maxStr)then
   (MQ.run m_ (p.2.2.2.2.2.2.2.2.2.2.1,8,())).bind fun r12=>
   bif decide (((((([(ahy.wrap (ahw.wrap ((ahw.wrap ((ahw.wrap (p.1*64))+(ahw.wrap (p.2.1*8))))+p.2.2.1))),(ahy.wrap p.2.2.2.1),(ahy.wrap p.2.2.2.2.1),(ahy.wrap p.2.2.2.2.2.1)]:List Int)++r8)++r9)++r10)++r11).length+r12.length<=maxStr)then
   (MQ.run m_ (p.2.2.2.2.2.2.2.2.2.2.2.1,8,())).bind fun r13=>
   bif decide ((((((([(ahy.wrap (ahw.wrap ((ahw.wrap ((ahw.wrap (p.1*64))+(ahw.wrap (p.2.1*8))))+p.2.2.1))),(ahy.wrap p.2.2.2.1),(ahy.wrap p.2.2.2.2.1),(ahy.wrap p.2.2.2.2.2.1)]:List Int)++r8)++r9)++r10)++r11)++r12).length+r13.length<=maxStr)then
   (MQ.run m_ (p.2.2.2.2.2.2.2.2.2.2.2.2.1,8,())).bind fun YN=>
   bif decide (((((((([(ahy.wrap (ahw.wrap ((ahw.wrap ((ahw.wrap (p.1*64))+(ahw.wrap (p.2.1*8))))+p.2.2.1))),(ahy.wrap p.2.2.2.1),(ahy.wrap p.2.2.2.2.1),(ahy.wrap p.2.2.2.2.2.1)]:List Int)++r8)++r9)++r10)++r11)++r12)++r13).length+YN.length<=maxStr)then
   bif decide ((((((((([(ahy.wrap (ahw.wrap ((ahw.wrap ((ahw.wrap (p.1*64))+(ahw.wrap (p.2.1*8))))+p.2.2.1))),(ahy.wrap p.2.2.2.1),(ahy.wrap p.2.2.2.2.1),(ahy.wrap p.2.2.2.2.2.1)]:List Int)++r8)++r9)++r10)++r11)++r12)++r13)++YN).length+r6.length<=maxStr)then
   some (((((((((([(ahy.wrap (ahw.wrap ((ahw.wrap ((ahw.wrap (p.1*64))+(ahw.wrap (p.2.1*8))))+p.2.2.1))),(ahy.wrap p.2.2.2.1),(ahy.wrap p.2.2.2.2.1),(ahy.wrap p.2.2.2.2.2.1)]:List Int)++r8)++r9)++r10)++r11)++r12)++r13)++YN)++r6),0,())else none else none else none else none else none else none else none else none
theorem k:KT (O m_) [] ⟨80,[.ag W_],.gG [.sh (.one .str),.sh (.one (.int .i64))],run m_⟩ []:=fun v_=>match v_ with|(p,())=>by kernel_rfl
def c:=co (k m_)
end OL

namespace Oz
def O(m_:Dq):OO P:=lI []
def run(m_:Dq):(List Int)×(List (List Int))×Unit->Option (Int):=fun v_=>match v_ with
|(key,ad,())=>
 bif wB (key.length:Int)then
 bif((!(!(decide ((key.length:Int)=32))))||(wB (key.length:Int)))then
 bif((!(decide ((key.length:Int)=32)))&&(!(decide ((key.length:Int)=64))))then
  some 13
 else
  bif wB (ad.length:Int)then
  bif decide ((ad.length:Int)>=127)then
   some 18
  else
   some 0 else none else none else none
theorem k:KT (O m_) [] ⟨137,[.one .str,.one (.lst .str)],.one (.sh (.one (.int .i64))),run m_⟩ []:=fun _=>by kernel_rfl
def c:=co (k m_)
end Oz

namespace PU
def O(m_:Dq):OO P:=lI []
def run(m_:Dq):(List Int)×Unit->Option (Bool):=fun v_=>match v_ with
|(key,())=>
 bif wB (key.length:Int)then
 bif((!(!(decide ((key.length:Int)=16))))||(wB (key.length:Int)))then
 some ((decide ((key.length:Int)=16))||(decide ((key.length:Int)=32)))else none else none
theorem k:KT (O m_) [] ⟨157,[.one .str],.one (.sh (.one .bool)),run m_⟩ []:=fun _=>by kernel_rfl
def c:=co (k m_)
end PU

namespace Oa
def O(m_:Dq):OO P:=lI []
def run(m_:Dq):Int×Unit->Option (List Int):=fun v_=>match v_ with
|(n,())=>
 bif(((decide (0<=n))&&(decide (n<=n)))&&(ahF n.toNat 70368744177664))then
 some (ahx n.toNat 0)else none
theorem k:KT (O m_) [] ⟨159,[.one (.int .i64)],.one (.sh (.one .str)),run m_⟩ []:=fun _=>by kernel_rfl
def c:=co (k m_)
end Oa

namespace PS
def O(m_:Dq):OO P:=lI []
def run(m_:Dq):(List Int)×Unit->Option (Bool):=fun v_=>match v_ with
|(key,())=>
 bif wB (key.length:Int)then
 bif((!(!(decide ((key.length:Int)=16))))||(wB (key.length:Int)))then
 some ((decide ((key.length:Int)=16))||(decide ((key.length:Int)=32)))else none else none
theorem k:KT (O m_) [] ⟨173,[.one .str],.one (.sh (.one .bool)),run m_⟩ []:=fun _=>by kernel_rfl
def c:=co (k m_)
end PS

namespace OD
def O:OO P:=lI [PS.c m_]
def run:(List Int)×(List Int)×Unit->Option (Int):=fun v_=>match v_ with
|(key,block,())=>
 (PS.run m_ (key,())).bind fun r=>
 bif !r then
  some 13
 else
  bif wB (block.length:Int)then
  bif !(decide ((block.length:Int)=16))then
   some 10
  else
   some 0 else none
theorem k:KT (O m_) [] ⟨154,[.one .str,.one .str],.one (.sh (.one (.int .i64))),run m_⟩ []:=fun _=>by kernel_rfl
def c:=co (k m_)
end OD

namespace NI
def O(m_:Dq):OO P:=lI []
def run(m_:Dq):Int×Unit->Option (Int):=fun v_=>match v_ with
|(b,())=>
 bif inB b (([99,124,119,123,242,107,111,197,48,1,103,43,254,215,171,118,202,130,201,125,250,89,71,240,173,212,162,175,156,164,114,192,183,253,147,38,54,63,247,204,52,165,229,241,113,216,49,21,4,199,35,195,24,150,5,154,7,18,128,226,235,39,178,117,9,131,44,26,27,110,90,160,82,59,214,179,41,227,47,132,83,209,0,237,32,252,177,91,106,203,190,57,74,76,88,207,208,239,170,251,67,77,51,133,69,249,2,127,80,60,159,168,81,163,64,143,146,157,56,245,188,182,218,33,16,255,243,210,205,12,19,236,95,151,68,23,196,167,126,61,100,93,25,115,96,129,79,220,34,42,144,136,70,238,184,20,222,94,11,219,224,50,58,10,73,6,36,92,194,211,172,98,145,149,228,121,231,200,55,109,141,213,78,169,108,86,244,234,101,122,174,8,186,120,37,46,28,166,180,198,232,221,116,31,75,189,139,138,112,62,181,102,72,3,246,14,97,53,87,185,134,193,29,158,225,248,152,17,105,217,142,148,155,30,135,233,206,85,40,223,140,161,137,13,191,230,66,104,65,153,45,15,176,84,187,22]:List Int).length:Int)then
 some (rd 0 ([99,124,119,123,242,107,111,197,48,1,103,43,254,215,171,118,202,130,201,125,250,89,71,240,173,212,162,175,156,164,114,192,183,253,147,38,54,63,247,204,52,165,229,241,113,216,49,21,4,199,35,195,24,150,5,154,7,18,128,226,235,39,178,117,9,131,44,26,27,110,90,160,82,59,214,179,41,227,47,132,83,209,0,237,32,252,177,91,106,203,190,57,74,76,88,207,208,239,170,251,67,77,51,133,69,249,2,127,80,60,159,168,81,163,64,143,146,157,56,245,188,182,218,33,16,255,243,210,205,12,19,236,95,151,68,23,196,167,126,61,100,93,25,115,96,129,79,220,34,42,144,136,70,238,184,20,222,94,11,219,224,50,58,10,73,6,36,92,194,211,172,98,145,149,228,121,231,200,55,109,141,213,78,169,108,86,244,234,101,122,174,8,186,120,37,46,28,166,180,198,232,221,116,31,75,189,139,138,112,62,181,102,72,3,246,14,97,53,87,185,134,193,29,158,225,248,152,17,105,217,142,148,155,30,135,233,206,85,40,223,140,161,137,13,191,230,66,104,65,153,45,15,176,84,187,22]:List Int) b)else none
theorem k:KT (O m_) [] ⟨174,[.one (.int .u8)],.one (.sh (.one (.int .u8))),run m_⟩ []:=fun _=>by kernel_rfl
def c:=co (k m_)
end NI

namespace NR
def O(m_:Dq):OO P:=lI []
def e0:Spec:=⟨[fs 175 [.q 116,.z 116,.b 0,.q 15] [(0,.y),(1,.y),(5,.y),(6,.w)]],[],0⟩
def x0:List Spec:=[⟨[fs 175 [.q 15] [(5,.y)]],[],0⟩]
abbrev A0:Type:=Int×Int×Int×Int×Unit
abbrev B0:Type:=(Int×Unit)
def b0(m_:Dq)(self:A0->Option B0):A0->Option B0:=fun v_=>match v_ with
|(a,b,r,i,())=>
 bif decide (i<8)then
  bif decide ((I9 .u8 b 1)=1)then
   bif !(decide ((I9 .u8 a 128)=0))then
    self ((Hz .u8 (I_ .u8 a 1) 27),(Ja .u8 b 1),(Hz .u8 r a),(ahw.wrap (i+1)),())
   else
    self ((I_ .u8 a 1),(Ja .u8 b 1),(Hz .u8 r a),(ahw.wrap (i+1)),())
  else
   bif !(decide ((I9 .u8 a 128)=0))then
    self ((Hz .u8 (I_ .u8 a 1) 27),(Ja .u8 b 1),r,(ahw.wrap (i+1)),())
   else
    self ((I_ .u8 a 1),(Ja .u8 b 1),r,(ahw.wrap (i+1)),())
 else
  some (r,())
theorem k0:KQ 175 (O m_) [] e0 x0 [] (b0 m_):=fun _ _=>by kernel_rfl
def l0:=loop m_ (b0 m_)
theorem q0(v):l0 .lim v=b0 .lim (l0 .lim) v:=KS.q (k0 .lim) v
def s0:=so m_ (k0 m_)
def run:Int×Int×Unit->Option (Int):=fun v_=>match v_ with
|(a,b,())=>
 (NR.l0 m_ (a,b,0,0,())).bind fun (r,())=>
 some r
theorem k:KT (O m_) [] ⟨175,[.one (.int .u8),.one (.int .u8)],.one (.sh (.one (.int .u8))),run m_⟩ [s0 m_]:=fun _=>by kernel_rfl
def c:=co (k m_)
end NR

namespace Nb
def O:OO P:=lI [NI.c m_,NR.c m_]
def e0:Spec:=⟨[fs 155 [.q 128156,.z 128156,.b 2,.b 1,.q 2003,.z 500,.b 0,.q 63] [(3,.w),(4,.oy 0),(5,.y),(6,.w),(7,.oy 1),(8,.w)]],[(0,.c [.ry]),(1,.c [.ry])],2⟩
def x0:List Spec:=[⟨[fs 155 [.q 2003,.z 500,.b 0,.q 63] [(3,.w),(4,.oy 0),(5,.y),(6,.w)]],[(0,.c [.ry])],1⟩]
abbrev A0:Type:=Int×Int×Int×Int×LI×LI×Unit
abbrev B0:Type:=(Int×Int×Int×LI×Unit)
def b0(m_:Dq)(self:A0->Option B0):A0->Option B0:=fun v_=>match v_ with
|(nk,c,i,k,m,m1,())=>
 bif decide (k<4)then
  bif inB (ahw.wrap ((ahw.wrap (4*(ahw.wrap (i-nk))))+k)) (m.length:Int)then
  bif inB k (m1.length:Int)then
  bif decide (m.length+([(Hz .u8 (rd 0 m (ahw.wrap ((ahw.wrap (4*(ahw.wrap (i-nk))))+k))) (rd 0 m1 k))]:List Int).length<70368744177664)then
  self (nk,c,i,(ahw.wrap (k+1)),(m++([(Hz .u8 (rd 0 m (ahw.wrap ((ahw.wrap (4*(ahw.wrap (i-nk))))+k))) (rd 0 m1 k))]:List Int)),m1,())else none else none else none
 else
  some (nk,c,i,m,())
theorem k0:KQ 155 (O m_) [] e0 x0 [] (b0 m_):=fun _ _=>by kernel_rfl
def l0:=loop m_ (b0 m_)
theorem q0(v):l0 .lim v=b0 .lim (l0 .lim) v:=KS.q (k0 .lim) v
def s0:=so m_ (k0 m_)
def e1:Spec:=⟨[fs 155 [.q 500,.z 500,.b 0,.q 63] [(3,.w),(4,.oy 0),(5,.y),(6,.w)]],[(0,.c [.ry])],1⟩
def x1:List Spec:=[⟨[fs 155 [.q 63] [(4,.oy 0)]],[(0,.c [.ry])],1⟩]
abbrev A1:Type:=Int×Int×Int×LI×Unit
abbrev B1:Type:=(LI×Unit)
def b1(self:A1->Option B1):A1->Option B1:=fun v_=>match v_ with
|(nk,c,i,m,())=>
 bif decide (i<(ahw.wrap (4*(ahw.wrap (nk+7)))))then
  bif inB (ahw.wrap ((ahw.wrap (4*i))-4)) (m.length:Int)then
  bif inB (ahw.wrap ((ahw.wrap (4*i))-3)) (m.length:Int)then
  bif inB (ahw.wrap ((ahw.wrap (4*i))-2)) (m.length:Int)then
  bif inB (ahw.wrap ((ahw.wrap (4*i))-1)) (m.length:Int)then
  bif !(decide (nk=0))then
  bif decide ((i.tmod nk)=0)then
   bif inB 1 (([(rd 0 m (ahw.wrap ((ahw.wrap (4*i))-4))),(rd 0 m (ahw.wrap ((ahw.wrap (4*i))-3))),(rd 0 m (ahw.wrap ((ahw.wrap (4*i))-2))),(rd 0 m (ahw.wrap ((ahw.wrap (4*i))-1)))]:List Int).length:Int)then
   (NI.run m_ ((rd 0 ([(rd 0 m (ahw.wrap ((ahw.wrap (4*i))-4))),(rd 0 m (ahw.wrap ((ahw.wrap (4*i))-3))),(rd 0 m (ahw.wrap ((ahw.wrap (4*i))-2))),(rd 0 m (ahw.wrap ((ahw.wrap (4*i))-1)))]:List Int) 1),())).bind fun r=>
   bif inB 2 (([(rd 0 m (ahw.wrap ((ahw.wrap (4*i))-4))),(rd 0 m (ahw.wrap ((ahw.wrap (4*i))-3))),(rd 0 m (ahw.wrap ((ahw.wrap (4*i))-2))),(rd 0 m (ahw.wrap ((ahw.wrap (4*i))-1)))]:List Int).length:Int)then
   (NI.run m_ ((rd 0 ([(rd 0 m (ahw.wrap ((ahw.wrap (4*i))-4))),(rd 0 m (ahw.wrap ((ahw.wrap (4*i))-3))),(rd 0 m (ahw.wrap ((ahw.wrap (4*i))-2))),(rd 0 m (ahw.wrap ((ahw.wrap (4*i))-1)))]:List Int) 2),())).bind fun r1=>
   bif inB 3 (([(rd 0 m (ahw.wrap ((ahw.wrap (4*i))-4))),(rd 0 m (ahw.wrap ((ahw.wrap (4*i))-3))),(rd 0 m (ahw.wrap ((ahw.wrap (4*i))-2))),(rd 0 m (ahw.wrap ((ahw.wrap (4*i))-1)))]:List Int).length:Int)then
   (NI.run m_ ((rd 0 ([(rd 0 m (ahw.wrap ((ahw.wrap (4*i))-4))),(rd 0 m (ahw.wrap ((ahw.wrap (4*i))-3))),(rd 0 m (ahw.wrap ((ahw.wrap (4*i))-2))),(rd 0 m (ahw.wrap ((ahw.wrap (4*i))-1)))]:List Int) 3),())).bind fun r2=>
   bif inB 0 (([(rd 0 m (ahw.wrap ((ahw.wrap (4*i))-4))),(rd 0 m (ahw.wrap ((ahw.wrap (4*i))-3))),(rd 0 m (ahw.wrap ((ahw.wrap (4*i))-2))),(rd 0 m (ahw.wrap ((ahw.wrap (4*i))-1)))]:List Int).length:Int)then
   (NI.run m_ ((rd 0 ([(rd 0 m (ahw.wrap ((ahw.wrap (4*i))-4))),(rd 0 m (ahw.wrap ((ahw.wrap (4*i))-3))),(rd 0 m (ahw.wrap ((ahw.wrap (4*i))-2))),(rd 0 m (ahw.wrap ((ahw.wrap (4*i))-1)))]:List Int) 0),())).bind fun r3=>
   (NR.run m_ (c,2,())).bind fun r4=>
   (Nb.l0 m_ (nk,r4,i,0,m,([(Hz .u8 r c),r1,r2,r3]:List Int),())).bind fun (nk1,c1,i1,m1,())=>
   self (nk1,c1,(ahw.wrap (i1+1)),m1,())else none else none else none else none
  else
   bif((!(decide (nk=8)))||true)then
   bif((decide (nk=8))&&(decide ((i.tmod 8)=4)))then
    bif inB 0 (([(rd 0 m (ahw.wrap ((ahw.wrap (4*i))-4))),(rd 0 m (ahw.wrap ((ahw.wrap (4*i))-3))),(rd 0 m (ahw.wrap ((ahw.wrap (4*i))-2))),(rd 0 m (ahw.wrap ((ahw.wrap (4*i))-1)))]:List Int).length:Int)then
    (NI.run m_ ((rd 0 ([(rd 0 m (ahw.wrap ((ahw.wrap (4*i))-4))),(rd 0 m (ahw.wrap ((ahw.wrap (4*i))-3))),(rd 0 m (ahw.wrap ((ahw.wrap (4*i))-2))),(rd 0 m (ahw.wrap ((ahw.wrap (4*i))-1)))]:List Int) 0),())).bind fun r5=>
    bif inB 1 (([(rd 0 m (ahw.wrap ((ahw.wrap (4*i))-4))),(rd 0 m (ahw.wrap ((ahw.wrap (4*i))-3))),(rd 0 m (ahw.wrap ((ahw.wrap (4*i))-2))),(rd 0 m (ahw.wrap ((ahw.wrap (4*i))-1)))]:List Int).length:Int)then
    (NI.run m_ ((rd 0 ([(rd 0 m (ahw.wrap ((ahw.wrap (4*i))-4))),(rd 0 m (ahw.wrap ((ahw.wrap (4*i))-3))),(rd 0 m (ahw.wrap ((ahw.wrap (4*i))-2))),(rd 0 m (ahw.wrap ((ahw.wrap (4*i))-1)))]:List Int) 1),())).bind fun r6=>
    bif inB 2 (([(rd 0 m (ahw.wrap ((ahw.wrap (4*i))-4))),(rd 0 m (ahw.wrap ((ahw.wrap (4*i))-3))),(rd 0 m (ahw.wrap ((ahw.wrap (4*i))-2))),(rd 0 m (ahw.wrap ((ahw.wrap (4*i))-1)))]:List Int).length:Int)then
    (NI.run m_ ((rd 0 ([(rd 0 m (ahw.wrap ((ahw.wrap (4*i))-4))),(rd 0 m (ahw.wrap ((ahw.wrap (4*i))-3))),(rd 0 m (ahw.wrap ((ahw.wrap (4*i))-2))),(rd 0 m (ahw.wrap ((ahw.wrap (4*i))-1)))]:List Int) 2),())).bind fun r7=>
    bif inB 3 (([(rd 0 m (ahw.wrap ((ahw.wrap (4*i))-4))),(rd 0 m (ahw.wrap ((ahw.wrap (4*i))-3))),(rd 0 m (ahw.wrap ((ahw.wrap (4*i))-2))),(rd 0 m (ahw.wrap ((ahw.wrap (4*i))-1)))]:List Int).length:Int)then
    (NI.run m_ ((rd 0 ([(rd 0 m (ahw.wrap ((ahw.wrap (4*i))-4))),(rd 0 m (ahw.wrap ((ahw.wrap (4*i))-3))),(rd 0 m (ahw.wrap ((ahw.wrap (4*i))-2))),(rd 0 m (ahw.wrap ((ahw.wrap (4*i))-1)))]:List Int) 3),())).bind fun r8=>
    (Nb.l0 m_ (nk,c,i,0,m,([r5,r6,r7,r8]:List Int),())).bind fun (nk2,c2,i2,m2,())=>
    self (nk2,c2,(ahw.wrap (i2+1)),m2,())else none else none else none else none
   else
    (Nb.l0 m_ (nk,c,i,0,m,([(rd 0 m (ahw.wrap ((ahw.wrap (4*i))-4))),(rd 0 m (ahw.wrap ((ahw.wrap (4*i))-3))),(rd 0 m (ahw.wrap ((ahw.wrap (4*i))-2))),(rd 0 m (ahw.wrap ((ahw.wrap (4*i))-1)))]:List Int),())).bind fun (nk3,c3,i3,m3,())=>
    self (nk3,c3,(ahw.wrap (i3+1)),m3,())else none else none else none else none else none else none
 else
  some (m,())
theorem k1:KQ 155 (O m_) [] e1 x1 [s0 m_] (b1 m_):=fun _ _=>by kernel_rfl
def l1:=loop m_ (b1 m_)
theorem q1(v):l1 .lim v=b1 .lim (l1 .lim) v:=KS.q (k1 .lim) v
def s1:=so m_ (k1 m_)
def run:(List Int)×Unit->Option (List Int):=fun v_=>match v_ with
|(key,())=>
 bif wB (key.length:Int)then
 (Nb.l1 m_ ((ahw.wrap ((key.length:Int).tdiv 4)),1,(ahw.wrap ((key.length:Int).tdiv 4)),key,())).bind fun (m,())=>
 some m else none
theorem k:KT (O m_) [] ⟨155,[.one .str],.one (.own (.int .u8)),run m_⟩ [s1 m_]:=fun _=>by kernel_rfl
def c:=co (k m_)
end Nb

namespace Np
def O(m_:Dq):OO P:=lI []
def e0:Spec:=⟨[fs 177 [.q 7460,.z 7460,.b 2,.b 1,.q 467,.z 116,.b 0,.q 15] [(0,.dat V5),(1,.b),(5,.oy 0),(6,.w),(7,.w)]],[(0,.c [.ry])],1⟩
def x0:List Spec:=[⟨[fs 177 [.q 467,.z 116,.b 0,.q 15] [(0,.dat V5),(1,.b),(5,.oy 0),(6,.w)]],[(0,.c [.ry])],1⟩]
abbrev A0:Type:=LI×Bool×Int×Int×LI×Unit
abbrev B0:Type:=(LI×Bool×Int×LI×Unit)
def b0(m_:Dq)(self:A0->Option B0):A0->Option B0:=fun v_=>match v_ with
|(b,back,c,r,m,())=>
 bif decide (r<4)then
  bif back then
   bif inB (ahw.wrap ((ahw.wrap (4*c))+r)) (b.length:Int)then
   bif inB (ahw.wrap ((ahw.wrap (4*((ahw.wrap (c+r)).tmod 4)))+r)) (m.length:Int)then
   self (b,back,c,(ahw.wrap (r+1)),(m.set ((ahw.wrap ((ahw.wrap (4*((ahw.wrap (c+r)).tmod 4)))+r)).toNat) (rd 0 b (ahw.wrap ((ahw.wrap (4*c))+r)))),())else none else none
  else
   bif inB (ahw.wrap ((ahw.wrap (4*((ahw.wrap (c+r)).tmod 4)))+r)) (b.length:Int)then
   bif inB (ahw.wrap ((ahw.wrap (4*c))+r)) (m.length:Int)then
   self (b,back,c,(ahw.wrap (r+1)),(m.set ((ahw.wrap ((ahw.wrap (4*c))+r)).toNat) (rd 0 b (ahw.wrap ((ahw.wrap (4*((ahw.wrap (c+r)).tmod 4)))+r)))),())else none else none
 else
  some (b,back,c,m,())
theorem k0:KQ 177 (O m_) [] e0 x0 [] (b0 m_):=fun _ _=>by kernel_rfl
def l0:=loop m_ (b0 m_)
theorem q0(v):l0 .lim v=b0 .lim (l0 .lim) v:=KS.q (k0 .lim) v
def s0:=so m_ (k0 m_)
def e1:Spec:=⟨[fs 177 [.q 116,.z 116,.b 0,.q 15] [(0,.dat V5),(1,.b),(5,.oy 0),(6,.w)]],[(0,.c [.ry])],1⟩
def x1:List Spec:=[⟨[fs 177 [.q 15] [(5,.oy 0)]],[(0,.c [.ry])],1⟩]
abbrev A1:Type:=LI×Bool×Int×LI×Unit
abbrev B1:Type:=(LI×Unit)
def b1(self:A1->Option B1):A1->Option B1:=fun v_=>match v_ with
|(b,back,c,m,())=>
 bif decide (c<4)then
  (Np.l0 m_ (b,back,c,0,m,())).bind fun (b1,adz,c1,m1,())=>
  self (b1,adz,(ahw.wrap (c1+1)),m1,())
 else
  some (m,())
theorem k1:KQ 177 (O m_) [] e1 x1 [s0 m_] (b1 m_):=fun _ _=>by kernel_rfl
def l1:=loop m_ (b1 m_)
theorem q1(v):l1 .lim v=b1 .lim (l1 .lim) v:=KS.q (k1 .lim) v
def s1:=so m_ (k1 m_)
def run:(List Int)×Bool×Unit->Option (List Int):=fun v_=>match v_ with
|(b,back,())=>
 bif ahF 16 70368744177664 then
 (Np.l1 m_ (b,back,0,(ahx 16 0),())).bind fun (m,())=>
 some m else none
theorem k:KT (O m_) [] ⟨177,[.one V5,.one .bool],.one (.own (.int .u8)),run m_⟩ [s1 m_]:=fun _=>by kernel_rfl
def c:=co (k m_)
end Np

namespace MZ
def O:OO P:=lI [NR.c m_]
def e0:Spec:=⟨[fs 178 [.q 477476,.z 477476,.b 4,.b 3,.q 29843,.z 7460,.b 2,.b 1,.q 467,.z 116,.b 0,.q 15] [(0,.dat V5),(1,.dat V5),(5,.oy 0),(6,.w),(7,.w),(8,.w)]],[(0,.c [.ry])],1⟩
def x0:List Spec:=[⟨[fs 178 [.q 29843,.z 7460,.b 2,.b 1,.q 467,.z 116,.b 0,.q 15] [(0,.dat V5),(1,.dat V5),(5,.oy 0),(6,.w),(7,.w)]],[(0,.c [.ry])],1⟩]
abbrev A0:Type:=LI×LI×Int×Int×Int×LI×Unit
abbrev B0:Type:=(LI×LI×Int×Int×LI×Unit)
def b0(self:A0->Option B0):A0->Option B0:=fun v_=>match v_ with
|(b,m,c,r,k,m1,())=>
 bif decide (k<4)then
  bif inB (ahw.wrap ((ahw.wrap (4*c))+r)) (m1.length:Int)then
  bif inB (ahw.wrap ((ahw.wrap (4*c))+((ahw.wrap (r+k)).tmod 4))) (b.length:Int)then
  bif inB k (m.length:Int)then
  (NR.run m_ ((rd 0 b (ahw.wrap ((ahw.wrap (4*c))+((ahw.wrap (r+k)).tmod 4)))),(rd 0 m k),())).bind fun r1=>
  bif inB (ahw.wrap ((ahw.wrap (4*c))+r)) (m1.length:Int)then
  self (b,m,c,r,(ahw.wrap (k+1)),(m1.set ((ahw.wrap ((ahw.wrap (4*c))+r)).toNat) (Hz .u8 (rd 0 m1 (ahw.wrap ((ahw.wrap (4*c))+r))) r1)),())else none else none else none else none
 else
  some (b,m,c,r,m1,())
theorem k0:KQ 178 (O m_) [] e0 x0 [] (b0 m_):=fun _ _=>by kernel_rfl
def l0:=loop m_ (b0 m_)
theorem q0(v):l0 .lim v=b0 .lim (l0 .lim) v:=KS.q (k0 .lim) v
def s0:=so m_ (k0 m_)
def e1:Spec:=⟨[fs 178 [.q 7460,.z 7460,.b 2,.b 1,.q 467,.z 116,.b 0,.q 15] [(0,.dat V5),(1,.dat V5),(5,.oy 0),(6,.w),(7,.w)]],[(0,.c [.ry])],1⟩
def x1:List Spec:=[⟨[fs 178 [.q 467,.z 116,.b 0,.q 15] [(0,.dat V5),(1,.dat V5),(5,.oy 0),(6,.w)]],[(0,.c [.ry])],1⟩]
abbrev A1:Type:=LI×LI×Int×Int×LI×Unit
abbrev B1:Type:=(LI×LI×Int×LI×Unit)
def b1(self:A1->Option B1):A1->Option B1:=fun v_=>match v_ with
|(b,m,c,r,m1,())=>
 bif decide (r<4)then
  (MZ.l0 m_ (b,m,c,r,0,m1,())).bind fun (b1,m2,c1,r1,m3,())=>
  self (b1,m2,c1,(ahw.wrap (r1+1)),m3,())
 else
  some (b,m,c,m1,())
theorem k1:KQ 178 (O m_) [] e1 x1 [s0 m_] (b1 m_):=fun _ _=>by kernel_rfl
def l1:=loop m_ (b1 m_)
theorem q1(v):l1 .lim v=b1 .lim (l1 .lim) v:=KS.q (k1 .lim) v
def s1:=so m_ (k1 m_)
def e2:Spec:=⟨[fs 178 [.q 116,.z 116,.b 0,.q 15] [(0,.dat V5),(1,.dat V5),(5,.oy 0),(6,.w)]],[(0,.c [.ry])],1⟩
def x2:List Spec:=[⟨[fs 178 [.q 15] [(5,.oy 0)]],[(0,.c [.ry])],1⟩]
abbrev A2:Type:=LI×LI×Int×LI×Unit
abbrev B2:Type:=(LI×Unit)
def b2(self:A2->Option B2):A2->Option B2:=fun v_=>match v_ with
|(b,m,c,m1,())=>
 bif decide (c<4)then
  (MZ.l1 m_ (b,m,c,0,m1,())).bind fun (b1,m2,c1,m3,())=>
  self (b1,m2,(ahw.wrap (c1+1)),m3,())
 else
  some (m1,())
theorem k2:KQ 178 (O m_) [] e2 x2 [s1 m_] (b2 m_):=fun _ _=>by kernel_rfl
def l2:=loop m_ (b2 m_)
theorem q2(v):l2 .lim v=b2 .lim (l2 .lim) v:=KS.q (k2 .lim) v
def s2:=so m_ (k2 m_)
def run:(List Int)×(List Int)×Unit->Option (List Int):=fun v_=>match v_ with
|(b,m,())=>
 bif ahF 16 70368744177664 then
 (MZ.l2 m_ (b,m,0,(ahx 16 0),())).bind fun (m1,())=>
 some m1 else none
theorem k:KT (O m_) [] ⟨178,[.one V5,.one V5],.one (.own (.int .u8)),run m_⟩ [s2 m_]:=fun _=>by kernel_rfl
def c:=co (k m_)
end MZ

namespace MP
def O:OO P:=lI [NI.c m_,Np.c m_,MZ.c m_]
def f0:gB:=fs 176 [.q 12,.z 12,.b 0] [(0,.oy 0),(1,.dat V5),(4,.w)]
def f1:gB:=fs 156 [.v 14 [3],.q 15] [(0,.dat V5),(5,.oy 0)]
def e0:Spec:=⟨[f0,f1],[(0,.c [.ry])],1⟩
def x0:List Spec:=[⟨[fs 176 [] [],f1],[(0,.c [.ry])],1⟩]
abbrev A0:Type:=LI×Int×LI×LI×Unit
abbrev B0:Type:=(LI×LI×Unit)
def b0(m_:Dq)(self:A0->Option B0):A0->Option B0:=fun v_=>match v_ with
|(w,i,w1,m,())=>
 bif decide (i<16)then
  bif inB i (m.length:Int)then
  bif inB i (w.length:Int)then
  bif inB i (m.length:Int)then
  self (w,(ahw.wrap (i+1)),w1,(m.set i.toNat (Hz .u8 (rd 0 m i) (rd 0 w i))),())else none else none else none
 else
  some (w1,m,())
theorem k0:KQ 156 (O m_) [176] e0 x0 [] (b0 m_):=fun _ _=>by kernel_rfl
def l0:=loop m_ (b0 m_)
theorem q0(v):l0 .lim v=b0 .lim (l0 .lim) v:=KS.q (k0 .lim) v
def s0:=so m_ (k0 m_)
def e1:Spec:=⟨[fs 156 [.q 31300,.z 31300,.b 2,.q 3913,.b 1,.q 979,.z 244,.b 0,.q 31] [(0,.dat V5),(5,.oy 0),(6,.w),(7,.w)]],[(0,.c [.ry])],1⟩
def x1:List Spec:=[⟨[fs 156 [.q 3913,.b 1,.q 979,.z 244,.b 0,.q 31] [(0,.dat V5),(5,.oy 0),(6,.w)]],[(0,.c [.ry])],1⟩]
abbrev A1:Type:=LI×Int×Int×LI×Unit
abbrev B1:Type:=(LI×Int×LI×Unit)
def b1(self:A1->Option B1):A1->Option B1:=fun v_=>match v_ with
|(w,i,k,m,())=>
 bif decide (k<16)then
  bif inB k (m.length:Int)then
  (NI.run m_ ((rd 0 m k),())).bind fun r=>
  bif inB k (m.length:Int)then
  self (w,i,(ahw.wrap (k+1)),(m.set k.toNat r),())else none else none
 else
  some (w,i,m,())
theorem k1:KQ 156 (O m_) [176] e1 x1 [] (b1 m_):=fun _ _=>by kernel_rfl
def l1:=loop m_ (b1 m_)
theorem q1(v):l1 .lim v=b1 .lim (l1 .lim) v:=KS.q (k1 .lim) v
def s1:=so m_ (k1 m_)
def f2:gB:=fs 156 [.v 15655 [6],.b 1,.q 979,.z 244,.b 0,.q 31] [(0,.dat V5),(5,.oy 0),(6,.w)]
def e2:Spec:=⟨[f0,f2],[(0,.c [.ry])],1⟩
def x2:List Spec:=[⟨[fs 176 [] [],f2],[(0,.c [.ry])],1⟩]
abbrev A2:Type:=LI×Int×LI×Int×LI×Unit
abbrev B2:Type:=(LI×Int×LI×Unit)
def b2(m_:Dq)(self:A2->Option B2):A2->Option B2:=fun v_=>match v_ with
|(w,i,w1,i1,m,())=>
 bif decide (i<16)then
  bif inB i (m.length:Int)then
  bif inB i (w.length:Int)then
  bif inB i (m.length:Int)then
  self (w,(ahw.wrap (i+1)),w1,i1,(m.set i.toNat (Hz .u8 (rd 0 m i) (rd 0 w i))),())else none else none else none
 else
  some (w1,i1,m,())
theorem k2:KQ 156 (O m_) [176] e2 x2 [] (b2 m_):=fun _ _=>by kernel_rfl
def l2:=loop m_ (b2 m_)
theorem q2(v):l2 .lim v=b2 .lim (l2 .lim) v:=KS.q (k2 .lim) v
def s2:=so m_ (k2 m_)
def e3:Spec:=⟨[fs 156 [.q 244,.z 244,.b 0,.q 31] [(0,.dat V5),(5,.oy 0),(6,.w)]],[(0,.c [.ry])],1⟩
def x3:List Spec:=[⟨[fs 156 [.q 31] [(5,.oy 0)]],[(0,.c [.ry])],1⟩]
abbrev A3:Type:=LI×Int×LI×Unit
abbrev B3:Type:=(LI×Unit)
def b3(self:A3->Option B3):A3->Option B3:=fun v_=>match v_ with
|(w,i,m,())=>
 bif wB (w.length:Int)then
 bif decide (i<(w.length:Int))then
  (MP.l1 m_ (w,i,0,m,())).bind fun (w1,i1,m1,())=>
  (Np.run m_ (m1,false,())).bind fun r=>
  bif wB (w1.length:Int)then
  bif decide ((ahw.wrap (i1+16))<(w1.length:Int))then
   (MZ.run m_ (r,([2,3,1,1]:List Int),())).bind fun r1=>
   bif sV i1 (ahw.wrap (i1+16)) (w1.length:Int)then
   (MP.l2 m_ ((cut w1 i1 (ahw.wrap (i1+16))),0,w1,i1,r1,())).bind fun (w2,i2,m2,())=>
   self (w2,(ahw.wrap (i2+16)),m2,())else none
  else
   bif sV i1 (ahw.wrap (i1+16)) (w1.length:Int)then
   (MP.l2 m_ ((cut w1 i1 (ahw.wrap (i1+16))),0,w1,i1,r,())).bind fun (w3,i3,m3,())=>
   self (w3,(ahw.wrap (i3+16)),m3,())else none else none
 else
  some (m,())else none
theorem k3:KQ 156 (O m_) [176] e3 x3 [s1 m_,s2 m_] (b3 m_):=fun _ _=>by kernel_rfl
def l3:=loop m_ (b3 m_)
theorem q3(v):l3 .lim v=b3 .lim (l3 .lim) v:=KS.q (k3 .lim) v
def s3:=so m_ (k3 m_)
def run:(List Int)×(List Int)×Unit->Option (List Int):=fun v_=>match v_ with
|(w,block,())=>
 bif sV 0 16 (w.length:Int)then
 (MP.l0 m_ ((cut w 0 16),0,w,block,())).bind fun (w1,m,())=>
 (MP.l3 m_ (w1,16,m,())).bind fun (m1,())=>
 some m1 else none
theorem k:KT (O m_) [176] ⟨156,[.one V5,.one .str],.one (.sh (.one .str)),run m_⟩ [s0 m_,s3 m_]:=fun _=>by kernel_rfl
def c:=co (k m_)
end MP

namespace Om
def O:OO P:=lI [OD.c m_,Nb.c m_,MP.c m_]
def run:(List Int)×(List Int)×Unit->Option ((List Int)×Int×Unit):=fun v_=>match v_ with
|(key,block,())=>
 (OD.run m_ (key,block,())).bind fun r=>
 bif !(decide (r=0))then
  some (([]:List Int),r,())
 else
  (Nb.run m_ (key,())).bind fun r1=>
  (MP.run m_ (r1,block,())).bind fun r2=>
  some (r2,0,())
theorem k:KT (O m_) [] ⟨179,[.one .str,.one .str],.gG [.sh (.one .str),.sh (.one (.int .i64))],run m_⟩ []:=fun _=>by kernel_rfl
def c:=co (k m_)
end Om

namespace ND
def O(m_:Dq):OO P:=lI []
def e0:Spec:=⟨[fs 160 [.q 116,.z 116,.b 0,.q 15] [(0,.s),(3,.oy 0),(4,.w)]],[(0,.c [.ry])],1⟩
def x0:List Spec:=[⟨[fs 160 [.q 15] [(0,.s),(3,.oy 0)]],[(0,.c [.ry])],1⟩]
abbrev A0:Type:=LI×Int×LI×Unit
abbrev B0:Type:=(LI×LI×Unit)
def b0(m_:Dq)(self:A0->Option B0):A0->Option B0:=fun v_=>match v_ with
|(b,i,m,())=>
 bif decide (i<16)then
  bif inB i (b.length:Int)then
  bif inB i (m.length:Int)then
  bif decide (i<15)then
   bif inB i ((m.set i.toNat (I_ .u8 (rd 0 b i) 1)).length:Int)then
   bif inB (ahw.wrap (i+1)) (b.length:Int)then
   bif inB i ((m.set i.toNat (I_ .u8 (rd 0 b i) 1)).length:Int)then
   self (b,(ahw.wrap (i+1)),((m.set i.toNat (I_ .u8 (rd 0 b i) 1)).set i.toNat (KL .u8 (rd 0 (m.set i.toNat (I_ .u8 (rd 0 b i) 1)) i) (Ja .u8 (rd 0 b (ahw.wrap (i+1))) 7))),())else none else none else none
  else
   self (b,(ahw.wrap (i+1)),(m.set i.toNat (I_ .u8 (rd 0 b i) 1)),())else none else none
 else
  some (b,m,())
theorem k0:KQ 160 (O m_) [] e0 x0 [] (b0 m_):=fun _ _=>by kernel_rfl
def l0:=loop m_ (b0 m_)
theorem q0(v):l0 .lim v=b0 .lim (l0 .lim) v:=KS.q (k0 .lim) v
def s0:=so m_ (k0 m_)
def run:(List Int)×Unit->Option (List Int):=fun v_=>match v_ with
|(b,())=>
 bif ahF 16 70368744177664 then
 (ND.l0 m_ (b,0,(ahx 16 0),())).bind fun (b1,m,())=>
 bif inB 0 (b1.length:Int)then
 bif decide ((rd 0 b1 0)>=128)then
  bif inB 15 (m.length:Int)then
  bif inB 15 (m.length:Int)then
  some (m.set 15 (Hz .u8 (rd 0 m 15) 135))else none else none
 else
  some m else none else none
theorem k:KT (O m_) [] ⟨160,[.one .str],.one (.sh (.one .str)),run m_⟩ [s0 m_]:=fun _=>by kernel_rfl
def c:=co (k m_)
end ND

namespace Nr
def O(m_:Dq):OO P:=lI []
def e0:Spec:=⟨[fs 149 [.q 116,.z 116,.b 0,.q 15] [(0,.s),(1,.s),(5,.oy 0),(6,.w)]],[(0,.c [.ry])],1⟩
def x0:List Spec:=[⟨[fs 149 [.q 15] [(5,.oy 0)]],[(0,.c [.ry])],1⟩]
abbrev A0:Type:=LI×LI×Int×LI×Unit
abbrev B0:Type:=(LI×Unit)
def b0(m_:Dq)(self:A0->Option B0):A0->Option B0:=fun v_=>match v_ with
|(a,b,i,m,())=>
 bif wB (a.length:Int)then
 bif decide (i<(a.length:Int))then
  bif inB i (a.length:Int)then
  bif inB i (b.length:Int)then
  bif inB i (m.length:Int)then
  self (a,b,(ahw.wrap (i+1)),(m.set i.toNat (Hz .u8 (rd 0 a i) (rd 0 b i))),())else none else none else none
 else
  some (m,())else none
theorem k0:KQ 149 (O m_) [] e0 x0 [] (b0 m_):=fun _ _=>by kernel_rfl
def l0:=loop m_ (b0 m_)
theorem q0(v):l0 .lim v=b0 .lim (l0 .lim) v:=KS.q (k0 .lim) v
def s0:=so m_ (k0 m_)
def run:(List Int)×(List Int)×Unit->Option (List Int):=fun v_=>match v_ with
|(a,b,())=>
 bif wB (a.length:Int)then
 bif(((decide (0<=(a.length:Int)))&&(decide ((a.length:Int)<=(a.length:Int))))&&(ahF ((a.length:Int).toNat) 70368744177664))then
 (Nr.l0 m_ (a,b,0,(ahx ((a.length:Int).toNat) 0),())).bind fun (m,())=>
 some m else none else none
theorem k:KT (O m_) [] ⟨149,[.one .str,.one .str],.one (.sh (.one .str)),run m_⟩ [s0 m_]:=fun _=>by kernel_rfl
def c:=co (k m_)
end Nr

namespace OJ
def O:OO P:=lI [Oa.c m_]
def run:(List Int)×Unit->Option (List Int):=fun v_=>match v_ with
|(s,())=>
 bif decide (s.length+([128]:List Int).length<=maxStr)then
 (Oa.run m_ (16,())).bind fun r=>
 bif decide ((s++([128]:List Int)).length+r.length<=maxStr)then
 bif sV 0 16 (((s++([128]:List Int))++r).length:Int)then
 some (cut ((s++([128]:List Int))++r) 0 16)else none else none else none
theorem k:KT (O m_) [] ⟨161,[.one .str],.one (.sh (.one .str)),run m_⟩ []:=fun _=>by kernel_rfl
def c:=co (k m_)
end OJ

namespace NG
def O:OO P:=lI [Nr.c m_,Oa.c m_,ND.c m_,OJ.c m_,Om.c m_]
def e0:Spec:=⟨[fs 158 [.q 248,.z 248,.b 0,.q 63] [(0,.s),(1,.s),(7,.s),(8,.s)]],[],0⟩
def x0:List Spec:=[⟨[fs 158 [.q 63] [(0,.s),(1,.s),(7,.s),(8,.s)]],[],0⟩]
abbrev A0:Type:=LI×LI×LI×LI×Unit
abbrev B0:Type:=(LI×LI×LI×LI×Unit)
def b0(self:A0->Option B0):A0->Option B0:=fun v_=>match v_ with
|(key,s,k,x,())=>
 bif wB (s.length:Int)then
 bif decide ((s.length:Int)>16)then
  bif sV 0 16 (s.length:Int)then
  (Nr.run m_ (x,(cut s 0 16),())).bind fun r=>
  (Om.run m_ (key,r,())).bind fun (r1,r2,())=>
  bif sV 16 (s.length:Int) (s.length:Int)then
  self (key,(cut s 16 (s.length:Int)),k,r1,())else none else none
 else
  some (key,s,k,x,())else none
theorem k0:KQ 158 (O m_) [] e0 x0 [] (b0 m_):=fun _ _=>by kernel_rfl
def l0:=loop m_ (b0 m_)
theorem q0(v):l0 .lim v=b0 .lim (l0 .lim) v:=KS.q (k0 .lim) v
def s0:=so m_ (k0 m_)
def run:(List Int)×(List Int)×Unit->Option (List Int):=fun v_=>match v_ with
|(key,s,())=>
 (Oa.run m_ (16,())).bind fun r=>
 (Om.run m_ (key,r,())).bind fun (r1,r2,())=>
 (ND.run m_ (r1,())).bind fun r3=>
 (Oa.run m_ (16,())).bind fun r4=>
 (NG.l0 m_ (key,s,r3,r4,())).bind fun (key1,s1,k,x,())=>
 bif wB (s1.length:Int)then
 bif decide ((s1.length:Int)<16)then
  (OJ.run m_ (s1,())).bind fun r5=>
  (ND.run m_ (k,())).bind fun r6=>
  (Nr.run m_ (x,r5,())).bind fun r7=>
  (Nr.run m_ (r7,r6,())).bind fun r8=>
  (Om.run m_ (key1,r8,())).bind fun (r9,r10,())=>
  some r9
 else
  (Nr.run m_ (x,s1,())).bind fun r11=>
  (Nr.run m_ (r11,k,())).bind fun r12=>
  (Om.run m_ (key1,r12,())).bind fun (r13,YN,())=>
  some r13 else none
theorem k:KT (O m_) [] ⟨158,[.one .str,.one .str],.one (.sh (.one .str)),run m_⟩ [s0 m_]:=fun _=>by kernel_rfl
def c:=co (k m_)
end NG

namespace Oh
def O:OO P:=lI [Nr.c m_,PU.c m_,NG.c m_,Oa.c m_,ND.c m_,OJ.c m_]
def e0:Spec:=⟨[fs 150 [.q 1012,.z 1012,.b 0,.q 127] [(0,.s),(1,.t),(6,.s),(7,.w)]],[],0⟩
def x0:List Spec:=[⟨[fs 150 [.q 127] [(0,.s),(1,.t),(6,.s)]],[],0⟩]
abbrev A0:Type:=LI×LL×LI×Int×Unit
abbrev B0:Type:=(LI×LL×LI×Unit)
def b0(self:A0->Option B0):A0->Option B0:=fun v_=>match v_ with
|(key,l,d,i,())=>
 bif wB (l.length:Int)then
 bif decide (i<(ahw.wrap ((l.length:Int)-1)))then
  (ND.run m_ (d,())).bind fun r=>
  bif inB i (l.length:Int)then
  (NG.run m_ (key,(rd ([]:List Int) l i),())).bind fun r1=>
  (Nr.run m_ (r,r1,())).bind fun r2=>
  self (key,l,r2,(ahw.wrap (i+1)),())else none
 else
  some (key,l,d,())else none
theorem k0:KQ 150 (O m_) [] e0 x0 [] (b0 m_):=fun _ _=>by kernel_rfl
def l0:=loop m_ (b0 m_)
theorem q0(v):l0 .lim v=b0 .lim (l0 .lim) v:=KS.q (k0 .lim) v
def s0:=so m_ (k0 m_)
def run:(List Int)×(List (List Int))×Unit->Option ((List Int)×Int×Unit):=fun v_=>match v_ with
|(key,l,())=>
 (PU.run m_ (key,())).bind fun r=>
 bif !r then
  some (([]:List Int),13,())
 else
  bif wB (l.length:Int)then
  bif decide ((l.length:Int)>127)then
   some (([]:List Int),18,())
  else
   bif wB (l.length:Int)then
   bif decide ((l.length:Int)=0)then
    (Oa.run m_ (15,())).bind fun r1=>
    bif decide (r1.length+([1]:List Int).length<=maxStr)then
    (NG.run m_ (key,(r1++([1]:List Int)),())).bind fun r2=>
    some (r2,0,())else none
   else
    (Oa.run m_ (16,())).bind fun r3=>
    (NG.run m_ (key,r3,())).bind fun r4=>
    (Oh.l0 m_ (key,l,r4,0,())).bind fun (key1,l1,d,())=>
    bif wB (l1.length:Int)then
    bif inB (ahw.wrap ((l1.length:Int)-1)) (l1.length:Int)then
    bif wB ((rd ([]:List Int) l1 (ahw.wrap ((l1.length:Int)-1))).length:Int)then
    bif decide (((rd ([]:List Int) l1 (ahw.wrap ((l1.length:Int)-1))).length:Int)<16)then
     (ND.run m_ (d,())).bind fun r5=>
     (OJ.run m_ ((rd ([]:List Int) l1 (ahw.wrap ((l1.length:Int)-1))),())).bind fun r6=>
     (Nr.run m_ (r5,r6,())).bind fun r7=>
     (NG.run m_ (key1,r7,())).bind fun r8=>
     some (r8,0,())
    else
     bif wB ((rd ([]:List Int) l1 (ahw.wrap ((l1.length:Int)-1))).length:Int)then
     bif sV 0 (ahw.wrap (((rd ([]:List Int) l1 (ahw.wrap ((l1.length:Int)-1))).length:Int)-16)) ((rd ([]:List Int) l1 (ahw.wrap ((l1.length:Int)-1))).length:Int)then
     bif sV (ahw.wrap (((rd ([]:List Int) l1 (ahw.wrap ((l1.length:Int)-1))).length:Int)-16)) ((rd ([]:List Int) l1 (ahw.wrap ((l1.length:Int)-1))).length:Int) ((rd ([]:List Int) l1 (ahw.wrap ((l1.length:Int)-1))).length:Int)then
     (Nr.run m_ ((cut (rd ([]:List Int) l1 (ahw.wrap ((l1.length:Int)-1))) (ahw.wrap (((rd ([]:List Int) l1 (ahw.wrap ((l1.length:Int)-1))).length:Int)-16)) ((rd ([]:List Int) l1 (ahw.wrap ((l1.length:Int)-1))).length:Int)),d,())).bind fun r9=>
     bif decide ((cut (rd ([]:List Int) l1 (ahw.wrap ((l1.length:Int)-1))) 0 (ahw.wrap (((rd ([]:List Int) l1 (ahw.wrap ((l1.length:Int)-1))).length:Int)-16))).length+r9.length<=maxStr)then
     (NG.run m_ (key1,((cut (rd ([]:List Int) l1 (ahw.wrap ((l1.length:Int)-1))) 0 (ahw.wrap (((rd ([]:List Int) l1 (ahw.wrap ((l1.length:Int)-1))).length:Int)-16)))++r9),())).bind fun r10=>
     some (r10,0,())else none else none else none else none else none else none else none else none else none
theorem k:KT (O m_) [] ⟨150,[.one .str,.one (.lst .str)],.gG [.sh (.one .str),.sh (.one (.int .i64))],run m_⟩ [s0 m_]:=fun _=>by kernel_rfl
def c:=co (k m_)
end Oh

namespace O6
def O:OO P:=lI [Oh.c m_]
def run:(List Int)×(List (List Int))×(List Int)×Unit->Option (List Int):=fun v_=>match v_ with
|(key,ad,plain,())=>
 bif decide (ad.length<4398046511104)then
 bif decide (ad.length+([plain]:List (List Int)).length<4398046511104)then
 (Oh.run m_ (key,(ad++([plain]:List (List Int))),())).bind fun (r,r1,())=>
 some r else none else none
theorem k:KT (O m_) [] ⟨139,[.one .str,.one (.lst .str),.one .str],.one (.sh (.one .str)),run m_⟩ []:=fun _=>by kernel_rfl
def c:=co (k m_)
end O6

namespace Ns
def O:OO P:=lI [OD.c m_,Nb.c m_,MP.c m_]
def f0:gB:=fs 148 [.q 2040,.z 2040,.b 0,.q 511] [(2,.w),(9,.oy 0),(10,.oy 1),(11,.s)]
def e0:Spec:=⟨[fs 148 [.q 130604,.z 130604,.b 2,.b 1,.z 2040,.b 0,.q 511] [(2,.w),(9,.oy 0),(10,.oy 1),(11,.s),(12,.w)]],[(0,.c [.ry]),(1,.c [.ry])],2⟩
def x0:List Spec:=[⟨[f0],[(0,.c [.ry]),(1,.c [.ry])],2⟩]
abbrev A0:Type:=Int×LI×Int×LI×LI×Unit
abbrev B0:Type:=(Int×LI×LI×LI×Unit)
def b0(m_:Dq)(self:A0->Option B0):A0->Option B0:=fun v_=>match v_ with
|(n,out,i,m,m1,())=>
 bif decide (i>=0)then
  bif inB i (m1.length:Int)then
  bif inB i (m1.length:Int)then
  bif inB i ((m1.set i.toNat (ahy.wrap ((rd 0 m1 i)+1))).length:Int)then
  bif !(decide ((rd 0 (m1.set i.toNat (ahy.wrap ((rd 0 m1 i)+1))) i)=0))then
   some (n,out,m,(m1.set i.toNat (ahy.wrap ((rd 0 m1 i)+1))),())
  else
   self (n,out,(ahw.wrap (i-1)),m,(m1.set i.toNat (ahy.wrap ((rd 0 m1 i)+1))),())else none else none else none
 else
  some (n,out,m,m1,())
theorem k0:KQ 148 (O m_) [] e0 x0 [] (b0 m_):=fun _ _=>by kernel_rfl
def l0:=loop m_ (b0 m_)
theorem q0(v):l0 .lim v=b0 .lim (l0 .lim) v:=KS.q (k0 .lim) v
def s0:=so m_ (k0 m_)
def e1:Spec:=⟨[f0],[(0,.c [.ry]),(1,.c [.ry])],2⟩
def x1:List Spec:=[⟨[fs 148 [.q 511] [(2,.w),(11,.s)]],[],0⟩]
abbrev A1:Type:=Int×LI×LI×LI×Unit
abbrev B1:Type:=(Int×LI×Unit)
def b1(self:A1->Option B1):A1->Option B1:=fun v_=>match v_ with
|(n,out,m,m1,())=>
 bif wB (out.length:Int)then
 bif decide ((out.length:Int)<n)then
  (MP.run m_ (m,m1,())).bind fun r=>
  bif decide (out.length+r.length<=maxStr)then
  (Ns.l0 m_ (n,(out++r),15,m,m1,())).bind fun (n1)=>
  self (n1)else none
 else
  some (n,out,())else none
theorem k1:KQ 148 (O m_) [] e1 x1 [s0 m_] (b1 m_):=fun _ _=>by kernel_rfl
def l1:=loop m_ (b1 m_)
theorem q1(v):l1 .lim v=b1 .lim (l1 .lim) v:=KS.q (k1 .lim) v
def s1:=so m_ (k1 m_)
def run:(List Int)×(List Int)×Int×Unit->Option ((List Int)×Int×Unit):=fun v_=>match v_ with
|(key,first,n,())=>
 bif((decide (n<0))||(decide (n>65536)))then
  some (([]:List Int),13,())
 else
  (OD.run m_ (key,first,())).bind fun r=>
  bif !(decide (r=0))then
   some (([]:List Int),r,())
  else
   (Nb.run m_ (key,())).bind fun r1=>
   (Ns.l1 m_ (n,([]:List Int),r1,first,())).bind fun (n1,out,())=>
   bif sV 0 n1 (out.length:Int)then
   some ((cut out 0 n1),0,())else none
theorem k:KT (O m_) [] ⟨148,[.one .str,.one .str,.one (.int .i64)],.gG [.sh (.one .str),.sh (.one (.int .i64))],run m_⟩ [s1 m_]:=fun _=>by kernel_rfl
def c:=co (k m_)
end Ns

namespace Ou
def O:OO P:=lI [Ns.c m_,Nr.c m_]
def run:(List Int)×(List Int)×(List Int)×Unit->Option (List Int):=fun v_=>match v_ with
|(key,v,s,())=>
 bif inB 8 (v.length:Int)then
 bif inB 8 (v.length:Int)then
 bif inB 12 ((v.set 8 (I9 .u8 (rd 0 v 8) 127)).length:Int)then
 bif inB 12 ((v.set 8 (I9 .u8 (rd 0 v 8) 127)).length:Int)then
 bif wB (s.length:Int)then
 (Ns.run m_ (key,((v.set 8 (I9 .u8 (rd 0 v 8) 127)).set 12 (I9 .u8 (rd 0 (v.set 8 (I9 .u8 (rd 0 v 8) 127)) 12) 127)),(s.length:Int),())).bind fun (r,r1,())=>
 (Nr.run m_ (s,r,())).bind fun r2=>
 some r2 else none else none else none else none else none
theorem k:KT (O m_) [] ⟨138,[.one .str,.one .str,.one .str],.one (.sh (.one .str)),run m_⟩ []:=fun _=>by kernel_rfl
def c:=co (k m_)
end Ou

namespace P_
def O:OO P:=lI [Oz.c m_,Ou.c m_,O6.c m_]
def run:(List Int)×(List (List Int))×(List Int)×Unit->Option ((List Int)×Int×Unit):=fun v_=>match v_ with
|(key,ad,plain,())=>
 (Oz.run m_ (key,ad,())).bind fun r=>
 bif !(decide (r=0))then
  some (([]:List Int),r,())
 else
  bif wB (plain.length:Int)then
  bif decide ((plain.length:Int)>65536)then
   some (([]:List Int),12,())
  else
   bif wB (key.length:Int)then
   bif sV 0 (ahw.wrap ((key.length:Int).tdiv 2)) (key.length:Int)then
   (O6.run m_ ((cut key 0 (ahw.wrap ((key.length:Int).tdiv 2))),ad,plain,())).bind fun r1=>
   bif sV (ahw.wrap ((key.length:Int).tdiv 2)) (key.length:Int) (key.length:Int)then
   (Ou.run m_ ((cut key (ahw.wrap ((key.length:Int).tdiv 2)) (key.length:Int)),r1,plain,())).bind fun r2=>
   bif decide (r1.length+r2.length<=maxStr)then
   some ((r1++r2),0,())else none else none else none else none else none
theorem k:KT (O m_) [] ⟨132,[.one .str,.one (.lst .str),.one .str],.gG [.sh (.one .str),.sh (.one (.int .i64))],run m_⟩ []:=fun _=>by kernel_rfl
def c:=co (k m_)
end P_

namespace OA
def O(m_:Dq):OO P:=lI []
def run(m_:Dq):(List Int)×(List (List Int))×Int×Unit->Option (Int):=fun v_=>match v_ with
|(key,ad,n,())=>
 bif wB (key.length:Int)then
 bif((!(!(decide ((key.length:Int)=32))))||(wB (key.length:Int)))then
 bif((!(decide ((key.length:Int)=32)))&&(!(decide ((key.length:Int)=64))))then
  some 13
 else
  bif wB (ad.length:Int)then
  bif decide ((ad.length:Int)>126)then
   some 18
  else
   bif decide (n>65536)then
    some 12
   else
    some 0 else none else none else none
theorem k:KT (O m_) [] ⟨105,[.one .str,.one (.lst .str),.one (.int .i64)],.one (.sh (.one (.int .i64))),run m_⟩ []:=fun _=>by kernel_rfl
def c:=co (k m_)
end OA

namespace NW
def O:OO P:=lI [Og.c m_,NY.c m_,OA.c m_,P_.c m_]
def o0:dJ:= .c [.b,.dat Uo]
def o1:dJ:= .c [.s,.own 3 .str,.s,.s]
def e0:Spec:=⟨[fs 98 [.q 2036,.z 2036,.b 0,.q 255] [(3,.s),(4,.ptr 0 0),(8,.ptr 1 0),(14,.ptr 2 0),(15,.w)]],[(0,o0),(1,.c [.b,.CW]),(2,o1),(3,.c [.row .str])],4⟩
def x0:List Spec:=[⟨[fs 98 [.q 130341,.b 1,.q 8147,.z 2036,.b 0,.q 255] [(8,.ptr 0 0),(9,.s),(10,.w)]],[(0,o0)],1⟩,⟨[fs 98 [.q 255] [(3,.s),(4,.ptr 0 0),(8,.ptr 1 0),(14,.ptr 2 0)]],[(0,o0),(1,.c [.b,.CW]),(2,o1),(3,.c [.row .str])],4⟩]
abbrev A0:Type:=LI×Int×Bool×(List (List Int×(List LI×(List Int×List Int))))×Bool×LI×LI×LI×LL×Unit
abbrev B0:Type:=(LI×Int×Bool×(List (List Int×(List LI×(List Int×List Int))))×Unit) ⊕ (LI×Bool×(List (List Int×(List LI×(List Int×List Int))))×Bool×LI×LI×LI×LL×Unit)
def b0(self:A0->Option B0):A0->Option B0:=fun v_=>match v_ with
|(plain,i,m,m1,m2,m3,m4,m5,m6,())=>
 bif wB (m1.length:Int)then
 bif decide (i<(m1.length:Int))then
  bif inB i (m1.length:Int)then
  (Og.run m_ ((m3,(m6,(m4,m5))),(rd Pj m1 i),())).bind fun r=>
  bif r then
   bif inB i (m1.length:Int)then
   some (.inl ((((rd Pj m1 i).2).2).2,0,m,m1,()))else none
  else
   self (plain,(ahw.wrap (i+1)),m,m1,m2,m3,m4,m5,m6,())else none
 else
  some (.inr (plain,m,m1,m2,m3,m4,m5,m6,()))else none
theorem k0:KQ 98 (O m_) [] e0 x0 [] (b0 m_):=fun _ _=>by kernel_rfl
def l0:=loop m_ (b0 m_)
theorem q0(v):l0 .lim v=b0 .lim (l0 .lim) v:=KS.q (k0 .lim) v
def s0:=so m_ (k0 m_)
def run:QY×(List Int)×(List (List Int))×(List Int)×Unit->Option (QY×(List Int)×Int×Unit):=fun v_=>match v_ with
|(v,key,ad,plain,())=>
 bif !v.1 then
  (P_.run m_ (key,ad,plain,())).bind fun (r,r1,())=>
  some (v,r,r1,())
 else
  bif wB (plain.length:Int)then
  (OA.run m_ (key,ad,(plain.length:Int),())).bind fun r2=>
  bif !(decide (r2=0))then
   some (v,([]:List Int),r2,())
  else
   bif decide (ad.length<4398046511104)then
   (NW.l0 m_ (plain,0,v.1,v.2,false,key,plain,([]:List Int),ad,())).bind fun g_=>match g_ with
   | .inl (t,t1,m,m1,())=>
    some ((m,m1),t,t1,())
   | .inr (XR,m2,m3,m4,m5,m6,m7,m8,())=>
    bif wB (m3.length:Int)then
    bif decide ((m3.length:Int)>=2048)then
     some ((m2,m3),([]:List Int),18,())
    else
     bif wB (m3.length:Int)then
     (NY.run m_ ((ahw.wrap ((m3.length:Int)+1)),XR,())).bind fun r3=>
     bif decide (m3.length<977343669134)then
     bif decide (m3.length+([(m5,(m8,(m6,r3)))]:List SX).length<977343669134)then
     some ((m2,(m3++([(m5,(m8,(m6,r3)))]:List SX))),r3,0,())else none else none else none else none else none else none
theorem k:KT (O m_) [] ⟨98,[.ag Q7,.one .str,.one (.lst .str),.one .str],.gG [.sh (.ag Q7),.sh (.one .str),.sh (.one (.int .i64))],run m_⟩ [s0 m_]:=fun _=>by kernel_rfl
def c:=co (k m_)
end NW

namespace PE
def O(m_:Dq):OO P:=lI []
def run(m_:Dq):Int×Unit->Option (List Int):=fun v_=>match v_ with
|(n,())=>
 some ([(ahy.wrap (ahw.wrap (n.tdiv 256))),(ahy.wrap (n.tmod 256))]:List Int)
theorem k:KT (O m_) [] ⟨122,[.one (.int .i64)],.one (.sh (.one .str)),run m_⟩ []:=fun _=>by kernel_rfl
def c:=co (k m_)
end PE

namespace NJ
def O(m_:Dq):OO P:=lI []
def e0:Spec:=⟨[fs 123 [.q 24,.z 24,.b 0,.q 7] [(0,.s)]],[],0⟩
def x0:List Spec:=[⟨[fs 123 [.q 7] [(0,.s)]],[],0⟩]
abbrev A0:Type:=LI×Unit
abbrev B0:Type:=(LI×Unit)
def b0(m_:Dq)(self:A0->Option B0):A0->Option B0:=fun v_=>match v_ with
|(s,())=>
 bif wB (s.length:Int)then
 bif !(decide (((s.length:Int).tmod 4)=0))then
  bif decide (s.length+([0]:List Int).length<=maxStr)then
  self ((s++([0]:List Int)),())else none
 else
  some (s,())else none
theorem k0:KQ 123 (O m_) [] e0 x0 [] (b0 m_):=fun _ _=>by kernel_rfl
def l0:=loop m_ (b0 m_)
theorem q0(v):l0 .lim v=b0 .lim (l0 .lim) v:=KS.q (k0 .lim) v
def s0:=so m_ (k0 m_)
def run:(List Int)×Unit->Option (List Int):=fun v_=>match v_ with
|(s,())=>
 (NJ.l0 m_ (s,())).bind fun (s1,())=>
 some s1
theorem k:KT (O m_) [] ⟨123,[.one .str],.one (.sh (.one .str)),run m_⟩ [s0 m_]:=fun _=>by kernel_rfl
def c:=co (k m_)
end NJ

namespace Qb
def O:OO P:=lI [NW.c m_,Nw.c m_,PE.c m_,NJ.c m_]
def run:QY×(List Int)×(List Int)×(List Int)×(List (Int×List Int))×Unit->Option (QY×(Int×List Int)×Int×Unit):=fun v_=>match v_ with
|(v,key,MS,ahead,inner,())=>
 bif wB (MS.length:Int)then
 bif !(decide ((MS.length:Int)=16))then
  some (v,(0,([]:List Int)),10,())
 else
  bif wB (ahead.length:Int)then
  bif decide ((ahead.length:Int)>1280)then
   some (v,(0,([]:List Int)),12,())
  else
   (Nw.run m_ (inner,())).bind fun (r,r1,())=>
   bif !(decide (r1=0))then
    some (v,(0,([]:List Int)),r1,())
   else
    (NW.run m_ (v,key,([ahead,MS]:List (List Int)),r,())).bind fun (r2,r3,r4,())=>
    bif !(decide (r4=0))then
     some (v,(0,([]:List Int)),r4,())
    else
     (PE.run m_ (16,())).bind fun r5=>
     bif wB (r3.length:Int)then
     (PE.run m_ ((r3.length:Int),())).bind fun r6=>
     bif decide (r5.length+r6.length<=maxStr)then
     bif decide ((r5++r6).length+MS.length<=maxStr)then
     (NJ.run m_ (r3,())).bind fun r7=>
     bif decide (((r5++r6)++MS).length+r7.length<=maxStr)then
     some (r2,(1028,(((r5++r6)++MS)++r7)),0,())else none else none else none else none else none else none
theorem k:KT (O m_) [] ⟨81,[.ag Q7,.one .str,.one .str,.one .str,.one Qr],.gG [.sh (.ag Q7),.sh (.ag Xp),.sh (.one (.int .i64))],run m_⟩ []:=fun _=>by kernel_rfl
def c:=co (k m_)
end Qb

namespace Qc
def O:OO P:=lI [Nk.c m_,OL.c m_,Qb.c m_]
def run:QY×DT5×(List Int)×(List Int)×(List (Int×List Int))×Unit->Option (QY×(List Int)×Int×Unit):=fun v_=>match v_ with
|(v,p,key,MS,inner,())=>
 (Nk.run m_ (p.2.2.2.2.2.2.2.2.2.2.2.2.2,1028,())).bind fun r=>
 bif wB (r.length:Int)then
 bif decide ((r.length:Int)>0)then
  some (v,([]:List Int),23,())
 else
  (OL.run m_ (p,())).bind fun (r1,r2,())=>
  bif !(decide (r2=0))then
   some (v,([]:List Int),r2,())
  else
   (Qb.run m_ (v,key,MS,r1,inner,())).bind fun (r3,r4,r5,())=>
   bif !(decide (r5=0))then
    some (v,([]:List Int),r5,())
   else
    bif decide (p.2.2.2.2.2.2.2.2.2.2.2.2.2.length<2932031007402)then
    bif decide (p.2.2.2.2.2.2.2.2.2.2.2.2.2.length+([r4]:List (Int×List Int)).length<2932031007402)then
    (OL.run m_ ((p.1,(p.2.1,(p.2.2.1,(p.2.2.2.1,(p.2.2.2.2.1,(p.2.2.2.2.2.1,(p.2.2.2.2.2.2.1,(p.2.2.2.2.2.2.2.1,(p.2.2.2.2.2.2.2.2.1,(p.2.2.2.2.2.2.2.2.2.1,(p.2.2.2.2.2.2.2.2.2.2.1,(p.2.2.2.2.2.2.2.2.2.2.2.1,(p.2.2.2.2.2.2.2.2.2.2.2.2.1,(p.2.2.2.2.2.2.2.2.2.2.2.2.2++([r4]:List (Int×List Int)))))))))))))))),())).bind fun (r6,r7,())=>
    bif !(decide (r7=0))then
     some (v,([]:List Int),r7,())
    else
     some (r3,r6,0,())else none else none else none
theorem k:KT (O m_) [] ⟨43,[.ag Q7,.ag W_,.one .str,.one .str,.one Qr],.gG [.sh (.ag Q7),.sh (.one .str),.sh (.one (.int .i64))],run m_⟩ []:=fun _=>by kernel_rfl
def c:=co (k m_)
end Qc

end
end Go.AM
end
