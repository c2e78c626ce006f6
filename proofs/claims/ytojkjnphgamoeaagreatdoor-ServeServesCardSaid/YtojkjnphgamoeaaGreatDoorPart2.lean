import Derived.Test.YtojkjnphgamoeaaGreatDoorPart1
import Derived.Test.YtojkjnphgamoeaaGreatDoorProg
import Derived.Shelf.Strings.Repeat

/-! The functions that the laws of this seat reach, as plain functions, and what these answer; no condition. -/
set_option linter.unusedSimpArgs false
set_option linter.unusedVariables false
set_option linter.unusedSectionVars false

open Go.Extern.AbiNoEscape renaming same->ahf
open Go.IntKind renaming i64->ag3,u8->ag5,u64->ag6,u32->ag7,i32->ag8,i8->ahn
open Go.Lib renaming byteCells->ahg
open Go.Oper renaming upon_value->aha
open Go.Proofs.Any renaming strings_Trim_laid->ahc,strings_Repeat->ahe
open Go.Proofs.Builder renaming Extra->ahh
open Go.Proofs.Lays renaming n105->ahi,n160->ahj,n169->ahk,n170->ahl
open Go.Result renaming andThen->ahb
open Go.Shelf renaming Ren->ahd
open List renaming replicate->ag4
open Nat renaming ble->ag9,blt->ahm
open Option renaming map_eq_some_iff->ag_
section
namespace Go.Proofs
def Tryz.lays105_ren:ahd:=⟨fun|105=>142|212=>156|99=>157|165=>158|166=>126|170=>125|169=>128|263=>163|264=>164|206=>165|240=>147|241=>166|276=>162|277=>171|n=>n,fun|9=>9|3=>3|4=>4|20=>20|0=>0|46=>115|109=>245|5=>5|72=>216|76=>219|51=>26|146=>252|53=>29|148=>254|70=>214|37=>43|75=>218|127=>237|164=>250|80=>221|n=>n,fun|n=>n⟩
theorem Tryz.lays105:ahi Tryz.prog Tryz.lays105_ren:= {
  mixed:=by kernel_rfl
  f99:=Tryz.func157.trans (congrArg some (by kernel_rfl))
  f105:=Tryz.func142.trans (congrArg some (by kernel_rfl))
  f165:=Tryz.func158.trans (congrArg some (by kernel_rfl))
  f166:=Tryz.func126.trans (congrArg some (by kernel_rfl))
  f169:=Tryz.func128.trans (congrArg some (by kernel_rfl))
  f170:=Tryz.func125.trans (congrArg some (by kernel_rfl))
  f206:=Tryz.func165.trans (congrArg some (by kernel_rfl))
  f212:=Tryz.func156.trans (congrArg some (by kernel_rfl))
  f240:=Tryz.func147.trans (congrArg some (by kernel_rfl))
  f241:=Tryz.func166.trans (congrArg some (by kernel_rfl))
  f263:=Tryz.func163.trans (congrArg some (by kernel_rfl))
  f264:=Tryz.func164.trans (congrArg some (by kernel_rfl))
  f276:=Tryz.func162.trans (congrArg some (by kernel_rfl))
  f277:=Tryz.func171.trans (congrArg some (by kernel_rfl))
  t0:=Tryz.underlying0
  a0:=Tryz.isAgg0
  z0:=Tryz.sizeOf0
  v0:=Tryz.zeroValue0
  t3:=Tryz.underlying3
  a3:=Tryz.isAgg3
  z3:=Tryz.sizeOf3
  v3:=Tryz.zeroValue3
  t4:=Tryz.underlying4
  a4:=Tryz.isAgg4
  z4:=Tryz.sizeOf4
  v4:=Tryz.zeroValue4
  t5:=Tryz.underlying5
  a5:=Tryz.isAgg5
  z5:=Tryz.sizeOf5
  v5:=Tryz.zeroValue5
  t9:=Tryz.underlying9
  a9:=Tryz.isAgg9
  z9:=Tryz.sizeOf9
  v9:=Tryz.zeroValue9
  t20:=Tryz.underlying20
  a20:=Tryz.isAgg20
  z20:=Tryz.sizeOf20
  v20:=Tryz.zeroValue20
  t37:=Tryz.underlying43
  a37:=Tryz.isAgg43
  z37:=Tryz.sizeOf43
  v37:=Tryz.zeroValue43
  t46:=Tryz.underlying115
  a46:=Tryz.isAgg115
  z46:=Tryz.sizeOf115
  v46:=Tryz.zeroValue115
  t51:=Tryz.underlying26
  a51:=Tryz.isAgg26
  z51:=Tryz.sizeOf26
  v51:=Tryz.zeroValue26
  t53:=Tryz.underlying29
  a53:=Tryz.isAgg29
  z53:=Tryz.sizeOf29
  v53:=Tryz.zeroValue29
  t70:=Tryz.underlying214
  a70:=Tryz.isAgg214
  z70:=Tryz.sizeOf214
  v70:=Tryz.zeroValue214
  t72:=Tryz.underlying216
  a72:=Tryz.isAgg216
  z72:=Tryz.sizeOf216
  v72:=Tryz.zeroValue216
  t75:=Tryz.underlying218
  a75:=Tryz.isAgg218
  z75:=Tryz.sizeOf218
  v75:=Tryz.zeroValue218
  t76:=Tryz.underlying219
  a76:=Tryz.isAgg219
  z76:=Tryz.sizeOf219
  v76:=Tryz.zeroValue219
  t109:=Tryz.underlying245
  a109:=Tryz.isAgg245
  z109:=Tryz.sizeOf245
  v109:=Tryz.zeroValue245
  t127:=Tryz.underlying237
  a127:=Tryz.isAgg237
  z127:=Tryz.sizeOf237
  v127:=Tryz.zeroValue237
  t146:=Tryz.underlying252
  a146:=Tryz.isAgg252
  z146:=Tryz.sizeOf252
  v146:=Tryz.zeroValue252
  t148:=Tryz.underlying254
  a148:=Tryz.isAgg254
  z148:=Tryz.sizeOf254
  v148:=Tryz.zeroValue254
  t164:=Tryz.underlying250
  a164:=Tryz.isAgg250
  z164:=Tryz.sizeOf250
  v164:=Tryz.zeroValue250}
theorem Tryz.Builder_Extra_105:ahh Tryz.prog Tryz.lays105_ren:= {
  sizeBuilder:=by kernel_rfl
  liesBuilder:=by kernel_rfl
  t5:=Tryz.underlying5
  a5:=Tryz.isAgg5
  z5:=Tryz.sizeOf5
  v5:=Tryz.zeroValue5
  infoByte:=by kernel_rfl
  cellsByte:=by kernel_rfl
  sizeByte:=by kernel_rfl
  neB5:=by decide}
def Tryz.lays160_ren:ahd:=⟨fun|160=>97|232=>119|231=>118|227=>120|234=>122|233=>121|236=>124|235=>123|228=>143|271=>146|151=>145|197=>144|120=>161|152=>160|260=>159|137=>167|119=>168|224=>169|225=>170|217=>172|266=>173|n=>n,fun|9=>9|4=>4|3=>3|5=>5|117=>210|116=>209|0=>0|124=>213|21=>21|105=>234|46=>115|119=>256|139=>259|138=>258|n=>n,fun|3=>0|4=>1|n=>n⟩
theorem Tryz.lays160:ahj Tryz.prog Tryz.lays160_ren:= {
  mixed:=by kernel_rfl
  f119:=Tryz.func168.trans (congrArg some (by kernel_rfl))
  f120:=Tryz.func161.trans (congrArg some (by kernel_rfl))
  f137:=Tryz.func167.trans (congrArg some (by kernel_rfl))
  f151:=Tryz.func145.trans (congrArg some (by kernel_rfl))
  f152:=Tryz.func160.trans (congrArg some (by kernel_rfl))
  f160:=Tryz.func97.trans (congrArg some (by kernel_rfl))
  f197:=Tryz.func144.trans (congrArg some (by kernel_rfl))
  f217:=Tryz.func172.trans (congrArg some (by kernel_rfl))
  f224:=Tryz.func169.trans (congrArg some (by kernel_rfl))
  f225:=Tryz.func170.trans (congrArg some (by kernel_rfl))
  f227:=Tryz.func120.trans (congrArg some (by kernel_rfl))
  f228:=Tryz.func143.trans (congrArg some (by kernel_rfl))
  f231:=Tryz.func118.trans (congrArg some (by kernel_rfl))
  f232:=Tryz.func119.trans (congrArg some (by kernel_rfl))
  f233:=Tryz.func121.trans (congrArg some (by kernel_rfl))
  f234:=Tryz.func122.trans (congrArg some (by kernel_rfl))
  f235:=Tryz.func123.trans (congrArg some (by kernel_rfl))
  f236:=Tryz.func124.trans (congrArg some (by kernel_rfl))
  f260:=Tryz.func159.trans (congrArg some (by kernel_rfl))
  f266:=Tryz.func173.trans (congrArg some (by kernel_rfl))
  f271:=Tryz.func146.trans (congrArg some (by kernel_rfl))
  t0:=Tryz.underlying0
  a0:=Tryz.isAgg0
  z0:=Tryz.sizeOf0
  v0:=Tryz.zeroValue0
  t3:=Tryz.underlying3
  a3:=Tryz.isAgg3
  z3:=Tryz.sizeOf3
  v3:=Tryz.zeroValue3
  t4:=Tryz.underlying4
  a4:=Tryz.isAgg4
  z4:=Tryz.sizeOf4
  v4:=Tryz.zeroValue4
  t5:=Tryz.underlying5
  a5:=Tryz.isAgg5
  z5:=Tryz.sizeOf5
  v5:=Tryz.zeroValue5
  t9:=Tryz.underlying9
  a9:=Tryz.isAgg9
  z9:=Tryz.sizeOf9
  v9:=Tryz.zeroValue9
  t21:=Tryz.underlying21
  a21:=Tryz.isAgg21
  z21:=Tryz.sizeOf21
  v21:=Tryz.zeroValue21
  t46:=Tryz.underlying115
  a46:=Tryz.isAgg115
  z46:=Tryz.sizeOf115
  v46:=Tryz.zeroValue115
  t105:=Tryz.underlying234
  a105:=Tryz.isAgg234
  z105:=Tryz.sizeOf234
  v105:=Tryz.zeroValue234
  t116:=Tryz.underlying209
  a116:=Tryz.isAgg209
  z116:=Tryz.sizeOf209
  t117:=Tryz.underlying210
  a117:=Tryz.isAgg210
  z117:=Tryz.sizeOf210
  v117:=Tryz.zeroValue210
  t119:=Tryz.underlying256
  a119:=Tryz.isAgg256
  z119:=Tryz.sizeOf256
  t124:=Tryz.underlying213
  a124:=Tryz.isAgg213
  z124:=Tryz.sizeOf213
  v124:=Tryz.zeroValue213
  t138:=Tryz.underlying258
  a138:=Tryz.isAgg258
  z138:=Tryz.sizeOf258
  v138:=Tryz.zeroValue258
  t139:=Tryz.underlying259
  a139:=Tryz.isAgg259
  z139:=Tryz.sizeOf259
  v139:=Tryz.zeroValue259
  g3:=by kernel_rfl
  g4:=by kernel_rfl}
end Go.Proofs
section
set_option maxRecDepth 100000
namespace Go.Proofs
open Go.Shelf Go.RowKit
def Tryz.bld_ren:ahd:=⟨fun|166=>126|169=>128|170=>125|240=>147|n=>n,fun|70=>214|9=>9|0=>0|72=>216|37=>43|127=>237|3=>3|5=>5|4=>4|20=>20|46=>115|109=>245|76=>219|51=>26|146=>252|53=>29|148=>254|75=>218|164=>250|80=>221|n=>n,fun|n=>n⟩
theorem Tryz.bld169:ahk Tryz.prog Tryz.bld_ren:= {
  mixed:=by kernel_rfl
  f169:=Tryz.func128.trans (congrArg some (by kernel_rfl))
  t0:=Tryz.underlying0
  a0:=Tryz.isAgg0
  z0:=Tryz.sizeOf0
  v0:=Tryz.zeroValue0
  t3:=Tryz.underlying3
  a3:=Tryz.isAgg3
  z3:=Tryz.sizeOf3
  v3:=Tryz.zeroValue3
  t9:=Tryz.underlying9
  a9:=Tryz.isAgg9
  z9:=Tryz.sizeOf9
  v9:=Tryz.zeroValue9
  t37:=Tryz.underlying43
  a37:=Tryz.isAgg43
  z37:=Tryz.sizeOf43
  v37:=Tryz.zeroValue43
  t70:=Tryz.underlying214
  a70:=Tryz.isAgg214
  z70:=Tryz.sizeOf214
  v70:=Tryz.zeroValue214
  t72:=Tryz.underlying216
  a72:=Tryz.isAgg216
  z72:=Tryz.sizeOf216
  v72:=Tryz.zeroValue216
  t127:=Tryz.underlying237
  a127:=Tryz.isAgg237
  z127:=Tryz.sizeOf237
  v127:=Tryz.zeroValue237}
theorem Tryz.bld170:ahl Tryz.prog Tryz.bld_ren:= {
  mixed:=by kernel_rfl
  f170:=Tryz.func125.trans (congrArg some (by kernel_rfl))
  t0:=Tryz.underlying0
  a0:=Tryz.isAgg0
  z0:=Tryz.sizeOf0
  v0:=Tryz.zeroValue0
  t3:=Tryz.underlying3
  a3:=Tryz.isAgg3
  z3:=Tryz.sizeOf3
  v3:=Tryz.zeroValue3
  t37:=Tryz.underlying43
  a37:=Tryz.isAgg43
  z37:=Tryz.sizeOf43
  v37:=Tryz.zeroValue43
  t70:=Tryz.underlying214
  a70:=Tryz.isAgg214
  z70:=Tryz.sizeOf214
  v70:=Tryz.zeroValue214
  t72:=Tryz.underlying216
  a72:=Tryz.isAgg216
  z72:=Tryz.sizeOf216
  v72:=Tryz.zeroValue216}
theorem Tryz.bldX:ahh Tryz.prog Tryz.bld_ren:= {
  sizeBuilder:=by kernel_rfl
  liesBuilder:=by kernel_rfl
  t5:=Tryz.underlying5
  a5:=Tryz.isAgg5
  z5:=Tryz.sizeOf5
  v5:=Tryz.zeroValue5
  infoByte:=by kernel_rfl
  cellsByte:=by kernel_rfl
  sizeByte:=by kernel_rfl
  neB5:=by decide}
theorem Tryz.bld166:Tryz.prog.funcs[Tryz.bld_ren.f 166]?=some (Body.n166 Tryz.bld_ren):=Tryz.func126.trans (congrArg some (by kernel_rfl))
theorem Tryz.bld240: ∀args w,(callFunc (Tryz.bld_ren.f 240) args).run Tryz.prog w= .ok (.enter (Tryz.bld_ren.f 240) args) w:=enters_of Tryz.func147 (by kernel_rfl) rfl
set_option maxHeartbeats 1000000 in
theorem Tryz.bld_used(b:Nat)(w:World)(h0:w.cell? ⟨b,0,none⟩=some (.pointer (some ⟨b,0,none⟩))):
    Calls Tryz.prog 147 #[.pointer (some ⟨b,0,none⟩)] w fun e w'=>e= .returned (.tuple #[])/\w'=w:=by
  obtain⟨j,hj,hjs⟩:=ag_.1 Tryz.bldX.sizeBuilder;have hj:Tryz.prog.info? 216=some j:=hj;have mixed:=Tryz.bld169.mixed;have t72:=Tryz.underlying216;have a72:=Tryz.isAgg216;have z72:=Tryz.sizeOf216;have v72:=Tryz.zeroValue216;have u72:=run_underlying Tryz.underlying216;have t70:=Tryz.underlying214;have a70:=Tryz.isAgg214;have z70:=Tryz.sizeOf214;have v70:=Tryz.zeroValue214;have u70:=run_underlying Tryz.underlying214;have t9:=Tryz.underlying9;have a9:=Tryz.isAgg9;have z9:=Tryz.sizeOf9;have v9:=Tryz.zeroValue9;have u9:=run_underlying Tryz.underlying9;have t4:=Tryz.underlying4;have a4:=Tryz.isAgg4;have z4:=Tryz.sizeOf4;have v4:=Tryz.zeroValue4;have u4:=run_underlying Tryz.underlying4;have t164:=Tryz.underlying250;have a164:=Tryz.isAgg250;have z164:=Tryz.sizeOf250;have v164:=Tryz.zeroValue250;have u164:=run_underlying Tryz.underlying250
  go_enter Tryz.func147,(show Tryz.f147.ntmps=20 by kernel_rfl)
  go_wp2
  rw[Lib.run_neq_ptr_same w _ t70 hj]
  go_wp2
  go_end0
  exact⟨rfl,rfl⟩
set_option maxHeartbeats 1000000 in
theorem Tryz.bld_fresh(b:Nat)(w:World)(h0:w.cell? ⟨b,0,none⟩=some (.pointer none))(hsh:w.shape? b=some (216,2))(hfz:w.frozen? ⟨b,0,none⟩=false):
    Calls Tryz.prog 147 #[.pointer (some ⟨b,0,none⟩)] w fun e w'=>e= .returned (.tuple #[])/\w'=w.setCell ⟨b,0,none⟩ (.pointer (some ⟨b,0,none⟩)):=by
  obtain⟨j,hj,hjs⟩:=ag_.1 Tryz.bldX.sizeBuilder;have hj:Tryz.prog.info? 216=some j:=hj;have mixed:=Tryz.bld169.mixed;have t72:=Tryz.underlying216;have a72:=Tryz.isAgg216;have z72:=Tryz.sizeOf216;have v72:=Tryz.zeroValue216;have u72:=run_underlying Tryz.underlying216;have t70:=Tryz.underlying214;have a70:=Tryz.isAgg214;have z70:=Tryz.sizeOf214;have v70:=Tryz.zeroValue214;have u70:=run_underlying Tryz.underlying214;have t9:=Tryz.underlying9;have a9:=Tryz.isAgg9;have z9:=Tryz.sizeOf9;have v9:=Tryz.zeroValue9;have u9:=run_underlying Tryz.underlying9;have t4:=Tryz.underlying4;have a4:=Tryz.isAgg4;have z4:=Tryz.sizeOf4;have v4:=Tryz.zeroValue4;have u4:=run_underlying Tryz.underlying4;have t164:=Tryz.underlying250;have a164:=Tryz.isAgg250;have z164:=Tryz.sizeOf250;have v164:=Tryz.zeroValue250;have u164:=run_underlying Tryz.underlying250
  go_enter Tryz.func147,(show Tryz.f147.ntmps=20 by kernel_rfl)
  go_wp2
  rw[Lib.run_to_unsafe w ⟨b,0,none⟩ t70 t164 hj (by rw[hjs];decide) hsh (Nat.zero_lt_succ 1)];simp only[ahb];rw[aha]
  go_wp2
  rw[run_callFunc_extern Tryz.func162 (by kernel_rfl) (by kernel_rfl) (by kernel_rfl) (e:=ahf) (by kernel_rfl)];rw[Lib.run_noEscape];simp only[ahb];rw[aha]
  go_wp2
  rw[Lib.run_from_unsafe w ⟨b,0,none⟩ t164 t70 hj hsh Tryz.bldX.liesBuilder];simp only[ahb];rw[aha]
  go_wp2
  go_end0
  exact⟨rfl,rfl⟩
open Go.AM in
theorem Tryz.bld_cc(b:Nat)(v:Value)(bs:List Value)(w:World)(h:sH 216 5 b v bs w):Calls Tryz.prog 147 #[.pointer (some ⟨b,0,none⟩)] w (Bz 216 5 b v bs w):=Lp h (fun h1 h2 h3=>Tryz.bld_fresh b w h1 h2 h3) (fun h1=>Tryz.bld_used b w h1)
open Go.AM in
theorem Tryz.bld_ws(b:Nat)(v:Value)(bs:List Value)(s:ByteArray)(w:World)(h:sH 216 5 b v bs w)(hlen:bs.length+s.size<=140737488355328):
    Calls Tryz.prog 126 #[.pointer (some ⟨b,0,none⟩),.string s] w fun e w'=>e= .returned (.tuple #[.int .i64 s.size,.nilIface])/\Only b v.ownBlock w w'/\ ∃v',sH 216 5 b v' (bs++Lib.strCells s) w'/\ ∀k,v'.ownBlock=some k->v.ownBlock=some k\/w.heap.size<=k:=
  Fe (ρ:=Tryz.bld_ren) Tryz.bld169 Tryz.bldX Tryz.bld166 Tryz.bld240 Tryz.bld_cc b v bs s w h hlen
open Go.AM in
theorem Tryz.bld_str(b:Nat)(v:Value)(l:List UInt8)(w:World)(h:sH 216 5 b v (ahg l) w):
    Calls Tryz.prog 128 #[.pointer (some ⟨b,0,none⟩)] w fun e w'=>e= .returned (.string ⟨l.toArray⟩)/\Only b v.ownBlock w w'/\sH 216 5 b v (ahg l) w':=IV (ρ:=Tryz.bld_ren) Tryz.bld169 Tryz.bldX b v l w h
open Go.AM in
theorem Tryz.bld_len(b:Nat)(v:Value)(bs:List Value)(w:World)(h:sH 216 5 b v bs w):
    Calls Tryz.prog 125 #[.pointer (some ⟨b,0,none⟩)] w fun e w'=>e= .returned (.int .i64 bs.length)/\w'=w:=Kr (ρ:=Tryz.bld_ren) Tryz.bld170 b v bs w h
end Go.Proofs
end
section
set_option maxRecDepth 100000
namespace Go.Proofs
open Go.Shelf Go.RowKit
set_option maxHeartbeats 1000000 in
theorem Tryz.uq(b:Nat)(s:ByteArray)(w:World)(h:w.cell? ⟨b,26,none⟩=some (.string s)):
    Calls Tryz.prog 77 #[.pointer (some ⟨b,0,none⟩)] w fun e w'=>e= .returned (.slice (some ⟨w.heap.size,0,none⟩) 1 1)/\w'=w.alloc (.cells #[.int .i64 260,.string s] 41):=by
  go_enter Tryz.func77,(show Tryz.f77.ntmps=10 by kernel_rfl)
  go_wp2
  go_ret
  exact⟨rfl,rfl⟩
end Go.Proofs
end
namespace Go.AM
open Go.Proofs
noncomputable abbrev P:=Tryz.prog
instance tb:Tabs:=Tabs.nil
universe u
theorem an{α:Type u}{p:α->Prop}: ∀k∈([]:List α),p k:=fun k h=>nomatch h
theorem ac{α:Type u}{p:α->Prop}{a:α}{l:List α}(h:p a)(k: ∀x∈l,p x): ∀x∈a::l,p x:=fun x hx=>by
  rcases List.mem_cons.1 hx with rfl|hx
  · exact h
  · exact k x hx
set_option maxRecDepth 100000
set_option linter.unusedVariables false
noncomputable section
variable (m_:Dq)
def afd:BK:=⟨216,5,126,128,125⟩
theorem adK:afd.OK P:=⟨by kernel_rfl,by kernel_rfl,by kernel_rfl,Go.Proofs.Tryz.bld_ws,Go.Proofs.Tryz.bld_str,Go.Proofs.Tryz.bld_len⟩
def uqK:UK:=⟨77,41,26,260⟩
theorem ae_:uqK.OK P:=⟨by kernel_rfl,by decide,fun b s w h=>Go.Proofs.Tryz.uq b s w h⟩
abbrev tY0:Ty:= .pair .str .str
abbrev Wu:Ty:= .lst (.int .u8)
abbrev Zw:Ty:= .arr 4 (.int .u8)
abbrev UD:Ty:= .arr 16 (.int .u8)
abbrev tY4:Ty:= .arr 3 (.int .u32)
abbrev Ux:Ty:= .arr 256 (.int .u8)
abbrev tY6:Ty:= .lst Wu
abbrev tY7:Ty:= .pair .str (.int .i64)
abbrev Yb:Ty:= .pair (.int .i64) .str
abbrev tY9:Ty:= .pair .str tY0
abbrev ae8:Ty:= .pair (.int .u64) (.int .u64)
abbrev QG:Ty:= .lst Yb
abbrev Uu:Ty:= .arr 16 Ux
abbrev Yw:Ty:= .pair (.int .i64) tY0
abbrev afz:Ty:= .pair (.lst .str) tY0
abbrev afA:Ty:= .pair .str ae8
abbrev afB:Ty:= .pair (.int .u32) tY7
abbrev XF:Ty:= .pair .str afz
abbrev afC:Ty:= .pair (.int .u64) ae8
abbrev afD:Ty:= .pair (.int .u64) QG
abbrev XG:Ty:= .lst afB
abbrev afE:Ty:= .pair .str afA
abbrev Uw:Ty:= .lst XF
abbrev afF:Ty:= .pair .str afE
abbrev afG:Ty:= .pair (.int .u32) afC
abbrev Rz:Ty:= .pair .bool Uw
abbrev afH:Ty:= .pair (.int .u64) afD
abbrev Wv:Ty:= .pair XG (.int .u32)
abbrev afI:Ty:= .pair (.int .i64) afF
abbrev afJ:Ty:= .pair (.int .u32) afG
abbrev afK:Ty:= .pair (.int .u64) afH
abbrev afL:Ty:= .pair (.int .u32) afJ
abbrev afM:Ty:= .pair (.int .u64) afK
abbrev afN:Ty:= .pair (.int .i64) afL
abbrev afO:Ty:= .pair (.int .u32) afM
abbrev afP:Ty:= .pair (.int .u32) afO
abbrev afQ:Ty:= .pair (.int .i64) afN
abbrev afR:Ty:= .pair (.int .u32) afP
abbrev afS:Ty:= .pair (.int .i64) afR
abbrev afT:Ty:= .pair (.int .i64) afS
abbrev afU:Ty:= .pair (.int .i64) afT
abbrev aa8:Ty:= .pair Wv afQ
abbrev afV:Ty:= .pair (.int .i64) afU
abbrev afW:Ty:= .pair (.int .i64) afV
abbrev Yx:Ty:= .pair (.int .i64) afW
abbrev acu:Type:=(List Int×(List Int×List Int))
abbrev WQ:Type:=(List (Int×(List Int×Int))×Int)
abbrev TY:Type:=(List Int×(List (List Int)×(List Int×List Int)))
abbrev afb:Type:=(Int×(List Int×(List Int×(List Int×(Int×Int)))))
abbrev Rx:Type:=(Bool×List (List Int×(List (List Int)×(List Int×List Int))))
abbrev DT6:Type:=((List (Int×(List Int×Int))×Int)×(Int×(Int×(Int×(Int×(Int×(Int×(Int×Int))))))))
abbrev DT2:Type:=(Int×(Int×(Int×(Int×(Int×(Int×(Int×(Int×(Int×(Int×(Int×(Int×(Int×List (Int×List Int))))))))))))))
abbrev abv:(Bool×List (List Int×(List (List Int)×(List Int×List Int)))):=(false,([]:List (List Int×(List (List Int)×(List Int×List Int)))))
abbrev PL:(List Int×(List (List Int)×(List Int×List Int))):=(([]:List Int),(([]:List (List Int)),(([]:List Int),([]:List Int))))
abbrev WU:(List (Int×List Int)×List (Int×List Int)):=(([]:List (Int×List Int)),([]:List (Int×List Int)))
abbrev adN:(List Int×(List Int×List Int)):=(([]:List Int),(([]:List Int),([]:List Int)))
namespace QC
def O(m_:Dq):OO P:=lI []
def run(m_:Dq):(List Int)×Int×Unit->Option (WQ×Int×Unit):=fun v_=>match v_ with
|(key,now,())=>
 bif vZ (key.length:Int)then
 bif !(decide ((key.length:Int)=32))then
  some ((([]:List (Int×(List Int×Int))),0),10,())
 else
  some ((([(1,(key,now))]:List (Int×(List Int×Int))),2),0,())else none
theorem k:KT (O m_) [] ⟨30,[.one .str,.one (.int .i64)],.iF [.sh (.ag Wv),.sh (.one (.int .i64))],run m_⟩ []:=fun _=>by kernel_rfl
def c:=co (k m_)
end QC

namespace Om
def O(m_:Dq):OO P:=lI []
def e0:Spec:=⟨[fs 89 [.q 116,.z 116,.b 0,.q 15] [(0,.s),(3,.u),(6,.w),(7,.w)]],[],0⟩
def x0:List Spec:=[⟨[fs 89 [.q 15] [(3,.u)]],[],0⟩]
abbrev A0:Type:=LI×Int×Int×Int×Unit
abbrev B0:Type:=(Int×Unit)
def b0(m_:Dq)(self:A0->Option B0):A0->Option B0:=fun v_=>match v_ with
|(s,n,t,t1,())=>
 bif decide (t1<t)then
  bif inB t1 (s.length:Int)then
  self (s,(KY .u64 (Jd .u64 n 8) (ag6.wrap (rd 0 s t1))),t,(ag3.wrap (t1+1)),())else none
 else
  some (n,())
theorem k0:KQ 89 (O m_) [] e0 x0 [] (b0 m_):=fun _ _=>by kernel_rfl
def l0:=loop m_ (b0 m_)
theorem q0(v):l0 .lim v=b0 .lim (l0 .lim) v:=KS.q (k0 .lim) v
def s0:=so m_ (k0 m_)
def run:(List Int)×Unit->Option (Int):=fun v_=>match v_ with
|(s,())=>
 bif vZ (s.length:Int)then
 (Om.l0 m_ (s,0,(s.length:Int),0,())).bind fun (n,())=>
 some n else none
theorem k:KT (O m_) [] ⟨89,[.one .str],.one (.sh (.one (.int .u64))),run m_⟩ [s0 m_]:=fun _=>by kernel_rfl
def c:=co (k m_)
end Om

namespace OE
def O:OO P:=lI [Om.c m_]
def o0:dJ:= .c [.row Yb]
def f1:gG:=⟨88,[.inRange 3,.b 0,.q 15],[(2,.ptr 0 0),(3,.ptr 1 0),(4,.ptr 2 0)],none,[.mark 4],false⟩
def o2:dJ:= .c [.own 5 Yb]
def o3:dJ:= .loop .done (some .ret) 88 [(2,.ptr 0 0),(3,.ptr 1 0),(4,.ptr 2 0)] [9,10] (La 58) 4
def e0:Spec:=⟨[fs 141 [.q 4,.z 4,.b 0] [(0,.fn (.yield 0) []),(1,.ptr 1 0)],⟨88,[.inRange 0,.b 0,.q 15],[(2,.ptr 2 0),(3,.ptr 3 0),(4,.ptr 4 0)],none,[.mark 5],false⟩],[(0,.loop .ready none 88 [(2,.ptr 2 0),(3,.ptr 3 0),(4,.ptr 4 0)] [9,10] (La 58) 5),(1,.c [.s]),(2,.c [.CU]),(3,.c [.w]),(4,.c [.own 5000 Yb]),(5,.deferred false),(5000,o0)],5001⟩
def x0:List Spec:=[⟨[fs 141 [.q 1205,.q 151,.b 1,.z 4,.b 0] [],f1],[(0,.c [.CU]),(1,.c [.w]),(2,o2),(3,o3),(4,.deferred false),(5,o0)],6⟩,⟨[fs 141 [.q 2430,.b 1,.z 4,.b 0] [],f1],[(0,.c [.CU]),(1,.c [.w]),(2,o2),(3,o3),(4,.deferred false),(5,o0)],6⟩,⟨[fs 141 [] [],f1],[(0,.c [.CU]),(1,.c [.w]),(2,o2),(3,.loop .ready none 88 [(2,.ptr 0 0),(3,.ptr 1 0),(4,.ptr 2 0)] [9,10] (La 58) 4),(4,.deferred false),(5,o0)],6⟩]
abbrev A0:Type:=LI×Int×(List (Int×List Int))×Unit
abbrev B0:Type:=(Int×(List (Int×List Int))×Unit) ⊕ (Int×(List (Int×List Int))×Unit) ⊕ (Int×(List (Int×List Int))×Unit)
def b0(self:A0->Option B0):A0->Option B0:=fun v_=>match v_ with
|(m,m1,m2,())=>
 bif !(decide (m=([]:List Int)))then
  bif vZ (m.length:Int)then
  bif decide ((m.length:Int)>=4)then
   bif sS 2 4 (m.length:Int)then
   (Om.run m_ ((cut m 2 4),())).bind fun r=>
   bif((!(!((decide ((ag3.wrap r)<16))||(!(decide ((Jc .i64 (ag3.wrap r) 3)=0))))))||(vZ (m.length:Int)))then
   bif(((decide ((ag3.wrap r)<16))||(!(decide ((Jc .i64 (ag3.wrap r) 3)=0))))||(decide ((ag3.wrap r)>(m.length:Int))))then
    some (.inl (10,m2,()))
   else
    bif sS 0 2 (m.length:Int)then
    (Om.run m_ ((cut m 0 2),())).bind fun r1=>
    bif sS 4 (ag3.wrap r) (m.length:Int)then
    bif sS (ag3.wrap r) (m.length:Int) (m.length:Int)then
    bif vZ (m2.length:Int)then
    bif decide ((m2.length:Int)=16)then
     some (.inr (.inl (18,m2,())))
    else
     bif decide (m2.length+([((ag3.wrap r1),(cut m 4 (ag3.wrap r)))]:List (Int×List Int)).length<2932031007402)then
     self ((cut m (ag3.wrap r) (m.length:Int)),m1,(m2++([((ag3.wrap r1),(cut m 4 (ag3.wrap r)))]:List (Int×List Int))),())else none else none else none else none else none else none else none
  else
   some (.inl (10,m2,()))else none
 else
  some (.inr (.inr (m1,m2,())))
theorem k0:KQ 88 (O m_) [109] e0 x0 [] (b0 m_):=fun _ _=>by kernel_rfl
def l0:=loop m_ (b0 m_)
theorem q0(v):l0 .lim v=b0 .lim (l0 .lim) v:=KS.q (k0 .lim) v
def s0:=so m_ (k0 m_)
def run:(List Int)×Unit->Option ((List (Int×List Int))×Int×Unit):=fun v_=>match v_ with
|(s,())=>
 (OE.l0 m_ (s,0,([]:List (Int×List Int)),())).bind fun g_=>match g_ with
 | .inl (m,m1,())=>
  some (([]:List (Int×List Int)),m,())
 | .inr (.inl (m2,m3,()))=>
  some (([]:List (Int×List Int)),m2,())
 | .inr (.inr (m4,m5,()))=>
  some (m5,0,())
theorem k:KT (O m_) [109] ⟨88,[.one .str],.iF [.own Yb,.sh (.one (.int .i64))],run m_⟩ [s0 m_]:=fun _=>by kernel_rfl
def c:=co (k m_)
end OE

namespace RN
def O:OO P:=lI [OE.c m_,Om.c m_]
def run:(List Int)×Unit->Option (DT2×Int×Unit):=fun v_=>match v_ with
|(s,())=>
 bif vZ (s.length:Int)then
 bif decide ((s.length:Int)<48)then
  some ((0,(0,(0,(0,(0,(0,(0,(0,(0,(0,(0,(0,(0,([]:List (Int×List Int))))))))))))))),11,())
 else
  bif vZ (s.length:Int)then
  bif decide ((s.length:Int)>1280)then
   some ((0,(0,(0,(0,(0,(0,(0,(0,(0,(0,(0,(0,(0,([]:List (Int×List Int))))))))))))))),12,())
  else
   bif sS 48 (s.length:Int) (s.length:Int)then
   (OE.run m_ ((cut s 48 (s.length:Int)),())).bind fun (r,r1,())=>
   bif !(decide (r1=0))then
    some ((0,(0,(0,(0,(0,(0,(0,(0,(0,(0,(0,(0,(0,([]:List (Int×List Int))))))))))))))),r1,())
   else
    bif inB 0 (s.length:Int)then
    bif inB 0 (s.length:Int)then
    bif inB 0 (s.length:Int)then
    bif inB 1 (s.length:Int)then
    bif inB 2 (s.length:Int)then
    bif inB 3 (s.length:Int)then
    bif sS 4 8 (s.length:Int)then
    (Om.run m_ ((cut s 4 8),())).bind fun r2=>
    bif sS 8 12 (s.length:Int)then
    (Om.run m_ ((cut s 8 12),())).bind fun r3=>
    bif sS 12 16 (s.length:Int)then
    (Om.run m_ ((cut s 12 16),())).bind fun r4=>
    bif sS 16 24 (s.length:Int)then
    (Om.run m_ ((cut s 16 24),())).bind fun r5=>
    bif sS 24 32 (s.length:Int)then
    (Om.run m_ ((cut s 24 32),())).bind fun r6=>
    bif sS 32 40 (s.length:Int)then
    (Om.run m_ ((cut s 32 40),())).bind fun r7=>
    bif sS 40 48 (s.length:Int)then
    (Om.run m_ ((cut s 40 48),())).bind fun r8=>
    some (((ag3.wrap (Je .u8 (rd 0 s 0) 6)),((ag3.wrap (Jc .u8 (Je .u8 (rd 0 s 0) 3) 7)),((ag3.wrap (Jc .u8 (rd 0 s 0) 7)),((ag3.wrap (rd 0 s 1)),((ag3.wrap (ahn.wrap (rd 0 s 2))),((ag3.wrap (ahn.wrap (rd 0 s 3))),((ag7.wrap r2),((ag7.wrap r3),((ag7.wrap r4),(r5,(r6,(r7,(r8,r))))))))))))),0,())else none else none else none else none else none else none else none else none else none else none else none else none else none else none else none else none
theorem k:KT (O m_) [] ⟨71,[.one .str],.iF [.sh (.ag Yx),.sh (.one (.int .i64))],run m_⟩ []:=fun _=>by kernel_rfl
def c:=co (k m_)
end RN

namespace OM
def O(m_:Dq):OO P:=lI []
def e0:Spec:=⟨[fs 72 [.q 116,.z 116,.b 0,.q 15] [(1,.w),(5,.own 5001 (.int .i64)),(8,.dat QG),(9,.w),(10,.w)]],[(5001,.c [.row (.int .i64)])],5002⟩
def x0:List Spec:=[⟨[fs 72 [.q 15] [(5,.own 0 (.int .i64))]],[(0,.c [.row (.int .i64)])],1⟩]
abbrev A0:Type:=Int×(List (Int×List Int))×Int×Int×LI×Unit
abbrev B0:Type:=(LI×Unit)
def b0(m_:Dq)(self:A0->Option B0):A0->Option B0:=fun v_=>match v_ with
|(kind,t,t1,t2,m,())=>
 bif decide (t2<t1)then
  bif inB t2 (t.length:Int)then
  bif decide (((rd ((0:Int),([]:List Int)) t t2).1)=kind)then
   bif decide (m.length+([t2]:List Int).length<8796093022208)then
   self (kind,t,t1,(ag3.wrap (t2+1)),(m++([t2]:List Int)),())else none
  else
   self (kind,t,t1,(ag3.wrap (t2+1)),m,())else none
 else
  some (m,())
theorem k0:KQ 72 (O m_) [] e0 x0 [] (b0 m_):=fun _ _=>by kernel_rfl
def l0:=loop m_ (b0 m_)
theorem q0(v):l0 .lim v=b0 .lim (l0 .lim) v:=KS.q (k0 .lim) v
def s0:=so m_ (k0 m_)
def run:(List (Int×List Int))×Int×Unit->Option (List Int):=fun v_=>match v_ with
|(l,kind,())=>
 bif vZ (l.length:Int)then
 (OM.l0 m_ (kind,l,(l.length:Int),0,([]:List Int),())).bind fun (m,())=>
 some m else none
theorem k:KT (O m_) [] ⟨72,[.one QG,.one (.int .i64)],.one (.own (.int .i64)),run m_⟩ [s0 m_]:=fun _=>by kernel_rfl
def c:=co (k m_)
end OM

namespace RP
def O:OO P:=lI [OM.c m_]
def run:(List (Int×List Int))×Int×Unit->Option ((List Int)×Int×Unit):=fun v_=>match v_ with
|(l,kind,())=>
 (OM.run m_ (l,kind,())).bind fun r=>
 bif vZ (r.length:Int)then
 bif decide ((r.length:Int)=0)then
  some (([]:List Int),19,())
 else
  bif decide ((r.length:Int)=1)then
   bif inB 0 (r.length:Int)then
   bif inB (rd 0 r 0) (l.length:Int)then
   some ((rd ((0:Int),([]:List Int)) l (rd 0 r 0)).2,0,())else none else none
  else
   some (([]:List Int),24,())else none
theorem k:KT (O m_) [] ⟨73,[.one QG,.one (.int .i64)],.iF [.sh (.one .str),.sh (.one (.int .i64))],run m_⟩ []:=fun _=>by kernel_rfl
def c:=co (k m_)
end RP

namespace Px
def O:OO P:=lI [RN.c m_,OM.c m_,RP.c m_]
def o0:dJ:= .c [.w,.w,.w,.w,.w,.w,.dat (.int .u32),.dat (.int .u32),.dat (.int .u32),.u,.u,.u,.u,.CU,.s,.s,.w]
def o1:dJ:= .c [.w,.w,.w,.w,.w,.w,.dat (.int .u32),.dat (.int .u32),.dat (.int .u32),.u,.u,.u,.u,.dat QG,.s,.s,.w]
def e0:Spec:=⟨[fs 41 [.q 16372,.z 16372,.b 1,.q 2047] [(2,.ptr 0 0),(6,.dat QG),(8,.ptr 1 0),(83,.own 2 (.int .i64)),(84,.w),(85,.w)]],[(0,o0),(1,o1),(2,.c [.row (.int .i64)])],3⟩
def x0:List Spec:=[⟨[fs 41 [.q 2047] [(2,.ptr 0 0),(8,.ptr 1 0)]],[(0,o0),(1,o1)],2⟩]
abbrev A0:Type:=(List (Int×List Int))×Int×Int×Int×Int×Int×Int×Int×Int×Int×Int×Int×Int×Int×Int×Int×LI×LI×Int×Int×Int×Int×Int×Int×Int×Int×Int×Int×Int×Int×Int×Int×(List (Int×List Int))×LI×LI×Int×LI×Unit
abbrev B0:Type:=(Int×Int×Int×Int×Int×Int×Int×Int×Int×Int×Int×Int×Int×LI×LI×Int×Int×Int×Int×Int×Int×Int×Int×Int×Int×Int×Int×Int×Int×(List (Int×List Int))×LI×LI×Int×Unit)
def b0(m_:Dq)(self:A0->Option B0):A0->Option B0:=fun v_=>match v_ with
|(l,t,t1,m,m1,m2,m3,m4,m5,m6,m7,m8,m9,m10,m11,m12,m13,m14,m15,m16,m17,m18,m19,m20,m21,m22,m23,m24,Uf,TS,Uz,TT,Ul,Vx,VN,m32,Vo,())=>
 bif decide (t1<t)then
  bif inB t1 (Vo.length:Int)then
  bif inB (rd 0 Vo t1) (l.length:Int)then
  bif vZ (((rd ((0:Int),([]:List Int)) l (rd 0 Vo t1)).2).length:Int)then
  bif vZ (VN.length:Int)then
  bif decide ((((rd ((0:Int),([]:List Int)) l (rd 0 Vo t1)).2).length:Int)=(VN.length:Int))then
   self (l,t,(ag3.wrap (t1+1)),m,m1,m2,m3,m4,m5,m6,m7,m8,m9,m10,m11,m12,m13,m14,m15,m16,m17,m18,m19,m20,m21,m22,m23,m24,Uf,TS,Uz,TT,Ul,Vx,VN,(mn (ag3.wrap (m32+1)) 8),Vo,())
  else
   self (l,t,(ag3.wrap (t1+1)),m,m1,m2,m3,m4,m5,m6,m7,m8,m9,m10,m11,m12,m13,m14,m15,m16,m17,m18,m19,m20,m21,m22,m23,m24,Uf,TS,Uz,TT,Ul,Vx,VN,m32,Vo,())else none else none else none else none
 else
  some (m,m1,m2,m3,m4,m5,m6,m7,m8,m9,m10,m11,m12,m13,m14,m15,m16,m17,m18,m19,m20,m21,m22,m23,m24,Uf,TS,Uz,TT,Ul,Vx,VN,m32,())
theorem k0:KQ 41 (O m_) [] e0 x0 [] (b0 m_):=fun _ _=>by kernel_rfl
def l0:=loop m_ (b0 m_)
theorem q0(v):l0 .lim v=b0 .lim (l0 .lim) v:=KS.q (k0 .lim) v
def s0:=so m_ (k0 m_)
def run:(List Int)×Unit->Option ((DT2×(List Int×(List Int×Int)))×Int×Unit):=fun v_=>match v_ with
|(s,())=>
 (RN.run m_ (s,())).bind fun (r,r1,())=>
 bif !(decide (r1=0))then
  some (((0,(0,(0,(0,(0,(0,(0,(0,(0,(0,(0,(0,(0,([]:List (Int×List Int))))))))))))))),(([]:List Int),(([]:List Int),0))),r1,())
 else
  bif((!(decide (r.2.1=4)))||(!(decide (r.2.2.1=3))))then
   some (((0,(0,(0,(0,(0,(0,(0,(0,(0,(0,(0,(0,(0,([]:List (Int×List Int))))))))))))))),(([]:List Int),(([]:List Int),0))),23,())
  else
   (OM.run m_ (r.2.2.2.2.2.2.2.2.2.2.2.2.2,1028,())).bind fun r2=>
   bif vZ (r2.length:Int)then
   bif decide ((r2.length:Int)>0)then
    bif inB 0 (r2.length:Int)then
    bif sS 0 (rd 0 r2 0) (r.2.2.2.2.2.2.2.2.2.2.2.2.2.length:Int)then
    (RP.run m_ ((cut r.2.2.2.2.2.2.2.2.2.2.2.2.2 0 (rd 0 r2 0)),260,())).bind fun (r3,r4,())=>
    bif !(decide (r4=0))then
     some (((0,(0,(0,(0,(0,(0,(0,(0,(0,(0,(0,(0,(0,([]:List (Int×List Int))))))))))))))),(([]:List Int),(([]:List Int),0))),r4,())
    else
     (RP.run m_ ((cut r.2.2.2.2.2.2.2.2.2.2.2.2.2 0 (rd 0 r2 0)),516,())).bind fun (r5,r6,())=>
     bif !(decide (r6=0))then
      some (((0,(0,(0,(0,(0,(0,(0,(0,(0,(0,(0,(0,(0,([]:List (Int×List Int))))))))))))))),(([]:List Int),(([]:List Int),0))),r6,())
     else
      bif vZ (r3.length:Int)then
      bif((!(!(decide ((r3.length:Int)<32))))||(vZ (r3.length:Int)))then
      bif((!(!((decide ((r3.length:Int)<32))||(decide ((r3.length:Int)>64)))))||(vZ (r5.length:Int)))then
      bif(((decide ((r3.length:Int)<32))||(decide ((r3.length:Int)>64)))||(decide ((r5.length:Int)>256)))then
       some (((0,(0,(0,(0,(0,(0,(0,(0,(0,(0,(0,(0,(0,([]:List (Int×List Int))))))))))))))),(([]:List Int),(([]:List Int),0))),12,())
      else
       (OM.run m_ ((cut r.2.2.2.2.2.2.2.2.2.2.2.2.2 0 (rd 0 r2 0)),772,())).bind fun r7=>
       bif vZ (r7.length:Int)then
       (Px.l0 m_ ((cut r.2.2.2.2.2.2.2.2.2.2.2.2.2 0 (rd 0 r2 0)),(r7.length:Int),0,0,0,0,0,0,0,0,0,0,0,0,0,0,([]:List Int),([]:List Int),0,r.1,r.2.1,r.2.2.1,r.2.2.2.1,r.2.2.2.2.1,r.2.2.2.2.2.1,r.2.2.2.2.2.2.1,r.2.2.2.2.2.2.2.1,r.2.2.2.2.2.2.2.2.1,r.2.2.2.2.2.2.2.2.2.1,r.2.2.2.2.2.2.2.2.2.2.1,r.2.2.2.2.2.2.2.2.2.2.2.1,r.2.2.2.2.2.2.2.2.2.2.2.2.1,r.2.2.2.2.2.2.2.2.2.2.2.2.2,r3,r5,1,r7,())).bind fun (m,m1,m2,m3,m4,m5,m6,m7,m8,m9,m10,m11,m12,m13,m14,m15,m16,m17,m18,m19,m20,m21,m22,m23,m24,Uf,TS,Uz,TT,Ul,Vx,VN,m32,())=>
       some (((m16,(m17,(m18,(m19,(m20,(m21,(m22,(m23,(m24,(Uf,(TS,(Uz,(TT,Ul))))))))))))),(Vx,(VN,m32))),0,())else none else none else none else none else none else none
   else
    (RP.run m_ (r.2.2.2.2.2.2.2.2.2.2.2.2.2,260,())).bind fun (r8,r9,())=>
    bif !(decide (r9=0))then
     some (((0,(0,(0,(0,(0,(0,(0,(0,(0,(0,(0,(0,(0,([]:List (Int×List Int))))))))))))))),(([]:List Int),(([]:List Int),0))),r9,())
    else
     (RP.run m_ (r.2.2.2.2.2.2.2.2.2.2.2.2.2,516,())).bind fun (r10,r11,())=>
     bif !(decide (r11=0))then
      some (((0,(0,(0,(0,(0,(0,(0,(0,(0,(0,(0,(0,(0,([]:List (Int×List Int))))))))))))))),(([]:List Int),(([]:List Int),0))),r11,())
     else
      bif vZ (r8.length:Int)then
      bif((!(!(decide ((r8.length:Int)<32))))||(vZ (r8.length:Int)))then
      bif((!(!((decide ((r8.length:Int)<32))||(decide ((r8.length:Int)>64)))))||(vZ (r10.length:Int)))then
      bif(((decide ((r8.length:Int)<32))||(decide ((r8.length:Int)>64)))||(decide ((r10.length:Int)>256)))then
       some (((0,(0,(0,(0,(0,(0,(0,(0,(0,(0,(0,(0,(0,([]:List (Int×List Int))))))))))))))),(([]:List Int),(([]:List Int),0))),12,())
      else
       (OM.run m_ (r.2.2.2.2.2.2.2.2.2.2.2.2.2,772,())).bind fun r12=>
       bif vZ (r12.length:Int)then
       (Px.l0 m_ (r.2.2.2.2.2.2.2.2.2.2.2.2.2,(r12.length:Int),0,0,0,0,0,0,0,0,0,0,0,0,0,0,([]:List Int),([]:List Int),0,r.1,r.2.1,r.2.2.1,r.2.2.2.1,r.2.2.2.2.1,r.2.2.2.2.2.1,r.2.2.2.2.2.2.1,r.2.2.2.2.2.2.2.1,r.2.2.2.2.2.2.2.2.1,r.2.2.2.2.2.2.2.2.2.1,r.2.2.2.2.2.2.2.2.2.2.1,r.2.2.2.2.2.2.2.2.2.2.2.1,r.2.2.2.2.2.2.2.2.2.2.2.2.1,r.2.2.2.2.2.2.2.2.2.2.2.2.2,r8,r10,1,r12,())).bind fun (Vo,XV,YG,XW,YH,m38,Zm,Zn,m41,ZK,ZL,ZM,Zo,ZN,m47,m48,m49,m50,m51,m52,Zp,Y2,ZO,Zq,Zr,m58,m59,m60,m61,m62,m63,m64,m65,())=>
       some (((m49,(m50,(m51,(m52,(Zp,(Y2,(ZO,(Zq,(Zr,(m58,(m59,(m60,(m61,m62))))))))))))),(m63,(m64,m65))),0,())else none else none else none else none else none
theorem k:KT (O m_) [] ⟨41,[.one .str],.iF [.sh (.ag (.pair Yx (.pair .str tY7))),.sh (.one (.int .i64))],run m_⟩ [s0 m_]:=fun v_=>match v_ with|(s,())=>by kernel_rfl
def c:=co (k m_)
end Px

namespace Qx
def O(m_:Dq):OO P:=lI []
def f0:gG:=fs 90 [.v 6 [3,4],.q 7] []
def e0:Spec:=⟨[fs 110 [.q 52,.z 52,.b 0,.q 7] [(0,.dat XG),(1,.fn (.func 111) [0]),(7,.w),(8,.w)],f0],[(0,.c [.dat (.int .u32)])],1⟩
def x0:List Spec:=[⟨[fs 110 [.q 13517,.b 1,.q 423,.z 52,.b 0,.q 7] [(4,.w)],f0],[],0⟩,⟨[fs 110 [.q 7] [],f0],[],0⟩]
abbrev A0:Type:=(List (Int×(List Int×Int)))×Int×Int×Int×Unit
abbrev B0:Type:=(Int×Unit) ⊕ (Unit)
def b0(m_:Dq)(self:A0->Option B0):A0->Option B0:=fun v_=>match v_ with
|(s,t,t1,m,())=>
 bif decide (t1<t)then
  bif inB t1 (s.length:Int)then
  bif decide (((rd ((0:Int),(([]:List Int),(0:Int))) s t1).1)=m)then
   some (.inl (t1,()))
  else
   self (s,t,(ag3.wrap (t1+1)),m,())else none
 else
  some (.inr (()))
theorem k0:KQ 90 (O m_) [110,111] e0 x0 [] (b0 m_):=fun _ _=>by kernel_rfl
def l0:=loop m_ (b0 m_)
theorem q0(v):l0 .lim v=b0 .lim (l0 .lim) v:=KS.q (k0 .lim) v
def s0:=so m_ (k0 m_)
def run:WQ×Int×Unit->Option (Int):=fun v_=>match v_ with
|(r,id,())=>
 bif vZ (r.1.length:Int)then
 (Qx.l0 m_ (r.1,(r.1.length:Int),0,id,())).bind fun g_=>match g_ with
 | .inl (t,())=>
  some t
 | .inr (())=>
  some (-1)else none
theorem k:KT (O m_) [110,111] ⟨90,[.ag Wv,.one (.int .u32)],.one (.sh (.one (.int .i64))),run m_⟩ [s0 m_]:=fun _=>by kernel_rfl
def c:=co (k m_)
end Qx

namespace Qp
def O(m_:Dq):OO P:=lI []
def run(m_:Dq):TY×Unit->Option (Int):=fun v_=>match v_ with
|(k,())=>
 bif vZ (k.1.length:Int)then
 bif((!(!(decide ((k.1.length:Int)=32))))||(vZ (k.1.length:Int)))then
 bif((!(decide ((k.1.length:Int)=32)))&&(!(decide ((k.1.length:Int)=64))))then
  some 13
 else
  bif vZ (k.2.1.length:Int)then
  bif decide ((k.2.1.length:Int)>126)then
   some 18
  else
   some 0 else none else none else none
theorem k:KT (O m_) [] ⟨193,[.ag XF],.one (.sh (.one (.int .i64))),run m_⟩ []:=fun _=>by kernel_rfl
def c:=co (k m_)
end Qp

namespace Nz
def O(m_:Dq):OO P:=lI []
def e0:Spec:=⟨[fs 196 [.q 116,.z 116,.b 0,.q 15] [(0,.t),(1,.t),(12,.w),(13,.w)]],[],0⟩
def x0:List Spec:=[⟨[fs 196 [.q 29901,.b 1,.q 935,.z 116,.b 0,.q 15] [(4,.b)]],[],0⟩,⟨[fs 196 [.q 15] []],[],0⟩]
abbrev A0:Type:=LL×LL×Int×Int×Unit
abbrev B0:Type:=(Bool×Unit) ⊕ (Unit)
def b0(m_:Dq)(self:A0->Option B0):A0->Option B0:=fun v_=>match v_ with
|(s1,s2,t,t1,())=>
 bif decide (t1<t)then
  bif inB t1 (s1.length:Int)then
  bif inB t1 (s2.length:Int)then
  bif !(decide ((rd ([]:List Int) s1 t1)=(rd ([]:List Int) s2 t1)))then
   some (.inl (false,()))
  else
   self (s1,s2,t,(ag3.wrap (t1+1)),())else none else none
 else
  some (.inr (()))
theorem k0:KQ 196 (O m_) [] e0 x0 [] (b0 m_):=fun _ _=>by kernel_rfl
def l0:=loop m_ (b0 m_)
theorem q0(v):l0 .lim v=b0 .lim (l0 .lim) v:=KS.q (k0 .lim) v
def s0:=so m_ (k0 m_)
def run:(List (List Int))×(List (List Int))×Unit->Option (Bool):=fun v_=>match v_ with
|(s1,s2,())=>
 bif vZ (s1.length:Int)then
 bif vZ (s2.length:Int)then
 bif !(decide ((s1.length:Int)=(s2.length:Int)))then
  some false
 else
  bif vZ (s1.length:Int)then
  (Nz.l0 m_ (s1,s2,(s1.length:Int),0,())).bind fun g_=>match g_ with
  | .inl (t,())=>
   some t
  | .inr (())=>
   some true else none else none else none
theorem k:KT (O m_) [] ⟨196,[.one (.lst .str),.one (.lst .str)],.one (.sh (.one .bool)),run m_⟩ [s0 m_]:=fun _=>by kernel_rfl
def c:=co (k m_)
end Nz

namespace strings_Repeat
def run(_:Dq):(List Int)×Int×Unit->Option (List Int):=Ld
def c(m_:Dq):CO P:=⟨⟨142,[.one .str,.one (.int .i64)],.one (.sh (.one .str)),run m_⟩,JA (by kernel_rfl) fun s c w hc hl=>ahe Go.Proofs.Tryz.lays105 Go.Proofs.Tryz.Builder_Extra_105 s c w hc hl⟩
end strings_Repeat

namespace PW
def O:OO P:=lI [strings_Repeat.c m_]
def run:Int×Unit->Option (List Int):=fun v_=>match v_ with
|(n,())=>
 (strings_Repeat.run m_ (([0]:List Int),n,())).bind fun r=>
 some r
theorem k:KT (O m_) [] ⟨210,[.one (.int .i64)],.one (.sh (.one .str)),run m_⟩ []:=fun _=>by kernel_rfl
def c:=co (k m_)
end PW

namespace O7
def O(m_:Dq):OO P:=lI []
def e0:Spec:=⟨[fs 237 [.q 56,.z 56,.b 0,.q 15] [(0,.y),(1,.y),(5,.y)]],[],0⟩
def x0:List Spec:=[⟨[fs 237 [.q 15] [(5,.y)]],[],0⟩]
abbrev A0:Type:=Int×Int×Int×Unit
abbrev B0:Type:=(Int×Unit)
def b0(m_:Dq)(self:A0->Option B0):A0->Option B0:=fun v_=>match v_ with
|(a,b,r,())=>
 bif decide (b>0)then
  self ((H8 .u8 (Jd .u8 a 1) (ag5.wrap ((Je .u8 a 7)*27))),(Je .u8 b 1),(H8 .u8 r (ag5.wrap (a*(Jc .u8 b 1)))),())
 else
  some (r,())
theorem k0:KQ 237 (O m_) [] e0 x0 [] (b0 m_):=fun _ _=>by kernel_rfl
def l0:=loop m_ (b0 m_)
theorem q0(v):l0 .lim v=b0 .lim (l0 .lim) v:=KS.q (k0 .lim) v
def s0:=so m_ (k0 m_)
def run:Int×Int×Unit->Option (Int):=fun v_=>match v_ with
|(a,b,())=>
 (O7.l0 m_ (a,b,0,())).bind fun (r,())=>
 some r
theorem k:KT (O m_) [] ⟨237,[.one (.int .u8),.one (.int .u8)],.one (.sh (.one (.int .u8))),run m_⟩ [s0 m_]:=fun _=>by kernel_rfl
def c:=co (k m_)
end O7

namespace PI
def O:OO P:=lI [O7.c m_]
def e0:Spec:=⟨[fs 245 [.q 116,.z 116,.b 0,.q 15] [(3,.y),(4,.y),(6,.w)]],[],0⟩
def x0:List Spec:=[⟨[fs 245 [.q 15] [(3,.y)]],[],0⟩]
abbrev A0:Type:=Int×Int×Int×Unit
abbrev B0:Type:=(Int×Unit)
def b0(self:A0->Option B0):A0->Option B0:=fun v_=>match v_ with
|(r,s,t,())=>
 bif decide (t<7)then
  (O7.run m_ (s,s,())).bind fun r1=>
  (O7.run m_ (r,r1,())).bind fun r2=>
  self (r2,r1,(ag3.wrap (t+1)),())
 else
  some (r,())
theorem k0:KQ 245 (O m_) [] e0 x0 [] (b0 m_):=fun _ _=>by kernel_rfl
def l0:=loop m_ (b0 m_)
theorem q0(v):l0 .lim v=b0 .lim (l0 .lim) v:=KS.q (k0 .lim) v
def s0:=so m_ (k0 m_)
def run:Int×Unit->Option (Int):=fun v_=>match v_ with
|(b,())=>
 (PI.l0 m_ (1,b,0,())).bind fun (r,())=>
 some r
theorem k:KT (O m_) [] ⟨245,[.one (.int .u8)],.one (.sh (.one (.int .u8))),run m_⟩ [s0 m_]:=fun _=>by kernel_rfl
def c:=co (k m_)
end PI

namespace Tn
def O(m_:Dq):OO P:=lI []
def run(m_:Dq):Int×Int×Unit->Option (Int):=fun v_=>match v_ with
|(b,n,())=>
 bif decide (0<=n)then
 bif decide (0<=(ag3.wrap (8-n)))then
 some (KY .u8 (Jd .u8 b n) (Je .u8 b (ag3.wrap (8-n))))else none else none
theorem k:KT (O m_) [] ⟨246,[.one (.int .u8),.one (.int .i64)],.one (.sh (.one (.int .u8))),run m_⟩ []:=fun _=>by kernel_rfl
def c:=co (k m_)
end Tn

namespace TP
def O:OO P:=lI [PI.c m_,Tn.c m_]
def run:Int×Unit->Option (Int):=fun v_=>match v_ with
|(b,())=>
 (PI.run m_ (b,())).bind fun r=>
 (Tn.run m_ (r,1,())).bind fun r1=>
 (Tn.run m_ (r,2,())).bind fun r2=>
 (Tn.run m_ (r,3,())).bind fun r3=>
 (Tn.run m_ (r,4,())).bind fun r4=>
 some (H8 .u8 (H8 .u8 (H8 .u8 (H8 .u8 (H8 .u8 r r1) r2) r3) r4) 99)
theorem k:KT (O m_) [] ⟨236,[.one (.int .u8)],.one (.sh (.one (.int .u8))),run m_⟩ []:=fun _=>by kernel_rfl
def c:=co (k m_)
end TP

namespace Nl
def O(m_:Dq):OO P:=lI []
def e0:Spec:=⟨[fs 240 [.q 116,.z 116,.b 0,.q 15] [(0,.dat tY6),(3,.w),(9,.dat tY6),(10,.w),(11,.w)]],[],0⟩
def x0:List Spec:=[⟨[fs 240 [.q 15] [(0,.dat tY6),(3,.w)]],[],0⟩]
abbrev A0:Type:=LL×Int×LL×Int×Int×Unit
abbrev B0:Type:=(LL×Int×Unit)
def b0(m_:Dq)(self:A0->Option B0):A0->Option B0:=fun v_=>match v_ with
|(slices,size,t,t1,t2,())=>
 bif decide (t2<t1)then
  bif inB t2 (t.length:Int)then
  bif vZ ((rd ([]:List Int) t t2).length:Int)then
  bif decide ((ag3.wrap (size+((rd ([]:List Int) t t2).length:Int)))<0)then
   none
  else
   self (slices,(ag3.wrap (size+((rd ([]:List Int) t t2).length:Int))),t,t1,(ag3.wrap (t2+1)),())else none else none
 else
  some (slices,size,())
theorem k0:KQ 240 (O m_) [249] e0 x0 [] (b0 m_):=fun _ _=>by kernel_rfl
def l0:=loop m_ (b0 m_)
theorem q0(v):l0 .lim v=b0 .lim (l0 .lim) v:=KS.q (k0 .lim) v
def s0:=so m_ (k0 m_)
def e1:Spec:=⟨[fs 240 [.q 500,.z 500,.b 2,.q 63] [(6,.pre 0 (.int .u8)),(25,.dat tY6),(26,.w),(27,.w)]],[(0,.c [.ry])],1⟩
def x1:List Spec:=[⟨[fs 240 [.q 63] [(6,.pre 0 (.int .u8))]],[(0,.c [.ry])],1⟩]
abbrev A1:Type:=Int×LL×Int×Int×LI×Unit
abbrev B1:Type:=(Int×LI×Unit)
def b1(m_:Dq)(self:A1->Option B1):A1->Option B1:=fun v_=>match v_ with
|(TA,t,t1,t2,m,())=>
 bif decide (t2<t1)then
  bif inB t2 (t.length:Int)then
  bif((decide (m.length+(rd ([]:List Int) t t2).length<70368744177664))&&(decide (0<=TA)))then
  self ((TA+((rd ([]:List Int) t t2).length:Int)),t,t1,(ag3.wrap (t2+1)),(m.take TA.toNat++((rd ([]:List Int) t t2)++m.drop (TA.toNat+(rd ([]:List Int) t t2).length))),())else none else none
 else
  some (TA,m,())
theorem k1:KQ 240 (O m_) [249] e1 x1 [] (b1 m_):=fun _ _=>by kernel_rfl
def l1:=loop m_ (b1 m_)
theorem q1(v):l1 .lim v=b1 .lim (l1 .lim) v:=KS.q (k1 .lim) v
def s1:=so m_ (k1 m_)
def run:(List (List Int))×Unit->Option (List Int):=fun v_=>match v_ with
|(slices,())=>
 bif vZ (slices.length:Int)then
 (Nl.l0 m_ (slices,0,slices,(slices.length:Int),0,())).bind fun (Va,size,())=>
 bif decide (size<0)then
  none
 else
  bif decide ((ag3.wrap (size-0))>0)then
   bif((decide (0<=(ag3.wrap (size-0))))&&(ahm ((ag3.wrap (size-0)).toNat) 70368744177664))then
   bif sS 0 0 ((ag4 ((ag3.wrap (size-0)).toNat) 0).length:Int)then
   bif vZ (Va.length:Int)then
   (Nl.l1 m_ (0,Va,(Va.length:Int),0,(ag4 ((ag3.wrap (size-0)).toNat) 0),())).bind fun (TA,m,())=>
   some ((m.drop 0).take TA.toNat)else none else none else none
  else
   bif vZ (Va.length:Int)then
   (Nl.l1 m_ (0,Va,(Va.length:Int),0,([]:List Int),())).bind fun (aaR,m1,())=>
   some ((m1.drop 0).take aaR.toNat)else none else none
theorem k:KT (O m_) [249] ⟨240,[.one tY6],.one (.sh (.one Wu)),run m_⟩ [s0 m_,s1 m_]:=fun _=>by kernel_rfl
def c:=co (k m_)
end Nl

namespace PX
def O(m_:Dq):OO P:=lI []
def run(m_:Dq):Bool×Unit->Option (Int):=fun v_=>match v_ with
|(b,())=>
 bif b then
  some 1
 else
  some 0
theorem k:KT (O m_) [] ⟨253,[.one .bool],.one (.sh (.one (.int .u32))),run m_⟩ []:=fun _=>by kernel_rfl
def c:=co (k m_)
end PX

namespace MZ
def xs:List (FuncId×XK):=[(241,.load .u32),(252,.store),(254,.Gg .disable),(255,.cas .i32),(256,.Gg .enable),(257,.Gh .acquire),(259,.Gh .releaseMerge),(260,.add .i32)]
theorem acs: ∀x∈xs,x.2.OK P x.1:=ac ⟨_,Go.Proofs.Tryz.func241,by kernel_rfl,by kernel_rfl,by kernel_rfl,by kernel_rfl⟩ (ac ⟨_,Go.Proofs.Tryz.func252,by kernel_rfl,by kernel_rfl,by kernel_rfl,by kernel_rfl⟩ (ac ⟨_,Go.Proofs.Tryz.func254,by kernel_rfl,by kernel_rfl,by kernel_rfl,by kernel_rfl⟩ (ac ⟨_,Go.Proofs.Tryz.func255,by kernel_rfl,by kernel_rfl,by kernel_rfl,by kernel_rfl⟩ (ac ⟨_,Go.Proofs.Tryz.func256,by kernel_rfl,by kernel_rfl,by kernel_rfl,by kernel_rfl⟩ (ac ⟨_,Go.Proofs.Tryz.func257,by kernel_rfl,by kernel_rfl,by kernel_rfl,by kernel_rfl⟩ (ac ⟨_,Go.Proofs.Tryz.func259,by kernel_rfl,by kernel_rfl,by kernel_rfl,by kernel_rfl⟩ (ac ⟨_,Go.Proofs.Tryz.func260,by kernel_rfl,by kernel_rfl,by kernel_rfl,by kernel_rfl⟩ (an))))))))
def O:OO P:=MO (lI [TP.c m_,O7.c m_,Nl.c m_,PX.c m_]) (MR acs)
def f0:gG:=⟨235,[.v 61 [1]],[],none,[.call 244 [.ptr 0 1,.b],.call 243 [.ptr 0 2]],false⟩
def f1:gG:=fs 215 [.v 30 [5,6,7],.q 31] []
def o2:dJ:= .c [.s,.dat (.int .u32),.dat (.int .i32),.dat (.int .u32),.dat Ux,.dat Ux,.dat Uu,.CU]
def o3:dJ:= .c [.dat UD]
def f4:gG:=fs 229 [.v 2 [1],.q 3] [(0,.ptr 1 0)]
def f5:gG:=fs 217 [.v 6 [1],.q 7] [(2,.ptr 2 0),(3,.ptr 3 0),(4,.ptr 4 0)]
def e0:Spec:=⟨[fs 230 [.q 13116,.z 13116,.b 2,.b 1,.q 103,.z 12,.b 0] [(0,.ptr 0 0),(2,.w),(6,.w),(25,.oy 1),(26,.w),(27,.w)],fs 229 [.v 2 [1],.q 3] [(0,.ptr 2 0)],f0,fs 228 [.v 6 [2]] [],fs 220 [.v 3 [4]] [],fs 217 [.v 6 [1],.q 7] [(2,.ptr 3 0),(3,.ptr 4 0),(4,.ptr 5 0)],f1],[(0,o2),(1,.c [.ry]),(2,.c [.ptr 0 0]),(3,.c [.ptr 0 0]),(4,o3),(5,o3)],6⟩
def x0:List Spec:=[⟨[fs 230 [.q 103,.z 12,.b 0] [(0,.ptr 0 0),(6,.w)],f4,f0,fs 228 [.v 6 [2]] [],fs 220 [.v 3 [4]] [],f5,f1],[(0,o2),(1,.c [.ptr 0 0]),(2,.c [.ptr 0 0]),(3,o3),(4,o3)],5⟩]
abbrev A0:Type:=Int×Int×Int×Int×Bool×LI×Int×Int×Int×LI×LI×LL×LI×LI×LI×Unit
abbrev B0:Type:=(Int×Bool×LI×Int×Int×Int×LI×LI×LL×LI×LI×Unit)
def b0(self:A0->Option B0):A0->Option B0:=fun v_=>match v_ with
|(i,t,t1,t2,m,m1,m2,m3,m4,m5,m6,m7,m8,m9,m10,())=>
 bif decide (t2<t1)then
  bif inB t2 (m8.length:Int)then
  (O7.run m_ ((ag5.wrap i),(rd 0 m8 t2),())).bind fun r=>
  bif inB (rd 0 m8 t2) 16 then
  bif inB i 256 then
  self (i,t,t1,(ag3.wrap (t2+1)),m,m1,m2,m3,m4,m5,m6,(m7.set ((rd 0 m8 t2).toNat) ((rd (ag4 256 (0:Int):List Int) m7 (rd 0 m8 t2)).set i.toNat r)),m8,m9,m10,())else none else none else none
 else
  some (t,m,m1,m2,m3,m4,m5,m6,m7,m9,m10,())
theorem k0:KQ 215 (O m_) [216,217,220,221,222,223,224,225,228,229,230,231,234,235,238,239,240,242,250,251] e0 x0 [] (b0 m_):=fun _ _=>by kernel_rfl
def l0:=loop m_ (b0 m_)
theorem q0(v):l0 .lim v=b0 .lim (l0 .lim) v:=KS.q (k0 .lim) v
def s0:=so m_ (k0 m_)
def e1:Spec:=⟨[fs 230 [.q 12,.z 12,.b 0] [(0,.ptr 0 0),(6,.w)],f4,f0,fs 228 [.v 6 [2]] [],fs 220 [.v 3 [4]] [],f5,f1],[(0,o2),(1,.c [.ptr 0 0]),(2,.c [.ptr 0 0]),(3,o3),(4,o3)],5⟩
def x1:List Spec:=[⟨[fs 230 [] [],fs 229 [.v 2 [1],.q 3] [(0,.ptr 0 0)],⟨235,[.v 61 [1]],[],none,[.call 244 [.ptr 1 1,.b],.call 243 [.ptr 1 2]],false⟩,fs 228 [.v 6 [2]] [],fs 220 [.v 3 [4]] [],f5,f1],[(0,.c [.ptr 1 0]),(1,o2),(2,.c [.ptr 1 0]),(3,o3),(4,o3)],5⟩]
abbrev A1:Type:=Int×Bool×LI×Int×Int×Int×LI×LI×LL×LI×LI×Unit
abbrev B1:Type:=(Bool×LI×Int×Int×Int×LI×LI×LL×LI×LI×Unit)
def b1(self:A1->Option B1):A1->Option B1:=fun v_=>match v_ with
|(t,m,m1,m2,m3,m4,m5,m6,m7,m8,m9,())=>
 bif decide (t<256)then
  (TP.run m_ ((ag5.wrap t),())).bind fun r=>
  bif inB t 256 then
  bif inB r 256 then
  bif vZ (([1,2,3,9,11,13,14]:List Int).length:Int)then
  (MZ.l0 m_ (t,t,(([1,2,3,9,11,13,14]:List Int).length:Int),0,m,m1,m2,m3,m4,(m5.set t.toNat r),(m6.set r.toNat (ag5.wrap t)),m7,([1,2,3,9,11,13,14]:List Int),m8,m9,())).bind fun (t1,m10)=>
  self ((ag3.wrap (t1+1)),m10)else none else none else none
 else
  some (m,m1,m2,m3,m4,m5,m6,m7,m8,m9,())
theorem k1:KQ 215 (O m_) [216,217,220,221,222,223,224,225,228,229,230,231,234,235,238,239,240,242,250,251] e1 x1 [s0 m_] (b1 m_):=fun _ _=>by kernel_rfl
def l1:=loop m_ (b1 m_)
theorem q1(v):l1 .lim v=b1 .lim (l1 .lim) v:=KS.q (k1 .lim) v
def s1:=so m_ (k1 m_)
def o6:dJ:= .c [.row Zw]
def f7:gG:=⟨235,[.v 61 [1]],[],none,[.call 244 [.ptr 4 1,.b],.call 243 [.ptr 4 2]],false⟩
def f8:gG:=fs 217 [.v 6 [1],.q 7] [(2,.ptr 5 0),(3,.ptr 6 0),(4,.ptr 7 0)]
def o9:dJ:= .c [.own 8 Zw]
def e2:Spec:=⟨[fs 247 [.q 12,.z 12,.b 0] [(0,.fn (.yield 0) []),(1,.ptr 1 0),(2,.ptr 2 0),(4,.w)],⟨231,[.inRange 0,.b 0,.q 31],[(1,.ptr 3 0),(2,.w),(3,.ptr 4 0)],none,[.mark 5],false⟩,fs 229 [.v 3 [1]] [],⟨235,[.v 61 [1]],[],none,[.call 244 [.ptr 6 1,.b],.call 243 [.ptr 6 2]],false⟩,fs 228 [.v 6 [2]] [],fs 220 [.v 3 [4]] [],fs 217 [.v 6 [1],.q 7] [(2,.ptr 7 0),(3,.ptr 8 0),(4,.ptr 9 0)],f1],[(0,.loop .ready none 231 [(3,.ptr 4 0)] [22] (La 122) 5),(1,.c [.oy 10]),(2,.c [.w]),(3,.c [.ptr 6 0]),(4,.c [.own 5002 Zw]),(5,.deferred false),(6,o2),(7,.c [.ptr 6 0]),(8,o3),(9,o3),(10,.d [.ry]),(5002,o6)],5003⟩
def x2:List Spec:=[⟨[fs 247 [] [],⟨231,[.inRange 2,.b 0,.q 31],[(1,.ptr 0 0),(2,.w),(3,.ptr 1 0)],none,[.mark 3],false⟩,fs 229 [.v 3 [1]] [],f7,fs 228 [.v 6 [2]] [],fs 220 [.v 3 [4]] [],f8,f1],[(0,.c [.ptr 4 0]),(1,o9),(2,.loop .ready none 231 [(3,.ptr 1 0)] [22] (La 122) 3),(3,.deferred false),(4,o2),(5,.c [.ptr 4 0]),(6,o3),(7,o3),(8,o6)],9⟩]
abbrev A2:Type:=Int×Int×Bool×Int×LI×Int×Int×Int×LI×LI×LL×LI×LI×LI×LL×Unit
abbrev B2:Type:=(Int×Bool×LI×Int×Int×Int×LI×LI×LL×LI×LI×LL×Unit)
def b2(m_:Dq)(self:A2->Option B2):A2->Option B2:=fun v_=>match v_ with
|(i,nk,m,m1,m2,m3,m4,m5,m6,m7,m8,m9,m10,m11,m12,())=>
 bif vZ (m11.length:Int)then
 bif decide (i<(m11.length:Int))then
  bif sS i (m11.length:Int) (m11.length:Int)then
  bif vZ ((m11.length:Int)-i)then
  bif((sS i (ag3.wrap (i+(mn m1 ((m11.length:Int)-i)))) (ag3.wrap (i+(mn m1 ((m11.length:Int)-i)))))&&(decide ((ag3.wrap (i+(mn m1 ((m11.length:Int)-i))))<=(m11.length:Int))))then
  bif(ag9 1 4&&ag9 4 (cut m11 i (ag3.wrap (i+(mn m1 ((m11.length:Int)-i))))).length)then
  bif decide (m12.length+([((cut m11 i (ag3.wrap (i+(mn m1 ((m11.length:Int)-i))))).take 4)]:List (List Int)).length<17592186044416)then
  self ((ag3.wrap (i+m1)),nk,m,m1,m2,m3,m4,m5,m6,m7,m8,m9,m10,m11,(m12++([((cut m11 i (ag3.wrap (i+(mn m1 ((m11.length:Int)-i))))).take 4)]:List (List Int))),())else none else none else none else none else none
 else
  some (nk,m,m2,m3,m4,m5,m6,m7,m8,m9,m10,m12,())else none
theorem k2:KQ 215 (O m_) [216,217,220,221,222,223,224,225,228,229,230,231,234,235,238,239,240,242,250,251] e2 x2 [] (b2 m_):=fun _ _=>by kernel_rfl
def l2:=loop m_ (b2 m_)
theorem q2(v):l2 .lim v=b2 .lim (l2 .lim) v:=KS.q (k2 .lim) v
def s2:=so m_ (k2 m_)
def o10:dJ:= .c [.dat Zw]
def e3:Spec:=⟨[⟨231,[.q 518452,.z 518452,.b 4,.q 64807,.b 3,.q 4051,.z 1012,.b 2,.q 127],[(1,.ptr 0 0),(2,.w),(3,.ptr 1 0),(5,.y),(6,.w),(7,.ptr 2 0),(115,.w)],none,[.mark 3],false⟩,fs 229 [.v 3 [1]] [],f7,fs 228 [.v 6 [2]] [],fs 220 [.v 3 [4]] [],f8,f1],[(0,.c [.ptr 4 0]),(1,o9),(2,o10),(3,.deferred false),(4,o2),(5,.c [.ptr 4 0]),(6,o3),(7,o3),(8,o6)],9⟩
def x3:List Spec:=[⟨[⟨231,[.q 64807,.b 3,.q 4051,.z 1012,.b 2,.q 127],[(1,.ptr 0 0),(2,.w),(3,.ptr 1 0),(5,.y),(6,.w),(7,.ptr 2 0)],none,[.mark 3],false⟩,fs 229 [.v 3 [1]] [],f7,fs 228 [.v 6 [2]] [],fs 220 [.v 3 [4]] [],f8,f1],[(0,.c [.ptr 4 0]),(1,o9),(2,o10),(3,.deferred false),(4,o2),(5,.c [.ptr 4 0]),(6,o3),(7,o3),(8,o6)],9⟩]
abbrev A3:Type:=Int×Int×Int×Int×Bool×LI×LI×Int×Int×Int×LI×LI×LL×LI×LI×LL×Unit
abbrev B3:Type:=(Int×Int×Int×Bool×LI×LI×Int×Int×Int×LI×LI×LL×LI×LI×LL×Unit)
def b3(m_:Dq)(self:A3->Option B3):A3->Option B3:=fun v_=>match v_ with
|(nk,x,i,t,m,m1,m2,m3,m4,m5,m6,m7,m8,m9,m10,m11,())=>
 bif decide (t<4)then
  bif inB t 4 then
  bif inB (ag3.wrap (i-nk)) (m11.length:Int)then
  bif inB t 4 then
  bif inB t 4 then
  self (nk,x,i,(ag3.wrap (t+1)),m,(m1.set t.toNat (H8 .u8 (rd 0 m1 t) (rd 0 (rd (ag4 4 (0:Int):List Int) m11 (ag3.wrap (i-nk))) t))),m2,m3,m4,m5,m6,m7,m8,m9,m10,m11,())else none else none else none else none
 else
  some (nk,x,i,m,m1,m2,m3,m4,m5,m6,m7,m8,m9,m10,m11,())
theorem k3:KQ 215 (O m_) [216,217,220,221,222,223,224,225,228,229,230,231,234,235,238,239,240,242,250,251] e3 x3 [] (b3 m_):=fun _ _=>by kernel_rfl
def l3:=loop m_ (b3 m_)
theorem q3(v):l3 .lim v=b3 .lim (l3 .lim) v:=KS.q (k3 .lim) v
def s3:=so m_ (k3 m_)
def f11:gG:=⟨235,[.v 61 [1]],[],none,[.call 244 [.ptr 3 1,.b],.call 243 [.ptr 3 2]],false⟩
def f12:gG:=fs 217 [.v 6 [1],.q 7] [(2,.ptr 4 0),(3,.ptr 5 0),(4,.ptr 6 0)]
def o13:dJ:= .c [.own 7 Zw]
def e4:Spec:=⟨[⟨231,[.q 1012,.z 1012,.b 2,.q 127],[(1,.ptr 0 0),(2,.w),(3,.ptr 1 0),(5,.y),(6,.w)],none,[.mark 2],false⟩,fs 229 [.v 3 [1]] [],f11,fs 228 [.v 6 [2]] [],fs 220 [.v 3 [4]] [],f12,f1],[(0,.c [.ptr 3 0]),(1,o13),(2,.deferred false),(3,o2),(4,.c [.ptr 3 0]),(5,o3),(6,o3),(7,o6)],8⟩
def x4:List Spec:=[⟨[⟨231,[.q 127],[(1,.ptr 0 0),(3,.ptr 1 0)],none,[.mark 2],false⟩,fs 229 [.v 3 [1]] [],f11,fs 228 [.v 6 [2]] [],fs 220 [.v 3 [4]] [],f12,f1],[(0,.c [.ptr 3 0]),(1,o13),(2,.deferred false),(3,o2),(4,.c [.ptr 3 0]),(5,o3),(6,o3),(7,o6)],8⟩]
abbrev A4:Type:=Int×Int×Int×Bool×LI×Int×Int×Int×LI×LI×LL×LI×LI×LL×Unit
abbrev B4:Type:=(Bool×LI×Int×Int×Int×LI×LI×LL×LI×LI×LL×Unit)
def b4(self:A4->Option B4):A4->Option B4:=fun v_=>match v_ with
|(nk,x,i,m,m1,m2,m3,m4,m5,m6,m7,m8,m9,m10,())=>
 bif decide (i<(ag3.wrap (4*(ag3.wrap (nk+7)))))then
  bif inB (ag3.wrap (i-1)) (m10.length:Int)then
  bif !(decide (nk=0))then
  bif decide ((i.tmod nk)=0)then
   bif inB (rd 0 (rd (ag4 4 (0:Int):List Int) m10 (ag3.wrap (i-1))) 1) 256 then
   bif inB (rd 0 (rd (ag4 4 (0:Int):List Int) m10 (ag3.wrap (i-1))) 2) 256 then
   bif inB (rd 0 (rd (ag4 4 (0:Int):List Int) m10 (ag3.wrap (i-1))) 3) 256 then
   bif inB (rd 0 (rd (ag4 4 (0:Int):List Int) m10 (ag3.wrap (i-1))) 0) 256 then
   (O7.run m_ (x,2,())).bind fun r=>
   (MZ.l3 m_ (nk,r,i,0,m,(((((ag4 4 (0:Int):List Int).set 0 (H8 .u8 (rd 0 m5 (rd 0 (rd (ag4 4 (0:Int):List Int) m10 (ag3.wrap (i-1))) 1)) x)).set 1 (rd 0 m5 (rd 0 (rd (ag4 4 (0:Int):List Int) m10 (ag3.wrap (i-1))) 2))).set 2 (rd 0 m5 (rd 0 (rd (ag4 4 (0:Int):List Int) m10 (ag3.wrap (i-1))) 3))).set 3 (rd 0 m5 (rd 0 (rd (ag4 4 (0:Int):List Int) m10 (ag3.wrap (i-1))) 0))),m1,m2,m3,m4,m5,m6,m7,m8,m9,m10,())).bind fun (nk1,x1,i1,m11,m12,m13,m14,m15,m16,m17,m18,m19,m20,m21,m22,())=>
   bif decide (m22.length+([m12]:List (List Int)).length<17592186044416)then
   self (nk1,x1,(ag3.wrap (i1+1)),m11,m13,m14,m15,m16,m17,m18,m19,m20,m21,(m22++([m12]:List (List Int))),())else none else none else none else none else none
  else
   bif((!(decide (nk=8)))||true)then
   bif((decide (nk=8))&&(decide ((i.tmod 8)=4)))then
    bif inB (rd 0 (rd (ag4 4 (0:Int):List Int) m10 (ag3.wrap (i-1))) 0) 256 then
    bif inB (rd 0 (rd (ag4 4 (0:Int):List Int) m10 (ag3.wrap (i-1))) 1) 256 then
    bif inB (rd 0 (rd (ag4 4 (0:Int):List Int) m10 (ag3.wrap (i-1))) 2) 256 then
    bif inB (rd 0 (rd (ag4 4 (0:Int):List Int) m10 (ag3.wrap (i-1))) 3) 256 then
    (MZ.l3 m_ (nk,x,i,0,m,(((((ag4 4 (0:Int):List Int).set 0 (rd 0 m5 (rd 0 (rd (ag4 4 (0:Int):List Int) m10 (ag3.wrap (i-1))) 0))).set 1 (rd 0 m5 (rd 0 (rd (ag4 4 (0:Int):List Int) m10 (ag3.wrap (i-1))) 1))).set 2 (rd 0 m5 (rd 0 (rd (ag4 4 (0:Int):List Int) m10 (ag3.wrap (i-1))) 2))).set 3 (rd 0 m5 (rd 0 (rd (ag4 4 (0:Int):List Int) m10 (ag3.wrap (i-1))) 3))),m1,m2,m3,m4,m5,m6,m7,m8,m9,m10,())).bind fun (nk2,x2,i2,m23,m24,Uf,TS,Uz,TT,Ul,Vx,VN,m32,Vo,XV,())=>
    bif decide (XV.length+([m24]:List (List Int)).length<17592186044416)then
    self (nk2,x2,(ag3.wrap (i2+1)),m23,Uf,TS,Uz,TT,Ul,Vx,VN,m32,Vo,(XV++([m24]:List (List Int))),())else none else none else none else none else none
   else
    (MZ.l3 m_ (nk,x,i,0,m,(rd (ag4 4 (0:Int):List Int) m10 (ag3.wrap (i-1))),m1,m2,m3,m4,m5,m6,m7,m8,m9,m10,())).bind fun (nk3,x3,i3,YG,XW,YH,m38,Zm,Zn,m41,ZK,ZL,ZM,Zo,ZN,())=>
    bif decide (ZN.length+([XW]:List (List Int)).length<17592186044416)then
    self (nk3,x3,(ag3.wrap (i3+1)),YG,YH,m38,Zm,Zn,m41,ZK,ZL,ZM,Zo,(ZN++([XW]:List (List Int))),())else none else none else none else none
 else
  some (m,m1,m2,m3,m4,m5,m6,m7,m8,m9,m10,())
theorem k4:KQ 215 (O m_) [216,217,220,221,222,223,224,225,228,229,230,231,234,235,238,239,240,242,250,251] e4 x4 [s3 m_] (b4 m_):=fun _ _=>by kernel_rfl
def l4:=loop m_ (b4 m_)
theorem q4(v):l4 .lim v=b4 .lim (l4 .lim) v:=KS.q (k4 .lim) v
def s4:=so m_ (k4 m_)
def XE:dJ:= .c [.row UD]
def e5:Spec:=⟨[fs 248 [.q 12,.z 12,.b 0] [(0,.fn (.yield 0) []),(1,.ptr 1 0),(2,.ptr 2 0),(4,.w)],⟨231,[.inRange 0,.b 6],[],none,[.mark 3,.mark 4],false⟩,fs 229 [.v 3 [1]] [],⟨235,[.v 61 [1]],[],none,[.call 244 [.ptr 5 1,.b],.call 243 [.ptr 5 2]],false⟩,fs 228 [.v 6 [2]] [],fs 220 [.v 3 [4]] [],fs 217 [.v 6 [1],.q 7] [(2,.ptr 6 0),(3,.ptr 7 0),(4,.ptr 8 0)],f1],[(0,.loop .ready none 231 [(1,.ptr 9 0)] [138] (La 510) 3),(1,.c [.own 10 Zw]),(2,.c [.w]),(3,.deferred false),(4,.deferred false),(5,.c [.s,.dat (.int .u32),.dat (.int .i32),.dat (.int .u32),.dat Ux,.dat Ux,.dat Uu,.own 5003 UD]),(6,.c [.ptr 5 0]),(7,o3),(8,o3),(9,.c [.ptr 5 0]),(10,.d [.row Zw]),(5003,XE)],5004⟩
def x5:List Spec:=[⟨[fs 248 [] [],⟨231,[.inRange 0,.b 6],[],none,[.mark 1,.mark 2],false⟩,fs 229 [.v 3 [1]] [],f11,fs 228 [.v 6 [2]] [],fs 220 [.v 3 [4]] [],f12,f1],[(0,.loop .ready none 231 [(1,.ptr 7 0)] [138] (La 510) 1),(1,.deferred false),(2,.deferred false),(3,.c [.s,.dat (.int .u32),.dat (.int .i32),.dat (.int .u32),.dat Ux,.dat Ux,.dat Uu,.own 8 UD]),(4,.c [.ptr 3 0]),(5,o3),(6,o3),(7,.c [.ptr 3 0]),(8,XE)],9⟩]
abbrev A5:Type:=Int×Bool×Int×LI×Int×Int×Int×LI×LI×LL×LI×LI×LL×LL×Unit
abbrev B5:Type:=(Bool×LI×Int×Int×Int×LI×LI×LL×LI×LI×LL×Unit)
def b5(self:A5->Option B5):A5->Option B5:=fun v_=>match v_ with
|(i,m,m1,m2,m3,m4,m5,m6,m7,m8,m9,m10,m11,m12,())=>
 bif vZ (m11.length:Int)then
 bif decide (i<(m11.length:Int))then
  bif sS i (m11.length:Int) (m11.length:Int)then
  bif vZ ((m11.length:Int)-i)then
  bif((sS i (ag3.wrap (i+(mn m1 ((m11.length:Int)-i)))) (ag3.wrap (i+(mn m1 ((m11.length:Int)-i)))))&&(decide ((ag3.wrap (i+(mn m1 ((m11.length:Int)-i))))<=(m11.length:Int))))then
  bif inB 0 ((cut m11 i (ag3.wrap (i+(mn m1 ((m11.length:Int)-i))))).length:Int)then
  bif inB 1 ((cut m11 i (ag3.wrap (i+(mn m1 ((m11.length:Int)-i))))).length:Int)then
  bif inB 2 ((cut m11 i (ag3.wrap (i+(mn m1 ((m11.length:Int)-i))))).length:Int)then
  bif inB 3 ((cut m11 i (ag3.wrap (i+(mn m1 ((m11.length:Int)-i))))).length:Int)then
  (Nl.run m_ (([(cut (rd (ag4 4 (0:Int):List Int) (cut m11 i (ag3.wrap (i+(mn m1 ((m11.length:Int)-i))))) 0) 0 4),(cut (rd (ag4 4 (0:Int):List Int) (cut m11 i (ag3.wrap (i+(mn m1 ((m11.length:Int)-i))))) 1) 0 4),(cut (rd (ag4 4 (0:Int):List Int) (cut m11 i (ag3.wrap (i+(mn m1 ((m11.length:Int)-i))))) 2) 0 4),(cut (rd (ag4 4 (0:Int):List Int) (cut m11 i (ag3.wrap (i+(mn m1 ((m11.length:Int)-i))))) 3) 0 4)]:List (List Int)),())).bind fun r=>
  bif(ag9 1 16&&ag9 16 r.length)then
  bif decide (m12.length+([(r.take 16)]:List (List Int)).length<4398046511104)then
  self ((ag3.wrap (i+m1)),m,m1,m2,m3,m4,m5,m6,m7,m8,m9,m10,m11,(m12++([(r.take 16)]:List (List Int))),())else none else none else none else none else none else none else none else none else none
 else
  some (m,m2,m3,m4,m5,m6,m7,m8,m9,m10,m12,())else none
theorem k5:KQ 215 (O m_) [216,217,220,221,222,223,224,225,228,229,230,231,234,235,238,239,240,242,250,251] e5 x5 [] (b5 m_):=fun _ _=>by kernel_rfl
def l5:=loop m_ (b5 m_)
theorem q5(v):l5 .lim v=b5 .lim (l5 .lim) v:=KS.q (k5 .lim) v
def s5:=so m_ (k5 m_)
def o15:dJ:= .c [.s,.dat (.int .u32),.dat (.int .i32),.dat (.int .u32),.dat Ux,.dat Ux,.dat Uu,.own 4 UD]
def e6:Spec:=⟨[fs 220 [.q 1] [(0,.ptr 0 0)],fs 217 [.v 6 [1],.q 7] [(2,.ptr 1 0),(3,.ptr 2 0),(4,.ptr 3 0)],f1],[(0,o2),(1,.c [.ptr 0 0]),(2,o3),(3,o3)],4⟩
def x6:List Spec:=[⟨[fs 220 [] [],fs 217 [.v 6 [1],.q 7] [(2,.ptr 0 0),(3,.ptr 1 0),(4,.ptr 2 0)],f1],[(0,.c [.ptr 3 0]),(1,o3),(2,o3),(3,o15),(4,XE)],5⟩]
abbrev A6:Type:=LI×Int×Int×Int×LI×LI×LL×LI×LI×Unit
abbrev B6:Type:=(LI×LI×LI×Int×Int×Int×LI×LI×LL×LL×Unit)
def b6(self:A6->Option B6):A6->Option B6:=fun v_=>match v_ with
|(m,m1,m2,m3,m4,m5,m6,m7,m8,())=>
 bif !(!(decide (m1=0)))then
  bif decide (m2=0)then
  bif !(!(decide (m1=0)))then
   (MZ.l1 m_ (0,true,m,m1,(bif decide (m2=0)then 1 else m2),m3,m4,m5,m6,m7,m8,())).bind fun (m9,m10,m11,m12,m13,m14,m15,m16,m17,m18,())=>
   bif vZ (m10.length:Int)then
   (MZ.l2 m_ (0,(ag3.wrap ((m10.length:Int).tdiv 4)),m9,4,m10,m11,m12,m13,m14,m15,m16,m17,m18,m10,([]:List (List Int)),())).bind fun (nk,m19)=>
   (MZ.l4 m_ (nk,1,nk,m19)).bind fun (Vx,VN,m32,Vo,XV,YG,XW,YH,m38,Zm,Zn,())=>
   (MZ.l5 m_ (0,Vx,4,VN,m32,Vo,XV,YG,XW,YH,m38,Zm,Zn,([]:List (List Int)),())).bind fun (m41,ZK,ZL,ZM,Zo,ZN,m47,m48,m49,m50,m51,())=>
   (PX.run m_ (m41,())).bind fun r=>
   bif !(decide ((ag8.wrap (ZM+(-1)))=0))then
    none
   else
    some (m49,m50,ZK,r,(ag8.wrap (ZM+(-1))),Zo,ZN,m47,m48,m51,())else none
  else
   bif !(decide ((ag8.wrap ((bif decide (m2=0)then 1 else m2)+(-1)))=0))then
    none
   else
    some (m7,m8,m,m1,(ag8.wrap ((bif decide (m2=0)then 1 else m2)+(-1))),m3,m4,m5,m6,([]:List (List Int)),())else none
 else
  some (m7,m8,m,m1,m2,m3,m4,m5,m6,([]:List (List Int)),())
theorem k6:KQ 215 (O m_) [216,217,220,221,222,223,224,225,228,229,230,231,234,235,238,239,240,242,250,251] e6 x6 [s1 m_,s2 m_,s4 m_,s5 m_] (b6 m_):=fun _ _=>by kernel_rfl
def l6:=loop m_ (b6 m_)
theorem q6(v):l6 .lim v=b6 .lim (l6 .lim) v:=KS.q (k6 .lim) v
def s6:=so m_ (k6 m_)
def f16:gG:=fs 221 [.q 28,.z 28,.b 0] [(0,.ptr 0 0),(3,.ptr 1 0),(5,.w)]
def o17:dJ:= .c [.s,.dat (.int .u32),.dat (.int .i32),.dat (.int .u32),.dat Ux,.dat Ux,.dat Uu,.own 5 UD]
def e7:Spec:=⟨[f16,fs 217 [.v 14 [6],.q 15] [(2,.ptr 2 0),(3,.ptr 0 0),(4,.ptr 3 0)],f1],[(0,o3),(1,o3),(2,.c [.ptr 4 0]),(3,o3),(4,o17),(5,XE)],6⟩
def x7:List Spec:=[⟨[fs 221 [] [],fs 217 [.v 14 [6],.q 15] [(2,.ptr 0 0),(3,.ptr 1 0),(4,.ptr 2 0)],f1],[(0,.c [.ptr 3 0]),(1,o3),(2,o3),(3,o15),(4,XE)],5⟩]
abbrev A7:Type:=Int×LI×LI×LI×LI×Int×Int×Int×LI×LI×LL×LL×Unit
abbrev B7:Type:=(LI×LI×LI×Int×Int×Int×LI×LI×LL×LL×Unit)
def b7(m_:Dq)(self:A7->Option B7):A7->Option B7:=fun v_=>match v_ with
|(t,m,m1,m2)=>
 bif decide (t<16)then
  bif inB t 16 then
  bif inB t 16 then
  bif inB t 16 then
  self ((ag3.wrap (t+1)),(m.set t.toNat (H8 .u8 (rd 0 m t) (rd 0 m1 t))),m1,m2)else none else none else none
 else
  some (m,m2)
theorem k7:KQ 215 (O m_) [216,217,220,221,222,223,224,225,228,229,230,231,234,235,238,239,240,242,250,251] e7 x7 [] (b7 m_):=fun _ _=>by kernel_rfl
def l7:=loop m_ (b7 m_)
theorem q7(v):l7 .lim v=b7 .lim (l7 .lim) v:=KS.q (k7 .lim) v
def s7:=so m_ (k7 m_)
def f18:gG:=fs 232 [.v 818 [10,11],.q 819,.b 1,.q 103,.z 12,.b 0] [(0,.fn (.yield 4) []),(1,.ptr 5 0),(9,.slc 6 0 none UD),(10,.w),(11,.w)]
def f19:gG:=⟨217,[.inRange 4,.b 0,.q 31],[(3,.ptr 0 0),(4,.ptr 7 0)],none,[.mark 8],false⟩
def o20:dJ:= .c [.s,.dat (.int .u32),.dat (.int .i32),.dat (.int .u32),.dat Ux,.dat Ux,.dat Uu,.own 6 UD]
def o21:dJ:= .loop .busy none 217 [(2,.ptr 2 0),(3,.ptr 0 0)] [18,19] (La 122) 8
def f22:gG:=fs 232 [.v 818 [10,11],.q 819,.b 1,.q 103,.z 12,.b 0] [(0,.fn (.yield 3) []),(1,.ptr 4 0),(9,.slc 5 0 none UD),(10,.w),(11,.w)]
def f23:gG:=⟨217,[.inRange 3,.b 0,.q 31],[(3,.ptr 1 0),(4,.ptr 6 0)],none,[.mark 7],false⟩
def o24:dJ:= .loop .busy none 217 [(2,.ptr 0 0),(3,.ptr 1 0)] [18,19] (La 122) 7
def e8:Spec:=⟨[fs 223 [.q 12,.z 12,.b 0] [(0,.ptr 0 0),(1,.ptr 1 4),(6,.ptr 0 0),(7,.w)],⟨217,[.v 980 [3],.q 981,.b 1],[(2,.ptr 2 0),(3,.ptr 0 0),(5,.ptr 3 0),(6,.b)],some 4,[],false⟩,f18,f19,f1],[(0,o3),(1,o20),(2,.c [.ptr 1 0]),(3,o3),(4,o21),(5,.c [.ptr 1 0]),(6,XE),(7,o3),(8,.deferred false)],9⟩
def x8:List Spec:=[⟨[fs 223 [] [],⟨217,[.v 980 [3],.q 981,.b 1],[(2,.ptr 0 0),(3,.ptr 1 0),(5,.ptr 2 0),(6,.b)],some 3,[],false⟩,f22,f23,f1],[(0,.c [.ptr 8 0]),(1,o3),(2,o3),(3,o24),(4,.c [.ptr 8 0]),(5,XE),(6,o3),(7,.deferred false),(8,o17)],9⟩]
abbrev A8:Type:=Int×Bool×Int×Int×Int×Int×LI×LI×Int×Int×Int×LI×LI×LL×LI×LL×LI×Unit
abbrev B8:Type:=(Bool×Int×Int×Int×Int×LI×LI×LL×LI×LI×Int×Int×Int×LI×LI×LL×Unit)
def b8(m_:Dq)(self:A8->Option B8):A8->Option B8:=fun v_=>match v_ with
|(t,last,tp,tq,t1,t2,m,m1,m2,m3,m4,m5,m6,m7,m8,m9,m10,())=>
 bif decide (t<16)then
  bif inB t 16 then
  bif inB (rd 0 m t) 256 then
  bif inB t 16 then
  self ((ag3.wrap (t+1)),last,tp,tq,t1,t2,(m.set t.toNat (rd 0 m5 (rd 0 m t))),m1,m2,m3,m4,m5,m6,m7,m8,m9,m10,())else none else none else none
 else
  some (last,tp,tq,t1,t2,m,m8,m9,m10,m1,m2,m3,m4,m5,m6,m7,())
theorem k8:KQ 215 (O m_) [216,217,220,221,222,223,224,225,228,229,230,231,234,235,238,239,240,242,250,251] e8 x8 [] (b8 m_):=fun _ _=>by kernel_rfl
def l8:=loop m_ (b8 m_)
theorem q8(v):l8 .lim v=b8 .lim (l8 .lim) v:=KS.q (k8 .lim) v
def s8:=so m_ (k8 m_)
def e9:Spec:=⟨[fs 224 [.q 28,.z 28,.b 0] [(0,.ptr 0 0),(1,.w),(4,.ptr 1 0),(9,.w)],⟨217,[.v 1962 [0],.q 1963,.b 1],[(2,.ptr 2 0),(3,.ptr 0 0),(5,.ptr 3 0),(6,.b)],some 4,[],false⟩,f18,f19,f1],[(0,o3),(1,o3),(2,.c [.ptr 9 0]),(3,o3),(4,o21),(5,.c [.ptr 9 0]),(6,XE),(7,o3),(8,.deferred false),(9,o20)],10⟩
def x9:List Spec:=[⟨[fs 224 [] [],⟨217,[.v 1962 [0],.q 1963,.b 1],[(2,.ptr 0 0),(3,.ptr 1 0),(5,.ptr 2 0),(6,.b)],some 3,[],false⟩,f22,f23,f1],[(0,.c [.ptr 8 0]),(1,o3),(2,o3),(3,o24),(4,.c [.ptr 8 0]),(5,XE),(6,o3),(7,.deferred false),(8,o17)],9⟩]
abbrev A9:Type:=Int×Int×Bool×Int×Int×Int×Int×LI×LI×LI×LL×LI×LI×Int×Int×Int×LI×LI×LL×Unit
abbrev B9:Type:=(Bool×Int×Int×Int×Int×LI×LI×LL×LI×LI×Int×Int×Int×LI×LI×LL×Unit)
def b9(m_:Dq)(self:A9->Option B9):A9->Option B9:=fun v_=>match v_ with
|(byV,t,last,tp,tq,t1,t2,m,m1,m2)=>
 bif decide (t<16)then
  bif inB ((ag3.wrap ((ag3.wrap (t+(ag3.wrap (byV*(t.tmod 4)))))+64)).tmod 16) 16 then
  bif inB t 16 then
  self (byV,(ag3.wrap (t+1)),last,tp,tq,t1,t2,(m.set t.toNat (rd 0 m1 ((ag3.wrap ((ag3.wrap (t+(ag3.wrap (byV*(t.tmod 4)))))+64)).tmod 16))),m1,m2)else none else none
 else
  some (last,tp,tq,t1,t2,m,m2)
theorem k9:KQ 215 (O m_) [216,217,220,221,222,223,224,225,228,229,230,231,234,235,238,239,240,242,250,251] e9 x9 [] (b9 m_):=fun _ _=>by kernel_rfl
def l9:=loop m_ (b9 m_)
theorem q9(v):l9 .lim v=b9 .lim (l9 .lim) v:=KS.q (k9 .lim) v
def s9:=so m_ (k9 m_)
def f25:gG:=⟨217,[.v 15706 [2],.q 3927,.b 1],[(3,.ptr 1 0),(5,.ptr 4 0)],some 5,[],false⟩
def f26:gG:=fs 232 [.v 818 [10,11],.q 819,.b 1,.q 103,.z 12,.b 0] [(0,.fn (.yield 5) []),(1,.ptr 6 0),(9,.slc 7 0 none UD),(10,.w),(11,.w)]
def f27:gG:=⟨217,[.inRange 5,.b 0,.q 31],[(3,.ptr 1 0),(4,.ptr 8 0)],none,[.mark 9],false⟩
def o28:dJ:= .c [.s,.dat (.int .u32),.dat (.int .i32),.dat (.int .u32),.dat Ux,.dat Ux,.dat Uu,.own 7 UD]
def o29:dJ:= .loop .busy none 217 [(2,.ptr 10 0),(3,.ptr 1 0)] [18,19] (La 122) 9
def e10:Spec:=⟨[fs 225 [.q 31132,.z 31132,.b 2,.b 1,.q 487,.z 60,.b 0] [(0,.ptr 0 0),(1,.ptr 1 0),(5,.ptr 2 0),(6,.ptr 3 0),(7,.w),(13,.w),(20,.dat Zw),(21,.w)],f25,f26,f27,f1],[(0,o28),(1,o3),(2,o10),(3,o3),(4,o3),(5,o29),(6,.c [.ptr 0 0]),(7,XE),(8,o3),(9,.deferred false),(10,.c [.ptr 0 0])],11⟩
def x10:List Spec:=[⟨[fs 225 [.q 487,.z 60,.b 0] [(0,.ptr 0 0),(1,.ptr 1 0),(5,.ptr 2 0),(6,.ptr 3 0),(13,.w)],f25,f26,f27,f1],[(0,o28),(1,o3),(2,o10),(3,o3),(4,o3),(5,o29),(6,.c [.ptr 0 0]),(7,XE),(8,o3),(9,.deferred false),(10,.c [.ptr 0 0])],11⟩]
abbrev A10:Type:=Int×Int×LI×Int×Int×Int×Int×Int×LI×Int×Int×Int×LI×LI×LL×LI×LI×LI×LI×LL×LI×Unit
abbrev B10:Type:=(Int×Int×Int×Int×Int×LI×Int×Int×Int×LI×LI×LL×LI×LI×LI×LI×LL×LI×Unit)
def b10(m_:Dq)(self:A10->Option B10):A10->Option B10:=fun v_=>match v_ with
|(i,t,t1,t2,tp,tq,t3,t4,m,m1,m2,m3,m4,m5,m6,m7,m8,m9,m10)=>
 bif decide (t2<4)then
  bif inB t2 4 then
  bif inB i 16 then
  bif inB (ag3.wrap ((ag3.wrap ((ag3.wrap (i.tdiv 4))*4))+((ag3.wrap (i+t2)).tmod 4))) 16 then
  bif inB (rd 0 t1 t2) 16 then
  bif inB (rd 0 m9 (ag3.wrap ((ag3.wrap ((ag3.wrap (i.tdiv 4))*4))+((ag3.wrap (i+t2)).tmod 4)))) 256 then
  bif inB i 16 then
  self (i,t,t1,(ag3.wrap (t2+1)),tp,tq,t3,t4,m,m1,m2,m3,m4,m5,m6,(m7.set i.toNat (H8 .u8 (rd 0 m7 i) (rd 0 (rd (ag4 256 (0:Int):List Int) m6 (rd 0 t1 t2)) (rd 0 m9 (ag3.wrap ((ag3.wrap ((ag3.wrap (i.tdiv 4))*4))+((ag3.wrap (i+t2)).tmod 4))))))),m8,m9,m10)else none else none else none else none else none else none
 else
  some (t,tp,tq,t3,t4,m,m1,m2,m3,m4,m5,m6,m7,m8,m9,m10)
theorem k10:KQ 215 (O m_) [216,217,220,221,222,223,224,225,228,229,230,231,234,235,238,239,240,242,250,251] e10 x10 [] (b10 m_):=fun _ _=>by kernel_rfl
def l10:=loop m_ (b10 m_)
theorem q10(v):l10 .lim v=b10 .lim (l10 .lim) v:=KS.q (k10 .lim) v
def s10:=so m_ (k10 m_)
def f30:gG:=fs 232 [.v 818 [10,11],.q 819,.b 1,.q 103,.z 12,.b 0] [(0,.fn (.yield 2) []),(1,.ptr 3 0),(9,.slc 4 0 none UD),(10,.w),(11,.w)]
def f31:gG:=⟨217,[.inRange 2,.b 0,.q 31],[(3,.ptr 0 0),(4,.ptr 5 0)],none,[.mark 6],false⟩
def o32:dJ:= .loop .busy none 217 [(2,.ptr 7 0),(3,.ptr 0 0)] [18,19] (La 122) 6
def e11:Spec:=⟨[fs 225 [.q 60,.z 60,.b 0] [(0,.ptr 0 0),(1,.ptr 1 0),(5,.ptr 2 0),(6,.ptr 3 0),(13,.w)],f25,f26,f27,f1],[(0,o28),(1,o3),(2,o10),(3,o3),(4,o3),(5,o29),(6,.c [.ptr 0 0]),(7,XE),(8,o3),(9,.deferred false),(10,.c [.ptr 0 0])],11⟩
def x11:List Spec:=[⟨[fs 225 [] [],⟨217,[.v 15706 [2],.q 3927,.b 1],[(3,.ptr 0 0),(5,.ptr 1 0)],some 2,[],false⟩,f30,f31,f1],[(0,o3),(1,o3),(2,o32),(3,.c [.ptr 8 0]),(4,XE),(5,o3),(6,.deferred false),(7,.c [.ptr 8 0]),(8,o15)],9⟩]
abbrev A11:Type:=Int×Int×Int×Int×Int×LI×Int×Int×Int×LI×LI×LL×LI×LI×LI×LI×LL×LI×Unit
abbrev B11:Type:=(Int×Int×Int×Int×LI×LI×LL×LI×LI×Int×Int×Int×LI×LI×LL×Unit)
def b11(self:A11->Option B11):A11->Option B11:=fun v_=>match v_ with
|(t,tp,tq,t1,t2,m,m1,m2,m3,m4,m5,m6,m7,m8,m9,m10,m11,m12,())=>
 bif decide (t<16)then
  bif inB t 16 then
  (MZ.l10 m_ (t,t,m8,0,tp,tq,t1,t2,m,m1,m2,m3,m4,m5,m6,(m7.set t.toNat 0),m8,m9,m10,m11,m12,())).bind fun (t3,tp1)=>
  self ((ag3.wrap (t3+1)),tp1)else none
 else
  some (tp,tq,t1,t2,m7,m10,m11,m12,m,m1,m2,m3,m4,m5,m6,())
theorem k11:KQ 215 (O m_) [216,217,220,221,222,223,224,225,228,229,230,231,234,235,238,239,240,242,250,251] e11 x11 [s10 m_] (b11 m_):=fun _ _=>by kernel_rfl
def l11:=loop m_ (b11 m_)
theorem q11(v):l11 .lim v=b11 .lim (l11 .lim) v:=KS.q (k11 .lim) v
def s11:=so m_ (k11 m_)
def f33:gG:=⟨217,[.inRange 0,.b 0,.q 31],[(3,.ptr 3 0),(4,.ptr 4 0)],none,[.mark 5],false⟩
def o34:dJ:= .c [.s,.dat (.int .u32),.dat (.int .i32),.dat (.int .u32),.dat Ux,.dat Ux,.dat Uu,.own 2 UD]
def e12:Spec:=⟨[f16,⟨217,[.v 3927 [1],.b 1],[],some 2,[],false⟩,f30,f31,f1],[(0,o3),(1,o3),(2,o32),(3,.c [.ptr 8 0]),(4,XE),(5,o3),(6,.deferred false),(7,.c [.ptr 8 0]),(8,o15)],9⟩
def x12:List Spec:=[⟨[fs 221 [] [],⟨217,[.v 3927 [1],.b 1],[],some 0,[],false⟩,fs 232 [.v 818 [10,11],.q 819,.b 1,.q 103,.z 12,.b 0] [(0,.fn (.yield 0) []),(1,.ptr 1 0),(9,.slc 2 0 none UD),(10,.w),(11,.w)],f33,f1],[(0,.loop .busy none 217 [(2,.ptr 6 0),(3,.ptr 3 0)] [18,19] (La 122) 5),(1,.c [.ptr 7 0]),(2,XE),(3,o3),(4,o3),(5,.deferred false),(6,.c [.ptr 7 0]),(7,o34)],8⟩]
abbrev A12:Type:=Int×Int×Int×Int×Int×LI×LI×LL×LI×LI×Int×Int×Int×LI×LI×LL×Unit
abbrev B12:Type:=(Int×Int×Int×Int×LL×LI×LI×LI×Int×Int×Int×LI×LI×LL×Unit)
def b12(m_:Dq)(self:A12->Option B12):A12->Option B12:=fun v_=>match v_ with
|(t,tp,tq,t1,t2,m,m1,m2,m3)=>
 bif decide (t<16)then
  bif inB t 16 then
  bif inB t 16 then
  bif inB t 16 then
  self ((ag3.wrap (t+1)),tp,tq,t1,t2,(m.set t.toNat (H8 .u8 (rd 0 m t) (rd 0 m1 t))),m1,m2,m3)else none else none else none
 else
  some (tp,tq,t1,t2,m2,m,m3)
theorem k12:KQ 215 (O m_) [216,217,220,221,222,223,224,225,228,229,230,231,234,235,238,239,240,242,250,251] e12 x12 [] (b12 m_):=fun _ _=>by kernel_rfl
def l12:=loop m_ (b12 m_)
theorem q12(v):l12 .lim v=b12 .lim (l12 .lim) v:=KS.q (k12 .lim) v
def s12:=so m_ (k12 m_)
def e13:Spec:=⟨[fs 232 [.q 12,.z 12,.b 0] [(0,.fn (.yield 0) []),(1,.ptr 1 0),(9,.slc 2 0 none UD),(10,.w),(11,.w)],f33,f1],[(0,.loop .ready none 217 [(2,.ptr 6 0),(3,.ptr 3 0)] [18,19] (La 122) 5),(1,.c [.ptr 7 0]),(2,XE),(3,o3),(4,o3),(5,.deferred false),(6,.c [.ptr 7 0]),(7,o34)],8⟩
def x13:List Spec:=[⟨[fs 232 [] [],⟨217,[.inRange 2,.b 0,.q 31],[(3,.ptr 0 0),(4,.ptr 1 0)],none,[.mark 3],false⟩,f1],[(0,o3),(1,o3),(2,.loop .ready none 217 [(2,.ptr 4 0),(3,.ptr 0 0)] [18,19] (La 122) 3),(3,.deferred false),(4,.c [.ptr 5 0]),(5,o20),(6,XE)],7⟩]
abbrev A13:Type:=Int×Int×Int×Int×LL×LI×LI×LI×Int×Int×Int×LI×LI×LL×Unit
abbrev B13:Type:=(LI×LI×LI×Int×Int×Int×LI×LI×LL×LL×Unit)
def b13(self:A13->Option B13):A13->Option B13:=fun v_=>match v_ with
|(tp,tq,t,t1,m,m1,m2,m3,m4,m5,m6,m7,m8,m9,())=>
 bif decide (t1<t)then
  bif inB t1 tq then
  bif vZ (m.length:Int)then
  (MZ.l8 m_ (0,decide (t1=(ag3.wrap ((m.length:Int)-2))),tp,tq,t,t1,m1,m3,m4,m5,m6,m7,m8,m9,(rd (ag4 16 (0:Int):List Int) m (tp+t1)),m,m2,())).bind fun (last,tp1,tq1,t2,t3,m10,m11)=>
  (MZ.l9 m_ (4,0,last,tp1,tq1,t2,t3,m10,m10,m11)).bind fun (abJ,tp2,tq2,t4,t5,m21,m22,m23,m24,Uf,TS,Uz,TT,Ul,Vx,VN,())=>
  bif !abJ then
   (MZ.l11 m_ (0,tp2,tq2,t4,t5,Uf,TS,Uz,TT,Ul,Vx,VN,m21,(((((ag4 4 (0:Int):List Int).set 0 2).set 1 3).set 2 1).set 3 1),m21,m22,m23,m24,())).bind fun (tp3)=>
   (MZ.l12 m_ (0,tp3)).bind fun (tp4,tq4,t8,t9,ZL)=>
   self (tp4,tq4,t8,(ag3.wrap (t9+1)),ZL)
  else
   (MZ.l12 m_ (0,tp2,tq2,t4,t5,m21,m22,m23,m24,Uf,TS,Uz,TT,Ul,Vx,VN,())).bind fun (tp5,tq5,t10,t11,Zp)=>
   self (tp5,tq5,t10,(ag3.wrap (t11+1)),Zp)else none else none
 else
  some (m1,m2,m3,m4,m5,m6,m7,m8,m9,m,())
theorem k13:KQ 215 (O m_) [216,217,220,221,222,223,224,225,228,229,230,231,234,235,238,239,240,242,250,251] e13 x13 [s8 m_,s9 m_,s11 m_,s12 m_] (b13 m_):=fun _ _=>by kernel_rfl
def ZI:=loop m_ (b13 m_)
theorem q13(v):ZI .lim v=b13 .lim (ZI .lim) v:=KS.q (k13 .lim) v
def s13:=so m_ (k13 m_)
def e14:Spec:=⟨[fs 217 [.q 1] [(0,.ptr 0 0),(1,.dat UD)],f1],[(0,o2)],1⟩
def x14:List Spec:=[⟨[⟨217,[.q 63],[(4,.ptr 0 0)],none,[.mark 1],false⟩,f1],[(0,o3),(1,.deferred false)],2⟩]
abbrev A14:Type:=LI×LI×Int×Int×Int×LI×LI×LL×Unit
abbrev B14:Type:=(LI×Unit)
def b14(self:A14->Option B14):A14->Option B14:=fun v_=>match v_ with
|(b,m,m1,m2,m3,m4,m5,m6,())=>
 (MZ.l6 m_ (m,m1,m2,m3,m4,m5,m6,b,(ag4 16 (0:Int)),())).bind fun (m7,m8,m9,m10,m11,m12,m13,m14,m15,m16,())=>
 bif inB 0 (m16.length:Int)then
 (MZ.l7 m_ (0,m7,(rd (ag4 16 (0:Int):List Int) m16 0),m8,m9,m10,m11,m12,m13,m14,m15,m16,())).bind fun (m17,m18,m19,m20,m21,m22,m23,m24,Uf,TS,())=>
 bif sS 1 (TS.length:Int) (TS.length:Int)then
 bif vZ ((TS.length:Int)-1)then
 (MZ.ZI m_ (1,((TS.length:Int)-1),((TS.length:Int)-1),0,TS,m17,m18,m19,m20,m21,m22,m23,m24,Uf,())).bind fun (Uz,TT)=>
 some (Uz,())else none else none else none
theorem k14:KQ 215 (O m_) [216,217,220,221,222,223,224,225,228,229,230,231,234,235,238,239,240,242,250,251] e14 x14 [s6 m_,s7 m_,s13 m_] (b14 m_):=fun _ _=>by kernel_rfl
def Y1:=loop m_ (b14 m_)
theorem q14(v):Y1 .lim v=b14 .lim (Y1 .lim) v:=KS.q (k14 .lim) v
def s14:=so m_ (k14 m_)
def run:(List Int)×(List Int)×Unit->Option ((List Int)×Int×Unit):=fun v_=>match v_ with
|(key,s,())=>
 bif vZ (key.length:Int)then
 bif((!(!(decide ((key.length:Int)=16))))||(vZ (key.length:Int)))then
 bif((!(decide ((key.length:Int)=16)))&&(!(decide ((key.length:Int)=32))))then
  some (([]:List Int),13,())
 else
  bif vZ (s.length:Int)then
  bif !(decide ((s.length:Int)=16))then
   some (([]:List Int),10,())
  else
   bif(ag9 1 16&&ag9 16 s.length)then
   (MZ.Y1 m_ ((s.take 16),key,0,0,0,(ag4 256 (0:Int)),(ag4 256 (0:Int)),(ag4 16 (ag4 256 (0:Int):List Int)),())).bind fun (m,())=>
   some (((m.drop 0).take 16),0,())else none else none else none else none
theorem k:KT (O m_) [216,217,220,221,222,223,224,225,228,229,230,231,234,235,238,239,240,242,250,251] ⟨215,[.one .str,.one .str],.iF [.sh (.one .str),.sh (.one (.int .i64))],run m_⟩ [s14 m_]:=fun _=>by kernel_rfl
def c:=co (k m_)
end MZ

namespace Qy
def O(m_:Dq):OO P:=lI []
def e0:Spec:=⟨[fs 233 [.q 12,.z 12,.b 0] [(0,.fn (.yield 0) []),(1,.ptr 1 0),(3,.w)],⟨219,[.inRange 0,.b 0,.q 31],[(4,.ptr 2 0),(5,.ptr 3 0)],none,[.mark 4],false⟩],[(0,.loop .ready none 219 [(4,.ptr 2 0),(5,.ptr 3 0)] [15,16] (La 122) 4),(1,.c [.oy 5]),(2,.c [.oy 5]),(3,.c [.y]),(4,.deferred false),(5,.c [.ry])],6⟩
def x0:List Spec:=[⟨[fs 233 [] [],⟨219,[.inRange 2,.b 0,.q 31],[(4,.ptr 0 0),(5,.ptr 1 0)],none,[.mark 3],false⟩],[(0,.c [.oy 4]),(1,.c [.y]),(2,.loop .ready none 219 [(4,.ptr 0 0),(5,.ptr 1 0)] [15,16] (La 122) 3),(3,.deferred false),(4,.c [.ry])],5⟩]
abbrev A0:Type:=Int×Int×LI×Unit
abbrev B0:Type:=(Int×LI×Unit)
def b0(m_:Dq)(self:A0->Option B0):A0->Option B0:=fun v_=>match v_ with
|(i,m,m1,())=>
 bif decide (i>=0)then
  bif inB i (m1.length:Int)then
  bif inB i (m1.length:Int)then
  self ((ag3.wrap (i-1)),(Je .u8 (rd 0 m1 i) 7),(m1.set i.toNat (KY .u8 (Jd .u8 (rd 0 m1 i) 1) m)),())else none else none
 else
  some (m,m1,())
theorem k0:KQ 219 (O m_) [227] e0 x0 [] (b0 m_):=fun _ _=>by kernel_rfl
def l0:=loop m_ (b0 m_)
theorem q0(v):l0 .lim v=b0 .lim (l0 .lim) v:=KS.q (k0 .lim) v
def s0:=so m_ (k0 m_)
def run:(List Int)×Unit->Option ((List Int)×Int×Unit):=fun v_=>match v_ with
|(b,())=>
 bif vZ (b.length:Int)then
 bif !(decide ((b.length:Int)=16))then
  some (([]:List Int),10,())
 else
  bif vZ (b.length:Int)then
  (Qy.l0 m_ ((ag3.wrap ((b.length:Int)-1)),0,b,())).bind fun (m,m1,())=>
  bif inB 15 (m1.length:Int)then
  bif inB 15 (m1.length:Int)then
  some ((m1.set 15 (H8 .u8 (rd 0 m1 15) (ag5.wrap (m*135)))),0,())else none else none else none else none
theorem k:KT (O m_) [227] ⟨219,[.one .str],.iF [.sh (.one .str),.sh (.one (.int .i64))],run m_⟩ [s0 m_]:=fun _=>by kernel_rfl
def c:=co (k m_)
end Qy

namespace QL
def O:OO P:=lI [Qy.c m_]
def run:(List Int)×Unit->Option (List Int):=fun v_=>match v_ with
|(b,())=>
 (Qy.run m_ (b,())).bind fun (r,r1,())=>
 some r
theorem k:KT (O m_) [] ⟨214,[.one .str],.one (.sh (.one .str)),run m_⟩ []:=fun _=>by kernel_rfl
def c:=co (k m_)
end QL

namespace Ui
def O:OO P:=lI [PW.c m_,QL.c m_,MZ.c m_]
def run:(List Int)×Unit->Option (acu×Int×Unit):=fun v_=>match v_ with
|(key,())=>
 (PW.run m_ (16,())).bind fun r=>
 (MZ.run m_ (key,r,())).bind fun (r1,r2,())=>
 bif !(decide (r2=0))then
  some (adN,13,())
 else
  (QL.run m_ (r1,())).bind fun r3=>
  (QL.run m_ (r3,())).bind fun r4=>
  some ((key,(r3,r4)),0,())
theorem k:KT (O m_) [] ⟨211,[.one .str],.iF [.sh (.ag tY9),.sh (.one (.int .i64))],run m_⟩ []:=fun _=>by kernel_rfl
def c:=co (k m_)
end Ui

namespace Q5
def O:OO P:=lI [Ui.c m_]
def run:(List Int)×(List (List Int))×Unit->Option (acu×(List Int)×Int×Unit):=fun v_=>match v_ with
|(key,ad,())=>
 bif vZ (key.length:Int)then
 bif((!(!(decide ((key.length:Int)=32))))||(vZ (key.length:Int)))then
 bif((!(decide ((key.length:Int)=32)))&&(!(decide ((key.length:Int)=64))))then
  some (adN,([]:List Int),13,())
 else
  bif vZ (ad.length:Int)then
  bif decide ((ad.length:Int)>=127)then
   some (adN,([]:List Int),18,())
  else
   bif vZ (key.length:Int)then
   bif sS 0 (ag3.wrap ((key.length:Int).tdiv 2)) (key.length:Int)then
   (Ui.run m_ ((cut key 0 (ag3.wrap ((key.length:Int).tdiv 2))),())).bind fun (r,r1,())=>
   bif vZ (key.length:Int)then
   bif sS (ag3.wrap ((key.length:Int).tdiv 2)) (key.length:Int) (key.length:Int)then
   some (r,(cut key (ag3.wrap ((key.length:Int).tdiv 2)) (key.length:Int)),r1,())else none else none else none else none else none else none else none
theorem k:KT (O m_) [] ⟨206,[.one .str,.one (.lst .str)],.iF [.sh (.ag tY9),.sh (.one .str),.sh (.one (.int .i64))],run m_⟩ []:=fun _=>by kernel_rfl
def c:=co (k m_)
end Q5

namespace MX
def xs:List (FuncId×XK):=[(241,.load .u32),(252,.store),(254,.Gg .disable),(255,.cas .i32),(256,.Gg .enable),(257,.Gh .acquire),(259,.Gh .releaseMerge),(260,.add .i32)]
theorem acs: ∀x∈xs,x.2.OK P x.1:=ac ⟨_,Go.Proofs.Tryz.func241,by kernel_rfl,by kernel_rfl,by kernel_rfl,by kernel_rfl⟩ (ac ⟨_,Go.Proofs.Tryz.func252,by kernel_rfl,by kernel_rfl,by kernel_rfl,by kernel_rfl⟩ (ac ⟨_,Go.Proofs.Tryz.func254,by kernel_rfl,by kernel_rfl,by kernel_rfl,by kernel_rfl⟩ (ac ⟨_,Go.Proofs.Tryz.func255,by kernel_rfl,by kernel_rfl,by kernel_rfl,by kernel_rfl⟩ (ac ⟨_,Go.Proofs.Tryz.func256,by kernel_rfl,by kernel_rfl,by kernel_rfl,by kernel_rfl⟩ (ac ⟨_,Go.Proofs.Tryz.func257,by kernel_rfl,by kernel_rfl,by kernel_rfl,by kernel_rfl⟩ (ac ⟨_,Go.Proofs.Tryz.func259,by kernel_rfl,by kernel_rfl,by kernel_rfl,by kernel_rfl⟩ (ac ⟨_,Go.Proofs.Tryz.func260,by kernel_rfl,by kernel_rfl,by kernel_rfl,by kernel_rfl⟩ (an))))))))
def O:OO P:=MO (lI [TP.c m_,O7.c m_,Nl.c m_,PX.c m_]) (MR acs)
def f0:gG:=⟨235,[.v 61 [1]],[],none,[.call 244 [.ptr 0 1,.b],.call 243 [.ptr 0 2]],false⟩
def o1:dJ:= .c [.s,.dat (.int .u32),.dat (.int .i32),.dat (.int .u32),.dat Ux,.dat Ux,.dat Uu,.own 8 UD]
def o2:dJ:= .c [.dat UD]
def o3:dJ:= .c [.row UD]
def f4:gG:=fs 229 [.v 2 [1],.q 3] [(0,.ptr 1 0)]
def f5:gG:=fs 217 [.v 6 [1],.q 7] [(2,.ptr 2 0),(3,.ptr 3 0),(4,.ptr 4 0)]
def f6:gG:=fs 212 [.v 8132 [2,3,4],.q 8133,.b 1,.z 1016,.b 0,.q 255] [(2,.w),(8,.ptr 0 0),(10,.ptr 5 0),(11,.oy 6)]
def o7:dJ:= .c [.s,.dat (.int .u32),.dat (.int .i32),.dat (.int .u32),.dat Ux,.dat Ux,.dat Uu,.own 7 UD]
def e0:Spec:=⟨[fs 230 [.q 13116,.z 13116,.b 2,.b 1,.q 103,.z 12,.b 0] [(0,.ptr 0 0),(2,.w),(6,.w),(25,.oy 1),(26,.w),(27,.w)],fs 229 [.v 2 [1],.q 3] [(0,.ptr 2 0)],f0,fs 228 [.v 6 [2]] [],fs 220 [.v 3 [4]] [],fs 217 [.v 6 [1],.q 7] [(2,.ptr 3 0),(3,.ptr 4 0),(4,.ptr 5 0)],fs 212 [.v 8132 [2,3,4],.q 8133,.b 1,.z 1016,.b 0,.q 255] [(2,.w),(8,.ptr 0 0),(10,.ptr 6 0),(11,.oy 7)]],[(0,o1),(1,.c [.ry]),(2,.c [.ptr 0 0]),(3,.c [.ptr 0 0]),(4,o2),(5,o2),(6,o2),(7,.d [.ry]),(8,o3)],9⟩
def x0:List Spec:=[⟨[fs 230 [.q 103,.z 12,.b 0] [(0,.ptr 0 0),(6,.w)],f4,f0,fs 228 [.v 6 [2]] [],fs 220 [.v 3 [4]] [],f5,f6],[(0,o7),(1,.c [.ptr 0 0]),(2,.c [.ptr 0 0]),(3,o2),(4,o2),(5,o2),(6,.d [.ry]),(7,o3)],8⟩]
abbrev A0:Type:=Int×Int×Int×Int×Bool×Int×LI×Int×Int×Int×LI×LI×LL×LI×LI×LI×LI×LI×LL×Unit
abbrev B0:Type:=(Int×Bool×Int×LI×Int×Int×Int×LI×LI×LL×LI×LI×LI×LI×LL×Unit)
def b0(self:A0->Option B0):A0->Option B0:=fun v_=>match v_ with
|(i,t,t1,t2,m,n,m1,m2,m3,m4,m5,m6,m7,m8,m9)=>
 bif decide (t2<t1)then
  bif inB t2 (m8.length:Int)then
  (O7.run m_ ((ag5.wrap i),(rd 0 m8 t2),())).bind fun r=>
  bif inB (rd 0 m8 t2) 16 then
  bif inB i 256 then
  self (i,t,t1,(ag3.wrap (t2+1)),m,n,m1,m2,m3,m4,m5,m6,(m7.set ((rd 0 m8 t2).toNat) ((rd (ag4 256 (0:Int):List Int) m7 (rd 0 m8 t2)).set i.toNat r)),m8,m9)else none else none else none
 else
  some (t,m,n,m1,m2,m3,m4,m5,m6,m7,m9)
theorem k0:KQ 212 (O m_) [216,217,220,221,222,223,224,225,228,229,230,231,234,235,238,239,240,242,250,251] e0 x0 [] (b0 m_):=fun _ _=>by kernel_rfl
def l0:=loop m_ (b0 m_)
theorem q0(v):l0 .lim v=b0 .lim (l0 .lim) v:=KS.q (k0 .lim) v
def s0:=so m_ (k0 m_)
def e1:Spec:=⟨[fs 230 [.q 12,.z 12,.b 0] [(0,.ptr 0 0),(6,.w)],f4,f0,fs 228 [.v 6 [2]] [],fs 220 [.v 3 [4]] [],f5,f6],[(0,o7),(1,.c [.ptr 0 0]),(2,.c [.ptr 0 0]),(3,o2),(4,o2),(5,o2),(6,.d [.ry]),(7,o3)],8⟩
def x1:List Spec:=[⟨[fs 230 [] [],fs 229 [.v 2 [1],.q 3] [(0,.ptr 0 0)],⟨235,[.v 61 [1]],[],none,[.call 244 [.ptr 1 1,.b],.call 243 [.ptr 1 2]],false⟩,fs 228 [.v 6 [2]] [],fs 220 [.v 3 [4]] [],f5,fs 212 [.v 8132 [2,3,4],.q 8133,.b 1,.z 1016,.b 0,.q 255] [(2,.w),(8,.ptr 1 0),(10,.ptr 5 0),(11,.oy 6)]],[(0,.c [.ptr 1 0]),(1,o7),(2,.c [.ptr 1 0]),(3,o2),(4,o2),(5,o2),(6,.d [.ry]),(7,o3)],8⟩]
abbrev A1:Type:=Int×Bool×Int×LI×Int×Int×Int×LI×LI×LL×LI×LI×LI×LI×LL×Unit
abbrev B1:Type:=(Bool×Int×LI×Int×Int×Int×LI×LI×LL×LI×LI×LI×LI×LL×Unit)
def b1(self:A1->Option B1):A1->Option B1:=fun v_=>match v_ with
|(t,m,n,m1,m2,m3,m4,m5,m6,m7,m8)=>
 bif decide (t<256)then
  (TP.run m_ ((ag5.wrap t),())).bind fun r=>
  bif inB t 256 then
  bif inB r 256 then
  bif vZ (([1,2,3,9,11,13,14]:List Int).length:Int)then
  (MX.l0 m_ (t,t,(([1,2,3,9,11,13,14]:List Int).length:Int),0,m,n,m1,m2,m3,m4,(m5.set t.toNat r),(m6.set r.toNat (ag5.wrap t)),m7,([1,2,3,9,11,13,14]:List Int),m8)).bind fun (t1,m13)=>
  self ((ag3.wrap (t1+1)),m13)else none else none else none
 else
  some (m,n,m1,m2,m3,m4,m5,m6,m7,m8)
theorem k1:KQ 212 (O m_) [216,217,220,221,222,223,224,225,228,229,230,231,234,235,238,239,240,242,250,251] e1 x1 [s0 m_] (b1 m_):=fun _ _=>by kernel_rfl
def l1:=loop m_ (b1 m_)
theorem q1(v):l1 .lim v=b1 .lim (l1 .lim) v:=KS.q (k1 .lim) v
def s1:=so m_ (k1 m_)
def o8:dJ:= .c [.s,.dat (.int .u32),.dat (.int .i32),.dat (.int .u32),.dat Ux,.dat Ux,.dat Uu,.own 13 UD]
def o9:dJ:= .c [.row Zw]
def f10:gG:=⟨235,[.v 61 [1]],[],none,[.call 244 [.ptr 4 1,.b],.call 243 [.ptr 4 2]],false⟩
def f11:gG:=fs 217 [.v 6 [1],.q 7] [(2,.ptr 5 0),(3,.ptr 6 0),(4,.ptr 7 0)]
def f12:gG:=fs 212 [.v 8132 [2,3,4],.q 8133,.b 1,.z 1016,.b 0,.q 255] [(2,.w),(8,.ptr 4 0),(10,.ptr 8 0),(11,.oy 9)]
def o13:dJ:= .c [.own 10 Zw]
def XE:dJ:= .c [.s,.dat (.int .u32),.dat (.int .i32),.dat (.int .u32),.dat Ux,.dat Ux,.dat Uu,.own 11 UD]
def e2:Spec:=⟨[fs 247 [.q 12,.z 12,.b 0] [(0,.fn (.yield 0) []),(1,.ptr 1 0),(2,.ptr 2 0),(4,.w)],⟨231,[.inRange 0,.b 0,.q 31],[(1,.ptr 3 0),(2,.w),(3,.ptr 4 0)],none,[.mark 5],false⟩,fs 229 [.v 3 [1]] [],⟨235,[.v 61 [1]],[],none,[.call 244 [.ptr 6 1,.b],.call 243 [.ptr 6 2]],false⟩,fs 228 [.v 6 [2]] [],fs 220 [.v 3 [4]] [],fs 217 [.v 6 [1],.q 7] [(2,.ptr 7 0),(3,.ptr 8 0),(4,.ptr 9 0)],fs 212 [.v 8132 [2,3,4],.q 8133,.b 1,.z 1016,.b 0,.q 255] [(2,.w),(8,.ptr 6 0),(10,.ptr 10 0),(11,.oy 11)]],[(0,.loop .ready none 231 [(3,.ptr 4 0)] [22] (La 122) 5),(1,.c [.oy 12]),(2,.c [.w]),(3,.c [.ptr 6 0]),(4,.c [.own 5004 Zw]),(5,.deferred false),(6,o8),(7,.c [.ptr 6 0]),(8,o2),(9,o2),(10,o2),(11,.d [.ry]),(12,.d [.ry]),(5004,o9),(13,o3)],5005⟩
def x2:List Spec:=[⟨[fs 247 [] [],⟨231,[.inRange 2,.b 0,.q 31],[(1,.ptr 0 0),(2,.w),(3,.ptr 1 0)],none,[.mark 3],false⟩,fs 229 [.v 3 [1]] [],f10,fs 228 [.v 6 [2]] [],fs 220 [.v 3 [4]] [],f11,f12],[(0,.c [.ptr 4 0]),(1,o13),(2,.loop .ready none 231 [(3,.ptr 1 0)] [22] (La 122) 3),(3,.deferred false),(4,XE),(5,.c [.ptr 4 0]),(6,o2),(7,o2),(8,o2),(9,.d [.ry]),(10,o9),(11,o3)],12⟩]
abbrev A2:Type:=Int×Int×Bool×Int×Int×LI×Int×Int×Int×LI×LI×LL×LI×LI×LI×LI×LI×LL×LL×Unit
abbrev B2:Type:=(Int×Bool×Int×LI×Int×Int×Int×LI×LI×LL×LI×LI×LI×LI×LL×LL×Unit)
def b2(m_:Dq)(self:A2->Option B2):A2->Option B2:=fun v_=>match v_ with
|(i,nk,m,n,m1,m2,m3,m4,m5,m6,m7,m8,m9,m10,m11,m12,m13,m14,m15,())=>
 bif vZ (m13.length:Int)then
 bif decide (i<(m13.length:Int))then
  bif sS i (m13.length:Int) (m13.length:Int)then
  bif vZ ((m13.length:Int)-i)then
  bif((sS i (ag3.wrap (i+(mn m1 ((m13.length:Int)-i)))) (ag3.wrap (i+(mn m1 ((m13.length:Int)-i)))))&&(decide ((ag3.wrap (i+(mn m1 ((m13.length:Int)-i))))<=(m13.length:Int))))then
  bif(ag9 1 4&&ag9 4 (cut m13 i (ag3.wrap (i+(mn m1 ((m13.length:Int)-i))))).length)then
  bif decide (m14.length+([((cut m13 i (ag3.wrap (i+(mn m1 ((m13.length:Int)-i))))).take 4)]:List (List Int)).length<17592186044416)then
  self ((ag3.wrap (i+m1)),nk,m,n,m1,m2,m3,m4,m5,m6,m7,m8,m9,m10,m11,m12,m13,(m14++([((cut m13 i (ag3.wrap (i+(mn m1 ((m13.length:Int)-i))))).take 4)]:List (List Int))),m15,())else none else none else none else none else none
 else
  some (nk,m,n,m2,m3,m4,m5,m6,m7,m8,m9,m10,m11,m12,m14,m15,())else none
theorem k2:KQ 212 (O m_) [216,217,220,221,222,223,224,225,228,229,230,231,234,235,238,239,240,242,250,251] e2 x2 [] (b2 m_):=fun _ _=>by kernel_rfl
def l2:=loop m_ (b2 m_)
theorem q2(v):l2 .lim v=b2 .lim (l2 .lim) v:=KS.q (k2 .lim) v
def s2:=so m_ (k2 m_)
def o15:dJ:= .c [.dat Zw]
def e3:Spec:=⟨[⟨231,[.q 518452,.z 518452,.b 4,.q 64807,.b 3,.q 4051,.z 1012,.b 2,.q 127],[(1,.ptr 0 0),(2,.w),(3,.ptr 1 0),(5,.y),(6,.w),(7,.ptr 2 0),(115,.w)],none,[.mark 3],false⟩,fs 229 [.v 3 [1]] [],f10,fs 228 [.v 6 [2]] [],fs 220 [.v 3 [4]] [],f11,f12],[(0,.c [.ptr 4 0]),(1,o13),(2,o15),(3,.deferred false),(4,XE),(5,.c [.ptr 4 0]),(6,o2),(7,o2),(8,o2),(9,.d [.ry]),(10,o9),(11,o3)],12⟩
def x3:List Spec:=[⟨[⟨231,[.q 64807,.b 3,.q 4051,.z 1012,.b 2,.q 127],[(1,.ptr 0 0),(2,.w),(3,.ptr 1 0),(5,.y),(6,.w),(7,.ptr 2 0)],none,[.mark 3],false⟩,fs 229 [.v 3 [1]] [],f10,fs 228 [.v 6 [2]] [],fs 220 [.v 3 [4]] [],f11,f12],[(0,.c [.ptr 4 0]),(1,o13),(2,o15),(3,.deferred false),(4,XE),(5,.c [.ptr 4 0]),(6,o2),(7,o2),(8,o2),(9,.d [.ry]),(10,o9),(11,o3)],12⟩]
abbrev A3:Type:=Int×Int×Int×Int×Bool×Int×LI×LI×Int×Int×Int×LI×LI×LL×LI×LI×LI×LI×LL×LL×Unit
abbrev B3:Type:=(Int×Int×Int×Bool×Int×LI×LI×Int×Int×Int×LI×LI×LL×LI×LI×LI×LI×LL×LL×Unit)
def b3(m_:Dq)(self:A3->Option B3):A3->Option B3:=fun v_=>match v_ with
|(nk,x,i,t,m,n,m1,m2,m3,m4,m5,m6,m7,m8,m9,m10,m11,m12,m13,m14,())=>
 bif decide (t<4)then
  bif inB t 4 then
  bif inB (ag3.wrap (i-nk)) (m13.length:Int)then
  bif inB t 4 then
  bif inB t 4 then
  self (nk,x,i,(ag3.wrap (t+1)),m,n,(m1.set t.toNat (H8 .u8 (rd 0 m1 t) (rd 0 (rd (ag4 4 (0:Int):List Int) m13 (ag3.wrap (i-nk))) t))),m2,m3,m4,m5,m6,m7,m8,m9,m10,m11,m12,m13,m14,())else none else none else none else none
 else
  some (nk,x,i,m,n,m1,m2,m3,m4,m5,m6,m7,m8,m9,m10,m11,m12,m13,m14,())
theorem k3:KQ 212 (O m_) [216,217,220,221,222,223,224,225,228,229,230,231,234,235,238,239,240,242,250,251] e3 x3 [] (b3 m_):=fun _ _=>by kernel_rfl
def l3:=loop m_ (b3 m_)
theorem q3(v):l3 .lim v=b3 .lim (l3 .lim) v:=KS.q (k3 .lim) v
def s3:=so m_ (k3 m_)
def f16:gG:=⟨235,[.v 61 [1]],[],none,[.call 244 [.ptr 3 1,.b],.call 243 [.ptr 3 2]],false⟩
def f17:gG:=fs 217 [.v 6 [1],.q 7] [(2,.ptr 4 0),(3,.ptr 5 0),(4,.ptr 6 0)]
def f18:gG:=fs 212 [.v 8132 [2,3,4],.q 8133,.b 1,.z 1016,.b 0,.q 255] [(2,.w),(8,.ptr 3 0),(10,.ptr 7 0),(11,.oy 8)]
def o19:dJ:= .c [.own 9 Zw]
def o20:dJ:= .c [.s,.dat (.int .u32),.dat (.int .i32),.dat (.int .u32),.dat Ux,.dat Ux,.dat Uu,.own 10 UD]
def e4:Spec:=⟨[⟨231,[.q 1012,.z 1012,.b 2,.q 127],[(1,.ptr 0 0),(2,.w),(3,.ptr 1 0),(5,.y),(6,.w)],none,[.mark 2],false⟩,fs 229 [.v 3 [1]] [],f16,fs 228 [.v 6 [2]] [],fs 220 [.v 3 [4]] [],f17,f18],[(0,.c [.ptr 3 0]),(1,o19),(2,.deferred false),(3,o20),(4,.c [.ptr 3 0]),(5,o2),(6,o2),(7,o2),(8,.d [.ry]),(9,o9),(10,o3)],11⟩
def x4:List Spec:=[⟨[⟨231,[.q 127],[(1,.ptr 0 0),(3,.ptr 1 0)],none,[.mark 2],false⟩,fs 229 [.v 3 [1]] [],f16,fs 228 [.v 6 [2]] [],fs 220 [.v 3 [4]] [],f17,f18],[(0,.c [.ptr 3 0]),(1,o19),(2,.deferred false),(3,o20),(4,.c [.ptr 3 0]),(5,o2),(6,o2),(7,o2),(8,.d [.ry]),(9,o9),(10,o3)],11⟩]
abbrev A4:Type:=Int×Int×Int×Bool×Int×LI×Int×Int×Int×LI×LI×LL×LI×LI×LI×LI×LL×LL×Unit
abbrev B4:Type:=(Bool×Int×LI×Int×Int×Int×LI×LI×LL×LI×LI×LI×LI×LL×LL×Unit)
def b4(self:A4->Option B4):A4->Option B4:=fun v_=>match v_ with
|(nk,x,i,m,n,m1,m2,m3,m4,m5,m6,m7,m8,m9,m10,m11,m12,m13,())=>
 bif decide (i<(ag3.wrap (4*(ag3.wrap (nk+7)))))then
  bif inB (ag3.wrap (i-1)) (m12.length:Int)then
  bif !(decide (nk=0))then
  bif decide ((i.tmod nk)=0)then
   bif inB (rd 0 (rd (ag4 4 (0:Int):List Int) m12 (ag3.wrap (i-1))) 1) 256 then
   bif inB (rd 0 (rd (ag4 4 (0:Int):List Int) m12 (ag3.wrap (i-1))) 2) 256 then
   bif inB (rd 0 (rd (ag4 4 (0:Int):List Int) m12 (ag3.wrap (i-1))) 3) 256 then
   bif inB (rd 0 (rd (ag4 4 (0:Int):List Int) m12 (ag3.wrap (i-1))) 0) 256 then
   (O7.run m_ (x,2,())).bind fun r=>
   (MX.l3 m_ (nk,r,i,0,m,n,(((((ag4 4 (0:Int):List Int).set 0 (H8 .u8 (rd 0 m5 (rd 0 (rd (ag4 4 (0:Int):List Int) m12 (ag3.wrap (i-1))) 1)) x)).set 1 (rd 0 m5 (rd 0 (rd (ag4 4 (0:Int):List Int) m12 (ag3.wrap (i-1))) 2))).set 2 (rd 0 m5 (rd 0 (rd (ag4 4 (0:Int):List Int) m12 (ag3.wrap (i-1))) 3))).set 3 (rd 0 m5 (rd 0 (rd (ag4 4 (0:Int):List Int) m12 (ag3.wrap (i-1))) 0))),m1,m2,m3,m4,m5,m6,m7,m8,m9,m10,m11,m12,m13,())).bind fun (nk1,x1,i1,m14,n1,m15,m16,m17,m18,m19,m20,m21,m22,m23,m24,Uf,TS,Uz,TT,())=>
   bif decide (Uz.length+([m15]:List (List Int)).length<17592186044416)then
   self (nk1,x1,(ag3.wrap (i1+1)),m14,n1,m16,m17,m18,m19,m20,m21,m22,m23,m24,Uf,TS,(Uz++([m15]:List (List Int))),TT,())else none else none else none else none else none
  else
   bif((!(decide (nk=8)))||true)then
   bif((decide (nk=8))&&(decide ((i.tmod 8)=4)))then
    bif inB (rd 0 (rd (ag4 4 (0:Int):List Int) m12 (ag3.wrap (i-1))) 0) 256 then
    bif inB (rd 0 (rd (ag4 4 (0:Int):List Int) m12 (ag3.wrap (i-1))) 1) 256 then
    bif inB (rd 0 (rd (ag4 4 (0:Int):List Int) m12 (ag3.wrap (i-1))) 2) 256 then
    bif inB (rd 0 (rd (ag4 4 (0:Int):List Int) m12 (ag3.wrap (i-1))) 3) 256 then
    (MX.l3 m_ (nk,x,i,0,m,n,(((((ag4 4 (0:Int):List Int).set 0 (rd 0 m5 (rd 0 (rd (ag4 4 (0:Int):List Int) m12 (ag3.wrap (i-1))) 0))).set 1 (rd 0 m5 (rd 0 (rd (ag4 4 (0:Int):List Int) m12 (ag3.wrap (i-1))) 1))).set 2 (rd 0 m5 (rd 0 (rd (ag4 4 (0:Int):List Int) m12 (ag3.wrap (i-1))) 2))).set 3 (rd 0 m5 (rd 0 (rd (ag4 4 (0:Int):List Int) m12 (ag3.wrap (i-1))) 3))),m1,m2,m3,m4,m5,m6,m7,m8,m9,m10,m11,m12,m13,())).bind fun (nk2,x2,i2,Ul,n2,Vx,VN,m32,Vo,XV,YG,XW,YH,m38,Zm,Zn,m41,ZK,ZL,())=>
    bif decide (ZK.length+([Vx]:List (List Int)).length<17592186044416)then
    self (nk2,x2,(ag3.wrap (i2+1)),Ul,n2,VN,m32,Vo,XV,YG,XW,YH,m38,Zm,Zn,m41,(ZK++([Vx]:List (List Int))),ZL,())else none else none else none else none else none
   else
    (MX.l3 m_ (nk,x,i,0,m,n,(rd (ag4 4 (0:Int):List Int) m12 (ag3.wrap (i-1))),m1,m2,m3,m4,m5,m6,m7,m8,m9,m10,m11,m12,m13,())).bind fun (nk3,x3,i3,ZM,n3,Zo,ZN,m47,m48,m49,m50,m51,m52,Zp,Y2,ZO,Zq,Zr,m58,())=>
    bif decide (Zr.length+([Zo]:List (List Int)).length<17592186044416)then
    self (nk3,x3,(ag3.wrap (i3+1)),ZM,n3,ZN,m47,m48,m49,m50,m51,m52,Zp,Y2,ZO,Zq,(Zr++([Zo]:List (List Int))),m58,())else none else none else none else none
 else
  some (m,n,m1,m2,m3,m4,m5,m6,m7,m8,m9,m10,m11,m12,m13,())
theorem k4:KQ 212 (O m_) [216,217,220,221,222,223,224,225,228,229,230,231,234,235,238,239,240,242,250,251] e4 x4 [s3 m_] (b4 m_):=fun _ _=>by kernel_rfl
def l4:=loop m_ (b4 m_)
theorem q4(v):l4 .lim v=b4 .lim (l4 .lim) v:=KS.q (k4 .lim) v
def s4:=so m_ (k4 m_)
def e5:Spec:=⟨[fs 248 [.q 12,.z 12,.b 0] [(0,.fn (.yield 0) []),(1,.ptr 1 0),(2,.ptr 2 0),(4,.w)],⟨231,[.inRange 0,.b 6],[],none,[.mark 3,.mark 4],false⟩,fs 229 [.v 3 [1]] [],⟨235,[.v 61 [1]],[],none,[.call 244 [.ptr 5 1,.b],.call 243 [.ptr 5 2]],false⟩,fs 228 [.v 6 [2]] [],fs 220 [.v 3 [4]] [],fs 217 [.v 6 [1],.q 7] [(2,.ptr 6 0),(3,.ptr 7 0),(4,.ptr 8 0)],fs 212 [.v 8132 [2,3,4],.q 8133,.b 1,.z 1016,.b 0,.q 255] [(2,.w),(8,.ptr 5 0),(10,.ptr 9 0),(11,.oy 10)]],[(0,.loop .ready none 231 [(1,.ptr 11 0)] [138] (La 510) 3),(1,.c [.own 12 Zw]),(2,.c [.w]),(3,.deferred false),(4,.deferred false),(5,o8),(6,.c [.ptr 5 0]),(7,o2),(8,o2),(9,o2),(10,.d [.ry]),(11,.d [.ptr 5 0]),(12,.d [.row Zw]),(13,o3)],14⟩
def x5:List Spec:=[⟨[fs 248 [] [],⟨231,[.inRange 0,.b 6],[],none,[.mark 1,.mark 2],false⟩,fs 229 [.v 3 [1]] [],f16,fs 228 [.v 6 [2]] [],fs 220 [.v 3 [4]] [],f17,f18],[(0,.loop .ready none 231 [(1,.ptr 9 0)] [138] (La 510) 1),(1,.deferred false),(2,.deferred false),(3,o20),(4,.c [.ptr 3 0]),(5,o2),(6,o2),(7,o2),(8,.d [.ry]),(9,.d [.ptr 3 0]),(10,o3)],11⟩]
abbrev A5:Type:=Int×Bool×Int×Int×LI×Int×Int×Int×LI×LI×LL×LI×LI×LI×LI×LL×LL×Unit
abbrev B5:Type:=(Bool×Int×LI×Int×Int×Int×LI×LI×LL×LI×LI×LI×LI×LL×Unit)
def b5(self:A5->Option B5):A5->Option B5:=fun v_=>match v_ with
|(i,m,n,m1,m2,m3,m4,m5,m6,m7,m8,m9,m10,m11,m12,m13,m14,())=>
 bif vZ (m13.length:Int)then
 bif decide (i<(m13.length:Int))then
  bif sS i (m13.length:Int) (m13.length:Int)then
  bif vZ ((m13.length:Int)-i)then
  bif((sS i (ag3.wrap (i+(mn m1 ((m13.length:Int)-i)))) (ag3.wrap (i+(mn m1 ((m13.length:Int)-i)))))&&(decide ((ag3.wrap (i+(mn m1 ((m13.length:Int)-i))))<=(m13.length:Int))))then
  bif inB 0 ((cut m13 i (ag3.wrap (i+(mn m1 ((m13.length:Int)-i))))).length:Int)then
  bif inB 1 ((cut m13 i (ag3.wrap (i+(mn m1 ((m13.length:Int)-i))))).length:Int)then
  bif inB 2 ((cut m13 i (ag3.wrap (i+(mn m1 ((m13.length:Int)-i))))).length:Int)then
  bif inB 3 ((cut m13 i (ag3.wrap (i+(mn m1 ((m13.length:Int)-i))))).length:Int)then
  (Nl.run m_ (([(cut (rd (ag4 4 (0:Int):List Int) (cut m13 i (ag3.wrap (i+(mn m1 ((m13.length:Int)-i))))) 0) 0 4),(cut (rd (ag4 4 (0:Int):List Int) (cut m13 i (ag3.wrap (i+(mn m1 ((m13.length:Int)-i))))) 1) 0 4),(cut (rd (ag4 4 (0:Int):List Int) (cut m13 i (ag3.wrap (i+(mn m1 ((m13.length:Int)-i))))) 2) 0 4),(cut (rd (ag4 4 (0:Int):List Int) (cut m13 i (ag3.wrap (i+(mn m1 ((m13.length:Int)-i))))) 3) 0 4)]:List (List Int)),())).bind fun r=>
  bif(ag9 1 16&&ag9 16 r.length)then
  bif decide (m14.length+([(r.take 16)]:List (List Int)).length<4398046511104)then
  self ((ag3.wrap (i+m1)),m,n,m1,m2,m3,m4,m5,m6,m7,m8,m9,m10,m11,m12,m13,(m14++([(r.take 16)]:List (List Int))),())else none else none else none else none else none else none else none else none else none
 else
  some (m,n,m2,m3,m4,m5,m6,m7,m8,m9,m10,m11,m12,m14,())else none
theorem k5:KQ 212 (O m_) [216,217,220,221,222,223,224,225,228,229,230,231,234,235,238,239,240,242,250,251] e5 x5 [] (b5 m_):=fun _ _=>by kernel_rfl
def l5:=loop m_ (b5 m_)
theorem q5(v):l5 .lim v=b5 .lim (l5 .lim) v:=KS.q (k5 .lim) v
def s5:=so m_ (k5 m_)
def o21:dJ:= .c [.s,.dat (.int .u32),.dat (.int .i32),.dat (.int .u32),.dat Ux,.dat Ux,.dat Uu,.own 6 UD]
def f22:gG:=fs 212 [.v 8132 [2,3,4],.q 8133,.b 1,.z 1016,.b 0,.q 255] [(2,.w),(8,.ptr 3 0),(10,.ptr 4 0),(11,.oy 5)]
def e6:Spec:=⟨[fs 220 [.q 1] [(0,.ptr 0 0)],fs 217 [.v 6 [1],.q 7] [(2,.ptr 1 0),(3,.ptr 2 0),(4,.ptr 3 0)],fs 212 [.v 8132 [2,3,4],.q 8133,.b 1,.z 1016,.b 0,.q 255] [(2,.w),(8,.ptr 0 0),(10,.ptr 4 0),(11,.oy 5)]],[(0,o21),(1,.c [.ptr 0 0]),(2,o2),(3,o2),(4,o2),(5,.d [.ry]),(6,o3)],7⟩
def x6:List Spec:=[⟨[fs 220 [] [],fs 217 [.v 6 [1],.q 7] [(2,.ptr 0 0),(3,.ptr 1 0),(4,.ptr 2 0)],f22],[(0,.c [.ptr 3 0]),(1,o2),(2,o2),(3,o21),(4,o2),(5,.d [.ry]),(6,o3)],7⟩]
abbrev A6:Type:=Int×LI×Int×Int×Int×LI×LI×LL×LI×LI×LI×LI×LL×Unit
abbrev B6:Type:=(Int×LI×LI×LI×Int×Int×Int×LI×LI×LL×LI×LI×LL×Unit)
def b6(self:A6->Option B6):A6->Option B6:=fun v_=>match v_ with
|(n,m,m1,m2,m3,m4,m5,m6,m7,m8,m9)=>
 bif !(!(decide (m1=0)))then
  bif decide (m2=0)then
  bif !(!(decide (m1=0)))then
   (MX.l1 m_ (0,true,n,m,m1,(bif decide (m2=0)then 1 else m2),m3,m4,m5,m6,m7,m8,m9)).bind fun (m12,n1,m13,m14,m15,m16,m17,m18,m19,m20,m21,m22,m23,m24,())=>
   bif vZ (m13.length:Int)then
   (MX.l2 m_ (0,(ag3.wrap ((m13.length:Int).tdiv 4)),m12,n1,4,m13,m14,m15,m16,m17,m18,m19,m20,m21,m22,m23,m13,([]:List (List Int)),m24,())).bind fun (nk,Uf)=>
   (MX.l4 m_ (nk,1,nk,Uf)).bind fun (Zm,n3,Zn)=>
   (MX.l5 m_ (0,Zm,n3,4,Zn)).bind fun (Zp,n4,Y2,ZO,Zq,Zr,m58,m59,m60,m61,m62,m63)=>
   (PX.run m_ (Zp,())).bind fun r=>
   bif !(decide ((ag8.wrap (Zq+(-1)))=0))then
    none
   else
    some (n4,m61,m62,Y2,r,(ag8.wrap (Zq+(-1))),Zr,m58,m59,m60,m63)else none
  else
   bif !(decide ((ag8.wrap ((bif decide (m2=0)then 1 else m2)+(-1)))=0))then
    none
   else
    some (n,m7,m8,m,m1,(ag8.wrap ((bif decide (m2=0)then 1 else m2)+(-1))),m3,m4,m5,m6,m9)else none
 else
  some (n,m7,m8,m,m1,m2,m3,m4,m5,m6,m9)
theorem k6:KQ 212 (O m_) [216,217,220,221,222,223,224,225,228,229,230,231,234,235,238,239,240,242,250,251] e6 x6 [s1 m_,s2 m_,s4 m_,s5 m_] (b6 m_):=fun _ _=>by kernel_rfl
def l6:=loop m_ (b6 m_)
theorem q6(v):l6 .lim v=b6 .lim (l6 .lim) v:=KS.q (k6 .lim) v
def s6:=so m_ (k6 m_)
def f23:gG:=fs 221 [.q 28,.z 28,.b 0] [(0,.ptr 0 0),(3,.ptr 1 0),(5,.w)]
def f24:gG:=fs 212 [.v 8132 [2,3,4],.q 8133,.b 1,.z 1016,.b 0,.q 255] [(2,.w),(8,.ptr 4 0),(10,.ptr 5 0),(11,.oy 6)]
def e7:Spec:=⟨[f23,fs 217 [.v 14 [6],.q 15] [(2,.ptr 2 0),(3,.ptr 0 0),(4,.ptr 3 0)],f24],[(0,o2),(1,o2),(2,.c [.ptr 4 0]),(3,o2),(4,o7),(5,o2),(6,.d [.ry]),(7,o3)],8⟩
def x7:List Spec:=[⟨[fs 221 [] [],fs 217 [.v 14 [6],.q 15] [(2,.ptr 0 0),(3,.ptr 1 0),(4,.ptr 2 0)],f22],[(0,.c [.ptr 3 0]),(1,o2),(2,o2),(3,o21),(4,o2),(5,.d [.ry]),(6,o3)],7⟩]
abbrev A7:Type:=Int×Int×LI×LI×LI×LI×Int×Int×Int×LI×LI×LL×LI×LI×LL×Unit
abbrev B7:Type:=(Int×LI×LI×LI×Int×Int×Int×LI×LI×LL×LI×LI×LL×Unit)
def b7(m_:Dq)(self:A7->Option B7):A7->Option B7:=fun v_=>match v_ with
|(t,n,m,m1,m2)=>
 bif decide (t<16)then
  bif inB t 16 then
  bif inB t 16 then
  bif inB t 16 then
  self ((ag3.wrap (t+1)),n,(m.set t.toNat (H8 .u8 (rd 0 m t) (rd 0 m1 t))),m1,m2)else none else none else none
 else
  some (n,m,m2)
theorem k7:KQ 212 (O m_) [216,217,220,221,222,223,224,225,228,229,230,231,234,235,238,239,240,242,250,251] e7 x7 [] (b7 m_):=fun _ _=>by kernel_rfl
def l7:=loop m_ (b7 m_)
theorem q7(v):l7 .lim v=b7 .lim (l7 .lim) v:=KS.q (k7 .lim) v
def s7:=so m_ (k7 m_)
def f25:gG:=fs 232 [.v 818 [10,11],.q 819,.b 1,.q 103,.z 12,.b 0] [(0,.fn (.yield 4) []),(1,.ptr 5 0),(9,.slc 6 0 none UD),(10,.w),(11,.w)]
def f26:gG:=⟨217,[.inRange 4,.b 0,.q 31],[(3,.ptr 0 0),(4,.ptr 7 0)],none,[.mark 8],false⟩
def o27:dJ:= .loop .busy none 217 [(2,.ptr 2 0),(3,.ptr 0 0)] [18,19] (La 122) 8
def f28:gG:=fs 232 [.v 818 [10,11],.q 819,.b 1,.q 103,.z 12,.b 0] [(0,.fn (.yield 3) []),(1,.ptr 4 0),(9,.slc 5 0 none UD),(10,.w),(11,.w)]
def f29:gG:=⟨217,[.inRange 3,.b 0,.q 31],[(3,.ptr 1 0),(4,.ptr 6 0)],none,[.mark 7],false⟩
def f30:gG:=fs 212 [.v 8132 [2,3,4],.q 8133,.b 1,.z 1016,.b 0,.q 255] [(2,.w),(8,.ptr 8 0),(10,.ptr 9 0),(11,.oy 10)]
def o31:dJ:= .loop .busy none 217 [(2,.ptr 0 0),(3,.ptr 1 0)] [18,19] (La 122) 7
def o32:dJ:= .c [.s,.dat (.int .u32),.dat (.int .i32),.dat (.int .u32),.dat Ux,.dat Ux,.dat Uu,.own 5 UD]
def e8:Spec:=⟨[fs 223 [.q 12,.z 12,.b 0] [(0,.ptr 0 0),(1,.ptr 1 4),(6,.ptr 0 0),(7,.w)],⟨217,[.v 980 [3],.q 981,.b 1],[(2,.ptr 2 0),(3,.ptr 0 0),(5,.ptr 3 0),(6,.b)],some 4,[],false⟩,f25,f26,fs 212 [.v 8132 [2,3,4],.q 8133,.b 1,.z 1016,.b 0,.q 255] [(2,.w),(8,.ptr 1 0),(10,.ptr 9 0),(11,.oy 10)]],[(0,o2),(1,o21),(2,.c [.ptr 1 0]),(3,o2),(4,o27),(5,.c [.ptr 1 0]),(6,o3),(7,o2),(8,.deferred false),(9,o2),(10,.d [.ry])],11⟩
def x8:List Spec:=[⟨[fs 223 [] [],⟨217,[.v 980 [3],.q 981,.b 1],[(2,.ptr 0 0),(3,.ptr 1 0),(5,.ptr 2 0),(6,.b)],some 3,[],false⟩,f28,f29,f30],[(0,.c [.ptr 8 0]),(1,o2),(2,o2),(3,o31),(4,.c [.ptr 8 0]),(5,o3),(6,o2),(7,.deferred false),(8,o32),(9,o2),(10,.d [.ry])],11⟩]
abbrev A8:Type:=Int×Bool×Int×Int×Int×Int×Int×LI×LI×Int×Int×Int×LI×LI×LL×LI×LL×LI×LI×LI×Unit
abbrev B8:Type:=(Bool×Int×Int×Int×Int×Int×LI×LI×LL×LI×LI×Int×Int×Int×LI×LI×LL×LI×LI×Unit)
def b8(m_:Dq)(self:A8->Option B8):A8->Option B8:=fun v_=>match v_ with
|(t,last,tp,tq,t1,t2,n,m,m1,m2,m3,m4,m5,m6,m7,m8,m9,m10,m11,m12,())=>
 bif decide (t<16)then
  bif inB t 16 then
  bif inB (rd 0 m t) 256 then
  bif inB t 16 then
  self ((ag3.wrap (t+1)),last,tp,tq,t1,t2,n,(m.set t.toNat (rd 0 m5 (rd 0 m t))),m1,m2,m3,m4,m5,m6,m7,m8,m9,m10,m11,m12,())else none else none else none
 else
  some (last,tp,tq,t1,t2,n,m,m8,m9,m10,m1,m2,m3,m4,m5,m6,m7,m11,m12,())
theorem k8:KQ 212 (O m_) [216,217,220,221,222,223,224,225,228,229,230,231,234,235,238,239,240,242,250,251] e8 x8 [] (b8 m_):=fun _ _=>by kernel_rfl
def l8:=loop m_ (b8 m_)
theorem q8(v):l8 .lim v=b8 .lim (l8 .lim) v:=KS.q (k8 .lim) v
def s8:=so m_ (k8 m_)
def e9:Spec:=⟨[fs 224 [.q 28,.z 28,.b 0] [(0,.ptr 0 0),(1,.w),(4,.ptr 1 0),(9,.w)],⟨217,[.v 1962 [0],.q 1963,.b 1],[(2,.ptr 2 0),(3,.ptr 0 0),(5,.ptr 3 0),(6,.b)],some 4,[],false⟩,f25,f26,fs 212 [.v 8132 [2,3,4],.q 8133,.b 1,.z 1016,.b 0,.q 255] [(2,.w),(8,.ptr 9 0),(10,.ptr 10 0),(11,.oy 11)]],[(0,o2),(1,o2),(2,.c [.ptr 9 0]),(3,o2),(4,o27),(5,.c [.ptr 9 0]),(6,o3),(7,o2),(8,.deferred false),(9,o21),(10,o2),(11,.d [.ry])],12⟩
def x9:List Spec:=[⟨[fs 224 [] [],⟨217,[.v 1962 [0],.q 1963,.b 1],[(2,.ptr 0 0),(3,.ptr 1 0),(5,.ptr 2 0),(6,.b)],some 3,[],false⟩,f28,f29,f30],[(0,.c [.ptr 8 0]),(1,o2),(2,o2),(3,o31),(4,.c [.ptr 8 0]),(5,o3),(6,o2),(7,.deferred false),(8,o32),(9,o2),(10,.d [.ry])],11⟩]
abbrev A9:Type:=Int×Int×Bool×Int×Int×Int×Int×Int×LI×LI×LI×LL×LI×LI×Int×Int×Int×LI×LI×LL×LI×LI×Unit
abbrev B9:Type:=(Bool×Int×Int×Int×Int×Int×LI×LI×LL×LI×LI×Int×Int×Int×LI×LI×LL×LI×LI×Unit)
def b9(m_:Dq)(self:A9->Option B9):A9->Option B9:=fun v_=>match v_ with
|(byV,t,last,tp,tq,t1,t2,n,m,m1,m2)=>
 bif decide (t<16)then
  bif inB ((ag3.wrap ((ag3.wrap (t+(ag3.wrap (byV*(t.tmod 4)))))+64)).tmod 16) 16 then
  bif inB t 16 then
  self (byV,(ag3.wrap (t+1)),last,tp,tq,t1,t2,n,(m.set t.toNat (rd 0 m1 ((ag3.wrap ((ag3.wrap (t+(ag3.wrap (byV*(t.tmod 4)))))+64)).tmod 16))),m1,m2)else none else none
 else
  some (last,tp,tq,t1,t2,n,m,m2)
theorem k9:KQ 212 (O m_) [216,217,220,221,222,223,224,225,228,229,230,231,234,235,238,239,240,242,250,251] e9 x9 [] (b9 m_):=fun _ _=>by kernel_rfl
def l9:=loop m_ (b9 m_)
theorem q9(v):l9 .lim v=b9 .lim (l9 .lim) v:=KS.q (k9 .lim) v
def s9:=so m_ (k9 m_)
def f33:gG:=⟨217,[.v 15706 [2],.q 3927,.b 1],[(3,.ptr 1 0),(5,.ptr 4 0)],some 5,[],false⟩
def f34:gG:=fs 232 [.v 818 [10,11],.q 819,.b 1,.q 103,.z 12,.b 0] [(0,.fn (.yield 5) []),(1,.ptr 6 0),(9,.slc 7 0 none UD),(10,.w),(11,.w)]
def f35:gG:=⟨217,[.inRange 5,.b 0,.q 31],[(3,.ptr 1 0),(4,.ptr 8 0)],none,[.mark 9],false⟩
def f36:gG:=fs 212 [.v 8132 [2,3,4],.q 8133,.b 1,.z 1016,.b 0,.q 255] [(2,.w),(8,.ptr 0 0),(10,.ptr 10 0),(11,.oy 11)]
def o37:dJ:= .loop .busy none 217 [(2,.ptr 12 0),(3,.ptr 1 0)] [18,19] (La 122) 9
def e10:Spec:=⟨[fs 225 [.q 31132,.z 31132,.b 2,.b 1,.q 487,.z 60,.b 0] [(0,.ptr 0 0),(1,.ptr 1 0),(5,.ptr 2 0),(6,.ptr 3 0),(7,.w),(13,.w),(20,.dat Zw),(21,.w)],f33,f34,f35,f36],[(0,o7),(1,o2),(2,o15),(3,o2),(4,o2),(5,o37),(6,.c [.ptr 0 0]),(7,o3),(8,o2),(9,.deferred false),(10,o2),(11,.d [.ry]),(12,.c [.ptr 0 0])],13⟩
def x10:List Spec:=[⟨[fs 225 [.q 487,.z 60,.b 0] [(0,.ptr 0 0),(1,.ptr 1 0),(5,.ptr 2 0),(6,.ptr 3 0),(13,.w)],f33,f34,f35,f36],[(0,o7),(1,o2),(2,o15),(3,o2),(4,o2),(5,o37),(6,.c [.ptr 0 0]),(7,o3),(8,o2),(9,.deferred false),(10,o2),(11,.d [.ry]),(12,.c [.ptr 0 0])],13⟩]
abbrev A10:Type:=Int×Int×LI×Int×Int×Int×Int×Int×Int×LI×Int×Int×Int×LI×LI×LL×LI×LI×LI×LI×LL×LI×LI×LI×Unit
abbrev B10:Type:=(Int×Int×Int×Int×Int×Int×LI×Int×Int×Int×LI×LI×LL×LI×LI×LI×LI×LL×LI×LI×LI×Unit)
def b10(m_:Dq)(self:A10->Option B10):A10->Option B10:=fun v_=>match v_ with
|(i,t,t1,t2,tp,tq,t3,t4,n,m,m1,m2,m3,m4,m5,m6,m7,m8,m9,m10)=>
 bif decide (t2<4)then
  bif inB t2 4 then
  bif inB i 16 then
  bif inB (ag3.wrap ((ag3.wrap ((ag3.wrap (i.tdiv 4))*4))+((ag3.wrap (i+t2)).tmod 4))) 16 then
  bif inB (rd 0 t1 t2) 16 then
  bif inB (rd 0 m9 (ag3.wrap ((ag3.wrap ((ag3.wrap (i.tdiv 4))*4))+((ag3.wrap (i+t2)).tmod 4)))) 256 then
  bif inB i 16 then
  self (i,t,t1,(ag3.wrap (t2+1)),tp,tq,t3,t4,n,m,m1,m2,m3,m4,m5,m6,(m7.set i.toNat (H8 .u8 (rd 0 m7 i) (rd 0 (rd (ag4 256 (0:Int):List Int) m6 (rd 0 t1 t2)) (rd 0 m9 (ag3.wrap ((ag3.wrap ((ag3.wrap (i.tdiv 4))*4))+((ag3.wrap (i+t2)).tmod 4))))))),m8,m9,m10)else none else none else none else none else none else none
 else
  some (t,tp,tq,t3,t4,n,m,m1,m2,m3,m4,m5,m6,m7,m8,m9,m10)
theorem k10:KQ 212 (O m_) [216,217,220,221,222,223,224,225,228,229,230,231,234,235,238,239,240,242,250,251] e10 x10 [] (b10 m_):=fun _ _=>by kernel_rfl
def l10:=loop m_ (b10 m_)
theorem q10(v):l10 .lim v=b10 .lim (l10 .lim) v:=KS.q (k10 .lim) v
def s10:=so m_ (k10 m_)
def f38:gG:=fs 232 [.v 818 [10,11],.q 819,.b 1,.q 103,.z 12,.b 0] [(0,.fn (.yield 2) []),(1,.ptr 3 0),(9,.slc 4 0 none UD),(10,.w),(11,.w)]
def f39:gG:=⟨217,[.inRange 2,.b 0,.q 31],[(3,.ptr 0 0),(4,.ptr 5 0)],none,[.mark 6],false⟩
def f40:gG:=fs 212 [.v 8132 [2,3,4],.q 8133,.b 1,.z 1016,.b 0,.q 255] [(2,.w),(8,.ptr 7 0),(10,.ptr 8 0),(11,.oy 9)]
def o41:dJ:= .loop .busy none 217 [(2,.ptr 10 0),(3,.ptr 0 0)] [18,19] (La 122) 6
def o42:dJ:= .c [.s,.dat (.int .u32),.dat (.int .i32),.dat (.int .u32),.dat Ux,.dat Ux,.dat Uu,.own 4 UD]
def e11:Spec:=⟨[fs 225 [.q 60,.z 60,.b 0] [(0,.ptr 0 0),(1,.ptr 1 0),(5,.ptr 2 0),(6,.ptr 3 0),(13,.w)],f33,f34,f35,f36],[(0,o7),(1,o2),(2,o15),(3,o2),(4,o2),(5,o37),(6,.c [.ptr 0 0]),(7,o3),(8,o2),(9,.deferred false),(10,o2),(11,.d [.ry]),(12,.c [.ptr 0 0])],13⟩
def x11:List Spec:=[⟨[fs 225 [] [],⟨217,[.v 15706 [2],.q 3927,.b 1],[(3,.ptr 0 0),(5,.ptr 1 0)],some 2,[],false⟩,f38,f39,f40],[(0,o2),(1,o2),(2,o41),(3,.c [.ptr 7 0]),(4,o3),(5,o2),(6,.deferred false),(7,o42),(8,o2),(9,.d [.ry]),(10,.c [.ptr 7 0])],11⟩]
abbrev A11:Type:=Int×Int×Int×Int×Int×Int×LI×Int×Int×Int×LI×LI×LL×LI×LI×LI×LI×LL×LI×LI×LI×Unit
abbrev B11:Type:=(Int×Int×Int×Int×Int×LI×LI×LL×LI×LI×Int×Int×Int×LI×LI×LL×LI×LI×Unit)
def b11(self:A11->Option B11):A11->Option B11:=fun v_=>match v_ with
|(t,tp,tq,t1,t2,n,m,m1,m2,m3,m4,m5,m6,m7,m8,m9,m10,m11,m12,m13,m14,())=>
 bif decide (t<16)then
  bif inB t 16 then
  (MX.l10 m_ (t,t,m8,0,tp,tq,t1,t2,n,m,m1,m2,m3,m4,m5,m6,(m7.set t.toNat 0),m8,m9,m10,m11,m12,m13,m14,())).bind fun (t3,tp1)=>
  self ((ag3.wrap (t3+1)),tp1)else none
 else
  some (tp,tq,t1,t2,n,m7,m10,m11,m12,m,m1,m2,m3,m4,m5,m6,m13,m14,())
theorem k11:KQ 212 (O m_) [216,217,220,221,222,223,224,225,228,229,230,231,234,235,238,239,240,242,250,251] e11 x11 [s10 m_] (b11 m_):=fun _ _=>by kernel_rfl
def l11:=loop m_ (b11 m_)
theorem q11(v):l11 .lim v=b11 .lim (l11 .lim) v:=KS.q (k11 .lim) v
def s11:=so m_ (k11 m_)
def f43:gG:=⟨217,[.inRange 0,.b 0,.q 31],[(3,.ptr 3 0),(4,.ptr 4 0)],none,[.mark 5],false⟩
def f44:gG:=fs 212 [.v 8132 [2,3,4],.q 8133,.b 1,.z 1016,.b 0,.q 255] [(2,.w),(8,.ptr 6 0),(10,.ptr 7 0),(11,.oy 8)]
def o45:dJ:= .c [.s,.dat (.int .u32),.dat (.int .i32),.dat (.int .u32),.dat Ux,.dat Ux,.dat Uu,.own 2 UD]
def e12:Spec:=⟨[f23,⟨217,[.v 3927 [1],.b 1],[],some 2,[],false⟩,f38,f39,f40],[(0,o2),(1,o2),(2,o41),(3,.c [.ptr 7 0]),(4,o3),(5,o2),(6,.deferred false),(7,o42),(8,o2),(9,.d [.ry]),(10,.c [.ptr 7 0])],11⟩
def x12:List Spec:=[⟨[fs 221 [] [],⟨217,[.v 3927 [1],.b 1],[],some 0,[],false⟩,fs 232 [.v 818 [10,11],.q 819,.b 1,.q 103,.z 12,.b 0] [(0,.fn (.yield 0) []),(1,.ptr 1 0),(9,.slc 2 0 none UD),(10,.w),(11,.w)],f43,f44],[(0,.loop .busy none 217 [(2,.ptr 9 0),(3,.ptr 3 0)] [18,19] (La 122) 5),(1,.c [.ptr 6 0]),(2,o3),(3,o2),(4,o2),(5,.deferred false),(6,o45),(7,o2),(8,.d [.ry]),(9,.c [.ptr 6 0])],10⟩]
abbrev A12:Type:=Int×Int×Int×Int×Int×Int×LI×LI×LL×LI×LI×Int×Int×Int×LI×LI×LL×LI×LI×Unit
abbrev B12:Type:=(Int×Int×Int×Int×Int×LL×LI×LI×LI×Int×Int×Int×LI×LI×LL×LI×LI×Unit)
def b12(m_:Dq)(self:A12->Option B12):A12->Option B12:=fun v_=>match v_ with
|(t,tp,tq,t1,t2,n,m,m1,m2,m3)=>
 bif decide (t<16)then
  bif inB t 16 then
  bif inB t 16 then
  bif inB t 16 then
  self ((ag3.wrap (t+1)),tp,tq,t1,t2,n,(m.set t.toNat (H8 .u8 (rd 0 m t) (rd 0 m1 t))),m1,m2,m3)else none else none else none
 else
  some (tp,tq,t1,t2,n,m2,m,m3)
theorem k12:KQ 212 (O m_) [216,217,220,221,222,223,224,225,228,229,230,231,234,235,238,239,240,242,250,251] e12 x12 [] (b12 m_):=fun _ _=>by kernel_rfl
def l12:=loop m_ (b12 m_)
theorem q12(v):l12 .lim v=b12 .lim (l12 .lim) v:=KS.q (k12 .lim) v
def s12:=so m_ (k12 m_)
def e13:Spec:=⟨[fs 232 [.q 12,.z 12,.b 0] [(0,.fn (.yield 0) []),(1,.ptr 1 0),(9,.slc 2 0 none UD),(10,.w),(11,.w)],f43,f44],[(0,.loop .ready none 217 [(2,.ptr 9 0),(3,.ptr 3 0)] [18,19] (La 122) 5),(1,.c [.ptr 6 0]),(2,o3),(3,o2),(4,o2),(5,.deferred false),(6,o45),(7,o2),(8,.d [.ry]),(9,.c [.ptr 6 0])],10⟩
def x13:List Spec:=[⟨[fs 232 [] [],⟨217,[.inRange 2,.b 0,.q 31],[(3,.ptr 0 0),(4,.ptr 1 0)],none,[.mark 3],false⟩,f24],[(0,o2),(1,o2),(2,.loop .ready none 217 [(2,.ptr 7 0),(3,.ptr 0 0)] [18,19] (La 122) 3),(3,.deferred false),(4,o1),(5,o2),(6,.d [.ry]),(7,.c [.ptr 4 0]),(8,o3)],9⟩]
abbrev A13:Type:=Int×Int×Int×Int×Int×LL×LI×LI×LI×Int×Int×Int×LI×LI×LL×LI×LI×Unit
abbrev B13:Type:=(Int×LI×LI×LI×Int×Int×Int×LI×LI×LL×LI×LI×LL×Unit)
def b13(self:A13->Option B13):A13->Option B13:=fun v_=>match v_ with
|(tp,tq,t,t1,n,m,m1,m2,m3,m4,m5,m6,m7,m8,m9,m10,m11,())=>
 bif decide (t1<t)then
  bif inB t1 tq then
  bif vZ (m.length:Int)then
  (MX.l8 m_ (0,decide (t1=(ag3.wrap ((m.length:Int)-2))),tp,tq,t,t1,n,m1,m3,m4,m5,m6,m7,m8,m9,(rd (ag4 16 (0:Int):List Int) m (tp+t1)),m,m2,m10,m11,())).bind fun (last,tp1,tq1,t2,t3,n1,m12,m13)=>
  (MX.l9 m_ (4,0,last,tp1,tq1,t2,t3,n1,m12,m12,m13)).bind fun (abJ,tp2,tq2,t4,t5,n2,Uf,TS,Uz,TT,Ul,Vx,VN,m32,Vo,XV,YG,XW,YH,())=>
  bif !abJ then
   (MX.l11 m_ (0,tp2,tq2,t4,t5,n2,Ul,Vx,VN,m32,Vo,XV,YG,Uf,(((((ag4 4 (0:Int):List Int).set 0 2).set 1 3).set 2 1).set 3 1),Uf,TS,Uz,TT,XW,YH,())).bind fun (tp3)=>
   (MX.l12 m_ (0,tp3)).bind fun (tp4,tq4,t8,t9,n4)=>
   self (tp4,tq4,t8,(ag3.wrap (t9+1)),n4)
  else
   (MX.l12 m_ (0,tp2,tq2,t4,t5,n2,Uf,TS,Uz,TT,Ul,Vx,VN,m32,Vo,XV,YG,XW,YH,())).bind fun (tp5,tq5,t10,t11,n5)=>
   self (tp5,tq5,t10,(ag3.wrap (t11+1)),n5)else none else none
 else
  some (n,m1,m2,m3,m4,m5,m6,m7,m8,m9,m10,m11,m,())
theorem k13:KQ 212 (O m_) [216,217,220,221,222,223,224,225,228,229,230,231,234,235,238,239,240,242,250,251] e13 x13 [s8 m_,s9 m_,s11 m_,s12 m_] (b13 m_):=fun _ _=>by kernel_rfl
def ZI:=loop m_ (b13 m_)
theorem q13(v):ZI .lim v=b13 .lim (ZI .lim) v:=KS.q (k13 .lim) v
def s13:=so m_ (k13 m_)
def o46:dJ:= .c [.s,.dat (.int .u32),.dat (.int .i32),.dat (.int .u32),.dat Ux,.dat Ux,.dat Uu,.own 3 UD]
def e14:Spec:=⟨[fs 217 [.q 1] [(0,.ptr 0 0),(1,.dat UD)],fs 212 [.v 8132 [2,3,4],.q 8133,.b 1,.z 1016,.b 0,.q 255] [(2,.w),(8,.ptr 0 0),(10,.ptr 1 0),(11,.oy 2)]],[(0,o46),(1,o2),(2,.d [.ry]),(3,o3)],4⟩
def x14:List Spec:=[⟨[⟨217,[.q 63],[(4,.ptr 0 0)],none,[.mark 1],false⟩,fs 212 [.v 8132 [2,3,4],.q 8133,.b 1,.z 1016,.b 0,.q 255] [(2,.w),(8,.ptr 2 0),(10,.ptr 3 0),(11,.oy 4)]],[(0,o2),(1,.deferred false),(2,o32),(3,o2),(4,.d [.ry]),(5,o3)],6⟩]
abbrev A14:Type:=LI×Int×LI×Int×Int×Int×LI×LI×LL×LI×LI×LL×Unit
abbrev B14:Type:=(Int×LI×LI×Int×Int×Int×LI×LI×LL×LI×LI×LL×Unit)
def b14(self:A14->Option B14):A14->Option B14:=fun v_=>match v_ with
|(b,n,m,m1,m2,m3,m4,m5,m6,m7)=>
 (MX.l6 m_ (n,m,m1,m2,m3,m4,m5,m6,b,(ag4 16 (0:Int)),m7)).bind fun (n1,m10,m11,m12,m13,m14,m15,m16,m17,m18,m19,m20,m21,())=>
 bif inB 0 (m21.length:Int)then
 (MX.l7 m_ (0,n1,m10,(rd (ag4 16 (0:Int):List Int) m21 0),m11,m12,m13,m14,m15,m16,m17,m18,m19,m20,m21,())).bind fun (n2,m22,m23,m24,Uf,TS,Uz,TT,Ul,Vx,VN,m32,Vo,())=>
 bif sS 1 (Vo.length:Int) (Vo.length:Int)then
 bif vZ ((Vo.length:Int)-1)then
 (MX.ZI m_ (1,((Vo.length:Int)-1),((Vo.length:Int)-1),0,n2,Vo,m22,m23,m24,Uf,TS,Uz,TT,Ul,Vx,VN,m32,())).bind fun (n3,XV,YG,XW)=>
 some (n3,XV,XW)else none else none else none
theorem k14:KQ 212 (O m_) [216,217,220,221,222,223,224,225,228,229,230,231,234,235,238,239,240,242,250,251] e14 x14 [s6 m_,s7 m_,s13 m_] (b14 m_):=fun _ _=>by kernel_rfl
def Y1:=loop m_ (b14 m_)
theorem q14(v):Y1 .lim v=b14 .lim (Y1 .lim) v:=KS.q (k14 .lim) v
def s14:=so m_ (k14 m_)
def e15:Spec:=⟨[fs 212 [.q 130140,.z 130140,.b 2,.b 1,.z 1016,.b 0,.q 255] [(2,.w),(8,.ptr 0 0),(10,.ptr 1 0),(11,.oy 2),(13,.w)]],[(0,o46),(1,o2),(2,.d [.ry]),(3,o3)],4⟩
def x15:List Spec:=[⟨[fs 212 [.q 1016,.z 1016,.b 0,.q 255] [(2,.w),(8,.ptr 0 0),(10,.ptr 1 0),(11,.oy 2)]],[(0,o46),(1,o2),(2,.d [.ry]),(3,o3)],4⟩]
abbrev A15:Type:=Int×Int×LI×Int×Int×Int×LI×LI×LL×LI×LI×LL×Unit
abbrev B15:Type:=(Int×LI×Int×Int×Int×LI×LI×LL×LI×LI×LL×Unit)
def b15(m_:Dq)(self:A15->Option B15):A15->Option B15:=fun v_=>match v_ with
|(n,i,m,m1,m2,m3,m4,m5,m6,m7,m8,m9,())=>
 bif decide (i>=0)then
  bif inB i 16 then
  bif inB i 16 then
  bif inB i 16 then
  bif !(decide ((rd 0 (m7.set i.toNat (ag5.wrap ((rd 0 m7 i)+1))) i)=0))then
   some (n,m,m1,m2,m3,m4,m5,m6,(m7.set i.toNat (ag5.wrap ((rd 0 m7 i)+1))),m8,m9,())
  else
   self (n,(ag3.wrap (i-1)),m,m1,m2,m3,m4,m5,m6,(m7.set i.toNat (ag5.wrap ((rd 0 m7 i)+1))),m8,m9,())else none else none else none
 else
  some (n,m,m1,m2,m3,m4,m5,m6,m7,m8,m9,())
theorem k15:KQ 212 (O m_) [216,217,220,221,222,223,224,225,228,229,230,231,234,235,238,239,240,242,250,251] e15 x15 [] (b15 m_):=fun _ _=>by kernel_rfl
def l15:=loop m_ (b15 m_)
theorem q15(v):l15 .lim v=b15 .lim (l15 .lim) v:=KS.q (k15 .lim) v
def s15:=so m_ (k15 m_)
def e16:Spec:=⟨[fs 212 [.q 1016,.z 1016,.b 0,.q 255] [(2,.w),(8,.ptr 0 0),(10,.ptr 1 0),(11,.oy 5006)]],[(0,.c [.s,.dat (.int .u32),.dat (.int .i32),.dat (.int .u32),.dat Ux,.dat Ux,.dat Uu,.own 5007 UD]),(1,o2),(5006,.d [.ry]),(5007,o3)],5008⟩
def x16:List Spec:=[⟨[fs 212 [.q 255] [(2,.w),(11,.oy 0)]],[(0,.d [.ry])],1⟩]
abbrev A16:Type:=Int×LI×Int×Int×Int×LI×LI×LL×LI×LI×LL×Unit
abbrev B16:Type:=(Int×LI×Unit)
def b16(self:A16->Option B16):A16->Option B16:=fun v_=>match v_ with
|(n,m,m1,m2,m3,m4,m5,m6,m7,m8,m9,())=>
 bif vZ (m8.length:Int)then
 bif decide ((m8.length:Int)<n)then
  (MX.Y1 m_ (m7,n,m,m1,m2,m3,m4,m5,m6,m7,m8,m9,())).bind fun (n1,m10,m11,m12,m13,m14,m15,m16,m17,m18,m19,m20,())=>
  bif decide (m19.length+((m10.drop 0).take 16).length<70368744177664)then
  (MX.l15 m_ (n1,15,m11,m12,m13,m14,m15,m16,m17,m18,(m19++((m10.drop 0).take 16)),m20,())).bind fun (n2)=>
  self (n2)else none
 else
  some (n,m8,())else none
theorem k16:KQ 212 (O m_) [216,217,220,221,222,223,224,225,228,229,230,231,234,235,238,239,240,242,250,251] e16 x16 [s14 m_,s15 m_] (b16 m_):=fun _ _=>by kernel_rfl
def l16:=loop m_ (b16 m_)
theorem q16(v):l16 .lim v=b16 .lim (l16 .lim) v:=KS.q (k16 .lim) v
def s16:=so m_ (k16 m_)
def run:(List Int)×(List Int)×Int×Unit->Option ((List Int)×Int×Unit):=fun v_=>match v_ with
|(key,first,n,())=>
 bif((decide (n<0))||(decide (n>65536)))then
  some (([]:List Int),13,())
 else
  bif vZ (key.length:Int)then
  bif((!(!(decide ((key.length:Int)=16))))||(vZ (key.length:Int)))then
  bif((!(decide ((key.length:Int)=16)))&&(!(decide ((key.length:Int)=32))))then
   some (([]:List Int),13,())
  else
   bif vZ (first.length:Int)then
   bif !(decide ((first.length:Int)=16))then
    some (([]:List Int),10,())
   else
    bif(ag9 1 16&&ag9 16 first.length)then
    (MX.l16 m_ (n,key,0,0,0,(ag4 256 (0:Int)),(ag4 256 (0:Int)),(ag4 16 (ag4 256 (0:Int):List Int)),(first.take 16),([]:List Int),([]:List (List Int)),())).bind fun (n1,m,())=>
    bif sS 0 n1 (m.length:Int)then
    some (((m.drop 0).take ((n1-0).toNat)),0,())else none else none else none else none else none
theorem k:KT (O m_) [216,217,220,221,222,223,224,225,228,229,230,231,234,235,238,239,240,242,250,251] ⟨212,[.one .str,.one .str,.one (.int .i64)],.iF [.sh (.one .str),.sh (.one (.int .i64))],run m_⟩ [s16 m_]:=fun _=>by kernel_rfl
def c:=co (k m_)
end MX

namespace Py
def O(m_:Dq):OO P:=lI []
def e0:Spec:=⟨[fs 208 [.q 116,.z 116,.b 0,.q 15] [(1,.s),(5,.oy 0),(10,.w),(11,.w)]],[(0,.c [.ry])],1⟩
def x0:List Spec:=[⟨[fs 208 [.q 15] [(5,.oy 0)]],[(0,.c [.ry])],1⟩]
abbrev A0:Type:=LI×Int×Int×LI×Unit
abbrev B0:Type:=(LI×Unit)
def b0(m_:Dq)(self:A0->Option B0):A0->Option B0:=fun v_=>match v_ with
|(b,t,t1,m,())=>
 bif decide (t1<t)then
  bif inB t1 (m.length:Int)then
  bif inB t1 (b.length:Int)then
  bif inB t1 (m.length:Int)then
  self (b,t,(ag3.wrap (t1+1)),(m.set t1.toNat (H8 .u8 (rd 0 m t1) (rd 0 b t1))),())else none else none else none
 else
  some (m,())
theorem k0:KQ 208 (O m_) [] e0 x0 [] (b0 m_):=fun _ _=>by kernel_rfl
def l0:=loop m_ (b0 m_)
theorem q0(v):l0 .lim v=b0 .lim (l0 .lim) v:=KS.q (k0 .lim) v
def s0:=so m_ (k0 m_)
def run:(List Int)×(List Int)×Unit->Option (List Int):=fun v_=>match v_ with
|(a,b,())=>
 bif vZ (a.length:Int)then
 (Py.l0 m_ (b,(a.length:Int),0,a,())).bind fun (m,())=>
 some m else none
theorem k:KT (O m_) [] ⟨208,[.one .str,.one .str],.one (.sh (.one .str)),run m_⟩ [s0 m_]:=fun _=>by kernel_rfl
def c:=co (k m_)
end Py

namespace Q7
def O:OO P:=lI [Py.c m_,MX.c m_]
def run:(List Int)×(List Int)×(List Int)×Unit->Option (List Int):=fun v_=>match v_ with
|(key,v,s,())=>
 bif inB 8 (v.length:Int)then
 bif inB 8 (v.length:Int)then
 bif inB 12 ((v.set 8 (Jc .u8 (rd 0 v 8) 127)).length:Int)then
 bif inB 12 ((v.set 8 (Jc .u8 (rd 0 v 8) 127)).length:Int)then
 bif vZ (s.length:Int)then
 (MX.run m_ (key,((v.set 8 (Jc .u8 (rd 0 v 8) 127)).set 12 (Jc .u8 (rd 0 (v.set 8 (Jc .u8 (rd 0 v 8) 127)) 12) 127)),(s.length:Int),())).bind fun (r,r1,())=>
 (Py.run m_ (s,r,())).bind fun r2=>
 some r2 else none else none else none else none else none
theorem k:KT (O m_) [] ⟨207,[.one .str,.one .str,.one .str],.one (.sh (.one .str)),run m_⟩ []:=fun _=>by kernel_rfl
def c:=co (k m_)
end Q7

namespace NI
def inl:FuncId->Bool:=fun f=>[].any (Nat.beq f)
def O(m_:Dq):iO:=(Gu [])
theorem Ok(m_:Dq){S0 w0}:bW P S0 w0 (O m_):=(Ea (an))
def run(m_:Dq):(List (List Int))×Unit->Option (List (List Int)):=fun v_=>match v_ with
|(s,())=>
 bif decide (([]:List (List Int)).length+s.length<4398046511104)then
 some (([]:List (List Int))++s)else none
def c_(m_:Dq):Callee:=⟨199,[.one (.lst .str)],.one (.own .str),run m_⟩
theorem kn(m_:Dq):dA P (O m_) inl [] [] (c_ m_).res.fin 20000 false (start 199 [.aC])=(
 some ([]:List (List Int))):=by kernel_rfl
theorem k(m_:Dq): ∀xs:List (List Int),dA P (O m_) inl [] [] (c_ m_).res.fin 20000 false (start 199 [.iQ .str xs])=run m_ (xs,()):=by intro xs;kernel_rfl
theorem ok(m_:Dq):(c_ m_).OK P:=Callee.of_nil (fun S0 w0=>(Ok m_)) (by kernel_rfl) (by rfl) (fun S0 w0 cs0=>an) (fun r h=>(kn m_).trans ((show (
 some ([]:List (List Int)))=NI.run m_ ([],())from by kernel_rfl).trans h)) (fun x r h=>(NI.k m_ x).trans h)
def c(m_:Dq):CO P:=⟨c_ m_,ok m_⟩
end NI

namespace OB
def O:OO P:=lI [Py.c m_,PW.c m_,MZ.c m_]
def f0:gG:=⟨213,[.inRange 0,.b 0,.q 15],[(5,.ptr 3 0)],none,[.mark 4],false⟩
def o1:dJ:= .loop .ready none 213 [(2,.ptr 5 0),(5,.ptr 3 0)] [11] (La 58) 4
def e0:Spec:=⟨[fs 226 [.q 8,.z 8,.b 0,.q 3] [(0,.fn (.yield 0) []),(1,.ptr 1 0),(2,.ptr 2 0)],f0],[(0,o1),(1,.c [.s]),(2,.c [.s,.s,.s]),(3,.c [.s]),(4,.deferred false),(5,.c [.s,.s,.s])],6⟩
def x0:List Spec:=[⟨[fs 226 [.q 3] [(0,.fn (.yield 0) []),(1,.ptr 1 0),(2,.ptr 2 0)],f0],[(0,o1),(1,.c [.s]),(2,.c [.s,.s,.s]),(3,.c [.s]),(4,.deferred false),(5,.c [.s,.s,.s])],6⟩]
abbrev A0:Type:=LI×LI×LI×LI×LI×LI×LI×LI×Unit
abbrev B0:Type:=(LI×LI×LI×LI×LI×LI×LI×LI×Unit)
def b0(self:A0->Option B0):A0->Option B0:=fun v_=>match v_ with
|(m,m1,m2,m3,m4,m5,m6,m7,())=>
 bif vZ (m.length:Int)then
 bif decide ((m.length:Int)>16)then
  bif sS 0 16 (m.length:Int)then
  (Py.run m_ (m4,(cut m 0 16),())).bind fun r=>
  (MZ.run m_ (m5,r,())).bind fun (r1,r2,())=>
  bif sS 16 (m.length:Int) (m.length:Int)then
  self ((cut m 16 (m.length:Int)),m1,m2,m3,r1,m5,m6,m7,())else none else none
 else
  some (m,m1,m2,m3,m4,m5,m6,m7,())else none
theorem k0:KQ 213 (O m_) [218] e0 x0 [] (b0 m_):=fun _ _=>by kernel_rfl
def l0:=loop m_ (b0 m_)
theorem q0(v):l0 .lim v=b0 .lim (l0 .lim) v:=KS.q (k0 .lim) v
def s0:=so m_ (k0 m_)
def run:acu×(List Int)×Unit->Option (List Int):=fun v_=>match v_ with
|(m,s,())=>
 (PW.run m_ (16,())).bind fun r=>
 (OB.l0 m_ (s,m.1,m.2.1,m.2.2,r,m.1,m.2.1,m.2.2,())).bind fun (m1,m2,m3,m4,m5,m6,m7,m8,())=>
 bif vZ (m1.length:Int)then
 bif decide ((m1.length:Int)=16)then
  (Py.run m_ (m1,m3,())).bind fun r1=>
  (Py.run m_ (m5,r1,())).bind fun r2=>
  (MZ.run m_ (m6,r2,())).bind fun (r3,r4,())=>
  some r3
 else
  bif decide (m1.length+([128]:List Int).length<=maxStr)then
  bif vZ (m1.length:Int)then
  (PW.run m_ ((ag3.wrap (15-(m1.length:Int))),())).bind fun r5=>
  bif decide ((m1++([128]:List Int)).length+r5.length<=maxStr)then
  (Py.run m_ (((m1++([128]:List Int))++r5),m4,())).bind fun r6=>
  (Py.run m_ (m5,r6,())).bind fun r7=>
  (MZ.run m_ (m6,r7,())).bind fun (r8,r9,())=>
  some r8 else none else none else none else none
theorem k:KT (O m_) [218] ⟨213,[.ag tY9,.one .str],.one (.sh (.one .str)),run m_⟩ [s0 m_]:=fun _=>by kernel_rfl
def c:=co (k m_)
end OB

namespace OL
def O:OO P:=lI [Py.c m_,PW.c m_,OB.c m_,QL.c m_]
def e0:Spec:=⟨[fs 209 [.q 500,.z 500,.b 0,.q 63] [(2,.ptr 0 0),(5,.s),(6,.s),(30,.t),(31,.w),(32,.w)]],[(0,.c [.s,.s,.s])],1⟩
def x0:List Spec:=[⟨[fs 209 [.q 63] [(2,.ptr 0 0),(5,.s),(6,.s)]],[(0,.c [.s,.s,.s])],1⟩]
abbrev A0:Type:=LI×LI×LL×Int×Int×LI×LI×LI×Unit
abbrev B0:Type:=(LI×LI×LI×LI×LI×Unit)
def b0(self:A0->Option B0):A0->Option B0:=fun v_=>match v_ with
|(d,s,t,t1,t2,m,m1,m2,())=>
 bif decide (t2<t1)then
  bif inB t2 (t.length:Int)then
  (QL.run m_ (d,())).bind fun r=>
  (OB.run m_ ((m,(m1,m2)),(rd ([]:List Int) t t2),())).bind fun r1=>
  (Py.run m_ (r,r1,())).bind fun r2=>
  self (r2,s,t,t1,(ag3.wrap (t2+1)),m,m1,m2,())else none
 else
  some (d,s,m,m1,m2,())
theorem k0:KQ 209 (O m_) [] e0 x0 [] (b0 m_):=fun _ _=>by kernel_rfl
def l0:=loop m_ (b0 m_)
theorem q0(v):l0 .lim v=b0 .lim (l0 .lim) v:=KS.q (k0 .lim) v
def s0:=so m_ (k0 m_)
def run:acu×(List (List Int))×Unit->Option (List Int):=fun v_=>match v_ with
|(m,l,())=>
 bif vZ (l.length:Int)then
 bif decide ((l.length:Int)=0)then
  (PW.run m_ (15,())).bind fun r=>
  bif decide (r.length+([1]:List Int).length<=maxStr)then
  (OB.run m_ (m,(r++([1]:List Int)),())).bind fun r1=>
  some r1 else none
 else
  (PW.run m_ (16,())).bind fun r2=>
  (OB.run m_ (m,r2,())).bind fun r3=>
  bif vZ (l.length:Int)then
  bif inB (ag3.wrap ((l.length:Int)-1)) (l.length:Int)then
  bif vZ (l.length:Int)then
  bif sS 0 (ag3.wrap ((l.length:Int)-1)) (l.length:Int)then
  bif vZ ((cut l 0 (ag3.wrap ((l.length:Int)-1))).length:Int)then
  (OL.l0 m_ (r3,(rd ([]:List Int) l (ag3.wrap ((l.length:Int)-1))),(cut l 0 (ag3.wrap ((l.length:Int)-1))),((cut l 0 (ag3.wrap ((l.length:Int)-1))).length:Int),0,m.1,m.2.1,m.2.2,())).bind fun (d,s,m1,m2,m3,())=>
  bif vZ (s.length:Int)then
  bif decide ((ag3.wrap ((s.length:Int)-16))>=0)then
   bif sS 0 (ag3.wrap ((s.length:Int)-16)) (s.length:Int)then
   bif sS (ag3.wrap ((s.length:Int)-16)) (s.length:Int) (s.length:Int)then
   (Py.run m_ ((cut s (ag3.wrap ((s.length:Int)-16)) (s.length:Int)),d,())).bind fun r4=>
   bif decide ((cut s 0 (ag3.wrap ((s.length:Int)-16))).length+r4.length<=maxStr)then
   (OB.run m_ ((m1,(m2,m3)),((cut s 0 (ag3.wrap ((s.length:Int)-16)))++r4),())).bind fun r5=>
   some r5 else none else none else none
  else
   bif decide (s.length+([128]:List Int).length<=maxStr)then
   bif vZ (s.length:Int)then
   (PW.run m_ ((ag3.wrap (15-(s.length:Int))),())).bind fun r6=>
   bif decide ((s++([128]:List Int)).length+r6.length<=maxStr)then
   (QL.run m_ (d,())).bind fun r7=>
   (Py.run m_ (((s++([128]:List Int))++r6),r7,())).bind fun r8=>
   (OB.run m_ ((m1,(m2,m3)),r8,())).bind fun r9=>
   some r9 else none else none else none else none else none else none else none else none else none else none
theorem k:KT (O m_) [] ⟨209,[.ag tY9,.one (.lst .str)],.one (.sh (.one .str)),run m_⟩ [s0 m_]:=fun _=>by kernel_rfl
def c:=co (k m_)
end OL

namespace UW
def O:OO P:=lI [NI.c m_,Q5.c m_,Q7.c m_,Py.c m_,OL.c m_,PW.c m_]
def run:(List Int)×(List (List Int))×(List Int)×Unit->Option ((List Int)×Int×Unit):=fun v_=>match v_ with
|(key,ad,sealed,())=>
 (Q5.run m_ (key,ad,())).bind fun (r,r1,r2,())=>
 bif !(decide (r2=0))then
  some (([]:List Int),r2,())
 else
  bif vZ (sealed.length:Int)then
  bif decide ((sealed.length:Int)<16)then
   some (([]:List Int),11,())
  else
   bif vZ (sealed.length:Int)then
   bif decide ((sealed.length:Int)>65552)then
    some (([]:List Int),12,())
   else
    bif sS 0 16 (sealed.length:Int)then
    bif sS 16 (sealed.length:Int) (sealed.length:Int)then
    (Q7.run m_ (r1,(cut sealed 0 16),(cut sealed 16 (sealed.length:Int)),())).bind fun r3=>
    (NI.run m_ (ad,())).bind fun r4=>
    bif decide (r4.length+([r3]:List (List Int)).length<4398046511104)then
    (OL.run m_ (r,(r4++([r3]:List (List Int))),())).bind fun r5=>
    (Py.run m_ ((cut sealed 0 16),r5,())).bind fun r6=>
    (PW.run m_ (16,())).bind fun r7=>
    bif !(decide (r6=r7))then
     some (([]:List Int),17,())
    else
     some (r3,0,())else none else none else none else none else none
theorem k:KT (O m_) [] ⟨204,[.one .str,.one (.lst .str),.one .str],.iF [.sh (.one .str),.sh (.one (.int .i64))],run m_⟩ []:=fun _=>by kernel_rfl
def c:=co (k m_)
end UW

namespace QI
def O:OO P:=lI [UW.c m_]
def run:Unit×TY×Unit->Option ((List Int)×Int×Unit):=fun v_=>match v_ with
|(a,k,())=>
 (UW.run m_ (k.1,k.2.1,k.2.2.2,())).bind fun (r,r1,())=>
 some (r,r1,())
theorem k:KT (O m_) [] ⟨202,[.ag .unit,.ag XF],.iF [.sh (.one .str),.sh (.one (.int .i64))],run m_⟩ []:=fun _=>by kernel_rfl
def c:=co (k m_)
end QI

namespace O1
def O:OO P:=lI [Qp.c m_,Nz.c m_,QI.c m_]
def f0:gG:=fs 91 [.v 6 [6,7,8,9,10],.q 7] []
def o1:dJ:= .c [.dat Uw]
def f2:gG:=fs 191 [.v 30 [5,6],.q 31] [(0,.ptr 0 0)]
def e0:Spec:=⟨[fs 194 [.q 52,.z 52,.b 0,.q 7] [(0,.dat Uw),(1,.fn (.func 195) [0]),(7,.w),(8,.w)],fs 191 [.v 30 [5,6],.q 31] [(0,.ptr 1 0)],f0],[(0,.c [.s,.t,.s,.s]),(1,o1)],2⟩
def x0:List Spec:=[⟨[fs 194 [.q 13517,.b 1,.q 423,.z 52,.b 0,.q 7] [(4,.w)],f2,f0],[(0,o1)],1⟩,⟨[fs 194 [.q 7] [],f2,f0],[(0,o1)],1⟩]
abbrev A0:Type:=(List (List Int×(List LI×(List Int×List Int))))×Int×Int×LI×LL×LI×LI×(List (List Int×(List LI×(List Int×List Int))))×Unit
abbrev B0:Type:=(Int×(List (List Int×(List LI×(List Int×List Int))))×Unit) ⊕ ((List (List Int×(List LI×(List Int×List Int))))×Unit)
def b0(self:A0->Option B0):A0->Option B0:=fun v_=>match v_ with
|(s,t,t1,m,m1,m2,m3,m4,())=>
 bif decide (t1<t)then
  bif inB t1 (s.length:Int)then
  ((bif((decide (((((rd PL s t1).2).2).2)=m3))&&(decide (((rd PL s t1).1)=m)))then Nz.run m_ (((rd PL s t1).2).1,m1,())else some false)).bind fun r=>
  bif(((decide (((((rd PL s t1).2).2).2)=m3))&&(decide (((rd PL s t1).1)=m)))&&r)then
   some (.inl (t1,m4,()))
  else
   self (s,t,(ag3.wrap (t1+1)),m,m1,m2,m3,m4,())else none
 else
  some (.inr (m4,()))
theorem k0:KQ 91 (O m_) [112,191,194,195] e0 x0 [] (b0 m_):=fun _ _=>by kernel_rfl
def l0:=loop m_ (b0 m_)
theorem q0(v):l0 .lim v=b0 .lim (l0 .lim) v:=KS.q (k0 .lim) v
def s0:=so m_ (k0 m_)
def run:Rx×(List Int)×(List (List Int))×(List Int)×Unit->Option ((List Int)×Int×Unit):=fun v_=>match v_ with
|(v,key,ad,text,())=>
 bif v.1 then
  (Qp.run m_ ((key,(ad,(([]:List Int),text))),())).bind fun r=>
  bif !(decide (r=0))then
   some (([]:List Int),r,())
  else
   bif vZ (text.length:Int)then
   bif decide ((text.length:Int)<16)then
    some (([]:List Int),11,())
   else
    bif vZ (text.length:Int)then
    bif decide ((text.length:Int)>65552)then
     some (([]:List Int),12,())
    else
     bif vZ (v.2.length:Int)then
     (O1.l0 m_ (v.2,(v.2.length:Int),0,key,ad,([]:List Int),text,v.2,())).bind fun g_=>match g_ with
     | .inl (t,m,())=>
      bif decide (t<0)then
       some (([]:List Int),17,())
      else
       bif inB t (m.length:Int)then
       some ((((rd PL m t).2).2).1,0,())else none
     | .inr (m1,())=>
      some (([]:List Int),17,())else none else none else none
 else
  (QI.run m_ ((),(key,(ad,(([]:List Int),text))),())).bind fun (r1,r2,())=>
  some (r1,r2,())
theorem k:KT (O m_) [112,191,194,195] ⟨91,[.ag Rz,.one .str,.one (.lst .str),.one .str],.iF [.sh (.one .str),.sh (.one (.int .i64))],run m_⟩ [s0 m_]:=fun _=>by kernel_rfl
def c:=co (k m_)
end O1

namespace Ro
def O(m_:Dq):OO P:=lI []
def run(m_:Dq):Int×Unit->Option (Int):=fun v_=>match v_ with
|(abo,())=>
 bif decide (abo=15)then
  some 32
 else
  bif decide (abo=17)then
   some 64
  else
   some 0
theorem k:KT (O m_) [] ⟨113,[.one (.int .i64)],.one (.sh (.one (.int .i64))),run m_⟩ []:=fun _=>by kernel_rfl
def c:=co (k m_)
end Ro

namespace RV
def O:OO P:=lI [Ro.c m_]
def run:(Int×(List Int×List Int))×Unit->Option (Bool):=fun v_=>match v_ with
|(k,())=>
 (Ro.run m_ (k.1,())).bind fun r=>
 bif((!(decide (r>0)))||(vZ (k.2.1.length:Int)))then
 bif((!((decide (r>0))&&(decide ((k.2.1.length:Int)=r))))||(vZ (k.2.2.length:Int)))then
 some (((decide (r>0))&&(decide ((k.2.1.length:Int)=r)))&&(decide ((k.2.2.length:Int)=r)))else none else none
theorem k:KT (O m_) [] ⟨92,[.ag Yw],.one (.sh (.one .bool)),run m_⟩ []:=fun _=>by kernel_rfl
def c:=co (k m_)
end RV

namespace QY
def O(m_:Dq):OO P:=lI []
def run(m_:Dq):(Int×(List Int×List Int))×Unit->Option (List Int):=fun v_=>match v_ with
|(k,())=>
 bif decide (([(ag5.wrap (Je .i64 k.1 8)),(ag5.wrap k.1),0,0]:List Int).length+k.2.1.length<=maxStr)then
 bif decide ((([(ag5.wrap (Je .i64 k.1 8)),(ag5.wrap k.1),0,0]:List Int)++k.2.1).length+k.2.2.length<=maxStr)then
 some ((([(ag5.wrap (Je .i64 k.1 8)),(ag5.wrap k.1),0,0]:List Int)++k.2.1)++k.2.2)else none else none
theorem k:KT (O m_) [] ⟨93,[.ag Yw],.one (.sh (.one .str)),run m_⟩ []:=fun _=>by kernel_rfl
def c:=co (k m_)
end QY

namespace S9
def O:OO P:=lI [Qx.c m_,O1.c m_,RV.c m_,QY.c m_]
def run:Rx×WQ×(List Int)×Unit->Option ((Int×(List Int×List Int))×Int×Unit):=fun v_=>match v_ with
|(v,r,s,())=>
 bif vZ (s.length:Int)then
 bif decide ((s.length:Int)<20)then
  some ((0,(([]:List Int),([]:List Int))),11,())
 else
  bif inB 0 (s.length:Int)then
  bif inB 1 (s.length:Int)then
  bif inB 2 (s.length:Int)then
  bif inB 3 (s.length:Int)then
  (Qx.run m_ (r,(KY .u32 (KY .u32 (KY .u32 (Jd .u32 (ag7.wrap (rd 0 s 0)) 24) (Jd .u32 (ag7.wrap (rd 0 s 1)) 16)) (Jd .u32 (ag7.wrap (rd 0 s 2)) 8)) (ag7.wrap (rd 0 s 3))),())).bind fun r1=>
  bif decide (r1<0)then
   some ((0,(([]:List Int),([]:List Int))),19,())
  else
   bif inB r1 (r.1.length:Int)then
   bif sS 0 4 (s.length:Int)then
   bif sS 4 20 (s.length:Int)then
   bif sS 20 (s.length:Int) (s.length:Int)then
   (O1.run m_ (v,((rd ((0:Int),(([]:List Int),(0:Int))) r.1 r1).2).1,([(cut s 0 4),(cut s 4 20)]:List (List Int)),(cut s 20 (s.length:Int)),())).bind fun (r2,r3,())=>
   bif !(decide (r3=0))then
    some ((0,(([]:List Int),([]:List Int))),r3,())
   else
    bif vZ (r2.length:Int)then
    bif decide ((r2.length:Int)<4)then
     some ((0,(([]:List Int),([]:List Int))),10,())
    else
     bif vZ (r2.length:Int)then
     bif inB 0 (r2.length:Int)then
     bif inB 1 (r2.length:Int)then
     bif sS 4 (ag3.wrap (2+(ag3.wrap ((r2.length:Int).tdiv 2)))) (r2.length:Int)then
     bif sS (ag3.wrap (2+(ag3.wrap ((r2.length:Int).tdiv 2)))) (r2.length:Int) (r2.length:Int)then
     (RV.run m_ (((KY .i64 (Jd .i64 (ag3.wrap (rd 0 r2 0)) 8) (ag3.wrap (rd 0 r2 1))),((cut r2 4 (ag3.wrap (2+(ag3.wrap ((r2.length:Int).tdiv 2))))),(cut r2 (ag3.wrap (2+(ag3.wrap ((r2.length:Int).tdiv 2)))) (r2.length:Int)))),())).bind fun r4=>
     ((bif !!r4 then QY.run m_ (((KY .i64 (Jd .i64 (ag3.wrap (rd 0 r2 0)) 8) (ag3.wrap (rd 0 r2 1))),((cut r2 4 (ag3.wrap (2+(ag3.wrap ((r2.length:Int).tdiv 2))))),(cut r2 (ag3.wrap (2+(ag3.wrap ((r2.length:Int).tdiv 2)))) (r2.length:Int)))),())else some ([]:List Int))).bind fun r5=>
     bif(!r4||(!(decide (r5=r2))))then
      some ((0,(([]:List Int),([]:List Int))),10,())
     else
      some (((KY .i64 (Jd .i64 (ag3.wrap (rd 0 r2 0)) 8) (ag3.wrap (rd 0 r2 1))),((cut r2 4 (ag3.wrap (2+(ag3.wrap ((r2.length:Int).tdiv 2))))),(cut r2 (ag3.wrap (2+(ag3.wrap ((r2.length:Int).tdiv 2)))) (r2.length:Int)))),0,())else none else none else none else none else none else none else none else none else none else none else none else none else none else none else none
theorem k:KT (O m_) [] ⟨74,[.ag Rz,.ag Wv,.one .str],.iF [.sh (.ag Yw),.sh (.one (.int .i64))],run m_⟩ []:=fun _=>by kernel_rfl
def c:=co (k m_)
end S9

namespace Un
def O(m_:Dq):OO P:=lI []
def run(m_:Dq):(Int×List Int)×Unit->Option (Bool):=fun v_=>match v_ with
|(f,())=>
 some (decide (f.1=1028))
theorem k:KT (O m_) [] ⟨95,[.ag Yb],.one (.sh (.one .bool)),run m_⟩ []:=fun _=>by kernel_rfl
def c:=co (k m_)
end Un

namespace QZ
def O:OO P:=lI [strings_Repeat.c m_]
def run:(List Int)×Unit->Option (List Int):=fun v_=>match v_ with
|(s,())=>
 bif vZ (s.length:Int)then
 (strings_Repeat.run m_ (([0]:List Int),(Jc .i64 (ag3.wrap (0-(s.length:Int))) 3),())).bind fun r=>
 bif decide (s.length+r.length<=maxStr)then
 some (s++r)else none else none
theorem k:KT (O m_) [] ⟨117,[.one .str],.one (.sh (.one .str)),run m_⟩ []:=fun _=>by kernel_rfl
def c:=co (k m_)
end QZ

namespace RH
def O:OO P:=lI [QZ.c m_]
def run:(List Int)×Unit->Option ((List Int)×(List Int)×Int×Unit):=fun v_=>match v_ with
|(body,())=>
 bif vZ (body.length:Int)then
 bif decide ((body.length:Int)<2)then
  some (([]:List Int),([]:List Int),11,())
 else
  bif sS 0 2 (body.length:Int)then
  bif sS 2 (body.length:Int) (body.length:Int)then
  bif inB 0 ((cut body 0 2).length:Int)then
  bif inB 1 ((cut body 0 2).length:Int)then
  bif vZ ((cut body 2 (body.length:Int)).length:Int)then
  bif decide (((cut body 2 (body.length:Int)).length:Int)<2)then
   some (([]:List Int),([]:List Int),11,())
  else
   bif sS 0 2 ((cut body 2 (body.length:Int)).length:Int)then
   bif sS 2 ((cut body 2 (body.length:Int)).length:Int) ((cut body 2 (body.length:Int)).length:Int)then
   bif inB 0 ((cut (cut body 2 (body.length:Int)) 0 2).length:Int)then
   bif inB 1 ((cut (cut body 2 (body.length:Int)) 0 2).length:Int)then
   bif !(decide ((KY .i64 (Jd .i64 (ag3.wrap (rd 0 (cut body 0 2) 0)) 8) (ag3.wrap (rd 0 (cut body 0 2) 1)))=16))then
    some (([]:List Int),([]:List Int),10,())
   else
    bif vZ ((cut (cut body 2 (body.length:Int)) 2 ((cut body 2 (body.length:Int)).length:Int)).length:Int)then
    bif decide (((cut (cut body 2 (body.length:Int)) 2 ((cut body 2 (body.length:Int)).length:Int)).length:Int)<(KY .i64 (Jd .i64 (ag3.wrap (rd 0 (cut body 0 2) 0)) 8) (ag3.wrap (rd 0 (cut body 0 2) 1))))then
     some (([]:List Int),([]:List Int),10,())
    else
     bif sS 0 (KY .i64 (Jd .i64 (ag3.wrap (rd 0 (cut body 0 2) 0)) 8) (ag3.wrap (rd 0 (cut body 0 2) 1))) ((cut (cut body 2 (body.length:Int)) 2 ((cut body 2 (body.length:Int)).length:Int)).length:Int)then
     bif sS (KY .i64 (Jd .i64 (ag3.wrap (rd 0 (cut body 0 2) 0)) 8) (ag3.wrap (rd 0 (cut body 0 2) 1))) ((cut (cut body 2 (body.length:Int)) 2 ((cut body 2 (body.length:Int)).length:Int)).length:Int) ((cut (cut body 2 (body.length:Int)) 2 ((cut body 2 (body.length:Int)).length:Int)).length:Int)then
     bif vZ ((cut (cut (cut body 2 (body.length:Int)) 2 ((cut body 2 (body.length:Int)).length:Int)) (KY .i64 (Jd .i64 (ag3.wrap (rd 0 (cut body 0 2) 0)) 8) (ag3.wrap (rd 0 (cut body 0 2) 1))) ((cut (cut body 2 (body.length:Int)) 2 ((cut body 2 (body.length:Int)).length:Int)).length:Int)).length:Int)then
     bif decide (((cut (cut (cut body 2 (body.length:Int)) 2 ((cut body 2 (body.length:Int)).length:Int)) (KY .i64 (Jd .i64 (ag3.wrap (rd 0 (cut body 0 2) 0)) 8) (ag3.wrap (rd 0 (cut body 0 2) 1))) ((cut (cut body 2 (body.length:Int)) 2 ((cut body 2 (body.length:Int)).length:Int)).length:Int)).length:Int)<(KY .i64 (Jd .i64 (ag3.wrap (rd 0 (cut (cut body 2 (body.length:Int)) 0 2) 0)) 8) (ag3.wrap (rd 0 (cut (cut body 2 (body.length:Int)) 0 2) 1))))then
      some (([]:List Int),([]:List Int),10,())
     else
      bif sS 0 (KY .i64 (Jd .i64 (ag3.wrap (rd 0 (cut (cut body 2 (body.length:Int)) 0 2) 0)) 8) (ag3.wrap (rd 0 (cut (cut body 2 (body.length:Int)) 0 2) 1))) ((cut (cut (cut body 2 (body.length:Int)) 2 ((cut body 2 (body.length:Int)).length:Int)) (KY .i64 (Jd .i64 (ag3.wrap (rd 0 (cut body 0 2) 0)) 8) (ag3.wrap (rd 0 (cut body 0 2) 1))) ((cut (cut body 2 (body.length:Int)) 2 ((cut body 2 (body.length:Int)).length:Int)).length:Int)).length:Int)then
      bif sS (KY .i64 (Jd .i64 (ag3.wrap (rd 0 (cut (cut body 2 (body.length:Int)) 0 2) 0)) 8) (ag3.wrap (rd 0 (cut (cut body 2 (body.length:Int)) 0 2) 1))) ((cut (cut (cut body 2 (body.length:Int)) 2 ((cut body 2 (body.length:Int)).length:Int)) (KY .i64 (Jd .i64 (ag3.wrap (rd 0 (cut body 0 2) 0)) 8) (ag3.wrap (rd 0 (cut body 0 2) 1))) ((cut (cut body 2 (body.length:Int)) 2 ((cut body 2 (body.length:Int)).length:Int)).length:Int)).length:Int) ((cut (cut (cut body 2 (body.length:Int)) 2 ((cut body 2 (body.length:Int)).length:Int)) (KY .i64 (Jd .i64 (ag3.wrap (rd 0 (cut body 0 2) 0)) 8) (ag3.wrap (rd 0 (cut body 0 2) 1))) ((cut (cut body 2 (body.length:Int)) 2 ((cut body 2 (body.length:Int)).length:Int)).length:Int)).length:Int)then
      bif decide ((cut (cut (cut (cut body 2 (body.length:Int)) 2 ((cut body 2 (body.length:Int)).length:Int)) (KY .i64 (Jd .i64 (ag3.wrap (rd 0 (cut body 0 2) 0)) 8) (ag3.wrap (rd 0 (cut body 0 2) 1))) ((cut (cut body 2 (body.length:Int)) 2 ((cut body 2 (body.length:Int)).length:Int)).length:Int)) 0 (KY .i64 (Jd .i64 (ag3.wrap (rd 0 (cut (cut body 2 (body.length:Int)) 0 2) 0)) 8) (ag3.wrap (rd 0 (cut (cut body 2 (body.length:Int)) 0 2) 1)))).length+(cut (cut (cut (cut body 2 (body.length:Int)) 2 ((cut body 2 (body.length:Int)).length:Int)) (KY .i64 (Jd .i64 (ag3.wrap (rd 0 (cut body 0 2) 0)) 8) (ag3.wrap (rd 0 (cut body 0 2) 1))) ((cut (cut body 2 (body.length:Int)) 2 ((cut body 2 (body.length:Int)).length:Int)).length:Int)) (KY .i64 (Jd .i64 (ag3.wrap (rd 0 (cut (cut body 2 (body.length:Int)) 0 2) 0)) 8) (ag3.wrap (rd 0 (cut (cut body 2 (body.length:Int)) 0 2) 1))) ((cut (cut (cut body 2 (body.length:Int)) 2 ((cut body 2 (body.length:Int)).length:Int)) (KY .i64 (Jd .i64 (ag3.wrap (rd 0 (cut body 0 2) 0)) 8) (ag3.wrap (rd 0 (cut body 0 2) 1))) ((cut (cut body 2 (body.length:Int)) 2 ((cut body 2 (body.length:Int)).length:Int)).length:Int)).length:Int)).length<=maxStr)then
      (QZ.run m_ ((cut (cut (cut (cut body 2 (body.length:Int)) 2 ((cut body 2 (body.length:Int)).length:Int)) (KY .i64 (Jd .i64 (ag3.wrap (rd 0 (cut body 0 2) 0)) 8) (ag3.wrap (rd 0 (cut body 0 2) 1))) ((cut (cut body 2 (body.length:Int)) 2 ((cut body 2 (body.length:Int)).length:Int)).length:Int)) 0 (KY .i64 (Jd .i64 (ag3.wrap (rd 0 (cut (cut body 2 (body.length:Int)) 0 2) 0)) 8) (ag3.wrap (rd 0 (cut (cut body 2 (body.length:Int)) 0 2) 1)))),())).bind fun r=>
      bif !(decide (((cut (cut (cut (cut body 2 (body.length:Int)) 2 ((cut body 2 (body.length:Int)).length:Int)) (KY .i64 (Jd .i64 (ag3.wrap (rd 0 (cut body 0 2) 0)) 8) (ag3.wrap (rd 0 (cut body 0 2) 1))) ((cut (cut body 2 (body.length:Int)) 2 ((cut body 2 (body.length:Int)).length:Int)).length:Int)) 0 (KY .i64 (Jd .i64 (ag3.wrap (rd 0 (cut (cut body 2 (body.length:Int)) 0 2) 0)) 8) (ag3.wrap (rd 0 (cut (cut body 2 (body.length:Int)) 0 2) 1))))++(cut (cut (cut (cut body 2 (body.length:Int)) 2 ((cut body 2 (body.length:Int)).length:Int)) (KY .i64 (Jd .i64 (ag3.wrap (rd 0 (cut body 0 2) 0)) 8) (ag3.wrap (rd 0 (cut body 0 2) 1))) ((cut (cut body 2 (body.length:Int)) 2 ((cut body 2 (body.length:Int)).length:Int)).length:Int)) (KY .i64 (Jd .i64 (ag3.wrap (rd 0 (cut (cut body 2 (body.length:Int)) 0 2) 0)) 8) (ag3.wrap (rd 0 (cut (cut body 2 (body.length:Int)) 0 2) 1))) ((cut (cut (cut body 2 (body.length:Int)) 2 ((cut body 2 (body.length:Int)).length:Int)) (KY .i64 (Jd .i64 (ag3.wrap (rd 0 (cut body 0 2) 0)) 8) (ag3.wrap (rd 0 (cut body 0 2) 1))) ((cut (cut body 2 (body.length:Int)) 2 ((cut body 2 (body.length:Int)).length:Int)).length:Int)).length:Int)))=r))then
       some (([]:List Int),([]:List Int),10,())
      else
       some ((cut (cut (cut body 2 (body.length:Int)) 2 ((cut body 2 (body.length:Int)).length:Int)) 0 (KY .i64 (Jd .i64 (ag3.wrap (rd 0 (cut body 0 2) 0)) 8) (ag3.wrap (rd 0 (cut body 0 2) 1)))),(cut (cut (cut (cut body 2 (body.length:Int)) 2 ((cut body 2 (body.length:Int)).length:Int)) (KY .i64 (Jd .i64 (ag3.wrap (rd 0 (cut body 0 2) 0)) 8) (ag3.wrap (rd 0 (cut body 0 2) 1))) ((cut (cut body 2 (body.length:Int)) 2 ((cut body 2 (body.length:Int)).length:Int)).length:Int)) 0 (KY .i64 (Jd .i64 (ag3.wrap (rd 0 (cut (cut body 2 (body.length:Int)) 0 2) 0)) 8) (ag3.wrap (rd 0 (cut (cut body 2 (body.length:Int)) 0 2) 1)))),0,())else none else none else none else none else none else none else none else none else none else none else none else none else none else none else none else none else none
theorem k:KT (O m_) [115,116] ⟨96,[.one .str],.iF [.sh (.one .str),.sh (.one .str),.sh (.one (.int .i64))],run m_⟩ []:=fun v_=>match v_ with|(body,())=>by kernel_rfl
def c:=co (k m_)
end RH

namespace QM
def O(m_:Dq):OO P:=lI []
def run(m_:Dq):Int×Int×Int×Unit->Option (Bool):=fun v_=>match v_ with
|(n,low,high,())=>
 some ((decide (low<=n))&&(decide (n<=high)))
theorem k:KT (O m_) [] ⟨98,[.one (.int .i64),.one (.int .i64),.one (.int .i64)],.one (.sh (.one .bool)),run m_⟩ []:=fun _=>by kernel_rfl
def c:=co (k m_)
end QM

namespace U2
def O(m_:Dq):OO P:=lI []
def run(m_:Dq):Int×Unit->Option (List Int):=fun v_=>match v_ with
|(n,())=>
 some ([(ag5.wrap (Je .i64 n 8)),(ag5.wrap n)]:List Int)
theorem k:KT (O m_) [] ⟨127,[.one (.int .i64)],.one (.sh (.one .str)),run m_⟩ []:=fun _=>by kernel_rfl
def c:=co (k m_)
end U2

namespace Ph
def O:OO P:=MO (lI [U2.c m_]) (MN adK)
def e0:Spec:=⟨[fs 99 [.q 500,.z 500,.b 0,.q 63] [(4,.ptr 0 0),(5,.b),(11,.dat QG),(12,.w),(13,.w)]],[(0,.iY 216 5)],1⟩
def x0:List Spec:=[⟨[fs 99 [.q 512805,.b 2,.q 32051,.b 1,.q 4007,.z 500,.b 0,.q 63] [(2,.s),(3,.w)]],[],0⟩,⟨[fs 99 [.q 2051229,.b 2,.q 32051,.b 1,.q 4007,.z 500,.b 0,.q 63] [(2,.s),(3,.w)]],[],0⟩,⟨[fs 99 [.q 63] [(4,.ptr 0 0),(5,.b)]],[(0,.iY 216 5)],1⟩]
abbrev A0:Type:=Bool×(List (Int×List Int))×Int×Int×LI×Unit
abbrev B0:Type:=(LI×Int×Unit) ⊕ (LI×Int×Unit) ⊕ (Bool×LI×Unit)
def b0(self:A0->Option B0):A0->Option B0:=fun v_=>match v_ with
|(long,t,t1,t2,m,())=>
 bif decide (t2<t1)then
  bif inB t2 (t.length:Int)then
  bif((decide (((rd ((0:Int),([]:List Int)) t t2).1)<0))||(decide (((rd ((0:Int),([]:List Int)) t t2).1)>=65536)))then
   some (.inl (([]:List Int),13,()))
  else
   bif vZ (((rd ((0:Int),([]:List Int)) t t2).2).length:Int)then
   bif((!(!(decide ((((rd ((0:Int),([]:List Int)) t t2).2).length:Int)<12))))||(vZ (((rd ((0:Int),([]:List Int)) t t2).2).length:Int)))then
   bif((decide ((((rd ((0:Int),([]:List Int)) t t2).2).length:Int)<12))||(!(decide ((Jc .i64 (((rd ((0:Int),([]:List Int)) t t2).2).length:Int) 3)=0))))then
    some (.inr (.inl (([]:List Int),10,())))
   else
    ((bif !long then some ()else some ())).bind fun _=>
    bif(!!long||(vZ (((rd ((0:Int),([]:List Int)) t t2).2).length:Int)))then
    bif !(long||(decide ((ag3.wrap ((ag3.wrap ((m.length:Int)+4))+(((rd ((0:Int),([]:List Int)) t t2).2).length:Int)))>1232)))then
     (U2.run m_ ((rd ((0:Int),([]:List Int)) t t2).1,())).bind fun r=>
     bif vZ (((rd ((0:Int),([]:List Int)) t t2).2).length:Int)then
     (U2.run m_ ((ag3.wrap ((((rd ((0:Int),([]:List Int)) t t2).2).length:Int)+4)),())).bind fun r1=>
     bif decide (r.length+r1.length<=maxStr)then
     bif decide ((r++r1).length+((rd ((0:Int),([]:List Int)) t t2).2).length<=maxStr)then
     (GH (m.length+((r++r1)++((rd ((0:Int),([]:List Int)) t t2).2)).length)).bind fun _=>
     self ((long||(decide ((ag3.wrap ((ag3.wrap ((m.length:Int)+4))+(((rd ((0:Int),([]:List Int)) t t2).2).length:Int)))>1232))),t,t1,(ag3.wrap (t2+1)),(m++((r++r1)++((rd ((0:Int),([]:List Int)) t t2).2))),())else none else none else none
    else
     self ((long||(decide ((ag3.wrap ((ag3.wrap ((m.length:Int)+4))+(((rd ((0:Int),([]:List Int)) t t2).2).length:Int)))>1232))),t,t1,(ag3.wrap (t2+1)),m,())else none else none else none else none
 else
  some (.inr (.inr (long,m,())))
theorem k0:KQ 99 (O m_) [] e0 x0 [] (b0 m_):=fun _ _=>by kernel_rfl
def l0:=loop m_ (b0 m_)
theorem q0(v):l0 .lim v=b0 .lim (l0 .lim) v:=KS.q (k0 .lim) v
def s0:=so m_ (k0 m_)
def run:(List (Int×List Int))×Unit->Option ((List Int)×Int×Unit):=fun v_=>match v_ with
|(l,())=>
 bif vZ (l.length:Int)then
 bif decide ((l.length:Int)>16)then
  some (([]:List Int),18,())
 else
  bif vZ (l.length:Int)then
  (Ph.l0 m_ (false,l,(l.length:Int),0,([]:List Int),())).bind fun g_=>match g_ with
  | .inl (t,t1,())=>
   some (t,t1,())
  | .inr (.inl (t2,t3,()))=>
   some (t2,t3,())
  | .inr (.inr (long,m,()))=>
   bif long then
    some (([]:List Int),12,())
   else
    some (m,0,())else none else none
theorem k:KT (O m_) [] ⟨99,[.one QG],.iF [.sh (.one .str),.sh (.one (.int .i64))],run m_⟩ [s0 m_]:=fun _=>by kernel_rfl
def c:=co (k m_)
end Ph

namespace Nu
def O:OO P:=lI [QM.c m_,Ph.c m_]
def f0:gG:=fs 100 [.q 12,.z 12,.b 0] [(0,.slc 0 0 (some 48) (.int .u8)),(1,.u),(6,.w),(7,.w)]
def o1:dJ:= .c [.dat (.arr 48 (.int .u8))]
def o2:dJ:= .c [.w,.w,.w,.w,.w,.w,.dat (.int .u32),.dat (.int .u32),.dat (.int .u32),.u,.u,.u,.u,.dat QG]
def e0:Spec:=⟨[f0,fs 78 [.v 130713 [9],.b 1,.q 32679,.z 4084,.b 0,.q 511] [(1,.ptr 1 0),(4,.s),(6,.ptr 0 0),(84,.dat tY4),(85,.w)]],[(0,o1),(1,o2)],2⟩
def x0:List Spec:=[⟨[fs 100 [] [],fs 78 [.v 130713 [9],.b 1,.q 32679,.z 4084,.b 0,.q 511] [(1,.ptr 0 0),(4,.s),(6,.ptr 1 0),(84,.dat tY4),(85,.w)]],[(0,o2),(1,o1)],2⟩]
abbrev A0:Type:=Int×Int×Int×Int×Int×LI×LI×Int×LI×Int×Int×Int×Int×Int×Int×Int×Int×Int×Int×Int×Int×Int×(List (Int×List Int))×Unit
abbrev B0:Type:=(LI×LI×Int×Int×Int×Int×Int×Int×Int×Int×Int×Int×Int×Int×Int×Int×(List (Int×List Int))×LI×Unit)
def b0(m_:Dq)(self:A0->Option B0):A0->Option B0:=fun v_=>match v_ with
|(bp,bq,n,t,t1,f,t2,t3,m,m1,m2,m3,m4,m5,m6,m7,m8,m9,m10,m11,m12,m13,m14,())=>
 bif decide (t1<t)then
  bif vZ bq then
  bif decide (0<=(ag3.wrap (8*(ag3.wrap ((ag3.wrap (bq-1))-t1)))))then
  bif inB t1 bq then
  self (bp,bq,n,t,(ag3.wrap (t1+1)),f,t2,t3,(m.set ((bp+t1).toNat) (ag5.wrap (Je .u64 n (ag3.wrap (8*(ag3.wrap ((ag3.wrap (bq-1))-t1))))))),m1,m2,m3,m4,m5,m6,m7,m8,m9,m10,m11,m12,m13,m14,())else none else none else none
 else
  some (f,t2,t3,m1,m2,m3,m4,m5,m6,m7,m8,m9,m10,m11,m12,m13,m14,m,())
theorem k0:KQ 78 (O m_) [100] e0 x0 [] (b0 m_):=fun _ _=>by kernel_rfl
def l0:=loop m_ (b0 m_)
theorem q0(v):l0 .lim v=b0 .lim (l0 .lim) v:=KS.q (k0 .lim) v
def s0:=so m_ (k0 m_)
def e1:Spec:=⟨[fs 78 [.q 4084,.z 4084,.b 0,.q 511] [(1,.ptr 0 0),(4,.s),(6,.ptr 1 0),(84,.dat tY4),(85,.w)]],[(0,o2),(1,o1)],2⟩
def x1:List Spec:=[⟨[fs 78 [.q 511] [(1,.ptr 0 0),(4,.s),(6,.ptr 1 0)]],[(0,o2),(1,o1)],2⟩]
abbrev A1:Type:=LI×LI×Int×Int×Int×Int×Int×Int×Int×Int×Int×Int×Int×Int×Int×Int×(List (Int×List Int))×LI×Unit
abbrev B1:Type:=(LI×Int×Int×Int×Int×Int×Int×Int×Int×Int×Int×Int×Int×Int×(List (Int×List Int))×LI×Unit)
def b1(self:A1->Option B1):A1->Option B1:=fun v_=>match v_ with
|(f,t,t1,m,m1,m2,m3,m4,m5,m6,m7,m8,m9,m10,m11,m12,m13,m14,())=>
 bif decide (t1<3)then
  bif inB t1 3 then
  bif sS (ag3.wrap (4+(ag3.wrap (4*t1)))) (ag3.wrap (8+(ag3.wrap (4*t1)))) 48 then
  bif vZ ((ag3.wrap (8+(ag3.wrap (4*t1))))-(ag3.wrap (4+(ag3.wrap (4*t1)))))then
  (Nu.l0 m_ ((ag3.wrap (4+(ag3.wrap (4*t1)))),((ag3.wrap (8+(ag3.wrap (4*t1))))-(ag3.wrap (4+(ag3.wrap (4*t1))))),(ag6.wrap (rd 0 t t1)),((ag3.wrap (8+(ag3.wrap (4*t1))))-(ag3.wrap (4+(ag3.wrap (4*t1))))),0,f,t,t1,m14,m,m1,m2,m3,m4,m5,m6,m7,m8,m9,m10,m11,m12,m13,())).bind fun (f1,t2,t3,m15)=>
  self (f1,t2,(ag3.wrap (t3+1)),m15)else none else none else none
 else
  some (f,m,m1,m2,m3,m4,m5,m6,m7,m8,m9,m10,m11,m12,m13,m14,())
theorem k1:KQ 78 (O m_) [100] e1 x1 [s0 m_] (b1 m_):=fun _ _=>by kernel_rfl
def l1:=loop m_ (b1 m_)
theorem q1(v):l1 .lim v=b1 .lim (l1 .lim) v:=KS.q (k1 .lim) v
def s1:=so m_ (k1 m_)
def f3:gG:=fs 78 [.v 261785 [8],.b 3,.q 65447,.z 8180,.b 2,.q 1023] [(4,.s),(6,.ptr 0 0),(108,.dat (.arr 4 (.int .u64))),(109,.w)]
def e2:Spec:=⟨[f0,f3],[(0,o1)],1⟩
def x2:List Spec:=[⟨[fs 100 [] [],f3],[(0,o1)],1⟩]
abbrev A2:Type:=Int×Int×Int×Int×Int×LI×LI×Int×LI×Unit
abbrev B2:Type:=(LI×LI×Int×LI×Unit)
def b2(m_:Dq)(self:A2->Option B2):A2->Option B2:=fun v_=>match v_ with
|(bp,bq,n,t,t1,f,t2,t3,m,())=>
 bif decide (t1<t)then
  bif vZ bq then
  bif decide (0<=(ag3.wrap (8*(ag3.wrap ((ag3.wrap (bq-1))-t1)))))then
  bif inB t1 bq then
  self (bp,bq,n,t,(ag3.wrap (t1+1)),f,t2,t3,(m.set ((bp+t1).toNat) (ag5.wrap (Je .u64 n (ag3.wrap (8*(ag3.wrap ((ag3.wrap (bq-1))-t1))))))),())else none else none else none
 else
  some (f,t2,t3,m,())
theorem k2:KQ 78 (O m_) [100] e2 x2 [] (b2 m_):=fun _ _=>by kernel_rfl
def l2:=loop m_ (b2 m_)
theorem q2(v):l2 .lim v=b2 .lim (l2 .lim) v:=KS.q (k2 .lim) v
def s2:=so m_ (k2 m_)
def e3:Spec:=⟨[fs 78 [.q 8180,.z 8180,.b 2,.q 1023] [(4,.s),(6,.ptr 0 0),(108,.dat (.arr 4 (.int .u64))),(109,.w)]],[(0,o1)],1⟩
def x3:List Spec:=[⟨[fs 78 [.q 1023] [(4,.s),(6,.ptr 0 0)]],[(0,o1)],1⟩]
abbrev A3:Type:=LI×LI×Int×LI×Unit
abbrev B3:Type:=(LI×LI×Unit)
def b3(self:A3->Option B3):A3->Option B3:=fun v_=>match v_ with
|(f,t,t1,m,())=>
 bif decide (t1<4)then
  bif inB t1 4 then
  bif sS (ag3.wrap (16+(ag3.wrap (8*t1)))) (ag3.wrap (24+(ag3.wrap (8*t1)))) 48 then
  bif vZ ((ag3.wrap (24+(ag3.wrap (8*t1))))-(ag3.wrap (16+(ag3.wrap (8*t1)))))then
  (Nu.l2 m_ ((ag3.wrap (16+(ag3.wrap (8*t1)))),((ag3.wrap (24+(ag3.wrap (8*t1))))-(ag3.wrap (16+(ag3.wrap (8*t1))))),(rd 0 t t1),((ag3.wrap (24+(ag3.wrap (8*t1))))-(ag3.wrap (16+(ag3.wrap (8*t1))))),0,f,t,t1,m,())).bind fun (f1,t2,t3,m1,())=>
  self (f1,t2,(ag3.wrap (t3+1)),m1,())else none else none else none
 else
  some (f,m,())
theorem k3:KQ 78 (O m_) [100] e3 x3 [s2 m_] (b3 m_):=fun _ _=>by kernel_rfl
def l3:=loop m_ (b3 m_)
theorem q3(v):l3 .lim v=b3 .lim (l3 .lim) v:=KS.q (k3 .lim) v
def s3:=so m_ (k3 m_)
def run:DT2×Unit->Option ((List Int)×Int×Unit):=fun v_=>match v_ with
|(p,())=>
 (QM.run m_ (p.1,0,3,())).bind fun r=>
 ((bif !!r then QM.run m_ (p.2.1,0,7,())else some false)).bind fun r1=>
 ((bif !(!r|| !r1)then QM.run m_ (p.2.2.1,0,7,())else some false)).bind fun r2=>
 ((bif !((!r|| !r1)|| !r2)then QM.run m_ (p.2.2.2.1,0,255,())else some false)).bind fun r3=>
 ((bif !(((!r|| !r1)|| !r2)|| !r3)then QM.run m_ (p.2.2.2.2.1,(-128),127,())else some false)).bind fun r4=>
 ((bif !((((!r|| !r1)|| !r2)|| !r3)|| !r4)then QM.run m_ (p.2.2.2.2.2.1,(-128),127,())else some false)).bind fun r5=>
 bif(((((!r|| !r1)|| !r2)|| !r3)|| !r4)|| !r5)then
  some (([]:List Int),13,())
 else
  (Ph.run m_ (p.2.2.2.2.2.2.2.2.2.2.2.2.2,())).bind fun (r6,r7,())=>
  bif !(decide (r7=0))then
   some (([]:List Int),r7,())
  else
   (Nu.l1 m_ (r6,((((ag4 3 (0:Int):List Int).set 0 p.2.2.2.2.2.2.1).set 1 p.2.2.2.2.2.2.2.1).set 2 p.2.2.2.2.2.2.2.2.1),0,p.1,p.2.1,p.2.2.1,p.2.2.2.1,p.2.2.2.2.1,p.2.2.2.2.2.1,p.2.2.2.2.2.2.1,p.2.2.2.2.2.2.2.1,p.2.2.2.2.2.2.2.2.1,p.2.2.2.2.2.2.2.2.2.1,p.2.2.2.2.2.2.2.2.2.2.1,p.2.2.2.2.2.2.2.2.2.2.2.1,p.2.2.2.2.2.2.2.2.2.2.2.2.1,p.2.2.2.2.2.2.2.2.2.2.2.2.2,(((((ag4 48 (0:Int)).set 0 (ag5.wrap (KY .i64 (KY .i64 (Jd .i64 p.1 6) (Jd .i64 p.2.1 3)) p.2.2.1))).set 1 (ag5.wrap p.2.2.2.1)).set 2 (ag5.wrap p.2.2.2.2.1)).set 3 (ag5.wrap p.2.2.2.2.2.1)),())).bind fun (f,m,m1,m2,m3,m4,m5,m6,m7,m8,m9,m10,m11,m12,m13,m14,())=>
   (Nu.l3 m_ (f,(((((ag4 4 (0:Int):List Int).set 0 m9).set 1 m10).set 2 m11).set 3 m12),0,m14,())).bind fun (f1,m15,())=>
   bif decide (((m15.drop 0).take 48).length+f1.length<=maxStr)then
   some ((((m15.drop 0).take 48)++f1),0,())else none
theorem k:KT (O m_) [100] ⟨78,[.ag Yx],.iF [.sh (.one .str),.sh (.one (.int .i64))],run m_⟩ [s1 m_,s3 m_]:=fun _=>by kernel_rfl
def c:=co (k m_)
end Nu

namespace Qc
def O:OO P:=lI [RN.c m_,Nu.c m_,OE.c m_,O1.c m_,Un.c m_,RH.c m_]
def f0:gG:=fs 75 [.v 30 [2,3],.q 31] [(2,.s),(3,.ptr 0 0),(6,.ptr 1 0),(8,.ptr 2 0)]
def o1:dJ:= .c [.b,.dat Uw]
def o2:dJ:= .c [.w,.w,.w,.w,.w,.w,.dat (.int .u32),.dat (.int .u32),.dat (.int .u32),.u,.u,.u,.u,.CU,.CU,.CU]
def o3:dJ:= .c [.w,.w,.w,.w,.w,.w,.dat (.int .u32),.dat (.int .u32),.dat (.int .u32),.u,.u,.u,.u,.dat QG]
def e0:Spec:=⟨[fs 94 [.q 52,.z 52,.b 0,.q 7] [(0,.dat QG),(1,.fn (.func 95) []),(7,.w),(8,.w)],f0],[(0,o1),(1,o2),(2,o3)],3⟩
def x0:List Spec:=[⟨[fs 94 [.q 13517,.b 1,.q 423,.z 52,.b 0,.q 7] [(4,.w)],f0],[(0,o1),(1,o2),(2,o3)],3⟩,⟨[fs 94 [.q 7] [],f0],[(0,o1),(1,o2),(2,o3)],3⟩]
abbrev A0:Type:=(List (Int×List Int))×Int×Int×LI×Bool×(List (List Int×(List LI×(List Int×List Int))))×Int×Int×Int×Int×Int×Int×Int×Int×Int×Int×Int×Int×Int×Int×Int×Int×Int×Int×Int×Int×Int×Int×Int×Int×Int×Int×(List (Int×List Int))×Unit
abbrev B0:Type:=(Int×LI×Bool×(List (List Int×(List LI×(List Int×List Int))))×Int×Int×Int×Int×Int×Int×Int×Int×Int×Int×Int×Int×Int×Int×Int×Int×Int×Int×Int×Int×Int×Int×Int×Int×Int×Int×(List (Int×List Int))×Unit) ⊕ (LI×Bool×(List (List Int×(List LI×(List Int×List Int))))×Int×Int×Int×Int×Int×Int×Int×Int×Int×Int×Int×Int×Int×Int×Int×Int×Int×Int×Int×Int×Int×Int×Int×Int×Int×Int×(List (Int×List Int))×Unit)
def b0(self:A0->Option B0):A0->Option B0:=fun v_=>match v_ with
|(s,t,t1,key)=>
 bif decide (t1<t)then
  bif inB t1 (s.length:Int)then
  (Un.run m_ ((rd ((0:Int),([]:List Int)) s t1),())).bind fun r=>
  bif r then
   some (.inl (t1,key))
  else
   self (s,t,(ag3.wrap (t1+1)),key)else none
 else
  some (.inr (key))
theorem k0:KQ 75 (O m_) [94] e0 x0 [] (b0 m_):=fun _ _=>by kernel_rfl
def l0:=loop m_ (b0 m_)
theorem q0(v):l0 .lim v=b0 .lim (l0 .lim) v:=KS.q (k0 .lim) v
def s0:=so m_ (k0 m_)
def run:Rx×(List Int)×(List Int)×Unit->Option ((DT2×(List (Int×List Int)×List (Int×List Int)))×Int×Unit):=fun v_=>match v_ with
|(v,s,key,())=>
 (RN.run m_ (s,())).bind fun (r,r1,())=>
 bif !(decide (r1=0))then
  some (((0,(0,(0,(0,(0,(0,(0,(0,(0,(0,(0,(0,(0,([]:List (Int×List Int))))))))))))))),WU),r1,())
 else
  bif vZ (r.2.2.2.2.2.2.2.2.2.2.2.2.2.length:Int)then
  (Qc.l0 m_ (r.2.2.2.2.2.2.2.2.2.2.2.2.2,(r.2.2.2.2.2.2.2.2.2.2.2.2.2.length:Int),0,key,v.1,v.2,0,0,0,0,0,0,0,0,0,0,0,0,0,r.1,r.2.1,r.2.2.1,r.2.2.2.1,r.2.2.2.2.1,r.2.2.2.2.2.1,r.2.2.2.2.2.2.1,r.2.2.2.2.2.2.2.1,r.2.2.2.2.2.2.2.2.1,r.2.2.2.2.2.2.2.2.2.1,r.2.2.2.2.2.2.2.2.2.2.1,r.2.2.2.2.2.2.2.2.2.2.2.1,r.2.2.2.2.2.2.2.2.2.2.2.2.1,r.2.2.2.2.2.2.2.2.2.2.2.2.2,())).bind fun g_=>match g_ with
  | .inl (t,key1,m,m1,m2,m3,m4,m5,m6,m7,m8,m9,m10,m11,m12,m13,m14,m15,m16,m17,m18,m19,m20,m21,m22,m23,m24,Uf,TS,Uz,TT,())=>
   bif decide (t<0)then
    some (((0,(0,(0,(0,(0,(0,(0,(0,(0,(0,(0,(0,(0,([]:List (Int×List Int))))))))))))))),WU),19,())
   else
    bif((sS 0 t t)&&(decide (t<=(TT.length:Int))))then
    bif inB t (TT.length:Int)then
    (RH.run m_ ((rd ((0:Int),([]:List Int)) TT t).2,())).bind fun (r2,r3,r4,())=>
    bif !(decide (r4=0))then
     some (((0,(0,(0,(0,(0,(0,(0,(0,(0,(0,(0,(0,(0,([]:List (Int×List Int))))))))))))))),WU),r4,())
    else
     (Nu.run m_ ((m15,(m16,(m17,(m18,(m19,(m20,(m21,(m22,(m23,(m24,(Uf,(TS,(Uz,(cut TT 0 t)))))))))))))),())).bind fun (r5,r6,())=>
     (O1.run m_ ((m,m1),key1,([r5,r2]:List (List Int)),r3,())).bind fun (r7,r8,())=>
     bif !(decide (r8=0))then
      some (((0,(0,(0,(0,(0,(0,(0,(0,(0,(0,(0,(0,(0,([]:List (Int×List Int))))))))))))))),WU),r8,())
     else
      (OE.run m_ (r7,())).bind fun (r9,r10,())=>
      bif !(decide (r10=0))then
       some (((0,(0,(0,(0,(0,(0,(0,(0,(0,(0,(0,(0,(0,([]:List (Int×List Int))))))))))))))),WU),r10,())
      else
       some (((m15,(m16,(m17,(m18,(m19,(m20,(m21,(m22,(m23,(m24,(Uf,(TS,(Uz,([]:List (Int×List Int))))))))))))))),((cut TT 0 t),r9)),0,())else none else none
  | .inr (key2)=>
   some (((0,(0,(0,(0,(0,(0,(0,(0,(0,(0,(0,(0,(0,([]:List (Int×List Int))))))))))))))),WU),19,())else none
theorem k:KT (O m_) [94] ⟨75,[.ag Rz,.one .str,.one .str],.iF [.sh (.ag (.pair Yx (.pair QG QG))),.sh (.one (.int .i64))],run m_⟩ [s0 m_]:=fun _=>by kernel_rfl
def c:=co (k m_)
end Qc

namespace SN
def run(_:Dq):(List Int)×(List Int)×Unit->Option (List Int):=trimF
def c(m_:Dq):CO P:=⟨⟨97,[.one .str,.one .str],.one (.sh (.one .str)),run m_⟩,KC (by kernel_rfl) fun s c w h0 h1 h2=>ahc Go.Proofs.Tryz.lays160 (by kernel_rfl) s c w h0 h1 h2⟩
end SN

namespace Td
def O:OO P:=lI [Om.c m_,SN.c m_]
def run:(List Int)×Unit->Option (Int):=fun v_=>match v_ with
|(code,())=>
 bif vZ (code.length:Int)then
 ((bif !(!(decide ((code.length:Int)=4)))then SN.run m_ (code,([65,66,67,68,69,70,71,72,73,74,75,76,77,78,79,80,81,82,83,84,85,86,87,88,89,90]:List Int),())else some ([]:List Int))).bind fun r=>
 bif((!(decide ((code.length:Int)=4)))||(!(decide (r=([]:List Int)))))then
  some 0
 else
  (Om.run m_ (code,())).bind fun r1=>
  some (ag7.wrap r1)else none
theorem k:KT (O m_) [] ⟨76,[.one .str],.one (.sh (.one (.int .u32))),run m_⟩ []:=fun _=>by kernel_rfl
def c:=co (k m_)
end Td

namespace RZ
def O:OO P:=lI [Nz.c m_]
def run:TY×TY×Unit->Option (Bool):=fun v_=>match v_ with
|(a,b,())=>
 ((bif((decide (a.1=b.1))&&(decide (a.2.2.1=b.2.2.1)))then Nz.run m_ (a.2.1,b.2.1,())else some false)).bind fun r=>
 some (((decide (a.1=b.1))&&(decide (a.2.2.1=b.2.2.1)))&&r)
theorem k:KT (O m_) [] ⟨198,[.ag XF,.ag XF],.one (.sh (.one .bool)),run m_⟩ []:=fun _=>by kernel_rfl
def c:=co (k m_)
end RZ

namespace Pj
def O:OO P:=lI [strings_Repeat.c m_]
def o0:dJ:= .c [.dat UD]
def e0:Spec:=⟨[fs 200 [.q 116,.z 116,.b 0,.q 15] [(0,.w),(1,.s),(5,.ptr 0 0),(7,.w)]],[(0,o0)],1⟩
def x0:List Spec:=[⟨[fs 200 [.q 15] [(1,.s),(5,.ptr 0 0)]],[(0,o0)],1⟩]
abbrev A0:Type:=Int×LI×Int×LI×Unit
abbrev B0:Type:=(LI×LI×Unit)
def b0(m_:Dq)(self:A0->Option B0):A0->Option B0:=fun v_=>match v_ with
|(n,plain,t,m,())=>
 bif decide (t<8)then
  bif decide (0<=(ag3.wrap (8*t)))then
  bif inB (ag3.wrap (15-t)) 16 then
  self (n,plain,(ag3.wrap (t+1)),(m.set ((ag3.wrap (15-t)).toNat) (ag5.wrap (Je .i64 n (ag3.wrap (8*t))))),())else none else none
 else
  some (plain,m,())
theorem k0:KQ 200 (O m_) [] e0 x0 [] (b0 m_):=fun _ _=>by kernel_rfl
def l0:=loop m_ (b0 m_)
theorem q0(v):l0 .lim v=b0 .lim (l0 .lim) v:=KS.q (k0 .lim) v
def s0:=so m_ (k0 m_)
def run:Int×(List Int)×Unit->Option (List Int):=fun v_=>match v_ with
|(n,plain,())=>
 (Pj.l0 m_ (n,plain,0,(ag4 16 (0:Int)),())).bind fun (Yo,m,())=>
 bif vZ (Yo.length:Int)then
 (strings_Repeat.run m_ (([0]:List Int),(Yo.length:Int),())).bind fun r=>
 bif decide (((m.drop 0).take 16).length+r.length<=maxStr)then
 some (((m.drop 0).take 16)++r)else none else none
theorem k:KT (O m_) [] ⟨200,[.one (.int .i64),.one .str],.one (.sh (.one .str)),run m_⟩ [s0 m_]:=fun _=>by kernel_rfl
def c:=co (k m_)
end Pj

namespace NY
def inl:FuncId->Bool:=fun f=>[].any (Nat.beq f)
def O(m_:Dq):iO:=(Gu [])
theorem Ok(m_:Dq){S0 w0}:bW P S0 w0 (O m_):=(Ea (an))
def run(m_:Dq):(List TY)×Unit->Option (List TY):=fun v_=>match v_ with
|(s,())=>
 bif decide (([]:List TY).length+s.length<977343669134)then
 some (([]:List TY)++s)else none
def c_(m_:Dq):Callee:=⟨201,[.one Uw],.one (.own XF),run m_⟩
theorem kn(m_:Dq):dA P (O m_) inl [] [] (c_ m_).res.fin 20000 false (start 201 [.aC])=(
 some ([]:List TY)):=by kernel_rfl
theorem k(m_:Dq): ∀xs:List TY,dA P (O m_) inl [] [] (c_ m_).res.fin 20000 false (start 201 [.iQ XF xs])=run m_ (xs,()):=by intro xs;kernel_rfl
theorem ok(m_:Dq):(c_ m_).OK P:=Callee.of_nil (fun S0 w0=>(Ok m_)) (by kernel_rfl) (by rfl) (fun S0 w0 cs0=>an) (fun r h=>(kn m_).trans ((show (
 some ([]:List TY))=NY.run m_ ([],())from by kernel_rfl).trans h)) (fun x r h=>(NY.k m_ x).trans h)
def c(m_:Dq):CO P:=⟨c_ m_,ok m_⟩
end NY

namespace UY
def O:OO P:=lI [NI.c m_,Q5.c m_,Q7.c m_,OL.c m_]
def run:(List Int)×(List (List Int))×(List Int)×Unit->Option ((List Int)×Int×Unit):=fun v_=>match v_ with
|(key,ad,plain,())=>
 (Q5.run m_ (key,ad,())).bind fun (r,r1,r2,())=>
 bif !(decide (r2=0))then
  some (([]:List Int),r2,())
 else
  bif vZ (plain.length:Int)then
  bif decide ((plain.length:Int)>65536)then
   some (([]:List Int),12,())
  else
   (NI.run m_ (ad,())).bind fun r3=>
   bif decide (r3.length+([plain]:List (List Int)).length<4398046511104)then
   (OL.run m_ (r,(r3++([plain]:List (List Int))),())).bind fun r4=>
   (Q7.run m_ (r1,r4,plain,())).bind fun r5=>
   bif decide (r4.length+r5.length<=maxStr)then
   some ((r4++r5),0,())else none else none else none
theorem k:KT (O m_) [] ⟨205,[.one .str,.one (.lst .str),.one .str],.iF [.sh (.one .str),.sh (.one (.int .i64))],run m_⟩ []:=fun _=>by kernel_rfl
def c:=co (k m_)
end UY

namespace QJ
def O:OO P:=lI [UY.c m_]
def run:Unit×TY×Unit->Option ((List Int)×Int×Unit):=fun v_=>match v_ with
|(a,k,())=>
 (UY.run m_ (k.1,k.2.1,k.2.2.1,())).bind fun (r,r1,())=>
 some (r,r1,())
theorem k:KT (O m_) [] ⟨203,[.ag .unit,.ag XF],.iF [.sh (.one .str),.sh (.one (.int .i64))],run m_⟩ []:=fun _=>by kernel_rfl
def c:=co (k m_)
end QJ

namespace Pm
def O:OO P:=lI [Qp.c m_,RZ.c m_,NI.c m_,Pj.c m_,NY.c m_,QJ.c m_]
def o0:dJ:= .c [.dat Uw]
def o1:dJ:= .c [.b,.dat Uw]
def f2:gG:=fs 192 [.v 60 [5,6],.q 61,.q 31] [(0,.ptr 0 0),(3,.ptr 1 0)]
def f3:gG:=fs 131 [.v 14 [5,6,7,8,9,10],.q 15] [(4,.ptr 2 0),(8,.ptr 3 0),(11,.G8 228 (.ptr 0 0))]
def e0:Spec:=⟨[fs 194 [.q 52,.z 52,.b 0,.q 7] [(0,.dat Uw),(1,.fn (.func 197) [0]),(7,.w),(8,.w)],fs 192 [.v 60 [5,6],.q 61,.q 31] [(0,.ptr 1 0),(3,.ptr 0 0)],fs 131 [.v 14 [5,6,7,8,9,10],.q 15] [(4,.ptr 2 0),(8,.ptr 3 0),(11,.G8 228 (.ptr 1 0))]],[(0,.c [.s,.t,.s,.s]),(1,o0),(2,o1),(3,.c [.b,.CU])],4⟩
def x0:List Spec:=[⟨[fs 194 [.q 13517,.b 1,.q 423,.z 52,.b 0,.q 7] [(4,.w)],f2,f3],[(0,o0),(1,.c [.s,.t,.s,.s]),(2,o1),(3,.c [.b,.CU])],4⟩,⟨[fs 194 [.q 7] [],f2,f3],[(0,o0),(1,.c [.s,.t,.s,.s]),(2,o1),(3,.c [.b,.CU])],4⟩]
abbrev A0:Type:=(List (List Int×(List LI×(List Int×List Int))))×Int×Int×LI×LL×LI×LI×(List (List Int×(List LI×(List Int×List Int))))×Bool×(List (List Int×(List LI×(List Int×List Int))))×Bool×Unit
abbrev B0:Type:=(Int×(List (List Int×(List LI×(List Int×List Int))))×LI×LL×LI×LI×Bool×(List (List Int×(List LI×(List Int×List Int))))×Bool×Unit) ⊕ ((List (List Int×(List LI×(List Int×List Int))))×LI×LL×LI×LI×Bool×(List (List Int×(List LI×(List Int×List Int))))×Bool×Unit)
def b0(self:A0->Option B0):A0->Option B0:=fun v_=>match v_ with
|(s,t,t1,m,m1,m2,m3,m4,m5)=>
 bif decide (t1<t)then
  bif inB t1 (s.length:Int)then
  (RZ.run m_ ((rd PL s t1),(m,(m1,(m2,m3))),())).bind fun r=>
  bif r then
   some (.inl (t1,m4,m,m1,m2,m3,m5))
  else
   self (s,t,(ag3.wrap (t1+1)),m,m1,m2,m3,m4,m5)else none
 else
  some (.inr (m4,m,m1,m2,m3,m5))
theorem k0:KQ 131 (O m_) [112,148,192,194,197] e0 x0 [] (b0 m_):=fun _ _=>by kernel_rfl
def l0:=loop m_ (b0 m_)
theorem q0(v):l0 .lim v=b0 .lim (l0 .lim) v:=KS.q (k0 .lim) v
def s0:=so m_ (k0 m_)
def run:Rx×(List Int)×(List (List Int))×(List Int)×Unit->Option (Rx×(List Int)×Int×Unit):=fun v_=>match v_ with
|(v,key,ad,plain,())=>
 bif v.1 then
  (Qp.run m_ ((key,(ad,(plain,([]:List Int)))),())).bind fun r=>
  bif !(decide (r=0))then
   bif !(decide (r=0))then
    some (v,([]:List Int),r,())
   else
    some ((true,v.2),([]:List Int),0,())
  else
   bif vZ (plain.length:Int)then
   bif decide ((plain.length:Int)>65536)then
    some (v,([]:List Int),12,())
   else
    bif vZ (v.2.length:Int)then
    (Pm.l0 m_ (v.2,(v.2.length:Int),0,key,ad,plain,([]:List Int),v.2,v.1,v.2,false,())).bind fun g_=>match g_ with
    | .inl (t,m,m1,m2,m3,m4,m5,m6,m7,())=>
     bif decide (t>=0)then
      bif inB t (m.length:Int)then
      some ((true,m),(((rd PL m t).2).2).2,0,())else none
     else
      bif vZ (m.length:Int)then
      bif decide ((m.length:Int)>=2048)then
       some ((m5,m6),([]:List Int),18,())
      else
       (NI.run m_ (m2,())).bind fun r1=>
       bif vZ (m.length:Int)then
       (Pj.run m_ ((ag3.wrap ((m.length:Int)+1)),m3,())).bind fun r2=>
       (NY.run m_ (m,())).bind fun r3=>
       bif decide (r3.length+([(m1,(r1,(m3,r2)))]:List TY).length<977343669134)then
       some ((true,(r3++([(m1,(r1,(m3,r2)))]:List TY))),r2,0,())else none else none else none
    | .inr (m8,m9,m10,m11,m12,m13,m14,m15,())=>
     bif vZ (m8.length:Int)then
     bif decide ((m8.length:Int)>=2048)then
      some ((m13,m14),([]:List Int),18,())
     else
      (NI.run m_ (m10,())).bind fun r4=>
      bif vZ (m8.length:Int)then
      (Pj.run m_ ((ag3.wrap ((m8.length:Int)+1)),m11,())).bind fun r5=>
      (NY.run m_ (m8,())).bind fun r6=>
      bif decide (r6.length+([(m9,(r4,(m11,r5)))]:List TY).length<977343669134)then
      some ((true,(r6++([(m9,(r4,(m11,r5)))]:List TY))),r5,0,())else none else none else none else none else none
 else
  (QJ.run m_ ((),(key,(ad,(plain,([]:List Int)))),())).bind fun (r7,r8,())=>
  bif !(decide (r8=0))then
   some (v,([]:List Int),r8,())
  else
   some (abv,r7,0,())
theorem k:KT (O m_) [112,148,192,194,197] ⟨131,[.ag Rz,.one .str,.one (.lst .str),.one .str],.iF [.sh (.ag Rz),.sh (.one .str),.sh (.one (.int .i64))],run m_⟩ [s0 m_]:=fun _=>by kernel_rfl
def c:=co (k m_)
end Pm

namespace Qv
def O:OO P:=lI [RV.c m_,QY.c m_,Pm.c m_]
def o0:dJ:= .c [.b,.dat Uw]
def o1:dJ:= .c [.b,.dat Uw,.dat (.int .u32),.s,.w,.w,.s,.s,.w]
def f2:gG:=⟨79,[.inRange 4,.b 0,.q 63],[(4,.ptr 0 0),(8,.ptr 1 0),(11,.ptr 2 0),(12,.ptr 3 0)],none,[.mark 5],false⟩
def o3:dJ:= .loop .ready none 79 [(12,.ptr 3 0)] [25] (La 250) 5
def e0:Spec:=⟨[fs 129 [.q 12,.z 12,.b 0] [(0,.fn (.yield 0) []),(2,.ptr 1 0),(7,.t),(8,.w),(9,.w)],⟨79,[.inRange 0,.b 0,.q 63],[(4,.ptr 2 0),(8,.ptr 3 0),(11,.ptr 4 0),(12,.ptr 5 0)],none,[.mark 6],false⟩],[(0,.loop .ready none 79 [(12,.ptr 5 0)] [25] (La 250) 6),(1,.c [.ptr 4 0]),(2,o0),(3,.c [.b,.CU]),(4,o1),(5,.c [.own 5009 .str]),(6,.deferred false),(5009,.c [.row .str])],5010⟩
def x0:List Spec:=[⟨[fs 129 [.q 3278,.b 1,.q 103,.z 12,.b 0] [],f2],[(0,o0),(1,.c [.b,.CU]),(2,o1),(3,.c [.own 6 .str]),(4,o3),(5,.deferred false),(6,.c [.row .str])],7⟩,⟨[fs 129 [] [],f2],[(0,o0),(1,.c [.b,.CU]),(2,o1),(3,.c [.own 6 .str]),(4,o3),(5,.deferred false),(6,.c [.row .str])],7⟩]
abbrev A0:Type:=LL×Int×Int×Bool×(List (List Int×(List LI×(List Int×List Int))))×Bool×Bool×(List (List Int×(List LI×(List Int×List Int))))×Int×LI×Int×Int×LI×LI×Int×LL×Unit
abbrev B0:Type:=(Bool×(List (List Int×(List LI×(List Int×List Int))))×Bool×Bool×(List (List Int×(List LI×(List Int×List Int))))×Int×LI×Int×Int×LI×LI×Int×LL×Unit) ⊕ (Bool×(List (List Int×(List LI×(List Int×List Int))))×Bool×Bool×(List (List Int×(List LI×(List Int×List Int))))×Int×LI×Int×Int×LI×LI×Int×LL×Unit)
def b0(self:A0->Option B0):A0->Option B0:=fun v_=>match v_ with
|(t,t1,t2,m,m1,m2,m3,m4,m5,m6,m7,m8,m9,m10,m11,m12,())=>
 bif decide (t2<t1)then
  bif inB t2 (t.length:Int)then
  (RV.run m_ ((m8,(m9,m10)),())).bind fun r=>
  bif !r then
   some (.inl (m,m1,m2,m3,m4,m5,m6,m7,m8,m9,m10,13,m12,()))
  else
   bif vZ ((rd ([]:List Int) t t2).length:Int)then
   bif !(decide (((rd ([]:List Int) t t2).length:Int)=16))then
    some (.inl (m,m1,m2,m3,m4,m5,m6,m7,m8,m9,m10,10,m12,()))
   else
    (QY.run m_ ((m8,(m9,m10)),())).bind fun r1=>
    (Pm.run m_ ((m3,m4),m6,([([(ag5.wrap (Je .u32 m5 24)),(ag5.wrap (Je .u32 m5 16)),(ag5.wrap (Je .u32 m5 8)),(ag5.wrap m5)]:List Int),(rd ([]:List Int) t t2)]:List (List Int)),r1,())).bind fun (r2,r3,r4,())=>
    bif decide (([(ag5.wrap (Je .u32 m5 24)),(ag5.wrap (Je .u32 m5 16)),(ag5.wrap (Je .u32 m5 8)),(ag5.wrap m5)]:List Int).length+(rd ([]:List Int) t t2).length<=maxStr)then
    bif decide ((([(ag5.wrap (Je .u32 m5 24)),(ag5.wrap (Je .u32 m5 16)),(ag5.wrap (Je .u32 m5 8)),(ag5.wrap m5)]:List Int)++(rd ([]:List Int) t t2)).length+r3.length<=maxStr)then
    bif !(!(decide (r4=0)))then
     bif decide (m12.length+([((([(ag5.wrap (Je .u32 m5 24)),(ag5.wrap (Je .u32 m5 16)),(ag5.wrap (Je .u32 m5 8)),(ag5.wrap m5)]:List Int)++(rd ([]:List Int) t t2))++r3)]:List (List Int)).length<4398046511104)then
     bif((!(decide (r4=0)))||false)then
      some (.inl (m,m1,m2,r2.1,r2.2,m5,m6,m7,m8,m9,m10,r4,(m12++([((([(ag5.wrap (Je .u32 m5 24)),(ag5.wrap (Je .u32 m5 16)),(ag5.wrap (Je .u32 m5 8)),(ag5.wrap m5)]:List Int)++(rd ([]:List Int) t t2))++r3)]:List (List Int))),()))
     else
      self (t,t1,(ag3.wrap (t2+1)),m,m1,m2,r2.1,r2.2,m5,m6,m7,m8,m9,m10,r4,(m12++([((([(ag5.wrap (Je .u32 m5 24)),(ag5.wrap (Je .u32 m5 16)),(ag5.wrap (Je .u32 m5 8)),(ag5.wrap m5)]:List Int)++(rd ([]:List Int) t t2))++r3)]:List (List Int))),())else none
    else
     bif((!(decide (r4=0)))||true)then
      some (.inl (m,m1,m2,r2.1,r2.2,m5,m6,m7,m8,m9,m10,r4,m12,()))
     else
      self (t,t1,(ag3.wrap (t2+1)),m,m1,m2,r2.1,r2.2,m5,m6,m7,m8,m9,m10,r4,m12,())else none else none else none else none
 else
  some (.inr (m,m1,m2,m3,m4,m5,m6,m7,m8,m9,m10,m11,m12,()))
theorem k0:KQ 79 (O m_) [101,102,130] e0 x0 [] (b0 m_):=fun _ _=>by kernel_rfl
def l0:=loop m_ (b0 m_)
theorem q0(v):l0 .lim v=b0 .lim (l0 .lim) v:=KS.q (k0 .lim) v
def s0:=so m_ (k0 m_)
def run:Rx×WQ×(Int×(List Int×List Int))×(List (List Int))×Unit->Option (Rx×(List (List Int))×Int×Unit):=fun v_=>match v_ with
|(v,r,k,Oj,())=>
 bif vZ (Oj.length:Int)then
 bif decide ((Oj.length:Int)>8)then
  some (v,([]:List (List Int)),18,())
 else
  bif vZ (r.1.length:Int)then
  bif inB (ag3.wrap ((r.1.length:Int)-1)) (r.1.length:Int)then
  bif vZ (Oj.length:Int)then
  (Qv.l0 m_ (Oj,(Oj.length:Int),0,v.1,v.2,false,v.1,v.2,(rd ((0:Int),(([]:List Int),(0:Int))) r.1 (ag3.wrap ((r.1.length:Int)-1))).1,((rd ((0:Int),(([]:List Int),(0:Int))) r.1 (ag3.wrap ((r.1.length:Int)-1))).2).1,((rd ((0:Int),(([]:List Int),(0:Int))) r.1 (ag3.wrap ((r.1.length:Int)-1))).2).2,k.1,k.2.1,k.2.2,0,([]:List (List Int)),())).bind fun g_=>match g_ with
  | .inl (m,m1,m2,m3,m4,m5,m6,m7,m8,m9,m10,m11,m12,())=>
   bif !(decide (m11=0))then
    some ((m,m1),([]:List (List Int)),m11,())
   else
    some ((m3,m4),m12,0,())
  | .inr (m13,m14,m15,m16,m17,m18,m19,m20,m21,m22,m23,m24,Uf,())=>
   bif !(decide (m24=0))then
    some ((m13,m14),([]:List (List Int)),m24,())
   else
    some ((m16,m17),Uf,0,())else none else none else none else none
theorem k:KT (O m_) [101,102,130] ⟨79,[.ag Rz,.ag Wv,.ag Yw,.one (.lst .str)],.iF [.sh (.ag Rz),.own .str,.sh (.one (.int .i64))],run m_⟩ [s0 m_]:=fun _=>by kernel_rfl
def c:=co (k m_)
end Qv

namespace Vz
def O(m_:Dq):OO P:=lI []
def run(m_:Dq):Int×Unit->Option (List Int):=fun v_=>match v_ with
|(n,())=>
 some ([(ag5.wrap (Je .i64 n 8)),(ag5.wrap n)]:List Int)
theorem k:KT (O m_) [] ⟨132,[.one (.int .i64)],.one (.sh (.one .str)),run m_⟩ []:=fun _=>by kernel_rfl
def c:=co (k m_)
end Vz

namespace UL
def O:OO P:=lI [Ph.c m_,QZ.c m_,Pm.c m_,Vz.c m_]
def run:Rx×(List Int)×(List Int)×(List Int)×(List (Int×List Int))×Unit->Option (Rx×(Int×List Int)×Int×Unit):=fun v_=>match v_ with
|(v,key,MW,ahead,inner,())=>
 bif vZ (MW.length:Int)then
 bif !(decide ((MW.length:Int)=16))then
  some (v,(0,([]:List Int)),10,())
 else
  bif vZ (ahead.length:Int)then
  bif decide ((ahead.length:Int)>1280)then
   some (v,(0,([]:List Int)),12,())
  else
   (Ph.run m_ (inner,())).bind fun (r,r1,())=>
   bif !(decide (r1=0))then
    some (v,(0,([]:List Int)),r1,())
   else
    (Pm.run m_ (v,key,([ahead,MW]:List (List Int)),r,())).bind fun (r2,r3,r4,())=>
    bif !(decide (r4=0))then
     some (v,(0,([]:List Int)),r4,())
    else
     (Vz.run m_ (16,())).bind fun r5=>
     bif vZ (r3.length:Int)then
     (Vz.run m_ ((r3.length:Int),())).bind fun r6=>
     bif decide (r5.length+r6.length<=maxStr)then
     bif decide ((r5++r6).length+MW.length<=maxStr)then
     (QZ.run m_ (r3,())).bind fun r7=>
     bif decide (((r5++r6)++MW).length+r7.length<=maxStr)then
     some (r2,(1028,(((r5++r6)++MW)++r7)),0,())else none else none else none else none else none else none
theorem k:KT (O m_) [] ⟨103,[.ag Rz,.one .str,.one .str,.one .str,.one QG],.iF [.sh (.ag Rz),.sh (.ag Yb),.sh (.one (.int .i64))],run m_⟩ []:=fun _=>by kernel_rfl
def c:=co (k m_)
end UL

namespace N_
def inl:FuncId->Bool:=fun f=>[].any (Nat.beq f)
def O(m_:Dq):iO:=(Gu [])
theorem Ok(m_:Dq){S0 w0}:bW P S0 w0 (O m_):=(Ea (an))
def run(m_:Dq):(List (Int×List Int))×Unit->Option (List (Int×List Int)):=fun v_=>match v_ with
|(s,())=>
 bif decide (([]:List (Int×List Int)).length+s.length<2932031007402)then
 some (([]:List (Int×List Int))++s)else none
def c_(m_:Dq):Callee:=⟨104,[.one QG],.one (.own Yb),run m_⟩
theorem kn(m_:Dq):dA P (O m_) inl [] [] (c_ m_).res.fin 20000 false (start 104 [.aC])=(
 some ([]:List (Int×List Int))):=by kernel_rfl
theorem k(m_:Dq): ∀xs:List (Int×List Int),dA P (O m_) inl [] [] (c_ m_).res.fin 20000 false (start 104 [.iQ Yb xs])=run m_ (xs,()):=by intro xs;kernel_rfl
theorem ok(m_:Dq):(c_ m_).OK P:=Callee.of_nil (fun S0 w0=>(Ok m_)) (by kernel_rfl) (by rfl) (fun S0 w0 cs0=>an) (fun r h=>(kn m_).trans ((show (
 some ([]:List (Int×List Int)))=N_.run m_ ([],())from by kernel_rfl).trans h)) (fun x r h=>(N_.k m_ x).trans h)
def c(m_:Dq):CO P:=⟨c_ m_,ok m_⟩
end N_

namespace Si
def O:OO P:=lI [OM.c m_,Nu.c m_,UL.c m_,N_.c m_]
def run:Rx×DT2×(List Int)×(List Int)×(List (Int×List Int))×Unit->Option (Rx×(List Int)×Int×Unit):=fun v_=>match v_ with
|(v,p,key,MW,inner,())=>
 (OM.run m_ (p.2.2.2.2.2.2.2.2.2.2.2.2.2,1028,())).bind fun r=>
 bif vZ (r.length:Int)then
 bif decide ((r.length:Int)>0)then
  some (v,([]:List Int),23,())
 else
  (Nu.run m_ (p,())).bind fun (r1,r2,())=>
  bif !(decide (r2=0))then
   some (v,([]:List Int),r2,())
  else
   (UL.run m_ (v,key,MW,r1,inner,())).bind fun (r3,r4,r5,())=>
   bif !(decide (r5=0))then
    some (v,([]:List Int),r5,())
   else
    (N_.run m_ (p.2.2.2.2.2.2.2.2.2.2.2.2.2,())).bind fun r6=>
    bif decide (r6.length+([r4]:List (Int×List Int)).length<2932031007402)then
    (Nu.run m_ ((p.1,(p.2.1,(p.2.2.1,(p.2.2.2.1,(p.2.2.2.2.1,(p.2.2.2.2.2.1,(p.2.2.2.2.2.2.1,(p.2.2.2.2.2.2.2.1,(p.2.2.2.2.2.2.2.2.1,(p.2.2.2.2.2.2.2.2.2.1,(p.2.2.2.2.2.2.2.2.2.2.1,(p.2.2.2.2.2.2.2.2.2.2.2.1,(p.2.2.2.2.2.2.2.2.2.2.2.2.1,(r6++([r4]:List (Int×List Int)))))))))))))))),())).bind fun (r7,r8,())=>
    bif !(decide (r8=0))then
     some (v,([]:List Int),r8,())
    else
     some (r3,r7,0,())else none else none
theorem k:KT (O m_) [] ⟨80,[.ag Rz,.ag Yx,.one .str,.one .str,.one QG],.iF [.sh (.ag Rz),.sh (.one .str),.sh (.one (.int .i64))],run m_⟩ []:=fun _=>by kernel_rfl
def c:=co (k m_)
end Si

namespace Oc
def xs:List (FuncId×XK):=[(68,.store),(69,.add .u64),(70,.load .u64)]
theorem acs: ∀x∈xs,x.2.OK P x.1:=ac ⟨_,Go.Proofs.Tryz.func68,by kernel_rfl,by kernel_rfl,by kernel_rfl,by kernel_rfl⟩ (ac ⟨_,Go.Proofs.Tryz.func69,by kernel_rfl,by kernel_rfl,by kernel_rfl,by kernel_rfl⟩ (ac ⟨_,Go.Proofs.Tryz.func70,by kernel_rfl,by kernel_rfl,by kernel_rfl,by kernel_rfl⟩ (an)))
def O:OO P:=MO (MO (lI [Px.c m_,S9.c m_,Qc.c m_,Td.c m_,Nu.c m_,Qv.c m_,Si.c m_]) (MR acs)) (MQ ae_)
def o0:dJ:= .c [.b,.dat Uw]
def o1:dJ:= .c [.CU,.dat (.int .u32),.w,.w,.dat (.int .u32),.dat (.int .u32),.dat (.int .u32),.u,.u,.u]
def o2:dJ:= .c [.w,.s,.s,.s,.u,.u]
def o3:dJ:= .c [.dat XG,.dat (.int .u32),.w,.w,.dat (.int .u32),.dat (.int .u32),.dat (.int .u32),.u,.u,.u]
def o4:dJ:= .c [.H6 44 [0],.H6 45 [0]]
def o5:dJ:= .c [.row Yb]
def e0:Spec:=⟨[fs 44 [.q 1012,.z 1012,.b 0,.q 127] [(0,.ptr 0 0),(4,.ptr 1 0),(55,.own 2 .str),(56,.w),(57,.w)],fs 13 [.v 2096434 [1,2],.q 2096435,.b 1,.q 262055,.z 32756,.b 0,.q 4095] [(12,.ptr 3 0),(13,.ptr 4 0),(14,.ptr 5 0),(15,.ptr 6 0),(17,.fn (.func 38) [6,7,8,9]),(74,.kP 10 2),(75,.lit .i64 2),(76,.lit .i64 0)]],[(0,.c [.b,.dat Uw,.dat XG,.dat (.int .u32),.w,.w,.dat (.int .u32),.dat (.int .u32),.dat (.int .u32),.u,.u,.u,.w,.w,.w,.w,.w,.w,.dat (.int .u32),.dat (.int .u32),.dat (.int .u32),.u,.u,.u,.u,.dat QG,.s,.s,.w,.t,.w,.s,.s,.w,.w,.w,.w,.w,.w,.dat (.int .u32),.dat (.int .u32),.dat (.int .u32),.u,.u,.u,.u,.dat QG,.dat QG,.dat QG,.own 5010 Yb,.s,.w,.s,.s,.s,.u,.u]),(1,o0),(2,.c [.row .str]),(3,.c [.b,.CU]),(4,o1),(5,o2),(6,.c [.u,.u,.u]),(7,o3),(8,o0),(9,.c [.ptr 0 0]),(10,o4),(5010,o5)],5011⟩
def x0:List Spec:=[⟨[fs 44 [.q 127] [(0,.ptr 0 0),(4,.ptr 1 0)],fs 13 [.v 2096434 [1,2],.q 2096435,.b 1,.q 262055,.z 32756,.b 0,.q 4095] [(12,.ptr 2 0),(13,.ptr 3 0),(14,.ptr 4 0),(15,.ptr 5 0),(17,.fn (.func 38) [5,6,7,8]),(74,.kP 9 2),(75,.lit .i64 2),(76,.lit .i64 0)]],[(0,.c [.b,.dat Uw,.dat XG,.dat (.int .u32),.w,.w,.dat (.int .u32),.dat (.int .u32),.dat (.int .u32),.u,.u,.u,.w,.w,.w,.w,.w,.w,.dat (.int .u32),.dat (.int .u32),.dat (.int .u32),.u,.u,.u,.u,.dat QG,.s,.s,.w,.t,.w,.s,.s,.w,.w,.w,.w,.w,.w,.dat (.int .u32),.dat (.int .u32),.dat (.int .u32),.u,.u,.u,.u,.dat QG,.dat QG,.dat QG,.own 10 Yb,.s,.w,.s,.s,.s,.u,.u]),(1,o0),(2,.c [.b,.CU]),(3,o1),(4,o2),(5,.c [.u,.u,.u]),(6,o3),(7,o0),(8,.c [.ptr 0 0]),(9,o4),(10,o5)],11⟩]
abbrev A0:Type:=Int×Int×Bool×(List (List Int×(List LI×(List Int×List Int))))×(List (Int×(List Int×Int)))×Int×Int×Int×Int×Int×Int×Int×Int×Int×Int×Int×Int×Int×Int×Int×Int×Int×Int×Int×Int×Int×Int×(List (Int×List Int))×LI×LI×Int×LL×Int×LI×LI×Int×Int×Int×Int×Int×Int×Int×Int×Int×Int×Int×Int×Int×(List (Int×List Int))×(List (Int×List Int))×(List (Int×List Int))×LI×Int×LI×LI×LI×Int×Int×Bool×(List (List Int×(List LI×(List Int×List Int))))×LL×Bool×Int×Int×Int×Int×Int×Int×Int×Int×Int×Int×LI×LI×LI×Int×Int×Int×Int×Int×(List (Int×(List Int×Int)))×Int×Int×Int×Int×Int×Int×Int×Int×Int×Bool×(List (List Int×(List LI×(List Int×List Int))))×(List (Int×List Int))×Unit
abbrev B0:Type:=(Bool×(List (List Int×(List LI×(List Int×List Int))))×(List (Int×(List Int×Int)))×Int×Int×Int×Int×Int×Int×Int×Int×Int×Int×Int×Int×Int×Int×Int×Int×Int×Int×Int×Int×Int×Int×(List (Int×List Int))×LI×LI×Int×LL×Int×LI×LI×Int×Int×Int×Int×Int×Int×Int×Int×Int×Int×Int×Int×Int×(List (Int×List Int))×(List (Int×List Int))×(List (Int×List Int))×LI×Int×LI×LI×LI×Int×Int×Bool×(List (List Int×(List LI×(List Int×List Int))))×Bool×Int×Int×Int×Int×Int×Int×Int×Int×Int×Int×LI×LI×LI×Int×Int×Int×Int×Int×(List (Int×(List Int×Int)))×Int×Int×Int×Int×Int×Int×Int×Int×Int×Bool×(List (List Int×(List LI×(List Int×List Int))))×(List (Int×List Int))×Unit)
def b0(m_:Dq)(self:A0->Option B0):A0->Option B0:=fun v_=>match v_ with
|(t,t1,m,m1,m2,m3,m4,m5,m6,m7,m8,m9,m10,m11,m12,m13,m14,m15,m16,m17,m18,m19,m20,m21,m22,m23,m24,Uf,TS,Uz,TT,Ul,Vx,VN,m32,Vo,XV,YG,XW,YH,m38,Zm,Zn,m41,ZK,ZL,ZM,Zo,ZN,m47,m48,m49,m50,m51,m52,Zp,Y2,ZO,Zq,Zr,m58,m59,m60,m61,m62,m63,m64,m65,m66,m67,m68,m69,m70,m71,m72,m73,m74,m75,m76,m77,m78,m79,m80,m81,m82,m83,m84,m85,m86,m87,m88,m89,m90,())=>
 bif decide (t1<t)then
  bif inB t1 (m58.length:Int)then
  bif decide (m90.length+([(516,(rd ([]:List Int) m58 t1))]:List (Int×List Int)).length<2932031007402)then
  self (t,(ag3.wrap (t1+1)),m,m1,m2,m3,m4,m5,m6,m7,m8,m9,m10,m11,m12,m13,m14,m15,m16,m17,m18,m19,m20,m21,m22,m23,m24,Uf,TS,Uz,TT,Ul,Vx,VN,m32,Vo,XV,YG,XW,YH,m38,Zm,Zn,m41,ZK,ZL,ZM,Zo,ZN,m47,m48,m49,m50,m51,m52,Zp,Y2,ZO,Zq,Zr,m58,m59,m60,m61,m62,m63,m64,m65,m66,m67,m68,m69,m70,m71,m72,m73,m74,m75,m76,m77,m78,m79,m80,m81,m82,m83,m84,m85,m86,m87,m88,m89,(m90++([(516,(rd ([]:List Int) m58 t1))]:List (Int×List Int))),())else none else none
 else
  some (m,m1,m2,m3,m4,m5,m6,m7,m8,m9,m10,m11,m12,m13,m14,m15,m16,m17,m18,m19,m20,m21,m22,m23,m24,Uf,TS,Uz,TT,Ul,Vx,VN,m32,Vo,XV,YG,XW,YH,m38,Zm,Zn,m41,ZK,ZL,ZM,Zo,ZN,m47,m48,m49,m50,m51,m52,Zp,Y2,ZO,Zq,Zr,m59,m60,m61,m62,m63,m64,m65,m66,m67,m68,m69,m70,m71,m72,m73,m74,m75,m76,m77,m78,m79,m80,m81,m82,m83,m84,m85,m86,m87,m88,m89,m90,())
theorem k0:KQ 13 (O m_) [37,38,39,40,42,43,44,45,77] e0 x0 [] (b0 m_):=fun _ _=>by kernel_rfl
def l0:=loop m_ (b0 m_)
theorem q0(v):l0 .lim v=b0 .lim (l0 .lim) v:=KS.q (k0 .lim) v
def s0:=so m_ (k0 m_)
def run:Rx×DT6×(List Int)×Int×Int×(List (List Int))×Unit->Option (Rx×DT6×afb×Unit):=fun v_=>match v_ with
|(v,x,s,recv,Og,draws,())=>
 (Px.run m_ (s,())).bind fun (r,r1,())=>
 bif !(decide (r1=0))then
  some (v,(x.1,(x.2.1,(x.2.2.1,(x.2.2.2.1,(x.2.2.2.2.1,(x.2.2.2.2.2.1,(x.2.2.2.2.2.2.1,(x.2.2.2.2.2.2.2.1,(ag6.wrap (x.2.2.2.2.2.2.2.2+1)))))))))),(0,(([]:List Int),(([]:List Int),(([]:List Int),(0,0))))),())
 else
  (S9.run m_ (v,x.1,r.2.2.1,())).bind fun (r2,r3,())=>
  bif decide (r3=0)then
   (Qc.run m_ (v,s,r2.2.1,())).bind fun (r4,r5,())=>
   bif !(decide (r5=0))then
    (Td.run m_ (([78,84,83,78]:List Int),())).bind fun r6=>
    (Nu.run m_ ((0,(4,(4,(0,(0,(0,(0,(0,(r6,(0,(r.1.2.2.2.2.2.2.2.2.2.2.2.2.1,(0,(0,([(260,r.2.1)]:List (Int×List Int))))))))))))))),())).bind fun (r7,r8,())=>
    some (v,(x.1,(x.2.1,(x.2.2.1,(x.2.2.2.1,(x.2.2.2.2.1,(x.2.2.2.2.2.1,(x.2.2.2.2.2.2.1,((ag6.wrap (x.2.2.2.2.2.2.2.1+1)),x.2.2.2.2.2.2.2.2)))))))),(2,(r.2.1,(s,(r7,(recv,Og))))),())
   else
    bif vZ (draws.length:Int)then
    bif decide ((draws.length:Int)=0)then
     some (v,(x.1,(x.2.1,(x.2.2.1,(x.2.2.2.1,(x.2.2.2.2.1,(x.2.2.2.2.2.1,(x.2.2.2.2.2.2.1,(x.2.2.2.2.2.2.2.1,(ag6.wrap (x.2.2.2.2.2.2.2.2+1)))))))))),(0,(([]:List Int),(([]:List Int),(([]:List Int),(0,0))))),())
    else
     bif vZ (draws.length:Int)then
     bif sS 1 (ag3.wrap (1+(mn r.2.2.2 (ag3.wrap ((draws.length:Int)-1))))) (draws.length:Int)then
     (Qv.run m_ (v,x.1,r2,(cut draws 1 (ag3.wrap (1+(mn r.2.2.2 (ag3.wrap ((draws.length:Int)-1)))))),())).bind fun (r9,r10,r11,())=>
     bif !(decide (r11=0))then
      bif !(decide (r11=0))then
       some (v,(x.1,(x.2.1,(x.2.2.1,(x.2.2.2.1,(x.2.2.2.2.1,(x.2.2.2.2.2.1,(x.2.2.2.2.2.2.1,(x.2.2.2.2.2.2.2.1,(ag6.wrap (x.2.2.2.2.2.2.2.2+1)))))))))),(0,(([]:List Int),(([]:List Int),(([]:List Int),(0,0))))),())
      else
       bif inB 0 (draws.length:Int)then
       (Si.run m_ (v,(0,(4,(4,(x.2.1,(r4.1.2.2.2.2.1,(x.2.2.1,(x.2.2.2.2.1,(x.2.2.2.2.2.1,(x.2.2.2.1,(recv,(r4.1.2.2.2.2.2.2.2.2.2.2.2.2.1,(recv,(Og,([(260,r.2.1)]:List (Int×List Int))))))))))))))),r2.2.2,(rd ([]:List Int) draws 0),([]:List (Int×List Int)),())).bind fun (r12,r13,XC,())=>
       bif !(decide (XC=0))then
        some (v,(x.1,(x.2.1,(x.2.2.1,(x.2.2.2.1,(x.2.2.2.2.1,(x.2.2.2.2.2.1,(x.2.2.2.2.2.2.1,(x.2.2.2.2.2.2.2.1,(ag6.wrap (x.2.2.2.2.2.2.2.2+1)))))))))),(0,(([]:List Int),(([]:List Int),(([]:List Int),(0,0))))),())
       else
        some (r12,(x.1,(x.2.1,(x.2.2.1,(x.2.2.2.1,(x.2.2.2.2.1,(x.2.2.2.2.2.1,((ag6.wrap (x.2.2.2.2.2.2.1+1)),x.2.2.2.2.2.2.2))))))),(1,(r.2.1,(s,(r13,(recv,Og))))),())else none
     else
      bif vZ (r10.length:Int)then
      (Oc.l0 m_ ((r10.length:Int),0,v.1,v.2,x.1.1,x.1.2,x.2.1,x.2.2.1,x.2.2.2.1,x.2.2.2.2.1,x.2.2.2.2.2.1,x.2.2.2.2.2.2.1,x.2.2.2.2.2.2.2.1,x.2.2.2.2.2.2.2.2,r.1.1,r.1.2.1,r.1.2.2.1,r.1.2.2.2.1,r.1.2.2.2.2.1,r.1.2.2.2.2.2.1,r.1.2.2.2.2.2.2.1,r.1.2.2.2.2.2.2.2.1,r.1.2.2.2.2.2.2.2.2.1,r.1.2.2.2.2.2.2.2.2.2.1,r.1.2.2.2.2.2.2.2.2.2.2.1,r.1.2.2.2.2.2.2.2.2.2.2.2.1,r.1.2.2.2.2.2.2.2.2.2.2.2.2.1,r.1.2.2.2.2.2.2.2.2.2.2.2.2.2,r.2.1,r.2.2.1,r.2.2.2,draws,r2.1,r2.2.1,r2.2.2,r4.1.1,r4.1.2.1,r4.1.2.2.1,r4.1.2.2.2.1,r4.1.2.2.2.2.1,r4.1.2.2.2.2.2.1,r4.1.2.2.2.2.2.2.1,r4.1.2.2.2.2.2.2.2.1,r4.1.2.2.2.2.2.2.2.2.1,r4.1.2.2.2.2.2.2.2.2.2.1,r4.1.2.2.2.2.2.2.2.2.2.2.1,r4.1.2.2.2.2.2.2.2.2.2.2.2.1,r4.1.2.2.2.2.2.2.2.2.2.2.2.2.1,r4.1.2.2.2.2.2.2.2.2.2.2.2.2.2,r4.2.1,r4.2.2,([]:List Int),0,([]:List Int),s,([]:List Int),recv,Og,r9.1,r9.2,r10,false,0,0,0,0,0,0,0,0,0,0,([]:List Int),([]:List Int),([]:List Int),0,0,x.2.2.2.2.2.2.1,x.2.2.2.2.2.2.2.1,x.2.2.2.2.2.2.2.2,x.1.1,x.1.2,x.2.1,x.2.2.1,x.2.2.2.1,x.2.2.2.2.1,x.2.2.2.2.2.1,x.2.2.2.2.2.2.1,x.2.2.2.2.2.2.2.1,x.2.2.2.2.2.2.2.2,v.1,v.2,([]:List (Int×List Int)),())).bind fun (m,m1,m2,m3,m4,m5,m6,m7,m8,m9,m10,m11,m12,m13,m14,m15,m16,m17,m18,m19,m20,m21,m22,m23,m24,Uf,TS,Uz,TT,Ul,Vx,VN,m32,Vo,XV,YG,XW,YH,m38,Zm,Zn,m41,ZK,ZL,ZM,Zo,ZN,m47,m48,m49,m50,m51,m52,Zp,Y2,ZO,Zq,Zr,m58,m59,m60,m61,m62,m63,m64,m65,m66,m67,m68,m69,m70,m71,m72,m73,m74,m75,m76,m77,m78,m79,m80,m81,m82,m83,m84,m85,m86,m87,m88,m89,())=>
      bif inB 0 (Ul.length:Int)then
      (Si.run m_ ((Zq,Zr),(0,(4,(4,(m4,(YH,(m5,(m7,(m8,(m6,(Y2,(Zo,(Y2,(ZO,([(260,TS)]:List (Int×List Int))))))))))))))),m32,(rd ([]:List Int) Ul 0),m89,())).bind fun (r15,r16,r17,())=>
      bif !(decide (r17=0))then
       some ((m87,m88),((m77,m78),(m79,(m80,(m81,(m82,(m83,(m74,(m75,(ag6.wrap (m76+1)))))))))),(0,(([]:List Int),(([]:List Int),(([]:List Int),(0,0))))),())
      else
       some (r15,((m77,m78),(m79,(m80,(m81,(m82,(m83,((ag6.wrap (m74+1)),(m75,m76)))))))),(1,(TS,(m52,(r16,(Y2,ZO))))),())else none else none else none else none else none
  else
   bif !(decide (r3=0))then
    (Td.run m_ (([78,84,83,78]:List Int),())).bind fun r18=>
    (Nu.run m_ ((0,(4,(4,(0,(0,(0,(0,(0,(r18,(0,(r.1.2.2.2.2.2.2.2.2.2.2.2.2.1,(0,(0,([(260,r.2.1)]:List (Int×List Int))))))))))))))),())).bind fun (r19,r20,())=>
    some (v,(x.1,(x.2.1,(x.2.2.1,(x.2.2.2.1,(x.2.2.2.2.1,(x.2.2.2.2.2.1,(x.2.2.2.2.2.2.1,((ag6.wrap (x.2.2.2.2.2.2.2.1+1)),x.2.2.2.2.2.2.2.2)))))))),(2,(r.2.1,(s,(r19,(recv,Og))))),())
   else
    bif vZ (draws.length:Int)then
    bif decide ((draws.length:Int)=0)then
     some (v,(x.1,(x.2.1,(x.2.2.1,(x.2.2.2.1,(x.2.2.2.2.1,(x.2.2.2.2.2.1,(x.2.2.2.2.2.2.1,(x.2.2.2.2.2.2.2.1,(ag6.wrap (x.2.2.2.2.2.2.2.2+1)))))))))),(0,(([]:List Int),(([]:List Int),(([]:List Int),(0,0))))),())
    else
     bif vZ (draws.length:Int)then
     bif sS 1 (ag3.wrap (1+(mn r.2.2.2 (ag3.wrap ((draws.length:Int)-1))))) (draws.length:Int)then
     (Qv.run m_ (v,x.1,r2,(cut draws 1 (ag3.wrap (1+(mn r.2.2.2 (ag3.wrap ((draws.length:Int)-1)))))),())).bind fun (r21,r22,r23,())=>
     bif !(decide (r23=0))then
      bif !(decide (r23=0))then
       some (v,(x.1,(x.2.1,(x.2.2.1,(x.2.2.2.1,(x.2.2.2.2.1,(x.2.2.2.2.2.1,(x.2.2.2.2.2.2.1,(x.2.2.2.2.2.2.2.1,(ag6.wrap (x.2.2.2.2.2.2.2.2+1)))))))))),(0,(([]:List Int),(([]:List Int),(([]:List Int),(0,0))))),())
      else
       bif inB 0 (draws.length:Int)then
       (Si.run m_ (v,(0,(4,(4,(x.2.1,(0,(x.2.2.1,(x.2.2.2.2.1,(x.2.2.2.2.2.1,(x.2.2.2.1,(recv,(0,(recv,(Og,([(260,r.2.1)]:List (Int×List Int))))))))))))))),r2.2.2,(rd ([]:List Int) draws 0),([]:List (Int×List Int)),())).bind fun (r24,r25,r26,())=>
       bif !(decide (r26=0))then
        some (v,(x.1,(x.2.1,(x.2.2.1,(x.2.2.2.1,(x.2.2.2.2.1,(x.2.2.2.2.2.1,(x.2.2.2.2.2.2.1,(x.2.2.2.2.2.2.2.1,(ag6.wrap (x.2.2.2.2.2.2.2.2+1)))))))))),(0,(([]:List Int),(([]:List Int),(([]:List Int),(0,0))))),())
       else
        some (r24,(x.1,(x.2.1,(x.2.2.1,(x.2.2.2.1,(x.2.2.2.2.1,(x.2.2.2.2.2.1,((ag6.wrap (x.2.2.2.2.2.2.1+1)),x.2.2.2.2.2.2.2))))))),(1,(r.2.1,(s,(r25,(recv,Og))))),())else none
     else
      bif vZ (r22.length:Int)then
      (Oc.l0 m_ ((r22.length:Int),0,v.1,v.2,x.1.1,x.1.2,x.2.1,x.2.2.1,x.2.2.2.1,x.2.2.2.2.1,x.2.2.2.2.2.1,x.2.2.2.2.2.2.1,x.2.2.2.2.2.2.2.1,x.2.2.2.2.2.2.2.2,r.1.1,r.1.2.1,r.1.2.2.1,r.1.2.2.2.1,r.1.2.2.2.2.1,r.1.2.2.2.2.2.1,r.1.2.2.2.2.2.2.1,r.1.2.2.2.2.2.2.2.1,r.1.2.2.2.2.2.2.2.2.1,r.1.2.2.2.2.2.2.2.2.2.1,r.1.2.2.2.2.2.2.2.2.2.2.1,r.1.2.2.2.2.2.2.2.2.2.2.2.1,r.1.2.2.2.2.2.2.2.2.2.2.2.2.1,r.1.2.2.2.2.2.2.2.2.2.2.2.2.2,r.2.1,r.2.2.1,r.2.2.2,draws,r2.1,r2.2.1,r2.2.2,0,0,0,0,0,0,0,0,0,0,0,0,0,([]:List (Int×List Int)),([]:List (Int×List Int)),([]:List (Int×List Int)),([]:List Int),0,([]:List Int),s,([]:List Int),recv,Og,r21.1,r21.2,r22,false,0,0,0,0,0,0,0,0,0,0,([]:List Int),([]:List Int),([]:List Int),0,0,x.2.2.2.2.2.2.1,x.2.2.2.2.2.2.2.1,x.2.2.2.2.2.2.2.2,x.1.1,x.1.2,x.2.1,x.2.2.1,x.2.2.2.1,x.2.2.2.2.1,x.2.2.2.2.2.1,x.2.2.2.2.2.2.1,x.2.2.2.2.2.2.2.1,x.2.2.2.2.2.2.2.2,v.1,v.2,([]:List (Int×List Int)),())).bind fun (m90,m91,m92,m93,m94,m95,m96,m97,m98,m99,af4,af5,af6,af7,af8,af9,af_,aga,agb,agc,agd,agf,agh,agi,agj,agk,aeJ,agl,agm,aeK,agn,agp,afj,agq,agr,ags,agt,afk,agu,agv,agw,agx,agy,agz,agA,afl,agB,agC,agD,agE,agF,agG,afm,agH,adW,aeL,afn,afo,agI,agJ,agK,agL,agM,agN,agO,agP,agQ,agR,agS,agT,agU,agV,agW,agX,aeM,aeN,aeO,aeP,aeQ,aeR,aeS,aeT,aeU,aeV,agY,agZ,ag0,afp,afq,afr,())=>
      bif inB 0 (aeK.length:Int)then
      (Si.run m_ ((afn,afo),(0,(4,(4,(m94,(afk,(m95,(m97,(m98,(m96,(adW,(afl,(adW,(aeL,([(260,aeJ)]:List (Int×List Int))))))))))))))),afj,(rd ([]:List Int) aeK 0),afr,())).bind fun (r27,r28,r29,())=>
      bif !(decide (r29=0))then
       some ((afp,afq),((aeP,aeQ),(aeR,(aeS,(aeT,(aeU,(aeV,(aeM,(aeN,(ag6.wrap (aeO+1)))))))))),(0,(([]:List Int),(([]:List Int),(([]:List Int),(0,0))))),())
      else
       some (r27,((aeP,aeQ),(aeR,(aeS,(aeT,(aeU,(aeV,((ag6.wrap (aeM+1)),(aeN,aeO)))))))),(1,(aeJ,(afm,(r28,(adW,aeL))))),())else none else none else none else none else none
theorem k:KT (O m_) [37,38,39,40,42,43,44,45,77] ⟨13,[.ag Rz,.ag aa8,.one .str,.one (.int .u64),.one (.int .u64),.one (.lst .str)],.iF [.sh (.ag Rz),.sh (.ag aa8),.sh (.ag afI)],run m_⟩ [s0 m_]:=fun v_=>match v_ with|(v,x,s,recv,Og,draws,())=>by kernel_rfl
def c:=co (k m_)
end Oc

namespace Oy
def O(m_:Dq):OO P:=lI []
def run(m_:Dq):Int×Int×Int×Unit->Option (Bool):=fun v_=>match v_ with
|(n,low,high,())=>
 some ((decide (n>=low))&&(decide (n<=high)))
theorem k:KT (O m_) [] ⟨62,[.one (.int .i64),.one (.int .i64),.one (.int .i64)],.one (.sh (.one .bool)),run m_⟩ []:=fun _=>by kernel_rfl
def c:=co (k m_)
end Oy

namespace Nb
def O(m_:Dq):OO P:=lI []
def e0:Spec:=⟨[fs 53 [.q 116,.z 116,.b 0,.q 15] [(0,.u),(5,.oy 0),(6,.w)]],[(0,.c [.ry])],1⟩
def x0:List Spec:=[⟨[fs 53 [.q 15] [(5,.oy 0)]],[(0,.c [.ry])],1⟩]
abbrev A0:Type:=Int×Int×LI×Unit
abbrev B0:Type:=(LI×Unit)
def b0(m_:Dq)(self:A0->Option B0):A0->Option B0:=fun v_=>match v_ with
|(n,i,m,())=>
 bif decide (i>=0)then
  bif inB i (m.length:Int)then
  self ((ag6.wrap (n.tdiv 256)),(ag3.wrap (i-1)),(m.set i.toNat (ag5.wrap (n.tmod 256))),())else none
 else
  some (m,())
theorem k0:KQ 53 (O m_) [] e0 x0 [] (b0 m_):=fun _ _=>by kernel_rfl
def l0:=loop m_ (b0 m_)
theorem q0(v):l0 .lim v=b0 .lim (l0 .lim) v:=KS.q (k0 .lim) v
def s0:=so m_ (k0 m_)
def run:Int×Int×Unit->Option (List Int):=fun v_=>match v_ with
|(n,size,())=>
 bif(((decide (0<=size))&&(decide (size<=size)))&&(ahm size.toNat 70368744177664))then
 (Nb.l0 m_ (n,(ag3.wrap (size-1)),(ag4 size.toNat 0),())).bind fun (m,())=>
 some m else none
theorem k:KT (O m_) [] ⟨53,[.one (.int .u64),.one (.int .i64)],.one (.sh (.one .str)),run m_⟩ [s0 m_]:=fun _=>by kernel_rfl
def c:=co (k m_)
end Nb

namespace NM
def O:OO P:=lI [Nb.c m_]
def e0:Spec:=⟨[fs 63 [.q 500,.z 500,.b 0,.q 63] [(0,.dat QG),(4,.s),(5,.w),(6,.w)]],[],0⟩
def x0:List Spec:=[⟨[fs 63 [.q 128149,.q 16019,.b 1,.q 2003,.z 500,.b 0,.q 63] [(2,.s),(3,.w)]],[],0⟩,⟨[fs 63 [.q 256309,.q 32039,.b 1,.q 2003,.z 500,.b 0,.q 63] [(2,.s),(3,.w)]],[],0⟩,⟨[fs 63 [.q 63] [(4,.s),(5,.w)]],[],0⟩]
abbrev A0:Type:=(List (Int×List Int))×LI×Int×Int×Unit
abbrev B0:Type:=(LI×Int×Unit) ⊕ (LI×Int×Unit) ⊕ (LI×Int×Unit)
def b0(self:A0->Option B0):A0->Option B0:=fun v_=>match v_ with
|(l,s,n,i,())=>
 bif vZ (l.length:Int)then
 bif decide (i<(l.length:Int))then
  bif inB i (l.length:Int)then
  bif((decide (((rd ((0:Int),([]:List Int)) l i).1)<0))||(decide (((rd ((0:Int),([]:List Int)) l i).1)>65535)))then
   some (.inl (([]:List Int),13,()))
  else
   bif vZ (((rd ((0:Int),([]:List Int)) l i).2).length:Int)then
   bif((!(!(decide ((((rd ((0:Int),([]:List Int)) l i).2).length:Int)<12))))||(vZ (((rd ((0:Int),([]:List Int)) l i).2).length:Int)))then
   bif((!(!(decide ((((rd ((0:Int),([]:List Int)) l i).2).length:Int)<12))))||true)then
   bif((decide ((((rd ((0:Int),([]:List Int)) l i).2).length:Int)<12))||(!(decide (((((rd ((0:Int),([]:List Int)) l i).2).length:Int).tmod 4)=0))))then
    some (.inr (.inl (([]:List Int),10,())))
   else
    bif vZ (((rd ((0:Int),([]:List Int)) l i).2).length:Int)then
    bif decide ((mn (ag3.wrap ((ag3.wrap (n+4))+(((rd ((0:Int),([]:List Int)) l i).2).length:Int))) 1233)<=1232)then
     (Nb.run m_ ((ag6.wrap ((rd ((0:Int),([]:List Int)) l i).1)),2,())).bind fun r=>
     bif decide (s.length+r.length<=maxStr)then
     bif vZ (((rd ((0:Int),([]:List Int)) l i).2).length:Int)then
     (Nb.run m_ ((ag6.wrap (ag3.wrap ((((rd ((0:Int),([]:List Int)) l i).2).length:Int)+4))),2,())).bind fun r1=>
     bif decide ((s++r).length+r1.length<=maxStr)then
     bif decide (((s++r)++r1).length+((rd ((0:Int),([]:List Int)) l i).2).length<=maxStr)then
     self (l,(((s++r)++r1)++((rd ((0:Int),([]:List Int)) l i).2)),(mn (ag3.wrap ((ag3.wrap (n+4))+(((rd ((0:Int),([]:List Int)) l i).2).length:Int))) 1233),(ag3.wrap (i+1)),())else none else none else none else none
    else
     self (l,s,(mn (ag3.wrap ((ag3.wrap (n+4))+(((rd ((0:Int),([]:List Int)) l i).2).length:Int))) 1233),(ag3.wrap (i+1)),())else none else none else none else none else none
 else
  some (.inr (.inr (s,n,())))else none
theorem k0:KQ 63 (O m_) [] e0 x0 [] (b0 m_):=fun _ _=>by kernel_rfl
def l0:=loop m_ (b0 m_)
theorem q0(v):l0 .lim v=b0 .lim (l0 .lim) v:=KS.q (k0 .lim) v
def s0:=so m_ (k0 m_)
def run:(List (Int×List Int))×Unit->Option ((List Int)×Int×Unit):=fun v_=>match v_ with
|(l,())=>
 bif vZ (l.length:Int)then
 bif decide ((l.length:Int)>16)then
  some (([]:List Int),18,())
 else
  (NM.l0 m_ (l,([]:List Int),0,0,())).bind fun g_=>match g_ with
  | .inl (t,t1,())=>
   some (t,t1,())
  | .inr (.inl (t2,t3,()))=>
   some (t2,t3,())
  | .inr (.inr (s,n,()))=>
   bif decide (n>1232)then
    some (([]:List Int),12,())
   else
    some (s,0,())else none
theorem k:KT (O m_) [] ⟨63,[.one QG],.iF [.sh (.one .str),.sh (.one (.int .i64))],run m_⟩ [s0 m_]:=fun _=>by kernel_rfl
def c:=co (k m_)
end NM

namespace Ov
def O:OO P:=lI [Nb.c m_,Oy.c m_,NM.c m_]
def run:DT2×Unit->Option ((List Int)×Int×Unit):=fun v_=>match v_ with
|(p,())=>
 (Oy.run m_ (p.1,0,3,())).bind fun r=>
 ((bif !!r then Oy.run m_ (p.2.1,0,7,())else some false)).bind fun r1=>
 ((bif !(!r|| !r1)then Oy.run m_ (p.2.2.1,0,7,())else some false)).bind fun r2=>
 ((bif !((!r|| !r1)|| !r2)then Oy.run m_ (p.2.2.2.1,0,255,())else some false)).bind fun r3=>
 ((bif !(((!r|| !r1)|| !r2)|| !r3)then Oy.run m_ (p.2.2.2.2.1,(-128),127,())else some false)).bind fun r4=>
 ((bif !((((!r|| !r1)|| !r2)|| !r3)|| !r4)then Oy.run m_ (p.2.2.2.2.2.1,(-128),127,())else some false)).bind fun r5=>
 bif(((((!r|| !r1)|| !r2)|| !r3)|| !r4)|| !r5)then
  some (([]:List Int),13,())
 else
  (NM.run m_ (p.2.2.2.2.2.2.2.2.2.2.2.2.2,())).bind fun (r6,r7,())=>
  bif !(decide (r7=0))then
   some (([]:List Int),r7,())
  else
   (Nb.run m_ ((ag6.wrap p.2.2.2.2.2.2.1),4,())).bind fun r8=>
   bif decide (([(ag5.wrap (ag3.wrap ((ag3.wrap ((ag3.wrap (p.1*64))+(ag3.wrap (p.2.1*8))))+p.2.2.1))),(ag5.wrap p.2.2.2.1),(ag5.wrap p.2.2.2.2.1),(ag5.wrap p.2.2.2.2.2.1)]:List Int).length+r8.length<=maxStr)then
   (Nb.run m_ ((ag6.wrap p.2.2.2.2.2.2.2.1),4,())).bind fun r9=>
   bif decide ((([(ag5.wrap (ag3.wrap ((ag3.wrap ((ag3.wrap (p.1*64))+(ag3.wrap (p.2.1*8))))+p.2.2.1))),(ag5.wrap p.2.2.2.1),(ag5.wrap p.2.2.2.2.1),(ag5.wrap p.2.2.2.2.2.1)]:List Int)++r8).length+r9.length<=maxStr)then
   (Nb.run m_ ((ag6.wrap p.2.2.2.2.2.2.2.2.1),4,())).bind fun r10=>
   bif decide (((([(ag5.wrap (ag3.wrap ((ag3.wrap ((ag3.wrap (p.1*64))+(ag3.wrap (p.2.1*8))))+p.2.2.1))),(ag5.wrap p.2.2.2.1),(ag5.wrap p.2.2.2.2.1),(ag5.wrap p.2.2.2.2.2.1)]:List Int)++r8)++r9).length+r10.length<=maxStr)then
   (Nb.run m_ (p.2.2.2.2.2.2.2.2.2.1,8,())).bind fun r11=>
   bif decide ((((([(ag5.wrap (ag3.wrap ((ag3.wrap ((ag3.wrap (p.1*64))+(ag3.wrap (p.2.1*8))))+p.2.2.1))),(ag5.wrap p.2.2.2.1),(ag5.wrap p.2.2.2.2.1),(ag5.wrap p.2.2.2.2.2.1)]:List Int)++r8)++r9)++r10).length+r11.length<=maxStr)then
   (Nb.run m_ (p.2.2.2.2.2.2.2.2.2.2.1,8,())).bind fun r12=>
   bif decide (((((([(ag5.wrap (ag3.wrap ((ag3.wrap ((ag3.wrap (p.1*64))+(ag3.wrap (p.2.1*8))))+p.2.2.1))),(ag5.wrap p.2.2.2.1),(ag5.wrap p.2.2.2.2.1),(ag5.wrap p.2.2.2.2.2.1)]:List Int)++r8)++r9)++r10)++r11).length+r12.length<=maxStr)then
   (Nb.run m_ (p.2.2.2.2.2.2.2.2.2.2.2.1,8,())).bind fun r13=>
   bif decide ((((((([(ag5.wrap (ag3.wrap ((ag3.wrap ((ag3.wrap (p.1*64))+(ag3.wrap (p.2.1*8))))+p.2.2.1))),(ag5.wrap p.2.2.2.1),(ag5.wrap p.2.2.2.2.1),(ag5.wrap p.2.2.2.2.2.1)]:List Int)++r8)++r9)++r10)++r11)++r12).length+r13.length<=maxStr)then
   (Nb.run m_ (p.2.2.2.2.2.2.2.2.2.2.2.2.1,8,())).bind fun XC=>
   bif decide (((((((([(ag5.wrap (ag3.wrap ((ag3.wrap ((ag3.wrap (p.1*64))+(ag3.wrap (p.2.1*8))))+p.2.2.1))),(ag5.wrap p.2.2.2.1),(ag5.wrap p.2.2.2.2.1),(ag5.wrap p.2.2.2.2.2.1)]:List Int)++r8)++r9)++r10)++r11)++r12)++r13).length+XC.length<=maxStr)then
   bif decide ((((((((([(ag5.wrap (ag3.wrap ((ag3.wrap ((ag3.wrap (p.1*64))+(ag3.wrap (p.2.1*8))))+p.2.2.1))),(ag5.wrap p.2.2.2.1),(ag5.wrap p.2.2.2.2.1),(ag5.wrap p.2.2.2.2.2.1)]:List Int)++r8)++r9)++r10)++r11)++r12)++r13)++XC).length+r6.length<=maxStr)then
   some (((((((((([(ag5.wrap (ag3.wrap ((ag3.wrap ((ag3.wrap (p.1*64))+(ag3.wrap (p.2.1*8))))+p.2.2.1))),(ag5.wrap p.2.2.2.1),(ag5.wrap p.2.2.2.2.1),(ag5.wrap p.2.2.2.2.2.1)]:List Int)++r8)++r9)++r10)++r11)++r12)++r13)++XC)++r6),0,())else none else none else none else none else none else none else none else none
theorem k:KT (O m_) [] ⟨31,[.ag Yx],.iF [.sh (.one .str),.sh (.one (.int .i64))],run m_⟩ []:=fun v_=>match v_ with|(p,())=>by kernel_rfl
def c:=co (k m_)
end Ov

namespace NH
def O:OO P:=lI [Oc.c m_,QC.c m_,Ov.c m_]
def e0:Spec:=⟨[fs 9 [.q 116,.z 116,.b 0,.q 15] [(1,.s),(13,.w)]],[],0⟩
def x0:List Spec:=[⟨[fs 9 [.q 15] [(1,.s)]],[],0⟩]
abbrev A0:Type:=LI×Int×Unit
abbrev B0:Type:=(LI×Unit)
def b0(m_:Dq)(self:A0->Option B0):A0->Option B0:=fun v_=>match v_ with
|(key,t,())=>
 bif decide (t<32)then
  bif decide (key.length+([107]:List Int).length<=maxStr)then
  self ((key++([107]:List Int)),(ag3.wrap (t+1)),())else none
 else
  some (key,())
theorem k0:KQ 9 (O m_) [] e0 x0 [] (b0 m_):=fun _ _=>by kernel_rfl
def l0:=loop m_ (b0 m_)
theorem q0(v):l0 .lim v=b0 .lim (l0 .lim) v:=KS.q (k0 .lim) v
def s0:=so m_ (k0 m_)
def run:Unit->Option (Bool):=fun v_=>match v_ with
|(())=>
 (NH.l0 m_ (([]:List Int),0,())).bind fun (key,())=>
 (QC.run m_ (key,0,())).bind fun (r,r1,())=>
 (Oc.run m_ (abv,(r,(1,(0,(0,(0,(0,(0,(0,0)))))))),([]:List Int),1,2,([]:List (List Int)),())).bind fun (r2,r3,r4,())=>
 bif ahm 104 70368744177664 then
 (Ov.run m_ ((0,(4,(3,(0,(0,(0,(0,(0,(0,(0,(0,(0,(0,([(260,key),(516,(ag4 104 0))]:List (Int×List Int))))))))))))))),())).bind fun (r5,r6,())=>
 (Oc.run m_ (abv,(r,(1,(0,(0,(0,(0,(0,(0,0)))))))),r5,1,2,([]:List (List Int)),())).bind fun (r7,r8,r9,())=>
 bif((!(((((decide (r4.1=0))&&(decide (r3.2.2.2.2.2.2.2.2=1)))&&(decide (r6=0)))&&(decide (r9.1=2)))&&(decide (r8.2.2.2.2.2.2.2.1=1))))||(vZ (r9.2.2.2.1.length:Int)))then
 some ((((((decide (r4.1=0))&&(decide (r3.2.2.2.2.2.2.2.2=1)))&&(decide (r6=0)))&&(decide (r9.1=2)))&&(decide (r8.2.2.2.2.2.2.2.1=1)))&&(decide ((r9.2.2.2.1.length:Int)=84)))else none else none
theorem k:KT (O m_) [] ⟨9,[],.one (.sh (.one .bool)),run m_⟩ [s0 m_]:=fun _=>by kernel_rfl
def c:=co (k m_)
end NH

namespace QA
def O(m_:Dq):OO P:=lI []
def f0:gG:=⟨58,[.inRange 1,.b 0,.q 31],[(2,.ptr 0 0)],none,[.mark 2],false⟩
def e0:Spec:=⟨[fs 105 [.q 28,.z 28,.b 0] [(0,.fn (.yield 0) []),(3,.dat (.int .u32)),(14,.dat XG),(15,.w),(16,.w)],⟨58,[.inRange 0,.b 0,.q 31],[(2,.ptr 1 0)],none,[.mark 2],false⟩],[(0,.loop .ready none 58 [(2,.ptr 1 0),(3,.ptr 3 0)] [23,24] (La 122) 2),(1,.c [.b]),(2,.deferred false),(3,.c [.w])],4⟩
def x0:List Spec:=[⟨[fs 105 [.q 7370,.q 1843,.b 1,.q 231,.z 28,.b 0] [],f0],[(0,.c [.b]),(1,.loop .done (some .ret) 58 [(2,.ptr 0 0),(3,.ptr 3 0)] [23,24] (La 122) 2),(2,.deferred false),(3,.c [.w])],4⟩,⟨[fs 105 [] [],f0],[(0,.c [.b]),(1,.loop .ready none 58 [(2,.ptr 0 0),(3,.ptr 3 0)] [23,24] (La 122) 2),(2,.deferred false),(3,.c [.w])],4⟩]
abbrev A0:Type:=Int×(List (Int×(List Int×Int)))×Int×Int×Bool×Int×Unit
abbrev B0:Type:=(Bool×Int×Unit) ⊕ (Bool×Int×Unit)
def b0(m_:Dq)(self:A0->Option B0):A0->Option B0:=fun v_=>match v_ with
|(id,t,t1,t2,m,m1,())=>
 bif decide (t2<t1)then
  bif inB t2 (t.length:Int)then
  bif vZ ((((rd ((0:Int),(([]:List Int),(0:Int))) t t2).2).1).length:Int)then
  bif(((!(decide (((((rd ((0:Int),(([]:List Int),(0:Int))) t t2).2).1).length:Int)=32)))||(!(decide (((rd ((0:Int),(([]:List Int),(0:Int))) t t2).1)=id))))||(decide ((((rd ((0:Int),(([]:List Int),(0:Int))) t t2).2).2)<m1)))then
   some (.inl (false,m1,()))
  else
   self ((ag7.wrap (id+1)),t,t1,(ag3.wrap (t2+1)),m,((rd ((0:Int),(([]:List Int),(0:Int))) t t2).2).2,())else none else none
 else
  some (.inr (m,m1,()))
theorem k0:KQ 58 (O m_) [83] e0 x0 [] (b0 m_):=fun _ _=>by kernel_rfl
def l0:=loop m_ (b0 m_)
theorem q0(v):l0 .lim v=b0 .lim (l0 .lim) v:=KS.q (k0 .lim) v
def s0:=so m_ (k0 m_)
def run:WQ×Unit->Option (Bool):=fun v_=>match v_ with
|(r,())=>
 bif vZ (r.1.length:Int)then
 bif((!(!(decide ((r.1.length:Int)<1))))||(vZ (r.1.length:Int)))then
 bif((decide ((r.1.length:Int)<1))||(decide ((r.1.length:Int)>8)))then
  some false
 else
  bif inB 0 (r.1.length:Int)then
  bif vZ (r.1.length:Int)then
  bif vZ (r.1.length:Int)then
  (QA.l0 m_ ((ag7.wrap (r.2-(ag7.wrap (r.1.length:Int)))),r.1,(r.1.length:Int),0,false,((rd ((0:Int),(([]:List Int),(0:Int))) r.1 0).2).2,())).bind fun g_=>match g_ with
  | .inl (m,m1,())=>
   some m
  | .inr (m2,m3,())=>
   some true else none else none else none else none else none
theorem k:KT (O m_) [83] ⟨58,[.ag Wv],.one (.sh (.one .bool)),run m_⟩ [s0 m_]:=fun _=>by kernel_rfl
def c:=co (k m_)
end QA

namespace V4
def O:OO P:=lI [QA.c m_]
def run:DT6×Unit->Option (Bool):=fun v_=>match v_ with
|(x,())=>
 (QA.run m_ (x.1,())).bind fun r=>
 some ((((r&&(decide (x.2.1>0)))&&(decide (x.2.1<16)))&&(decide (x.2.2.1>=(-128))))&&(decide (x.2.2.1<128)))
theorem k:KT (O m_) [] ⟨25,[.ag aa8],.one (.sh (.one .bool)),run m_⟩ []:=fun _=>by kernel_rfl
def c:=co (k m_)
end V4

namespace Oz
def O(m_:Dq):OO P:=lI []
def e0:Spec:=⟨[fs 59 [.q 244,.z 244,.b 0,.q 31] [(1,.ptr 0 0),(3,.w),(4,.w)]],[(0,.c [.dat XG,.dat (.int .u32)])],1⟩
def x0:List Spec:=[⟨[fs 59 [.q 31309,.b 1,.q 979,.z 244,.b 0,.q 31] [(2,.b)]],[],0⟩,⟨[fs 59 [.q 31] []],[],0⟩]
abbrev A0:Type:=Int×Int×(List (Int×(List Int×Int)))×Int×Unit
abbrev B0:Type:=(Bool×Unit) ⊕ (Unit)
def b0(m_:Dq)(self:A0->Option B0):A0->Option B0:=fun v_=>match v_ with
|(n,i,m,m1,())=>
 bif decide (i<n)then
  bif inB i (m.length:Int)then
  bif vZ ((((rd ((0:Int),(([]:List Int),(0:Int))) m i).2).1).length:Int)then
  bif((!((!((!(decide (((((rd ((0:Int),(([]:List Int),(0:Int))) m i).2).1).length:Int)=32)))||(!(decide (((rd ((0:Int),(([]:List Int),(0:Int))) m i).1)=(ag7.wrap (m1-(ag7.wrap (ag3.wrap (n-i))))))))))&&(decide (i>0))))||(inB (ag3.wrap (i-1)) (m.length:Int)))then
  bif(((!(decide (((((rd ((0:Int),(([]:List Int),(0:Int))) m i).2).1).length:Int)=32)))||(!(decide (((rd ((0:Int),(([]:List Int),(0:Int))) m i).1)=(ag7.wrap (m1-(ag7.wrap (ag3.wrap (n-i)))))))))||((decide (i>0))&&(decide ((((rd ((0:Int),(([]:List Int),(0:Int))) m i).2).2)<(((rd ((0:Int),(([]:List Int),(0:Int))) m (ag3.wrap (i-1))).2).2)))))then
   some (.inl (false,()))
  else
   self (n,(ag3.wrap (i+1)),m,m1,())else none else none else none
 else
  some (.inr (()))
theorem k0:KQ 59 (O m_) [] e0 x0 [] (b0 m_):=fun _ _=>by kernel_rfl
def l0:=loop m_ (b0 m_)
theorem q0(v):l0 .lim v=b0 .lim (l0 .lim) v:=KS.q (k0 .lim) v
def s0:=so m_ (k0 m_)
def run:WQ×Unit->Option (Bool):=fun v_=>match v_ with
|(r,())=>
 bif vZ (r.1.length:Int)then
 bif((decide ((r.1.length:Int)<1))||(decide ((r.1.length:Int)>8)))then
  some false
 else
  (Oz.l0 m_ ((r.1.length:Int),0,r.1,r.2,())).bind fun g_=>match g_ with
  | .inl (t,())=>
   some t
  | .inr (())=>
   some true else none
theorem k:KT (O m_) [] ⟨59,[.ag Wv],.one (.sh (.one .bool)),run m_⟩ [s0 m_]:=fun _=>by kernel_rfl
def c:=co (k m_)
end Oz

namespace Qo
def O:OO P:=lI [Oz.c m_]
def run:DT6×Unit->Option (Bool):=fun v_=>match v_ with
|(x,())=>
 (Oz.run m_ (x.1,())).bind fun r=>
 some ((((r&&(decide (x.2.1>=1)))&&(decide (x.2.1<=15)))&&(decide (x.2.2.1>=(-128))))&&(decide (x.2.2.1<=127)))
theorem k:KT (O m_) [] ⟨26,[.ag aa8],.one (.sh (.one .bool)),run m_⟩ []:=fun _=>by kernel_rfl
def c:=co (k m_)
end Qo

namespace N9
def O(m_:Dq):OO P:=lI []
def o0:dJ:= .c [.dat XG,.dat (.int .u32)]
def e0:Spec:=⟨[fs 14 [.q 116,.z 116,.b 0,.q 15] [(2,.ptr 0 0),(3,.ptr 1 0),(5,.w)]],[(0,o0),(1,o0)],2⟩
def x0:List Spec:=[⟨[fs 14 [.q 7461,.b 1,.q 467,.z 116,.b 0,.q 15] [(4,.b)]],[],0⟩,⟨[fs 14 [.q 15] []],[],0⟩]
abbrev A0:Type:=Int×(List (Int×(List Int×Int)))×Int×(List (Int×(List Int×Int)))×Int×Unit
abbrev B0:Type:=(Bool×Unit) ⊕ (Unit)
def b0(m_:Dq)(self:A0->Option B0):A0->Option B0:=fun v_=>match v_ with
|(i,m,m1,m2,m3,())=>
 bif vZ (m.length:Int)then
 bif decide (i<(m.length:Int))then
  bif inB i (m.length:Int)then
  bif inB i (m2.length:Int)then
  bif !((decide (((rd ((0:Int),(([]:List Int),(0:Int))) m i).1)=((rd ((0:Int),(([]:List Int),(0:Int))) m2 i).1)))&&((decide ((((rd ((0:Int),(([]:List Int),(0:Int))) m i).2).1)=(((rd ((0:Int),(([]:List Int),(0:Int))) m2 i).2).1)))&&(decide ((((rd ((0:Int),(([]:List Int),(0:Int))) m i).2).2)=(((rd ((0:Int),(([]:List Int),(0:Int))) m2 i).2).2)))))then
   some (.inl (false,()))
  else
   self ((ag3.wrap (i+1)),m,m1,m2,m3,())else none else none
 else
  some (.inr (()))else none
theorem k0:KQ 14 (O m_) [] e0 x0 [] (b0 m_):=fun _ _=>by kernel_rfl
def l0:=loop m_ (b0 m_)
theorem q0(v):l0 .lim v=b0 .lim (l0 .lim) v:=KS.q (k0 .lim) v
def s0:=so m_ (k0 m_)
def run:WQ×WQ×Unit->Option (Bool):=fun v_=>match v_ with
|(a,b,())=>
 bif((!(!(!(decide (a.2=b.2)))))||(vZ (a.1.length:Int)))then
 bif((!(!(!(decide (a.2=b.2)))))||(vZ (b.1.length:Int)))then
 bif((!(decide (a.2=b.2)))||(!(decide ((a.1.length:Int)=(b.1.length:Int)))))then
  some false
 else
  (N9.l0 m_ (0,a.1,a.2,b.1,b.2,())).bind fun g_=>match g_ with
  | .inl (t,())=>
   some t
  | .inr (())=>
   some true else none else none
theorem k:KT (O m_) [] ⟨14,[.ag Wv,.ag Wv],.one (.sh (.one .bool)),run m_⟩ [s0 m_]:=fun _=>by kernel_rfl
def c:=co (k m_)
end N9

namespace Nr
def O(m_:Dq):OO P:=lI []
def o0:dJ:= .c [.b,.dat Uw]
def e0:Spec:=⟨[fs 12 [.q 29852,.z 29852,.b 2,.b 1,.q 467,.z 116,.b 0,.q 15] [(1,.ptr 0 0),(3,.w),(4,.w),(5,.ptr 1 0),(6,.w)]],[(0,o0),(1,.c [.s,.t,.s,.s])],2⟩
def x0:List Spec:=[⟨[fs 12 [.q 467,.z 116,.b 0,.q 15] [(1,.ptr 0 0),(3,.w),(4,.w)]],[(0,o0)],1⟩]
abbrev A0:Type:=Int×Int×Int×Bool×(List (List Int×(List LI×(List Int×List Int))))×LI×LL×LI×LI×Unit
abbrev B0:Type:=(Int×Int×Bool×(List (List Int×(List LI×(List Int×List Int))))×Unit)
def b0(m_:Dq)(self:A0->Option B0):A0->Option B0:=fun v_=>match v_ with
|(left,i,j,m,m1,m2,m3,m4,m5,())=>
 bif vZ (m3.length:Int)then
 bif((decide (j<(m3.length:Int)))&&(decide (left>=0)))then
  bif inB j (m3.length:Int)then
  bif vZ ((rd ([]:List Int) m3 j).length:Int)then
  self ((ag3.wrap (left-((rd ([]:List Int) m3 j).length:Int))),i,(ag3.wrap (j+1)),m,m1,m2,m3,m4,m5,())else none else none
 else
  some (left,i,m,m1,())else none
theorem k0:KQ 12 (O m_) [] e0 x0 [] (b0 m_):=fun _ _=>by kernel_rfl
def l0:=loop m_ (b0 m_)
theorem q0(v):l0 .lim v=b0 .lim (l0 .lim) v:=KS.q (k0 .lim) v
def s0:=so m_ (k0 m_)
def e1:Spec:=⟨[fs 12 [.q 116,.z 116,.b 0,.q 15] [(1,.ptr 0 0),(3,.w),(4,.w)]],[(0,o0)],1⟩
def x1:List Spec:=[⟨[fs 12 [.q 15] [(1,.ptr 0 0),(3,.w)]],[(0,o0)],1⟩]
abbrev A1:Type:=Int×Int×Bool×(List (List Int×(List LI×(List Int×List Int))))×Unit
abbrev B1:Type:=(Int×Bool×(List (List Int×(List LI×(List Int×List Int))))×Unit)
def b1(self:A1->Option B1):A1->Option B1:=fun v_=>match v_ with
|(left,i,m,m1,())=>
 bif vZ (m1.length:Int)then
 bif((decide (i<(m1.length:Int)))&&(decide (left>=0)))then
  bif inB i (m1.length:Int)then
  bif vZ (((rd PL m1 i).1).length:Int)then
  bif vZ (((((rd PL m1 i).2).2).1).length:Int)then
  bif vZ (((((rd PL m1 i).2).2).2).length:Int)then
  bif vZ ((((rd PL m1 i).2).1).length:Int)then
  (Nr.l0 m_ ((ag3.wrap ((ag3.wrap ((ag3.wrap ((ag3.wrap ((ag3.wrap (left-10))-(((rd PL m1 i).1).length:Int)))-(((((rd PL m1 i).2).2).1).length:Int)))-(((((rd PL m1 i).2).2).2).length:Int)))-((((rd PL m1 i).2).1).length:Int))),i,0,m,m1,(rd PL m1 i).1,((rd PL m1 i).2).1,(((rd PL m1 i).2).2).1,(((rd PL m1 i).2).2).2,())).bind fun (left1,i1,m2,m3,())=>
  self (left1,(ag3.wrap (i1+1)),m2,m3,())else none else none else none else none else none
 else
  some (left,m,m1,())else none
theorem k1:KQ 12 (O m_) [] e1 x1 [s0 m_] (b1 m_):=fun _ _=>by kernel_rfl
def l1:=loop m_ (b1 m_)
theorem q1(v):l1 .lim v=b1 .lim (l1 .lim) v:=KS.q (k1 .lim) v
def s1:=so m_ (k1 m_)
def run:Rx×Unit->Option (Bool):=fun v_=>match v_ with
|(v,())=>
 (Nr.l1 m_ (400000,0,v.1,v.2,())).bind fun (left,m,m1,())=>
 bif((!(decide (left>=0)))||(vZ (m1.length:Int)))then
 some ((decide (left>=0))&&(decide ((m1.length:Int)<=300)))else none
theorem k:KT (O m_) [] ⟨12,[.ag Rz],.one (.sh (.one .bool)),run m_⟩ [s1 m_]:=fun _=>by kernel_rfl
def c:=co (k m_)
end Nr

namespace Oe
def O(m_:Dq):OO P:=lI []
def e0:Spec:=⟨[fs 61 [.q 116,.z 116,.b 0,.q 15] [(0,.w),(5,.oy 0),(6,.w)]],[(0,.c [.ry])],1⟩
def x0:List Spec:=[⟨[fs 61 [.q 15] [(5,.oy 0)]],[(0,.c [.ry])],1⟩]
abbrev A0:Type:=Int×Int×LI×Unit
abbrev B0:Type:=(LI×Unit)
def b0(m_:Dq)(self:A0->Option B0):A0->Option B0:=fun v_=>match v_ with
|(n,i,m,())=>
 bif decide (i>=0)then
  bif inB i (m.length:Int)then
  self ((ag3.wrap (n.tdiv 256)),(ag3.wrap (i-1)),(m.set i.toNat (ag5.wrap (n.tmod 256))),())else none
 else
  some (m,())
theorem k0:KQ 61 (O m_) [] e0 x0 [] (b0 m_):=fun _ _=>by kernel_rfl
def l0:=loop m_ (b0 m_)
theorem q0(v):l0 .lim v=b0 .lim (l0 .lim) v:=KS.q (k0 .lim) v
def s0:=so m_ (k0 m_)
def run:Int×(List Int)×Unit->Option (List Int):=fun v_=>match v_ with
|(n,plain,())=>
 bif vZ (plain.length:Int)then
 bif(((decide (0<=(ag3.wrap (16+(plain.length:Int)))))&&(decide ((ag3.wrap (16+(plain.length:Int)))<=(ag3.wrap (16+(plain.length:Int))))))&&(ahm ((ag3.wrap (16+(plain.length:Int))).toNat) 70368744177664))then
 (Oe.l0 m_ (n,15,(ag4 ((ag3.wrap (16+(plain.length:Int))).toNat) 0),())).bind fun (m,())=>
 some m else none else none
theorem k:KT (O m_) [] ⟨61,[.one (.int .i64),.one .str],.one (.sh (.one .str)),run m_⟩ [s0 m_]:=fun _=>by kernel_rfl
def c:=co (k m_)
end Oe

namespace Ob
def O(m_:Dq):OO P:=lI []
def e0:Spec:=⟨[fs 82 [.q 116,.z 116,.b 0,.q 15] [(0,.t),(1,.t),(5,.w)]],[],0⟩
def x0:List Spec:=[⟨[fs 82 [.q 7461,.b 1,.q 467,.z 116,.b 0,.q 15] [(4,.b)]],[],0⟩,⟨[fs 82 [.q 15] []],[],0⟩]
abbrev A0:Type:=LL×LL×Int×Unit
abbrev B0:Type:=(Bool×Unit) ⊕ (Unit)
def b0(m_:Dq)(self:A0->Option B0):A0->Option B0:=fun v_=>match v_ with
|(a,b,i,())=>
 bif vZ (a.length:Int)then
 bif decide (i<(a.length:Int))then
  bif inB i (a.length:Int)then
  bif inB i (b.length:Int)then
  bif !(decide ((rd ([]:List Int) a i)=(rd ([]:List Int) b i)))then
   some (.inl (false,()))
  else
   self (a,b,(ag3.wrap (i+1)),())else none else none
 else
  some (.inr (()))else none
theorem k0:KQ 82 (O m_) [] e0 x0 [] (b0 m_):=fun _ _=>by kernel_rfl
def l0:=loop m_ (b0 m_)
theorem q0(v):l0 .lim v=b0 .lim (l0 .lim) v:=KS.q (k0 .lim) v
def s0:=so m_ (k0 m_)
def run:(List (List Int))×(List (List Int))×Unit->Option (Bool):=fun v_=>match v_ with
|(a,b,())=>
 bif vZ (a.length:Int)then
 bif vZ (b.length:Int)then
 bif !(decide ((a.length:Int)=(b.length:Int)))then
  some false
 else
  (Ob.l0 m_ (a,b,0,())).bind fun g_=>match g_ with
  | .inl (t,())=>
   some t
  | .inr (())=>
   some true else none else none
theorem k:KT (O m_) [] ⟨82,[.one (.lst .str),.one (.lst .str)],.one (.sh (.one .bool)),run m_⟩ [s0 m_]:=fun _=>by kernel_rfl
def c:=co (k m_)
end Ob

namespace OQ
def O:OO P:=lI [Ob.c m_]
def run:TY×TY×Unit->Option (Bool):=fun v_=>match v_ with
|(a,b,())=>
 ((bif((decide (a.1=b.1))&&(decide (a.2.2.1=b.2.2.1)))then Ob.run m_ (a.2.1,b.2.1,())else some false)).bind fun r=>
 some (((decide (a.1=b.1))&&(decide (a.2.2.1=b.2.2.1)))&&r)
theorem k:KT (O m_) [] ⟨50,[.ag XF,.ag XF],.one (.sh (.one .bool)),run m_⟩ []:=fun _=>by kernel_rfl
def c:=co (k m_)
end OQ

namespace NP
def O:OO P:=lI [OQ.c m_,Oe.c m_]
def o0:dJ:= .c [.b,.dat Uw]
def f1:gG:=fs 28 [.q 4007717,.b 3,.q 250483,.z 62620,.b 2,.b 1,.q 979,.z 244,.b 0,.q 31] [(2,.b)]
def e0:Spec:=⟨[fs 28 [.q 62620,.z 62620,.b 2,.b 1,.q 979,.z 244,.b 0,.q 31] [(1,.ptr 0 0),(3,.w),(4,.ptr 1 0),(5,.w)]],[(0,o0),(1,.c [.s,.t,.s,.s])],2⟩
def x0:List Spec:=[⟨[f1],[],0⟩,⟨[fs 28 [.q 979,.z 244,.b 0,.q 31] [(1,.ptr 0 0),(3,.w)]],[(0,o0)],1⟩]
abbrev A0:Type:=Int×Int×Bool×(List (List Int×(List LI×(List Int×List Int))))×LI×LL×LI×LI×Unit
abbrev B0:Type:=(Bool×Unit) ⊕ (Int×Bool×(List (List Int×(List LI×(List Int×List Int))))×Unit)
def b0(self:A0->Option B0):A0->Option B0:=fun v_=>match v_ with
|(i,j,m,m1,m2,m3,m4,m5,())=>
 bif decide (j<i)then
  bif inB j (m1.length:Int)then
  (OQ.run m_ ((m2,(m3,(m4,m5))),(rd PL m1 j),())).bind fun r=>
  bif r then
   some (.inl (false,()))
  else
   self (i,(ag3.wrap (j+1)),m,m1,m2,m3,m4,m5,())else none
 else
  some (.inr (i,m,m1,()))
theorem k0:KQ 28 (O m_) [] e0 x0 [] (b0 m_):=fun _ _=>by kernel_rfl
def l0:=loop m_ (b0 m_)
theorem q0(v):l0 .lim v=b0 .lim (l0 .lim) v:=KS.q (k0 .lim) v
def s0:=so m_ (k0 m_)
def e1:Spec:=⟨[fs 28 [.q 244,.z 244,.b 0,.q 31] [(1,.ptr 0 0),(3,.w)]],[(0,o0)],1⟩
def x1:List Spec:=[⟨[fs 28 [.q 62613,.q 7827,.b 1,.q 979,.z 244,.b 0,.q 31] [(2,.b)]],[],0⟩,⟨[f1],[],0⟩,⟨[fs 28 [.q 31] []],[],0⟩]
abbrev A1:Type:=Int×Bool×(List (List Int×(List LI×(List Int×List Int))))×Unit
abbrev B1:Type:=(Bool×Unit) ⊕ (Bool×Unit) ⊕ (Unit)
def b1(self:A1->Option B1):A1->Option B1:=fun v_=>match v_ with
|(i,m,m1,())=>
 bif vZ (m1.length:Int)then
 bif decide (i<(m1.length:Int))then
  bif inB i (m1.length:Int)then
  bif vZ (((rd PL m1 i).1).length:Int)then
  bif((!(!(decide ((((rd PL m1 i).1).length:Int)=32))))||(vZ (((rd PL m1 i).1).length:Int)))then
  bif((!(!((!(decide ((((rd PL m1 i).1).length:Int)=32)))&&(!(decide ((((rd PL m1 i).1).length:Int)=64))))))||(vZ ((((rd PL m1 i).2).1).length:Int)))then
  bif((!(!(((!(decide ((((rd PL m1 i).1).length:Int)=32)))&&(!(decide ((((rd PL m1 i).1).length:Int)=64))))||(decide (((((rd PL m1 i).2).1).length:Int)>126)))))||(vZ (((((rd PL m1 i).2).2).1).length:Int)))then
  ((bif !((((!(decide ((((rd PL m1 i).1).length:Int)=32)))&&(!(decide ((((rd PL m1 i).1).length:Int)=64))))||(decide (((((rd PL m1 i).2).1).length:Int)>126)))||(decide ((((((rd PL m1 i).2).2).1).length:Int)>65536)))then Oe.run m_ ((ag3.wrap (i+1)),(((rd PL m1 i).2).2).1,())else some ([]:List Int))).bind fun r=>
  bif(((((!(decide ((((rd PL m1 i).1).length:Int)=32)))&&(!(decide ((((rd PL m1 i).1).length:Int)=64))))||(decide (((((rd PL m1 i).2).1).length:Int)>126)))||(decide ((((((rd PL m1 i).2).2).1).length:Int)>65536)))||(!(decide (((((rd PL m1 i).2).2).2)=r))))then
   some (.inl (false,()))
  else
   (NP.l0 m_ (i,0,m,m1,(rd PL m1 i).1,((rd PL m1 i).2).1,(((rd PL m1 i).2).2).1,(((rd PL m1 i).2).2).2,())).bind fun g_=>match g_ with
   | .inl (t,())=>
    some (.inr (.inl (t,())))
   | .inr (i1,m2,m3,())=>
    self ((ag3.wrap (i1+1)),m2,m3,())else none else none else none else none else none
 else
  some (.inr (.inr (())))else none
theorem k1:KQ 28 (O m_) [] e1 x1 [s0 m_] (b1 m_):=fun _ _=>by kernel_rfl
def l1:=loop m_ (b1 m_)
theorem q1(v):l1 .lim v=b1 .lim (l1 .lim) v:=KS.q (k1 .lim) v
def s1:=so m_ (k1 m_)
def run:Rx×Unit->Option (Bool):=fun v_=>match v_ with
|(v,())=>
 bif !v.1 then
  bif vZ (v.2.length:Int)then
  some (decide ((v.2.length:Int)=0))else none
 else
  bif vZ (v.2.length:Int)then
  bif decide ((v.2.length:Int)>2048)then
   some false
  else
   (NP.l1 m_ (0,v.1,v.2,())).bind fun g_=>match g_ with
   | .inl (t,())=>
    some t
   | .inr (.inl (t1,()))=>
    some t1
   | .inr (.inr (()))=>
    some true else none
theorem k:KT (O m_) [] ⟨28,[.ag Rz],.one (.sh (.one .bool)),run m_⟩ [s1 m_]:=fun _=>by kernel_rfl
def c:=co (k m_)
end NP

namespace Qd
def O:OO P:=lI [Nr.c m_,Qo.c m_,NP.c m_]
def run:Rx×DT6×(List Int)×(List (List Int))×Unit->Option (Bool):=fun v_=>match v_ with
|(v,x,s,draws,())=>
 (Nr.run m_ (v,())).bind fun r=>
 ((bif r then NP.run m_ (v,())else some false)).bind fun r1=>
 ((bif(r&&r1)then Qo.run m_ (x,())else some false)).bind fun r2=>
 bif((!((r&&r1)&&r2))||(vZ (s.length:Int)))then
 bif((!(((r&&r1)&&r2)&&(decide ((s.length:Int)<=4000))))||(vZ (draws.length:Int)))then
 some ((((r&&r1)&&r2)&&(decide ((s.length:Int)<=4000)))&&(decide ((draws.length:Int)<=40)))else none else none
theorem k:KT (O m_) [] ⟨7,[.ag Rz,.ag aa8,.one .str,.one (.lst .str)],.one (.sh (.one .bool)),run m_⟩ []:=fun _=>by kernel_rfl
def c:=co (k m_)
end Qd

namespace Ns
def O(m_:Dq):OO P:=lI []
def e0:Spec:=⟨[fs 52 [.q 116,.z 116,.b 0,.q 15] [(0,.s),(3,.u),(4,.w)]],[],0⟩
def x0:List Spec:=[⟨[fs 52 [.q 15] [(3,.u)]],[],0⟩]
abbrev A0:Type:=LI×Int×Int×Unit
abbrev B0:Type:=(Int×Unit)
def b0(m_:Dq)(self:A0->Option B0):A0->Option B0:=fun v_=>match v_ with
|(s,n,i,())=>
 bif vZ (s.length:Int)then
 bif decide (i<(s.length:Int))then
  bif inB i (s.length:Int)then
  self (s,(KY .u64 (Jd .u64 n 8) (ag6.wrap (rd 0 s i))),(ag3.wrap (i+1)),())else none
 else
  some (n,())else none
theorem k0:KQ 52 (O m_) [] e0 x0 [] (b0 m_):=fun _ _=>by kernel_rfl
def l0:=loop m_ (b0 m_)
theorem q0(v):l0 .lim v=b0 .lim (l0 .lim) v:=KS.q (k0 .lim) v
def s0:=so m_ (k0 m_)
def run:(List Int)×Unit->Option (Int):=fun v_=>match v_ with
|(s,())=>
 (Ns.l0 m_ (s,0,0,())).bind fun (n,())=>
 some n
theorem k:KT (O m_) [] ⟨52,[.one .str],.one (.sh (.one (.int .u64))),run m_⟩ [s0 m_]:=fun _=>by kernel_rfl
def c:=co (k m_)
end Ns

namespace NK
def O:OO P:=lI [Ns.c m_]
def o0:dJ:= .c [.row Yb]
def e0:Spec:=⟨[fs 48 [.q 56,.z 56,.b 0,.q 15] [(0,.s),(4,.own 5011 Yb)]],[(5011,o0)],5012⟩
def x0:List Spec:=[⟨[fs 48 [.q 3621,.q 453,.b 1,.z 56,.b 0,.q 15] [(2,.CU),(3,.w)]],[],0⟩,⟨[fs 48 [.q 14517,.q 1815,.b 1,.z 56,.b 0,.q 15] [(2,.CU),(3,.w)]],[],0⟩,⟨[fs 48 [.q 29045,.q 3631,.b 1,.z 56,.b 0,.q 15] [(2,.CU),(3,.w)]],[],0⟩,⟨[fs 48 [.q 15] [(4,.own 0 Yb)]],[(0,o0)],1⟩]
abbrev A0:Type:=LI×(List (Int×List Int))×Unit
abbrev B0:Type:=(Int×Unit) ⊕ (Int×Unit) ⊕ (Int×Unit) ⊕ ((List (Int×List Int))×Unit)
def b0(self:A0->Option B0):A0->Option B0:=fun v_=>match v_ with
|(s,m,())=>
 bif !(decide (s=([]:List Int)))then
  bif vZ (s.length:Int)then
  bif decide ((s.length:Int)<4)then
   some (.inl (10,()))
  else
   bif sS 2 4 (s.length:Int)then
   (Ns.run m_ ((cut s 2 4),())).bind fun r=>
   bif((!(!(decide ((ag3.wrap r)<16))))||true)then
   bif((!(!((decide ((ag3.wrap r)<16))||(!(decide (((ag3.wrap r).tmod 4)=0))))))||(vZ (s.length:Int)))then
   bif(((decide ((ag3.wrap r)<16))||(!(decide (((ag3.wrap r).tmod 4)=0))))||(decide ((ag3.wrap r)>(s.length:Int))))then
    some (.inr (.inl (10,())))
   else
    bif vZ (m.length:Int)then
    bif decide ((m.length:Int)=16)then
     some (.inr (.inr (.inl (18,()))))
    else
     bif sS 0 2 (s.length:Int)then
     (Ns.run m_ ((cut s 0 2),())).bind fun r1=>
     bif sS 4 (ag3.wrap r) (s.length:Int)then
     bif decide (m.length+([((ag3.wrap r1),(cut s 4 (ag3.wrap r)))]:List (Int×List Int)).length<2932031007402)then
     bif sS (ag3.wrap r) (s.length:Int) (s.length:Int)then
     self ((cut s (ag3.wrap r) (s.length:Int)),(m++([((ag3.wrap r1),(cut s 4 (ag3.wrap r)))]:List (Int×List Int))),())else none else none else none else none else none else none else none else none else none
 else
  some (.inr (.inr (.inr (m,()))))
theorem k0:KQ 48 (O m_) [] e0 x0 [] (b0 m_):=fun _ _=>by kernel_rfl
def l0:=loop m_ (b0 m_)
theorem q0(v):l0 .lim v=b0 .lim (l0 .lim) v:=KS.q (k0 .lim) v
def s0:=so m_ (k0 m_)
def run:(List Int)×Unit->Option ((List (Int×List Int))×Int×Unit):=fun v_=>match v_ with
|(s,())=>
 (NK.l0 m_ (s,([]:List (Int×List Int)),())).bind fun g_=>match g_ with
 | .inl (t,())=>
  some (([]:List (Int×List Int)),t,())
 | .inr (.inl (t1,()))=>
  some (([]:List (Int×List Int)),t1,())
 | .inr (.inr (.inl (t2,())))=>
  some (([]:List (Int×List Int)),t2,())
 | .inr (.inr (.inr (m,())))=>
  some (m,0,())
theorem k:KT (O m_) [] ⟨48,[.one .str],.iF [.own Yb,.sh (.one (.int .i64))],run m_⟩ [s0 m_]:=fun _=>by kernel_rfl
def c:=co (k m_)
end NK

namespace Pn
def O(m_:Dq):OO P:=lI []
def run(m_:Dq):Int×Unit->Option (Int):=fun v_=>match v_ with
|(c,())=>
 bif decide (c>127)then
  some (ag3.wrap ((ag3.wrap c)-256))
 else
  some (ag3.wrap c)
theorem k:KT (O m_) [] ⟨51,[.one (.int .u8)],.one (.sh (.one (.int .i64))),run m_⟩ []:=fun _=>by kernel_rfl
def c:=co (k m_)
end Pn

namespace Qh
def O:OO P:=lI [NK.c m_,Pn.c m_,Ns.c m_]
def run:(List Int)×Unit->Option (DT2×Int×Unit):=fun v_=>match v_ with
|(s,())=>
 bif vZ (s.length:Int)then
 bif decide ((s.length:Int)<48)then
  some ((0,(0,(0,(0,(0,(0,(0,(0,(0,(0,(0,(0,(0,([]:List (Int×List Int))))))))))))))),11,())
 else
  bif vZ (s.length:Int)then
  bif decide ((s.length:Int)>1280)then
   some ((0,(0,(0,(0,(0,(0,(0,(0,(0,(0,(0,(0,(0,([]:List (Int×List Int))))))))))))))),12,())
  else
   bif sS 48 (s.length:Int) (s.length:Int)then
   (NK.run m_ ((cut s 48 (s.length:Int)),())).bind fun (r,r1,())=>
   bif !(decide (r1=0))then
    some ((0,(0,(0,(0,(0,(0,(0,(0,(0,(0,(0,(0,(0,([]:List (Int×List Int))))))))))))))),r1,())
   else
    bif inB 0 (s.length:Int)then
    bif inB 0 (s.length:Int)then
    bif inB 0 (s.length:Int)then
    bif inB 1 (s.length:Int)then
    bif inB 2 (s.length:Int)then
    (Pn.run m_ ((rd 0 s 2),())).bind fun r2=>
    bif inB 3 (s.length:Int)then
    (Pn.run m_ ((rd 0 s 3),())).bind fun r3=>
    bif sS 4 8 (s.length:Int)then
    (Ns.run m_ ((cut s 4 8),())).bind fun r4=>
    bif sS 8 12 (s.length:Int)then
    (Ns.run m_ ((cut s 8 12),())).bind fun r5=>
    bif sS 12 16 (s.length:Int)then
    (Ns.run m_ ((cut s 12 16),())).bind fun r6=>
    bif sS 16 24 (s.length:Int)then
    (Ns.run m_ ((cut s 16 24),())).bind fun r7=>
    bif sS 24 32 (s.length:Int)then
    (Ns.run m_ ((cut s 24 32),())).bind fun r8=>
    bif sS 32 40 (s.length:Int)then
    (Ns.run m_ ((cut s 32 40),())).bind fun r9=>
    bif sS 40 48 (s.length:Int)then
    (Ns.run m_ ((cut s 40 48),())).bind fun r10=>
    some (((ag3.wrap (Je .u8 (rd 0 s 0) 6)),((ag3.wrap (Jc .u8 (Je .u8 (rd 0 s 0) 3) 7)),((ag3.wrap (Jc .u8 (rd 0 s 0) 7)),((ag3.wrap (rd 0 s 1)),(r2,(r3,((ag7.wrap r4),((ag7.wrap r5),((ag7.wrap r6),(r7,(r8,(r9,(r10,r))))))))))))),0,())else none else none else none else none else none else none else none else none else none else none else none else none else none else none else none else none
theorem k:KT (O m_) [] ⟨20,[.one .str],.iF [.sh (.ag Yx),.sh (.one (.int .i64))],run m_⟩ []:=fun _=>by kernel_rfl
def c:=co (k m_)
end Qh

namespace PE
def O(m_:Dq):OO P:=lI []
def run(m_:Dq):Int×Unit->Option (Int):=fun v_=>match v_ with
|(abo,())=>
 bif decide (abo=15)then
  some 32
 else
  bif decide (abo=17)then
   some 64
  else
   some 0
theorem k:KT (O m_) [] ⟨29,[.one (.int .i64)],.one (.sh (.one (.int .i64))),run m_⟩ []:=fun _=>by kernel_rfl
def c:=co (k m_)
end PE

namespace OA
def O:OO P:=lI [PE.c m_]
def run:(Int×(List Int×List Int))×Unit->Option (Bool):=fun v_=>match v_ with
|(k,())=>
 (PE.run m_ (k.1,())).bind fun r=>
 bif((!(decide (r>0)))||(vZ (k.2.1.length:Int)))then
 bif((!((decide (r>0))&&(decide ((k.2.1.length:Int)=r))))||(vZ (k.2.2.length:Int)))then
 some (((decide (r>0))&&(decide ((k.2.1.length:Int)=r)))&&(decide ((k.2.2.length:Int)=r)))else none else none
theorem k:KT (O m_) [] ⟨8,[.ag Yw],.one (.sh (.one .bool)),run m_⟩ []:=fun _=>by kernel_rfl
def c:=co (k m_)
end OA

namespace Qn
def O(m_:Dq):OO P:=lI []
def run(m_:Dq):Int×Unit->Option (List Int):=fun v_=>match v_ with
|(id,())=>
 some ([(ag5.wrap (Je .u32 id 24)),(ag5.wrap (Je .u32 id 16)),(ag5.wrap (Je .u32 id 8)),(ag5.wrap id)]:List Int)
theorem k:KT (O m_) [] ⟨32,[.one (.int .u32)],.one (.sh (.one .str)),run m_⟩ []:=fun _=>by kernel_rfl
def c:=co (k m_)
end Qn

end
end Go.AM
end
