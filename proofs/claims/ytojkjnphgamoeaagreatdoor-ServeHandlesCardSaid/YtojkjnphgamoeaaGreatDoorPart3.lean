import Derived.Test.YtojkjnphgamoeaaGreatDoorPart2

/-! The functions that the laws of this seat reach, as plain functions, and what these answer; no condition. -/
set_option linter.unusedSimpArgs false
set_option linter.unusedVariables false
set_option linter.unusedSectionVars false

open BitVec renaming ofInt->ahG,toNat_ofInt->aip
open Bool renaming not_false->ahn,and_false->aho,false_and->ahp,and_self->ahq,not_true->ahr,false_or->ahs,and_true->aht,or_false->ahu,true_and->ahv,or_true->ahw,not_not->ahy,or_self->ahz,true_or->ahA
open Eq renaming symm->aiy
open Go.IntKind renaming i64->ahk,u8->ahF,u32->ahP,u64->ahU,i32->aiG
open Int renaming toNat_natCast->ahx,tmod_eq_emod_of_nonneg->ahC,natCast_nonneg->ahD,tdiv_eq_ediv_of_nonneg->ahJ,le_refl->ahN,pow_pos->ahV,fdiv_eq_ediv_of_nonneg->ahZ,le_of_lt->ah0,ediv_le_self->aiv,ediv_nonneg->aiz,pow_succ->aiD
open List renaming replicate->ahB,getD_eq_getElem?_getD->ahE,length_append->ahH,range->ahI,take_of_length_le->ahK,drop_eq_getElem_cons->ahM,length_take->ahO,mem_range->ahQ,length_drop->ahS,take_length->ahT,map_append->ahW,map_congr_left->ahX,range_succ->ahY,getElem_range->ah1,mem_map->ah2,set_set->ah3,drop_zero->ah4,getElem?_append_left->ah5,flatten_cons->ah6,getElem?_take_of_lt->ah7,map_cons->ah8,getElem_map->ah_,not_mem_nil->aia,eq_replicate_iff->aib,getElem?_eq_none->aic,length_replicate->aie,map_nil->aif,drop_drop->aii,take_zero->aij,flatten_append->aik,replicate_zero->ail,getElem?_drop->aiq,mem_cons->air,take_add->ais,append_assoc->ait,length_range->aiu,ext_getElem->aiw,getElem_set->aix,append_nil->aiA,length_map->aiB
open Nat renaming le_refl->ahL,add_zero->ahR,mul_div_cancel_left->ah9,ble->ain,blt->aio,le_of_eq->aiE,mul_zero->aiF
open Option renaming bind_some->ahl,bind_none->ahm
open Prod.mk renaming inj->aiC
section
namespace Go.AM
open Go.Proofs
set_option maxRecDepth 100000
set_option linter.unusedVariables false
noncomputable section
variable (m_:Dj)
namespace NH
def O:OO P:=lH [Nc.c m_]
def o0:dJ:= .c [.row Yx]
def e0:Spec:=⟨[fs 48 [.q 56,.z 56,.b 0,.q 15] [(0,.s),(4,.own 5011 Yx)]],[(5011,o0)],5012⟩
def x0:List Spec:=[⟨[fs 48 [.q 3621,.q 453,.b 1,.z 56,.b 0,.q 15] [(2,.CG),(3,.w)]],[],0⟩,⟨[fs 48 [.q 14517,.q 1815,.b 1,.z 56,.b 0,.q 15] [(2,.CG),(3,.w)]],[],0⟩,⟨[fs 48 [.q 29045,.q 3631,.b 1,.z 56,.b 0,.q 15] [(2,.CG),(3,.w)]],[],0⟩,⟨[fs 48 [.q 15] [(4,.own 0 Yx)]],[(0,o0)],1⟩]
abbrev A0:Type:=LI×(List (Int×List Int))×Unit
abbrev B0:Type:=(Int×Unit) ⊕ (Int×Unit) ⊕ (Int×Unit) ⊕ ((List (Int×List Int))×Unit)
def b0(self:A0->Option B0):A0->Option B0:=fun v_=>match v_ with
|(s,m,())=>
 bif !(decide (s=([]:List Int)))then
  bif vT (s.length:Int)then
  bif decide ((s.length:Int)<4)then
   some (.inl (10,()))
  else
   bif sK 2 4 (s.length:Int)then
   (Nc.run m_ ((cut s 2 4),())).bind fun r=>
   bif((!(!(decide ((ahk.wrap r)<16))))||true)then
   bif((!(!((decide ((ahk.wrap r)<16))||(!(decide (((ahk.wrap r).tmod 4)=0))))))||(vT (s.length:Int)))then
   bif(((decide ((ahk.wrap r)<16))||(!(decide (((ahk.wrap r).tmod 4)=0))))||(decide ((ahk.wrap r)>(s.length:Int))))then
    some (.inr (.inl (10,())))
   else
    bif vT (m.length:Int)then
    bif decide ((m.length:Int)=16)then
     some (.inr (.inr (.inl (18,()))))
    else
     bif sK 0 2 (s.length:Int)then
     (Nc.run m_ ((cut s 0 2),())).bind fun r1=>
     bif sK 4 (ahk.wrap r) (s.length:Int)then
     bif decide (m.length+([((ahk.wrap r1),(cut s 4 (ahk.wrap r)))]:List (Int×List Int)).length<2932031007402)then
     bif sK (ahk.wrap r) (s.length:Int) (s.length:Int)then
     self ((cut s (ahk.wrap r) (s.length:Int)),(m++([((ahk.wrap r1),(cut s 4 (ahk.wrap r)))]:List (Int×List Int))),())else none else none else none else none else none else none else none else none else none
 else
  some (.inr (.inr (.inr (m,()))))
theorem k0:KQ 48 (O m_) [] e0 x0 [] (b0 m_):=fun _ _=>by kernel_rfl
def l0:=loop m_ (b0 m_)
theorem q0(v):l0 .lim v=b0 .lim (l0 .lim) v:=KS.q (k0 .lim) v
def s0:=so m_ (k0 m_)
def run:(List Int)×Unit->Option ((List (Int×List Int))×Int×Unit):=fun v_=>match v_ with
|(s,())=>
 (NH.l0 m_ (s,([]:List (Int×List Int)),())).bind fun g_=>match g_ with
 | .inl (t,())=>
  some (([]:List (Int×List Int)),t,())
 | .inr (.inl (t1,()))=>
  some (([]:List (Int×List Int)),t1,())
 | .inr (.inr (.inl (t2,())))=>
  some (([]:List (Int×List Int)),t2,())
 | .inr (.inr (.inr (m,())))=>
  some (m,0,())
theorem k:KT (O m_) [] ⟨48,[.one .str],.iE [.own Yx,.sh (.one (.int .i64))],run m_⟩ [s0 m_]:=fun _=>by kernel_rfl
def c:=co (k m_)
end NH

namespace Py
def O(m_:Dj):OO P:=lH []
def run(m_:Dj):Int×Unit->Option (Int):=fun v_=>match v_ with
|(c,())=>
 bif decide (c>127)then
  some (ahk.wrap ((ahk.wrap c)-256))
 else
  some (ahk.wrap c)
theorem k:KT (O m_) [] ⟨51,[.one (.int .u8)],.one (.sh (.one (.int .i64))),run m_⟩ []:=fun _=>by kernel_rfl
def c:=co (k m_)
end Py

namespace OL
def O:OO P:=lH [NH.c m_,Py.c m_,Nc.c m_]
def run:(List Int)×Unit->Option (DT2×Int×Unit):=fun v_=>match v_ with
|(s,())=>
 bif vT (s.length:Int)then
 bif decide ((s.length:Int)<48)then
  some ((0,(0,(0,(0,(0,(0,(0,(0,(0,(0,(0,(0,(0,([]:List (Int×List Int))))))))))))))),11,())
 else
  bif vT (s.length:Int)then
  bif decide ((s.length:Int)>1280)then
   some ((0,(0,(0,(0,(0,(0,(0,(0,(0,(0,(0,(0,(0,([]:List (Int×List Int))))))))))))))),12,())
  else
   bif sK 48 (s.length:Int) (s.length:Int)then
   (NH.run m_ ((cut s 48 (s.length:Int)),())).bind fun (r,r1,())=>
   bif !(decide (r1=0))then
    some ((0,(0,(0,(0,(0,(0,(0,(0,(0,(0,(0,(0,(0,([]:List (Int×List Int))))))))))))))),r1,())
   else
    bif inB 0 (s.length:Int)then
    bif inB 0 (s.length:Int)then
    bif inB 0 (s.length:Int)then
    bif inB 1 (s.length:Int)then
    bif inB 2 (s.length:Int)then
    (Py.run m_ ((rd 0 s 2),())).bind fun r2=>
    bif inB 3 (s.length:Int)then
    (Py.run m_ ((rd 0 s 3),())).bind fun r3=>
    bif sK 4 8 (s.length:Int)then
    (Nc.run m_ ((cut s 4 8),())).bind fun r4=>
    bif sK 8 12 (s.length:Int)then
    (Nc.run m_ ((cut s 8 12),())).bind fun r5=>
    bif sK 12 16 (s.length:Int)then
    (Nc.run m_ ((cut s 12 16),())).bind fun r6=>
    bif sK 16 24 (s.length:Int)then
    (Nc.run m_ ((cut s 16 24),())).bind fun r7=>
    bif sK 24 32 (s.length:Int)then
    (Nc.run m_ ((cut s 24 32),())).bind fun r8=>
    bif sK 32 40 (s.length:Int)then
    (Nc.run m_ ((cut s 32 40),())).bind fun r9=>
    bif sK 40 48 (s.length:Int)then
    (Nc.run m_ ((cut s 40 48),())).bind fun r10=>
    some (((ahk.wrap (I_ .u8 (rd 0 s 0) 6)),((ahk.wrap (I8 .u8 (I_ .u8 (rd 0 s 0) 3) 7)),((ahk.wrap (I8 .u8 (rd 0 s 0) 7)),((ahk.wrap (rd 0 s 1)),(r2,(r3,((ahP.wrap r4),((ahP.wrap r5),((ahP.wrap r6),(r7,(r8,(r9,(r10,r))))))))))))),0,())else none else none else none else none else none else none else none else none else none else none else none else none else none else none else none else none
theorem k:KT (O m_) [] ⟨20,[.one .str],.iE [.sh (.ag YV),.sh (.one (.int .i64))],run m_⟩ []:=fun _=>by kernel_rfl
def c:=co (k m_)
end OL

namespace NQ
def O:OO P:=lH [Nc.c m_]
def e0:Spec:=⟨[fs 54 [.q 116,.z 116,.b 0,.q 15] [(0,.s),(3,.w)]],[],0⟩
def x0:List Spec:=[⟨[fs 54 [.q 7461,.b 1,.q 467,.z 116,.b 0,.q 15] [(2,.dat (.int .u32))]],[],0⟩,⟨[fs 54 [.q 15] [(0,.s)]],[],0⟩]
abbrev A0:Type:=LI×Int×Unit
abbrev B0:Type:=(Int×Unit) ⊕ (LI×Unit)
def b0(m_:Dj)(self:A0->Option B0):A0->Option B0:=fun v_=>match v_ with
|(code,i,())=>
 bif decide (i<4)then
  bif inB i (code.length:Int)then
  bif((!(!(decide ((rd 0 code i)<65))))||(inB i (code.length:Int)))then
  bif((decide ((rd 0 code i)<65))||(decide ((rd 0 code i)>90)))then
   some (.inl (0,()))
  else
   self (code,(ahk.wrap (i+1)),())else none else none
 else
  some (.inr (code,()))
theorem k0:KQ 54 (O m_) [] e0 x0 [] (b0 m_):=fun _ _=>by kernel_rfl
def l0:=loop m_ (b0 m_)
theorem q0(v):l0 .lim v=b0 .lim (l0 .lim) v:=KS.q (k0 .lim) v
def s0:=so m_ (k0 m_)
def run:(List Int)×Unit->Option (Int):=fun v_=>match v_ with
|(code,())=>
 bif vT (code.length:Int)then
 bif !(decide ((code.length:Int)=4))then
  some 0
 else
  (NQ.l0 m_ (code,0,())).bind fun g_=>match g_ with
  | .inl (t,())=>
   some t
  | .inr (afi,())=>
   (Nc.run m_ (afi,())).bind fun r=>
   some (ahP.wrap r)else none
theorem k:KT (O m_) [] ⟨54,[.one .str],.one (.sh (.one (.int .u32))),run m_⟩ [s0 m_]:=fun _=>by kernel_rfl
def c:=co (k m_)
end NQ

namespace PS
def O(m_:Dj):OO P:=lH []
def run(m_:Dj):Int×Unit->Option (Int):=fun v_=>match v_ with
|(abC,())=>
 bif decide (abC=15)then
  some 32
 else
  bif decide (abC=17)then
   some 64
  else
   some 0
theorem k:KT (O m_) [] ⟨29,[.one (.int .i64)],.one (.sh (.one (.int .i64))),run m_⟩ []:=fun _=>by kernel_rfl
def c:=co (k m_)
end PS

namespace O4
def O:OO P:=lH [PS.c m_]
def run:(Int×(List Int×List Int))×Unit->Option (Bool):=fun v_=>match v_ with
|(k,())=>
 (PS.run m_ (k.1,())).bind fun r=>
 bif((!(decide (r>0)))||(vT (k.2.1.length:Int)))then
 bif((!((decide (r>0))&&(decide ((k.2.1.length:Int)=r))))||(vT (k.2.2.length:Int)))then
 some (((decide (r>0))&&(decide ((k.2.1.length:Int)=r)))&&(decide ((k.2.2.length:Int)=r)))else none else none
theorem k:KT (O m_) [] ⟨8,[.ag YU],.one (.sh (.one .bool)),run m_⟩ []:=fun _=>by kernel_rfl
def c:=co (k m_)
end O4

namespace Qm
def O(m_:Dj):OO P:=lH []
def run(m_:Dj):Int×Unit->Option (List Int):=fun v_=>match v_ with
|(id,())=>
 some ([(ahF.wrap (I_ .u32 id 24)),(ahF.wrap (I_ .u32 id 16)),(ahF.wrap (I_ .u32 id 8)),(ahF.wrap id)]:List Int)
theorem k:KT (O m_) [] ⟨32,[.one (.int .u32)],.one (.sh (.one .str)),run m_⟩ []:=fun _=>by kernel_rfl
def c:=co (k m_)
end Qm

namespace OX
def O(m_:Dj):OO P:=lH []
def run(m_:Dj):(Int×(List Int×List Int))×Unit->Option (List Int):=fun v_=>match v_ with
|(k,())=>
 bif decide (([(ahF.wrap (ahk.wrap (k.1.tdiv 256))),(ahF.wrap (k.1.tmod 256)),0,0]:List Int).length+k.2.1.length<=maxStr)then
 bif decide ((([(ahF.wrap (ahk.wrap (k.1.tdiv 256))),(ahF.wrap (k.1.tmod 256)),0,0]:List Int)++k.2.1).length+k.2.2.length<=maxStr)then
 some ((([(ahF.wrap (ahk.wrap (k.1.tdiv 256))),(ahF.wrap (k.1.tmod 256)),0,0]:List Int)++k.2.1)++k.2.2)else none else none
theorem k:KT (O m_) [] ⟨34,[.ag YU],.one (.sh (.one .str)),run m_⟩ []:=fun _=>by kernel_rfl
def c:=co (k m_)
end OX

namespace OZ
def O(m_:Dj):OO P:=lH []
def run(m_:Dj):(List Int)×(List (List Int))×Unit->Option (Int):=fun v_=>match v_ with
|(key,ad,())=>
 bif vT (key.length:Int)then
 bif((!(!(decide ((key.length:Int)=32))))||(vT (key.length:Int)))then
 bif((!(decide ((key.length:Int)=32)))&&(!(decide ((key.length:Int)=64))))then
  some 13
 else
  bif vT (ad.length:Int)then
  bif decide ((ad.length:Int)>=127)then
   some 18
  else
   some 0 else none else none else none
theorem k:KT (O m_) [] ⟨85,[.one .str,.one (.lst .str)],.one (.sh (.one (.int .i64))),run m_⟩ []:=fun _=>by kernel_rfl
def c:=co (k m_)
end OZ

namespace P6
def O(m_:Dj):OO P:=lH []
def run(m_:Dj):(List Int)×Unit->Option (Bool):=fun v_=>match v_ with
|(key,())=>
 bif vT (key.length:Int)then
 bif((!(!(decide ((key.length:Int)=16))))||(vT (key.length:Int)))then
 some ((decide ((key.length:Int)=16))||(decide ((key.length:Int)=32)))else none else none
theorem k:KT (O m_) [] ⟨133,[.one .str],.one (.sh (.one .bool)),run m_⟩ []:=fun _=>by kernel_rfl
def c:=co (k m_)
end P6

namespace Oo
def O(m_:Dj):OO P:=lH []
def run(m_:Dj):Int×Unit->Option (List Int):=fun v_=>match v_ with
|(n,())=>
 bif(((decide (0<=n))&&(decide (n<=n)))&&(aio n.toNat 70368744177664))then
 some (ahB n.toNat 0)else none
theorem k:KT (O m_) [] ⟨135,[.one (.int .i64)],.one (.sh (.one .str)),run m_⟩ []:=fun _=>by kernel_rfl
def c:=co (k m_)
end Oo

namespace P5
def O(m_:Dj):OO P:=lH []
def run(m_:Dj):(List Int)×Unit->Option (Bool):=fun v_=>match v_ with
|(key,())=>
 bif vT (key.length:Int)then
 bif((!(!(decide ((key.length:Int)=16))))||(vT (key.length:Int)))then
 some ((decide ((key.length:Int)=16))||(decide ((key.length:Int)=32)))else none else none
theorem k:KT (O m_) [] ⟨150,[.one .str],.one (.sh (.one .bool)),run m_⟩ []:=fun _=>by kernel_rfl
def c:=co (k m_)
end P5

namespace O7
def O:OO P:=lH [P5.c m_]
def run:(List Int)×(List Int)×Unit->Option (Int):=fun v_=>match v_ with
|(key,block,())=>
 (P5.run m_ (key,())).bind fun r=>
 bif !r then
  some 13
 else
  bif vT (block.length:Int)then
  bif !(decide ((block.length:Int)=16))then
   some 10
  else
   some 0 else none
theorem k:KT (O m_) [] ⟨138,[.one .str,.one .str],.one (.sh (.one (.int .i64))),run m_⟩ []:=fun _=>by kernel_rfl
def c:=co (k m_)
end O7

namespace NY
def O(m_:Dj):OO P:=lH []
def run(m_:Dj):Int×Unit->Option (Int):=fun v_=>match v_ with
|(b,())=>
 bif inB b (([99,124,119,123,242,107,111,197,48,1,103,43,254,215,171,118,202,130,201,125,250,89,71,240,173,212,162,175,156,164,114,192,183,253,147,38,54,63,247,204,52,165,229,241,113,216,49,21,4,199,35,195,24,150,5,154,7,18,128,226,235,39,178,117,9,131,44,26,27,110,90,160,82,59,214,179,41,227,47,132,83,209,0,237,32,252,177,91,106,203,190,57,74,76,88,207,208,239,170,251,67,77,51,133,69,249,2,127,80,60,159,168,81,163,64,143,146,157,56,245,188,182,218,33,16,255,243,210,205,12,19,236,95,151,68,23,196,167,126,61,100,93,25,115,96,129,79,220,34,42,144,136,70,238,184,20,222,94,11,219,224,50,58,10,73,6,36,92,194,211,172,98,145,149,228,121,231,200,55,109,141,213,78,169,108,86,244,234,101,122,174,8,186,120,37,46,28,166,180,198,232,221,116,31,75,189,139,138,112,62,181,102,72,3,246,14,97,53,87,185,134,193,29,158,225,248,152,17,105,217,142,148,155,30,135,233,206,85,40,223,140,161,137,13,191,230,66,104,65,153,45,15,176,84,187,22]:List Int).length:Int)then
 some (rd 0 ([99,124,119,123,242,107,111,197,48,1,103,43,254,215,171,118,202,130,201,125,250,89,71,240,173,212,162,175,156,164,114,192,183,253,147,38,54,63,247,204,52,165,229,241,113,216,49,21,4,199,35,195,24,150,5,154,7,18,128,226,235,39,178,117,9,131,44,26,27,110,90,160,82,59,214,179,41,227,47,132,83,209,0,237,32,252,177,91,106,203,190,57,74,76,88,207,208,239,170,251,67,77,51,133,69,249,2,127,80,60,159,168,81,163,64,143,146,157,56,245,188,182,218,33,16,255,243,210,205,12,19,236,95,151,68,23,196,167,126,61,100,93,25,115,96,129,79,220,34,42,144,136,70,238,184,20,222,94,11,219,224,50,58,10,73,6,36,92,194,211,172,98,145,149,228,121,231,200,55,109,141,213,78,169,108,86,244,234,101,122,174,8,186,120,37,46,28,166,180,198,232,221,116,31,75,189,139,138,112,62,181,102,72,3,246,14,97,53,87,185,134,193,29,158,225,248,152,17,105,217,142,148,155,30,135,233,206,85,40,223,140,161,137,13,191,230,66,104,65,153,45,15,176,84,187,22]:List Int) b)else none
theorem k:KT (O m_) [] ⟨151,[.one (.int .u8)],.one (.sh (.one (.int .u8))),run m_⟩ []:=fun _=>by kernel_rfl
def c:=co (k m_)
end NY

namespace Oa
def O(m_:Dj):OO P:=lH []
def e0:Spec:=⟨[fs 152 [.q 116,.z 116,.b 0,.q 15] [(0,.y),(1,.y),(5,.y),(6,.w)]],[],0⟩
def x0:List Spec:=[⟨[fs 152 [.q 15] [(5,.y)]],[],0⟩]
abbrev A0:Type:=Int×Int×Int×Int×Unit
abbrev B0:Type:=(Int×Unit)
def b0(m_:Dj)(self:A0->Option B0):A0->Option B0:=fun v_=>match v_ with
|(a,b,r,i,())=>
 bif decide (i<8)then
  bif decide ((I8 .u8 b 1)=1)then
   bif !(decide ((I8 .u8 a 128)=0))then
    self ((Hy .u8 (I9 .u8 a 1) 27),(I_ .u8 b 1),(Hy .u8 r a),(ahk.wrap (i+1)),())
   else
    self ((I9 .u8 a 1),(I_ .u8 b 1),(Hy .u8 r a),(ahk.wrap (i+1)),())
  else
   bif !(decide ((I8 .u8 a 128)=0))then
    self ((Hy .u8 (I9 .u8 a 1) 27),(I_ .u8 b 1),r,(ahk.wrap (i+1)),())
   else
    self ((I9 .u8 a 1),(I_ .u8 b 1),r,(ahk.wrap (i+1)),())
 else
  some (r,())
theorem k0:KQ 152 (O m_) [] e0 x0 [] (b0 m_):=fun _ _=>by kernel_rfl
def l0:=loop m_ (b0 m_)
theorem q0(v):l0 .lim v=b0 .lim (l0 .lim) v:=KS.q (k0 .lim) v
def s0:=so m_ (k0 m_)
def run:Int×Int×Unit->Option (Int):=fun v_=>match v_ with
|(a,b,())=>
 (Oa.l0 m_ (a,b,0,0,())).bind fun (r,())=>
 some r
theorem k:KT (O m_) [] ⟨152,[.one (.int .u8),.one (.int .u8)],.one (.sh (.one (.int .u8))),run m_⟩ [s0 m_]:=fun _=>by kernel_rfl
def c:=co (k m_)
end Oa

namespace Np
def O:OO P:=lH [NY.c m_,Oa.c m_]
def e0:Spec:=⟨[fs 139 [.q 128156,.z 128156,.b 2,.b 1,.q 2003,.z 500,.b 0,.q 63] [(3,.w),(4,.oy 0),(5,.y),(6,.w),(7,.oy 1),(8,.w)]],[(0,.c [.ry]),(1,.c [.ry])],2⟩
def x0:List Spec:=[⟨[fs 139 [.q 2003,.z 500,.b 0,.q 63] [(3,.w),(4,.oy 0),(5,.y),(6,.w)]],[(0,.c [.ry])],1⟩]
abbrev A0:Type:=Int×Int×Int×Int×LI×LI×Unit
abbrev B0:Type:=(Int×Int×Int×LI×Unit)
def b0(m_:Dj)(self:A0->Option B0):A0->Option B0:=fun v_=>match v_ with
|(nk,c,i,k,m,m1,())=>
 bif decide (k<4)then
  bif inB (ahk.wrap ((ahk.wrap (4*(ahk.wrap (i-nk))))+k)) (m.length:Int)then
  bif inB k (m1.length:Int)then
  bif decide (m.length+([(Hy .u8 (rd 0 m (ahk.wrap ((ahk.wrap (4*(ahk.wrap (i-nk))))+k))) (rd 0 m1 k))]:List Int).length<70368744177664)then
  self (nk,c,i,(ahk.wrap (k+1)),(m++([(Hy .u8 (rd 0 m (ahk.wrap ((ahk.wrap (4*(ahk.wrap (i-nk))))+k))) (rd 0 m1 k))]:List Int)),m1,())else none else none else none
 else
  some (nk,c,i,m,())
theorem k0:KQ 139 (O m_) [] e0 x0 [] (b0 m_):=fun _ _=>by kernel_rfl
def l0:=loop m_ (b0 m_)
theorem q0(v):l0 .lim v=b0 .lim (l0 .lim) v:=KS.q (k0 .lim) v
def s0:=so m_ (k0 m_)
def e1:Spec:=⟨[fs 139 [.q 500,.z 500,.b 0,.q 63] [(3,.w),(4,.oy 0),(5,.y),(6,.w)]],[(0,.c [.ry])],1⟩
def x1:List Spec:=[⟨[fs 139 [.q 63] [(4,.oy 0)]],[(0,.c [.ry])],1⟩]
abbrev A1:Type:=Int×Int×Int×LI×Unit
abbrev B1:Type:=(LI×Unit)
def b1(self:A1->Option B1):A1->Option B1:=fun v_=>match v_ with
|(nk,c,i,m,())=>
 bif decide (i<(ahk.wrap (4*(ahk.wrap (nk+7)))))then
  bif inB (ahk.wrap ((ahk.wrap (4*i))-4)) (m.length:Int)then
  bif inB (ahk.wrap ((ahk.wrap (4*i))-3)) (m.length:Int)then
  bif inB (ahk.wrap ((ahk.wrap (4*i))-2)) (m.length:Int)then
  bif inB (ahk.wrap ((ahk.wrap (4*i))-1)) (m.length:Int)then
  bif !(decide (nk=0))then
  bif decide ((i.tmod nk)=0)then
   bif inB 1 (([(rd 0 m (ahk.wrap ((ahk.wrap (4*i))-4))),(rd 0 m (ahk.wrap ((ahk.wrap (4*i))-3))),(rd 0 m (ahk.wrap ((ahk.wrap (4*i))-2))),(rd 0 m (ahk.wrap ((ahk.wrap (4*i))-1)))]:List Int).length:Int)then
   (NY.run m_ ((rd 0 ([(rd 0 m (ahk.wrap ((ahk.wrap (4*i))-4))),(rd 0 m (ahk.wrap ((ahk.wrap (4*i))-3))),(rd 0 m (ahk.wrap ((ahk.wrap (4*i))-2))),(rd 0 m (ahk.wrap ((ahk.wrap (4*i))-1)))]:List Int) 1),())).bind fun r=>
   bif inB 2 (([(rd 0 m (ahk.wrap ((ahk.wrap (4*i))-4))),(rd 0 m (ahk.wrap ((ahk.wrap (4*i))-3))),(rd 0 m (ahk.wrap ((ahk.wrap (4*i))-2))),(rd 0 m (ahk.wrap ((ahk.wrap (4*i))-1)))]:List Int).length:Int)then
   (NY.run m_ ((rd 0 ([(rd 0 m (ahk.wrap ((ahk.wrap (4*i))-4))),(rd 0 m (ahk.wrap ((ahk.wrap (4*i))-3))),(rd 0 m (ahk.wrap ((ahk.wrap (4*i))-2))),(rd 0 m (ahk.wrap ((ahk.wrap (4*i))-1)))]:List Int) 2),())).bind fun r1=>
   bif inB 3 (([(rd 0 m (ahk.wrap ((ahk.wrap (4*i))-4))),(rd 0 m (ahk.wrap ((ahk.wrap (4*i))-3))),(rd 0 m (ahk.wrap ((ahk.wrap (4*i))-2))),(rd 0 m (ahk.wrap ((ahk.wrap (4*i))-1)))]:List Int).length:Int)then
   (NY.run m_ ((rd 0 ([(rd 0 m (ahk.wrap ((ahk.wrap (4*i))-4))),(rd 0 m (ahk.wrap ((ahk.wrap (4*i))-3))),(rd 0 m (ahk.wrap ((ahk.wrap (4*i))-2))),(rd 0 m (ahk.wrap ((ahk.wrap (4*i))-1)))]:List Int) 3),())).bind fun r2=>
   bif inB 0 (([(rd 0 m (ahk.wrap ((ahk.wrap (4*i))-4))),(rd 0 m (ahk.wrap ((ahk.wrap (4*i))-3))),(rd 0 m (ahk.wrap ((ahk.wrap (4*i))-2))),(rd 0 m (ahk.wrap ((ahk.wrap (4*i))-1)))]:List Int).length:Int)then
   (NY.run m_ ((rd 0 ([(rd 0 m (ahk.wrap ((ahk.wrap (4*i))-4))),(rd 0 m (ahk.wrap ((ahk.wrap (4*i))-3))),(rd 0 m (ahk.wrap ((ahk.wrap (4*i))-2))),(rd 0 m (ahk.wrap ((ahk.wrap (4*i))-1)))]:List Int) 0),())).bind fun r3=>
   (Oa.run m_ (c,2,())).bind fun r4=>
   (Np.l0 m_ (nk,r4,i,0,m,([(Hy .u8 r c),r1,r2,r3]:List Int),())).bind fun (nk1,c1,i1,m1,())=>
   self (nk1,c1,(ahk.wrap (i1+1)),m1,())else none else none else none else none
  else
   bif((!(decide (nk=8)))||true)then
   bif((decide (nk=8))&&(decide ((i.tmod 8)=4)))then
    bif inB 0 (([(rd 0 m (ahk.wrap ((ahk.wrap (4*i))-4))),(rd 0 m (ahk.wrap ((ahk.wrap (4*i))-3))),(rd 0 m (ahk.wrap ((ahk.wrap (4*i))-2))),(rd 0 m (ahk.wrap ((ahk.wrap (4*i))-1)))]:List Int).length:Int)then
    (NY.run m_ ((rd 0 ([(rd 0 m (ahk.wrap ((ahk.wrap (4*i))-4))),(rd 0 m (ahk.wrap ((ahk.wrap (4*i))-3))),(rd 0 m (ahk.wrap ((ahk.wrap (4*i))-2))),(rd 0 m (ahk.wrap ((ahk.wrap (4*i))-1)))]:List Int) 0),())).bind fun r5=>
    bif inB 1 (([(rd 0 m (ahk.wrap ((ahk.wrap (4*i))-4))),(rd 0 m (ahk.wrap ((ahk.wrap (4*i))-3))),(rd 0 m (ahk.wrap ((ahk.wrap (4*i))-2))),(rd 0 m (ahk.wrap ((ahk.wrap (4*i))-1)))]:List Int).length:Int)then
    (NY.run m_ ((rd 0 ([(rd 0 m (ahk.wrap ((ahk.wrap (4*i))-4))),(rd 0 m (ahk.wrap ((ahk.wrap (4*i))-3))),(rd 0 m (ahk.wrap ((ahk.wrap (4*i))-2))),(rd 0 m (ahk.wrap ((ahk.wrap (4*i))-1)))]:List Int) 1),())).bind fun r6=>
    bif inB 2 (([(rd 0 m (ahk.wrap ((ahk.wrap (4*i))-4))),(rd 0 m (ahk.wrap ((ahk.wrap (4*i))-3))),(rd 0 m (ahk.wrap ((ahk.wrap (4*i))-2))),(rd 0 m (ahk.wrap ((ahk.wrap (4*i))-1)))]:List Int).length:Int)then
    (NY.run m_ ((rd 0 ([(rd 0 m (ahk.wrap ((ahk.wrap (4*i))-4))),(rd 0 m (ahk.wrap ((ahk.wrap (4*i))-3))),(rd 0 m (ahk.wrap ((ahk.wrap (4*i))-2))),(rd 0 m (ahk.wrap ((ahk.wrap (4*i))-1)))]:List Int) 2),())).bind fun r7=>
    bif inB 3 (([(rd 0 m (ahk.wrap ((ahk.wrap (4*i))-4))),(rd 0 m (ahk.wrap ((ahk.wrap (4*i))-3))),(rd 0 m (ahk.wrap ((ahk.wrap (4*i))-2))),(rd 0 m (ahk.wrap ((ahk.wrap (4*i))-1)))]:List Int).length:Int)then
    (NY.run m_ ((rd 0 ([(rd 0 m (ahk.wrap ((ahk.wrap (4*i))-4))),(rd 0 m (ahk.wrap ((ahk.wrap (4*i))-3))),(rd 0 m (ahk.wrap ((ahk.wrap (4*i))-2))),(rd 0 m (ahk.wrap ((ahk.wrap (4*i))-1)))]:List Int) 3),())).bind fun r8=>
    (Np.l0 m_ (nk,c,i,0,m,([r5,r6,r7,r8]:List Int),())).bind fun (nk2,c2,i2,m2,())=>
    self (nk2,c2,(ahk.wrap (i2+1)),m2,())else none else none else none else none
   else
    (Np.l0 m_ (nk,c,i,0,m,([(rd 0 m (ahk.wrap ((ahk.wrap (4*i))-4))),(rd 0 m (ahk.wrap ((ahk.wrap (4*i))-3))),(rd 0 m (ahk.wrap ((ahk.wrap (4*i))-2))),(rd 0 m (ahk.wrap ((ahk.wrap (4*i))-1)))]:List Int),())).bind fun (nk3,c3,i3,m3,())=>
    self (nk3,c3,(ahk.wrap (i3+1)),m3,())else none else none else none else none else none else none
 else
  some (m,())
theorem k1:KQ 139 (O m_) [] e1 x1 [s0 m_] (b1 m_):=fun _ _=>by kernel_rfl
def l1:=loop m_ (b1 m_)
theorem q1(v):l1 .lim v=b1 .lim (l1 .lim) v:=KS.q (k1 .lim) v
def s1:=so m_ (k1 m_)
def run:(List Int)×Unit->Option (List Int):=fun v_=>match v_ with
|(key,())=>
 bif vT (key.length:Int)then
 (Np.l1 m_ ((ahk.wrap ((key.length:Int).tdiv 4)),1,(ahk.wrap ((key.length:Int).tdiv 4)),key,())).bind fun (m,())=>
 some m else none
theorem k:KT (O m_) [] ⟨139,[.one .str],.one (.own (.int .u8)),run m_⟩ [s1 m_]:=fun _=>by kernel_rfl
def c:=co (k m_)
end Np

namespace Ny
def O(m_:Dj):OO P:=lH []
def e0:Spec:=⟨[fs 154 [.q 7460,.z 7460,.b 2,.b 1,.q 467,.z 116,.b 0,.q 15] [(0,.dat WQ),(1,.b),(5,.oy 0),(6,.w),(7,.w)]],[(0,.c [.ry])],1⟩
def x0:List Spec:=[⟨[fs 154 [.q 467,.z 116,.b 0,.q 15] [(0,.dat WQ),(1,.b),(5,.oy 0),(6,.w)]],[(0,.c [.ry])],1⟩]
abbrev A0:Type:=LI×Bool×Int×Int×LI×Unit
abbrev B0:Type:=(LI×Bool×Int×LI×Unit)
def b0(m_:Dj)(self:A0->Option B0):A0->Option B0:=fun v_=>match v_ with
|(b,back,c,r,m,())=>
 bif decide (r<4)then
  bif back then
   bif inB (ahk.wrap ((ahk.wrap (4*c))+r)) (b.length:Int)then
   bif inB (ahk.wrap ((ahk.wrap (4*((ahk.wrap (c+r)).tmod 4)))+r)) (m.length:Int)then
   self (b,back,c,(ahk.wrap (r+1)),(m.set ((ahk.wrap ((ahk.wrap (4*((ahk.wrap (c+r)).tmod 4)))+r)).toNat) (rd 0 b (ahk.wrap ((ahk.wrap (4*c))+r)))),())else none else none
  else
   bif inB (ahk.wrap ((ahk.wrap (4*((ahk.wrap (c+r)).tmod 4)))+r)) (b.length:Int)then
   bif inB (ahk.wrap ((ahk.wrap (4*c))+r)) (m.length:Int)then
   self (b,back,c,(ahk.wrap (r+1)),(m.set ((ahk.wrap ((ahk.wrap (4*c))+r)).toNat) (rd 0 b (ahk.wrap ((ahk.wrap (4*((ahk.wrap (c+r)).tmod 4)))+r)))),())else none else none
 else
  some (b,back,c,m,())
theorem k0:KQ 154 (O m_) [] e0 x0 [] (b0 m_):=fun _ _=>by kernel_rfl
def l0:=loop m_ (b0 m_)
theorem q0(v):l0 .lim v=b0 .lim (l0 .lim) v:=KS.q (k0 .lim) v
def s0:=so m_ (k0 m_)
def e1:Spec:=⟨[fs 154 [.q 116,.z 116,.b 0,.q 15] [(0,.dat WQ),(1,.b),(5,.oy 0),(6,.w)]],[(0,.c [.ry])],1⟩
def x1:List Spec:=[⟨[fs 154 [.q 15] [(5,.oy 0)]],[(0,.c [.ry])],1⟩]
abbrev A1:Type:=LI×Bool×Int×LI×Unit
abbrev B1:Type:=(LI×Unit)
def b1(self:A1->Option B1):A1->Option B1:=fun v_=>match v_ with
|(b,back,c,m,())=>
 bif decide (c<4)then
  (Ny.l0 m_ (b,back,c,0,m,())).bind fun (b1,afa,c1,m1,())=>
  self (b1,afa,(ahk.wrap (c1+1)),m1,())
 else
  some (m,())
theorem k1:KQ 154 (O m_) [] e1 x1 [s0 m_] (b1 m_):=fun _ _=>by kernel_rfl
def l1:=loop m_ (b1 m_)
theorem q1(v):l1 .lim v=b1 .lim (l1 .lim) v:=KS.q (k1 .lim) v
def s1:=so m_ (k1 m_)
def run:(List Int)×Bool×Unit->Option (List Int):=fun v_=>match v_ with
|(b,back,())=>
 bif aio 16 70368744177664 then
 (Ny.l1 m_ (b,back,0,(ahB 16 0),())).bind fun (m,())=>
 some m else none
theorem k:KT (O m_) [] ⟨154,[.one WQ,.one .bool],.one (.own (.int .u8)),run m_⟩ [s1 m_]:=fun _=>by kernel_rfl
def c:=co (k m_)
end Ny

namespace Nb
def O:OO P:=lH [Oa.c m_]
def e0:Spec:=⟨[fs 155 [.q 477476,.z 477476,.b 4,.b 3,.q 29843,.z 7460,.b 2,.b 1,.q 467,.z 116,.b 0,.q 15] [(0,.dat WQ),(1,.dat WQ),(5,.oy 0),(6,.w),(7,.w),(8,.w)]],[(0,.c [.ry])],1⟩
def x0:List Spec:=[⟨[fs 155 [.q 29843,.z 7460,.b 2,.b 1,.q 467,.z 116,.b 0,.q 15] [(0,.dat WQ),(1,.dat WQ),(5,.oy 0),(6,.w),(7,.w)]],[(0,.c [.ry])],1⟩]
abbrev A0:Type:=LI×LI×Int×Int×Int×LI×Unit
abbrev B0:Type:=(LI×LI×Int×Int×LI×Unit)
def b0(self:A0->Option B0):A0->Option B0:=fun v_=>match v_ with
|(b,m,c,r,k,m1,())=>
 bif decide (k<4)then
  bif inB (ahk.wrap ((ahk.wrap (4*c))+r)) (m1.length:Int)then
  bif inB (ahk.wrap ((ahk.wrap (4*c))+((ahk.wrap (r+k)).tmod 4))) (b.length:Int)then
  bif inB k (m.length:Int)then
  (Oa.run m_ ((rd 0 b (ahk.wrap ((ahk.wrap (4*c))+((ahk.wrap (r+k)).tmod 4)))),(rd 0 m k),())).bind fun r1=>
  bif inB (ahk.wrap ((ahk.wrap (4*c))+r)) (m1.length:Int)then
  self (b,m,c,r,(ahk.wrap (k+1)),(m1.set ((ahk.wrap ((ahk.wrap (4*c))+r)).toNat) (Hy .u8 (rd 0 m1 (ahk.wrap ((ahk.wrap (4*c))+r))) r1)),())else none else none else none else none
 else
  some (b,m,c,r,m1,())
theorem k0:KQ 155 (O m_) [] e0 x0 [] (b0 m_):=fun _ _=>by kernel_rfl
def l0:=loop m_ (b0 m_)
theorem q0(v):l0 .lim v=b0 .lim (l0 .lim) v:=KS.q (k0 .lim) v
def s0:=so m_ (k0 m_)
def e1:Spec:=⟨[fs 155 [.q 7460,.z 7460,.b 2,.b 1,.q 467,.z 116,.b 0,.q 15] [(0,.dat WQ),(1,.dat WQ),(5,.oy 0),(6,.w),(7,.w)]],[(0,.c [.ry])],1⟩
def x1:List Spec:=[⟨[fs 155 [.q 467,.z 116,.b 0,.q 15] [(0,.dat WQ),(1,.dat WQ),(5,.oy 0),(6,.w)]],[(0,.c [.ry])],1⟩]
abbrev A1:Type:=LI×LI×Int×Int×LI×Unit
abbrev B1:Type:=(LI×LI×Int×LI×Unit)
def b1(self:A1->Option B1):A1->Option B1:=fun v_=>match v_ with
|(b,m,c,r,m1,())=>
 bif decide (r<4)then
  (Nb.l0 m_ (b,m,c,r,0,m1,())).bind fun (b1,m2,c1,r1,m3,())=>
  self (b1,m2,c1,(ahk.wrap (r1+1)),m3,())
 else
  some (b,m,c,m1,())
theorem k1:KQ 155 (O m_) [] e1 x1 [s0 m_] (b1 m_):=fun _ _=>by kernel_rfl
def l1:=loop m_ (b1 m_)
theorem q1(v):l1 .lim v=b1 .lim (l1 .lim) v:=KS.q (k1 .lim) v
def s1:=so m_ (k1 m_)
def e2:Spec:=⟨[fs 155 [.q 116,.z 116,.b 0,.q 15] [(0,.dat WQ),(1,.dat WQ),(5,.oy 0),(6,.w)]],[(0,.c [.ry])],1⟩
def x2:List Spec:=[⟨[fs 155 [.q 15] [(5,.oy 0)]],[(0,.c [.ry])],1⟩]
abbrev A2:Type:=LI×LI×Int×LI×Unit
abbrev B2:Type:=(LI×Unit)
def b2(self:A2->Option B2):A2->Option B2:=fun v_=>match v_ with
|(b,m,c,m1,())=>
 bif decide (c<4)then
  (Nb.l1 m_ (b,m,c,0,m1,())).bind fun (b1,m2,c1,m3,())=>
  self (b1,m2,(ahk.wrap (c1+1)),m3,())
 else
  some (m1,())
theorem k2:KQ 155 (O m_) [] e2 x2 [s1 m_] (b2 m_):=fun _ _=>by kernel_rfl
def l2:=loop m_ (b2 m_)
theorem q2(v):l2 .lim v=b2 .lim (l2 .lim) v:=KS.q (k2 .lim) v
def s2:=so m_ (k2 m_)
def run:(List Int)×(List Int)×Unit->Option (List Int):=fun v_=>match v_ with
|(b,m,())=>
 bif aio 16 70368744177664 then
 (Nb.l2 m_ (b,m,0,(ahB 16 0),())).bind fun (m1,())=>
 some m1 else none
theorem k:KT (O m_) [] ⟨155,[.one WQ,.one WQ],.one (.own (.int .u8)),run m_⟩ [s2 m_]:=fun _=>by kernel_rfl
def c:=co (k m_)
end Nb

namespace MV
def O:OO P:=lH [NY.c m_,Ny.c m_,Nb.c m_]
def f0:gB:=fs 153 [.q 12,.z 12,.b 0] [(0,.oy 0),(1,.dat WQ),(4,.w)]
def f1:gB:=fs 140 [.v 14 [3],.q 15] [(0,.dat WQ),(5,.oy 0)]
def e0:Spec:=⟨[f0,f1],[(0,.c [.ry])],1⟩
def x0:List Spec:=[⟨[fs 153 [] [],f1],[(0,.c [.ry])],1⟩]
abbrev A0:Type:=LI×Int×LI×LI×Unit
abbrev B0:Type:=(LI×LI×Unit)
def b0(m_:Dj)(self:A0->Option B0):A0->Option B0:=fun v_=>match v_ with
|(w,i,w1,m,())=>
 bif decide (i<16)then
  bif inB i (m.length:Int)then
  bif inB i (w.length:Int)then
  bif inB i (m.length:Int)then
  self (w,(ahk.wrap (i+1)),w1,(m.set i.toNat (Hy .u8 (rd 0 m i) (rd 0 w i))),())else none else none else none
 else
  some (w1,m,())
theorem k0:KQ 140 (O m_) [153] e0 x0 [] (b0 m_):=fun _ _=>by kernel_rfl
def l0:=loop m_ (b0 m_)
theorem q0(v):l0 .lim v=b0 .lim (l0 .lim) v:=KS.q (k0 .lim) v
def s0:=so m_ (k0 m_)
def e1:Spec:=⟨[fs 140 [.q 31300,.z 31300,.b 2,.q 3913,.b 1,.q 979,.z 244,.b 0,.q 31] [(0,.dat WQ),(5,.oy 0),(6,.w),(7,.w)]],[(0,.c [.ry])],1⟩
def x1:List Spec:=[⟨[fs 140 [.q 3913,.b 1,.q 979,.z 244,.b 0,.q 31] [(0,.dat WQ),(5,.oy 0),(6,.w)]],[(0,.c [.ry])],1⟩]
abbrev A1:Type:=LI×Int×Int×LI×Unit
abbrev B1:Type:=(LI×Int×LI×Unit)
def b1(self:A1->Option B1):A1->Option B1:=fun v_=>match v_ with
|(w,i,k,m,())=>
 bif decide (k<16)then
  bif inB k (m.length:Int)then
  (NY.run m_ ((rd 0 m k),())).bind fun r=>
  bif inB k (m.length:Int)then
  self (w,i,(ahk.wrap (k+1)),(m.set k.toNat r),())else none else none
 else
  some (w,i,m,())
theorem k1:KQ 140 (O m_) [153] e1 x1 [] (b1 m_):=fun _ _=>by kernel_rfl
def l1:=loop m_ (b1 m_)
theorem q1(v):l1 .lim v=b1 .lim (l1 .lim) v:=KS.q (k1 .lim) v
def s1:=so m_ (k1 m_)
def f2:gB:=fs 140 [.v 15655 [6],.b 1,.q 979,.z 244,.b 0,.q 31] [(0,.dat WQ),(5,.oy 0),(6,.w)]
def e2:Spec:=⟨[f0,f2],[(0,.c [.ry])],1⟩
def x2:List Spec:=[⟨[fs 153 [] [],f2],[(0,.c [.ry])],1⟩]
abbrev A2:Type:=LI×Int×LI×Int×LI×Unit
abbrev B2:Type:=(LI×Int×LI×Unit)
def b2(m_:Dj)(self:A2->Option B2):A2->Option B2:=fun v_=>match v_ with
|(w,i,w1,i1,m,())=>
 bif decide (i<16)then
  bif inB i (m.length:Int)then
  bif inB i (w.length:Int)then
  bif inB i (m.length:Int)then
  self (w,(ahk.wrap (i+1)),w1,i1,(m.set i.toNat (Hy .u8 (rd 0 m i) (rd 0 w i))),())else none else none else none
 else
  some (w1,i1,m,())
theorem k2:KQ 140 (O m_) [153] e2 x2 [] (b2 m_):=fun _ _=>by kernel_rfl
def l2:=loop m_ (b2 m_)
theorem q2(v):l2 .lim v=b2 .lim (l2 .lim) v:=KS.q (k2 .lim) v
def s2:=so m_ (k2 m_)
def e3:Spec:=⟨[fs 140 [.q 244,.z 244,.b 0,.q 31] [(0,.dat WQ),(5,.oy 0),(6,.w)]],[(0,.c [.ry])],1⟩
def x3:List Spec:=[⟨[fs 140 [.q 31] [(5,.oy 0)]],[(0,.c [.ry])],1⟩]
abbrev A3:Type:=LI×Int×LI×Unit
abbrev B3:Type:=(LI×Unit)
def b3(self:A3->Option B3):A3->Option B3:=fun v_=>match v_ with
|(w,i,m,())=>
 bif vT (w.length:Int)then
 bif decide (i<(w.length:Int))then
  (MV.l1 m_ (w,i,0,m,())).bind fun (w1,i1,m1,())=>
  (Ny.run m_ (m1,false,())).bind fun r=>
  bif vT (w1.length:Int)then
  bif decide ((ahk.wrap (i1+16))<(w1.length:Int))then
   (Nb.run m_ (r,([2,3,1,1]:List Int),())).bind fun r1=>
   bif sK i1 (ahk.wrap (i1+16)) (w1.length:Int)then
   (MV.l2 m_ ((cut w1 i1 (ahk.wrap (i1+16))),0,w1,i1,r1,())).bind fun (w2,i2,m2,())=>
   self (w2,(ahk.wrap (i2+16)),m2,())else none
  else
   bif sK i1 (ahk.wrap (i1+16)) (w1.length:Int)then
   (MV.l2 m_ ((cut w1 i1 (ahk.wrap (i1+16))),0,w1,i1,r,())).bind fun (w3,i3,m3,())=>
   self (w3,(ahk.wrap (i3+16)),m3,())else none else none
 else
  some (m,())else none
theorem k3:KQ 140 (O m_) [153] e3 x3 [s1 m_,s2 m_] (b3 m_):=fun _ _=>by kernel_rfl
def l3:=loop m_ (b3 m_)
theorem q3(v):l3 .lim v=b3 .lim (l3 .lim) v:=KS.q (k3 .lim) v
def s3:=so m_ (k3 m_)
def run:(List Int)×(List Int)×Unit->Option (List Int):=fun v_=>match v_ with
|(w,block,())=>
 bif sK 0 16 (w.length:Int)then
 (MV.l0 m_ ((cut w 0 16),0,w,block,())).bind fun (w1,m,())=>
 (MV.l3 m_ (w1,16,m,())).bind fun (m1,())=>
 some m1 else none
theorem k:KT (O m_) [153] ⟨140,[.one WQ,.one .str],.one (.sh (.one .str)),run m_⟩ [s0 m_,s3 m_]:=fun _=>by kernel_rfl
def c:=co (k m_)
end MV

namespace OD
def O:OO P:=lH [O7.c m_,Np.c m_,MV.c m_]
def run:(List Int)×(List Int)×Unit->Option ((List Int)×Int×Unit):=fun v_=>match v_ with
|(key,block,())=>
 (O7.run m_ (key,block,())).bind fun r=>
 bif !(decide (r=0))then
  some (([]:List Int),r,())
 else
  (Np.run m_ (key,())).bind fun r1=>
  (MV.run m_ (r1,block,())).bind fun r2=>
  some (r2,0,())
theorem k:KT (O m_) [] ⟨149,[.one .str,.one .str],.iE [.sh (.one .str),.sh (.one (.int .i64))],run m_⟩ []:=fun _=>by kernel_rfl
def c:=co (k m_)
end OD

namespace NP
def O(m_:Dj):OO P:=lH []
def e0:Spec:=⟨[fs 136 [.q 116,.z 116,.b 0,.q 15] [(0,.s),(3,.oy 0),(4,.w)]],[(0,.c [.ry])],1⟩
def x0:List Spec:=[⟨[fs 136 [.q 15] [(0,.s),(3,.oy 0)]],[(0,.c [.ry])],1⟩]
abbrev A0:Type:=LI×Int×LI×Unit
abbrev B0:Type:=(LI×LI×Unit)
def b0(m_:Dj)(self:A0->Option B0):A0->Option B0:=fun v_=>match v_ with
|(b,i,m,())=>
 bif decide (i<16)then
  bif inB i (b.length:Int)then
  bif inB i (m.length:Int)then
  bif decide (i<15)then
   bif inB i ((m.set i.toNat (I9 .u8 (rd 0 b i) 1)).length:Int)then
   bif inB (ahk.wrap (i+1)) (b.length:Int)then
   bif inB i ((m.set i.toNat (I9 .u8 (rd 0 b i) 1)).length:Int)then
   self (b,(ahk.wrap (i+1)),((m.set i.toNat (I9 .u8 (rd 0 b i) 1)).set i.toNat (KO .u8 (rd 0 (m.set i.toNat (I9 .u8 (rd 0 b i) 1)) i) (I_ .u8 (rd 0 b (ahk.wrap (i+1))) 7))),())else none else none else none
  else
   self (b,(ahk.wrap (i+1)),(m.set i.toNat (I9 .u8 (rd 0 b i) 1)),())else none else none
 else
  some (b,m,())
theorem k0:KQ 136 (O m_) [] e0 x0 [] (b0 m_):=fun _ _=>by kernel_rfl
def l0:=loop m_ (b0 m_)
theorem q0(v):l0 .lim v=b0 .lim (l0 .lim) v:=KS.q (k0 .lim) v
def s0:=so m_ (k0 m_)
def run:(List Int)×Unit->Option (List Int):=fun v_=>match v_ with
|(b,())=>
 bif aio 16 70368744177664 then
 (NP.l0 m_ (b,0,(ahB 16 0),())).bind fun (b1,m,())=>
 bif inB 0 (b1.length:Int)then
 bif decide ((rd 0 b1 0)>=128)then
  bif inB 15 (m.length:Int)then
  bif inB 15 (m.length:Int)then
  some (m.set 15 (Hy .u8 (rd 0 m 15) 135))else none else none
 else
  some m else none else none
theorem k:KT (O m_) [] ⟨136,[.one .str],.one (.sh (.one .str)),run m_⟩ [s0 m_]:=fun _=>by kernel_rfl
def c:=co (k m_)
end NP

namespace NC
def O(m_:Dj):OO P:=lH []
def e0:Spec:=⟨[fs 108 [.q 116,.z 116,.b 0,.q 15] [(0,.s),(1,.s),(5,.oy 0),(6,.w)]],[(0,.c [.ry])],1⟩
def x0:List Spec:=[⟨[fs 108 [.q 15] [(5,.oy 0)]],[(0,.c [.ry])],1⟩]
abbrev A0:Type:=LI×LI×Int×LI×Unit
abbrev B0:Type:=(LI×Unit)
def b0(m_:Dj)(self:A0->Option B0):A0->Option B0:=fun v_=>match v_ with
|(a,b,i,m,())=>
 bif vT (a.length:Int)then
 bif decide (i<(a.length:Int))then
  bif inB i (a.length:Int)then
  bif inB i (b.length:Int)then
  bif inB i (m.length:Int)then
  self (a,b,(ahk.wrap (i+1)),(m.set i.toNat (Hy .u8 (rd 0 a i) (rd 0 b i))),())else none else none else none
 else
  some (m,())else none
theorem k0:KQ 108 (O m_) [] e0 x0 [] (b0 m_):=fun _ _=>by kernel_rfl
def l0:=loop m_ (b0 m_)
theorem q0(v):l0 .lim v=b0 .lim (l0 .lim) v:=KS.q (k0 .lim) v
def s0:=so m_ (k0 m_)
def run:(List Int)×(List Int)×Unit->Option (List Int):=fun v_=>match v_ with
|(a,b,())=>
 bif vT (a.length:Int)then
 bif(((decide (0<=(a.length:Int)))&&(decide ((a.length:Int)<=(a.length:Int))))&&(aio ((a.length:Int).toNat) 70368744177664))then
 (NC.l0 m_ (a,b,0,(ahB ((a.length:Int).toNat) 0),())).bind fun (m,())=>
 some m else none else none
theorem k:KT (O m_) [] ⟨108,[.one .str,.one .str],.one (.sh (.one .str)),run m_⟩ [s0 m_]:=fun _=>by kernel_rfl
def c:=co (k m_)
end NC

namespace O_
def O:OO P:=lH [Oo.c m_]
def run:(List Int)×Unit->Option (List Int):=fun v_=>match v_ with
|(s,())=>
 bif decide (s.length+([128]:List Int).length<=maxStr)then
 (Oo.run m_ (16,())).bind fun r=>
 bif decide ((s++([128]:List Int)).length+r.length<=maxStr)then
 bif sK 0 16 (((s++([128]:List Int))++r).length:Int)then
 some (cut ((s++([128]:List Int))++r) 0 16)else none else none else none
theorem k:KT (O m_) [] ⟨137,[.one .str],.one (.sh (.one .str)),run m_⟩ []:=fun _=>by kernel_rfl
def c:=co (k m_)
end O_

namespace NU
def O:OO P:=lH [NC.c m_,Oo.c m_,NP.c m_,O_.c m_,OD.c m_]
def e0:Spec:=⟨[fs 134 [.q 248,.z 248,.b 0,.q 63] [(0,.s),(1,.s),(7,.s),(8,.s)]],[],0⟩
def x0:List Spec:=[⟨[fs 134 [.q 63] [(0,.s),(1,.s),(7,.s),(8,.s)]],[],0⟩]
abbrev A0:Type:=LI×LI×LI×LI×Unit
abbrev B0:Type:=(LI×LI×LI×LI×Unit)
def b0(self:A0->Option B0):A0->Option B0:=fun v_=>match v_ with
|(key,s,k,x,())=>
 bif vT (s.length:Int)then
 bif decide ((s.length:Int)>16)then
  bif sK 0 16 (s.length:Int)then
  (NC.run m_ (x,(cut s 0 16),())).bind fun r=>
  (OD.run m_ (key,r,())).bind fun (r1,r2,())=>
  bif sK 16 (s.length:Int) (s.length:Int)then
  self (key,(cut s 16 (s.length:Int)),k,r1,())else none else none
 else
  some (key,s,k,x,())else none
theorem k0:KQ 134 (O m_) [] e0 x0 [] (b0 m_):=fun _ _=>by kernel_rfl
def l0:=loop m_ (b0 m_)
theorem q0(v):l0 .lim v=b0 .lim (l0 .lim) v:=KS.q (k0 .lim) v
def s0:=so m_ (k0 m_)
def run:(List Int)×(List Int)×Unit->Option (List Int):=fun v_=>match v_ with
|(key,s,())=>
 (Oo.run m_ (16,())).bind fun r=>
 (OD.run m_ (key,r,())).bind fun (r1,r2,())=>
 (NP.run m_ (r1,())).bind fun r3=>
 (Oo.run m_ (16,())).bind fun r4=>
 (NU.l0 m_ (key,s,r3,r4,())).bind fun (key1,s1,k,x,())=>
 bif vT (s1.length:Int)then
 bif decide ((s1.length:Int)<16)then
  (O_.run m_ (s1,())).bind fun r5=>
  (NP.run m_ (k,())).bind fun r6=>
  (NC.run m_ (x,r5,())).bind fun r7=>
  (NC.run m_ (r7,r6,())).bind fun r8=>
  (OD.run m_ (key1,r8,())).bind fun (r9,r10,())=>
  some r9
 else
  (NC.run m_ (x,s1,())).bind fun r11=>
  (NC.run m_ (r11,k,())).bind fun r12=>
  (OD.run m_ (key1,r12,())).bind fun (r13,r14,())=>
  some r13 else none
theorem k:KT (O m_) [] ⟨134,[.one .str,.one .str],.one (.sh (.one .str)),run m_⟩ [s0 m_]:=fun _=>by kernel_rfl
def c:=co (k m_)
end NU

namespace Oy
def O:OO P:=lH [NC.c m_,P6.c m_,NU.c m_,Oo.c m_,NP.c m_,O_.c m_]
def e0:Spec:=⟨[fs 106 [.q 1012,.z 1012,.b 0,.q 127] [(0,.s),(1,.t),(6,.s),(7,.w)]],[],0⟩
def x0:List Spec:=[⟨[fs 106 [.q 127] [(0,.s),(1,.t),(6,.s)]],[],0⟩]
abbrev A0:Type:=LI×LL×LI×Int×Unit
abbrev B0:Type:=(LI×LL×LI×Unit)
def b0(self:A0->Option B0):A0->Option B0:=fun v_=>match v_ with
|(key,l,d,i,())=>
 bif vT (l.length:Int)then
 bif decide (i<(ahk.wrap ((l.length:Int)-1)))then
  (NP.run m_ (d,())).bind fun r=>
  bif inB i (l.length:Int)then
  (NU.run m_ (key,(rd ([]:List Int) l i),())).bind fun r1=>
  (NC.run m_ (r,r1,())).bind fun r2=>
  self (key,l,r2,(ahk.wrap (i+1)),())else none
 else
  some (key,l,d,())else none
theorem k0:KQ 106 (O m_) [] e0 x0 [] (b0 m_):=fun _ _=>by kernel_rfl
def l0:=loop m_ (b0 m_)
theorem q0(v):l0 .lim v=b0 .lim (l0 .lim) v:=KS.q (k0 .lim) v
def s0:=so m_ (k0 m_)
def run:(List Int)×(List (List Int))×Unit->Option ((List Int)×Int×Unit):=fun v_=>match v_ with
|(key,l,())=>
 (P6.run m_ (key,())).bind fun r=>
 bif !r then
  some (([]:List Int),13,())
 else
  bif vT (l.length:Int)then
  bif decide ((l.length:Int)>127)then
   some (([]:List Int),18,())
  else
   bif vT (l.length:Int)then
   bif decide ((l.length:Int)=0)then
    (Oo.run m_ (15,())).bind fun r1=>
    bif decide (r1.length+([1]:List Int).length<=maxStr)then
    (NU.run m_ (key,(r1++([1]:List Int)),())).bind fun r2=>
    some (r2,0,())else none
   else
    (Oo.run m_ (16,())).bind fun r3=>
    (NU.run m_ (key,r3,())).bind fun r4=>
    (Oy.l0 m_ (key,l,r4,0,())).bind fun (key1,l1,d,())=>
    bif vT (l1.length:Int)then
    bif inB (ahk.wrap ((l1.length:Int)-1)) (l1.length:Int)then
    bif vT ((rd ([]:List Int) l1 (ahk.wrap ((l1.length:Int)-1))).length:Int)then
    bif decide (((rd ([]:List Int) l1 (ahk.wrap ((l1.length:Int)-1))).length:Int)<16)then
     (NP.run m_ (d,())).bind fun r5=>
     (O_.run m_ ((rd ([]:List Int) l1 (ahk.wrap ((l1.length:Int)-1))),())).bind fun r6=>
     (NC.run m_ (r5,r6,())).bind fun r7=>
     (NU.run m_ (key1,r7,())).bind fun r8=>
     some (r8,0,())
    else
     bif vT ((rd ([]:List Int) l1 (ahk.wrap ((l1.length:Int)-1))).length:Int)then
     bif sK 0 (ahk.wrap (((rd ([]:List Int) l1 (ahk.wrap ((l1.length:Int)-1))).length:Int)-16)) ((rd ([]:List Int) l1 (ahk.wrap ((l1.length:Int)-1))).length:Int)then
     bif sK (ahk.wrap (((rd ([]:List Int) l1 (ahk.wrap ((l1.length:Int)-1))).length:Int)-16)) ((rd ([]:List Int) l1 (ahk.wrap ((l1.length:Int)-1))).length:Int) ((rd ([]:List Int) l1 (ahk.wrap ((l1.length:Int)-1))).length:Int)then
     (NC.run m_ ((cut (rd ([]:List Int) l1 (ahk.wrap ((l1.length:Int)-1))) (ahk.wrap (((rd ([]:List Int) l1 (ahk.wrap ((l1.length:Int)-1))).length:Int)-16)) ((rd ([]:List Int) l1 (ahk.wrap ((l1.length:Int)-1))).length:Int)),d,())).bind fun r9=>
     bif decide ((cut (rd ([]:List Int) l1 (ahk.wrap ((l1.length:Int)-1))) 0 (ahk.wrap (((rd ([]:List Int) l1 (ahk.wrap ((l1.length:Int)-1))).length:Int)-16))).length+r9.length<=maxStr)then
     (NU.run m_ (key1,((cut (rd ([]:List Int) l1 (ahk.wrap ((l1.length:Int)-1))) 0 (ahk.wrap (((rd ([]:List Int) l1 (ahk.wrap ((l1.length:Int)-1))).length:Int)-16)))++r9),())).bind fun r10=>
     some (r10,0,())else none else none else none else none else none else none else none else none else none
theorem k:KT (O m_) [] ⟨106,[.one .str,.one (.lst .str)],.iE [.sh (.one .str),.sh (.one (.int .i64))],run m_⟩ [s0 m_]:=fun _=>by kernel_rfl
def c:=co (k m_)
end Oy

namespace PE
def O:OO P:=lH [Oy.c m_]
def run:(List Int)×(List (List Int))×(List Int)×Unit->Option (List Int):=fun v_=>match v_ with
|(key,ad,plain,())=>
 bif decide (ad.length<4398046511104)then
 bif decide (ad.length+([plain]:List (List Int)).length<4398046511104)then
 (Oy.run m_ (key,(ad++([plain]:List (List Int))),())).bind fun (r,r1,())=>
 some r else none else none
theorem k:KT (O m_) [] ⟨86,[.one .str,.one (.lst .str),.one .str],.one (.sh (.one .str)),run m_⟩ []:=fun _=>by kernel_rfl
def c:=co (k m_)
end PE

namespace ND
def O:OO P:=lH [O7.c m_,Np.c m_,MV.c m_]
def f0:gB:=fs 107 [.q 2040,.z 2040,.b 0,.q 511] [(2,.w),(9,.oy 0),(10,.oy 1),(11,.s)]
def e0:Spec:=⟨[fs 107 [.q 130604,.z 130604,.b 2,.b 1,.z 2040,.b 0,.q 511] [(2,.w),(9,.oy 0),(10,.oy 1),(11,.s),(12,.w)]],[(0,.c [.ry]),(1,.c [.ry])],2⟩
def x0:List Spec:=[⟨[f0],[(0,.c [.ry]),(1,.c [.ry])],2⟩]
abbrev A0:Type:=Int×LI×Int×LI×LI×Unit
abbrev B0:Type:=(Int×LI×LI×LI×Unit)
def b0(m_:Dj)(self:A0->Option B0):A0->Option B0:=fun v_=>match v_ with
|(n,out,i,m,m1,())=>
 bif decide (i>=0)then
  bif inB i (m1.length:Int)then
  bif inB i (m1.length:Int)then
  bif inB i ((m1.set i.toNat (ahF.wrap ((rd 0 m1 i)+1))).length:Int)then
  bif !(decide ((rd 0 (m1.set i.toNat (ahF.wrap ((rd 0 m1 i)+1))) i)=0))then
   some (n,out,m,(m1.set i.toNat (ahF.wrap ((rd 0 m1 i)+1))),())
  else
   self (n,out,(ahk.wrap (i-1)),m,(m1.set i.toNat (ahF.wrap ((rd 0 m1 i)+1))),())else none else none else none
 else
  some (n,out,m,m1,())
theorem k0:KQ 107 (O m_) [] e0 x0 [] (b0 m_):=fun _ _=>by kernel_rfl
def l0:=loop m_ (b0 m_)
theorem q0(v):l0 .lim v=b0 .lim (l0 .lim) v:=KS.q (k0 .lim) v
def s0:=so m_ (k0 m_)
def e1:Spec:=⟨[f0],[(0,.c [.ry]),(1,.c [.ry])],2⟩
def x1:List Spec:=[⟨[fs 107 [.q 511] [(2,.w),(11,.s)]],[],0⟩]
abbrev A1:Type:=Int×LI×LI×LI×Unit
abbrev B1:Type:=(Int×LI×Unit)
def b1(self:A1->Option B1):A1->Option B1:=fun v_=>match v_ with
|(n,out,m,m1,())=>
 bif vT (out.length:Int)then
 bif decide ((out.length:Int)<n)then
  (MV.run m_ (m,m1,())).bind fun r=>
  bif decide (out.length+r.length<=maxStr)then
  (ND.l0 m_ (n,(out++r),15,m,m1,())).bind fun (n1)=>
  self (n1)else none
 else
  some (n,out,())else none
theorem k1:KQ 107 (O m_) [] e1 x1 [s0 m_] (b1 m_):=fun _ _=>by kernel_rfl
def l1:=loop m_ (b1 m_)
theorem q1(v):l1 .lim v=b1 .lim (l1 .lim) v:=KS.q (k1 .lim) v
def s1:=so m_ (k1 m_)
def run:(List Int)×(List Int)×Int×Unit->Option ((List Int)×Int×Unit):=fun v_=>match v_ with
|(key,first,n,())=>
 bif((decide (n<0))||(decide (n>65536)))then
  some (([]:List Int),13,())
 else
  (O7.run m_ (key,first,())).bind fun r=>
  bif !(decide (r=0))then
   some (([]:List Int),r,())
  else
   (Np.run m_ (key,())).bind fun r1=>
   (ND.l1 m_ (n,([]:List Int),r1,first,())).bind fun (n1,out,())=>
   bif sK 0 n1 (out.length:Int)then
   some ((cut out 0 n1),0,())else none
theorem k:KT (O m_) [] ⟨107,[.one .str,.one .str,.one (.int .i64)],.iE [.sh (.one .str),.sh (.one (.int .i64))],run m_⟩ [s1 m_]:=fun _=>by kernel_rfl
def c:=co (k m_)
end ND

namespace OJ
def O:OO P:=lH [ND.c m_,NC.c m_]
def run:(List Int)×(List Int)×(List Int)×Unit->Option (List Int):=fun v_=>match v_ with
|(key,v,s,())=>
 bif inB 8 (v.length:Int)then
 bif inB 8 (v.length:Int)then
 bif inB 12 ((v.set 8 (I8 .u8 (rd 0 v 8) 127)).length:Int)then
 bif inB 12 ((v.set 8 (I8 .u8 (rd 0 v 8) 127)).length:Int)then
 bif vT (s.length:Int)then
 (ND.run m_ (key,((v.set 8 (I8 .u8 (rd 0 v 8) 127)).set 12 (I8 .u8 (rd 0 (v.set 8 (I8 .u8 (rd 0 v 8) 127)) 12) 127)),(s.length:Int),())).bind fun (r,r1,())=>
 (NC.run m_ (s,r,())).bind fun r2=>
 some r2 else none else none else none else none else none
theorem k:KT (O m_) [] ⟨87,[.one .str,.one .str,.one .str],.one (.sh (.one .str)),run m_⟩ []:=fun _=>by kernel_rfl
def c:=co (k m_)
end OJ

namespace Qg
def O:OO P:=lH [OZ.c m_,PE.c m_,OJ.c m_]
def run:(List Int)×(List (List Int))×(List Int)×Unit->Option ((List Int)×Int×Unit):=fun v_=>match v_ with
|(key,ad,plain,())=>
 (OZ.run m_ (key,ad,())).bind fun r=>
 bif !(decide (r=0))then
  some (([]:List Int),r,())
 else
  bif vT (plain.length:Int)then
  bif decide ((plain.length:Int)>65536)then
   some (([]:List Int),12,())
  else
   bif vT (key.length:Int)then
   bif sK 0 (ahk.wrap ((key.length:Int).tdiv 2)) (key.length:Int)then
   (PE.run m_ ((cut key 0 (ahk.wrap ((key.length:Int).tdiv 2))),ad,plain,())).bind fun r1=>
   bif sK (ahk.wrap ((key.length:Int).tdiv 2)) (key.length:Int) (key.length:Int)then
   (OJ.run m_ ((cut key (ahk.wrap ((key.length:Int).tdiv 2)) (key.length:Int)),r1,plain,())).bind fun r2=>
   bif decide (r1.length+r2.length<=maxStr)then
   some ((r1++r2),0,())else none else none else none else none else none
theorem k:KT (O m_) [] ⟨64,[.one .str,.one (.lst .str),.one .str],.iE [.sh (.one .str),.sh (.one (.int .i64))],run m_⟩ []:=fun _=>by kernel_rfl
def c:=co (k m_)
end Qg

namespace O1
def O(m_:Dj):OO P:=lH []
def run(m_:Dj):(List Int)×(List (List Int))×Int×Unit->Option (Int):=fun v_=>match v_ with
|(key,ad,n,())=>
 bif vT (key.length:Int)then
 bif((!(!(decide ((key.length:Int)=32))))||(vT (key.length:Int)))then
 bif((!(decide ((key.length:Int)=32)))&&(!(decide ((key.length:Int)=64))))then
  some 13
 else
  bif vT (ad.length:Int)then
  bif decide ((ad.length:Int)>126)then
   some 18
  else
   bif decide (n>65536)then
    some 12
   else
    some 0 else none else none else none
theorem k:KT (O m_) [] ⟨65,[.one .str,.one (.lst .str),.one (.int .i64)],.one (.sh (.one (.int .i64))),run m_⟩ []:=fun _=>by kernel_rfl
def c:=co (k m_)
end O1

namespace NV
def O:OO P:=lH [Ox.c m_,Og.c m_,Qg.c m_,O1.c m_]
def o0:dJ:= .c [.b,.dat TS]
def o1:dJ:= .c [.s,.own 3 .str,.s,.s]
def e0:Spec:=⟨[fs 33 [.q 2036,.z 2036,.b 0,.q 255] [(3,.s),(4,.ptr 0 0),(8,.ptr 1 0),(14,.ptr 2 0),(15,.w)]],[(0,o0),(1,.c [.b,.CG]),(2,o1),(3,.c [.row .str])],4⟩
def x0:List Spec:=[⟨[fs 33 [.q 130341,.b 1,.q 8147,.z 2036,.b 0,.q 255] [(8,.ptr 0 0),(9,.s),(10,.w)]],[(0,o0)],1⟩,⟨[fs 33 [.q 255] [(3,.s),(4,.ptr 0 0),(8,.ptr 1 0),(14,.ptr 2 0)]],[(0,o0),(1,.c [.b,.CG]),(2,o1),(3,.c [.row .str])],4⟩]
abbrev A0:Type:=LI×Int×Bool×(List (List Int×(List LI×(List Int×List Int))))×Bool×LI×LI×LI×LL×Unit
abbrev B0:Type:=(LI×Int×Bool×(List (List Int×(List LI×(List Int×List Int))))×Unit) ⊕ (LI×Bool×(List (List Int×(List LI×(List Int×List Int))))×Bool×LI×LI×LI×LL×Unit)
def b0(self:A0->Option B0):A0->Option B0:=fun v_=>match v_ with
|(plain,i,m,m1,m2,m3,m4,m5,m6,())=>
 bif vT (m1.length:Int)then
 bif decide (i<(m1.length:Int))then
  bif inB i (m1.length:Int)then
  (Ox.run m_ ((m3,(m6,(m4,m5))),(rd PN m1 i),())).bind fun r=>
  bif r then
   bif inB i (m1.length:Int)then
   some (.inl ((((rd PN m1 i).2).2).2,0,m,m1,()))else none
  else
   self (plain,(ahk.wrap (i+1)),m,m1,m2,m3,m4,m5,m6,())else none
 else
  some (.inr (plain,m,m1,m2,m3,m4,m5,m6,()))else none
theorem k0:KQ 33 (O m_) [] e0 x0 [] (b0 m_):=fun _ _=>by kernel_rfl
def l0:=loop m_ (b0 m_)
theorem q0(v):l0 .lim v=b0 .lim (l0 .lim) v:=KS.q (k0 .lim) v
def s0:=so m_ (k0 m_)
def run:QD×(List Int)×(List (List Int))×(List Int)×Unit->Option (QD×(List Int)×Int×Unit):=fun v_=>match v_ with
|(v,key,ad,plain,())=>
 bif !v.1 then
  (Qg.run m_ (key,ad,plain,())).bind fun (r,r1,())=>
  some (v,r,r1,())
 else
  bif vT (plain.length:Int)then
  (O1.run m_ (key,ad,(plain.length:Int),())).bind fun r2=>
  bif !(decide (r2=0))then
   some (v,([]:List Int),r2,())
  else
   bif decide (ad.length<4398046511104)then
   (NV.l0 m_ (plain,0,v.1,v.2,false,key,plain,([]:List Int),ad,())).bind fun g_=>match g_ with
   | .inl (t,t1,m,m1,())=>
    some ((m,m1),t,t1,())
   | .inr (YN,m2,m3,m4,m5,m6,m7,m8,())=>
    bif vT (m3.length:Int)then
    bif decide ((m3.length:Int)>=2048)then
     some ((m2,m3),([]:List Int),18,())
    else
     bif vT (m3.length:Int)then
     (Og.run m_ ((ahk.wrap ((m3.length:Int)+1)),YN,())).bind fun r3=>
     bif decide (m3.length<977343669134)then
     bif decide (m3.length+([(m5,(m8,(m6,r3)))]:List TT).length<977343669134)then
     some ((m2,(m3++([(m5,(m8,(m6,r3)))]:List TT))),r3,0,())else none else none else none else none else none else none
theorem k:KT (O m_) [] ⟨33,[.ag QE,.one .str,.one (.lst .str),.one .str],.iE [.sh (.ag QE),.sh (.one .str),.sh (.one (.int .i64))],run m_⟩ [s0 m_]:=fun _=>by kernel_rfl
def c:=co (k m_)
end NV

namespace Qi
def O:OO P:=lH [O4.c m_,Qm.c m_,NV.c m_,OX.c m_]
def run:QD×Vt×(Int×(List Int×List Int))×(List Int)×Unit->Option (QD×(List Int)×Int×Unit):=fun v_=>match v_ with
|(v,r,k,MZ,())=>
 (O4.run m_ (k,())).bind fun r1=>
 bif !r1 then
  some (v,([]:List Int),13,())
 else
  bif vT (MZ.length:Int)then
  bif !(decide ((MZ.length:Int)=16))then
   some (v,([]:List Int),10,())
  else
   bif vT (r.1.length:Int)then
   bif inB (ahk.wrap ((r.1.length:Int)-1)) (r.1.length:Int)then
   (Qm.run m_ ((rd ((0:Int),(([]:List Int),(0:Int))) r.1 (ahk.wrap ((r.1.length:Int)-1))).1,())).bind fun r2=>
   (OX.run m_ (k,())).bind fun r3=>
   (NV.run m_ (v,((rd ((0:Int),(([]:List Int),(0:Int))) r.1 (ahk.wrap ((r.1.length:Int)-1))).2).1,([r2,MZ]:List (List Int)),r3,())).bind fun (r4,r5,r6,())=>
   bif !(decide (r6=0))then
    some (v,([]:List Int),r6,())
   else
    bif decide (r2.length+MZ.length<=maxStr)then
    bif decide ((r2++MZ).length+r5.length<=maxStr)then
    some (r4,((r2++MZ)++r5),0,())else none else none else none else none else none
theorem k:KT (O m_) [] ⟨10,[.ag QE,.ag Vq,.ag YU,.one .str],.iE [.sh (.ag QE),.sh (.one .str),.sh (.one (.int .i64))],run m_⟩ []:=fun _=>by kernel_rfl
def c:=co (k m_)
end Qi

namespace Nk
def O(m_:Dj):OO P:=lH []
def e0:Spec:=⟨[fs 35 [.q 116,.z 116,.b 0,.q 15] [(0,.dat QA),(1,.w),(5,.own 5012 (.int .i64)),(6,.w)]],[(5012,.c [.row (.int .i64)])],5013⟩
def x0:List Spec:=[⟨[fs 35 [.q 15] [(5,.own 0 (.int .i64))]],[(0,.c [.row (.int .i64)])],1⟩]
abbrev A0:Type:=(List (Int×List Int))×Int×Int×LI×Unit
abbrev B0:Type:=(LI×Unit)
def b0(m_:Dj)(self:A0->Option B0):A0->Option B0:=fun v_=>match v_ with
|(l,kind,i,m,())=>
 bif vT (l.length:Int)then
 bif decide (i<(l.length:Int))then
  bif inB i (l.length:Int)then
  bif decide (((rd ((0:Int),([]:List Int)) l i).1)=kind)then
   bif decide (m.length+([i]:List Int).length<8796093022208)then
   self (l,kind,(ahk.wrap (i+1)),(m++([i]:List Int)),())else none
  else
   self (l,kind,(ahk.wrap (i+1)),m,())else none
 else
  some (m,())else none
theorem k0:KQ 35 (O m_) [] e0 x0 [] (b0 m_):=fun _ _=>by kernel_rfl
def l0:=loop m_ (b0 m_)
theorem q0(v):l0 .lim v=b0 .lim (l0 .lim) v:=KS.q (k0 .lim) v
def s0:=so m_ (k0 m_)
def run:(List (Int×List Int))×Int×Unit->Option (List Int):=fun v_=>match v_ with
|(l,kind,())=>
 (Nk.l0 m_ (l,kind,0,([]:List Int),())).bind fun (m,())=>
 some m
theorem k:KT (O m_) [] ⟨35,[.one QA,.one (.int .i64)],.one (.own (.int .i64)),run m_⟩ [s0 m_]:=fun _=>by kernel_rfl
def c:=co (k m_)
end Nk

namespace PV
def O(m_:Dj):OO P:=lH []
def run(m_:Dj):Int×Unit->Option (List Int):=fun v_=>match v_ with
|(n,())=>
 some ([(ahF.wrap (ahk.wrap (n.tdiv 256))),(ahF.wrap (n.tmod 256))]:List Int)
theorem k:KT (O m_) [] ⟨66,[.one (.int .i64)],.one (.sh (.one .str)),run m_⟩ []:=fun _=>by kernel_rfl
def c:=co (k m_)
end PV

namespace NZ
def O(m_:Dj):OO P:=lH []
def e0:Spec:=⟨[fs 67 [.q 24,.z 24,.b 0,.q 7] [(0,.s)]],[],0⟩
def x0:List Spec:=[⟨[fs 67 [.q 7] [(0,.s)]],[],0⟩]
abbrev A0:Type:=LI×Unit
abbrev B0:Type:=(LI×Unit)
def b0(m_:Dj)(self:A0->Option B0):A0->Option B0:=fun v_=>match v_ with
|(s,())=>
 bif vT (s.length:Int)then
 bif !(decide (((s.length:Int).tmod 4)=0))then
  bif decide (s.length+([0]:List Int).length<=maxStr)then
  self ((s++([0]:List Int)),())else none
 else
  some (s,())else none
theorem k0:KQ 67 (O m_) [] e0 x0 [] (b0 m_):=fun _ _=>by kernel_rfl
def l0:=loop m_ (b0 m_)
theorem q0(v):l0 .lim v=b0 .lim (l0 .lim) v:=KS.q (k0 .lim) v
def s0:=so m_ (k0 m_)
def run:(List Int)×Unit->Option (List Int):=fun v_=>match v_ with
|(s,())=>
 (NZ.l0 m_ (s,())).bind fun (s1,())=>
 some s1
theorem k:KT (O m_) [] ⟨67,[.one .str],.one (.sh (.one .str)),run m_⟩ [s0 m_]:=fun _=>by kernel_rfl
def c:=co (k m_)
end NZ

namespace Qh
def O:OO P:=lH [NV.c m_,NI.c m_,PV.c m_,NZ.c m_]
def run:QD×(List Int)×(List Int)×(List Int)×(List (Int×List Int))×Unit->Option (QD×(Int×List Int)×Int×Unit):=fun v_=>match v_ with
|(v,key,MZ,ahead,inner,())=>
 bif vT (MZ.length:Int)then
 bif !(decide ((MZ.length:Int)=16))then
  some (v,(0,([]:List Int)),10,())
 else
  bif vT (ahead.length:Int)then
  bif decide ((ahead.length:Int)>1280)then
   some (v,(0,([]:List Int)),12,())
  else
   (NI.run m_ (inner,())).bind fun (r,r1,())=>
   bif !(decide (r1=0))then
    some (v,(0,([]:List Int)),r1,())
   else
    (NV.run m_ (v,key,([ahead,MZ]:List (List Int)),r,())).bind fun (r2,r3,r4,())=>
    bif !(decide (r4=0))then
     some (v,(0,([]:List Int)),r4,())
    else
     (PV.run m_ (16,())).bind fun r5=>
     bif vT (r3.length:Int)then
     (PV.run m_ ((r3.length:Int),())).bind fun r6=>
     bif decide (r5.length+r6.length<=maxStr)then
     bif decide ((r5++r6).length+MZ.length<=maxStr)then
     (NZ.run m_ (r3,())).bind fun r7=>
     bif decide (((r5++r6)++MZ).length+r7.length<=maxStr)then
     some (r2,(1028,(((r5++r6)++MZ)++r7)),0,())else none else none else none else none else none else none
theorem k:KT (O m_) [] ⟨36,[.ag QE,.one .str,.one .str,.one .str,.one QA],.iE [.sh (.ag QE),.sh (.ag Yx),.sh (.one (.int .i64))],run m_⟩ []:=fun _=>by kernel_rfl
def c:=co (k m_)
end Qh

namespace Ot
def O:OO P:=lH [Ob.c m_,Nk.c m_,Qh.c m_]
def run:QD×DT2×(List Int)×(List Int)×(List (Int×List Int))×Unit->Option (QD×(List Int)×Int×Unit):=fun v_=>match v_ with
|(v,p,key,MZ,inner,())=>
 (Nk.run m_ (p.2.2.2.2.2.2.2.2.2.2.2.2.2,1028,())).bind fun r=>
 bif vT (r.length:Int)then
 bif decide ((r.length:Int)>0)then
  some (v,([]:List Int),23,())
 else
  (Ob.run m_ (p,())).bind fun (r1,r2,())=>
  bif !(decide (r2=0))then
   some (v,([]:List Int),r2,())
  else
   (Qh.run m_ (v,key,MZ,r1,inner,())).bind fun (r3,r4,r5,())=>
   bif !(decide (r5=0))then
    some (v,([]:List Int),r5,())
   else
    bif decide (p.2.2.2.2.2.2.2.2.2.2.2.2.2.length<2932031007402)then
    bif decide (p.2.2.2.2.2.2.2.2.2.2.2.2.2.length+([r4]:List (Int×List Int)).length<2932031007402)then
    (Ob.run m_ ((p.1,(p.2.1,(p.2.2.1,(p.2.2.2.1,(p.2.2.2.2.1,(p.2.2.2.2.2.1,(p.2.2.2.2.2.2.1,(p.2.2.2.2.2.2.2.1,(p.2.2.2.2.2.2.2.2.1,(p.2.2.2.2.2.2.2.2.2.1,(p.2.2.2.2.2.2.2.2.2.2.1,(p.2.2.2.2.2.2.2.2.2.2.2.1,(p.2.2.2.2.2.2.2.2.2.2.2.2.1,(p.2.2.2.2.2.2.2.2.2.2.2.2.2++([r4]:List (Int×List Int)))))))))))))))),())).bind fun (r6,r7,())=>
    bif !(decide (r7=0))then
     some (v,([]:List Int),r7,())
    else
     some (r3,r6,0,())else none else none else none
theorem k:KT (O m_) [] ⟨11,[.ag QE,.ag YV,.one .str,.one .str,.one QA],.iE [.sh (.ag QE),.sh (.one .str),.sh (.one (.int .i64))],run m_⟩ []:=fun _=>by kernel_rfl
def c:=co (k m_)
end Ot

namespace PI
def O:OO P:=lH [NZ.c m_]
def run:(List Int)×Unit->Option ((List Int)×(List Int)×Int×Unit):=fun v_=>match v_ with
|(body,())=>
 bif vT (body.length:Int)then
 bif decide ((body.length:Int)<4)then
  some (([]:List Int),([]:List Int),11,())
 else
  bif inB 0 (body.length:Int)then
  bif inB 1 (body.length:Int)then
  bif inB 2 (body.length:Int)then
  bif inB 3 (body.length:Int)then
  bif((!(!(!(decide ((ahk.wrap ((ahk.wrap ((ahk.wrap (rd 0 body 0))*256))+(ahk.wrap (rd 0 body 1))))=16)))))||(vT (body.length:Int)))then
  bif((!(decide ((ahk.wrap ((ahk.wrap ((ahk.wrap (rd 0 body 0))*256))+(ahk.wrap (rd 0 body 1))))=16)))||(decide ((body.length:Int)<(ahk.wrap ((ahk.wrap (4+(ahk.wrap ((ahk.wrap ((ahk.wrap (rd 0 body 0))*256))+(ahk.wrap (rd 0 body 1))))))+(ahk.wrap ((ahk.wrap ((ahk.wrap (rd 0 body 2))*256))+(ahk.wrap (rd 0 body 3)))))))))then
   some (([]:List Int),([]:List Int),10,())
  else
   bif sK (ahk.wrap (4+(ahk.wrap ((ahk.wrap ((ahk.wrap (rd 0 body 0))*256))+(ahk.wrap (rd 0 body 1)))))) (ahk.wrap ((ahk.wrap (4+(ahk.wrap ((ahk.wrap ((ahk.wrap (rd 0 body 0))*256))+(ahk.wrap (rd 0 body 1))))))+(ahk.wrap ((ahk.wrap ((ahk.wrap (rd 0 body 2))*256))+(ahk.wrap (rd 0 body 3)))))) (body.length:Int)then
   bif sK (ahk.wrap (4+(ahk.wrap ((ahk.wrap ((ahk.wrap (rd 0 body 0))*256))+(ahk.wrap (rd 0 body 1)))))) (body.length:Int) (body.length:Int)then
   (NZ.run m_ ((cut body (ahk.wrap (4+(ahk.wrap ((ahk.wrap ((ahk.wrap (rd 0 body 0))*256))+(ahk.wrap (rd 0 body 1)))))) (ahk.wrap ((ahk.wrap (4+(ahk.wrap ((ahk.wrap ((ahk.wrap (rd 0 body 0))*256))+(ahk.wrap (rd 0 body 1))))))+(ahk.wrap ((ahk.wrap ((ahk.wrap (rd 0 body 2))*256))+(ahk.wrap (rd 0 body 3))))))),())).bind fun r=>
   bif !(decide ((cut body (ahk.wrap (4+(ahk.wrap ((ahk.wrap ((ahk.wrap (rd 0 body 0))*256))+(ahk.wrap (rd 0 body 1)))))) (body.length:Int))=r))then
    some (([]:List Int),([]:List Int),10,())
   else
    bif sK 4 (ahk.wrap (4+(ahk.wrap ((ahk.wrap ((ahk.wrap (rd 0 body 0))*256))+(ahk.wrap (rd 0 body 1)))))) (body.length:Int)then
    some ((cut body 4 (ahk.wrap (4+(ahk.wrap ((ahk.wrap ((ahk.wrap (rd 0 body 0))*256))+(ahk.wrap (rd 0 body 1))))))),(cut body (ahk.wrap (4+(ahk.wrap ((ahk.wrap ((ahk.wrap (rd 0 body 0))*256))+(ahk.wrap (rd 0 body 1)))))) (ahk.wrap ((ahk.wrap (4+(ahk.wrap ((ahk.wrap ((ahk.wrap (rd 0 body 0))*256))+(ahk.wrap (rd 0 body 1))))))+(ahk.wrap ((ahk.wrap ((ahk.wrap (rd 0 body 2))*256))+(ahk.wrap (rd 0 body 3))))))),0,())else none else none else none else none else none else none else none else none else none
theorem k:KT (O m_) [] ⟨46,[.one .str],.iE [.sh (.one .str),.sh (.one .str),.sh (.one (.int .i64))],run m_⟩ []:=fun v_=>match v_ with|(body,())=>by kernel_rfl
def c:=co (k m_)
end PI

namespace Qe
def O:OO P:=lH [OZ.c m_,PE.c m_,OJ.c m_]
def run:(List Int)×(List (List Int))×(List Int)×Unit->Option ((List Int)×Int×Unit):=fun v_=>match v_ with
|(key,ad,sealed,())=>
 (OZ.run m_ (key,ad,())).bind fun r=>
 bif !(decide (r=0))then
  some (([]:List Int),r,())
 else
  bif vT (sealed.length:Int)then
  bif decide ((sealed.length:Int)<16)then
   some (([]:List Int),11,())
  else
   bif vT (sealed.length:Int)then
   bif decide ((sealed.length:Int)>65552)then
    some (([]:List Int),12,())
   else
    bif vT (key.length:Int)then
    bif sK 0 16 (sealed.length:Int)then
    bif sK (ahk.wrap ((key.length:Int).tdiv 2)) (key.length:Int) (key.length:Int)then
    bif sK 16 (sealed.length:Int) (sealed.length:Int)then
    (OJ.run m_ ((cut key (ahk.wrap ((key.length:Int).tdiv 2)) (key.length:Int)),(cut sealed 0 16),(cut sealed 16 (sealed.length:Int)),())).bind fun r1=>
    bif sK 0 (ahk.wrap ((key.length:Int).tdiv 2)) (key.length:Int)then
    (PE.run m_ ((cut key 0 (ahk.wrap ((key.length:Int).tdiv 2))),ad,r1,())).bind fun r2=>
    bif !(decide (r2=(cut sealed 0 16)))then
     some (([]:List Int),17,())
    else
     some (r1,0,())else none else none else none else none else none else none else none
theorem k:KT (O m_) [] ⟨81,[.one .str,.one (.lst .str),.one .str],.iE [.sh (.one .str),.sh (.one (.int .i64))],run m_⟩ []:=fun _=>by kernel_rfl
def c:=co (k m_)
end Qe

namespace NR
def O:OO P:=lH [O1.c m_,Qe.c m_,Oc.c m_]
def e0:Spec:=⟨[fs 47 [.q 2036,.z 2036,.b 0,.q 255] [(1,.s),(2,.t),(3,.s),(4,.ptr 0 0),(11,.w)]],[(0,.c [.b,.dat TS])],1⟩
def x0:List Spec:=[⟨[fs 47 [.q 260685,.b 1,.q 8147,.z 2036,.b 0,.q 255] [(8,.s),(9,.w)]],[],0⟩,⟨[fs 47 [.q 255] []],[],0⟩]
abbrev A0:Type:=LI×LL×LI×Int×Bool×(List (List Int×(List LI×(List Int×List Int))))×Unit
abbrev B0:Type:=(LI×Int×Unit) ⊕ (Unit)
def b0(self:A0->Option B0):A0->Option B0:=fun v_=>match v_ with
|(key,ad,sealed,i,m,m1,())=>
 bif vT (m1.length:Int)then
 bif decide (i<(m1.length:Int))then
  bif inB i (m1.length:Int)then
  ((bif((decide (((((rd PN m1 i).2).2).2)=sealed))&&(decide (((rd PN m1 i).1)=key)))then Oc.run m_ (((rd PN m1 i).2).1,ad,())else some false)).bind fun r=>
  bif(((decide (((((rd PN m1 i).2).2).2)=sealed))&&(decide (((rd PN m1 i).1)=key)))&&r)then
   some (.inl ((((rd PN m1 i).2).2).1,0,()))
  else
   self (key,ad,sealed,(ahk.wrap (i+1)),m,m1,())else none
 else
  some (.inr (()))else none
theorem k0:KQ 47 (O m_) [] e0 x0 [] (b0 m_):=fun _ _=>by kernel_rfl
def l0:=loop m_ (b0 m_)
theorem q0(v):l0 .lim v=b0 .lim (l0 .lim) v:=KS.q (k0 .lim) v
def s0:=so m_ (k0 m_)
def run:QD×(List Int)×(List (List Int))×(List Int)×Unit->Option ((List Int)×Int×Unit):=fun v_=>match v_ with
|(v,key,ad,sealed,())=>
 bif !v.1 then
  (Qe.run m_ (key,ad,sealed,())).bind fun (r,r1,())=>
  some (r,r1,())
 else
  (O1.run m_ (key,ad,0,())).bind fun r2=>
  bif !(decide (r2=0))then
   some (([]:List Int),r2,())
  else
   bif vT (sealed.length:Int)then
   bif decide ((sealed.length:Int)<16)then
    some (([]:List Int),11,())
   else
    bif vT (sealed.length:Int)then
    bif decide ((sealed.length:Int)>65552)then
     some (([]:List Int),12,())
    else
     (NR.l0 m_ (key,ad,sealed,0,v.1,v.2,())).bind fun g_=>match g_ with
     | .inl (t,t1,())=>
      some (t,t1,())
     | .inr (())=>
      some (([]:List Int),17,())else none else none
theorem k:KT (O m_) [] ⟨47,[.ag QE,.one .str,.one (.lst .str),.one .str],.iE [.sh (.one .str),.sh (.one (.int .i64))],run m_⟩ [s0 m_]:=fun _=>by kernel_rfl
def c:=co (k m_)
end NR

namespace NJ
def O:OO P:=lH [OL.c m_,Nk.c m_,PI.c m_,NR.c m_,NH.c m_]
def o0:dJ:= .c [.b,.dat TS]
def o1:dJ:= .c [.w,.w,.w,.w,.w,.w,.dat (.int .u32),.dat (.int .u32),.dat (.int .u32),.u,.u,.u,.u,.CG,.CG,.CG]
def o2:dJ:= .c [.w,.w,.w,.w,.w,.w,.dat (.int .u32),.dat (.int .u32),.dat (.int .u32),.u,.u,.u,.u,.dat QA]
def e0:Spec:=⟨[fs 15 [.q 2036,.z 2036,.b 0,.q 255] [(1,.s),(2,.s),(3,.ptr 0 0),(6,.ptr 1 0),(8,.ptr 2 0),(10,.own 3 (.int .i64)),(11,.w),(12,.w)]],[(0,o0),(1,o1),(2,o2),(3,.c [.row (.int .i64)])],4⟩
def x0:List Spec:=[⟨[fs 15 [.q 255] [(1,.s),(2,.s),(3,.ptr 0 0),(6,.ptr 1 0),(8,.ptr 2 0),(10,.own 3 (.int .i64)),(11,.w)]],[(0,o0),(1,o1),(2,o2),(3,.c [.row (.int .i64)])],4⟩]
abbrev A0:Type:=LI×LI×Int×Int×Bool×(List (List Int×(List LI×(List Int×List Int))))×Int×Int×Int×Int×Int×Int×Int×Int×Int×Int×Int×Int×Int×Int×Int×Int×Int×Int×Int×Int×Int×Int×Int×Int×Int×Int×(List (Int×List Int))×LI×Unit
abbrev B0:Type:=(LI×LI×Int×Bool×(List (List Int×(List LI×(List Int×List Int))))×Int×Int×Int×Int×Int×Int×Int×Int×Int×Int×Int×Int×Int×Int×Int×Int×Int×Int×Int×Int×Int×Int×Int×Int×Int×Int×(List (Int×List Int))×LI×Unit)
def b0(m_:Dj)(self:A0->Option B0):A0->Option B0:=fun v_=>match v_ with
|(s,key,n,i,m,m1,m2,m3,m4,m5,m6,m7,m8,m9,m10,m11,m12,m13,m14,m15,m16,m17,m18,m19,m20,m21,m22,m23,m24,SN,RZ,TK,RX,Tv,())=>
 bif inB 0 (Tv.length:Int)then
 bif decide (i<(rd 0 Tv 0))then
  bif inB i (RX.length:Int)then
  bif vT (((rd ((0:Int),([]:List Int)) RX i).2).length:Int)then
  self (s,key,(ahk.wrap ((ahk.wrap (n+4))+(((rd ((0:Int),([]:List Int)) RX i).2).length:Int))),(ahk.wrap (i+1)),m,m1,m2,m3,m4,m5,m6,m7,m8,m9,m10,m11,m12,m13,m14,m15,m16,m17,m18,m19,m20,m21,m22,m23,m24,SN,RZ,TK,RX,Tv,())else none else none
 else
  some (s,key,n,m,m1,m2,m3,m4,m5,m6,m7,m8,m9,m10,m11,m12,m13,m14,m15,m16,m17,m18,m19,m20,m21,m22,m23,m24,SN,RZ,TK,RX,Tv,())else none
theorem k0:KQ 15 (O m_) [] e0 x0 [] (b0 m_):=fun _ _=>by kernel_rfl
def l0:=loop m_ (b0 m_)
theorem q0(v):l0 .lim v=b0 .lim (l0 .lim) v:=KS.q (k0 .lim) v
def s0:=so m_ (k0 m_)
def run:QD×(List Int)×(List Int)×Unit->Option ((DT2×(List (Int×List Int)×List (Int×List Int)))×Int×Unit):=fun v_=>match v_ with
|(v,s,key,())=>
 (OL.run m_ (s,())).bind fun (r,r1,())=>
 bif !(decide (r1=0))then
  some (((0,(0,(0,(0,(0,(0,(0,(0,(0,(0,(0,(0,(0,([]:List (Int×List Int))))))))))))))),Xq),r1,())
 else
  (Nk.run m_ (r.2.2.2.2.2.2.2.2.2.2.2.2.2,1028,())).bind fun r2=>
  bif vT (r2.length:Int)then
  bif decide ((r2.length:Int)=0)then
   some (((0,(0,(0,(0,(0,(0,(0,(0,(0,(0,(0,(0,(0,([]:List (Int×List Int))))))))))))))),Xq),19,())
  else
   (NJ.l0 m_ (s,key,48,0,v.1,v.2,0,0,0,0,0,0,0,0,0,0,0,0,0,r.1,r.2.1,r.2.2.1,r.2.2.2.1,r.2.2.2.2.1,r.2.2.2.2.2.1,r.2.2.2.2.2.2.1,r.2.2.2.2.2.2.2.1,r.2.2.2.2.2.2.2.2.1,r.2.2.2.2.2.2.2.2.2.1,r.2.2.2.2.2.2.2.2.2.2.1,r.2.2.2.2.2.2.2.2.2.2.2.1,r.2.2.2.2.2.2.2.2.2.2.2.2.1,r.2.2.2.2.2.2.2.2.2.2.2.2.2,r2,())).bind fun (s1,key1,n,m,m1,m2,m3,m4,m5,m6,m7,m8,m9,m10,m11,m12,m13,m14,m15,m16,m17,m18,m19,m20,m21,m22,m23,m24,SN,RZ,TK,RX,Tv,())=>
   bif inB 0 (Tv.length:Int)then
   bif inB (rd 0 Tv 0) (RX.length:Int)then
   (PI.run m_ ((rd ((0:Int),([]:List Int)) RX (rd 0 Tv 0)).2,())).bind fun (r3,r4,r5,())=>
   bif !(decide (r5=0))then
    some (((0,(0,(0,(0,(0,(0,(0,(0,(0,(0,(0,(0,(0,([]:List (Int×List Int))))))))))))))),Xq),r5,())
   else
    bif sK 0 n (s1.length:Int)then
    (NR.run m_ ((m,m1),key1,([(cut s1 0 n),r3]:List (List Int)),r4,())).bind fun (r6,r7,())=>
    bif !(decide (r7=0))then
     some (((0,(0,(0,(0,(0,(0,(0,(0,(0,(0,(0,(0,(0,([]:List (Int×List Int))))))))))))))),Xq),r7,())
    else
     (NH.run m_ (r6,())).bind fun (r8,r9,())=>
     bif !(decide (r9=0))then
      some (((0,(0,(0,(0,(0,(0,(0,(0,(0,(0,(0,(0,(0,([]:List (Int×List Int))))))))))))))),Xq),r9,())
     else
      bif inB 0 (Tv.length:Int)then
      bif sK 0 (rd 0 Tv 0) (RX.length:Int)then
      some (((m15,(m16,(m17,(m18,(m19,(m20,(m21,(m22,(m23,(m24,(SN,(RZ,(TK,([]:List (Int×List Int))))))))))))))),((cut RX 0 (rd 0 Tv 0)),r8)),0,())else none else none else none else none else none else none
theorem k:KT (O m_) [] ⟨15,[.ag QE,.one .str,.one .str],.iE [.sh (.ag (.pair YV (.pair QA QA))),.sh (.one (.int .i64))],run m_⟩ [s0 m_]:=fun _=>by kernel_rfl
def c:=co (k m_)
end NJ

namespace OE
def O:OO P:=lH [Nk.c m_]
def run:(List (Int×List Int))×Int×Unit->Option ((List Int)×Int×Unit):=fun v_=>match v_ with
|(l,kind,())=>
 (Nk.run m_ (l,kind,())).bind fun r=>
 bif vT (r.length:Int)then
 bif decide ((r.length:Int)=0)then
  some (([]:List Int),19,())
 else
  bif vT (r.length:Int)then
  bif decide ((r.length:Int)>1)then
   some (([]:List Int),24,())
  else
   bif inB 0 (r.length:Int)then
   bif inB (rd 0 r 0) (l.length:Int)then
   some ((rd ((0:Int),([]:List Int)) l (rd 0 r 0)).2,0,())else none else none else none else none
theorem k:KT (O m_) [] ⟨16,[.one QA,.one (.int .i64)],.iE [.sh (.one .str),.sh (.one (.int .i64))],run m_⟩ []:=fun _=>by kernel_rfl
def c:=co (k m_)
end OE

namespace Ou
def O(m_:Dj):OO P:=lH []
def e0:Spec:=⟨[fs 49 [.q 52,.z 52,.b 0,.q 7] [(1,.dat (.int .u32)),(2,.ptr 0 0),(5,.w)]],[(0,.c [.dat Vp,.dat (.int .u32)])],1⟩
def x0:List Spec:=[⟨[fs 49 [.q 3365,.b 1,.q 211,.z 52,.b 0,.q 7] [(4,.w)]],[],0⟩,⟨[fs 49 [.q 7] []],[],0⟩]
abbrev A0:Type:=Int×Int×(List (Int×(List Int×Int)))×Int×Unit
abbrev B0:Type:=(Int×Unit) ⊕ (Unit)
def b0(m_:Dj)(self:A0->Option B0):A0->Option B0:=fun v_=>match v_ with
|(id,i,m,m1,())=>
 bif vT (m.length:Int)then
 bif decide (i<(m.length:Int))then
  bif inB i (m.length:Int)then
  bif decide (((rd ((0:Int),(([]:List Int),(0:Int))) m i).1)=id)then
   some (.inl (i,()))
  else
   self (id,(ahk.wrap (i+1)),m,m1,())else none
 else
  some (.inr (()))else none
theorem k0:KQ 49 (O m_) [] e0 x0 [] (b0 m_):=fun _ _=>by kernel_rfl
def l0:=loop m_ (b0 m_)
theorem q0(v):l0 .lim v=b0 .lim (l0 .lim) v:=KS.q (k0 .lim) v
def s0:=so m_ (k0 m_)
def run:Vt×Int×Unit->Option (Int):=fun v_=>match v_ with
|(r,id,())=>
 (Ou.l0 m_ (id,0,r.1,r.2,())).bind fun g_=>match g_ with
 | .inl (t,())=>
  some t
 | .inr (())=>
  some (-1)
theorem k:KT (O m_) [] ⟨49,[.ag Vq,.one (.int .u32)],.one (.sh (.one (.int .i64))),run m_⟩ [s0 m_]:=fun _=>by kernel_rfl
def c:=co (k m_)
end Ou

namespace Qj
def O:OO P:=lH [O4.c m_,OX.c m_,NR.c m_,Ou.c m_]
def run:QD×Vt×(List Int)×Unit->Option ((Int×(List Int×List Int))×Int×Unit):=fun v_=>match v_ with
|(v,r,s,())=>
 bif vT (s.length:Int)then
 bif decide ((s.length:Int)<20)then
  some ((0,(([]:List Int),([]:List Int))),11,())
 else
  bif inB 0 (s.length:Int)then
  bif inB 1 (s.length:Int)then
  bif inB 2 (s.length:Int)then
  bif inB 3 (s.length:Int)then
  (Ou.run m_ (r,(KO .u32 (KO .u32 (KO .u32 (I9 .u32 (ahP.wrap (rd 0 s 0)) 24) (I9 .u32 (ahP.wrap (rd 0 s 1)) 16)) (I9 .u32 (ahP.wrap (rd 0 s 2)) 8)) (ahP.wrap (rd 0 s 3))),())).bind fun r1=>
  bif decide (r1<0)then
   some ((0,(([]:List Int),([]:List Int))),19,())
  else
   bif inB r1 (r.1.length:Int)then
   bif sK 0 4 (s.length:Int)then
   bif sK 4 20 (s.length:Int)then
   bif sK 20 (s.length:Int) (s.length:Int)then
   (NR.run m_ (v,((rd ((0:Int),(([]:List Int),(0:Int))) r.1 r1).2).1,([(cut s 0 4),(cut s 4 20)]:List (List Int)),(cut s 20 (s.length:Int)),())).bind fun (r2,r3,())=>
   bif !(decide (r3=0))then
    some ((0,(([]:List Int),([]:List Int))),r3,())
   else
    bif vT (r2.length:Int)then
    bif decide ((r2.length:Int)>=4)then
     bif vT (r2.length:Int)then
     bif inB 0 (r2.length:Int)then
     bif inB 1 (r2.length:Int)then
     bif sK 4 (ahk.wrap (4+(ahk.wrap ((ahk.wrap ((r2.length:Int)-4)).tdiv 2)))) (r2.length:Int)then
     bif sK (ahk.wrap (4+(ahk.wrap ((ahk.wrap ((r2.length:Int)-4)).tdiv 2)))) (r2.length:Int) (r2.length:Int)then
     (O4.run m_ (((ahk.wrap ((ahk.wrap ((ahk.wrap (rd 0 r2 0))*256))+(ahk.wrap (rd 0 r2 1)))),((cut r2 4 (ahk.wrap (4+(ahk.wrap ((ahk.wrap ((r2.length:Int)-4)).tdiv 2))))),(cut r2 (ahk.wrap (4+(ahk.wrap ((ahk.wrap ((r2.length:Int)-4)).tdiv 2)))) (r2.length:Int)))),())).bind fun r4=>
     ((bif !!r4 then OX.run m_ (((ahk.wrap ((ahk.wrap ((ahk.wrap (rd 0 r2 0))*256))+(ahk.wrap (rd 0 r2 1)))),((cut r2 4 (ahk.wrap (4+(ahk.wrap ((ahk.wrap ((r2.length:Int)-4)).tdiv 2))))),(cut r2 (ahk.wrap (4+(ahk.wrap ((ahk.wrap ((r2.length:Int)-4)).tdiv 2)))) (r2.length:Int)))),())else some ([]:List Int))).bind fun r5=>
     bif(!r4||(!(decide (r5=r2))))then
      some ((0,(([]:List Int),([]:List Int))),10,())
     else
      some (((ahk.wrap ((ahk.wrap ((ahk.wrap (rd 0 r2 0))*256))+(ahk.wrap (rd 0 r2 1)))),((cut r2 4 (ahk.wrap (4+(ahk.wrap ((ahk.wrap ((r2.length:Int)-4)).tdiv 2))))),(cut r2 (ahk.wrap (4+(ahk.wrap ((ahk.wrap ((r2.length:Int)-4)).tdiv 2)))) (r2.length:Int)))),0,())else none else none else none else none else none
    else
     (O4.run m_ ((0,(([]:List Int),([]:List Int))),())).bind fun r6=>
     ((bif !!r6 then OX.run m_ ((0,(([]:List Int),([]:List Int))),())else some ([]:List Int))).bind fun r7=>
     bif(!r6||(!(decide (r7=r2))))then
      some ((0,(([]:List Int),([]:List Int))),10,())
     else
      some ((0,(([]:List Int),([]:List Int))),0,())else none else none else none else none else none else none else none else none else none else none
theorem k:KT (O m_) [] ⟨17,[.ag QE,.ag Vq,.one .str],.iE [.sh (.ag YU),.sh (.one (.int .i64))],run m_⟩ []:=fun v_=>match v_ with|(v,r,s,())=>by kernel_rfl
def c:=co (k m_)
end Qj

namespace NS
def O:OO P:=lH [OE.c m_,OL.c m_,Nk.c m_]
def e0:Spec:=⟨[fs 24 [.q 524276,.z 524276,.b 0,.q 65535] [(8,.dat QA),(10,.s),(11,.s),(12,.w),(13,.own 0 (.int .i64)),(14,.w)]],[(0,.c [.row (.int .i64)])],1⟩
def x0:List Spec:=[⟨[fs 24 [.q 65535] [(10,.s),(11,.s),(12,.w)]],[],0⟩]
abbrev A0:Type:=(List (Int×List Int))×LI×LI×Int×Int×LI×Unit
abbrev B0:Type:=(LI×LI×Int×Unit)
def b0(m_:Dj)(self:A0->Option B0):A0->Option B0:=fun v_=>match v_ with
|(l,unique,Vj,n,i,m,())=>
 bif vT (m.length:Int)then
 bif decide (i<(m.length:Int))then
  bif inB i (m.length:Int)then
  bif inB (rd 0 m i) (l.length:Int)then
  bif vT (((rd ((0:Int),([]:List Int)) l (rd 0 m i)).2).length:Int)then
  bif vT (Vj.length:Int)then
  bif((decide ((((rd ((0:Int),([]:List Int)) l (rd 0 m i)).2).length:Int)=(Vj.length:Int)))&&(decide (n<8)))then
   self (l,unique,Vj,(ahk.wrap (n+1)),(ahk.wrap (i+1)),m,())
  else
   self (l,unique,Vj,n,(ahk.wrap (i+1)),m,())else none else none else none else none
 else
  some (unique,Vj,n,())else none
theorem k0:KQ 24 (O m_) [] e0 x0 [] (b0 m_):=fun _ _=>by kernel_rfl
def l0:=loop m_ (b0 m_)
theorem q0(v):l0 .lim v=b0 .lim (l0 .lim) v:=KS.q (k0 .lim) v
def s0:=so m_ (k0 m_)
def run:(List Int)×Unit->Option ((List Int)×(List Int)×Int×Int×Unit):=fun v_=>match v_ with
|(s,())=>
 (OL.run m_ (s,())).bind fun (r,r1,())=>
 bif !(decide (r1=0))then
  some (([]:List Int),([]:List Int),0,r1,())
 else
  bif((!(decide (r.2.1=4)))||(!(decide (r.2.2.1=3))))then
   some (([]:List Int),([]:List Int),0,23,())
  else
   (Nk.run m_ (r.2.2.2.2.2.2.2.2.2.2.2.2.2,1028,())).bind fun r2=>
   bif vT (r2.length:Int)then
   bif decide ((r2.length:Int)>0)then
    bif inB 0 (r2.length:Int)then
    bif sK 0 (rd 0 r2 0) (r.2.2.2.2.2.2.2.2.2.2.2.2.2.length:Int)then
    (OE.run m_ ((cut r.2.2.2.2.2.2.2.2.2.2.2.2.2 0 (rd 0 r2 0)),260,())).bind fun (r3,r4,())=>
    bif !(decide (r4=0))then
     some (([]:List Int),([]:List Int),0,r4,())
    else
     (OE.run m_ ((cut r.2.2.2.2.2.2.2.2.2.2.2.2.2 0 (rd 0 r2 0)),516,())).bind fun (r5,r6,())=>
     bif !(decide (r6=0))then
      some (([]:List Int),([]:List Int),0,r6,())
     else
      bif vT (r3.length:Int)then
      bif((!(!(decide ((r3.length:Int)<32))))||(vT (r3.length:Int)))then
      bif((!(!((decide ((r3.length:Int)<32))||(decide ((r3.length:Int)>64)))))||(vT (r5.length:Int)))then
      bif(((decide ((r3.length:Int)<32))||(decide ((r3.length:Int)>64)))||(decide ((r5.length:Int)>256)))then
       some (([]:List Int),([]:List Int),0,12,())
      else
       (Nk.run m_ ((cut r.2.2.2.2.2.2.2.2.2.2.2.2.2 0 (rd 0 r2 0)),772,())).bind fun r7=>
       (NS.l0 m_ ((cut r.2.2.2.2.2.2.2.2.2.2.2.2.2 0 (rd 0 r2 0)),r3,r5,1,0,r7,())).bind fun (unique,Vj,n,())=>
       some (unique,Vj,n,0,())else none else none else none else none else none
   else
    (OE.run m_ (r.2.2.2.2.2.2.2.2.2.2.2.2.2,260,())).bind fun (r8,r9,())=>
    bif !(decide (r9=0))then
     some (([]:List Int),([]:List Int),0,r9,())
    else
     (OE.run m_ (r.2.2.2.2.2.2.2.2.2.2.2.2.2,516,())).bind fun (r10,r11,())=>
     bif !(decide (r11=0))then
      some (([]:List Int),([]:List Int),0,r11,())
     else
      bif vT (r8.length:Int)then
      bif((!(!(decide ((r8.length:Int)<32))))||(vT (r8.length:Int)))then
      bif((!(!((decide ((r8.length:Int)<32))||(decide ((r8.length:Int)>64)))))||(vT (r10.length:Int)))then
      bif(((decide ((r8.length:Int)<32))||(decide ((r8.length:Int)>64)))||(decide ((r10.length:Int)>256)))then
       some (([]:List Int),([]:List Int),0,12,())
      else
       (Nk.run m_ (r.2.2.2.2.2.2.2.2.2.2.2.2.2,772,())).bind fun r12=>
       (NS.l0 m_ (r.2.2.2.2.2.2.2.2.2.2.2.2.2,r8,r10,1,0,r12,())).bind fun (SE,YE,n1,())=>
       some (SE,YE,n1,0,())else none else none else none else none
theorem k:KT (O m_) [] ⟨24,[.one .str],.iE [.sh (.one .str),.sh (.one .str),.sh (.one (.int .i64)),.sh (.one (.int .i64))],run m_⟩ [s0 m_]:=fun _=>by kernel_rfl
def c:=co (k m_)
end NS

namespace Nh
def O(m_:Dj):OO P:=lH []
def run(m_:Dj):QD×ZJ×Unit->Option (QD×ZJ×acJ×Unit):=fun v_=>match v_ with
|(v,x,())=>
 some (v,(x.1,(x.2.1,(x.2.2.1,(x.2.2.2.1,(x.2.2.2.2.1,(x.2.2.2.2.2.1,(x.2.2.2.2.2.2.1,(x.2.2.2.2.2.2.2.1,(ahU.wrap (x.2.2.2.2.2.2.2.2+1)))))))))),(0,(([]:List Int),(([]:List Int),(([]:List Int),(0,0))))),())
theorem k:KT (O m_) [] ⟨55,[.ag QE,.ag U9],.iE [.sh (.ag QE),.sh (.ag U9),.sh (.ag adC)],run m_⟩ []:=fun _=>by kernel_rfl
def c:=co (k m_)
end Nh

namespace OM
def O:OO P:=lH [OL.c m_,Ob.c m_,NQ.c m_]
def run:ZJ×(List Int)×(List Int)×Unit->Option (ZJ×acJ×Unit):=fun v_=>match v_ with
|(x,s,unique,())=>
 (OL.run m_ (s,())).bind fun (r,r1,())=>
 (NQ.run m_ (([78,84,83,78]:List Int),())).bind fun r2=>
 (Ob.run m_ ((0,(4,(4,(0,(0,(0,(0,(0,(r2,(0,(r.2.2.2.2.2.2.2.2.2.2.2.2.1,(0,(0,([(260,unique)]:List (Int×List Int))))))))))))))),())).bind fun (r3,r4,())=>
 some ((x.1,(x.2.1,(x.2.2.1,(x.2.2.2.1,(x.2.2.2.2.1,(x.2.2.2.2.2.1,(x.2.2.2.2.2.2.1,((ahU.wrap (x.2.2.2.2.2.2.2.1+1)),x.2.2.2.2.2.2.2.2)))))))),(2,(unique,(s,(r3,(0,0))))),())
theorem k:KT (O m_) [] ⟨56,[.ag U9,.one .str,.one .str],.iE [.sh (.ag U9),.sh (.ag adC)],run m_⟩ []:=fun _=>by kernel_rfl
def c:=co (k m_)
end OM

namespace NM
def O:OO P:=lH [Qi.c m_]
def o0:dJ:= .c [.b,.dat TS]
def e0:Spec:=⟨[fs 57 [.q 500,.z 500,.b 0,.q 63] [(3,.t),(4,.ptr 0 0),(5,.ptr 1 0),(6,.ptr 2 0),(8,.ptr 3 0),(11,.ptr 4 0),(12,.own 5013 .str),(13,.w)]],[(0,o0),(1,.c [.dat Vp,.dat (.int .u32)]),(2,.c [.w,.s,.s]),(3,.c [.b,.CG]),(4,o0),(5013,.c [.row .str])],5014⟩
def x0:List Spec:=[⟨[fs 57 [.q 128149,.q 16019,.b 1,.q 2003,.z 500,.b 0,.q 63] [(8,.ptr 0 0),(9,.CG),(10,.w)]],[(0,o0)],1⟩,⟨[fs 57 [.q 63] [(8,.ptr 0 0),(11,.ptr 1 0),(12,.own 2 .str)]],[(0,.c [.b,.CG]),(1,o0),(2,.c [.row .str])],3⟩]
abbrev A0:Type:=LL×Int×Bool×(List (List Int×(List LI×(List Int×List Int))))×(List (Int×(List Int×Int)))×Int×Int×LI×LI×Bool×Bool×(List (List Int×(List LI×(List Int×List Int))))×LL×Unit
abbrev B0:Type:=(Int×Bool×(List (List Int×(List LI×(List Int×List Int))))×Unit) ⊕ (Bool×Bool×(List (List Int×(List LI×(List Int×List Int))))×LL×Unit)
def b0(self:A0->Option B0):A0->Option B0:=fun v_=>match v_ with
|(Nw,i,m,m1,m2,m3,m4,m5,m6,m7,m8,m9,m10,())=>
 bif vT (Nw.length:Int)then
 bif decide (i<(Nw.length:Int))then
  bif inB i (Nw.length:Int)then
  (Qi.run m_ ((m8,m9),(m2,m3),(m4,(m5,m6)),(rd ([]:List Int) Nw i),())).bind fun (r,r1,r2,())=>
  bif !(decide (r2=0))then
   some (.inl (r2,m,m1,()))
  else
   bif decide (m10.length+([r1]:List (List Int)).length<4398046511104)then
   self (Nw,(ahk.wrap (i+1)),m,m1,m2,m3,m4,m5,m6,m7,r.1,r.2,(m10++([r1]:List (List Int))),())else none else none
 else
  some (.inr (m7,m8,m9,m10,()))else none
theorem k0:KQ 57 (O m_) [] e0 x0 [] (b0 m_):=fun _ _=>by kernel_rfl
def l0:=loop m_ (b0 m_)
theorem q0(v):l0 .lim v=b0 .lim (l0 .lim) v:=KS.q (k0 .lim) v
def s0:=so m_ (k0 m_)
def run:QD×Vt×(Int×(List Int×List Int))×(List (List Int))×Unit->Option (QD×(List (List Int))×Int×Unit):=fun v_=>match v_ with
|(v,r,k,Nw,())=>
 bif vT (Nw.length:Int)then
 bif decide ((Nw.length:Int)>8)then
  some (v,([]:List (List Int)),18,())
 else
  (NM.l0 m_ (Nw,0,v.1,v.2,r.1,r.2,k.1,k.2.1,k.2.2,false,v.1,v.2,([]:List (List Int)),())).bind fun g_=>match g_ with
  | .inl (t,m,m1,())=>
   some ((m,m1),([]:List (List Int)),t,())
  | .inr (m2,m3,m4,m5,())=>
   some ((m3,m4),m5,0,())else none
theorem k:KT (O m_) [] ⟨57,[.ag QE,.ag Vq,.ag YU,.one (.lst .str)],.iE [.sh (.ag QE),.own .str,.sh (.one (.int .i64))],run m_⟩ [s0 m_]:=fun _=>by kernel_rfl
def c:=co (k m_)
end NM

namespace Nj
def O:OO P:=lH [Ot.c m_,NJ.c m_,Qj.c m_,NS.c m_,Nh.c m_,OM.c m_,NM.c m_]
def o0:dJ:= .c [.b,.dat TS]
def o1:dJ:= .c [.dat Vp,.dat (.int .u32),.w,.w,.dat (.int .u32),.dat (.int .u32),.dat (.int .u32),.u,.u,.u]
def o2:dJ:= .c [.CG,.dat (.int .u32),.w,.w,.dat (.int .u32),.dat (.int .u32),.dat (.int .u32),.u,.u,.u]
def o3:dJ:= .c [.w,.s,.s,.s,.u,.u]
def o4:dJ:= .c [.w,.w,.w,.w,.w,.w,.dat (.int .u32),.dat (.int .u32),.dat (.int .u32),.u,.u,.u,.u,.dat QA,.dat QA,.dat QA]
def o5:dJ:= .c [.row Yx]
def e0:Spec:=⟨[fs 22 [.q 524276,.z 524276,.b 0,.q 65535] [(2,.s),(3,.u),(4,.u),(5,.t),(6,.ptr 0 0),(7,.ptr 1 0),(12,.ptr 2 0),(13,.ptr 3 0),(14,.ptr 4 0),(15,.s),(19,.ptr 5 0),(21,.ptr 6 0),(25,.ptr 7 0),(26,.own 8 .str),(27,.own 5014 Yx),(28,.w)]],[(0,o0),(1,o1),(2,.c [.b,.CG]),(3,o2),(4,o3),(5,.c [.w,.s,.s]),(6,o4),(7,o0),(8,.c [.row .str]),(5014,o5)],5015⟩
def x0:List Spec:=[⟨[fs 22 [.q 65535] [(2,.s),(3,.u),(4,.u),(5,.t),(6,.ptr 0 0),(7,.ptr 1 0),(12,.ptr 2 0),(13,.ptr 3 0),(14,.ptr 4 0),(15,.s),(19,.ptr 5 0),(21,.ptr 6 0),(25,.ptr 7 0),(27,.own 8 Yx)]],[(0,o0),(1,o1),(2,.c [.b,.CG]),(3,o2),(4,o3),(5,.c [.w,.s,.s]),(6,o4),(7,o0),(8,o5)],9⟩]
abbrev A0:Type:=LI×Int×Int×LL×LI×Int×Bool×(List (List Int×(List LI×(List Int×List Int))))×(List (Int×(List Int×Int)))×Int×Int×Int×Int×Int×Int×Int×Int×Int×Bool×Int×Int×Int×Int×Int×Int×Int×Int×Int×Int×LI×LI×LI×Int×Int×Int×LI×LI×Int×Int×Int×Int×Int×Int×Int×Int×Int×Int×Int×Int×Int×(List (Int×List Int))×(List (Int×List Int))×(List (Int×List Int))×Bool×(List (List Int×(List LI×(List Int×List Int))))×LL×(List (Int×List Int))×Unit
abbrev B0:Type:=(LI×Int×Int×LL×LI×Bool×(List (List Int×(List LI×(List Int×List Int))))×(List (Int×(List Int×Int)))×Int×Int×Int×Int×Int×Int×Int×Int×Int×Bool×Int×Int×Int×Int×Int×Int×Int×Int×Int×Int×LI×LI×LI×Int×Int×Int×LI×LI×Int×Int×Int×Int×Int×Int×Int×Int×Int×Int×Int×Int×Int×(List (Int×List Int))×(List (Int×List Int))×(List (Int×List Int))×Bool×(List (List Int×(List LI×(List Int×List Int))))×(List (Int×List Int))×Unit)
def b0(m_:Dj)(self:A0->Option B0):A0->Option B0:=fun v_=>match v_ with
|(s,recv,N8,draws,unique,i,m,m1,m2,m3,m4,m5,m6,m7,m8,m9,m10,m11,m12,m13,m14,m15,m16,m17,m18,m19,m20,m21,m22,m23,m24,SN,RZ,TK,RX,Tv,Ug,Ur,m32,Ue,Vx,Vs,Vy,V3,XB,WH,WI,XC,WY,V4,WZ,WJ,W9,W_,Xa,V5,X7,())=>
 bif vT (V5.length:Int)then
 bif decide (i<(V5.length:Int))then
  bif inB i (V5.length:Int)then
  bif decide (X7.length+([(516,(rd ([]:List Int) V5 i))]:List (Int×List Int)).length<2932031007402)then
  self (s,recv,N8,draws,unique,(ahk.wrap (i+1)),m,m1,m2,m3,m4,m5,m6,m7,m8,m9,m10,m11,m12,m13,m14,m15,m16,m17,m18,m19,m20,m21,m22,m23,m24,SN,RZ,TK,RX,Tv,Ug,Ur,m32,Ue,Vx,Vs,Vy,V3,XB,WH,WI,XC,WY,V4,WZ,WJ,W9,W_,Xa,V5,(X7++([(516,(rd ([]:List Int) V5 i))]:List (Int×List Int))),())else none else none
 else
  some (s,recv,N8,draws,unique,m,m1,m2,m3,m4,m5,m6,m7,m8,m9,m10,m11,m12,m13,m14,m15,m16,m17,m18,m19,m20,m21,m22,m23,m24,SN,RZ,TK,RX,Tv,Ug,Ur,m32,Ue,Vx,Vs,Vy,V3,XB,WH,WI,XC,WY,V4,WZ,WJ,W9,W_,Xa,X7,())else none
theorem k0:KQ 22 (O m_) [] e0 x0 [] (b0 m_):=fun _ _=>by kernel_rfl
def l0:=loop m_ (b0 m_)
theorem q0(v):l0 .lim v=b0 .lim (l0 .lim) v:=KS.q (k0 .lim) v
def s0:=so m_ (k0 m_)
def run:QD×ZJ×(List Int)×Int×Int×(List (List Int))×Unit->Option (QD×ZJ×acJ×Unit):=fun v_=>match v_ with
|(v,x,s,recv,N8,draws,())=>
 (NS.run m_ (s,())).bind fun (r,r1,r2,r3,())=>
 bif !(decide (r3=0))then
  (Nh.run m_ (v,x,())).bind fun (r4)=>
  some (r4)
 else
  (Qj.run m_ (v,x.1,r1,())).bind fun (r7,r8,())=>
  bif decide (r8=0)then
   (NJ.run m_ (v,s,r7.2.1,())).bind fun (r9,r10,())=>
   bif((!(decide (r8=0)))||(!(decide (r10=0))))then
    (OM.run m_ (x,s,r,())).bind fun (r11,r12,())=>
    some (v,r11,(r12.1,(r12.2.1,(r12.2.2.1,(r12.2.2.2.1,(recv,N8))))),())
   else
    bif vT (draws.length:Int)then
    bif decide ((draws.length:Int)=0)then
     (Nh.run m_ (v,x,())).bind fun (r13)=>
     some (r13)
    else
     bif sK 1 (draws.length:Int) (draws.length:Int)then
     bif vT ((cut draws 1 (draws.length:Int)).length:Int)then
     bif decide (((cut draws 1 (draws.length:Int)).length:Int)>r2)then
      bif sK 0 r2 ((cut draws 1 (draws.length:Int)).length:Int)then
      (NM.run m_ (v,x.1,r7,(cut (cut draws 1 (draws.length:Int)) 0 r2),())).bind fun (r16,r17,r18,())=>
      bif !(decide (r18=0))then
       (Nh.run m_ (v,x,())).bind fun (r19)=>
       some (r19)
      else
       (Nj.l0 m_ (s,recv,N8,draws,r,0,v.1,v.2,x.1.1,x.1.2,x.2.1,x.2.2.1,x.2.2.2.1,x.2.2.2.2.1,x.2.2.2.2.2.1,x.2.2.2.2.2.2.1,x.2.2.2.2.2.2.2.1,x.2.2.2.2.2.2.2.2,false,0,0,0,0,0,0,0,0,0,0,([]:List Int),([]:List Int),([]:List Int),0,0,r7.1,r7.2.1,r7.2.2,r9.1.1,r9.1.2.1,r9.1.2.2.1,r9.1.2.2.2.1,r9.1.2.2.2.2.1,r9.1.2.2.2.2.2.1,r9.1.2.2.2.2.2.2.1,r9.1.2.2.2.2.2.2.2.1,r9.1.2.2.2.2.2.2.2.2.1,r9.1.2.2.2.2.2.2.2.2.2.1,r9.1.2.2.2.2.2.2.2.2.2.2.1,r9.1.2.2.2.2.2.2.2.2.2.2.2.1,r9.1.2.2.2.2.2.2.2.2.2.2.2.2.1,r9.1.2.2.2.2.2.2.2.2.2.2.2.2.2,r9.2.1,r9.2.2,r16.1,r16.2,r17,([]:List (Int×List Int)),())).bind fun (s1,UE,WC,Uu,unique,m,m1,m2,m3,m4,m5,m6,m7,m8,m9,m10,m11,m12,m13,m14,m15,m16,m17,m18,m19,m20,m21,m22,m23,m24,SN,RZ,TK,RX,Tv,Ug,Ur,m32,Ue,Vx,Vs,Vy,V3,XB,WH,WI,XC,WY,V4,WZ,WJ,W9,W_,Xa,V5,())=>
       bif inB 0 (Uu.length:Int)then
       (Ot.run m_ ((W_,Xa),(0,(4,(4,(m4,(Vs,(m5,(m7,(m8,(m6,(UE,(V4,(UE,(WC,([(260,unique)]:List (Int×List Int))))))))))))))),Ug,(rd ([]:List Int) Uu 0),V5,())).bind fun (r22,r23,r24,())=>
       bif !(decide (r24=0))then
        (Nh.run m_ ((m,m1),((m2,m3),(m4,(m5,(m6,(m7,(m8,(m9,(m10,m11)))))))),())).bind fun (r25)=>
        some (r25)
       else
        some (r22,((m2,m3),(m4,(m5,(m6,(m7,(m8,((ahU.wrap (m9+1)),(m10,m11)))))))),(1,(unique,(s1,(r23,(UE,WC))))),())else none else none
     else
      (NM.run m_ (v,x.1,r7,(cut draws 1 (draws.length:Int)),())).bind fun (r28,r29,r30,())=>
      bif !(decide (r30=0))then
       (Nh.run m_ (v,x,())).bind fun (r31)=>
       some (r31)
      else
       (Nj.l0 m_ (s,recv,N8,draws,r,0,v.1,v.2,x.1.1,x.1.2,x.2.1,x.2.2.1,x.2.2.2.1,x.2.2.2.2.1,x.2.2.2.2.2.1,x.2.2.2.2.2.2.1,x.2.2.2.2.2.2.2.1,x.2.2.2.2.2.2.2.2,false,0,0,0,0,0,0,0,0,0,0,([]:List Int),([]:List Int),([]:List Int),0,0,r7.1,r7.2.1,r7.2.2,r9.1.1,r9.1.2.1,r9.1.2.2.1,r9.1.2.2.2.1,r9.1.2.2.2.2.1,r9.1.2.2.2.2.2.1,r9.1.2.2.2.2.2.2.1,r9.1.2.2.2.2.2.2.2.1,r9.1.2.2.2.2.2.2.2.2.1,r9.1.2.2.2.2.2.2.2.2.2.1,r9.1.2.2.2.2.2.2.2.2.2.2.1,r9.1.2.2.2.2.2.2.2.2.2.2.2.1,r9.1.2.2.2.2.2.2.2.2.2.2.2.2.1,r9.1.2.2.2.2.2.2.2.2.2.2.2.2.2,r9.2.1,r9.2.2,r28.1,r28.2,r29,([]:List (Int×List Int)),())).bind fun (s2,XL,ZI,Xp,SE,X7,Y1,YL,X8,WL,XD,Xb,Xc,Ya,Y2,Y3,Y4,m62,m63,m64,m65,m66,m67,m68,m69,m70,m71,m72,m73,m74,m75,m76,m77,m78,m79,m80,m81,m82,m83,m84,m85,m86,m87,m88,m89,m90,m91,m92,m93,m94,m95,m96,m97,m98,m99,())=>
       bif inB 0 (Xp.length:Int)then
       (Ot.run m_ ((m97,m98),(0,(4,(4,(WL,(m85,(XD,(Xc,(Ya,(Xb,(XL,(m93,(XL,(ZI,([(260,SE)]:List (Int×List Int))))))))))))))),m80,(rd ([]:List Int) Xp 0),m99,())).bind fun (r34,r35,r36,())=>
       bif !(decide (r36=0))then
        (Nh.run m_ ((X7,Y1),((YL,X8),(WL,(XD,(Xb,(Xc,(Ya,(Y2,(Y3,Y4)))))))),())).bind fun (r37)=>
        some (r37)
       else
        some (r34,((YL,X8),(WL,(XD,(Xb,(Xc,(Ya,((ahU.wrap (Y2+1)),(Y3,Y4)))))))),(1,(SE,(s2,(r35,(XL,ZI))))),())else none else none else none else none
  else
   bif((!(decide (r8=0)))||false)then
    (OM.run m_ (x,s,r,())).bind fun (r40,r41,())=>
    some (v,r40,(r41.1,(r41.2.1,(r41.2.2.1,(r41.2.2.2.1,(recv,N8))))),())
   else
    bif vT (draws.length:Int)then
    bif decide ((draws.length:Int)=0)then
     (Nh.run m_ (v,x,())).bind fun (r42)=>
     some (r42)
    else
     bif sK 1 (draws.length:Int) (draws.length:Int)then
     bif vT ((cut draws 1 (draws.length:Int)).length:Int)then
     bif decide (((cut draws 1 (draws.length:Int)).length:Int)>r2)then
      bif sK 0 r2 ((cut draws 1 (draws.length:Int)).length:Int)then
      (NM.run m_ (v,x.1,r7,(cut (cut draws 1 (draws.length:Int)) 0 r2),())).bind fun (r45,r46,r47,())=>
      bif !(decide (r47=0))then
       (Nh.run m_ (v,x,())).bind fun (r48)=>
       some (r48)
      else
       (Nj.l0 m_ (s,recv,N8,draws,r,0,v.1,v.2,x.1.1,x.1.2,x.2.1,x.2.2.1,x.2.2.2.1,x.2.2.2.2.1,x.2.2.2.2.2.1,x.2.2.2.2.2.2.1,x.2.2.2.2.2.2.2.1,x.2.2.2.2.2.2.2.2,false,0,0,0,0,0,0,0,0,0,0,([]:List Int),([]:List Int),([]:List Int),0,0,r7.1,r7.2.1,r7.2.2,0,0,0,0,0,0,0,0,0,0,0,0,0,([]:List (Int×List Int)),([]:List (Int×List Int)),([]:List (Int×List Int)),r45.1,r45.2,r46,([]:List (Int×List Int)),())).bind fun (s3,aci,adY,abJ,aaR,afn,afo,aek,ael,ac_,ada,adb,ade,adf,aem,aen,aeo,afT,afU,afV,afW,aep,afX,afY,aer,afZ,af0,afp,af2,af4,af5,af6,afq,af7,af8,afr,af9,af_,aga,agb,aeu,agc,agd,agf,agh,agi,agj,afs,aft,adg,aev,afu,aew,afv,afw,())=>
       bif inB 0 (abJ.length:Int)then
       (Ot.run m_ ((aew,afv),(0,(4,(4,(ac_,(aeu,(ada,(ade,(adf,(adb,(aci,(aft,(aci,(adY,([(260,aaR)]:List (Int×List Int))))))))))))))),afr,(rd ([]:List Int) abJ 0),afw,())).bind fun (r51,r52,r53,())=>
       bif !(decide (r53=0))then
        (Nh.run m_ ((afn,afo),((aek,ael),(ac_,(ada,(adb,(ade,(adf,(aem,(aen,aeo)))))))),())).bind fun (r54)=>
        some (r54)
       else
        some (r51,((aek,ael),(ac_,(ada,(adb,(ade,(adf,((ahU.wrap (aem+1)),(aen,aeo)))))))),(1,(aaR,(s3,(r52,(aci,adY))))),())else none else none
     else
      (NM.run m_ (v,x.1,r7,(cut draws 1 (draws.length:Int)),())).bind fun (r57,r58,r59,())=>
      bif !(decide (r59=0))then
       (Nh.run m_ (v,x,())).bind fun (r60)=>
       some (r60)
      else
       (Nj.l0 m_ (s,recv,N8,draws,r,0,v.1,v.2,x.1.1,x.1.2,x.2.1,x.2.2.1,x.2.2.2.1,x.2.2.2.2.1,x.2.2.2.2.2.1,x.2.2.2.2.2.2.1,x.2.2.2.2.2.2.2.1,x.2.2.2.2.2.2.2.2,false,0,0,0,0,0,0,0,0,0,0,([]:List Int),([]:List Int),([]:List Int),0,0,r7.1,r7.2.1,r7.2.2,0,0,0,0,0,0,0,0,0,0,0,0,0,([]:List (Int×List Int)),([]:List (Int×List Int)),([]:List (Int×List Int)),r57.1,r57.2,r58,([]:List (Int×List Int)),())).bind fun (s4,acj,adZ,abK,aaS,afx,afy,aex,aey,adh,adi,adk,adl,adn,aez,aeA,aeB,agk,agl,aeC,aeD,aeE,aeF,aeG,aeH,aeI,aeJ,aeK,aeL,agm,agn,agp,afz,afA,afB,agq,ag7,ag8,ag9,ag_,agr,aha,ahb,ahc,ahd,ahe,ahf,ahg,ags,ahh,ahi,ahj,agt,agu,agv,())=>
       bif inB 0 (abK.length:Int)then
       (Ot.run m_ ((agt,agu),(0,(4,(4,(adh,(agr,(adi,(adl,(adn,(adk,(acj,(ags,(acj,(adZ,([(260,aaS)]:List (Int×List Int))))))))))))))),agq,(rd ([]:List Int) abK 0),agv,())).bind fun (r63,r64,r65,())=>
       bif !(decide (r65=0))then
        (Nh.run m_ ((afx,afy),((aex,aey),(adh,(adi,(adk,(adl,(adn,(aez,(aeA,aeB)))))))),())).bind fun (r66)=>
        some (r66)
       else
        some (r63,((aex,aey),(adh,(adi,(adk,(adl,(adn,((ahU.wrap (aez+1)),(aeA,aeB)))))))),(1,(aaS,(s4,(r64,(acj,adZ))))),())else none else none else none else none
theorem k:KT (O m_) [] ⟨22,[.ag QE,.ag U9,.one .str,.one (.int .u64),.one (.int .u64),.one (.lst .str)],.iE [.sh (.ag QE),.sh (.ag U9),.sh (.ag adC)],run m_⟩ [s0 m_]:=fun v_=>match v_ with|(v,x,s,recv,N8,draws,())=>by kernel_rfl
def c:=co (k m_)
end Nj

namespace TD
def O:OO P:=lH [Pg.c m_]
def run:(List Int)×Unit->Option ((List Int)×(List Int)×Int×Int×Unit):=fun v_=>match v_ with
|(s,())=>
 (Pg.run m_ (s,())).bind fun (r,r1,())=>
 some (r.2.1,r.2.2.1,r.2.2.2,r1,())
theorem k:KT (O m_) [] ⟨23,[.one .str],.iE [.sh (.one .str),.sh (.one .str),.sh (.one (.int .i64)),.sh (.one (.int .i64))],run m_⟩ []:=fun _=>by kernel_rfl
def c:=co (k m_)
end TD

namespace O6
def O:OO P:=lH [Qd.c m_,NW.c m_,Oh.c m_,Qk.c m_,Oq.c m_,Nj.c m_,TD.c m_,NS.c m_]
def run:QD×ZJ×(List Int)×Int×Int×(List (List Int))×Unit->Option (Bool):=fun v_=>match v_ with
|(v,x,s,recv,N8,draws,())=>
 (Qd.run m_ (v,x,s,draws,())).bind fun r=>
 bif !r then
  (NW.run m_ (())).bind fun r1=>
  some r1
 else
  (Oh.run m_ (v,x,s,recv,N8,draws,())).bind fun (r2,r3,r4,())=>
  (Nj.run m_ (v,x,s,recv,N8,draws,())).bind fun (r5,r6,r7,())=>
  (TD.run m_ (s,())).bind fun (r8,r9,r10,r11,())=>
  (NS.run m_ (s,())).bind fun (r12,r13,r14,r15,())=>
  (Oq.run m_ (r2,r5,())).bind fun r16=>
  ((bif r16 then Qk.run m_ (r3,r6,())else some false)).bind fun r17=>
  ((bif((((((r16&&r17)&&((decide (r4.1=r7.1))&&((decide (r4.2.1=r7.2.1))&&((decide (r4.2.2.1=r7.2.2.1))&&((decide (r4.2.2.2.1=r7.2.2.2.1))&&((decide (r4.2.2.2.2.1=r7.2.2.2.2.1))&&(decide (r4.2.2.2.2.2=r7.2.2.2.2.2))))))))&&(decide (r8=r12)))&&(decide (r9=r13)))&&(decide (r10=r14)))&&(decide (r11=r15)))then NW.run m_ (())else some false)).bind fun r18=>
  some (((((((r16&&r17)&&((decide (r4.1=r7.1))&&((decide (r4.2.1=r7.2.1))&&((decide (r4.2.2.1=r7.2.2.1))&&((decide (r4.2.2.2.1=r7.2.2.2.1))&&((decide (r4.2.2.2.2.1=r7.2.2.2.2.1))&&(decide (r4.2.2.2.2.2=r7.2.2.2.2.2))))))))&&(decide (r8=r12)))&&(decide (r9=r13)))&&(decide (r10=r14)))&&(decide (r11=r15)))&&r18)
theorem k:KT (O m_) [] ⟨5,[.ag QE,.ag U9,.one .str,.one (.int .u64),.one (.int .u64),.one (.lst .str)],.one (.sh (.one .bool)),run m_⟩ []:=fun _=>by kernel_rfl
def c:=co (k m_)
end O6
end
end Go.AM
end
section
namespace Go.AM
abbrev KK:=List Int×List (List Int)×List Int×List Int
abbrev k0:KK:=([],[],[],[])
theorem wk(k:Nat)(h:(k:Int)+1<9223372036854775808):ahk.wrap ((k:Int)+1)=((k+1:Nat):Int):=by rw[wrap64 (by omega) (by omega)];omega
theorem Zd(a b:List (List Int))(ha:a.length<9223372036854775808)(hb:b.length<9223372036854775808):Nz.run .lim (a,b,())=some (decide (a=b)):=by
 simp only[Nz.run,MS ha,MS hb,cond_true];by_cases hl:a.length=b.length
 ·have e:=Tt (f:=Nz.l0 .lim) (fun k=>(a,b,(a.length:Int),(k:Int),())) a.length (fun k=> !decide (rd ([]:List Int) a k=rd ([]:List Int) b k)) (some (.inl (false,()))) (fun k hk=>by
   rw[Nz.q0];have w:=wk k (by omega);simp (disch:=omega) only[Ns,MX,Na,wrap64,MO,MR,dec_not,dec_and,OC,N9,cond_true,cond_false,ahl,ahm,ahw,ahA,aht,ahv,aho,ahp,ahu,ahs,ahr,ahn,ahz,ahq,ahy,if_true,if_false,and_self,true_and,and_true,and_false,false_and,or_true,true_or,or_false,false_or,not_true_eq_false,not_false_eq_true,decide_true,decide_false,eq_self,if_pos,if_neg,Pz,OW,Nz.b0,w])
  rw[Xj hl]at e;rw[cond_neg (by simp (disch:=omega) only[Ns,MX,Na,wrap64,MO,MR,dec_not,dec_and,OC,N9,cond_true,cond_false,ahl,ahm,ahw,ahA,aht,ahv,aho,ahp,ahu,ahs,ahr,ahn,ahz,ahq,ahy,if_true,if_false,and_self,true_and,and_true,and_false,false_and,or_true,true_or,or_false,false_or,not_true_eq_false,not_false_eq_true,decide_true,decide_false,eq_self,if_pos,if_neg,Pz,OW]),show (0:Int)=((0:Nat):Int)from rfl,e];by_cases h:a=b
  ·simp (disch:=omega) only[Ns,MX,Na,wrap64,MO,MR,dec_not,dec_and,OC,N9,cond_true,cond_false,ahl,ahm,ahw,ahA,aht,ahv,aho,ahp,ahu,ahs,ahr,ahn,ahz,ahq,ahy,if_true,if_false,and_self,true_and,and_true,and_false,false_and,or_true,true_or,or_false,false_or,not_true_eq_false,not_false_eq_true,decide_true,decide_false,eq_self,if_pos,if_neg,Pz,OW];rw[Nz.q0];simp (disch:=omega) only[Ns,MX,Na,wrap64,MO,MR,dec_not,dec_and,OC,N9,cond_true,cond_false,ahl,ahm,ahw,ahA,aht,ahv,aho,ahp,ahu,ahs,ahr,ahn,ahz,ahq,ahy,if_true,if_false,and_self,true_and,and_true,and_false,false_and,or_true,true_or,or_false,false_or,not_true_eq_false,not_false_eq_true,decide_true,decide_false,eq_self,if_pos,if_neg,Pz,OW,Nz.b0]
  ·simp (disch:=omega) only[Ns,MX,Na,wrap64,MO,MR,dec_not,dec_and,OC,N9,cond_true,cond_false,ahl,ahm,ahw,ahA,aht,ahv,aho,ahp,ahu,ahs,ahr,ahn,ahz,ahq,ahy,if_true,if_false,and_self,true_and,and_true,and_false,false_and,or_true,true_or,or_false,false_or,not_true_eq_false,not_false_eq_true,decide_true,decide_false,eq_self,if_pos,if_neg,Pz,OW]
 ·rw[cond_pos (by simp (disch:=omega) only[Ns,MX,Na,wrap64,MO,MR,dec_not,dec_and,OC,N9,cond_true,cond_false,ahl,ahm,ahw,ahA,aht,ahv,aho,ahp,ahu,ahs,ahr,ahn,ahz,ahq,ahy,if_true,if_false,and_self,true_and,and_true,and_false,false_and,or_true,true_or,or_false,false_or,not_true_eq_false,not_false_eq_true,decide_true,decide_false,eq_self,if_pos,if_neg,Pz,OW]),MR (fun q=>hl (by rw[q]))]
theorem texts_eq(a b:List (List Int))(ha:a.length<9223372036854775808)(hb:b.length<9223372036854775808):Oc.run .lim (a,b,())=some (decide (a=b)):=by
 simp only[Oc.run,MS ha,MS hb,cond_true];by_cases hl:a.length=b.length
 ·have e:=Tt (f:=Oc.l0 .lim) (fun k=>(a,b,(k:Int),())) a.length (fun k=> !decide (rd ([]:List Int) a k=rd ([]:List Int) b k)) (some (.inl (false,()))) (fun k hk=>by
   rw[Oc.q0];have w:=wk k (by omega);simp (disch:=omega) only[Ns,MX,Na,wrap64,MO,MR,dec_not,dec_and,OC,N9,cond_true,cond_false,ahl,ahm,ahw,ahA,aht,ahv,aho,ahp,ahu,ahs,ahr,ahn,ahz,ahq,ahy,if_true,if_false,and_self,true_and,and_true,and_false,false_and,or_true,true_or,or_false,false_or,not_true_eq_false,not_false_eq_true,decide_true,decide_false,eq_self,if_pos,if_neg,Pz,OW,Oc.b0,w])
  rw[Xj hl]at e;rw[cond_neg (by simp (disch:=omega) only[Ns,MX,Na,wrap64,MO,MR,dec_not,dec_and,OC,N9,cond_true,cond_false,ahl,ahm,ahw,ahA,aht,ahv,aho,ahp,ahu,ahs,ahr,ahn,ahz,ahq,ahy,if_true,if_false,and_self,true_and,and_true,and_false,false_and,or_true,true_or,or_false,false_or,not_true_eq_false,not_false_eq_true,decide_true,decide_false,eq_self,if_pos,if_neg,Pz,OW]),show (0:Int)=((0:Nat):Int)from rfl,e];by_cases h:a=b
  ·simp (disch:=omega) only[Ns,MX,Na,wrap64,MO,MR,dec_not,dec_and,OC,N9,cond_true,cond_false,ahl,ahm,ahw,ahA,aht,ahv,aho,ahp,ahu,ahs,ahr,ahn,ahz,ahq,ahy,if_true,if_false,and_self,true_and,and_true,and_false,false_and,or_true,true_or,or_false,false_or,not_true_eq_false,not_false_eq_true,decide_true,decide_false,eq_self,if_pos,if_neg,Pz,OW];rw[Oc.q0];simp (disch:=omega) only[Ns,MX,Na,wrap64,MO,MR,dec_not,dec_and,OC,N9,cond_true,cond_false,ahl,ahm,ahw,ahA,aht,ahv,aho,ahp,ahu,ahs,ahr,ahn,ahz,ahq,ahy,if_true,if_false,and_self,true_and,and_true,and_false,false_and,or_true,true_or,or_false,false_or,not_true_eq_false,not_false_eq_true,decide_true,decide_false,eq_self,if_pos,if_neg,Pz,OW,Oc.b0]
  ·simp (disch:=omega) only[Ns,MX,Na,wrap64,MO,MR,dec_not,dec_and,OC,N9,cond_true,cond_false,ahl,ahm,ahw,ahA,aht,ahv,aho,ahp,ahu,ahs,ahr,ahn,ahz,ahq,ahy,if_true,if_false,and_self,true_and,and_true,and_false,false_and,or_true,true_or,or_false,false_or,not_true_eq_false,not_false_eq_true,decide_true,decide_false,eq_self,if_pos,if_neg,Pz,OW]
 ·rw[cond_pos (by simp (disch:=omega) only[Ns,MX,Na,wrap64,MO,MR,dec_not,dec_and,OC,N9,cond_true,cond_false,ahl,ahm,ahw,ahA,aht,ahv,aho,ahp,ahu,ahs,ahr,ahn,ahz,ahq,ahy,if_true,if_false,and_self,true_and,and_true,and_false,false_and,or_true,true_or,or_false,false_or,not_true_eq_false,not_false_eq_true,decide_true,decide_false,eq_self,if_pos,if_neg,Pz,OW]),MR (fun q=>hl (by rw[q]))]
def Vr(a b:KK):Bool:=decide (a.1=b.1)&&decide (a.2.2.1=b.2.2.1)&&decide (a.2.1=b.2.1)
theorem Y7(a b:KK):Vr a b=Vr b a:=by
 unfold Vr;rw[show decide (a.1=b.1)=decide (b.1=a.1)from by congr 1;exact propext ⟨aiy,aiy⟩,show decide (a.2.2.1=b.2.2.1)=decide (b.2.2.1=a.2.2.1)from by congr 1;exact propext ⟨aiy,aiy⟩,show decide (a.2.1=b.2.1)=decide (b.2.1=a.2.1)from by congr 1;exact propext ⟨aiy,aiy⟩]
theorem abD(a b:KK)(ha:a.2.1.length<9223372036854775808)(hb:b.2.1.length<9223372036854775808):RI.run .lim (a,b,())=some (Vr a b):=by
 simp only[RI.run,Zd _ _ ha hb];unfold Vr;cases decide (a.1=b.1)&&decide (a.2.2.1=b.2.2.1)<;>rfl
theorem V6(a b:KK)(ha:a.2.1.length<9223372036854775808)(hb:b.2.1.length<9223372036854775808):Ox.run .lim (a,b,())=some (Vr a b):=by
 simp only[Ox.run,texts_eq _ _ ha hb];unfold Vr;cases decide (a.1=b.1)&&decide (a.2.2.1=b.2.2.1)<;>rfl
def byteOf(n:Int)(k:Nat):Int:=(n/256^k)%256
def VD(n:Int):List Int:=(ahI 16).map fun i=>byteOf n (15-i)
def txt(n:Int)(plain:List Int):List Int:=VD n++ahB plain.length 0
theorem afF: ∀n:Nat,EM [0] n=ahB n 0
 |0=>rfl
 |n+1=>by rw[EM,afF n];rfl
def part(n:Int)(k:Nat):List Int:=(ahI 16).map fun i=>if i<16-k then 0 else byteOf n (15-i)
theorem Yl(n:Int):part n 0=ahB 16 0:=by
 unfold part;rw[aib];refine⟨by simp,fun b hb=> ?_⟩;obtain⟨i,hi,rfl⟩:=ah2.1 hb;rw[if_pos (by have:=ahQ.1 hi;omega)]
theorem XH(n:Int)(k:Nat):(part n k).length=16:=by simp[part]
theorem Zp(n:Int)(k:Nat)(hk:k<16):(part n k).set (15-k) (byteOf n k)=part n (k+1):=by
 apply aiw (by simp[part])
 intro i h1 h2;have hi:i<16:=by rw[List.length_set,XH]at h1;exact h1
 rw[aix];simp only[part,ah_,ah1];split
 ·rw[if_neg (by omega)];congr 1;omega
 ·by_cases h:i<16-(k+1)
  ·rw[if_pos (by omega),if_pos h]
  ·rw[if_neg (by omega),if_neg h]
theorem acf(n:Int):part n 16=VD n:=by
 unfold part VD;apply ahX
 intro i _;rw[if_neg (by omega)]
theorem Y9{n:Int}(h0:0<=n)(h1:n<9223372036854775808){k:Nat}(hk:8<=k):byteOf n k=0:=by
 unfold byteOf;rw[Int.ediv_eq_zero_of_lt h0];· rfl
 obtain⟨j,rfl⟩: ∃j,k=8+j:=⟨k-8,by omega⟩;rw[Int.pow_add];have:(0:Int)<256^j:=ahV (by omega);have h2:(256:Int)^8*1<=256^8*256^j:=Int.mul_le_mul_of_nonneg_left (by omega) (by decide);have h3:(256:Int)^8=18446744073709551616:=by decide
 rw[h3]at h2 ⊢;omega
theorem afE{n:Int}(h0:0<=n)(h1:n<9223372036854775808):part n 8=VD n:=by
 unfold part VD;apply ahX
 intro i _;split
 ·rw[Y9 h0 h1 (by omega)]
 ·rfl
theorem number_eq(n:Int)(plain:List Int)(h0:0<=n)(h1:n<9223372036854775808)(hp:plain.length<=100000):Po.run .lim (n,plain,())=some (txt n plain):=by
 have e:=Om (f:=Po.l0 .lim) (fun k=>(n,plain,(k:Int),part n k,())) (n:=8) (fun k hk=>by
  rw[Po.q0];have w:=wk k (by omega);have w2:ahk.wrap ((8:Int)*k)=((8*k:Nat):Int):=by rw[wrap64 (by omega) (by omega)];omega
  have w3:ahk.wrap ((15:Int)-k)=((15-k:Nat):Int):=by rw[wrap64 (by omega) (by omega)];omega
  have hb:ahF.wrap (I_ .i64 n ((8*k:Nat):Int))=byteOf n k:=by
   rw[Qx];unfold I_ byteOf;rw[ahx,show min (8*k) (IntKind.bits .i64)=8*k from by show min (8*k) 64=_;omega,ahZ _ (ah0 (ahV (by omega))),Int.pow_mul];rfl
  simp (disch:=omega) only[Ns,MX,Na,wrap64,MO,MR,dec_not,dec_and,OC,N9,cond_true,cond_false,ahl,ahm,ahw,ahA,aht,ahv,aho,ahp,ahu,ahs,ahr,ahn,ahz,ahq,ahy,if_true,if_false,and_self,true_and,and_true,and_false,false_and,or_true,true_or,or_false,false_or,not_true_eq_false,not_false_eq_true,decide_true,decide_false,eq_self,if_pos,if_neg,Pz,OW,Po.b0,w,w2,w3,hb,ahx,Zp])
 rw[Yl,show ((0:Nat):Int)=0 from rfl]at e;simp only[Po.run,e];rw[Po.q0];have hr:strings_Repeat.run .lim ([0],(plain.length:Int),())=some (ahB plain.length 0):=by
  show KY _=_;unfold KY;rw[cond_pos (by simp;omega),ahx,afF]
 simp (disch:=omega) only[Ns,MX,Na,wrap64,MO,MR,dec_not,dec_and,OC,N9,cond_true,cond_false,ahl,ahm,ahw,ahA,aht,ahv,aho,ahp,ahu,ahs,ahr,ahn,ahz,ahq,ahy,if_true,if_false,and_self,true_and,and_true,and_false,false_and,or_true,true_or,or_false,false_or,not_true_eq_false,not_false_eq_true,decide_true,decide_false,eq_self,if_pos,if_neg,Pz,OW,Po.b0,MS (show plain.length<9223372036854775808 by omega),hr];rw[afE h0 h1,ah4,ahK (by simp[VD]),if_pos]
 ·rfl
 ·rw[aie,VD,aiB,aiu];unfold maxStr;omega
theorem ZA(n:Int)(plain:List Int)(h0:0<=n)(h1:n<9223372036854775808)(hp:plain.length<=100000):Og.run .lim (n,plain,())=some (txt n plain):=by
 have w0:ahk.wrap ((16:Int)+plain.length)=((16+plain.length:Nat):Int):=by rw[wrap64 (by omega) (by omega)];omega
 have e:=Om (f:=Og.l0 .lim) (fun k=>(n/256^k,(15:Int)-k,part n k++ahB plain.length 0,())) (n:=16) (fun k hk=>by
  rw[Og.q0];have hn:0<=n/256^k:=aiz h0 (ah0 (ahV (by omega)));have hn2:n/256^k<=n:=aiv _ h0;have w1:ahk.wrap ((n/256^k).tdiv 256)=n/256^(k+1):=by
   rw[ahJ hn,Int.ediv_ediv_of_nonneg (ah0 (ahV (by omega))),show (256:Int)^k*256=256^(k+1)from(aiD _ _).symm];have:n/256^(k+1)<=n:=aiv _ h0;have:0<=n/256^(k+1):=aiz h0 (ah0 (ahV (by omega)));rw[wrap64 (by omega) (by omega)]
  have w2:ahk.wrap ((15:Int)-k-1)=(15:Int)-(k+1:Nat):=by rw[wrap64 (by omega) (by omega)];omega
  have hb:ahF.wrap ((n/256^k).tmod 256)=byteOf n k:=by rw[Qx,ahC hn];unfold byteOf;omega
  have hl:(part n k++ahB plain.length 0).length=16+plain.length:=by simp[XH]
  have ht:((15:Int)-k).toNat=15-k:=by omega
  have hs:(part n k++ahB plain.length (0:Int)).set (15-k) (byteOf n k)=part n (k+1)++ahB plain.length 0:=by rw[List.set_append_left _ _ (by rw[XH];omega),Zp n k hk]
  simp (disch:=omega) only[Ns,MX,Na,wrap64,MO,MR,dec_not,dec_and,OC,N9,cond_true,cond_false,ahl,ahm,ahw,ahA,aht,ahv,aho,ahp,ahu,ahs,ahr,ahn,ahz,ahq,ahy,if_true,if_false,and_self,true_and,and_true,and_false,false_and,or_true,true_or,or_false,false_or,not_true_eq_false,not_false_eq_true,decide_true,decide_false,eq_self,if_pos,if_neg,Pz,OW,Og.b0,w1,w2,hb,hl,ht,hs])
 have hz:ahB (16+plain.length) (0:Int)=part n 0++ahB plain.length 0:=by rw[Yl,List.replicate_append_replicate]
 rw[Int.pow_zero,Int.ediv_one,show (15:Int)-((0:Nat):Int)=15 from rfl]at e;simp only[Og.run,w0,ahx,hz,e];rw[Og.q0];simp (disch:=omega) only[Ns,MX,Na,wrap64,MO,MR,dec_not,dec_and,OC,N9,cond_true,cond_false,ahl,ahm,ahw,ahA,aht,ahv,aho,ahp,ahu,ahs,ahr,ahn,ahz,ahq,ahy,if_true,if_false,and_self,true_and,and_true,and_false,false_and,or_true,true_or,or_false,false_or,not_true_eq_false,not_false_eq_true,decide_true,decide_false,eq_self,if_pos,if_neg,Pz,OW,Og.b0,MS (show plain.length<9223372036854775808 by omega)];rw[cond_pos (by rw[Nat.blt_eq];omega),acf];rfl
end Go.AM
end
section
namespace Go.AM
abbrev VV:=Bool×List KK
def ZL(k:KK):Prop:=k.1.length<9223372036854775808/\k.2.1.length<9223372036854775808/\(∀s∈k.2.1,s.length<9223372036854775808)/\k.2.2.1.length<9223372036854775808/\k.2.2.2.length<9223372036854775808
def okV(v:VV):Prop:=v.2.length<9223372036854775808/\ ∀k∈v.2,ZL k
theorem okV.at{v:VV}(h:okV v){k:Nat}(hk:k<v.2.length):ZL (rd k0 v.2 (k:Int)):=h.2 _ (Oj (by omega) (by omega))
def RP(k:KK):Int:=if k.1.length≠32/\k.1.length≠64 then 13 else if k.2.1.length>126 then 18 else 0
theorem XM(k:KK)(h:k.1.length<9223372036854775808)(h2:k.2.1.length<9223372036854775808):Qo.run .lim (k,())=some (RP k):=by
 unfold RP;simp only[Qo.run,MS h,MS h2,cond_true,ahw];by_cases h3:k.1.length≠32/\k.1.length≠64
 ·rw[cond_pos (by simp (disch:=omega) only[Ns,MX,Na,wrap64,MO,MR,dec_not,dec_and,OC,N9,cond_true,cond_false,ahl,ahm,ahw,ahA,aht,ahv,aho,ahp,ahu,ahs,ahr,ahn,ahz,ahq,ahy,if_true,if_false,and_self,true_and,and_true,and_false,false_and,or_true,true_or,or_false,false_or,not_true_eq_false,not_false_eq_true,decide_true,decide_false,eq_self,if_pos,if_neg,Pz,OW,MO (show ¬((k.1.length:Int)=32) by omega),MO (show ¬((k.1.length:Int)=64) by omega)]),if_pos h3]
 ·rw[cond_neg,if_neg h3]
  ·by_cases h4:k.2.1.length>126<;>simp (disch:=omega) only[Ns,MX,Na,wrap64,MO,MR,dec_not,dec_and,OC,N9,cond_true,cond_false,ahl,ahm,ahw,ahA,aht,ahv,aho,ahp,ahu,ahs,ahr,ahn,ahz,ahq,ahy,if_true,if_false,and_self,true_and,and_true,and_false,false_and,or_true,true_or,or_false,false_or,not_true_eq_false,not_false_eq_true,decide_true,decide_false,eq_self,if_pos,if_neg,Pz,OW]
  ·by_cases h4:k.1.length=32
   ·simp (disch:=omega) only[Ns,MX,Na,wrap64,MO,MR,dec_not,dec_and,OC,N9,cond_true,cond_false,ahl,ahm,ahw,ahA,aht,ahv,aho,ahp,ahu,ahs,ahr,ahn,ahz,ahq,ahy,if_true,if_false,and_self,true_and,and_true,and_false,false_and,or_true,true_or,or_false,false_or,not_true_eq_false,not_false_eq_true,decide_true,decide_false,eq_self,if_pos,if_neg,Pz,OW]
   ·simp (disch:=omega) only[Ns,MX,Na,wrap64,MO,MR,dec_not,dec_and,OC,N9,cond_true,cond_false,ahl,ahm,ahw,ahA,aht,ahv,aho,ahp,ahu,ahs,ahr,ahn,ahz,ahq,ahy,if_true,if_false,and_self,true_and,and_true,and_false,false_and,or_true,true_or,or_false,false_or,not_true_eq_false,not_false_eq_true,decide_true,decide_false,eq_self,if_pos,if_neg,Pz,OW]
def X9(xs:List KK)(i:Nat):Bool:=
 !decide (RP (rd k0 xs i)=0)||decide ((rd k0 xs i).2.2.1.length>65536)|| !decide ((rd k0 xs i).2.2.2=txt ((i:Int)+1) (rd k0 xs i).2.2.1)||(ahI i).any fun j=>Vr (rd k0 xs j) (rd k0 xs i)
def P_(v:VV):Bool:=bif v.1 then decide (v.2.length<=2048)&& !((ahI v.2.length).any (X9 v.2))else decide (v.2.length=0)
theorem ads(xs:List KK)(i:Nat)(q:KK)(b:Bool)(hi:i<=xs.length)(hy:xs.length<9223372036854775808)(hok: ∀k∈xs,ZL k)(hq:ZL q):
  NK.l0 .lim ((i:Int),0,b,xs,q.1,q.2.1,q.2.2.1,q.2.2.2,())=bif(ahI i).any (fun j=>Vr (rd k0 xs j) q)then some (.inl (false,()))else some (.inr ((i:Int),b,xs,())):=by
 have e:=Tt (f:=NK.l0 .lim) (fun j=>((i:Int),(j:Int),b,xs,q.1,q.2.1,q.2.2.1,q.2.2.2,())) i (fun j=>Vr (rd k0 xs j) q) (some (.inl (false,()))) (fun k hk=>by
  rw[NK.q0];have ha:=V6 q (rd k0 xs k) hq.2.1 (hok _ (Oj (by omega) (by omega))).2.1;rw[Y7]at ha;have ha:Ox.run .lim ((q.1,q.2.1,q.2.2.1,q.2.2.2),rd k0 xs k,())=some (Vr (rd k0 xs k) q):=ha;simp (disch:=omega) only[Ns,MX,Na,wrap64,MO,MR,dec_not,dec_and,OC,N9,cond_true,cond_false,ahl,ahm,ahw,ahA,aht,ahv,aho,ahp,ahu,ahs,ahr,ahn,ahz,ahq,ahy,if_true,if_false,and_self,true_and,and_true,and_false,false_and,or_true,true_or,or_false,false_or,not_true_eq_false,not_false_eq_true,decide_true,decide_false,eq_self,if_pos,if_neg,Pz,OW,NK.b0,wk k (by omega),ha])
 refine e.trans ?_;rw[NK.q0];simp (disch:=omega) only[Ns,MX,Na,wrap64,MO,MR,dec_not,dec_and,OC,N9,cond_true,cond_false,ahl,ahm,ahw,ahA,aht,ahv,aho,ahp,ahu,ahs,ahr,ahn,ahz,ahq,ahy,if_true,if_false,and_self,true_and,and_true,and_false,false_and,or_true,true_or,or_false,false_or,not_true_eq_false,not_false_eq_true,decide_true,decide_false,eq_self,if_pos,if_neg,Pz,OW,NK.b0]
theorem agC(q:KK):((!decide ((q.1.length:Int)=32)&& !decide ((q.1.length:Int)=64))||decide ((q.2.1.length:Int)>126))= !decide (RP q=0):=by
 unfold RP;by_cases h1:q.1.length≠32/\q.1.length≠64
 ·rw[if_pos h1,MR (show ¬(q.1.length:Int)=32 by omega),MR (show ¬(q.1.length:Int)=64 by omega)];rfl
 ·rw[if_neg h1];have:(!decide ((q.1.length:Int)=32)&& !decide ((q.1.length:Int)=64))=false:=by
   by_cases h2:q.1.length=32
   ·rw[MO (by omega)];rfl
   ·rw[MO (show (q.1.length:Int)=64 by omega),ahr,aho]
  rw[this,ahs];by_cases h3:q.2.1.length>126
  ·rw[if_pos h3,MO (by omega)];rfl
  ·rw[if_neg h3,MR (by omega)];rfl
theorem adr(v:VV)(h:okV v):NK.run .lim (v,())=some (P_ v):=by
 obtain⟨b,xs⟩:=v;have hx:xs.length<9223372036854775808:=h.1;unfold P_;simp only[NK.run,MS hx];cases b with
 |false=>simp only[cond_true,cond_false,ahl,ahm,ahw,ahA,aht,ahv,aho,ahp,ahu,ahs,ahr,ahn,ahz,ahq,ahy];congr 2;simp
 |true=>
  simp only[cond_true,cond_false,ahl,ahm,ahw,ahA,aht,ahv,aho,ahp,ahu,ahs,ahr,ahn,ahz,ahq,ahy];by_cases h1:xs.length<=2048
  ·obtain⟨j,_,e⟩:=ab1 (f:=NK.l1 .lim) (fun k=>((k:Int),true,xs,())) xs.length (X9 xs) (fun k=>bif(!decide (RP (rd k0 xs k)=0)||decide ((rd k0 xs k).2.2.1.length>65536)|| !decide ((rd k0 xs k).2.2.2=txt ((k:Int)+1) (rd k0 xs k).2.2.1))then some (.inl (false,()))else some (.inr (.inl (false,())))) (fun k hk=>by
    rw[NK.q1];have w:=wk k (by omega);have hk':ZL (rd k0 xs k):=h.at (v:=(true,xs)) hk;have hn:=fun hh=>ZA ((k:Int)+1) (rd k0 xs k).2.2.1 (by omega) (by omega) hh
    have e2:=ads xs k (rd k0 xs k) true (by omega) hx h.2 hk';unfold X9;simp only[NK.b1,MS hx,MO (show (k:Int)<(xs.length:Int) by omega),MX (show (0:Int)<=k by omega) (show (k:Int)<xs.length by omega),MS hk'.1,MS hk'.2.1,MS hk'.2.2.2.1,w,agC];rw[show ((k+1:Nat):Int)=(k:Int)+1 by omega];simp only[cond_true,cond_false,ahl,ahm,ahw,ahA,aht,ahv,aho,ahp,ahu,ahs,ahr,ahn,ahz,ahq,ahy];by_cases c1:RP (rd k0 xs k)=0
    ·by_cases c2:(rd k0 xs k).2.2.1.length>65536
     ·simp only[MO c1,MO c2,MO (show ((rd k0 xs k).2.2.1.length:Int)>65536 by omega)];simp only[cond_true,cond_false,ahl,ahm,ahw,ahA,aht,ahv,aho,ahp,ahu,ahs,ahr,ahn,ahz,ahq,ahy]
     ·simp only[MO c1,MR c2,MR (show ¬((rd k0 xs k).2.2.1.length:Int)>65536 by omega)];simp only[cond_true,cond_false,ahl,ahm,ahw,ahA,aht,ahv,aho,ahp,ahu,ahs,ahr,ahn,ahz,ahq,ahy];rw[hn (by omega)];simp only[cond_true,cond_false,ahl,ahm,ahw,ahA,aht,ahv,aho,ahp,ahu,ahs,ahr,ahn,ahz,ahq,ahy];by_cases c3:(rd k0 xs k).2.2.2=txt ((k:Int)+1) (rd k0 xs k).2.2.1
      ·simp only[MO c3];simp only[cond_true,cond_false,ahl,ahm,ahw,ahA,aht,ahv,aho,ahp,ahu,ahs,ahr,ahn,ahz,ahq,ahy];rw[e2];cases (ahI k).any fun j=>Vr (rd k0 xs j) (rd k0 xs k)
       ·simp only[cond_true,cond_false,ahl,ahm,ahw,ahA,aht,ahv,aho,ahp,ahu,ahs,ahr,ahn,ahz,ahq,ahy];rw[show ahk.wrap ((k:Int)+1)=(k:Int)+1 by rw[w];omega]
       ·simp only[cond_true,cond_false,ahl,ahm,ahw,ahA,aht,ahv,aho,ahp,ahu,ahs,ahr,ahn,ahz,ahq,ahy]
      ·simp only[MR c3];simp only[cond_true,cond_false,ahl,ahm,ahw,ahA,aht,ahv,aho,ahp,ahu,ahs,ahr,ahn,ahz,ahq,ahy]
    ·simp only[MR c1];simp only[cond_true,cond_false,ahl,ahm,ahw,ahA,aht,ahv,aho,ahp,ahu,ahs,ahr,ahn,ahz,ahq,ahy])
   rw[show ((0:Nat):Int)=0 from rfl]at e;rw[cond_neg (by simp (disch:=omega) only[Ns,MX,Na,wrap64,MO,MR,dec_not,dec_and,OC,N9,cond_true,cond_false,ahl,ahm,ahw,ahA,aht,ahv,aho,ahp,ahu,ahs,ahr,ahn,ahz,ahq,ahy,if_true,if_false,and_self,true_and,and_true,and_false,false_and,or_true,true_or,or_false,false_or,not_true_eq_false,not_false_eq_true,decide_true,decide_false,eq_self,if_pos,if_neg,Pz,OW]),e,NK.q1];simp (disch:=omega) only[Ns,MX,Na,wrap64,MO,MR,dec_not,dec_and,OC,N9,cond_true,cond_false,ahl,ahm,ahw,ahA,aht,ahv,aho,ahp,ahu,ahs,ahr,ahn,ahz,ahq,ahy,if_true,if_false,and_self,true_and,and_true,and_false,false_and,or_true,true_or,or_false,false_or,not_true_eq_false,not_false_eq_true,decide_true,decide_false,eq_self,if_pos,if_neg,Pz,OW,NK.b1,MS hx];cases (ahI xs.length).any (X9 xs)
   ·rfl
   ·simp only[cond_true,cond_false,ahl,ahm,ahw,ahA,aht,ahv,aho,ahp,ahu,ahs,ahr,ahn,ahz,ahq,ahy];split<;>rfl
  ·rw[cond_pos (by simp (disch:=omega) only[Ns,MX,Na,wrap64,MO,MR,dec_not,dec_and,OC,N9,cond_true,cond_false,ahl,ahm,ahw,ahA,aht,ahv,aho,ahp,ahu,ahs,ahr,ahn,ahz,ahq,ahy,if_true,if_false,and_self,true_and,and_true,and_false,false_and,or_true,true_or,or_false,false_or,not_true_eq_false,not_false_eq_true,decide_true,decide_false,eq_self,if_pos,if_neg,Pz,OW]),MR h1];simp only[cond_true,cond_false,ahl,ahm,ahw,ahA,aht,ahv,aho,ahp,ahu,ahs,ahr,ahn,ahz,ahq,ahy]
theorem abE(a b:KK):(Vr a b&&decide (a.2.2.2=b.2.2.2))=decide (a=b):=by
 obtain⟨a1,a2,a3,a4⟩:=a;obtain⟨b1,b2,b3,b4⟩:=b;unfold Vr;simp only;by_cases h1:a1=b1<;>by_cases h2:a2=b2<;>by_cases h3:a3=b3<;>by_cases h4:a4=b4<;>simp[h1,h2,h3,h4]
theorem acs(v w:VV)(hv:okV v)(hw:okV w):Oq.run .lim (v,w,())=some (decide (v=w)):=by
 obtain⟨a,xs⟩:=v;obtain⟨b,ys⟩:=w;have hx:xs.length<9223372036854775808:=hv.1;have hy:ys.length<9223372036854775808:=hw.1;simp only[Oq.run,MS hx,MS hy];by_cases hab:a=b
 ·subst hab;rw[show (a==a)=true by simp];simp only[cond_true,cond_false,ahl,ahm,ahw,ahA,aht,ahv,aho,ahp,ahu,ahs,ahr,ahn,ahz,ahq,ahy];by_cases hl:xs.length=ys.length
  ·have e:=Tt (f:=Oq.l0 .lim) (fun k=>((k:Int),a,xs,a,ys,())) xs.length (fun k=> !decide (rd k0 xs k=rd k0 ys k)) (some (.inl (false,()))) (fun k hk=>by
    rw[Oq.q0];have hs:=V6 (rd k0 xs k) (rd k0 ys k) (hv.at hk).2.1 (hw.at (v:=(a,ys)) (k:=k) (by show k<ys.length;omega)).2.1;simp only[Oq.b0,wk k (by omega),hs,MS hx,MO (show (k:Int)<(xs.length:Int) by omega),MX (show (0:Int)<=k by omega) (show (k:Int)<xs.length by omega),MX (show (0:Int)<=k by omega) (show (k:Int)<ys.length by omega)];simp only[cond_true,cond_false,ahl,ahm,ahw,ahA,aht,ahv,aho,ahp,ahu,ahs,ahr,ahn,ahz,ahq,ahy];rw[<-abE (rd k0 xs k) (rd k0 ys k)];cases Vr (rd k0 xs k) (rd k0 ys k)<;>simp only[cond_true,cond_false,ahl,ahm,ahw,ahA,aht,ahv,aho,ahp,ahu,ahs,ahr,ahn,ahz,ahq,ahy])
   rw[Xj hl,show ((0:Nat):Int)=0 from rfl]at e;rw[cond_neg (by simp (disch:=omega) only[Ns,MX,Na,wrap64,MO,MR,dec_not,dec_and,OC,N9,cond_true,cond_false,ahl,ahm,ahw,ahA,aht,ahv,aho,ahp,ahu,ahs,ahr,ahn,ahz,ahq,ahy,if_true,if_false,and_self,true_and,and_true,and_false,false_and,or_true,true_or,or_false,false_or,not_true_eq_false,not_false_eq_true,decide_true,decide_false,eq_self,if_pos,if_neg,Pz,OW]),e,Oq.q0];simp (disch:=omega) only[Ns,MX,Na,wrap64,MO,MR,dec_not,dec_and,OC,N9,cond_true,cond_false,ahl,ahm,ahw,ahA,aht,ahv,aho,ahp,ahu,ahs,ahr,ahn,ahz,ahq,ahy,if_true,if_false,and_self,true_and,and_true,and_false,false_and,or_true,true_or,or_false,false_or,not_true_eq_false,not_false_eq_true,decide_true,decide_false,eq_self,if_pos,if_neg,Pz,OW,Oq.b0,MS hx];by_cases h:xs=ys
   ·subst h;simp (disch:=omega) only[Ns,MX,Na,wrap64,MO,MR,dec_not,dec_and,OC,N9,cond_true,cond_false,ahl,ahm,ahw,ahA,aht,ahv,aho,ahp,ahu,ahs,ahr,ahn,ahz,ahq,ahy,if_true,if_false,and_self,true_and,and_true,and_false,false_and,or_true,true_or,or_false,false_or,not_true_eq_false,not_false_eq_true,decide_true,decide_false,eq_self,if_pos,if_neg,Pz,OW]
   ·rw[MR (fun q=>h (aiC q).2)];simp (disch:=omega) only[Ns,MX,Na,wrap64,MO,MR,dec_not,dec_and,OC,N9,cond_true,cond_false,ahl,ahm,ahw,ahA,aht,ahv,aho,ahp,ahu,ahs,ahr,ahn,ahz,ahq,ahy,if_true,if_false,and_self,true_and,and_true,and_false,false_and,or_true,true_or,or_false,false_or,not_true_eq_false,not_false_eq_true,decide_true,decide_false,eq_self,if_pos,if_neg,Pz,OW]
  ·rw[cond_pos (by simp (disch:=omega) only[Ns,MX,Na,wrap64,MO,MR,dec_not,dec_and,OC,N9,cond_true,cond_false,ahl,ahm,ahw,ahA,aht,ahv,aho,ahp,ahu,ahs,ahr,ahn,ahz,ahq,ahy,if_true,if_false,and_self,true_and,and_true,and_false,false_and,or_true,true_or,or_false,false_or,not_true_eq_false,not_false_eq_true,decide_true,decide_false,eq_self,if_pos,if_neg,Pz,OW]),MR];exact fun q=>hl (by rw[(aiC q).2])
 ·rw[show (a==b)=false by simpa using hab,MR (fun q=>hab (aiC q).1)];simp only[cond_true,cond_false,ahl,ahm,ahw,ahA,aht,ahv,aho,ahp,ahu,ahs,ahr,ahn,ahz,ahq,ahy]
theorem ZX(v:VV)(h:okV v): ∃r,Nq.run .lim (v,())=some r:=by
 obtain⟨b,xs⟩:=v;have hx:xs.length<9223372036854775808:=h.1
 -- the inner loop
 have inner: ∀(n:Nat) (left:Int) (j:Nat) (i:Int) (q:KK),ZL q->j+n=q.2.1.length-> -9223372036854775808<=left->left<9223372036854775808-> ∃l:Int,-9223372036854775808<=l/\l<9223372036854775808/\Nq.l0 .lim (left,i,(j:Int),b,xs,q.1,q.2.1,q.2.2.1,q.2.2.2,())=some (l,i,b,xs,()):=by
  intro n
  induction n with
  |zero=>
   intro left j i q hq hj h1 h2;refine⟨left,h1,h2,?_⟩;rw[Nq.q0];simp (disch:=omega) only[Ns,MX,Na,wrap64,MO,MR,dec_not,dec_and,OC,N9,cond_true,cond_false,ahl,ahm,ahw,ahA,aht,ahv,aho,ahp,ahu,ahs,ahr,ahn,ahz,ahq,ahy,if_true,if_false,and_self,true_and,and_true,and_false,false_and,or_true,true_or,or_false,false_or,not_true_eq_false,not_false_eq_true,decide_true,decide_false,eq_self,if_pos,if_neg,Pz,OW,Nq.b0,MS hq.2.1]
  |succ n ih=>
   intro left j i q hq hj h1 h2;have hb:= @V_ (left-((rd ([]:List Int) q.2.1 (j:Int)).length:Int));have hs:=hq.2.2.1 (rd ([]:List Int) q.2.1 (j:Int)) (Oj (by omega) (by omega));by_cases hl:left>=0
   ·obtain⟨l,l1,l2,e⟩:=ih (ahk.wrap (left-((rd ([]:List Int) q.2.1 (j:Int)).length:Int))) (j+1) i q hq (by omega) hb.1 hb.2;refine⟨l,l1,l2,?_⟩;rw[Nq.q0,<-e];have hj':=hq.2.1;simp only[Nq.b0,MS hq.2.1,wk j (by omega),MS hs,MO hl,MO (show (j:Int)<(q.2.1.length:Int) by omega),MX (show (0:Int)<=j by omega) (show (j:Int)<q.2.1.length by omega)];simp only[cond_true,cond_false,ahl,ahm,ahw,ahA,aht,ahv,aho,ahp,ahu,ahs,ahr,ahn,ahz,ahq,ahy]
   ·refine⟨left,h1,h2,?_⟩;rw[Nq.q0];simp (disch:=omega) only[Ns,MX,Na,wrap64,MO,MR,dec_not,dec_and,OC,N9,cond_true,cond_false,ahl,ahm,ahw,ahA,aht,ahv,aho,ahp,ahu,ahs,ahr,ahn,ahz,ahq,ahy,if_true,if_false,and_self,true_and,and_true,and_false,false_and,or_true,true_or,or_false,false_or,not_true_eq_false,not_false_eq_true,decide_true,decide_false,eq_self,if_pos,if_neg,Pz,OW,Nq.b0,MS hq.2.1]
 have outer: ∀(n:Nat) (left:Int) (i:Nat),i+n=xs.length-> -9223372036854775808<=left->left<9223372036854775808-> ∃l:Int,Nq.l1 .lim (left,(i:Int),b,xs,())=some (l,b,xs,()):=by
  intro n
  induction n with
  |zero=>
   intro left i hi h1 h2;refine⟨left,?_⟩;rw[Nq.q1];simp (disch:=omega) only[Ns,MX,Na,wrap64,MO,MR,dec_not,dec_and,OC,N9,cond_true,cond_false,ahl,ahm,ahw,ahA,aht,ahv,aho,ahp,ahu,ahs,ahr,ahn,ahz,ahq,ahy,if_true,if_false,and_self,true_and,and_true,and_false,false_and,or_true,true_or,or_false,false_or,not_true_eq_false,not_false_eq_true,decide_true,decide_false,eq_self,if_pos,if_neg,Pz,OW,Nq.b1,MS hx]
  |succ n ih=>
   intro left i hi h1 h2;by_cases hl:left>=0
   ·have hk:ZL (rd k0 xs i):=h.at (v:=(b,xs)) (by show i<xs.length;omega);rw[Nq.q1];simp only[Nq.b1,MS hx,MS hk.1,MS hk.2.1,MS hk.2.2.2.1,MS hk.2.2.2.2,MO hl,MO (show (i:Int)<(xs.length:Int) by omega),MX (show (0:Int)<=i by omega) (show (i:Int)<xs.length by omega)];simp only[cond_true,cond_false,ahl,ahm,ahw,ahA,aht,ahv,aho,ahp,ahu,ahs,ahr,ahn,ahz,ahq,ahy];obtain⟨l,l1,l2,e⟩:=inner _ (ahk.wrap (ahk.wrap (ahk.wrap (ahk.wrap (ahk.wrap (left-10)-((rd k0 xs i).1.length:Int))-((rd k0 xs i).2.2.1.length:Int))-((rd k0 xs i).2.2.2.length:Int))-((rd k0 xs i).2.1.length:Int))) 0 (i:Int) (rd k0 xs i) hk (Nat.zero_add _) V_.1 V_.2;rw[show ((0:Nat):Int)=0 from rfl]at e;rw[e];obtain⟨l',e'⟩:=ih l (i+1) (by omega) l1 l2;refine⟨l',?_⟩;rw[<-e'];simp (disch:=omega) only[Ns,MX,Na,wrap64,MO,MR,dec_not,dec_and,OC,N9,cond_true,cond_false,ahl,ahm,ahw,ahA,aht,ahv,aho,ahp,ahu,ahs,ahr,ahn,ahz,ahq,ahy,if_true,if_false,and_self,true_and,and_true,and_false,false_and,or_true,true_or,or_false,false_or,not_true_eq_false,not_false_eq_true,decide_true,decide_false,eq_self,if_pos,if_neg,Pz,OW,wk i (by omega)]
   ·refine⟨left,?_⟩;rw[Nq.q1];simp (disch:=omega) only[Ns,MX,Na,wrap64,MO,MR,dec_not,dec_and,OC,N9,cond_true,cond_false,ahl,ahm,ahw,ahA,aht,ahv,aho,ahp,ahu,ahs,ahr,ahn,ahz,ahq,ahy,if_true,if_false,and_self,true_and,and_true,and_false,false_and,or_true,true_or,or_false,false_or,not_true_eq_false,not_false_eq_true,decide_true,decide_false,eq_self,if_pos,if_neg,Pz,OW,Nq.b1,MS hx]
 obtain⟨l,e⟩:=outer xs.length 400000 0 (by omega) (by omega) (by omega);rw[show ((0:Nat):Int)=0 from rfl]at e;refine⟨decide (l>=0)&&decide ((xs.length:Int)<=300),?_⟩;simp only[Nq.run,e,MS hx];simp only[cond_true,cond_false,ahl,ahm,ahw,ahA,aht,ahv,aho,ahp,ahu,ahs,ahr,ahn,ahz,ahq,ahy,MS hx]
end Go.AM
end
section
namespace Go.AM
def hit(key:List Int)(ad:List (List Int))(t:List Int)(k:KK):Bool:=decide (k.2.2.2=t)&&decide (k.1=key)&&decide (k.2.1=ad)
theorem XA{n:Nat}(h:n<=140737488351232):n<9223372036854775808:=by omega
theorem agw{v:VV}(h:Ty.ok (.pair .bool (.lst (.pair .str (.pair (.lst .str) (.pair .str .str))))) v):okV v:=by
 obtain⟨_,h1,h2⟩:=h;refine⟨XA h1,fun k hk=> ?_⟩;obtain⟨a,⟨b1,b2⟩,c,d⟩:=h2 k hk;exact⟨XA a.1,XA b1,fun s hs=>XA (b2 s hs).1,XA c.1,XA d.1⟩
end Go.AM
end
section
namespace Go.AM
abbrev B8(x:Int):Prop:=0<=x/\x<256
theorem UQ(n:Int):B8 (ahF.wrap n):=by rw[Qx];unfold B8;omega
theorem SY{n:Int}(h:B8 n):ahF.wrap n=n:=by rw[Qx];unfold B8 at h;omega
theorem WE(a b:Int):B8 (Hy .u8 a b):=by unfold Hy ng;exact UQ _
theorem agx(a b:Int):B8 (KO .u8 a b):=by unfold KO ng;exact UQ _
theorem aaJ(a b:Int):B8 (I9 .u8 a b):=by unfold I9;exact UQ _
theorem aeT{a k:Int}:I_ .u8 a k=a/2^min k.toNat 8:=by
 unfold I_;rw[ahZ _ (ah0 (ahV (by omega)))];rfl
theorem xor_comm(a b:Int):Hy .u8 a b=Hy .u8 b a:=by
 show ahF.wrap (ahG 8 a ^^^ ahG 8 b).toNat=ahF.wrap (ahG 8 b ^^^ ahG 8 a).toNat;rw[BitVec.xor_comm]
theorem Wq(x:BitVec 8):ahG 8 (ahF.wrap x.toNat)=x:=by
 rw[Qx];apply BitVec.eq_of_toNat_eq
 have:=x.isLt;rw[aip];omega
theorem xor_assoc(a b c:Int):Hy .u8 (Hy .u8 a b) c=Hy .u8 a (Hy .u8 b c):=by
 show ahF.wrap (ahG 8 (ahF.wrap (ahG 8 a ^^^ ahG 8 b).toNat) ^^^ ahG 8 c).toNat=ahF.wrap (ahG 8 a ^^^ ahG 8 (ahF.wrap (ahG 8 b ^^^ ahG 8 c).toNat)).toNat;rw[Wq,Wq,BitVec.xor_assoc]
theorem xor_self(a:Int):Hy .u8 a a=0:=by
 show ahF.wrap (ahG 8 a ^^^ ahG 8 a).toNat=0;rw[BitVec.xor_self];rfl
theorem xor_zero{a:Int}(h:B8 a):Hy .u8 a 0=a:=by
 show ahF.wrap (ahG 8 a ^^^ ahG 8 0).toNat=a;rw[show ahG 8 0=0#8 from rfl,BitVec.xor_zero,aip,Qx];unfold B8 at h;omega
theorem zero_xor{a:Int}(h:B8 a):Hy .u8 0 a=a:=by rw[xor_comm,xor_zero h]
theorem Qb{p:Int->Prop}(h: ∀n:Nat,n<256->p n){a:Int}(ha:B8 a):p a:=by
 have:=h a.toNat (by unfold B8 at ha;omega)
 rwa [show ((a.toNat:Nat):Int)=a by unfold B8 at ha;omega]at this
def tab(n:Nat)(g:Nat->Int):List Int:=(ahI n).map g
@[simp] theorem P7{n:Nat}{g:Nat->Int}:(tab n g).length=n:=by simp[tab]
theorem Rl{n:Nat}{g:Nat->Int}{k:Nat}(h:k<n):rd 0 (tab n g) (k:Int)=g k:=by rw[Rj (by simpa using h)];simp[tab]
theorem aay{n:Nat}{g:Nat->Int}{k:Int}(h0:0<=k)(h:k<n):rd 0 (tab n g) k=g k.toNat:=by
 have:=Rl (n:=n) (g:=g) (k:=k.toNat) (by omega)
 rwa [show ((k.toNat:Nat):Int)=k by omega]at this
theorem Qa{n:Nat}{g h:Nat->Int}(e: ∀k,k<n->g k=h k):tab n g=tab n h:=by unfold tab;exact ahX fun k hk=>e k (ahQ.1 hk)
theorem Xf{n:Nat}{g:Nat->Int}{k:Nat}{v:Int}:(tab n g).set k v=tab n fun i=>if i=k then v else g i:=by
 unfold tab;apply aiw (by simp)
 intro i h1 h2;simp only[aix,ah_,ah1];by_cases h:k=i
 ·rw[if_pos h,if_pos h.symm]
 ·rw[if_neg h,if_neg (Ne.symm h)]
theorem X3{m:List Int}{n:Nat}(h:m.length=n):m=tab n fun i=>rd 0 m (i:Int):=by
 apply XJ (d:=0) (by simp[h])
 intro k hk;rw[Rl (by omega)]
def Ro(n k:Nat)(g:Nat->Int):List Int:=tab n fun i=>if i<k then g i else 0
@[simp] theorem UL{n k:Nat}{g:Nat->Int}:(Ro n k g).length=n:=P7
theorem Ry{n:Nat}{g:Nat->Int}:Ro n 0 g=ahB n 0:=by
 unfold Ro tab;rw[aib];exact⟨by simp,fun b hb=>by obtain⟨i,_,rfl⟩:=ah2.1 hb;simp⟩
theorem Ud{n:Nat}{g:Nat->Int}:Ro n n g=tab n g:=Qa fun k hk=>by rw[if_pos hk]
theorem RU{n k:Nat}{g:Nat->Int}{v:Int}(h:v=g k):(Ro n k g).set k v=Ro n (k+1) g:=by
 unfold Ro;rw[Xf];refine Qa fun i _=> ?_
 by_cases h1:i=k
 ·subst h1;rw[if_pos rfl,if_pos (by omega),h]
 ·rw[if_neg h1];by_cases h2:i<k
  ·rw[if_pos h2,if_pos (by omega)]
  ·rw[if_neg h2,if_neg (by omega)]
theorem adq{n k:Nat}{g:Nat->Int}(h:k<n):rd 0 (Ro n k g) (k:Int)=0:=by unfold Ro;rw[Rl h,if_neg (by omega)]
theorem Ui{m:List Int}{k:Nat}{v:Int}(h:k<m.length):rd 0 (m.set k v) (k:Int)=v:=by rw[Rj (by simpa using h)];simp
theorem PZ{α β:Type}{f:α->Option β}(st:Nat->List Int->α)(g:Nat->Int->Int)(m:List Int){n:Nat}(hn:m.length=n)
  (h: ∀k,k<n-> ∀m':List Int,m'.length=n->(∀j,k<=j->rd 0 m' (j:Int)=rd 0 m (j:Int))->f (st k m')=f (st (k+1) (m'.set k (g k (rd 0 m (k:Int)))))):
  f (st 0 m)=f (st n (tab n fun i=>g i (rd 0 m (i:Int)))):=by
 have key: ∀k,k<=n->f (st 0 m)=f (st k (tab n fun i=>if i<k then g i (rd 0 m (i:Int))else rd 0 m (i:Int))):=by
  intro k
  induction k with
  |zero=>
   intro _;rw[show (tab n fun i=>if i<0 then g i (rd 0 m (i:Int))else rd 0 m (i:Int))=m from by
    conv=>rhs;rw[X3 hn]
    exact Qa fun i _=>by rw[if_neg (by omega)]]
  |succ k ih=>
   intro hk;rw[ih (by omega),h k (by omega) _ (by simp) fun j hj=>by
    by_cases hjn:j<n
    ·rw[Rl hjn,if_neg (by omega)]
    ·unfold rd;rw[ahx,ahE,ahE,aic (by simp;omega),aic (by omega)]]
   congr 2;rw[Xf];refine Qa fun i _=> ?_
   by_cases h1:i=k
   ·subst h1;rw[if_pos rfl,if_pos (by omega)]
   ·rw[if_neg h1];by_cases h2:i<k
    ·rw[if_pos h2,if_pos (by omega)]
    ·rw[if_neg h2,if_neg (by omega)]
 rw[key n (ahL _)];congr 2;exact Qa fun i hi=>by rw[if_pos hi]
theorem list4{t:List Int}(h:t.length=4):t=[rd 0 t 0,rd 0 t 1,rd 0 t 2,rd 0 t 3]:=by
 match t,h with
 |[a,b,c,d],_=>rfl
theorem QO(k:Nat)(h:k<4611686018427387904):ahk.wrap ((k:Int)+1)=((k+1:Nat):Int):=by rw[wrap64 (by omega) (by omega)];omega
end Go.AM
end
section
namespace Go.AM
def tmS:Nat->Int->Int->Int->Int
 |0,_,_,r=>r
 |n+1,a,b,r=>tmS n (bif decide (I8 .u8 a 128=0)then I9 .u8 a 1 else Hy .u8 (I9 .u8 a 1) 27) (I_ .u8 b 1) (bif decide (I8 .u8 b 1=1)then Hy .u8 r a else r)
def tm(a b:Int):Int:=tmS 8 a b 0
theorem adW: ∀n a b r,B8 r->B8 (tmS n a b r)
 |0,_,_,_,h=>h
 |n+1,a,b,r,h=>adW n _ _ _ (by cases decide (I8 .u8 b 1=1)<;>first|exact h|exact WE _ _)
theorem adG(a b:Int):B8 (tm a b):=adW 8 a b 0 ⟨by decide,by decide⟩
theorem Yq(a b:Int):Oa.run .lim (a,b,())=some (tm a b):=by
 have key: ∀(n i:Nat) (a b r:Int),i+n=8->Oa.l0 .lim (a,b,r,(i:Int),())=some (tmS n a b r,()):=by
  intro n
  induction n with
  |zero=>
   intro i a b r h;rw[Oa.q0];simp (disch:=omega) only[Ns,MX,Na,wrap64,MO,MR,dec_not,dec_and,OC,N9,cond_true,cond_false,ahl,ahm,ahw,ahA,aht,ahv,aho,ahp,ahu,ahs,ahr,ahn,ahz,ahq,ahy,if_true,if_false,and_self,true_and,and_true,and_false,false_and,or_true,true_or,or_false,false_or,not_true_eq_false,not_false_eq_true,decide_true,decide_false,eq_self,if_pos,if_neg,Pz,OW,Oa.b0];rfl
  |succ n ih=>
   intro i a b r h;rw[Oa.q0];simp only[Oa.b0,QO i (by omega),ih (i+1) _ _ _ (by omega),MO (show (i:Int)<8 by omega),cond_true];rw[tmS];cases decide (I8 .u8 b 1=1)<;>cases decide (I8 .u8 a 128=0)<;>rfl
 have:=key 8 0 a b 0 rfl;rw[show ((0:Nat):Int)=0 from rfl]at this;simp only[Oa.run,this,ahl];rfl
theorem ZG: ∀n a r,tmS n a 0 r=r
 |0,_,_=>rfl
 |n+1,a,r=>by
  rw[tmS,show I_ .u8 0 1=0 from by decide,ZG n];rfl
theorem step_a{a:Int}(h:B8 a):Hy .u8 (I9 .u8 a 1) (ahF.wrap (I_ .u8 a 7*27))=bif decide (I8 .u8 a 128=0)then I9 .u8 a 1 else Hy .u8 (I9 .u8 a 1) 27:=
 Qb (p:=fun a=>Hy .u8 (I9 .u8 a 1) (ahF.wrap (I_ .u8 a 7*27))=bif decide (I8 .u8 a 128=0)then I9 .u8 a 1 else Hy .u8 (I9 .u8 a 1) 27) (by decide+kernel) h
theorem afb{b:Int}(h:B8 b):I8 .u8 b 1=0\/I8 .u8 b 1=1:=
 Qb (p:=fun b=>I8 .u8 b 1=0\/I8 .u8 b 1=1) (by decide+kernel) h
theorem aeV{a:Int}:B8 (bif decide (I8 .u8 a 128=0)then I9 .u8 a 1 else Hy .u8 (I9 .u8 a 1) 27):=by
 cases decide (I8 .u8 a 128=0)
 ·exact WE _ _
 ·exact aaJ _ _
theorem SI{a b:Int}(ha:B8 a)(hb:B8 b):O8.run .lim (a,b,())=some (tm a b):=by
 have key: ∀(n:Nat) (a b r:Int),B8 a->B8 r->0<=b->b<2^n->n<=8->O8.l0 .lim (a,b,r,())=some (tmS n a b r,()):=by
  intro n
  induction n with
  |zero=>
   intro a b r ha hr h0 h1 _;obtain rfl:b=0:=by simp at h1;omega
   rw[O8.q0];simp (disch:=omega) only[Ns,MX,Na,wrap64,MO,MR,dec_not,dec_and,OC,N9,cond_true,cond_false,ahl,ahm,ahw,ahA,aht,ahv,aho,ahp,ahu,ahs,ahr,ahn,ahz,ahq,ahy,if_true,if_false,and_self,true_and,and_true,and_false,false_and,or_true,true_or,or_false,false_or,not_true_eq_false,not_false_eq_true,decide_true,decide_false,eq_self,if_pos,if_neg,Pz,OW,O8.b0];rfl
  |succ n ih=>
   intro a b r ha hr h0 h1 hn;have hb:B8 b:=by
    refine⟨h0,Int.lt_of_lt_of_le h1 ?_⟩;have h2:(2:Int)^(n+1)=((2^(n+1):Nat):Int):=by simp
    have h3:2^(n+1)<=2^8:=Nat.pow_le_pow_right (by omega) hn;rw[h2];omega
   rw[O8.q0];by_cases hz:b=0
   ·subst hz;rw[ZG];simp (disch:=omega) only[Ns,MX,Na,wrap64,MO,MR,dec_not,dec_and,OC,N9,cond_true,cond_false,ahl,ahm,ahw,ahA,aht,ahv,aho,ahp,ahu,ahs,ahr,ahn,ahz,ahq,ahy,if_true,if_false,and_self,true_and,and_true,and_false,false_and,or_true,true_or,or_false,false_or,not_true_eq_false,not_false_eq_true,decide_true,decide_false,eq_self,if_pos,if_neg,Pz,OW,O8.b0]
   ·have hs:I_ .u8 b 1=b/2:=by rw[aeT];rfl
    have hm:ahF.wrap (a*I8 .u8 b 1)=bif decide (I8 .u8 b 1=1)then a else 0:=by
     rcases afb hb with e|e
     ·rw[e];simp;decide
     ·rw[e,Int.mul_one,SY ha];rfl
    have hx:Hy .u8 r (bif decide (I8 .u8 b 1=1)then a else 0)=bif decide (I8 .u8 b 1=1)then Hy .u8 r a else r:=by
     cases decide (I8 .u8 b 1=1)
     ·exact xor_zero hr
     ·rfl
    have hr':B8 (bif decide (I8 .u8 b 1=1)then Hy .u8 r a else r):=by
     cases decide (I8 .u8 b 1=1)
     ·exact hr
     ·exact WE _ _
    have h2:=ih _ (I_ .u8 b 1) _ (@aeV a) hr' (by rw[hs];omega) (by rw[hs,aiD]at*;omega) (by omega);simp only[O8.b0,MO (show b>0 by omega),cond_true,step_a ha,hm,hx];rw[h2,tmS]
 have:=key 8 a b 0 ha ⟨by decide,by decide⟩ hb.1 hb.2 (by omega);simp only[O8.run,this,ahl];rfl
def invS:Nat->Int->Int->Int
 |0,r,_=>r
 |n+1,r,s=>invS n (tm r (tm s s)) (tm s s)
def adw(b n:Int):Int:=KO .u8 (I9 .u8 b n) (I_ .u8 b (8-n))
def adB(b:Int):Int:=Hy .u8 (Hy .u8 (Hy .u8 (Hy .u8 (Hy .u8 (invS 7 1 b) (adw (invS 7 1 b) 1)) (adw (invS 7 1 b) 2)) (adw (invS 7 1 b) 3)) (adw (invS 7 1 b) 4)) 99
theorem ZV{b:Int}(hb:B8 b):PU.run .lim (b,())=some (invS 7 1 b):=by
 have key: ∀(n i:Nat) (r s:Int),i+n=7->B8 r->B8 s->PU.l0 .lim (r,s,(i:Int),())=some (invS n r s,()):=by
  intro n
  induction n with
  |zero=>
   intro i r s h _ _;rw[PU.q0];simp (disch:=omega) only[Ns,MX,Na,wrap64,MO,MR,dec_not,dec_and,OC,N9,cond_true,cond_false,ahl,ahm,ahw,ahA,aht,ahv,aho,ahp,ahu,ahs,ahr,ahn,ahz,ahq,ahy,if_true,if_false,and_self,true_and,and_true,and_false,false_and,or_true,true_or,or_false,false_or,not_true_eq_false,not_false_eq_true,decide_true,decide_false,eq_self,if_pos,if_neg,Pz,OW,PU.b0];rfl
  |succ n ih=>
   intro i r s h hr hs;rw[PU.q0];simp only[PU.b0,QO i (by omega),MO (show (i:Int)<7 by omega),cond_true,SI hs hs,ahl,SI hr (adG s s),ih (i+1) _ _ (by omega) (adG _ _) (adG _ _)];rfl
 have:=key 7 0 1 b rfl ⟨by decide,by decide⟩ hb;rw[show ((0:Nat):Int)=0 from rfl]at this;simp only[PU.run,this,ahl]
theorem ad9{b:Int}(hb:B8 b):TJ.run .lim (b,())=some (adB b):=by
 simp only[TJ.run,ZV hb,ahl];have w: ∀n:Int,Tc.run .lim (invS 7 1 b,n,())=bif decide (0<=n)then(bif decide (0<=ahk.wrap (8-n))then some (KO .u8 (I9 .u8 (invS 7 1 b) n) (I_ .u8 (invS 7 1 b) (ahk.wrap (8-n))))else none)else none:=fun n=>rfl
 rw[w,w,w,w];rfl
def V7(b:Int):Int:=adB b
theorem aao{b:Int}(hb:B8 b):TJ.run .lim (b,())=some (V7 b):=ad9 hb
theorem aaF{b:Int}(hb:B8 b):B8 (V7 b):=WE _ _
noncomputable def sbR(b:Int):Int:=(NY.run (.fuel 0) (b,())).getD 0
theorem abo: ∀n:Nat,n<256->adB n=sbR n:=by decide+kernel
set_option maxRecDepth 20000 in
theorem VI{b:Int}(h:B8 b):NY.run .lim (b,())=some (V7 b):=by
 have h1: ∀b:Int,B8 b-> ∃r,NY.run (.fuel 0) (b,())=some r:=by
  intro b hb;exact⟨_,cond_pos (MX hb.1 hb.2)⟩
 obtain⟨r,hr⟩:=h1 b h;have:NY.run .lim (b,())=some r:=hr;have hs:sbR b=r:=by unfold sbR;rw[hr];rfl
 rw[this,V7,Qb (p:=fun b=>adB b=sbR b) abo h,hs]
end Go.AM
end
section
namespace Go.AM
abbrev z4:List Int:=ahB 4 0
abbrev Xi:List Int:=ahB 16 0
abbrev OH:List Int:=ahB 256 0
abbrev kL:List Int:=[1,2,3,9,11,13,14]
theorem adO: ∀k:Nat,k<7->0<=rd 0 kL (k:Int)/\rd 0 kL (k:Int)<16:=by decide
def Ov(k:Nat):List (List Int):=
 let t:=fun j:Int=>Ro 256 k fun i=>tm (i:Int) j
 [OH,t 1,t 2,t 3,OH,OH,OH,OH,OH,t 9,OH,t 11,OH,t 13,t 14,OH]
def Wx(i:Nat)(yb:List (List Int)):Nat->List (List Int)
 |0=>yb
 |k+1=>(Wx i yb k).set (rd 0 kL (k:Int)).toNat ((rd OH (Wx i yb k) (rd 0 kL (k:Int))).set i (tm (i:Int) (rd 0 kL (k:Int))))
theorem aaC(k:Nat):Wx k (Ov k) 7=Ov (k+1):=by
 have e:Wx k (Ov k) 7=(
  let t:=fun j:Int=>(Ro 256 k fun i=>tm (i:Int) j).set k (tm (k:Int) j)
  [OH,t 1,t 2,t 3,OH,OH,OH,OH,OH,t 9,OH,t 11,OH,t 13,t 14,OH]):=rfl
 have h: ∀j:Int,(Ro 256 k fun i=>tm (i:Int) j).set k (tm (k:Int) j)=Ro 256 (k+1) fun i=>tm (i:Int) j:=fun j=>RU rfl
 rw[e];simp only[h];rfl
theorem XR:Ov 0=ahB 16 OH:=by
 unfold Ov;simp only[Ry];rfl
noncomputable def VX:Nat->List Int
 |0=>OH
 |k+1=>(VX k).set (V7 (k:Int)).toNat (k:Int)
noncomputable def Rt(k:Nat):List Int:=Ro 256 k fun i=>V7 (i:Int)
theorem TQ{x:Int}(h:B8 x):rd 0 (Rt 256) x=V7 x:=by
 unfold Rt;rw[Ud,aay h.1 (by exact h.2),show ((x.toNat:Nat):Int)=x by have:=h.1;omega]
theorem TM{x:Int}(h:B8 x):rd 0 (rd OH (Ov 256) 1) x=tm x 1/\rd 0 (rd OH (Ov 256) 2) x=tm x 2/\rd 0 (rd OH (Ov 256) 3) x=tm x 3:=by
 have e: ∀j:Int,rd 0 (Ro 256 256 fun i=>tm (i:Int) j) x=tm x j:=fun j=>by rw[Ud,aay h.1 (by exact h.2),show ((x.toNat:Nat):Int)=x by have:=h.1;omega]
 exact⟨e 1,e 2,e 3⟩
def word(key:List Int)(j:Nat):List Int:=[rd 0 key ((4*j:Nat):Int),rd 0 key ((4*j+1:Nat):Int),rd 0 key ((4*j+2:Nat):Int),rd 0 key ((4*j+3:Nat):Int)]
theorem adN{m:List Int}{k:Nat}(h:k+4<=m.length):(m.drop k).take 4=[rd 0 m (k:Int),rd 0 m ((k+1:Nat):Int),rd 0 m ((k+2:Nat):Int),rd 0 m ((k+3:Nat):Int)]:=by
 rw[Rj (show k<m.length by omega),Rj (show k+1<m.length by omega),Rj (show k+2<m.length by omega),Rj (show k+3<m.length by omega)];rw[ahM (show k<m.length by omega),ahM (show k+1<m.length by omega),ahM (show k+2<m.length by omega),ahM (show k+3<m.length by omega)];rfl
theorem Q7{α:Type}(m:List α)(a b:Nat):cut m (a:Int) (b:Int)=(m.drop a).take (b-a):=by unfold cut;rw[ahx,ahx,List.drop_take]
theorem Zc{key:List Int}{j:Nat}(h:4*j+4<=key.length):(cut key ((4*j:Nat):Int) ((4*j+4:Nat):Int)).take 4=word key j:=by
 rw[Q7,show 4*j+4-4*j=4 by omega,List.take_take,Nat.min_self,adN h];rfl
def Words(W:List (List Int)):Prop:= ∀w∈W,w.length=4/\ ∀x∈w,B8 x
theorem Words.at{W:List (List Int)}(h:Words W){i:Nat}(hi:i<W.length):(rd z4 W (i:Int)).length=4/\ ∀x∈rd z4 W (i:Int),B8 x:=h _ (Oj (by omega) (by omega))
theorem Words.byte{W:List (List Int)}(h:Words W){i:Nat}(hi:i<W.length){j:Int}(h0:0<=j)(hj:j<4):B8 (rd 0 (rd z4 W (i:Int)) j):=by
 have:=h.at hi;exact this.2 _ (Oj h0 (by omega))
theorem T_{W:List (List Int)}(h:Words W):W.flatten.length=4*W.length:=by
 induction W with
 |nil=>rfl
 |cons w W ih=>
  rw[ah6,ahH,ih fun x hx=>h x (.tail _ hx),(h w (.head _)).1,List.length_cons];omega
theorem RF{W:List (List Int)}(h:Words W){i j:Nat}(hi:i<W.length)(hj:j<4):rd 0 W.flatten ((4*i+j:Nat):Int)=rd 0 (rd z4 W (i:Int)) (j:Int):=by
 induction W generalizing i with
 |nil=>simp at hi
 |cons w W ih=>
  have hw:=(h w (.head _)).1;cases i with
  |zero=>
   unfold rd;simp only[ahx,ah6,ahE];rw[ah5 (by omega)];simp
  |succ i=>
   have:=ih (fun x hx=>h x (.tail _ hx)) (by simpa using hi);unfold rd at this ⊢
   simp only[ahx,ah6,ahE]at this ⊢
   rw[List.getElem?_append_right (by omega),show 4*(i+1)+j-w.length=4*i+j by omega,this];simp
noncomputable def aaN(nk:Nat)(i:Nat)(x:Int)(t:List Int):List Int:=
 if i%nk=0 then [Hy .u8 (V7 (rd 0 t 1)) x,V7 (rd 0 t 2),V7 (rd 0 t 3),V7 (rd 0 t 0)]
 else if nk=8/\i%8=4 then [V7 (rd 0 t 0),V7 (rd 0 t 1),V7 (rd 0 t 2),V7 (rd 0 t 3)]
 else [rd 0 t 0,rd 0 t 1,rd 0 t 2,rd 0 t 3]
def X5(t w:List Int):List Int:=[Hy .u8 (rd 0 t 0) (rd 0 w 0),Hy .u8 (rd 0 t 1) (rd 0 w 1),Hy .u8 (rd 0 t 2) (rd 0 w 2),Hy .u8 (rd 0 t 3) (rd 0 w 3)]
noncomputable def stepW(nk:Nat)(s:List (List Int)×Int):List (List Int)×Int:=
 (s.1++[X5 (aaN nk s.1.length s.2 (rd z4 s.1 ((s.1.length-1:Nat):Int))) (rd z4 s.1 ((s.1.length-nk:Nat):Int))],if s.1.length%nk=0 then tm s.2 2 else s.2)
noncomputable def sched(nk:Nat)(key:List Int):Nat->List (List Int)×Int
 |0=>((ahI nk).map (word key),1)
 |k+1=>stepW nk (sched nk key k)
theorem Ub(nk:Nat)(key:List Int): ∀k,(sched nk key k).1.length=nk+k
 |0=>by simp[sched]
 |k+1=>by rw[sched,stepW,ahH,Ub nk key k];rfl
theorem Xh(t w:List Int):(X5 t w).length=4/\ ∀x∈X5 t w,B8 x:=by
 refine⟨rfl,fun x hx=> ?_⟩;simp only[X5,air,aia,or_false]at hx;rcases hx with rfl|rfl|rfl|rfl<;>exact WE _ _
theorem UG(nk:Nat)(key:List Int)(hk:4*nk<=key.length)(hb: ∀x∈key,B8 x): ∀k,Words (sched nk key k).1/\B8 (sched nk key k).2
 |0=>by
  refine⟨fun w hw=> ?_,show B8 1 from⟨by decide,by decide⟩⟩;obtain⟨j,hj,rfl⟩:=ah2.1 hw;have hj:=ahQ.1 hj;refine⟨rfl,fun x hx=> ?_⟩;simp only[word,air,aia,or_false]at hx;rcases hx with rfl|rfl|rfl|rfl<;>exact hb _ (Oj (by omega) (by omega))
 |k+1=>by
  obtain⟨h1,h2⟩:=UG nk key hk hb k;refine⟨fun w hw=> ?_,?_⟩
  ·rcases List.mem_append.1 hw with hw|hw
   ·exact h1 w hw
   ·rw[List.mem_singleton.1 hw];exact Xh _ _
  ·show B8 (if _ then tm _ 2 else _);split
   ·exact adG _ _
   ·exact h2
noncomputable def QF(key:List Int):List (List Int):=(sched (key.length/4) key (3*(key.length/4)+28)).1
theorem TU(key:List Int):(QF key).length=4*(key.length/4)+28:=by unfold QF;rw[Ub];omega
theorem UR(key:List Int)(hb: ∀x∈key,B8 x):Words (QF key):=(UG _ key (by omega) hb _).1
def TA(W:List (List Int))(j:Nat):List Int:=rd z4 W ((4*j:Nat):Int)++(rd z4 W ((4*j+1:Nat):Int)++(rd z4 W ((4*j+2:Nat):Int)++rd z4 W ((4*j+3:Nat):Int)))
def PL(W:List (List Int)):List (List Int):=(ahI (W.length/4)).map (TA W)
theorem VG{W:List (List Int)}(h:Words W){j:Nat}(hj:4*j+3<W.length):(TA W j).length=16:=by
 unfold TA;simp only[ahH,(h.at (show 4*j<W.length by omega)).1,(h.at (show 4*j+1<W.length by omega)).1,(h.at (show 4*j+2<W.length by omega)).1,(h.at hj).1]
theorem WV{W:List (List Int)}(h:Words W){i:Nat}(hi:i<W.length):(W.flatten.drop (4*i)).take 4=rd z4 W (i:Int):=by
 have hl:=T_ h;rw[adN (by omega),list4 (h.at hi).1];have:=RF h hi (j:=0) (by omega);rw[show 4*i+0=4*i from rfl]at this;rw[this,RF h hi (j:=1) (by omega),RF h hi (j:=2) (by omega),RF h hi (j:=3) (by omega)];rfl
theorem Zb{W:List (List Int)}(h:Words W){j:Nat}(hj:4*j+3<W.length):cut W.flatten ((16*j:Nat):Int) ((16*j+16:Nat):Int)=TA W j:=by
 have hl:=T_ h;have e0:=WV h (show 4*j<W.length by omega);have e1:=WV h (show 4*j+1<W.length by omega);have e2:=WV h (show 4*j+2<W.length by omega);have e3:=WV h hj;rw[show 4*(4*j)=16*j by omega]at e0;rw[show 4*(4*j+1)=16*j+4 by omega]at e1;rw[show 4*(4*j+2)=16*j+8 by omega]at e2;rw[show 4*(4*j+3)=16*j+12 by omega]at e3;rw[Q7,show 16*j+16-16*j=4+(4+(4+4)) by omega,ais,ais,ais,aii,aii,aii];unfold TA;rw[e0,e1,show 16*j+4+4=16*j+8 by omega,e2,show 16*j+8+4=16*j+12 by omega,e3]
noncomputable def TF(b:List Int):List Int:=tab 16 fun i=>V7 (rd 0 b (((i+4*(i%4))%16:Nat):Int))
def RJ(b:List Int):List Int:=tab 16 fun i=>
 Hy .u8 (Hy .u8 (Hy .u8 (Hy .u8 0 (tm (rd 0 b ((i/4*4+i%4:Nat):Int)) 2)) (tm (rd 0 b ((i/4*4+(i+1)%4:Nat):Int)) 3)) (tm (rd 0 b ((i/4*4+(i+2)%4:Nat):Int)) 1)) (tm (rd 0 b ((i/4*4+(i+3)%4:Nat):Int)) 1)
def Un(b k:List Int):List Int:=tab 16 fun i=>Hy .u8 (rd 0 b (i:Int)) (rd 0 k (i:Int))
noncomputable def aag(last:Bool)(b k:List Int):List Int:=Un (bif last then TF b else RJ (TF b)) k
noncomputable def Tf(W:List (List Int))(b:List Int):Nat->List Int
 |0=>Un b (TA W 0)
 |j+1=>aag (decide (j+2=W.length/4)) (Tf W b j) (TA W (j+1))
noncomputable def encS(key b:List Int):List Int:=Tf (QF key) b ((QF key).length/4-1)
def Wh(b:List Int):Prop:=b.length=16/\ ∀x∈b,B8 x
theorem Yy{n:Nat}{g:Nat->Int}(h: ∀k,k<n->B8 (g k)): ∀x∈tab n g,B8 x:=by
 intro x hx;obtain⟨i,hi,rfl⟩:=ah2.1 hx;exact h i (ahQ.1 hi)
theorem Zq(b k:List Int):Wh (Un b k):=⟨P7,Yy fun _ _=>WE _ _⟩
theorem WU(W:List (List Int))(b:List Int): ∀j,Wh (Tf W b j)
 |0=>Zq _ _
 |_+1=>Zq _ _
theorem Sj(key b:List Int):Wh (encS key b):=WU _ _ _
theorem Wh.at{b:List Int}(h:Wh b){i:Nat}(hi:i<16):B8 (rd 0 b (i:Int)):=h.2 _ (Oj (by omega) (by rw[h.1];omega))
end Go.AM
end
section
namespace Go.AM
theorem agy(a b c d:Int):rd 0 [a,b,c,d] 0=a:=rfl
theorem agz(a b c d:Int):rd 0 [a,b,c,d] 1=b:=rfl
theorem agA(a b c d:Int):rd 0 [a,b,c,d] 2=c:=rfl
theorem agB(a b c d:Int):rd 0 [a,b,c,d] 3=d:=rfl
theorem YO{α:Type}{d:α}{a b:List α}{k:Nat}(h:k<a.length):rd d (a++b) (k:Int)=rd d a (k:Int):=by unfold rd;rw[ahx,ahE,ahE,ah5 h]
theorem aan{key:List Int}{q:Nat}(h:key.length=4*q)(hb: ∀x∈key,B8 x):((ahI q).map (word key)).flatten=key:=by
 have hW:Words ((ahI q).map (word key)):=by
  intro w hw;obtain⟨j,hj,rfl⟩:=ah2.1 hw;have hj:=ahQ.1 hj;refine⟨rfl,fun x hx=> ?_⟩;simp only[word,air,aia,or_false]at hx;rcases hx with rfl|rfl|rfl|rfl<;>exact hb _ (Oj (by omega) (by omega))
 have hl:=T_ hW;rw[aiB,aiu]at hl;refine XJ (d:=0) (by omega) fun k hk=> ?_
 have hi:k/4<((ahI q).map (word key)).length:=by simp;omega
 have:=RF hW hi (j:=k%4) (by omega);rw[show 4*(k/4)+k%4=k by omega]at this;rw[this,Rj hi];simp only[ah_,ah1,word];rcases (show k%4=0\/k%4=1\/k%4=2\/k%4=3 by omega)with e|e|e|e<;>rw[e]
 ·show rd 0 key ((4*(k/4):Nat):Int)=_;congr 2;omega
 ·show rd 0 key ((4*(k/4)+1:Nat):Int)=_;congr 2;omega
 ·show rd 0 key ((4*(k/4)+2:Nat):Int)=_;congr 2;omega
 ·show rd 0 key ((4*(k/4)+3:Nat):Int)=_;congr 2;omega
theorem ady{W:List (List Int)}(hW:Words W){i nk:Nat}{c:Int}{t:List Int}(h1:nk<=i)(h2:i=W.length)(h3:0<nk)(h4:i<1000)(ht:t.length=4):
  Np.l0 .lim ((nk:Int),c,(i:Int),0,W.flatten,t,())=some ((nk:Int),c,(i:Int),W.flatten++X5 t (rd z4 W ((i-nk:Nat):Int)),()):=by
 have hl:=T_ hW;have hx: ∀k:Nat,k<4->rd 0 (X5 t (rd z4 W ((i-nk:Nat):Int))) (k:Int)=Hy .u8 (rd 0 t (k:Int)) (rd 0 (rd z4 W ((i-nk:Nat):Int)) (k:Int)):=by
  intro k hk;rcases (show k=0\/k=1\/k=2\/k=3 by omega)with rfl|rfl|rfl|rfl<;>rfl
 have e:=Om (f:=Np.l0 .lim) (fun k=>((nk:Int),c,(i:Int),(k:Int),W.flatten++(X5 t (rd z4 W ((i-nk:Nat):Int))).take k,t,())) (n:=4) (fun k hk=>by
  rw[Np.q0];have w1:ahk.wrap (4*ahk.wrap ((i:Int)-(nk:Int)))=((4*(i-nk):Nat):Int):=by rw[wrap64 (n:=(i:Int)-(nk:Int)) (by omega) (by omega),wrap64 (by omega) (by omega)];omega
  have w2:ahk.wrap (((4*(i-nk):Nat):Int)+(k:Int))=((4*(i-nk)+k:Nat):Int):=by rw[wrap64 (by omega) (by omega)];omega
  have hr:=RF hW (i:=i-nk) (j:=k) (by omega) hk;have ha:rd 0 (W.flatten++(X5 t (rd z4 W ((i-nk:Nat):Int))).take k) ((4*(i-nk)+k:Nat):Int)=rd 0 (rd z4 W ((i-nk:Nat):Int)) (k:Int):=by rw[YO (by omega),hr]
  have hlen:(W.flatten++(X5 t (rd z4 W ((i-nk:Nat):Int))).take k).length=4*i+k:=by rw[ahH,hl,ahO,(Xh _ _).1];omega
  simp only[Np.b0,MO (show (k:Int)<4 by omega),w1,w2,ha,hlen,MX (show (0:Int)<=((4*(i-nk)+k:Nat):Int) by omega) (show ((4*(i-nk)+k:Nat):Int)<((4*i+k:Nat):Int) by omega),MX (show (0:Int)<=k by omega) (show (k:Int)<(t.length:Int) by omega),cond_true,QO k (by omega)];rw[cond_pos (by simp;omega),U5 (d:=(0:Int)) (by rw[(Xh _ _).1];omega),hx k hk,xor_comm,ait])
 rw[aij,aiA,show ((0:Nat):Int)=0 from rfl]at e;rw[e,ahK (by rw[(Xh _ _).1];omega),Np.q0];simp only[Np.b0,MR (show ¬((4:Nat):Int)<4 by decide),cond_false]
theorem Yt{key:List Int}(hk:key.length=16\/key.length=32)(hb: ∀x∈key,B8 x):Np.run .lim (key,())=some (QF key).flatten:=by
 have hd:(key.length:Int).tdiv 4=((key.length/4:Nat):Int):=by rw[ahJ (ahD _)];simp
 have w0:ahk.wrap ((key.length:Int).tdiv 4)=((key.length/4:Nat):Int):=by rw[hd,wrap64 (by omega) (by omega)]
 generalize hnk:key.length/4=nk at w0;have hn:nk=4\/nk=8:=by omega
 have e:=Om (f:=Np.l1 .lim) (fun k=>((nk:Int),(sched nk key k).2,((nk+k:Nat):Int),(sched nk key k).1.flatten,())) (n:=3*nk+28) (fun k hkq=>by
  rw[Np.q1];obtain⟨hW,hx⟩:=UG nk key (by omega) hb k;have hl:=Ub nk key k;have hs:sched nk key (k+1)=stepW nk (sched nk key k):=rfl;rw[hs];unfold stepW;generalize hq:sched nk key k=q at hW hx hl;obtain⟨W,x⟩:=q;simp only at hW hx hl ⊢
  have hi0:nk+k<1000:=by omega
  generalize hi:nk+k=i at hl hi0;have hw:=hW.at (show i-1<W.length by omega);have hfl:=T_ hW;have hb0:=hW.byte (show i-1<W.length by omega) (j:=0) (by omega) (by omega);have hb1:=hW.byte (show i-1<W.length by omega) (j:=1) (by omega) (by omega);have hb2:=hW.byte (show i-1<W.length by omega) (j:=2) (by omega) (by omega);have hb3:=hW.byte (show i-1<W.length by omega) (j:=3) (by omega) (by omega);have f0:=RF hW (show i-1<W.length by omega) (j:=0) (by omega);have f1:=RF hW (show i-1<W.length by omega) (j:=1) (by omega);have f2:=RF hW (show i-1<W.length by omega) (j:=2) (by omega);have f3:=RF hW (show i-1<W.length by omega) (j:=3) (by omega);rw[show 4*(i-1)+0=4*i-4 by omega,show ((0:Nat):Int)=0 from rfl]at f0;rw[show 4*(i-1)+1=4*i-3 by omega,show ((1:Nat):Int)=1 from rfl]at f1;rw[show 4*(i-1)+2=4*i-2 by omega,show ((2:Nat):Int)=2 from rfl]at f2;rw[show 4*(i-1)+3=4*i-1 by omega,show ((3:Nat):Int)=3 from rfl]at f3;have w1:ahk.wrap (4*ahk.wrap ((nk:Int)+7))=((4*nk+28:Nat):Int):=by rw[wrap64 (n:=(nk:Int)+7) (by omega) (by omega),wrap64 (by omega) (by omega)];omega
  have w2:ahk.wrap (4*(i:Int))=((4*i:Nat):Int):=by rw[wrap64 (by omega) (by omega)];omega
  have w4:ahk.wrap (((4*i:Nat):Int)-4)=((4*i-4:Nat):Int):=by rw[wrap64 (by omega) (by omega)];omega
  have w5:ahk.wrap (((4*i:Nat):Int)-3)=((4*i-3:Nat):Int):=by rw[wrap64 (by omega) (by omega)];omega
  have w6:ahk.wrap (((4*i:Nat):Int)-2)=((4*i-2:Nat):Int):=by rw[wrap64 (by omega) (by omega)];omega
  have w7:ahk.wrap (((4*i:Nat):Int)-1)=((4*i-1:Nat):Int):=by rw[wrap64 (by omega) (by omega)];omega
  have m1:((i:Int)).tmod (nk:Int)=((i%nk:Nat):Int):=by rw[ahC (ahD i)];simp
  have m2:((i:Int)).tmod 8=((i%8:Nat):Int):=by rw[ahC (ahD i)];simp
  have Xy:=fun c t ht=>ady (c:=c) (t:=t) hW (i:=i) (nk:=nk) (by omega) (by omega) (by omega) (by omega) ht
  have hin: ∀j:Nat,1<=j->j<=4->inB ((4*i-j:Nat):Int) (W.flatten.length:Int)=true:=fun j h1 h2=>MX (by omega) (by omega)
  simp only[Np.b1,w1,w2,w4,w5,w6,w7,MO (show (i:Int)<((4*nk+28:Nat):Int) by omega),hin 4 (by omega) (by omega),hin 3 (by omega) (by omega),hin 2 (by omega) (by omega),hin 1 (by omega) (by omega),MR (show ¬(nk:Int)=0 by omega),m1,m2,cond_true,ahn,ahw,f0,f1,f2,f3,agy,agz,agA,agB,VI hb0,VI hb1,VI hb2,VI hb3,ahl,Yq];have hi4: ∀(a b c d:Int) (j:Int),0<=j->j<4->inB j (([a,b,c,d]:List Int).length:Int)=true:=fun a b c d j h1 h2=>MX h1 h2
  simp only[hi4 _ _ _ _ 0 (by omega) (by omega),hi4 _ _ _ _ 1 (by omega) (by omega),hi4 _ _ _ _ 2 (by omega) (by omega),hi4 _ _ _ _ 3 (by omega) (by omega),cond_true];rw[hl];unfold aaN;have hfa: ∀v:List Int,(W++[v]).flatten=W.flatten++v:=fun v=>by simp
  rw[hfa];by_cases c1:i%nk=0
  ·rw[MO (show ((i%nk:Nat):Int)=0 by omega),if_pos c1,if_pos c1];simp only[cond_true];rw[Xy _ _ rfl];simp only[ahl,QO i (by omega)];rw[show i+1=nk+(k+1) by omega]
  ·rw[MR (show ¬((i%nk:Nat):Int)=0 by omega),if_neg c1,if_neg c1];simp only[cond_false];by_cases c2:nk=8/\i%8=4
   ·rw[MO (show (nk:Int)=8 by omega),MO (show ((i%8:Nat):Int)=4 by omega),if_pos c2];simp only[ahq,cond_true];rw[Xy _ _ rfl];simp only[ahl,QO i (by omega)];rw[show i+1=nk+(k+1) by omega]
   ·have:(decide ((nk:Int)=8)&&decide (((i%8:Nat):Int)=4))=false:=by
     by_cases c3:nk=8
     ·rw[MR (show ¬((i%8:Nat):Int)=4 by omega),aho]
     ·rw[MR (show ¬(nk:Int)=8 by omega),ahp]
    rw[this,if_neg c2];simp only[cond_false];rw[Xy _ _ rfl];simp only[ahl,QO i (by omega)];rw[show i+1=nk+(k+1) by omega])
 have hs0:(sched nk key 0).1.flatten=key:=aan (by omega) hb;rw[hs0,show (sched nk key 0).2=1 from rfl,ahR]at e;have w1:ahk.wrap (4*ahk.wrap ((nk:Int)+7))=((4*nk+28:Nat):Int):=by rw[wrap64 (n:=(nk:Int)+7) (by omega) (by omega),wrap64 (by omega) (by omega)];omega
 simp only[Np.run,MS (show key.length<9223372036854775808 by omega),cond_true,w0,e];rw[Np.q1];simp only[Np.b1,w1,MR (show ¬((nk+(3*nk+28):Nat):Int)<((4*nk+28:Nat):Int) by omega),cond_false,ahl];unfold QF;rw[hnk]
theorem abp{b:List Int}(hb:b.length=16):Ny.run .lim (b,false,())=some (tab 16 fun i=>rd 0 b (((i+4*(i%4))%16:Nat):Int)):=by
 have inner: ∀c:Nat,c<4->Ny.l0 .lim (b,false,(c:Int),0,Ro 16 (4*c) (fun i=>rd 0 b (((i+4*(i%4))%16:Nat):Int)),())=some (b,false,(c:Int),Ro 16 (4*c+4) (fun i=>rd 0 b (((i+4*(i%4))%16:Nat):Int)),()):=by
  intro c hc;have e:=Om (f:=Ny.l0 .lim) (fun r=>(b,false,(c:Int),(r:Int),Ro 16 (4*c+r) (fun i=>rd 0 b (((i+4*(i%4))%16:Nat):Int)),())) (n:=4) (fun r hr=>by
   rw[Ny.q0];have w1:ahk.wrap (4*(c:Int))=((4*c:Nat):Int):=by rw[wrap64 (by omega) (by omega)];omega
   have w2:ahk.wrap (((4*c:Nat):Int)+(r:Int))=((4*c+r:Nat):Int):=by rw[wrap64 (by omega) (by omega)];omega
   have w3:ahk.wrap ((c:Int)+(r:Int))=((c+r:Nat):Int):=by rw[wrap64 (by omega) (by omega)];omega
   have m1:(((c+r:Nat):Int)).tmod 4=(((c+r)%4:Nat):Int):=by rw[ahC (ahD _)];simp
   have w4:ahk.wrap (4*(((c+r)%4:Nat):Int))=((4*((c+r)%4):Nat):Int):=by rw[wrap64 (by omega) (by omega)];omega
   have w5:ahk.wrap (((4*((c+r)%4):Nat):Int)+(r:Int))=((4*((c+r)%4)+r:Nat):Int):=by rw[wrap64 (by omega) (by omega)];omega
   simp only[Ny.b0,MO (show (r:Int)<4 by omega),w1,w2,w3,m1,w4,w5,hb,UL,MX (show (0:Int)<=((4*((c+r)%4)+r:Nat):Int) by omega) (show ((4*((c+r)%4)+r:Nat):Int)<((16:Nat):Int) by omega),MX (show (0:Int)<=((4*c+r:Nat):Int) by omega) (show ((4*c+r:Nat):Int)<((16:Nat):Int) by omega),cond_true,cond_false,QO r (by omega),ahx];rw[RU]
   ·rfl
   ·congr 2;omega)
  rw[show ((0:Nat):Int)=0 from rfl,ahR]at e;rw[e,Ny.q0];simp only[Ny.b0,MR (show ¬((4:Nat):Int)<4 by decide),cond_false]
 have e:=Om (f:=Ny.l1 .lim) (fun c=>(b,false,(c:Int),Ro 16 (4*c) (fun i=>rd 0 b (((i+4*(i%4))%16:Nat):Int)),())) (n:=4) (fun c hc=>by
  rw[Ny.q1];simp only[Ny.b1,MO (show (c:Int)<4 by omega),cond_true,inner c hc,ahl,QO c (by omega)];rfl)
 rw[show ((0:Nat):Int)=0 from rfl,aiF,Ry]at e;simp only[Ny.run,show aio 16 70368744177664=true from rfl,cond_true,e];rw[Ny.q1];simp only[Ny.b1,MR (show ¬((4:Nat):Int)<4 by decide),cond_false,ahl];rw[show 4*4=16 from rfl,Ud]
theorem ab3{b:List Int}(hb:b.length=16):Nb.run .lim (b,[2,3,1,1],())=some (RJ b):=by
 have cell: ∀c r:Nat,c<4->r<4->Nb.l0 .lim (b,[2,3,1,1],(c:Int),(r:Int),0,Ro 16 (4*c+r) (fun i=>rd 0 (RJ b) (i:Int)),())=some (b,[2,3,1,1],(c:Int),(r:Int),Ro 16 (4*c+r+1) (fun i=>rd 0 (RJ b) (i:Int)),()):=by
  intro c r hc hr;have h4: ∀j:Nat,j<4->ahk.wrap (ahk.wrap (4*(c:Int))+(ahk.wrap ((r:Int)+(j:Int))).tmod 4)=(((4*c+r)/4*4+(4*c+r+j)%4:Nat):Int):=by
   intro j hj;have d2:ahk.wrap ((r:Int)+(j:Int))=((r+j:Nat):Int):=by rw[wrap64 (by omega) (by omega)];omega
   have d3:(((r+j:Nat):Int)).tmod 4=(((r+j)%4:Nat):Int):=by rw[ahC (ahD _)];simp
   rw[d2,d3,wrap64 (n:=4*(c:Int)) (by omega) (by omega),wrap64 (by omega) (by omega)];omega
  have w2:ahk.wrap (ahk.wrap (4*(c:Int))+(r:Int))=((4*c+r:Nat):Int):=by rw[wrap64 (n:=4*(c:Int)) (by omega) (by omega),wrap64 (by omega) (by omega)];omega
  have step: ∀(k:Int) (k':Int) (cf:Int) (q:Nat) (m:List Int),m.length=16->0<=k->k<4->rd 0 ([2,3,1,1]:List Int) k=cf->ahk.wrap (k+1)=k'->ahk.wrap (ahk.wrap (4*(c:Int))+(ahk.wrap ((r:Int)+k)).tmod 4)=(q:Int)->q<16->
    Nb.l0 .lim (b,[2,3,1,1],(c:Int),(r:Int),k,m,())=Nb.l0 .lim (b,[2,3,1,1],(c:Int),(r:Int),k',m.set (4*c+r) (Hy .u8 (rd 0 m ((4*c+r:Nat):Int)) (tm (rd 0 b (q:Int)) cf)),()):=by
   intro k k' cf q m hm h1 h2 h3 h4 h5 h6;rw[Nb.q0];simp only[Nb.b0,MO h2,w2,h5,hm,hb,MX (show (0:Int)<=((4*c+r:Nat):Int) by omega) (show ((4*c+r:Nat):Int)<((16:Nat):Int) by omega),MX (show (0:Int)<=(q:Int) by omega) (show (q:Int)<((16:Nat):Int) by omega),MX h1 (show k<((([2,3,1,1]:List Int).length:Nat):Int)from h2),h3,h4,Yq,ahl,cond_true,ahx]
  have g0:=h4 0 (by omega);have g1:=h4 1 (by omega);have g2:=h4 2 (by omega);have g3:=h4 3 (by omega);rw[show ((0:Nat):Int)=0 from rfl]at g0;rw[show ((1:Nat):Int)=1 from rfl]at g1;rw[show ((2:Nat):Int)=2 from rfl]at g2;rw[show ((3:Nat):Int)=3 from rfl]at g3;rw[step 0 1 2 _ _ UL (by omega) (by omega) rfl rfl g0 (by omega)];rw[step 1 2 3 _ _ (by simp) (by omega) (by omega) rfl rfl g1 (by omega)];rw[step 2 3 1 _ _ (by simp) (by omega) (by omega) rfl rfl g2 (by omega)];rw[step 3 4 1 _ _ (by simp) (by omega) (by omega) rfl rfl g3 (by omega)];rw[Nb.q0];simp only[Nb.b0,MR (show ¬(4:Int)<4 by omega),cond_false];generalize hm:Ro 16 (4*c+r) (fun i=>rd 0 (RJ b) (i:Int))=m;have hml:m.length=16:=by rw[<-hm,UL]
  have hl: ∀v,4*c+r<(m.set (4*c+r) v).length:=fun v=>by simp[hml];omega
  have h0:rd 0 m ((4*c+r:Nat):Int)=0:=by rw[<-hm,adq (by omega)]
  simp only[Ui (show 4*c+r<m.length by omega),Ui (hl _),ah3,h0];rw[<-hm,RU];unfold RJ;rw[Rl (by omega)];simp only[ahR]
 have inner: ∀c:Nat,c<4->Nb.l1 .lim (b,[2,3,1,1],(c:Int),0,Ro 16 (4*c) (fun i=>rd 0 (RJ b) (i:Int)),())=some (b,[2,3,1,1],(c:Int),Ro 16 (4*c+4) (fun i=>rd 0 (RJ b) (i:Int)),()):=by
  intro c hc;have e:=Om (f:=Nb.l1 .lim) (fun r=>(b,[2,3,1,1],(c:Int),(r:Int),Ro 16 (4*c+r) (fun i=>rd 0 (RJ b) (i:Int)),())) (n:=4) (fun r hr=>by
   rw[Nb.q1];simp only[Nb.b1,MO (show (r:Int)<4 by omega),cond_true,cell c r hc hr,ahl,QO r (by omega)];rfl)
  rw[show ((0:Nat):Int)=0 from rfl,ahR]at e;rw[e,Nb.q1];simp only[Nb.b1,MR (show ¬((4:Nat):Int)<4 by decide),cond_false]
 have e:=Om (f:=Nb.l2 .lim) (fun c=>(b,[2,3,1,1],(c:Int),Ro 16 (4*c) (fun i=>rd 0 (RJ b) (i:Int)),())) (n:=4) (fun c hc=>by
  rw[Nb.q2];simp only[Nb.b2,MO (show (c:Int)<4 by omega),cond_true,inner c hc,ahl,QO c (by omega)];rfl)
 rw[show ((0:Nat):Int)=0 from rfl,aiF,Ry]at e;simp only[Nb.run,show aio 16 70368744177664=true from rfl,cond_true,e];rw[Nb.q2];simp only[Nb.b2,MR (show ¬((4:Nat):Int)<4 by decide),cond_false,ahl];rw[show 4*4=16 from rfl,Ud,<-X3 (m:=RJ b) P7]
theorem abd{b w w1:List Int}(hb:b.length=16)(hw:w.length=16):MV.l0 .lim (w,0,w1,b,())=some (w1,Un b w,()):=by
 have e:=PZ (f:=MV.l0 .lim) (fun k b=>(w,(k:Int),w1,b,())) (fun k v=>Hy .u8 v (rd 0 w (k:Int))) b hb (fun k hk m' hm hj=>by
  rw[MV.q0];simp only[MV.b0,MO (show (k:Int)<16 by omega),hm,hw,MX (show (0:Int)<=k by omega) (show (k:Int)<((16:Nat):Int) by omega),cond_true,QO k (by omega),hj k (ahL _),ahx])
 refine(show _=_ from e).trans ?_;rw[MV.q0];simp only[MV.b0,MR (show ¬((16:Nat):Int)<16 by decide),cond_false];rfl
theorem Zy{b w w1:List Int}{i1:Int}(hb:b.length=16)(hw:w.length=16):MV.l2 .lim (w,0,w1,i1,b,())=some (w1,i1,Un b w,()):=by
 have e:=PZ (f:=MV.l2 .lim) (fun k b=>(w,(k:Int),w1,i1,b,())) (fun k v=>Hy .u8 v (rd 0 w (k:Int))) b hb (fun k hk m' hm hj=>by
  rw[MV.q2];simp only[MV.b2,MO (show (k:Int)<16 by omega),hm,hw,MX (show (0:Int)<=k by omega) (show (k:Int)<((16:Nat):Int) by omega),cond_true,QO k (by omega),hj k (ahL _),ahx])
 refine(show _=_ from e).trans ?_;rw[MV.q2];simp only[MV.b2,MR (show ¬((16:Nat):Int)<16 by decide),cond_false];rfl
theorem acv{b w:List Int}{i:Int}(hb:Wh b):MV.l1 .lim (w,i,0,b,())=some (w,i,tab 16 (fun i=>V7 (rd 0 b (i:Int))),()):=by
 have e:=PZ (f:=MV.l1 .lim) (fun k b=>(w,i,(k:Int),b,())) (fun k v=>V7 v) b hb.1 (fun k hk m' hm hj=>by
  rw[MV.q1];simp only[MV.b1,MO (show (k:Int)<16 by omega),hm,MX (show (0:Int)<=k by omega) (show (k:Int)<((16:Nat):Int) by omega),cond_true,QO k (by omega),hj k (ahL _),VI (hb.at hk),ahl,ahx])
 refine(show _=_ from e).trans ?_;rw[MV.q1];simp only[MV.b1,MR (show ¬((16:Nat):Int)<16 by decide),cond_false]
theorem abk(b:List Int):(tab 16 fun i=>rd 0 (tab 16 fun i=>V7 (rd 0 b (i:Int))) (((i+4*(i%4))%16:Nat):Int))=TF b:=Qa fun k hk=>by rw[Rl (by omega)]
theorem Zw{W:List (List Int)}{b:List Int}{r:Nat}(hW:Words W)(hl:W.length=4*(r+1))(hr:r<=100)(hr0:0<r)(hb:b.length=16):MV.run .lim (W.flatten,b,())=some (Tf W b r):=by
 have hfl:=T_ hW;have h0:=Zb hW (j:=0) (by omega);rw[show ((16*0:Nat):Int)=0 from rfl,show ((16*0+16:Nat):Int)=16 from rfl]at h0;have e:=Om (f:=MV.l3 .lim) (fun k=>(W.flatten,((16*(k+1):Nat):Int),Tf W b k,())) (n:=r) (fun k hk=>by
  rw[MV.q3];have hB:=WU W b k;have hc:=Zb hW (j:=k+1) (by omega);have hkl:=VG hW (j:=k+1) (by omega);have w1:ahk.wrap (((16*(k+1):Nat):Int)+16)=((16*(k+1)+16:Nat):Int):=by rw[wrap64 (by omega) (by omega)];omega
  have hlast:decide (((16*(k+1)+16:Nat):Int)<(W.flatten.length:Int))= !decide (k+2=W.length/4):=by
   by_cases h:k+1=r
   ·rw[MR (by omega),MO (by omega)];rfl
   ·rw[MO (by omega),MR (by omega)];rfl
  simp only[MV.b3,MS (show W.flatten.length<9223372036854775808 by omega),MO (show ((16*(k+1):Nat):Int)<(W.flatten.length:Int) by omega),cond_true,acv hB,ahl,abp P7,abk,w1,hlast,Na (show (0:Int)<=((16*(k+1):Nat):Int) by omega) (show ((16*(k+1):Nat):Int)<=((16*(k+1)+16:Nat):Int) by omega) (show ((16*(k+1)+16:Nat):Int)<=(W.flatten.length:Int) by omega),hc];have hsl:(TF (Tf W b k)).length=16:=P7;have hml:(RJ (TF (Tf W b k))).length=16:=P7;show _=MV.l3 .lim (W.flatten,((16*(k+1+1):Nat):Int),aag (decide (k+2=W.length/4)) (Tf W b k) (TA W (k+1)),());unfold aag;cases decide (k+2=W.length/4)with
  |true=>
   simp only[ahr,cond_false,cond_true];rw[Zy hsl hkl];simp only[ahl,w1];rfl
  |false=>
   simp only[ahn,cond_false,cond_true,ab3 hsl,ahl];rw[Zy hml hkl];simp only[ahl,w1];rfl)
 simp only[MV.run];rw[cond_pos (Na (by omega) (by omega) (by omega)),h0,abd hb (VG hW (by omega))];simp only[ahl];rw[show Tf W b 0=Un b (TA W 0)from rfl,show ((16*(0+1):Nat):Int)=16 from rfl]at e;rw[e,MV.q3];simp only[MV.b3,MS (show W.flatten.length<9223372036854775808 by omega),MR (show ¬((16*(r+1):Nat):Int)<(W.flatten.length:Int) by omega),cond_true,cond_false,ahl]
theorem aaz{key b:List Int}(hk:key.length=16\/key.length=32)(hb: ∀x∈key,B8 x)(hl:b.length=16):MV.run .lim ((QF key).flatten,b,())=some (encS key b):=by
 have h1:=TU key;rw[Zw (r:=key.length/4+6) (UR key hb) (by omega) (by omega) (by omega) hl];unfold encS;rw[show (QF key).length/4-1=key.length/4+6 by omega]
end Go.AM
end
section
namespace Go.AM
section
variable {ok:Bool} {n dn mu sm four nk x i t t1 t2 tp tq:Int} {key b tw ta out K was kb T sb bk:List Int} {yb W rn:List (List Int)} {last:Bool}
theorem ae0(i:Nat)(hi:i<256):MQ.l0 .lim ((i:Int),t,7,0,ok,key,dn,mu,sm,sb,bk,yb,kL,b,tw,())=some (t,ok,key,dn,mu,sm,sb,bk,Wx i yb 7,b,tw,()):=by
 have e:=Om (f:=MQ.l0 .lim) (fun k=>((i:Int),t,7,(k:Int),ok,key,dn,mu,sm,sb,bk,Wx i yb k,kL,b,tw,())) (n:=7) (fun k hk=>by
  rw[MQ.q0];obtain⟨h1,h2⟩:=adO k hk;have hB:B8 (rd 0 kL (k:Int)):=⟨h1,by omega⟩;have hi8:B8 (i:Int):=⟨by omega,by omega⟩;simp only[MQ.b0,MO (show (k:Int)<7 by omega),MX (show (0:Int)<=k by omega) (show (k:Int)<(kL.length:Int)from show (k:Int)<7 by omega),SY hi8,SI hi8 hB,ahl,MX h1 (show rd 0 kL (k:Int)<16 from h2),MX (show (0:Int)<=i by omega) (show (i:Int)<256 by omega),cond_true,QO k (by omega),ahx];rfl)
 refine e.trans ?_;rw[MQ.q0];simp only[MQ.b0,MR (show ¬((7:Nat):Int)<7 by decide),cond_false]
theorem abw:MQ.l1 .lim (0,ok,key,dn,mu,sm,OH,OH,ahB 16 OH,b,tw,())=some (ok,key,dn,mu,sm,Rt 256,VX 256,Ov 256,b,tw,()):=by
 have e:=Om (f:=MQ.l1 .lim) (fun k=>((k:Int),ok,key,dn,mu,sm,Rt k,VX k,Ov k,b,tw,())) (n:=256) (fun k hk=>by
  rw[MQ.q1];have hi8:B8 (k:Int):=⟨by omega,by omega⟩;have hs:=aaF hi8;have hm:=fun sb bk=>ae0 (ok:=ok) (key:=key) (dn:=dn) (mu:=mu) (sm:=sm) (sb:=sb) (bk:=bk) (yb:=Ov k) (b:=b) (tw:=tw) (t:=(k:Int))  k hk
  simp only[MQ.b1,MO (show (k:Int)<256 by omega),SY hi8,aao hi8,ahl,MX (show (0:Int)<=k by omega) (show (k:Int)<256 by omega),MX hs.1 hs.2,cond_true,show ((([1,2,3,9,11,13,14]:List Int).length:Nat):Int)=7 from rfl,Ns (show (7:Int)<9223372036854775808 by omega),hm,QO k (by omega),aaC];rw[show (Rt k).set ((k:Int)).toNat (V7 k)=Rt (k+1)from RU rfl];rfl)
 rw[show Rt 0=OH from Ry,XR,show VX 0=OH from rfl,show ((0:Nat):Int)=0 from rfl]at e;refine e.trans ?_;rw[MQ.q1];simp only[MQ.b1,MR (show ¬((256:Nat):Int)<256 by decide),cond_false]
theorem acP{q:Nat}(hk:kb.length=4*q)(hq:q<=100):MQ.l2 .lim (0,nk,ok,4,key,dn,mu,sm,sb,bk,yb,b,tw,kb,[],())=some (nk,ok,key,dn,mu,sm,sb,bk,yb,b,tw,(ahI q).map (word kb),()):=by
 have e:=Om (f:=MQ.l2 .lim) (fun k=>(((4*k:Nat):Int),nk,ok,4,key,dn,mu,sm,sb,bk,yb,b,tw,kb,(ahI k).map (word kb),())) (n:=q) (fun k hkq=>by
  rw[MQ.q2];have w1:ahk.wrap (((4*k:Nat):Int)+4)=((4*k+4:Nat):Int):=by rw[wrap64 (by omega) (by omega)];omega
  have w2:mn 4 ((kb.length:Int)-((4*k:Nat):Int))=4:=by rw[OW];omega
  have w3:(cut kb ((4*k:Nat):Int) ((4*k+4:Nat):Int)).length=4:=by rw[Q7,ahO,ahS];omega
  have w4:(ain 1 4&&ain 4 (cut kb ((4*k:Nat):Int) ((4*k+4:Nat):Int)).length)=true:=by rw[w3];rfl
  simp only[MQ.b2,Ns (show (kb.length:Int)<9223372036854775808 by omega),MO (show ((4*k:Nat):Int)<(kb.length:Int) by omega),Na (show (0:Int)<=((4*k:Nat):Int) by omega) (show ((4*k:Nat):Int)<=(kb.length:Int) by omega) (ahN _),Ns (show (kb.length:Int)-((4*k:Nat):Int)<9223372036854775808 by omega),w2,w1,Na (show (0:Int)<=((4*k:Nat):Int) by omega) (show ((4*k:Nat):Int)<=((4*k+4:Nat):Int) by omega) (ahN _),MO (show ((4*k+4:Nat):Int)<=(kb.length:Int) by omega),ahq,w4,cond_true];rw[cond_pos (by simp;omega),Zc (by omega)];simp only[ahY,ahW,ah8,aif];rfl)
 refine e.trans ?_;rw[MQ.q2];simp only[MQ.b2,Ns (show (kb.length:Int)<9223372036854775808 by omega),MR (show ¬((4*q:Nat):Int)<(kb.length:Int) by omega),cond_true,cond_false]
theorem ae1(hW:Words W){i nk:Nat}(h1:nk<=i)(h2:i<=W.length)(h3:0<nk)(h4:i<1000)(hT:T.length=4):MQ.l3 .lim ((nk:Int),x,(i:Int),0,ok,T,key,dn,mu,sm,sb,bk,yb,b,tw,W,())=some ((nk:Int),x,(i:Int),ok,X5 T (rd z4 W ((i-nk:Nat):Int)),key,dn,mu,sm,sb,bk,yb,b,tw,W,()):=by
 have w:ahk.wrap ((i:Int)-(nk:Int))=((i-nk:Nat):Int):=by rw[wrap64 (by omega) (by omega)];omega
 have e:=PZ (f:=MQ.l3 .lim) (fun k T=>((nk:Int),x,(i:Int),(k:Int),ok,T,key,dn,mu,sm,sb,bk,yb,b,tw,W,())) (fun k v=>Hy .u8 v (rd 0 (rd z4 W ((i-nk:Nat):Int)) (k:Int))) T hT (fun k hk m' hm hj=>by
  rw[MQ.q3];simp only[MQ.b3,MO (show (k:Int)<4 by omega),MX (show (0:Int)<=k by omega) (show (k:Int)<4 by omega),w,MX (show (0:Int)<=((i-nk:Nat):Int) by omega) (show ((i-nk:Nat):Int)<(W.length:Int) by omega),cond_true,QO k (by omega),hj k (ahL _),ahx])
 refine e.trans ?_;rw[MQ.q3];simp only[MQ.b3,MR (show ¬((4:Nat):Int)<4 by decide),cond_false];rfl
end
end Go.AM
end
section
namespace Go.AM
section
variable {ok:Bool} {n dn mu sm four x i t t1 t2 tp tq:Int} {key b tw ta out K was kb T sb bk:List Int} {yb W rn:List (List Int)} {last:Bool}
theorem ad2(a b c d:Int):((((ahB 4 (0:Int)).set 0 a).set 1 b).set 2 c).set 3 d=[a,b,c,d]:=rfl
theorem acQ{nk:Nat}(hn:nk=4\/nk=8)(hk:4*nk<=kb.length)(hb: ∀x∈kb,B8 x):
  MQ.l4 .lim ((nk:Int),1,(nk:Int),ok,key,dn,mu,sm,Rt 256,bk,yb,b,tw,(ahI nk).map (word kb),())=some (ok,key,dn,mu,sm,Rt 256,bk,yb,b,tw,(sched nk kb (3*nk+28)).1,()):=by
 have e:=Om (f:=MQ.l4 .lim) (fun k=>((nk:Int),(sched nk kb k).2,((nk+k:Nat):Int),ok,key,dn,mu,sm,Rt 256,bk,yb,b,tw,(sched nk kb k).1,())) (n:=3*nk+28) (fun k hkq=>by
  rw[MQ.q4];obtain⟨hW,hx⟩:=UG nk kb hk hb k;have hl:=Ub nk kb k;have hs:sched nk kb (k+1)=stepW nk (sched nk kb k):=rfl;rw[hs];unfold stepW;generalize hq:sched nk kb k=q at hW hx hl;obtain⟨W,x⟩:=q;simp only at hW hx hl ⊢
  have hi0:nk+k<1000:=by omega
  generalize hi:nk+k=i at hl hi0;have hw:=hW.at (show i-1<W.length by omega);have hb0:=hW.byte (show i-1<W.length by omega) (j:=0) (by omega) (by omega);have hb1:=hW.byte (show i-1<W.length by omega) (j:=1) (by omega) (by omega);have hb2:=hW.byte (show i-1<W.length by omega) (j:=2) (by omega) (by omega);have hb3:=hW.byte (show i-1<W.length by omega) (j:=3) (by omega) (by omega);have w1:ahk.wrap (4*ahk.wrap ((nk:Int)+7))=((4*nk+28:Nat):Int):=by rw[wrap64 (n:=(nk:Int)+7) (by omega) (by omega),wrap64 (by omega) (by omega)];omega
  have w2:ahk.wrap ((i:Int)-1)=((i-1:Nat):Int):=by rw[wrap64 (by omega) (by omega)];omega
  have m1:((i:Int)).tmod (nk:Int)=((i%nk:Nat):Int):=by rw[ahC (ahD i)];simp
  have m2:((i:Int)).tmod 8=((i%8:Nat):Int):=by rw[ahC (ahD i)];simp
  have Xy:=fun x T hT=>ae1 (ok:=ok) (key:=key) (dn:=dn) (mu:=mu) (sm:=sm) (sb:=Rt 256) (bk:=bk) (yb:=yb) (b:=b) (tw:=tw) (x:=x) (T:=T)  hW (i:=i) (nk:=nk) (by omega) (by omega) (by omega) (by omega) hT
  have cap: ∀T:List Int,decide (W.length+([T]:List (List Int)).length<17592186044416)=true:=fun T=>MO (by simp;omega)
  simp only[MQ.b4,w1,MO (show (i:Int)<((4*nk+28:Nat):Int) by omega),w2,MX (show (0:Int)<=((i-1:Nat):Int) by omega) (show ((i-1:Nat):Int)<(W.length:Int) by omega),MR (show ¬(nk:Int)=0 by omega),m1,m2,cond_true,ahn,MX hb0.1 hb0.2,MX hb1.1 hb1.2,MX hb2.1 hb2.2,MX hb3.1 hb3.2,TQ hb0,TQ hb1,TQ hb2,TQ hb3,ad2,ahw];rw[hl];unfold aaN;by_cases c1:i%nk=0
  ·rw[MO (show ((i%nk:Nat):Int)=0 by omega),if_pos c1,if_pos c1];simp only[cond_true,SI hx (show B8 2 from⟨by decide,by decide⟩),ahl];rw[Xy _ _ rfl];simp only[ahl];rw[cond_pos (by simp;omega),QO i (by omega)];rw[show i+1=nk+(k+1) by omega]
  ·rw[MR (show ¬((i%nk:Nat):Int)=0 by omega),if_neg c1,if_neg c1];simp only[cond_false];by_cases c2:nk=8/\i%8=4
   ·rw[MO (show (nk:Int)=8 by omega),MO (show ((i%8:Nat):Int)=4 by omega),if_pos c2];simp only[ahq,cond_true];rw[Xy _ _ rfl];simp only[ahl];rw[cond_pos (by simp;omega),QO i (by omega)];rw[show i+1=nk+(k+1) by omega]
   ·have:(decide ((nk:Int)=8)&&decide (((i%8:Nat):Int)=4))=false:=by
     by_cases c3:nk=8
     ·rw[MR (show ¬((i%8:Nat):Int)=4 by omega),aho]
     ·rw[MR (show ¬(nk:Int)=8 by omega),ahp]
    rw[this,if_neg c2];simp only[cond_false];rw[Xy _ _ hw.1];simp only[ahl];rw[cond_pos (by simp;omega),QO i (by omega),<-list4 hw.1];rw[show i+1=nk+(k+1) by omega])
 refine(show _=_ from e).trans ?_;rw[MQ.q4];have w1:ahk.wrap (4*ahk.wrap ((nk:Int)+7))=((4*nk+28:Nat):Int):=by rw[wrap64 (n:=(nk:Int)+7) (by omega) (by omega),wrap64 (by omega) (by omega)];omega
 simp only[MQ.b4,w1,MR (show ¬((nk+(3*nk+28):Nat):Int)<((4*nk+28:Nat):Int) by omega),cond_false]
end
end Go.AM
end
section
namespace Go.AM
theorem Yz{l:List (List Int)}{k:Nat}(h:k<l.length):(l.take (k+1)).flatten=(l.take k).flatten++rd [] l (k:Int):=by rw[U5 (d:=([]:List Int)) h,aik];simp
theorem VN(l:List (List Int))(k:Nat):(l.take k).flatten.length<=l.flatten.length:=by
 have:l.flatten=(l.take k).flatten++(l.drop k).flatten:=by rw[<-aik,List.take_append_drop]
 rw[this,ahH];omega
theorem Yf(l:List (List Int))(h:l.flatten.length<=1000000)(hl:l.length<=1000000):M_.run .lim (l,())=some l.flatten:=by
 have e:=Om (f:=M_.l0 .lim) (fun k=>(l,(((l.take k).flatten.length:Nat):Int),l,(l.length:Int),(k:Int),())) (n:=l.length) (fun k hk=>by
  rw[M_.q0];have h1:=Yz hk;have h2:=VN l (k+1);rw[h1,ahH]at h2;have w:ahk.wrap ((((l.take k).flatten.length:Nat):Int)+((rd ([]:List Int) l (k:Int)).length:Int))=(((l.take (k+1)).flatten.length:Nat):Int):=by rw[wrap64 (by omega) (by omega),h1,ahH];omega
  simp only[M_.b0,MO (show (k:Int)<(l.length:Int) by omega),MX (show (0:Int)<=k by omega) (show (k:Int)<(l.length:Int) by omega),MS (show (rd ([]:List Int) l (k:Int)).length<9223372036854775808 by omega),w,MR (show ¬((((l.take (k+1)).flatten.length:Nat):Int)<0) by omega),cond_true,cond_false,QO k (by omega)])
 have e1:=fun N:Nat=>fun hN:N=l.flatten.length=>Om (f:=M_.l1 .lim) (fun k=>((((l.take k).flatten.length:Nat):Int),l,(l.length:Int),(k:Int),(l.take k).flatten++ahB (N-(l.take k).flatten.length) 0,())) (n:=l.length) (fun k hk=>by
  rw[M_.q1];have h1:=Yz hk;have h2:=VN l (k+1);rw[h1,ahH]at h2;simp only[M_.b1,MO (show (k:Int)<(l.length:Int) by omega),MX (show (0:Int)<=k by omega) (show (k:Int)<(l.length:Int) by omega),cond_true,QO k (by omega),ahx];have hc:(decide (((l.take k).flatten++ahB (N-(l.take k).flatten.length) (0:Int)).length+(rd ([]:List Int) l (k:Int)).length<70368744177664)&&decide (0<=(((l.take k).flatten.length:Nat):Int)))=true:=by rw[ahH,aie,MO (by omega),MO (by omega)];rfl
  rw[cond_pos hc,h1,ahH];have e3:((((l.take k).flatten.length:Nat):Int)+((rd ([]:List Int) l (k:Int)).length:Int))=(((l.take k).flatten.length+(rd ([]:List Int) l (k:Int)).length:Nat):Int):=by omega
  rw[e3,List.take_append_of_le_length (ahL _),ahT,List.drop_append,List.drop_eq_nil_of_le (by omega),List.nil_append,List.drop_replicate,ait];have e4:N-(l.take k).flatten.length-((l.take k).flatten.length+(rd ([]:List Int) l (k:Int)).length-(l.take k).flatten.length)=N-((l.take k).flatten.length+(rd ([]:List Int) l (k:Int)).length):=by omega
  rw[e4])
 rw[ahT,aij,show ((([]:List (List Int)).flatten.length:Nat):Int)=0 from rfl,show ((0:Nat):Int)=0 from rfl]at e;have ee:M_.l0 .lim (l,((l.flatten.length:Nat):Int),l,(l.length:Int),(l.length:Int),())=some (l,((l.flatten.length:Nat):Int),()):=by
  rw[M_.q0];simp only[M_.b0,MR (show ¬(l.length:Int)<(l.length:Int) by omega),cond_false]
 have ee1: ∀m,M_.l1 .lim (((l.flatten.length:Nat):Int),l,(l.length:Int),(l.length:Int),m,())=some (((l.flatten.length:Nat):Int),m,()):=fun m=>by
  rw[M_.q1];simp only[M_.b1,MR (show ¬(l.length:Int)<(l.length:Int) by omega),cond_false]
 have e2:M_.l1 .lim (0,l,(l.length:Int),0,ahB l.flatten.length 0,())=some (((l.flatten.length:Nat):Int),l.flatten,()):=by
  have:=e1 _ rfl;rw[ahT,aij,Nat.sub_self,ail,aiA]at this;exact this.trans (ee1 _)
 simp only[M_.run,MS (show l.length<9223372036854775808 by omega),cond_true,e,ee,ahl,Int.sub_zero,MR (show ¬((l.flatten.length:Nat):Int)<0 by omega),cond_false,wrap64 (show-9223372036854775808<=((l.flatten.length:Nat):Int) by omega) (show ((l.flatten.length:Nat):Int)<9223372036854775808 by omega),ahx];by_cases h0:l.flatten.length=0
 ·rw[MR (show ¬((l.flatten.length:Nat):Int)>0 by omega)];rw[h0,ail]at e2;simp only[cond_false];rw[e2];simp[List.length_eq_zero_iff.1 h0]
 ·rw[MO (show ((l.flatten.length:Nat):Int)>0 by omega)];have hb:aio l.flatten.length 70368744177664=true:=by rw[Nat.blt_eq];omega
  simp only[cond_true,MO (show (0:Int)<=((l.flatten.length:Nat):Int) by omega),hb,ahq,e2,ahl,ah4,ahx,ahT];rw[cond_pos (Na (ahN 0) (ahN 0) (ahD _))]
end Go.AM
end
section
namespace Go.AM
section
variable {ok:Bool} {n dn mu sm four x i t t1 t2 tp tq:Int} {key b tw ta out K was kb T sb bk:List Int} {yb W rn:List (List Int)} {last:Bool}
theorem abv{q:Nat}(hW:Words W)(hl:W.length=4*q)(hq:q<=100):MQ.l5 .lim (0,ok,4,key,dn,mu,sm,sb,bk,yb,b,tw,W,[],())=some (ok,key,dn,mu,sm,sb,bk,yb,b,tw,PL W,()):=by
 have e:=Om (f:=MQ.l5 .lim) (fun k=>(((4*k:Nat):Int),ok,4,key,dn,mu,sm,sb,bk,yb,b,tw,W,(ahI k).map (TA W),())) (n:=q) (fun k hkq=>by
  rw[MQ.q5];have w1:ahk.wrap (((4*k:Nat):Int)+4)=((4*k+4:Nat):Int):=by rw[wrap64 (by omega) (by omega)];omega
  have w2:mn 4 ((W.length:Int)-((4*k:Nat):Int))=4:=by rw[OW];omega
  have w3:(cut W ((4*k:Nat):Int) ((4*k+4:Nat):Int)).length=4:=by rw[Q7,ahO,ahS];omega
  have at_: ∀j:Nat,j<4->rd z4 (cut W ((4*k:Nat):Int) ((4*k+4:Nat):Int)) (j:Int)=rd z4 W ((4*k+j:Nat):Int):=fun j hj=>by
   rw[Q7];unfold rd;rw[ahx,ahx,ahE,ahE,ah7 (by omega),aiq]
  have a0:rd z4 (cut W ((4*k:Nat):Int) ((4*k+4:Nat):Int)) 0=rd z4 W ((4*k:Nat):Int):=at_ 0 (by omega);have a1:rd z4 (cut W ((4*k:Nat):Int) ((4*k+4:Nat):Int)) 1=rd z4 W ((4*k+1:Nat):Int):=at_ 1 (by omega);have a2:rd z4 (cut W ((4*k:Nat):Int) ((4*k+4:Nat):Int)) 2=rd z4 W ((4*k+2:Nat):Int):=at_ 2 (by omega);have a3:rd z4 (cut W ((4*k:Nat):Int) ((4*k+4:Nat):Int)) 3=rd z4 W ((4*k+3:Nat):Int):=at_ 3 (by omega);have c4: ∀l:List Int,l.length=4->cut l 0 4=l:=fun l hl=>by
   have:=Q7 l 0 4;rw[show ((0:Nat):Int)=0 from rfl,show ((4:Nat):Int)=4 from rfl]at this;rw[this,ah4,ahK (by omega)]
  have l0:=(hW.at (show 4*k<W.length by omega)).1;have l1:=(hW.at (show 4*k+1<W.length by omega)).1;have l2:=(hW.at (show 4*k+2<W.length by omega)).1;have l3:=(hW.at (show 4*k+3<W.length by omega)).1;have hfl:[rd z4 W ((4*k:Nat):Int),rd z4 W ((4*k+1:Nat):Int),rd z4 W ((4*k+2:Nat):Int),rd z4 W ((4*k+3:Nat):Int)].flatten=TA W k:=by simp[TA]
  have hrl:=VG hW (j:=k) (by omega);have oh:=Yf [rd z4 W ((4*k:Nat):Int),rd z4 W ((4*k+1:Nat):Int),rd z4 W ((4*k+2:Nat):Int),rd z4 W ((4*k+3:Nat):Int)] (by rw[hfl,hrl];omega) (by simp);rw[hfl]at oh;simp only[MQ.b5,Ns (show (W.length:Int)<9223372036854775808 by omega),MO (show ((4*k:Nat):Int)<(W.length:Int) by omega),Na (show (0:Int)<=((4*k:Nat):Int) by omega) (show ((4*k:Nat):Int)<=(W.length:Int) by omega) (ahN _),Ns (show (W.length:Int)-((4*k:Nat):Int)<9223372036854775808 by omega),w2,w1,Na (show (0:Int)<=((4*k:Nat):Int) by omega) (show ((4*k:Nat):Int)<=((4*k+4:Nat):Int) by omega) (ahN _),MO (show ((4*k+4:Nat):Int)<=(W.length:Int) by omega),ahq,w3,cond_true,MX (show (0:Int)<=0 by omega) (show (0:Int)<((4:Nat):Int) by decide),MX (show (0:Int)<=1 by omega) (show (1:Int)<((4:Nat):Int) by decide),MX (show (0:Int)<=2 by omega) (show (2:Int)<((4:Nat):Int) by decide),MX (show (0:Int)<=3 by omega) (show (3:Int)<((4:Nat):Int) by decide),a0,a1,a2,a3,c4 _ l0,c4 _ l1,c4 _ l2,c4 _ l3,oh,ahl,hrl,ahK (aiE hrl)];rw[show (ain 1 16&&ain 16 16)=true from rfl,cond_true,cond_pos (by simp;omega)];simp only[ahY,ahW,ah8,aif];rfl)
 refine(show _=_ from e).trans ?_;rw[MQ.q5];simp only[MQ.b5,Ns (show (W.length:Int)<9223372036854775808 by omega),MR (show ¬((4*q:Nat):Int)<(W.length:Int) by omega),cond_true,cond_false];unfold PL;rw[hl,ah9 _ (by omega)]
theorem acN(hk:key.length=16\/key.length=32)(hb: ∀x∈key,B8 x):MQ.l6 .lim (key,0,0,sm,OH,OH,ahB 16 OH,b,tw,())=some (b,tw,key,1,0,sm,Rt 256,VX 256,Ov 256,PL (QF key),()):=by
 have h0:MQ.l6 .lim (key,0,0,sm,OH,OH,ahB 16 OH,b,tw,())=MQ.b6 .lim (MQ.l6 .lim) (key,0,0,sm,OH,OH,ahB 16 OH,b,tw,()):=MQ.q6 _;rw[h0];have hd:(key.length:Int).tdiv 4=((key.length/4:Nat):Int):=by rw[ahJ (ahD _)];simp
 have w1:ahk.wrap ((key.length:Int).tdiv 4)=((key.length/4:Nat):Int):=by rw[hd,wrap64 (by omega) (by omega)]
 have t:=abw (ok:=true) (key:=key) (dn:=0) (mu:=1) (sm:=sm) (b:=b) (tw:=tw);have s:=acP (kb:=key) (q:=key.length/4) (nk:=((key.length/4:Nat):Int)) (ok:=true) (key:=key) (dn:=0) (mu:=1) (sm:=sm) (sb:=Rt 256) (bk:=VX 256) (yb:=Ov 256) (b:=b) (tw:=tw)  (by omega) (by omega);have w:=acQ (kb:=key) (nk:=key.length/4) (ok:=true) (key:=key) (dn:=0) (mu:=1) (sm:=sm) (bk:=VX 256) (yb:=Ov 256) (b:=b) (tw:=tw)  (by omega) (by omega) hb;have r:=abv (W:=QF key) (q:=key.length/4+7) (ok:=true) (key:=key) (dn:=0) (mu:=1) (sm:=sm) (sb:=Rt 256) (bk:=VX 256) (yb:=Ov 256) (b:=b) (tw:=tw)  (UR key hb) (by rw[TU];omega) (by omega);have hs:PY.run .lim (true,())=some 1:=rfl;have hw:(sched (key.length/4) key (3*(key.length/4)+28)).1=QF key:=rfl;simp only[MQ.b6,decide_true,ahr,ahn,cond_true,t,ahl,Ns (show (key.length:Int)<9223372036854775808 by omega),w1];rw[s];simp only[ahl];rw[w];simp only[ahl];rw[hw,r];simp only[ahl,hs,show aiG.wrap (1+ -1)=0 from by decide,decide_true,ahr,cond_false]
end
end Go.AM
end
section
namespace Go.AM
section
variable {ok:Bool} {n dn mu sm four x i t t1 t2 tp tq:Int} {key b tw ta out K was kb T sb bk:List Int} {yb W rn:List (List Int)} {last:Bool}
theorem acM(hb:b.length=16):MQ.l7 .lim (0,b,K,tw,key,dn,mu,sm,sb,bk,yb,rn,())=some (Un b K,tw,key,dn,mu,sm,sb,bk,yb,rn,()):=by
 have e:=PZ (f:=MQ.l7 .lim) (fun k b=>((k:Int),b,K,tw,key,dn,mu,sm,sb,bk,yb,rn,())) (fun k v=>Hy .u8 v (rd 0 K (k:Int))) b hb (fun k hk m' hm hj=>by
  rw[MQ.q7];simp only[MQ.b7,MO (show (k:Int)<16 by omega),MX (show (0:Int)<=k by omega) (show (k:Int)<16 by omega),cond_true,QO k (by omega),hj k (ahL _),ahx])
 refine(show _=_ from e).trans ?_;rw[MQ.q7];simp only[MQ.b7,MR (show ¬((16:Nat):Int)<16 by decide),cond_false];rfl
theorem abt(hb:Wh b):MQ.l8 .lim (0,last,tp,tq,t1,t2,b,key,dn,mu,sm,Rt 256,bk,yb,K,rn,tw,())=some (last,tp,tq,t1,t2,tab 16 fun i=>V7 (rd 0 b (i:Int)),K,rn,tw,key,dn,mu,sm,Rt 256,bk,yb,()):=by
 have e:=PZ (f:=MQ.l8 .lim) (fun k b=>((k:Int),last,tp,tq,t1,t2,b,key,dn,mu,sm,Rt 256,bk,yb,K,rn,tw,())) (fun k v=>V7 v) b hb.1 (fun k hk m' hm hj=>by
  rw[MQ.q8];have h:=hb.at hk;simp only[MQ.b8,MO (show (k:Int)<16 by omega),MX (show (0:Int)<=k by omega) (show (k:Int)<16 by omega),cond_true,QO k (by omega),hj k (ahL _),MX h.1 h.2,TQ h,ahx])
 refine(show _=_ from e).trans ?_;rw[MQ.q8];simp only[MQ.b8,MR (show ¬((16:Nat):Int)<16 by decide),cond_false]
theorem ad4(hb:b.length=16):MQ.l9 .lim (4,0,last,tp,tq,t1,t2,b,was,K,rn,tw,key,dn,mu,sm,sb,bk,yb,())=some (last,tp,tq,t1,t2,tab 16 fun i=>rd 0 was (((i+4*(i%4))%16:Nat):Int),K,rn,tw,key,dn,mu,sm,sb,bk,yb,()):=by
 have e:=PZ (f:=MQ.l9 .lim) (fun k b=>(4,(k:Int),last,tp,tq,t1,t2,b,was,K,rn,tw,key,dn,mu,sm,sb,bk,yb,())) (fun k v=>rd 0 was (((k+4*(k%4))%16:Nat):Int)) b hb (fun k hk m' hm hj=>by
  rw[MQ.q9];have m1:((k:Int)).tmod 4=((k%4:Nat):Int):=by rw[ahC (ahD k)];simp
  have w1:ahk.wrap (4*(k:Int).tmod 4)=((4*(k%4):Nat):Int):=by rw[m1,wrap64 (by omega) (by omega)];omega
  have w2:ahk.wrap ((k:Int)+((4*(k%4):Nat):Int))=((k+4*(k%4):Nat):Int):=by rw[wrap64 (by omega) (by omega)];omega
  have w3:ahk.wrap (((k+4*(k%4):Nat):Int)+64)=((k+4*(k%4)+64:Nat):Int):=by rw[wrap64 (by omega) (by omega)];omega
  have m2:(((k+4*(k%4)+64:Nat):Int)).tmod 16=(((k+4*(k%4))%16:Nat):Int):=by rw[ahC (ahD _)];omega
  simp only[MQ.b9,MO (show (k:Int)<16 by omega),MX (show (0:Int)<=k by omega) (show (k:Int)<16 by omega),cond_true,QO k (by omega),w1,w2,w3,m2,MX (show (0:Int)<=(((k+4*(k%4))%16:Nat):Int) by omega) (show (((k+4*(k%4))%16:Nat):Int)<16 by omega),ahx])
 refine(show _=_ from e).trans ?_;rw[MQ.q9];simp only[MQ.b9,MR (show ¬((16:Nat):Int)<16 by decide),cond_false]
abbrev S9:List Int:=[2,3,1,1]
theorem ad1(hw:Wh was){i:Nat}(hi:i<16)(hb:b.length=16)(h0:rd 0 b (i:Int)=0):MQ.l10 .lim ((i:Int),t,S9,0,tp,tq,t1,t2,key,dn,mu,sm,sb,bk,Ov 256,b,S9,was,K,rn,tw,())=some (t,tp,tq,t1,t2,key,dn,mu,sm,sb,bk,Ov 256,b.set i (rd 0 (RJ was) (i:Int)),S9,was,K,rn,tw,()):=by
 have h4: ∀j:Nat,j<4->ahk.wrap (ahk.wrap (ahk.wrap ((i:Int).tdiv 4)*4)+(ahk.wrap ((i:Int)+(j:Int))).tmod 4)=((i/4*4+(i+j)%4:Nat):Int):=by
  intro j hj;have d1:((i:Int)).tdiv 4=((i/4:Nat):Int):=by rw[ahJ (ahD i)];simp
  have d2:ahk.wrap ((i:Int)+(j:Int))=((i+j:Nat):Int):=by rw[wrap64 (by omega) (by omega)];omega
  have d3:(((i+j:Nat):Int)).tmod 4=(((i+j)%4:Nat):Int):=by rw[ahC (ahD _)];simp
  rw[d1,d2,d3,wrap64 (n:=((i/4:Nat):Int)) (by omega) (by omega),wrap64 (n:=((i/4:Nat):Int)*4) (by omega) (by omega),wrap64 (by omega) (by omega)];omega
 have hB: ∀j:Nat,j<4->B8 (rd 0 was ((i/4*4+(i+j)%4:Nat):Int)):=fun j hj=>hw.at (by omega)
 have g0:=h4 0 (by omega);have g1:=h4 1 (by omega);have g2:=h4 2 (by omega);have g3:=h4 3 (by omega);have b0:=hB 0 (by omega);have b1:=hB 1 (by omega);have b2:=hB 2 (by omega);have b3:=hB 3 (by omega);rw[show ((0:Nat):Int)=0 from rfl]at g0;rw[show ((1:Nat):Int)=1 from rfl]at g1;rw[show ((2:Nat):Int)=2 from rfl]at g2;rw[show ((3:Nat):Int)=3 from rfl]at g3;have r0:=(TM b0).2.1;have r1:=(TM b1).2.2;have r2:=(TM b2).1;have r3:=(TM b3).1;have step: ∀(c:Int) (j j':Int) (q:Nat) (v:Int) (bb:List Int),bb.length=16->0<=j->j<4->rd 0 S9 j=c->0<=c->c<16->ahk.wrap (j+1)=j'->ahk.wrap (ahk.wrap (ahk.wrap ((i:Int).tdiv 4)*4)+(ahk.wrap ((i:Int)+j)).tmod 4)=(q:Int)->q<16->rd 0 (rd OH (Ov 256) c) (rd 0 was (q:Int))=v->B8 (rd 0 was (q:Int))->
   MQ.l10 .lim ((i:Int),t,S9,j,tp,tq,t1,t2,key,dn,mu,sm,sb,bk,Ov 256,bb,S9,was,K,rn,tw,())=MQ.l10 .lim ((i:Int),t,S9,j',tp,tq,t1,t2,key,dn,mu,sm,sb,bk,Ov 256,bb.set i (Hy .u8 (rd 0 bb (i:Int)) v),S9,was,K,rn,tw,()):=by
  intro c j j' q v bb hbb h1 h2 h3 h4 h5 h6 h7 h8 h9 h10;rw[MQ.q10];simp only[MQ.b10,MO h2,MX h1 h2,h3,MX h4 h5,h7,MX (show (0:Int)<=i by omega) (show (i:Int)<16 by omega),MX (show (0:Int)<=(q:Int) by omega) (show (q:Int)<16 by omega),MX h10.1 h10.2,h9,h6,cond_true,ahx]
 rw[step 2 0 1 _ _ b hb (by omega) (by omega) rfl (by omega) (by omega) rfl g0 (by omega) r0 b0];rw[step 3 1 2 _ _ _ (by simp[hb]) (by omega) (by omega) rfl (by omega) (by omega) rfl g1 (by omega) r1 b1];rw[step 1 2 3 _ _ _ (by simp[hb]) (by omega) (by omega) rfl (by omega) (by omega) rfl g2 (by omega) r2 b2];rw[step 1 3 4 _ _ _ (by simp[hb]) (by omega) (by omega) rfl (by omega) (by omega) rfl g3 (by omega) r3 b3];rw[MQ.q10];simp only[MQ.b10,MR (show ¬(4:Int)<4 by omega),cond_false];have hl: ∀v,i<(b.set i v).length:=fun v=>by simp[hb];omega
 simp only[Ui (show i<b.length by omega),Ui (hl _),ah3,h0];unfold RJ;rw[Rl hi];simp only[ahR]
theorem aeZ(hw:Wh was)(hb:b.length=16):MQ.l11 .lim (0,tp,tq,t1,t2,key,dn,mu,sm,sb,bk,Ov 256,b,S9,was,K,rn,tw,())=some (tp,tq,t1,t2,RJ was,K,rn,tw,key,dn,mu,sm,sb,bk,Ov 256,()):=by
 have e:=PZ (f:=MQ.l11 .lim) (fun k b=>((k:Int),tp,tq,t1,t2,key,dn,mu,sm,sb,bk,Ov 256,b,S9,was,K,rn,tw,())) (fun k v=>rd 0 (RJ was) (k:Int)) b hb (fun k hk m' hm hj=>by
  rw[MQ.q11];have hm:=fun h0=>ad1 (tp:=tp) (tq:=tq) (t1:=t1) (t2:=t2) (key:=key) (dn:=dn) (mu:=mu) (sm:=sm) (sb:=sb) (bk:=bk) (K:=K) (rn:=rn) (tw:=tw) (t:=(k:Int))  hw (b:=m'.set k 0) hk (by simp[hm]) h0
  simp only[MQ.b11,MO (show (k:Int)<16 by omega),MX (show (0:Int)<=k by omega) (show (k:Int)<16 by omega),cond_true,ahx];rw[hm (Ui (by omega))];simp only[ahl,QO k (by omega),ah3])
 refine(show _=_ from e).trans ?_;rw[MQ.q11];simp only[MQ.b11,MR (show ¬((16:Nat):Int)<16 by decide),cond_false];have:(tab 16 fun i=>rd 0 (RJ was) (i:Int))=RJ was:=(X3 P7).symm;rw[this]
theorem abu(hb:b.length=16):MQ.l12 .lim (0,tp,tq,t1,t2,b,K,rn,tw,key,dn,mu,sm,sb,bk,yb,())=some (tp,tq,t1,t2,rn,Un b K,tw,key,dn,mu,sm,sb,bk,yb,()):=by
 have e:=PZ (f:=MQ.l12 .lim) (fun k b=>((k:Int),tp,tq,t1,t2,b,K,rn,tw,key,dn,mu,sm,sb,bk,yb,())) (fun k v=>Hy .u8 v (rd 0 K (k:Int))) b hb (fun k hk m' hm hj=>by
  rw[MQ.q12];simp only[MQ.b12,MO (show (k:Int)<16 by omega),MX (show (0:Int)<=k by omega) (show (k:Int)<16 by omega),cond_true,QO k (by omega),hj k (ahL _),ahx])
 refine(show _=_ from e).trans ?_;rw[MQ.q12];simp only[MQ.b12,MR (show ¬((16:Nat):Int)<16 by decide),cond_false];rfl
theorem acO(b:List Int):(tab 16 fun i=>rd 0 (tab 16 fun i=>V7 (rd 0 b (i:Int))) (((i+4*(i%4))%16:Nat):Int))=TF b:=Qa fun k hk=>by rw[Rl (by omega)]
theorem ZO(hb:Wh b):Wh (TF b):=⟨P7,Yy fun k hk=>aaF (hb.at (by omega))⟩
theorem aeY{r:Nat}(hW:Words W)(hl:W.length=4*(r+1))(hr:r<=100)(hr0:0<r)(hb:b.length=16):
  MQ.ZW .lim (1,((r:Nat):Int),((r:Nat):Int),0,PL W,Tf W b 0,tw,key,dn,mu,sm,Rt 256,bk,Ov 256,())=some (Tf W b r,tw,key,dn,mu,sm,Rt 256,bk,Ov 256,PL W,()):=by
 have hn:(PL W).length=r+1:=by unfold PL;simp;omega
 have e:=Om (f:=MQ.ZW .lim) (fun k=>(1,(r:Int),(r:Int),(k:Int),PL W,Tf W b k,tw,key,dn,mu,sm,Rt 256,bk,Ov 256,())) (n:=r) (fun k hk=>by
  rw[MQ.q13];have hB:=WU W b k;have hK:rd Xi (PL W) (1+(k:Int))=TA W (k+1):=by
   rw[show (1+(k:Int))=((k+1:Nat):Int) by omega,Rj (by omega)];unfold PL;simp
  have w1:ahk.wrap (((PL W).length:Int)-2)=(r:Int)-1:=by rw[wrap64 (by omega) (by omega)];omega
  have hlast:decide ((k:Int)=(r:Int)-1)=decide (k+2=W.length/4):=by
   by_cases h:k+1=r
   ·rw[MO (by omega),MO (by omega)]
   ·rw[MR (by omega),MR (by omega)]
  simp only[MQ.b13,MO (show (k:Int)<(r:Int) by omega),MX (show (0:Int)<=k by omega) (show (k:Int)<(r:Int) by omega),Ns (show ((PL W).length:Int)<9223372036854775808 by omega),cond_true,hK,w1,hlast,abt hB,ahl];rw[ad4 P7];simp only[ahl,acO];have hs:=ZO hB;have hc:((((ahB 4 (0:Int)).set 0 2).set 1 3).set 2 1).set 3 1=S9:=rfl;show _=MQ.ZW .lim (1,(r:Int),(r:Int),((k+1:Nat):Int),PL W,aag (decide (k+2=W.length/4)) (Tf W b k) (TA W (k+1)),tw,key,dn,mu,sm,Rt 256,bk,Ov 256,());unfold aag;cases decide (k+2=W.length/4)with
  |true=>
   simp only[ahr,cond_false,cond_true];rw[abu hs.1];simp only[ahl,QO k (by omega)]
  |false=>
   simp only[ahn,cond_false,cond_true,hc];rw[aeZ hs hs.1];simp only[ahl];have hml:(RJ (TF (Tf W b k))).length=16:=P7;rw[abu hml];simp only[ahl,QO k (by omega)])
 refine(show _=_ from e).trans ?_;rw[MQ.q13];simp only[MQ.b13,MR (show ¬(r:Int)<(r:Int) by omega),cond_false]
end
end Go.AM
end
section
namespace Go.AM
section
variable {ok:Bool} {n dn mu sm four x i t t1 t2 tp tq:Int} {key b tw ta out K was kb T sb bk:List Int} {yb W rn:List (List Int)} {last:Bool}
theorem ad3{r:Nat}(hW:Words W)(hl:W.length=4*(r+1))(hr:r<=100)(hr0:0<r)(hb:b.length=16){β:Type}{Q:_->Option β}:
  (bif inB 0 ((PL W).length:Int)then
   ((MQ.l7 .lim (0,b,rd Xi (PL W) 0,tw,key,dn,mu,sm,Rt 256,bk,Ov 256,PL W,())).bind fun (b,tw,key,dn,mu,sm,sb,bk,yb,rn,())=>
    bif sK 1 (rn.length:Int) (rn.length:Int)then bif vT ((rn.length:Int)-1)then(MQ.ZW .lim (1,((rn.length:Int)-1),((rn.length:Int)-1),0,rn,b,tw,key,dn,mu,sm,sb,bk,yb,())).bind Q else none else none)else none)=Q (Tf W b r,tw,key,dn,mu,sm,Rt 256,bk,Ov 256,PL W,()):=by
 have hn:(PL W).length=r+1:=by unfold PL;simp;omega
 have h0:rd Xi (PL W) 0=TA W 0:=by
  have:=Rj (d:=Xi) (show 0<(PL W).length by omega);rw[show ((0:Nat):Int)=0 from rfl]at this;rw[this];unfold PL;simp
 rw[cond_pos (MX (by omega) (by omega)),h0,acM hb];simp only[ahl];rw[cond_pos (Na (by omega) (by omega) (by omega)),cond_pos (Ns (by omega)),show ((PL W).length:Int)-1=(r:Int) by omega];have:=aeY (tw:=tw) (key:=key) (dn:=dn) (mu:=mu) (sm:=sm) (bk:=bk)  hW hl hr hr0 hb;rw[show Tf W b 0=Un b (TA W 0)from rfl]at this;rw[this];rfl
theorem acL(hk:key.length=16\/key.length=32)(hkb: ∀x∈key,B8 x)(hb:b.length=16):
  MQ.Zm .lim (b,key,0,0,sm,OH,OH,ahB 16 OH,())=some (encS key b,()):=by
 have h0:MQ.Zm .lim (b,key,0,0,sm,OH,OH,ahB 16 OH,())=MQ.b14 .lim (MQ.Zm .lim) (b,key,0,0,sm,OH,OH,ahB 16 OH,()):=MQ.q14 _;rw[h0];have hr:=acN (sm:=sm) (key:=key) (b:=b) (tw:=Xi)  hk hkb;have hW:=UR key hkb;have hl:(QF key).length=4*((key.length/4+6)+1):=by rw[TU];omega
 have hq:(QF key).length/4-1=key.length/4+6:=by omega
 unfold MQ.b14;simp only[hr,ahl];refine(ad3 (Q:=fun (b,tw,key,dn,mu,sm,sb,bk,yb,rn,())=>some (b,())) hW hl (by omega) (by omega) hb).trans ?_;unfold encS;rw[hq]
end
end Go.AM
end
section
namespace Go.AM
section
variable {ok:Bool} {n dn mu sm four nk x i t t1 t2 tp tq:Int} {key b tw ta out K was kb T sb bk:List Int} {yb W rn:List (List Int)} {last:Bool}
theorem ae4(i:Nat)(hi:i<256):MP.l0 .lim ((i:Int),t,7,0,ok,n,key,dn,mu,sm,sb,bk,yb,kL,b,tw,ta,out,rn,())=some (t,ok,n,key,dn,mu,sm,sb,bk,Wx i yb 7,b,tw,ta,out,rn,()):=by
 have e:=Om (f:=MP.l0 .lim) (fun k=>((i:Int),t,7,(k:Int),ok,n,key,dn,mu,sm,sb,bk,Wx i yb k,kL,b,tw,ta,out,rn,())) (n:=7) (fun k hk=>by
  rw[MP.q0];obtain⟨h1,h2⟩:=adO k hk;have hB:B8 (rd 0 kL (k:Int)):=⟨h1,by omega⟩;have hi8:B8 (i:Int):=⟨by omega,by omega⟩;simp only[MP.b0,MO (show (k:Int)<7 by omega),MX (show (0:Int)<=k by omega) (show (k:Int)<(kL.length:Int)from show (k:Int)<7 by omega),SY hi8,SI hi8 hB,ahl,MX h1 (show rd 0 kL (k:Int)<16 from h2),MX (show (0:Int)<=i by omega) (show (i:Int)<256 by omega),cond_true,QO k (by omega),ahx];rfl)
 refine e.trans ?_;rw[MP.q0];simp only[MP.b0,MR (show ¬((7:Nat):Int)<7 by decide),cond_false]
theorem abA:MP.l1 .lim (0,ok,n,key,dn,mu,sm,OH,OH,ahB 16 OH,b,tw,ta,out,rn,())=some (ok,n,key,dn,mu,sm,Rt 256,VX 256,Ov 256,b,tw,ta,out,rn,()):=by
 have e:=Om (f:=MP.l1 .lim) (fun k=>((k:Int),ok,n,key,dn,mu,sm,Rt k,VX k,Ov k,b,tw,ta,out,rn,())) (n:=256) (fun k hk=>by
  rw[MP.q1];have hi8:B8 (k:Int):=⟨by omega,by omega⟩;have hs:=aaF hi8;have hm:=fun sb bk=>ae4 (ok:=ok) (key:=key) (dn:=dn) (mu:=mu) (sm:=sm) (sb:=sb) (bk:=bk) (yb:=Ov k) (b:=b) (tw:=tw) (t:=(k:Int)) (n:=n) (ta:=ta) (out:=out) (rn:=rn) k hk
  simp only[MP.b1,MO (show (k:Int)<256 by omega),SY hi8,aao hi8,ahl,MX (show (0:Int)<=k by omega) (show (k:Int)<256 by omega),MX hs.1 hs.2,cond_true,show ((([1,2,3,9,11,13,14]:List Int).length:Nat):Int)=7 from rfl,Ns (show (7:Int)<9223372036854775808 by omega),hm,QO k (by omega),aaC];rw[show (Rt k).set ((k:Int)).toNat (V7 k)=Rt (k+1)from RU rfl];rfl)
 rw[show Rt 0=OH from Ry,XR,show VX 0=OH from rfl,show ((0:Nat):Int)=0 from rfl]at e;refine e.trans ?_;rw[MP.q1];simp only[MP.b1,MR (show ¬((256:Nat):Int)<256 by decide),cond_false]
theorem acW{q:Nat}(hk:kb.length=4*q)(hq:q<=100):MP.l2 .lim (0,nk,ok,n,4,key,dn,mu,sm,sb,bk,yb,b,tw,ta,out,kb,[],rn,())=some (nk,ok,n,key,dn,mu,sm,sb,bk,yb,b,tw,ta,out,(ahI q).map (word kb),rn,()):=by
 have e:=Om (f:=MP.l2 .lim) (fun k=>(((4*k:Nat):Int),nk,ok,n,4,key,dn,mu,sm,sb,bk,yb,b,tw,ta,out,kb,(ahI k).map (word kb),rn,())) (n:=q) (fun k hkq=>by
  rw[MP.q2];have w1:ahk.wrap (((4*k:Nat):Int)+4)=((4*k+4:Nat):Int):=by rw[wrap64 (by omega) (by omega)];omega
  have w2:mn 4 ((kb.length:Int)-((4*k:Nat):Int))=4:=by rw[OW];omega
  have w3:(cut kb ((4*k:Nat):Int) ((4*k+4:Nat):Int)).length=4:=by rw[Q7,ahO,ahS];omega
  have w4:(ain 1 4&&ain 4 (cut kb ((4*k:Nat):Int) ((4*k+4:Nat):Int)).length)=true:=by rw[w3];rfl
  simp only[MP.b2,Ns (show (kb.length:Int)<9223372036854775808 by omega),MO (show ((4*k:Nat):Int)<(kb.length:Int) by omega),Na (show (0:Int)<=((4*k:Nat):Int) by omega) (show ((4*k:Nat):Int)<=(kb.length:Int) by omega) (ahN _),Ns (show (kb.length:Int)-((4*k:Nat):Int)<9223372036854775808 by omega),w2,w1,Na (show (0:Int)<=((4*k:Nat):Int) by omega) (show ((4*k:Nat):Int)<=((4*k+4:Nat):Int) by omega) (ahN _),MO (show ((4*k+4:Nat):Int)<=(kb.length:Int) by omega),ahq,w4,cond_true];rw[cond_pos (by simp;omega),Zc (by omega)];simp only[ahY,ahW,ah8,aif];rfl)
 refine e.trans ?_;rw[MP.q2];simp only[MP.b2,Ns (show (kb.length:Int)<9223372036854775808 by omega),MR (show ¬((4*q:Nat):Int)<(kb.length:Int) by omega),cond_true,cond_false]
theorem ae5(hW:Words W){i nk:Nat}(h1:nk<=i)(h2:i<=W.length)(h3:0<nk)(h4:i<1000)(hT:T.length=4):MP.l3 .lim ((nk:Int),x,(i:Int),0,ok,n,T,key,dn,mu,sm,sb,bk,yb,b,tw,ta,out,W,rn,())=some ((nk:Int),x,(i:Int),ok,n,X5 T (rd z4 W ((i-nk:Nat):Int)),key,dn,mu,sm,sb,bk,yb,b,tw,ta,out,W,rn,()):=by
 have w:ahk.wrap ((i:Int)-(nk:Int))=((i-nk:Nat):Int):=by rw[wrap64 (by omega) (by omega)];omega
 have e:=PZ (f:=MP.l3 .lim) (fun k T=>((nk:Int),x,(i:Int),(k:Int),ok,n,T,key,dn,mu,sm,sb,bk,yb,b,tw,ta,out,W,rn,())) (fun k v=>Hy .u8 v (rd 0 (rd z4 W ((i-nk:Nat):Int)) (k:Int))) T hT (fun k hk m' hm hj=>by
  rw[MP.q3];simp only[MP.b3,MO (show (k:Int)<4 by omega),MX (show (0:Int)<=k by omega) (show (k:Int)<4 by omega),w,MX (show (0:Int)<=((i-nk:Nat):Int) by omega) (show ((i-nk:Nat):Int)<(W.length:Int) by omega),cond_true,QO k (by omega),hj k (ahL _),ahx])
 refine e.trans ?_;rw[MP.q3];simp only[MP.b3,MR (show ¬((4:Nat):Int)<4 by decide),cond_false];rfl
end
end Go.AM
end
section
namespace Go.AM
section
variable {ok:Bool} {n dn mu sm four x i t t1 t2 tp tq:Int} {key b tw ta out K was kb T sb bk:List Int} {yb W rn:List (List Int)} {last:Bool}
theorem ad7(a b c d:Int):((((ahB 4 (0:Int)).set 0 a).set 1 b).set 2 c).set 3 d=[a,b,c,d]:=rfl
theorem acX{nk:Nat}(hn:nk=4\/nk=8)(hk:4*nk<=kb.length)(hb: ∀x∈kb,B8 x):
  MP.l4 .lim ((nk:Int),1,(nk:Int),ok,n,key,dn,mu,sm,Rt 256,bk,yb,b,tw,ta,out,(ahI nk).map (word kb),rn,())=some (ok,n,key,dn,mu,sm,Rt 256,bk,yb,b,tw,ta,out,(sched nk kb (3*nk+28)).1,rn,()):=by
 have e:=Om (f:=MP.l4 .lim) (fun k=>((nk:Int),(sched nk kb k).2,((nk+k:Nat):Int),ok,n,key,dn,mu,sm,Rt 256,bk,yb,b,tw,ta,out,(sched nk kb k).1,rn,())) (n:=3*nk+28) (fun k hkq=>by
  rw[MP.q4];obtain⟨hW,hx⟩:=UG nk kb hk hb k;have hl:=Ub nk kb k;have hs:sched nk kb (k+1)=stepW nk (sched nk kb k):=rfl;rw[hs];unfold stepW;generalize hq:sched nk kb k=q at hW hx hl;obtain⟨W,x⟩:=q;simp only at hW hx hl ⊢
  have hi0:nk+k<1000:=by omega
  generalize hi:nk+k=i at hl hi0;have hw:=hW.at (show i-1<W.length by omega);have hb0:=hW.byte (show i-1<W.length by omega) (j:=0) (by omega) (by omega);have hb1:=hW.byte (show i-1<W.length by omega) (j:=1) (by omega) (by omega);have hb2:=hW.byte (show i-1<W.length by omega) (j:=2) (by omega) (by omega);have hb3:=hW.byte (show i-1<W.length by omega) (j:=3) (by omega) (by omega);have w1:ahk.wrap (4*ahk.wrap ((nk:Int)+7))=((4*nk+28:Nat):Int):=by rw[wrap64 (n:=(nk:Int)+7) (by omega) (by omega),wrap64 (by omega) (by omega)];omega
  have w2:ahk.wrap ((i:Int)-1)=((i-1:Nat):Int):=by rw[wrap64 (by omega) (by omega)];omega
  have m1:((i:Int)).tmod (nk:Int)=((i%nk:Nat):Int):=by rw[ahC (ahD i)];simp
  have m2:((i:Int)).tmod 8=((i%8:Nat):Int):=by rw[ahC (ahD i)];simp
  have Xy:=fun x T hT=>ae5 (ok:=ok) (key:=key) (dn:=dn) (mu:=mu) (sm:=sm) (sb:=Rt 256) (bk:=bk) (yb:=yb) (b:=b) (tw:=tw) (x:=x) (T:=T) (n:=n) (ta:=ta) (out:=out) (rn:=rn) hW (i:=i) (nk:=nk) (by omega) (by omega) (by omega) (by omega) hT
  have cap: ∀T:List Int,decide (W.length+([T]:List (List Int)).length<17592186044416)=true:=fun T=>MO (by simp;omega)
  simp only[MP.b4,w1,MO (show (i:Int)<((4*nk+28:Nat):Int) by omega),w2,MX (show (0:Int)<=((i-1:Nat):Int) by omega) (show ((i-1:Nat):Int)<(W.length:Int) by omega),MR (show ¬(nk:Int)=0 by omega),m1,m2,cond_true,ahn,MX hb0.1 hb0.2,MX hb1.1 hb1.2,MX hb2.1 hb2.2,MX hb3.1 hb3.2,TQ hb0,TQ hb1,TQ hb2,TQ hb3,ad7,ahw];rw[hl];unfold aaN;by_cases c1:i%nk=0
  ·rw[MO (show ((i%nk:Nat):Int)=0 by omega),if_pos c1,if_pos c1];simp only[cond_true,SI hx (show B8 2 from⟨by decide,by decide⟩),ahl];rw[Xy _ _ rfl];simp only[ahl];rw[cond_pos (by simp;omega),QO i (by omega)];rw[show i+1=nk+(k+1) by omega]
  ·rw[MR (show ¬((i%nk:Nat):Int)=0 by omega),if_neg c1,if_neg c1];simp only[cond_false];by_cases c2:nk=8/\i%8=4
   ·rw[MO (show (nk:Int)=8 by omega),MO (show ((i%8:Nat):Int)=4 by omega),if_pos c2];simp only[ahq,cond_true];rw[Xy _ _ rfl];simp only[ahl];rw[cond_pos (by simp;omega),QO i (by omega)];rw[show i+1=nk+(k+1) by omega]
   ·have:(decide ((nk:Int)=8)&&decide (((i%8:Nat):Int)=4))=false:=by
     by_cases c3:nk=8
     ·rw[MR (show ¬((i%8:Nat):Int)=4 by omega),aho]
     ·rw[MR (show ¬(nk:Int)=8 by omega),ahp]
    rw[this,if_neg c2];simp only[cond_false];rw[Xy _ _ hw.1];simp only[ahl];rw[cond_pos (by simp;omega),QO i (by omega),<-list4 hw.1];rw[show i+1=nk+(k+1) by omega])
 refine(show _=_ from e).trans ?_;rw[MP.q4];have w1:ahk.wrap (4*ahk.wrap ((nk:Int)+7))=((4*nk+28:Nat):Int):=by rw[wrap64 (n:=(nk:Int)+7) (by omega) (by omega),wrap64 (by omega) (by omega)];omega
 simp only[MP.b4,w1,MR (show ¬((nk+(3*nk+28):Nat):Int)<((4*nk+28:Nat):Int) by omega),cond_false]
end
end Go.AM
end
section
namespace Go.AM
section
variable {ok:Bool} {n dn mu sm four x i t t1 t2 tp tq:Int} {key b tw ta out K was kb T sb bk:List Int} {yb W rn:List (List Int)} {last:Bool}
theorem abz{q:Nat}(hW:Words W)(hl:W.length=4*q)(hq:q<=100):MP.l5 .lim (0,ok,n,4,key,dn,mu,sm,sb,bk,yb,b,tw,ta,out,W,[],())=some (ok,n,key,dn,mu,sm,sb,bk,yb,b,tw,ta,out,PL W,()):=by
 have e:=Om (f:=MP.l5 .lim) (fun k=>(((4*k:Nat):Int),ok,n,4,key,dn,mu,sm,sb,bk,yb,b,tw,ta,out,W,(ahI k).map (TA W),())) (n:=q) (fun k hkq=>by
  rw[MP.q5];have w1:ahk.wrap (((4*k:Nat):Int)+4)=((4*k+4:Nat):Int):=by rw[wrap64 (by omega) (by omega)];omega
  have w2:mn 4 ((W.length:Int)-((4*k:Nat):Int))=4:=by rw[OW];omega
  have w3:(cut W ((4*k:Nat):Int) ((4*k+4:Nat):Int)).length=4:=by rw[Q7,ahO,ahS];omega
  have at_: ∀j:Nat,j<4->rd z4 (cut W ((4*k:Nat):Int) ((4*k+4:Nat):Int)) (j:Int)=rd z4 W ((4*k+j:Nat):Int):=fun j hj=>by
   rw[Q7];unfold rd;rw[ahx,ahx,ahE,ahE,ah7 (by omega),aiq]
  have a0:rd z4 (cut W ((4*k:Nat):Int) ((4*k+4:Nat):Int)) 0=rd z4 W ((4*k:Nat):Int):=at_ 0 (by omega);have a1:rd z4 (cut W ((4*k:Nat):Int) ((4*k+4:Nat):Int)) 1=rd z4 W ((4*k+1:Nat):Int):=at_ 1 (by omega);have a2:rd z4 (cut W ((4*k:Nat):Int) ((4*k+4:Nat):Int)) 2=rd z4 W ((4*k+2:Nat):Int):=at_ 2 (by omega);have a3:rd z4 (cut W ((4*k:Nat):Int) ((4*k+4:Nat):Int)) 3=rd z4 W ((4*k+3:Nat):Int):=at_ 3 (by omega);have c4: ∀l:List Int,l.length=4->cut l 0 4=l:=fun l hl=>by
   have:=Q7 l 0 4;rw[show ((0:Nat):Int)=0 from rfl,show ((4:Nat):Int)=4 from rfl]at this;rw[this,ah4,ahK (by omega)]
  have l0:=(hW.at (show 4*k<W.length by omega)).1;have l1:=(hW.at (show 4*k+1<W.length by omega)).1;have l2:=(hW.at (show 4*k+2<W.length by omega)).1;have l3:=(hW.at (show 4*k+3<W.length by omega)).1;have hfl:[rd z4 W ((4*k:Nat):Int),rd z4 W ((4*k+1:Nat):Int),rd z4 W ((4*k+2:Nat):Int),rd z4 W ((4*k+3:Nat):Int)].flatten=TA W k:=by simp[TA]
  have hrl:=VG hW (j:=k) (by omega);have oh:=Yf [rd z4 W ((4*k:Nat):Int),rd z4 W ((4*k+1:Nat):Int),rd z4 W ((4*k+2:Nat):Int),rd z4 W ((4*k+3:Nat):Int)] (by rw[hfl,hrl];omega) (by simp);rw[hfl]at oh;simp only[MP.b5,Ns (show (W.length:Int)<9223372036854775808 by omega),MO (show ((4*k:Nat):Int)<(W.length:Int) by omega),Na (show (0:Int)<=((4*k:Nat):Int) by omega) (show ((4*k:Nat):Int)<=(W.length:Int) by omega) (ahN _),Ns (show (W.length:Int)-((4*k:Nat):Int)<9223372036854775808 by omega),w2,w1,Na (show (0:Int)<=((4*k:Nat):Int) by omega) (show ((4*k:Nat):Int)<=((4*k+4:Nat):Int) by omega) (ahN _),MO (show ((4*k+4:Nat):Int)<=(W.length:Int) by omega),ahq,w3,cond_true,MX (show (0:Int)<=0 by omega) (show (0:Int)<((4:Nat):Int) by decide),MX (show (0:Int)<=1 by omega) (show (1:Int)<((4:Nat):Int) by decide),MX (show (0:Int)<=2 by omega) (show (2:Int)<((4:Nat):Int) by decide),MX (show (0:Int)<=3 by omega) (show (3:Int)<((4:Nat):Int) by decide),a0,a1,a2,a3,c4 _ l0,c4 _ l1,c4 _ l2,c4 _ l3,oh,ahl,hrl,ahK (aiE hrl)];rw[show (ain 1 16&&ain 16 16)=true from rfl,cond_true,cond_pos (by simp;omega)];simp only[ahY,ahW,ah8,aif];rfl)
 refine(show _=_ from e).trans ?_;rw[MP.q5];simp only[MP.b5,Ns (show (W.length:Int)<9223372036854775808 by omega),MR (show ¬((4*q:Nat):Int)<(W.length:Int) by omega),cond_true,cond_false];unfold PL;rw[hl,ah9 _ (by omega)]
theorem acU(hk:key.length=16\/key.length=32)(hb: ∀x∈key,B8 x):MP.l6 .lim (n,key,0,0,sm,OH,OH,ahB 16 OH,b,tw,ta,out,[],())=some (n,b,tw,key,1,0,sm,Rt 256,VX 256,Ov 256,ta,out,PL (QF key),()):=by
 have h0:MP.l6 .lim (n,key,0,0,sm,OH,OH,ahB 16 OH,b,tw,ta,out,[],())=MP.b6 .lim (MP.l6 .lim) (n,key,0,0,sm,OH,OH,ahB 16 OH,b,tw,ta,out,[],()):=MP.q6 _;rw[h0];have hd:(key.length:Int).tdiv 4=((key.length/4:Nat):Int):=by rw[ahJ (ahD _)];simp
 have w1:ahk.wrap ((key.length:Int).tdiv 4)=((key.length/4:Nat):Int):=by rw[hd,wrap64 (by omega) (by omega)]
 have t:=abA (ok:=true) (key:=key) (dn:=0) (mu:=1) (sm:=sm) (b:=b) (tw:=tw) (n:=n) (ta:=ta) (out:=out) (rn:=[]);have s:=acW (kb:=key) (q:=key.length/4) (nk:=((key.length/4:Nat):Int)) (ok:=true) (key:=key) (dn:=0) (mu:=1) (sm:=sm) (sb:=Rt 256) (bk:=VX 256) (yb:=Ov 256) (b:=b) (tw:=tw) (n:=n) (ta:=ta) (out:=out) (rn:=[]) (by omega) (by omega);have w:=acX (kb:=key) (nk:=key.length/4) (ok:=true) (key:=key) (dn:=0) (mu:=1) (sm:=sm) (bk:=VX 256) (yb:=Ov 256) (b:=b) (tw:=tw) (n:=n) (ta:=ta) (out:=out) (rn:=[]) (by omega) (by omega) hb;have r:=abz (W:=QF key) (q:=key.length/4+7) (ok:=true) (key:=key) (dn:=0) (mu:=1) (sm:=sm) (sb:=Rt 256) (bk:=VX 256) (yb:=Ov 256) (b:=b) (tw:=tw) (n:=n) (ta:=ta) (out:=out) (UR key hb) (by rw[TU];omega) (by omega);have hs:PY.run .lim (true,())=some 1:=rfl;have hw:(sched (key.length/4) key (3*(key.length/4)+28)).1=QF key:=rfl;simp only[MP.b6,decide_true,ahr,ahn,cond_true,t,ahl,Ns (show (key.length:Int)<9223372036854775808 by omega),w1];rw[s];simp only[ahl];rw[w];simp only[ahl];rw[hw,r];simp only[ahl,hs,show aiG.wrap (1+ -1)=0 from by decide,decide_true,ahr,cond_false]
end
end Go.AM
end
section
namespace Go.AM
section
variable {ok:Bool} {n dn mu sm four x i t t1 t2 tp tq:Int} {key b tw ta out K was kb T sb bk:List Int} {yb W rn:List (List Int)} {last:Bool}
theorem acT(hb:b.length=16):MP.l7 .lim (0,n,b,K,tw,key,dn,mu,sm,sb,bk,yb,ta,out,rn,())=some (n,Un b K,tw,key,dn,mu,sm,sb,bk,yb,ta,out,rn,()):=by
 have e:=PZ (f:=MP.l7 .lim) (fun k b=>((k:Int),n,b,K,tw,key,dn,mu,sm,sb,bk,yb,ta,out,rn,())) (fun k v=>Hy .u8 v (rd 0 K (k:Int))) b hb (fun k hk m' hm hj=>by
  rw[MP.q7];simp only[MP.b7,MO (show (k:Int)<16 by omega),MX (show (0:Int)<=k by omega) (show (k:Int)<16 by omega),cond_true,QO k (by omega),hj k (ahL _),ahx])
 refine(show _=_ from e).trans ?_;rw[MP.q7];simp only[MP.b7,MR (show ¬((16:Nat):Int)<16 by decide),cond_false];rfl
theorem abx(hb:Wh b):MP.l8 .lim (0,last,tp,tq,t1,t2,n,b,key,dn,mu,sm,Rt 256,bk,yb,K,rn,tw,ta,out,())=some (last,tp,tq,t1,t2,n,tab 16 fun i=>V7 (rd 0 b (i:Int)),K,rn,tw,key,dn,mu,sm,Rt 256,bk,yb,ta,out,()):=by
 have e:=PZ (f:=MP.l8 .lim) (fun k b=>((k:Int),last,tp,tq,t1,t2,n,b,key,dn,mu,sm,Rt 256,bk,yb,K,rn,tw,ta,out,())) (fun k v=>V7 v) b hb.1 (fun k hk m' hm hj=>by
  rw[MP.q8];have h:=hb.at hk;simp only[MP.b8,MO (show (k:Int)<16 by omega),MX (show (0:Int)<=k by omega) (show (k:Int)<16 by omega),cond_true,QO k (by omega),hj k (ahL _),MX h.1 h.2,TQ h,ahx])
 refine(show _=_ from e).trans ?_;rw[MP.q8];simp only[MP.b8,MR (show ¬((16:Nat):Int)<16 by decide),cond_false]
theorem ad8(hb:b.length=16):MP.l9 .lim (4,0,last,tp,tq,t1,t2,n,b,was,K,rn,tw,key,dn,mu,sm,sb,bk,yb,ta,out,())=some (last,tp,tq,t1,t2,n,tab 16 fun i=>rd 0 was (((i+4*(i%4))%16:Nat):Int),K,rn,tw,key,dn,mu,sm,sb,bk,yb,ta,out,()):=by
 have e:=PZ (f:=MP.l9 .lim) (fun k b=>(4,(k:Int),last,tp,tq,t1,t2,n,b,was,K,rn,tw,key,dn,mu,sm,sb,bk,yb,ta,out,())) (fun k v=>rd 0 was (((k+4*(k%4))%16:Nat):Int)) b hb (fun k hk m' hm hj=>by
  rw[MP.q9];have m1:((k:Int)).tmod 4=((k%4:Nat):Int):=by rw[ahC (ahD k)];simp
  have w1:ahk.wrap (4*(k:Int).tmod 4)=((4*(k%4):Nat):Int):=by rw[m1,wrap64 (by omega) (by omega)];omega
  have w2:ahk.wrap ((k:Int)+((4*(k%4):Nat):Int))=((k+4*(k%4):Nat):Int):=by rw[wrap64 (by omega) (by omega)];omega
  have w3:ahk.wrap (((k+4*(k%4):Nat):Int)+64)=((k+4*(k%4)+64:Nat):Int):=by rw[wrap64 (by omega) (by omega)];omega
  have m2:(((k+4*(k%4)+64:Nat):Int)).tmod 16=(((k+4*(k%4))%16:Nat):Int):=by rw[ahC (ahD _)];omega
  simp only[MP.b9,MO (show (k:Int)<16 by omega),MX (show (0:Int)<=k by omega) (show (k:Int)<16 by omega),cond_true,QO k (by omega),w1,w2,w3,m2,MX (show (0:Int)<=(((k+4*(k%4))%16:Nat):Int) by omega) (show (((k+4*(k%4))%16:Nat):Int)<16 by omega),ahx])
 refine(show _=_ from e).trans ?_;rw[MP.q9];simp only[MP.b9,MR (show ¬((16:Nat):Int)<16 by decide),cond_false]
abbrev S_:List Int:=[2,3,1,1]
theorem ad6(hw:Wh was){i:Nat}(hi:i<16)(hb:b.length=16)(h0:rd 0 b (i:Int)=0):MP.l10 .lim ((i:Int),t,S_,0,tp,tq,t1,t2,n,key,dn,mu,sm,sb,bk,Ov 256,b,S_,was,K,rn,tw,ta,out,())=some (t,tp,tq,t1,t2,n,key,dn,mu,sm,sb,bk,Ov 256,b.set i (rd 0 (RJ was) (i:Int)),S_,was,K,rn,tw,ta,out,()):=by
 have h4: ∀j:Nat,j<4->ahk.wrap (ahk.wrap (ahk.wrap ((i:Int).tdiv 4)*4)+(ahk.wrap ((i:Int)+(j:Int))).tmod 4)=((i/4*4+(i+j)%4:Nat):Int):=by
  intro j hj;have d1:((i:Int)).tdiv 4=((i/4:Nat):Int):=by rw[ahJ (ahD i)];simp
  have d2:ahk.wrap ((i:Int)+(j:Int))=((i+j:Nat):Int):=by rw[wrap64 (by omega) (by omega)];omega
  have d3:(((i+j:Nat):Int)).tmod 4=(((i+j)%4:Nat):Int):=by rw[ahC (ahD _)];simp
  rw[d1,d2,d3,wrap64 (n:=((i/4:Nat):Int)) (by omega) (by omega),wrap64 (n:=((i/4:Nat):Int)*4) (by omega) (by omega),wrap64 (by omega) (by omega)];omega
 have hB: ∀j:Nat,j<4->B8 (rd 0 was ((i/4*4+(i+j)%4:Nat):Int)):=fun j hj=>hw.at (by omega)
 have g0:=h4 0 (by omega);have g1:=h4 1 (by omega);have g2:=h4 2 (by omega);have g3:=h4 3 (by omega);have b0:=hB 0 (by omega);have b1:=hB 1 (by omega);have b2:=hB 2 (by omega);have b3:=hB 3 (by omega);rw[show ((0:Nat):Int)=0 from rfl]at g0;rw[show ((1:Nat):Int)=1 from rfl]at g1;rw[show ((2:Nat):Int)=2 from rfl]at g2;rw[show ((3:Nat):Int)=3 from rfl]at g3;have r0:=(TM b0).2.1;have r1:=(TM b1).2.2;have r2:=(TM b2).1;have r3:=(TM b3).1;have step: ∀(c:Int) (j j':Int) (q:Nat) (v:Int) (bb:List Int),bb.length=16->0<=j->j<4->rd 0 S_ j=c->0<=c->c<16->ahk.wrap (j+1)=j'->ahk.wrap (ahk.wrap (ahk.wrap ((i:Int).tdiv 4)*4)+(ahk.wrap ((i:Int)+j)).tmod 4)=(q:Int)->q<16->rd 0 (rd OH (Ov 256) c) (rd 0 was (q:Int))=v->B8 (rd 0 was (q:Int))->
   MP.l10 .lim ((i:Int),t,S_,j,tp,tq,t1,t2,n,key,dn,mu,sm,sb,bk,Ov 256,bb,S_,was,K,rn,tw,ta,out,())=MP.l10 .lim ((i:Int),t,S_,j',tp,tq,t1,t2,n,key,dn,mu,sm,sb,bk,Ov 256,bb.set i (Hy .u8 (rd 0 bb (i:Int)) v),S_,was,K,rn,tw,ta,out,()):=by
  intro c j j' q v bb hbb h1 h2 h3 h4 h5 h6 h7 h8 h9 h10;rw[MP.q10];simp only[MP.b10,MO h2,MX h1 h2,h3,MX h4 h5,h7,MX (show (0:Int)<=i by omega) (show (i:Int)<16 by omega),MX (show (0:Int)<=(q:Int) by omega) (show (q:Int)<16 by omega),MX h10.1 h10.2,h9,h6,cond_true,ahx]
 rw[step 2 0 1 _ _ b hb (by omega) (by omega) rfl (by omega) (by omega) rfl g0 (by omega) r0 b0];rw[step 3 1 2 _ _ _ (by simp[hb]) (by omega) (by omega) rfl (by omega) (by omega) rfl g1 (by omega) r1 b1];rw[step 1 2 3 _ _ _ (by simp[hb]) (by omega) (by omega) rfl (by omega) (by omega) rfl g2 (by omega) r2 b2];rw[step 1 3 4 _ _ _ (by simp[hb]) (by omega) (by omega) rfl (by omega) (by omega) rfl g3 (by omega) r3 b3];rw[MP.q10];simp only[MP.b10,MR (show ¬(4:Int)<4 by omega),cond_false];have hl: ∀v,i<(b.set i v).length:=fun v=>by simp[hb];omega
 simp only[Ui (show i<b.length by omega),Ui (hl _),ah3,h0];unfold RJ;rw[Rl hi];simp only[ahR]
theorem ae3(hw:Wh was)(hb:b.length=16):MP.l11 .lim (0,tp,tq,t1,t2,n,key,dn,mu,sm,sb,bk,Ov 256,b,S_,was,K,rn,tw,ta,out,())=some (tp,tq,t1,t2,n,RJ was,K,rn,tw,key,dn,mu,sm,sb,bk,Ov 256,ta,out,()):=by
 have e:=PZ (f:=MP.l11 .lim) (fun k b=>((k:Int),tp,tq,t1,t2,n,key,dn,mu,sm,sb,bk,Ov 256,b,S_,was,K,rn,tw,ta,out,())) (fun k v=>rd 0 (RJ was) (k:Int)) b hb (fun k hk m' hm hj=>by
  rw[MP.q11];have hm:=fun h0=>ad6 (tp:=tp) (tq:=tq) (t1:=t1) (t2:=t2) (key:=key) (dn:=dn) (mu:=mu) (sm:=sm) (sb:=sb) (bk:=bk) (K:=K) (rn:=rn) (tw:=tw) (t:=(k:Int)) (n:=n) (ta:=ta) (out:=out) hw (b:=m'.set k 0) hk (by simp[hm]) h0
  simp only[MP.b11,MO (show (k:Int)<16 by omega),MX (show (0:Int)<=k by omega) (show (k:Int)<16 by omega),cond_true,ahx];rw[hm (Ui (by omega))];simp only[ahl,QO k (by omega),ah3])
 refine(show _=_ from e).trans ?_;rw[MP.q11];simp only[MP.b11,MR (show ¬((16:Nat):Int)<16 by decide),cond_false];have:(tab 16 fun i=>rd 0 (RJ was) (i:Int))=RJ was:=(X3 P7).symm;rw[this]
theorem aby(hb:b.length=16):MP.l12 .lim (0,tp,tq,t1,t2,n,b,K,rn,tw,key,dn,mu,sm,sb,bk,yb,ta,out,())=some (tp,tq,t1,t2,n,rn,Un b K,tw,key,dn,mu,sm,sb,bk,yb,ta,out,()):=by
 have e:=PZ (f:=MP.l12 .lim) (fun k b=>((k:Int),tp,tq,t1,t2,n,b,K,rn,tw,key,dn,mu,sm,sb,bk,yb,ta,out,())) (fun k v=>Hy .u8 v (rd 0 K (k:Int))) b hb (fun k hk m' hm hj=>by
  rw[MP.q12];simp only[MP.b12,MO (show (k:Int)<16 by omega),MX (show (0:Int)<=k by omega) (show (k:Int)<16 by omega),cond_true,QO k (by omega),hj k (ahL _),ahx])
 refine(show _=_ from e).trans ?_;rw[MP.q12];simp only[MP.b12,MR (show ¬((16:Nat):Int)<16 by decide),cond_false];rfl
theorem acV(b:List Int):(tab 16 fun i=>rd 0 (tab 16 fun i=>V7 (rd 0 b (i:Int))) (((i+4*(i%4))%16:Nat):Int))=TF b:=Qa fun k hk=>by rw[Rl (by omega)]
theorem ZP(hb:Wh b):Wh (TF b):=⟨P7,Yy fun k hk=>aaF (hb.at (by omega))⟩
theorem ae2{r:Nat}(hW:Words W)(hl:W.length=4*(r+1))(hr:r<=100)(hr0:0<r)(hb:b.length=16):
  MP.ZW .lim (1,((r:Nat):Int),((r:Nat):Int),0,n,PL W,Tf W b 0,tw,key,dn,mu,sm,Rt 256,bk,Ov 256,ta,out,())=some (n,Tf W b r,tw,key,dn,mu,sm,Rt 256,bk,Ov 256,ta,out,PL W,()):=by
 have hn:(PL W).length=r+1:=by unfold PL;simp;omega
 have e:=Om (f:=MP.ZW .lim) (fun k=>(1,(r:Int),(r:Int),(k:Int),n,PL W,Tf W b k,tw,key,dn,mu,sm,Rt 256,bk,Ov 256,ta,out,())) (n:=r) (fun k hk=>by
  rw[MP.q13];have hB:=WU W b k;have hK:rd Xi (PL W) (1+(k:Int))=TA W (k+1):=by
   rw[show (1+(k:Int))=((k+1:Nat):Int) by omega,Rj (by omega)];unfold PL;simp
  have w1:ahk.wrap (((PL W).length:Int)-2)=(r:Int)-1:=by rw[wrap64 (by omega) (by omega)];omega
  have hlast:decide ((k:Int)=(r:Int)-1)=decide (k+2=W.length/4):=by
   by_cases h:k+1=r
   ·rw[MO (by omega),MO (by omega)]
   ·rw[MR (by omega),MR (by omega)]
  simp only[MP.b13,MO (show (k:Int)<(r:Int) by omega),MX (show (0:Int)<=k by omega) (show (k:Int)<(r:Int) by omega),Ns (show ((PL W).length:Int)<9223372036854775808 by omega),cond_true,hK,w1,hlast,abx hB,ahl];rw[ad8 P7];simp only[ahl,acV];have hs:=ZP hB;have hc:((((ahB 4 (0:Int)).set 0 2).set 1 3).set 2 1).set 3 1=S_:=rfl;show _=MP.ZW .lim (1,(r:Int),(r:Int),((k+1:Nat):Int),n,PL W,aag (decide (k+2=W.length/4)) (Tf W b k) (TA W (k+1)),tw,key,dn,mu,sm,Rt 256,bk,Ov 256,ta,out,());unfold aag;cases decide (k+2=W.length/4)with
  |true=>
   simp only[ahr,cond_false,cond_true];rw[aby hs.1];simp only[ahl,QO k (by omega)]
  |false=>
   simp only[ahn,cond_false,cond_true,hc];rw[ae3 hs hs.1];simp only[ahl];have hml:(RJ (TF (Tf W b k))).length=16:=P7;rw[aby hml];simp only[ahl,QO k (by omega)])
 refine(show _=_ from e).trans ?_;rw[MP.q13];simp only[MP.b13,MR (show ¬(r:Int)<(r:Int) by omega),cond_false]
end
end Go.AM
end
