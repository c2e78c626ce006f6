import Derived.Test.YtojkjnphgamoeaaGreatDoorPart2

/-! The functions that the laws of this seat reach, as plain functions, and what these answer; no condition. -/
set_option linter.unusedSimpArgs false
set_option linter.unusedVariables false
set_option linter.unusedSectionVars false

open BitVec renaming ofInt->aho,toNat_ofInt->ahI
open Bool renaming not_true->ag9,not_false->ahb,or_true->ahh,and_self->ahi,and_false->ahp,true_or->ahr,false_and->ahw,false_or->ahD,or_self->ahJ,and_true->ahP,or_false->ahQ,true_and->ahR,not_not->ahW,not_eq_true'->aic
open Go.IntKind renaming i64->ag3,u8->aha,u64->ahg,u32->ahq,signed->aik,bits->ail,wrap->ain,i32->ais
open Int renaming toNat_natCast->ag5,tmod_eq_emod_of_nonneg->ag7,natCast_nonneg->ag8,tdiv_eq_ediv_of_nonneg->ahl,le_refl->ahu,eq_ofNat_of_zero_le->ahS,pow_succ->aio,sub_zero->aip
open List renaming replicate->ag6,length_append->ag_,length_take->ahc,getD_eq_getElem?_getD->ahd,length_drop->ahe,take_of_length_le->ahf,take_length->ahj,range->ahm,take_append_drop->ahs,drop_eq_getElem_cons->aht,length_eq_zero_iff->ahv,drop_zero->ahx,append_assoc->ahy,not_mem_nil->ahA,mem_cons->ahE,map_append->ahF,range_succ->ahG,set_set->ahK,getElem?_append_left->ahL,mem_range->ahM,flatten_cons->ahN,getElem?_take_of_lt->ahO,map_cons->ahT,length_replicate->ahX,length_set->ahY,map_nil->ahZ,mem_of_mem_drop->ah3,mem_of_mem_take->ah4,drop_drop->ah5,take_take->ah6,take_zero->ah7,flatten_append->ah8,replicate_zero->ah9,getElem?_drop->ah_,take_add->aia,mem_map->aie,append_nil->aif,find?_some->aii,mem_append->aij
open Nat renaming le_refl->ahk,lt_of_le_of_lt->ahn,add_zero->ahz,pow_le_pow_right->ahC,ble->ahH,mul_div_cancel_left->ahU,le_add_right->ahV,blt->ah0,le_add_left->ah1,min_eq_left->ah2,lt_of_lt_of_le->aib,le_of_eq->aiq,mul_zero->air
open Option renaming bind_some->ag4,bind_none->ahB
section
namespace Go.AM
open Go.Proofs
set_option maxRecDepth 100000
set_option linter.unusedVariables false
noncomputable section
variable (m_:Dq)
namespace OU
def O(m_:Dq):OO P:=lI []
def run(m_:Dq):(Int×(List Int×List Int))×Unit->Option (List Int):=fun v_=>match v_ with
|(k,())=>
 bif decide (([(aha.wrap (ag3.wrap (k.1.tdiv 256))),(aha.wrap (k.1.tmod 256)),0,0]:List Int).length+k.2.1.length<=maxStr)then
 bif decide ((([(aha.wrap (ag3.wrap (k.1.tdiv 256))),(aha.wrap (k.1.tmod 256)),0,0]:List Int)++k.2.1).length+k.2.2.length<=maxStr)then
 some ((([(aha.wrap (ag3.wrap (k.1.tdiv 256))),(aha.wrap (k.1.tmod 256)),0,0]:List Int)++k.2.1)++k.2.2)else none else none
theorem k:KT (O m_) [] ⟨34,[.ag Yw],.one (.sh (.one .str)),run m_⟩ []:=fun _=>by kernel_rfl
def c:=co (k m_)
end OU

namespace OW
def O(m_:Dq):OO P:=lI []
def run(m_:Dq):(List Int)×(List (List Int))×Unit->Option (Int):=fun v_=>match v_ with
|(key,ad,())=>
 bif vZ (key.length:Int)then
 bif((!(!(decide ((key.length:Int)=32))))||(vZ (key.length:Int)))then
 bif((!(decide ((key.length:Int)=32)))&&(!(decide ((key.length:Int)=64))))then
  some 13
 else
  bif vZ (ad.length:Int)then
  bif decide ((ad.length:Int)>=127)then
   some 18
  else
   some 0 else none else none else none
theorem k:KT (O m_) [] ⟨85,[.one .str,.one (.lst .str)],.one (.sh (.one (.int .i64))),run m_⟩ []:=fun _=>by kernel_rfl
def c:=co (k m_)
end OW

namespace P6
def O(m_:Dq):OO P:=lI []
def run(m_:Dq):(List Int)×Unit->Option (Bool):=fun v_=>match v_ with
|(key,())=>
 bif vZ (key.length:Int)then
 bif((!(!(decide ((key.length:Int)=16))))||(vZ (key.length:Int)))then
 some ((decide ((key.length:Int)=16))||(decide ((key.length:Int)=32)))else none else none
theorem k:KT (O m_) [] ⟨133,[.one .str],.one (.sh (.one .bool)),run m_⟩ []:=fun _=>by kernel_rfl
def c:=co (k m_)
end P6

namespace Oo
def O(m_:Dq):OO P:=lI []
def run(m_:Dq):Int×Unit->Option (List Int):=fun v_=>match v_ with
|(n,())=>
 bif(((decide (0<=n))&&(decide (n<=n)))&&(ah0 n.toNat 70368744177664))then
 some (ag6 n.toNat 0)else none
theorem k:KT (O m_) [] ⟨135,[.one (.int .i64)],.one (.sh (.one .str)),run m_⟩ []:=fun _=>by kernel_rfl
def c:=co (k m_)
end Oo

namespace P5
def O(m_:Dq):OO P:=lI []
def run(m_:Dq):(List Int)×Unit->Option (Bool):=fun v_=>match v_ with
|(key,())=>
 bif vZ (key.length:Int)then
 bif((!(!(decide ((key.length:Int)=16))))||(vZ (key.length:Int)))then
 some ((decide ((key.length:Int)=16))||(decide ((key.length:Int)=32)))else none else none
theorem k:KT (O m_) [] ⟨150,[.one .str],.one (.sh (.one .bool)),run m_⟩ []:=fun _=>by kernel_rfl
def c:=co (k m_)
end P5

namespace O4
def O:OO P:=lI [P5.c m_]
def run:(List Int)×(List Int)×Unit->Option (Int):=fun v_=>match v_ with
|(key,block,())=>
 (P5.run m_ (key,())).bind fun r=>
 bif !r then
  some 13
 else
  bif vZ (block.length:Int)then
  bif !(decide ((block.length:Int)=16))then
   some 10
  else
   some 0 else none
theorem k:KT (O m_) [] ⟨138,[.one .str,.one .str],.one (.sh (.one (.int .i64))),run m_⟩ []:=fun _=>by kernel_rfl
def c:=co (k m_)
end O4

namespace NV
def O(m_:Dq):OO P:=lI []
def run(m_:Dq):Int×Unit->Option (Int):=fun v_=>match v_ with
|(b,())=>
 bif inB b (([99,124,119,123,242,107,111,197,48,1,103,43,254,215,171,118,202,130,201,125,250,89,71,240,173,212,162,175,156,164,114,192,183,253,147,38,54,63,247,204,52,165,229,241,113,216,49,21,4,199,35,195,24,150,5,154,7,18,128,226,235,39,178,117,9,131,44,26,27,110,90,160,82,59,214,179,41,227,47,132,83,209,0,237,32,252,177,91,106,203,190,57,74,76,88,207,208,239,170,251,67,77,51,133,69,249,2,127,80,60,159,168,81,163,64,143,146,157,56,245,188,182,218,33,16,255,243,210,205,12,19,236,95,151,68,23,196,167,126,61,100,93,25,115,96,129,79,220,34,42,144,136,70,238,184,20,222,94,11,219,224,50,58,10,73,6,36,92,194,211,172,98,145,149,228,121,231,200,55,109,141,213,78,169,108,86,244,234,101,122,174,8,186,120,37,46,28,166,180,198,232,221,116,31,75,189,139,138,112,62,181,102,72,3,246,14,97,53,87,185,134,193,29,158,225,248,152,17,105,217,142,148,155,30,135,233,206,85,40,223,140,161,137,13,191,230,66,104,65,153,45,15,176,84,187,22]:List Int).length:Int)then
 some (rd 0 ([99,124,119,123,242,107,111,197,48,1,103,43,254,215,171,118,202,130,201,125,250,89,71,240,173,212,162,175,156,164,114,192,183,253,147,38,54,63,247,204,52,165,229,241,113,216,49,21,4,199,35,195,24,150,5,154,7,18,128,226,235,39,178,117,9,131,44,26,27,110,90,160,82,59,214,179,41,227,47,132,83,209,0,237,32,252,177,91,106,203,190,57,74,76,88,207,208,239,170,251,67,77,51,133,69,249,2,127,80,60,159,168,81,163,64,143,146,157,56,245,188,182,218,33,16,255,243,210,205,12,19,236,95,151,68,23,196,167,126,61,100,93,25,115,96,129,79,220,34,42,144,136,70,238,184,20,222,94,11,219,224,50,58,10,73,6,36,92,194,211,172,98,145,149,228,121,231,200,55,109,141,213,78,169,108,86,244,234,101,122,174,8,186,120,37,46,28,166,180,198,232,221,116,31,75,189,139,138,112,62,181,102,72,3,246,14,97,53,87,185,134,193,29,158,225,248,152,17,105,217,142,148,155,30,135,233,206,85,40,223,140,161,137,13,191,230,66,104,65,153,45,15,176,84,187,22]:List Int) b)else none
theorem k:KT (O m_) [] ⟨151,[.one (.int .u8)],.one (.sh (.one (.int .u8))),run m_⟩ []:=fun _=>by kernel_rfl
def c:=co (k m_)
end NV

namespace Oa
def O(m_:Dq):OO P:=lI []
def e0:Spec:=⟨[fs 152 [.q 116,.z 116,.b 0,.q 15] [(0,.y),(1,.y),(5,.y),(6,.w)]],[],0⟩
def x0:List Spec:=[⟨[fs 152 [.q 15] [(5,.y)]],[],0⟩]
abbrev A0:Type:=Int×Int×Int×Int×Unit
abbrev B0:Type:=(Int×Unit)
def b0(m_:Dq)(self:A0->Option B0):A0->Option B0:=fun v_=>match v_ with
|(a,b,r,i,())=>
 bif decide (i<8)then
  bif decide ((Jc .u8 b 1)=1)then
   bif !(decide ((Jc .u8 a 128)=0))then
    self ((H8 .u8 (Jd .u8 a 1) 27),(Je .u8 b 1),(H8 .u8 r a),(ag3.wrap (i+1)),())
   else
    self ((Jd .u8 a 1),(Je .u8 b 1),(H8 .u8 r a),(ag3.wrap (i+1)),())
  else
   bif !(decide ((Jc .u8 a 128)=0))then
    self ((H8 .u8 (Jd .u8 a 1) 27),(Je .u8 b 1),r,(ag3.wrap (i+1)),())
   else
    self ((Jd .u8 a 1),(Je .u8 b 1),r,(ag3.wrap (i+1)),())
 else
  some (r,())
theorem k0:KQ 152 (O m_) [] e0 x0 [] (b0 m_):=fun _ _=>by kernel_rfl
def l0:=loop m_ (b0 m_)
theorem q0(v):l0 .lim v=b0 .lim (l0 .lim) v:=KS.q (k0 .lim) v
def s0:=so m_ (k0 m_)
def run:Int×Int×Unit->Option (Int):=fun v_=>match v_ with
|(a,b,())=>
 (Oa.l0 m_ (a,b,0,0,())).bind fun (r,())=>
 some r
theorem k:KT (O m_) [] ⟨152,[.one (.int .u8),.one (.int .u8)],.one (.sh (.one (.int .u8))),run m_⟩ [s0 m_]:=fun _=>by kernel_rfl
def c:=co (k m_)
end Oa

namespace Nv
def O:OO P:=lI [NV.c m_,Oa.c m_]
def e0:Spec:=⟨[fs 139 [.q 128156,.z 128156,.b 2,.b 1,.q 2003,.z 500,.b 0,.q 63] [(3,.w),(4,.oy 0),(5,.y),(6,.w),(7,.oy 1),(8,.w)]],[(0,.c [.ry]),(1,.c [.ry])],2⟩
def x0:List Spec:=[⟨[fs 139 [.q 2003,.z 500,.b 0,.q 63] [(3,.w),(4,.oy 0),(5,.y),(6,.w)]],[(0,.c [.ry])],1⟩]
abbrev A0:Type:=Int×Int×Int×Int×LI×LI×Unit
abbrev B0:Type:=(Int×Int×Int×LI×Unit)
def b0(m_:Dq)(self:A0->Option B0):A0->Option B0:=fun v_=>match v_ with
|(nk,c,i,k,m,m1,())=>
 bif decide (k<4)then
  bif inB (ag3.wrap ((ag3.wrap (4*(ag3.wrap (i-nk))))+k)) (m.length:Int)then
  bif inB k (m1.length:Int)then
  bif decide (m.length+([(H8 .u8 (rd 0 m (ag3.wrap ((ag3.wrap (4*(ag3.wrap (i-nk))))+k))) (rd 0 m1 k))]:List Int).length<70368744177664)then
  self (nk,c,i,(ag3.wrap (k+1)),(m++([(H8 .u8 (rd 0 m (ag3.wrap ((ag3.wrap (4*(ag3.wrap (i-nk))))+k))) (rd 0 m1 k))]:List Int)),m1,())else none else none else none
 else
  some (nk,c,i,m,())
theorem k0:KQ 139 (O m_) [] e0 x0 [] (b0 m_):=fun _ _=>by kernel_rfl
def l0:=loop m_ (b0 m_)
theorem q0(v):l0 .lim v=b0 .lim (l0 .lim) v:=KS.q (k0 .lim) v
def s0:=so m_ (k0 m_)
def e1:Spec:=⟨[fs 139 [.q 500,.z 500,.b 0,.q 63] [(3,.w),(4,.oy 0),(5,.y),(6,.w)]],[(0,.c [.ry])],1⟩
def x1:List Spec:=[⟨[fs 139 [.q 63] [(4,.oy 0)]],[(0,.c [.ry])],1⟩]
abbrev A1:Type:=Int×Int×Int×LI×Unit
abbrev B1:Type:=(LI×Unit)
def b1(self:A1->Option B1):A1->Option B1:=fun v_=>match v_ with
|(nk,c,i,m,())=>
 bif decide (i<(ag3.wrap (4*(ag3.wrap (nk+7)))))then
  bif inB (ag3.wrap ((ag3.wrap (4*i))-4)) (m.length:Int)then
  bif inB (ag3.wrap ((ag3.wrap (4*i))-3)) (m.length:Int)then
  bif inB (ag3.wrap ((ag3.wrap (4*i))-2)) (m.length:Int)then
  bif inB (ag3.wrap ((ag3.wrap (4*i))-1)) (m.length:Int)then
  bif !(decide (nk=0))then
  bif decide ((i.tmod nk)=0)then
   bif inB 1 (([(rd 0 m (ag3.wrap ((ag3.wrap (4*i))-4))),(rd 0 m (ag3.wrap ((ag3.wrap (4*i))-3))),(rd 0 m (ag3.wrap ((ag3.wrap (4*i))-2))),(rd 0 m (ag3.wrap ((ag3.wrap (4*i))-1)))]:List Int).length:Int)then
   (NV.run m_ ((rd 0 ([(rd 0 m (ag3.wrap ((ag3.wrap (4*i))-4))),(rd 0 m (ag3.wrap ((ag3.wrap (4*i))-3))),(rd 0 m (ag3.wrap ((ag3.wrap (4*i))-2))),(rd 0 m (ag3.wrap ((ag3.wrap (4*i))-1)))]:List Int) 1),())).bind fun r=>
   bif inB 2 (([(rd 0 m (ag3.wrap ((ag3.wrap (4*i))-4))),(rd 0 m (ag3.wrap ((ag3.wrap (4*i))-3))),(rd 0 m (ag3.wrap ((ag3.wrap (4*i))-2))),(rd 0 m (ag3.wrap ((ag3.wrap (4*i))-1)))]:List Int).length:Int)then
   (NV.run m_ ((rd 0 ([(rd 0 m (ag3.wrap ((ag3.wrap (4*i))-4))),(rd 0 m (ag3.wrap ((ag3.wrap (4*i))-3))),(rd 0 m (ag3.wrap ((ag3.wrap (4*i))-2))),(rd 0 m (ag3.wrap ((ag3.wrap (4*i))-1)))]:List Int) 2),())).bind fun r1=>
   bif inB 3 (([(rd 0 m (ag3.wrap ((ag3.wrap (4*i))-4))),(rd 0 m (ag3.wrap ((ag3.wrap (4*i))-3))),(rd 0 m (ag3.wrap ((ag3.wrap (4*i))-2))),(rd 0 m (ag3.wrap ((ag3.wrap (4*i))-1)))]:List Int).length:Int)then
   (NV.run m_ ((rd 0 ([(rd 0 m (ag3.wrap ((ag3.wrap (4*i))-4))),(rd 0 m (ag3.wrap ((ag3.wrap (4*i))-3))),(rd 0 m (ag3.wrap ((ag3.wrap (4*i))-2))),(rd 0 m (ag3.wrap ((ag3.wrap (4*i))-1)))]:List Int) 3),())).bind fun r2=>
   bif inB 0 (([(rd 0 m (ag3.wrap ((ag3.wrap (4*i))-4))),(rd 0 m (ag3.wrap ((ag3.wrap (4*i))-3))),(rd 0 m (ag3.wrap ((ag3.wrap (4*i))-2))),(rd 0 m (ag3.wrap ((ag3.wrap (4*i))-1)))]:List Int).length:Int)then
   (NV.run m_ ((rd 0 ([(rd 0 m (ag3.wrap ((ag3.wrap (4*i))-4))),(rd 0 m (ag3.wrap ((ag3.wrap (4*i))-3))),(rd 0 m (ag3.wrap ((ag3.wrap (4*i))-2))),(rd 0 m (ag3.wrap ((ag3.wrap (4*i))-1)))]:List Int) 0),())).bind fun r3=>
   (Oa.run m_ (c,2,())).bind fun r4=>
   (Nv.l0 m_ (nk,r4,i,0,m,([(H8 .u8 r c),r1,r2,r3]:List Int),())).bind fun (nk1,c1,i1,m1,())=>
   self (nk1,c1,(ag3.wrap (i1+1)),m1,())else none else none else none else none
  else
   bif((!(decide (nk=8)))||true)then
   bif((decide (nk=8))&&(decide ((i.tmod 8)=4)))then
    bif inB 0 (([(rd 0 m (ag3.wrap ((ag3.wrap (4*i))-4))),(rd 0 m (ag3.wrap ((ag3.wrap (4*i))-3))),(rd 0 m (ag3.wrap ((ag3.wrap (4*i))-2))),(rd 0 m (ag3.wrap ((ag3.wrap (4*i))-1)))]:List Int).length:Int)then
    (NV.run m_ ((rd 0 ([(rd 0 m (ag3.wrap ((ag3.wrap (4*i))-4))),(rd 0 m (ag3.wrap ((ag3.wrap (4*i))-3))),(rd 0 m (ag3.wrap ((ag3.wrap (4*i))-2))),(rd 0 m (ag3.wrap ((ag3.wrap (4*i))-1)))]:List Int) 0),())).bind fun r5=>
    bif inB 1 (([(rd 0 m (ag3.wrap ((ag3.wrap (4*i))-4))),(rd 0 m (ag3.wrap ((ag3.wrap (4*i))-3))),(rd 0 m (ag3.wrap ((ag3.wrap (4*i))-2))),(rd 0 m (ag3.wrap ((ag3.wrap (4*i))-1)))]:List Int).length:Int)then
    (NV.run m_ ((rd 0 ([(rd 0 m (ag3.wrap ((ag3.wrap (4*i))-4))),(rd 0 m (ag3.wrap ((ag3.wrap (4*i))-3))),(rd 0 m (ag3.wrap ((ag3.wrap (4*i))-2))),(rd 0 m (ag3.wrap ((ag3.wrap (4*i))-1)))]:List Int) 1),())).bind fun r6=>
    bif inB 2 (([(rd 0 m (ag3.wrap ((ag3.wrap (4*i))-4))),(rd 0 m (ag3.wrap ((ag3.wrap (4*i))-3))),(rd 0 m (ag3.wrap ((ag3.wrap (4*i))-2))),(rd 0 m (ag3.wrap ((ag3.wrap (4*i))-1)))]:List Int).length:Int)then
    (NV.run m_ ((rd 0 ([(rd 0 m (ag3.wrap ((ag3.wrap (4*i))-4))),(rd 0 m (ag3.wrap ((ag3.wrap (4*i))-3))),(rd 0 m (ag3.wrap ((ag3.wrap (4*i))-2))),(rd 0 m (ag3.wrap ((ag3.wrap (4*i))-1)))]:List Int) 2),())).bind fun r7=>
    bif inB 3 (([(rd 0 m (ag3.wrap ((ag3.wrap (4*i))-4))),(rd 0 m (ag3.wrap ((ag3.wrap (4*i))-3))),(rd 0 m (ag3.wrap ((ag3.wrap (4*i))-2))),(rd 0 m (ag3.wrap ((ag3.wrap (4*i))-1)))]:List Int).length:Int)then
    (NV.run m_ ((rd 0 ([(rd 0 m (ag3.wrap ((ag3.wrap (4*i))-4))),(rd 0 m (ag3.wrap ((ag3.wrap (4*i))-3))),(rd 0 m (ag3.wrap ((ag3.wrap (4*i))-2))),(rd 0 m (ag3.wrap ((ag3.wrap (4*i))-1)))]:List Int) 3),())).bind fun r8=>
    (Nv.l0 m_ (nk,c,i,0,m,([r5,r6,r7,r8]:List Int),())).bind fun (nk2,c2,i2,m2,())=>
    self (nk2,c2,(ag3.wrap (i2+1)),m2,())else none else none else none else none
   else
    (Nv.l0 m_ (nk,c,i,0,m,([(rd 0 m (ag3.wrap ((ag3.wrap (4*i))-4))),(rd 0 m (ag3.wrap ((ag3.wrap (4*i))-3))),(rd 0 m (ag3.wrap ((ag3.wrap (4*i))-2))),(rd 0 m (ag3.wrap ((ag3.wrap (4*i))-1)))]:List Int),())).bind fun (nk3,c3,i3,m3,())=>
    self (nk3,c3,(ag3.wrap (i3+1)),m3,())else none else none else none else none else none else none
 else
  some (m,())
theorem k1:KQ 139 (O m_) [] e1 x1 [s0 m_] (b1 m_):=fun _ _=>by kernel_rfl
def l1:=loop m_ (b1 m_)
theorem q1(v):l1 .lim v=b1 .lim (l1 .lim) v:=KS.q (k1 .lim) v
def s1:=so m_ (k1 m_)
def run:(List Int)×Unit->Option (List Int):=fun v_=>match v_ with
|(key,())=>
 bif vZ (key.length:Int)then
 (Nv.l1 m_ ((ag3.wrap ((key.length:Int).tdiv 4)),1,(ag3.wrap ((key.length:Int).tdiv 4)),key,())).bind fun (m,())=>
 some m else none
theorem k:KT (O m_) [] ⟨139,[.one .str],.one (.own (.int .u8)),run m_⟩ [s1 m_]:=fun _=>by kernel_rfl
def c:=co (k m_)
end Nv

namespace Ny
def O(m_:Dq):OO P:=lI []
def e0:Spec:=⟨[fs 154 [.q 7460,.z 7460,.b 2,.b 1,.q 467,.z 116,.b 0,.q 15] [(0,.dat Wu),(1,.b),(5,.oy 0),(6,.w),(7,.w)]],[(0,.c [.ry])],1⟩
def x0:List Spec:=[⟨[fs 154 [.q 467,.z 116,.b 0,.q 15] [(0,.dat Wu),(1,.b),(5,.oy 0),(6,.w)]],[(0,.c [.ry])],1⟩]
abbrev A0:Type:=LI×Bool×Int×Int×LI×Unit
abbrev B0:Type:=(LI×Bool×Int×LI×Unit)
def b0(m_:Dq)(self:A0->Option B0):A0->Option B0:=fun v_=>match v_ with
|(b,back,c,r,m,())=>
 bif decide (r<4)then
  bif back then
   bif inB (ag3.wrap ((ag3.wrap (4*c))+r)) (b.length:Int)then
   bif inB (ag3.wrap ((ag3.wrap (4*((ag3.wrap (c+r)).tmod 4)))+r)) (m.length:Int)then
   self (b,back,c,(ag3.wrap (r+1)),(m.set ((ag3.wrap ((ag3.wrap (4*((ag3.wrap (c+r)).tmod 4)))+r)).toNat) (rd 0 b (ag3.wrap ((ag3.wrap (4*c))+r)))),())else none else none
  else
   bif inB (ag3.wrap ((ag3.wrap (4*((ag3.wrap (c+r)).tmod 4)))+r)) (b.length:Int)then
   bif inB (ag3.wrap ((ag3.wrap (4*c))+r)) (m.length:Int)then
   self (b,back,c,(ag3.wrap (r+1)),(m.set ((ag3.wrap ((ag3.wrap (4*c))+r)).toNat) (rd 0 b (ag3.wrap ((ag3.wrap (4*((ag3.wrap (c+r)).tmod 4)))+r)))),())else none else none
 else
  some (b,back,c,m,())
theorem k0:KQ 154 (O m_) [] e0 x0 [] (b0 m_):=fun _ _=>by kernel_rfl
def l0:=loop m_ (b0 m_)
theorem q0(v):l0 .lim v=b0 .lim (l0 .lim) v:=KS.q (k0 .lim) v
def s0:=so m_ (k0 m_)
def e1:Spec:=⟨[fs 154 [.q 116,.z 116,.b 0,.q 15] [(0,.dat Wu),(1,.b),(5,.oy 0),(6,.w)]],[(0,.c [.ry])],1⟩
def x1:List Spec:=[⟨[fs 154 [.q 15] [(5,.oy 0)]],[(0,.c [.ry])],1⟩]
abbrev A1:Type:=LI×Bool×Int×LI×Unit
abbrev B1:Type:=(LI×Unit)
def b1(self:A1->Option B1):A1->Option B1:=fun v_=>match v_ with
|(b,back,c,m,())=>
 bif decide (c<4)then
  (Ny.l0 m_ (b,back,c,0,m,())).bind fun (b1,aeu,c1,m1,())=>
  self (b1,aeu,(ag3.wrap (c1+1)),m1,())
 else
  some (m,())
theorem k1:KQ 154 (O m_) [] e1 x1 [s0 m_] (b1 m_):=fun _ _=>by kernel_rfl
def l1:=loop m_ (b1 m_)
theorem q1(v):l1 .lim v=b1 .lim (l1 .lim) v:=KS.q (k1 .lim) v
def s1:=so m_ (k1 m_)
def run:(List Int)×Bool×Unit->Option (List Int):=fun v_=>match v_ with
|(b,back,())=>
 bif ah0 16 70368744177664 then
 (Ny.l1 m_ (b,back,0,(ag6 16 0),())).bind fun (m,())=>
 some m else none
theorem k:KT (O m_) [] ⟨154,[.one Wu,.one .bool],.one (.own (.int .u8)),run m_⟩ [s1 m_]:=fun _=>by kernel_rfl
def c:=co (k m_)
end Ny

namespace Np
def O:OO P:=lI [Oa.c m_]
def e0:Spec:=⟨[fs 155 [.q 477476,.z 477476,.b 4,.b 3,.q 29843,.z 7460,.b 2,.b 1,.q 467,.z 116,.b 0,.q 15] [(0,.dat Wu),(1,.dat Wu),(5,.oy 0),(6,.w),(7,.w),(8,.w)]],[(0,.c [.ry])],1⟩
def x0:List Spec:=[⟨[fs 155 [.q 29843,.z 7460,.b 2,.b 1,.q 467,.z 116,.b 0,.q 15] [(0,.dat Wu),(1,.dat Wu),(5,.oy 0),(6,.w),(7,.w)]],[(0,.c [.ry])],1⟩]
abbrev A0:Type:=LI×LI×Int×Int×Int×LI×Unit
abbrev B0:Type:=(LI×LI×Int×Int×LI×Unit)
def b0(self:A0->Option B0):A0->Option B0:=fun v_=>match v_ with
|(b,m,c,r,k,m1,())=>
 bif decide (k<4)then
  bif inB (ag3.wrap ((ag3.wrap (4*c))+r)) (m1.length:Int)then
  bif inB (ag3.wrap ((ag3.wrap (4*c))+((ag3.wrap (r+k)).tmod 4))) (b.length:Int)then
  bif inB k (m.length:Int)then
  (Oa.run m_ ((rd 0 b (ag3.wrap ((ag3.wrap (4*c))+((ag3.wrap (r+k)).tmod 4)))),(rd 0 m k),())).bind fun r1=>
  bif inB (ag3.wrap ((ag3.wrap (4*c))+r)) (m1.length:Int)then
  self (b,m,c,r,(ag3.wrap (k+1)),(m1.set ((ag3.wrap ((ag3.wrap (4*c))+r)).toNat) (H8 .u8 (rd 0 m1 (ag3.wrap ((ag3.wrap (4*c))+r))) r1)),())else none else none else none else none
 else
  some (b,m,c,r,m1,())
theorem k0:KQ 155 (O m_) [] e0 x0 [] (b0 m_):=fun _ _=>by kernel_rfl
def l0:=loop m_ (b0 m_)
theorem q0(v):l0 .lim v=b0 .lim (l0 .lim) v:=KS.q (k0 .lim) v
def s0:=so m_ (k0 m_)
def e1:Spec:=⟨[fs 155 [.q 7460,.z 7460,.b 2,.b 1,.q 467,.z 116,.b 0,.q 15] [(0,.dat Wu),(1,.dat Wu),(5,.oy 0),(6,.w),(7,.w)]],[(0,.c [.ry])],1⟩
def x1:List Spec:=[⟨[fs 155 [.q 467,.z 116,.b 0,.q 15] [(0,.dat Wu),(1,.dat Wu),(5,.oy 0),(6,.w)]],[(0,.c [.ry])],1⟩]
abbrev A1:Type:=LI×LI×Int×Int×LI×Unit
abbrev B1:Type:=(LI×LI×Int×LI×Unit)
def b1(self:A1->Option B1):A1->Option B1:=fun v_=>match v_ with
|(b,m,c,r,m1,())=>
 bif decide (r<4)then
  (Np.l0 m_ (b,m,c,r,0,m1,())).bind fun (b1,m2,c1,r1,m3,())=>
  self (b1,m2,c1,(ag3.wrap (r1+1)),m3,())
 else
  some (b,m,c,m1,())
theorem k1:KQ 155 (O m_) [] e1 x1 [s0 m_] (b1 m_):=fun _ _=>by kernel_rfl
def l1:=loop m_ (b1 m_)
theorem q1(v):l1 .lim v=b1 .lim (l1 .lim) v:=KS.q (k1 .lim) v
def s1:=so m_ (k1 m_)
def e2:Spec:=⟨[fs 155 [.q 116,.z 116,.b 0,.q 15] [(0,.dat Wu),(1,.dat Wu),(5,.oy 0),(6,.w)]],[(0,.c [.ry])],1⟩
def x2:List Spec:=[⟨[fs 155 [.q 15] [(5,.oy 0)]],[(0,.c [.ry])],1⟩]
abbrev A2:Type:=LI×LI×Int×LI×Unit
abbrev B2:Type:=(LI×Unit)
def b2(self:A2->Option B2):A2->Option B2:=fun v_=>match v_ with
|(b,m,c,m1,())=>
 bif decide (c<4)then
  (Np.l1 m_ (b,m,c,0,m1,())).bind fun (b1,m2,c1,m3,())=>
  self (b1,m2,(ag3.wrap (c1+1)),m3,())
 else
  some (m1,())
theorem k2:KQ 155 (O m_) [] e2 x2 [s1 m_] (b2 m_):=fun _ _=>by kernel_rfl
def l2:=loop m_ (b2 m_)
theorem q2(v):l2 .lim v=b2 .lim (l2 .lim) v:=KS.q (k2 .lim) v
def s2:=so m_ (k2 m_)
def run:(List Int)×(List Int)×Unit->Option (List Int):=fun v_=>match v_ with
|(b,m,())=>
 bif ah0 16 70368744177664 then
 (Np.l2 m_ (b,m,0,(ag6 16 0),())).bind fun (m1,())=>
 some m1 else none
theorem k:KT (O m_) [] ⟨155,[.one Wu,.one Wu],.one (.own (.int .u8)),run m_⟩ [s2 m_]:=fun _=>by kernel_rfl
def c:=co (k m_)
end Np

namespace Na
def O:OO P:=lI [NV.c m_,Ny.c m_,Np.c m_]
def f0:gG:=fs 153 [.q 12,.z 12,.b 0] [(0,.oy 0),(1,.dat Wu),(4,.w)]
def f1:gG:=fs 140 [.v 14 [3],.q 15] [(0,.dat Wu),(5,.oy 0)]
def e0:Spec:=⟨[f0,f1],[(0,.c [.ry])],1⟩
def x0:List Spec:=[⟨[fs 153 [] [],f1],[(0,.c [.ry])],1⟩]
abbrev A0:Type:=LI×Int×LI×LI×Unit
abbrev B0:Type:=(LI×LI×Unit)
def b0(m_:Dq)(self:A0->Option B0):A0->Option B0:=fun v_=>match v_ with
|(w,i,w1,m,())=>
 bif decide (i<16)then
  bif inB i (m.length:Int)then
  bif inB i (w.length:Int)then
  bif inB i (m.length:Int)then
  self (w,(ag3.wrap (i+1)),w1,(m.set i.toNat (H8 .u8 (rd 0 m i) (rd 0 w i))),())else none else none else none
 else
  some (w1,m,())
theorem k0:KQ 140 (O m_) [153] e0 x0 [] (b0 m_):=fun _ _=>by kernel_rfl
def l0:=loop m_ (b0 m_)
theorem q0(v):l0 .lim v=b0 .lim (l0 .lim) v:=KS.q (k0 .lim) v
def s0:=so m_ (k0 m_)
def e1:Spec:=⟨[fs 140 [.q 31300,.z 31300,.b 2,.q 3913,.b 1,.q 979,.z 244,.b 0,.q 31] [(0,.dat Wu),(5,.oy 0),(6,.w),(7,.w)]],[(0,.c [.ry])],1⟩
def x1:List Spec:=[⟨[fs 140 [.q 3913,.b 1,.q 979,.z 244,.b 0,.q 31] [(0,.dat Wu),(5,.oy 0),(6,.w)]],[(0,.c [.ry])],1⟩]
abbrev A1:Type:=LI×Int×Int×LI×Unit
abbrev B1:Type:=(LI×Int×LI×Unit)
def b1(self:A1->Option B1):A1->Option B1:=fun v_=>match v_ with
|(w,i,k,m,())=>
 bif decide (k<16)then
  bif inB k (m.length:Int)then
  (NV.run m_ ((rd 0 m k),())).bind fun r=>
  bif inB k (m.length:Int)then
  self (w,i,(ag3.wrap (k+1)),(m.set k.toNat r),())else none else none
 else
  some (w,i,m,())
theorem k1:KQ 140 (O m_) [153] e1 x1 [] (b1 m_):=fun _ _=>by kernel_rfl
def l1:=loop m_ (b1 m_)
theorem q1(v):l1 .lim v=b1 .lim (l1 .lim) v:=KS.q (k1 .lim) v
def s1:=so m_ (k1 m_)
def f2:gG:=fs 140 [.v 15655 [6],.b 1,.q 979,.z 244,.b 0,.q 31] [(0,.dat Wu),(5,.oy 0),(6,.w)]
def e2:Spec:=⟨[f0,f2],[(0,.c [.ry])],1⟩
def x2:List Spec:=[⟨[fs 153 [] [],f2],[(0,.c [.ry])],1⟩]
abbrev A2:Type:=LI×Int×LI×Int×LI×Unit
abbrev B2:Type:=(LI×Int×LI×Unit)
def b2(m_:Dq)(self:A2->Option B2):A2->Option B2:=fun v_=>match v_ with
|(w,i,w1,i1,m,())=>
 bif decide (i<16)then
  bif inB i (m.length:Int)then
  bif inB i (w.length:Int)then
  bif inB i (m.length:Int)then
  self (w,(ag3.wrap (i+1)),w1,i1,(m.set i.toNat (H8 .u8 (rd 0 m i) (rd 0 w i))),())else none else none else none
 else
  some (w1,i1,m,())
theorem k2:KQ 140 (O m_) [153] e2 x2 [] (b2 m_):=fun _ _=>by kernel_rfl
def l2:=loop m_ (b2 m_)
theorem q2(v):l2 .lim v=b2 .lim (l2 .lim) v:=KS.q (k2 .lim) v
def s2:=so m_ (k2 m_)
def e3:Spec:=⟨[fs 140 [.q 244,.z 244,.b 0,.q 31] [(0,.dat Wu),(5,.oy 0),(6,.w)]],[(0,.c [.ry])],1⟩
def x3:List Spec:=[⟨[fs 140 [.q 31] [(5,.oy 0)]],[(0,.c [.ry])],1⟩]
abbrev A3:Type:=LI×Int×LI×Unit
abbrev B3:Type:=(LI×Unit)
def b3(self:A3->Option B3):A3->Option B3:=fun v_=>match v_ with
|(w,i,m,())=>
 bif vZ (w.length:Int)then
 bif decide (i<(w.length:Int))then
  (Na.l1 m_ (w,i,0,m,())).bind fun (w1,i1,m1,())=>
  (Ny.run m_ (m1,false,())).bind fun r=>
  bif vZ (w1.length:Int)then
  bif decide ((ag3.wrap (i1+16))<(w1.length:Int))then
   (Np.run m_ (r,([2,3,1,1]:List Int),())).bind fun r1=>
   bif sS i1 (ag3.wrap (i1+16)) (w1.length:Int)then
   (Na.l2 m_ ((cut w1 i1 (ag3.wrap (i1+16))),0,w1,i1,r1,())).bind fun (w2,i2,m2,())=>
   self (w2,(ag3.wrap (i2+16)),m2,())else none
  else
   bif sS i1 (ag3.wrap (i1+16)) (w1.length:Int)then
   (Na.l2 m_ ((cut w1 i1 (ag3.wrap (i1+16))),0,w1,i1,r,())).bind fun (w3,i3,m3,())=>
   self (w3,(ag3.wrap (i3+16)),m3,())else none else none
 else
  some (m,())else none
theorem k3:KQ 140 (O m_) [153] e3 x3 [s1 m_,s2 m_] (b3 m_):=fun _ _=>by kernel_rfl
def l3:=loop m_ (b3 m_)
theorem q3(v):l3 .lim v=b3 .lim (l3 .lim) v:=KS.q (k3 .lim) v
def s3:=so m_ (k3 m_)
def run:(List Int)×(List Int)×Unit->Option (List Int):=fun v_=>match v_ with
|(w,block,())=>
 bif sS 0 16 (w.length:Int)then
 (Na.l0 m_ ((cut w 0 16),0,w,block,())).bind fun (w1,m,())=>
 (Na.l3 m_ (w1,16,m,())).bind fun (m1,())=>
 some m1 else none
theorem k:KT (O m_) [153] ⟨140,[.one Wu,.one .str],.one (.sh (.one .str)),run m_⟩ [s0 m_,s3 m_]:=fun _=>by kernel_rfl
def c:=co (k m_)
end Na

namespace OC
def O:OO P:=lI [O4.c m_,Nv.c m_,Na.c m_]
def run:(List Int)×(List Int)×Unit->Option ((List Int)×Int×Unit):=fun v_=>match v_ with
|(key,block,())=>
 (O4.run m_ (key,block,())).bind fun r=>
 bif !(decide (r=0))then
  some (([]:List Int),r,())
 else
  (Nv.run m_ (key,())).bind fun r1=>
  (Na.run m_ (r1,block,())).bind fun r2=>
  some (r2,0,())
theorem k:KT (O m_) [] ⟨149,[.one .str,.one .str],.iF [.sh (.one .str),.sh (.one (.int .i64))],run m_⟩ []:=fun _=>by kernel_rfl
def c:=co (k m_)
end OC

namespace NQ
def O(m_:Dq):OO P:=lI []
def e0:Spec:=⟨[fs 136 [.q 116,.z 116,.b 0,.q 15] [(0,.s),(3,.oy 0),(4,.w)]],[(0,.c [.ry])],1⟩
def x0:List Spec:=[⟨[fs 136 [.q 15] [(0,.s),(3,.oy 0)]],[(0,.c [.ry])],1⟩]
abbrev A0:Type:=LI×Int×LI×Unit
abbrev B0:Type:=(LI×LI×Unit)
def b0(m_:Dq)(self:A0->Option B0):A0->Option B0:=fun v_=>match v_ with
|(b,i,m,())=>
 bif decide (i<16)then
  bif inB i (b.length:Int)then
  bif inB i (m.length:Int)then
  bif decide (i<15)then
   bif inB i ((m.set i.toNat (Jd .u8 (rd 0 b i) 1)).length:Int)then
   bif inB (ag3.wrap (i+1)) (b.length:Int)then
   bif inB i ((m.set i.toNat (Jd .u8 (rd 0 b i) 1)).length:Int)then
   self (b,(ag3.wrap (i+1)),((m.set i.toNat (Jd .u8 (rd 0 b i) 1)).set i.toNat (KY .u8 (rd 0 (m.set i.toNat (Jd .u8 (rd 0 b i) 1)) i) (Je .u8 (rd 0 b (ag3.wrap (i+1))) 7))),())else none else none else none
  else
   self (b,(ag3.wrap (i+1)),(m.set i.toNat (Jd .u8 (rd 0 b i) 1)),())else none else none
 else
  some (b,m,())
theorem k0:KQ 136 (O m_) [] e0 x0 [] (b0 m_):=fun _ _=>by kernel_rfl
def l0:=loop m_ (b0 m_)
theorem q0(v):l0 .lim v=b0 .lim (l0 .lim) v:=KS.q (k0 .lim) v
def s0:=so m_ (k0 m_)
def run:(List Int)×Unit->Option (List Int):=fun v_=>match v_ with
|(b,())=>
 bif ah0 16 70368744177664 then
 (NQ.l0 m_ (b,0,(ag6 16 0),())).bind fun (b1,m,())=>
 bif inB 0 (b1.length:Int)then
 bif decide ((rd 0 b1 0)>=128)then
  bif inB 15 (m.length:Int)then
  bif inB 15 (m.length:Int)then
  some (m.set 15 (H8 .u8 (rd 0 m 15) 135))else none else none
 else
  some m else none else none
theorem k:KT (O m_) [] ⟨136,[.one .str],.one (.sh (.one .str)),run m_⟩ [s0 m_]:=fun _=>by kernel_rfl
def c:=co (k m_)
end NQ

namespace ND
def O(m_:Dq):OO P:=lI []
def e0:Spec:=⟨[fs 108 [.q 116,.z 116,.b 0,.q 15] [(0,.s),(1,.s),(5,.oy 0),(6,.w)]],[(0,.c [.ry])],1⟩
def x0:List Spec:=[⟨[fs 108 [.q 15] [(5,.oy 0)]],[(0,.c [.ry])],1⟩]
abbrev A0:Type:=LI×LI×Int×LI×Unit
abbrev B0:Type:=(LI×Unit)
def b0(m_:Dq)(self:A0->Option B0):A0->Option B0:=fun v_=>match v_ with
|(a,b,i,m,())=>
 bif vZ (a.length:Int)then
 bif decide (i<(a.length:Int))then
  bif inB i (a.length:Int)then
  bif inB i (b.length:Int)then
  bif inB i (m.length:Int)then
  self (a,b,(ag3.wrap (i+1)),(m.set i.toNat (H8 .u8 (rd 0 a i) (rd 0 b i))),())else none else none else none
 else
  some (m,())else none
theorem k0:KQ 108 (O m_) [] e0 x0 [] (b0 m_):=fun _ _=>by kernel_rfl
def l0:=loop m_ (b0 m_)
theorem q0(v):l0 .lim v=b0 .lim (l0 .lim) v:=KS.q (k0 .lim) v
def s0:=so m_ (k0 m_)
def run:(List Int)×(List Int)×Unit->Option (List Int):=fun v_=>match v_ with
|(a,b,())=>
 bif vZ (a.length:Int)then
 bif(((decide (0<=(a.length:Int)))&&(decide ((a.length:Int)<=(a.length:Int))))&&(ah0 ((a.length:Int).toNat) 70368744177664))then
 (ND.l0 m_ (a,b,0,(ag6 ((a.length:Int).toNat) 0),())).bind fun (m,())=>
 some m else none else none
theorem k:KT (O m_) [] ⟨108,[.one .str,.one .str],.one (.sh (.one .str)),run m_⟩ [s0 m_]:=fun _=>by kernel_rfl
def c:=co (k m_)
end ND

namespace O_
def O:OO P:=lI [Oo.c m_]
def run:(List Int)×Unit->Option (List Int):=fun v_=>match v_ with
|(s,())=>
 bif decide (s.length+([128]:List Int).length<=maxStr)then
 (Oo.run m_ (16,())).bind fun r=>
 bif decide ((s++([128]:List Int)).length+r.length<=maxStr)then
 bif sS 0 16 (((s++([128]:List Int))++r).length:Int)then
 some (cut ((s++([128]:List Int))++r) 0 16)else none else none else none
theorem k:KT (O m_) [] ⟨137,[.one .str],.one (.sh (.one .str)),run m_⟩ []:=fun _=>by kernel_rfl
def c:=co (k m_)
end O_

namespace NS
def O:OO P:=lI [ND.c m_,Oo.c m_,NQ.c m_,O_.c m_,OC.c m_]
def e0:Spec:=⟨[fs 134 [.q 248,.z 248,.b 0,.q 63] [(0,.s),(1,.s),(7,.s),(8,.s)]],[],0⟩
def x0:List Spec:=[⟨[fs 134 [.q 63] [(0,.s),(1,.s),(7,.s),(8,.s)]],[],0⟩]
abbrev A0:Type:=LI×LI×LI×LI×Unit
abbrev B0:Type:=(LI×LI×LI×LI×Unit)
def b0(self:A0->Option B0):A0->Option B0:=fun v_=>match v_ with
|(key,s,k,x,())=>
 bif vZ (s.length:Int)then
 bif decide ((s.length:Int)>16)then
  bif sS 0 16 (s.length:Int)then
  (ND.run m_ (x,(cut s 0 16),())).bind fun r=>
  (OC.run m_ (key,r,())).bind fun (r1,r2,())=>
  bif sS 16 (s.length:Int) (s.length:Int)then
  self (key,(cut s 16 (s.length:Int)),k,r1,())else none else none
 else
  some (key,s,k,x,())else none
theorem k0:KQ 134 (O m_) [] e0 x0 [] (b0 m_):=fun _ _=>by kernel_rfl
def l0:=loop m_ (b0 m_)
theorem q0(v):l0 .lim v=b0 .lim (l0 .lim) v:=KS.q (k0 .lim) v
def s0:=so m_ (k0 m_)
def run:(List Int)×(List Int)×Unit->Option (List Int):=fun v_=>match v_ with
|(key,s,())=>
 (Oo.run m_ (16,())).bind fun r=>
 (OC.run m_ (key,r,())).bind fun (r1,r2,())=>
 (NQ.run m_ (r1,())).bind fun r3=>
 (Oo.run m_ (16,())).bind fun r4=>
 (NS.l0 m_ (key,s,r3,r4,())).bind fun (key1,s1,k,x,())=>
 bif vZ (s1.length:Int)then
 bif decide ((s1.length:Int)<16)then
  (O_.run m_ (s1,())).bind fun r5=>
  (NQ.run m_ (k,())).bind fun r6=>
  (ND.run m_ (x,r5,())).bind fun r7=>
  (ND.run m_ (r7,r6,())).bind fun r8=>
  (OC.run m_ (key1,r8,())).bind fun (r9,r10,())=>
  some r9
 else
  (ND.run m_ (x,s1,())).bind fun r11=>
  (ND.run m_ (r11,k,())).bind fun r12=>
  (OC.run m_ (key1,r12,())).bind fun (r13,XC,())=>
  some r13 else none
theorem k:KT (O m_) [] ⟨134,[.one .str,.one .str],.one (.sh (.one .str)),run m_⟩ [s0 m_]:=fun _=>by kernel_rfl
def c:=co (k m_)
end NS

namespace Ox
def O:OO P:=lI [ND.c m_,P6.c m_,NS.c m_,Oo.c m_,NQ.c m_,O_.c m_]
def e0:Spec:=⟨[fs 106 [.q 1012,.z 1012,.b 0,.q 127] [(0,.s),(1,.t),(6,.s),(7,.w)]],[],0⟩
def x0:List Spec:=[⟨[fs 106 [.q 127] [(0,.s),(1,.t),(6,.s)]],[],0⟩]
abbrev A0:Type:=LI×LL×LI×Int×Unit
abbrev B0:Type:=(LI×LL×LI×Unit)
def b0(self:A0->Option B0):A0->Option B0:=fun v_=>match v_ with
|(key,l,d,i,())=>
 bif vZ (l.length:Int)then
 bif decide (i<(ag3.wrap ((l.length:Int)-1)))then
  (NQ.run m_ (d,())).bind fun r=>
  bif inB i (l.length:Int)then
  (NS.run m_ (key,(rd ([]:List Int) l i),())).bind fun r1=>
  (ND.run m_ (r,r1,())).bind fun r2=>
  self (key,l,r2,(ag3.wrap (i+1)),())else none
 else
  some (key,l,d,())else none
theorem k0:KQ 106 (O m_) [] e0 x0 [] (b0 m_):=fun _ _=>by kernel_rfl
def l0:=loop m_ (b0 m_)
theorem q0(v):l0 .lim v=b0 .lim (l0 .lim) v:=KS.q (k0 .lim) v
def s0:=so m_ (k0 m_)
def run:(List Int)×(List (List Int))×Unit->Option ((List Int)×Int×Unit):=fun v_=>match v_ with
|(key,l,())=>
 (P6.run m_ (key,())).bind fun r=>
 bif !r then
  some (([]:List Int),13,())
 else
  bif vZ (l.length:Int)then
  bif decide ((l.length:Int)>127)then
   some (([]:List Int),18,())
  else
   bif vZ (l.length:Int)then
   bif decide ((l.length:Int)=0)then
    (Oo.run m_ (15,())).bind fun r1=>
    bif decide (r1.length+([1]:List Int).length<=maxStr)then
    (NS.run m_ (key,(r1++([1]:List Int)),())).bind fun r2=>
    some (r2,0,())else none
   else
    (Oo.run m_ (16,())).bind fun r3=>
    (NS.run m_ (key,r3,())).bind fun r4=>
    (Ox.l0 m_ (key,l,r4,0,())).bind fun (key1,l1,d,())=>
    bif vZ (l1.length:Int)then
    bif inB (ag3.wrap ((l1.length:Int)-1)) (l1.length:Int)then
    bif vZ ((rd ([]:List Int) l1 (ag3.wrap ((l1.length:Int)-1))).length:Int)then
    bif decide (((rd ([]:List Int) l1 (ag3.wrap ((l1.length:Int)-1))).length:Int)<16)then
     (NQ.run m_ (d,())).bind fun r5=>
     (O_.run m_ ((rd ([]:List Int) l1 (ag3.wrap ((l1.length:Int)-1))),())).bind fun r6=>
     (ND.run m_ (r5,r6,())).bind fun r7=>
     (NS.run m_ (key1,r7,())).bind fun r8=>
     some (r8,0,())
    else
     bif vZ ((rd ([]:List Int) l1 (ag3.wrap ((l1.length:Int)-1))).length:Int)then
     bif sS 0 (ag3.wrap (((rd ([]:List Int) l1 (ag3.wrap ((l1.length:Int)-1))).length:Int)-16)) ((rd ([]:List Int) l1 (ag3.wrap ((l1.length:Int)-1))).length:Int)then
     bif sS (ag3.wrap (((rd ([]:List Int) l1 (ag3.wrap ((l1.length:Int)-1))).length:Int)-16)) ((rd ([]:List Int) l1 (ag3.wrap ((l1.length:Int)-1))).length:Int) ((rd ([]:List Int) l1 (ag3.wrap ((l1.length:Int)-1))).length:Int)then
     (ND.run m_ ((cut (rd ([]:List Int) l1 (ag3.wrap ((l1.length:Int)-1))) (ag3.wrap (((rd ([]:List Int) l1 (ag3.wrap ((l1.length:Int)-1))).length:Int)-16)) ((rd ([]:List Int) l1 (ag3.wrap ((l1.length:Int)-1))).length:Int)),d,())).bind fun r9=>
     bif decide ((cut (rd ([]:List Int) l1 (ag3.wrap ((l1.length:Int)-1))) 0 (ag3.wrap (((rd ([]:List Int) l1 (ag3.wrap ((l1.length:Int)-1))).length:Int)-16))).length+r9.length<=maxStr)then
     (NS.run m_ (key1,((cut (rd ([]:List Int) l1 (ag3.wrap ((l1.length:Int)-1))) 0 (ag3.wrap (((rd ([]:List Int) l1 (ag3.wrap ((l1.length:Int)-1))).length:Int)-16)))++r9),())).bind fun r10=>
     some (r10,0,())else none else none else none else none else none else none else none else none else none
theorem k:KT (O m_) [] ⟨106,[.one .str,.one (.lst .str)],.iF [.sh (.one .str),.sh (.one (.int .i64))],run m_⟩ [s0 m_]:=fun _=>by kernel_rfl
def c:=co (k m_)
end Ox

namespace Pv
def O:OO P:=lI [Ox.c m_]
def run:(List Int)×(List (List Int))×(List Int)×Unit->Option (List Int):=fun v_=>match v_ with
|(key,ad,plain,())=>
 bif decide (ad.length<4398046511104)then
 bif decide (ad.length+([plain]:List (List Int)).length<4398046511104)then
 (Ox.run m_ (key,(ad++([plain]:List (List Int))),())).bind fun (r,r1,())=>
 some r else none else none
theorem k:KT (O m_) [] ⟨86,[.one .str,.one (.lst .str),.one .str],.one (.sh (.one .str)),run m_⟩ []:=fun _=>by kernel_rfl
def c:=co (k m_)
end Pv

namespace NG
def O:OO P:=lI [O4.c m_,Nv.c m_,Na.c m_]
def f0:gG:=fs 107 [.q 2040,.z 2040,.b 0,.q 511] [(2,.w),(9,.oy 0),(10,.oy 1),(11,.s)]
def e0:Spec:=⟨[fs 107 [.q 130604,.z 130604,.b 2,.b 1,.z 2040,.b 0,.q 511] [(2,.w),(9,.oy 0),(10,.oy 1),(11,.s),(12,.w)]],[(0,.c [.ry]),(1,.c [.ry])],2⟩
def x0:List Spec:=[⟨[f0],[(0,.c [.ry]),(1,.c [.ry])],2⟩]
abbrev A0:Type:=Int×LI×Int×LI×LI×Unit
abbrev B0:Type:=(Int×LI×LI×LI×Unit)
def b0(m_:Dq)(self:A0->Option B0):A0->Option B0:=fun v_=>match v_ with
|(n,out,i,m,m1,())=>
 bif decide (i>=0)then
  bif inB i (m1.length:Int)then
  bif inB i (m1.length:Int)then
  bif inB i ((m1.set i.toNat (aha.wrap ((rd 0 m1 i)+1))).length:Int)then
  bif !(decide ((rd 0 (m1.set i.toNat (aha.wrap ((rd 0 m1 i)+1))) i)=0))then
   some (n,out,m,(m1.set i.toNat (aha.wrap ((rd 0 m1 i)+1))),())
  else
   self (n,out,(ag3.wrap (i-1)),m,(m1.set i.toNat (aha.wrap ((rd 0 m1 i)+1))),())else none else none else none
 else
  some (n,out,m,m1,())
theorem k0:KQ 107 (O m_) [] e0 x0 [] (b0 m_):=fun _ _=>by kernel_rfl
def l0:=loop m_ (b0 m_)
theorem q0(v):l0 .lim v=b0 .lim (l0 .lim) v:=KS.q (k0 .lim) v
def s0:=so m_ (k0 m_)
def e1:Spec:=⟨[f0],[(0,.c [.ry]),(1,.c [.ry])],2⟩
def x1:List Spec:=[⟨[fs 107 [.q 511] [(2,.w),(11,.s)]],[],0⟩]
abbrev A1:Type:=Int×LI×LI×LI×Unit
abbrev B1:Type:=(Int×LI×Unit)
def b1(self:A1->Option B1):A1->Option B1:=fun v_=>match v_ with
|(n,out,m,m1,())=>
 bif vZ (out.length:Int)then
 bif decide ((out.length:Int)<n)then
  (Na.run m_ (m,m1,())).bind fun r=>
  bif decide (out.length+r.length<=maxStr)then
  (NG.l0 m_ (n,(out++r),15,m,m1,())).bind fun (n1)=>
  self (n1)else none
 else
  some (n,out,())else none
theorem k1:KQ 107 (O m_) [] e1 x1 [s0 m_] (b1 m_):=fun _ _=>by kernel_rfl
def l1:=loop m_ (b1 m_)
theorem q1(v):l1 .lim v=b1 .lim (l1 .lim) v:=KS.q (k1 .lim) v
def s1:=so m_ (k1 m_)
def run:(List Int)×(List Int)×Int×Unit->Option ((List Int)×Int×Unit):=fun v_=>match v_ with
|(key,first,n,())=>
 bif((decide (n<0))||(decide (n>65536)))then
  some (([]:List Int),13,())
 else
  (O4.run m_ (key,first,())).bind fun r=>
  bif !(decide (r=0))then
   some (([]:List Int),r,())
  else
   (Nv.run m_ (key,())).bind fun r1=>
   (NG.l1 m_ (n,([]:List Int),r1,first,())).bind fun (n1,out,())=>
   bif sS 0 n1 (out.length:Int)then
   some ((cut out 0 n1),0,())else none
theorem k:KT (O m_) [] ⟨107,[.one .str,.one .str,.one (.int .i64)],.iF [.sh (.one .str),.sh (.one (.int .i64))],run m_⟩ [s1 m_]:=fun _=>by kernel_rfl
def c:=co (k m_)
end NG

namespace OH
def O:OO P:=lI [NG.c m_,ND.c m_]
def run:(List Int)×(List Int)×(List Int)×Unit->Option (List Int):=fun v_=>match v_ with
|(key,v,s,())=>
 bif inB 8 (v.length:Int)then
 bif inB 8 (v.length:Int)then
 bif inB 12 ((v.set 8 (Jc .u8 (rd 0 v 8) 127)).length:Int)then
 bif inB 12 ((v.set 8 (Jc .u8 (rd 0 v 8) 127)).length:Int)then
 bif vZ (s.length:Int)then
 (NG.run m_ (key,((v.set 8 (Jc .u8 (rd 0 v 8) 127)).set 12 (Jc .u8 (rd 0 (v.set 8 (Jc .u8 (rd 0 v 8) 127)) 12) 127)),(s.length:Int),())).bind fun (r,r1,())=>
 (ND.run m_ (s,r,())).bind fun r2=>
 some r2 else none else none else none else none else none
theorem k:KT (O m_) [] ⟨87,[.one .str,.one .str,.one .str],.one (.sh (.one .str)),run m_⟩ []:=fun _=>by kernel_rfl
def c:=co (k m_)
end OH

namespace Qg
def O:OO P:=lI [OW.c m_,Pv.c m_,OH.c m_]
def run:(List Int)×(List (List Int))×(List Int)×Unit->Option ((List Int)×Int×Unit):=fun v_=>match v_ with
|(key,ad,plain,())=>
 (OW.run m_ (key,ad,())).bind fun r=>
 bif !(decide (r=0))then
  some (([]:List Int),r,())
 else
  bif vZ (plain.length:Int)then
  bif decide ((plain.length:Int)>65536)then
   some (([]:List Int),12,())
  else
   bif vZ (key.length:Int)then
   bif sS 0 (ag3.wrap ((key.length:Int).tdiv 2)) (key.length:Int)then
   (Pv.run m_ ((cut key 0 (ag3.wrap ((key.length:Int).tdiv 2))),ad,plain,())).bind fun r1=>
   bif sS (ag3.wrap ((key.length:Int).tdiv 2)) (key.length:Int) (key.length:Int)then
   (OH.run m_ ((cut key (ag3.wrap ((key.length:Int).tdiv 2)) (key.length:Int)),r1,plain,())).bind fun r2=>
   bif decide (r1.length+r2.length<=maxStr)then
   some ((r1++r2),0,())else none else none else none else none else none
theorem k:KT (O m_) [] ⟨64,[.one .str,.one (.lst .str),.one .str],.iF [.sh (.one .str),.sh (.one (.int .i64))],run m_⟩ []:=fun _=>by kernel_rfl
def c:=co (k m_)
end Qg

namespace OX
def O(m_:Dq):OO P:=lI []
def run(m_:Dq):(List Int)×(List (List Int))×Int×Unit->Option (Int):=fun v_=>match v_ with
|(key,ad,n,())=>
 bif vZ (key.length:Int)then
 bif((!(!(decide ((key.length:Int)=32))))||(vZ (key.length:Int)))then
 bif((!(decide ((key.length:Int)=32)))&&(!(decide ((key.length:Int)=64))))then
  some 13
 else
  bif vZ (ad.length:Int)then
  bif decide ((ad.length:Int)>126)then
   some 18
  else
   bif decide (n>65536)then
    some 12
   else
    some 0 else none else none else none
theorem k:KT (O m_) [] ⟨65,[.one .str,.one (.lst .str),.one (.int .i64)],.one (.sh (.one (.int .i64))),run m_⟩ []:=fun _=>by kernel_rfl
def c:=co (k m_)
end OX

namespace NU
def O:OO P:=lI [OQ.c m_,Oe.c m_,Qg.c m_,OX.c m_]
def o0:dJ:= .c [.b,.dat Uw]
def o1:dJ:= .c [.s,.own 3 .str,.s,.s]
def e0:Spec:=⟨[fs 33 [.q 2036,.z 2036,.b 0,.q 255] [(3,.s),(4,.ptr 0 0),(8,.ptr 1 0),(14,.ptr 2 0),(15,.w)]],[(0,o0),(1,.c [.b,.CU]),(2,o1),(3,.c [.row .str])],4⟩
def x0:List Spec:=[⟨[fs 33 [.q 130341,.b 1,.q 8147,.z 2036,.b 0,.q 255] [(8,.ptr 0 0),(9,.s),(10,.w)]],[(0,o0)],1⟩,⟨[fs 33 [.q 255] [(3,.s),(4,.ptr 0 0),(8,.ptr 1 0),(14,.ptr 2 0)]],[(0,o0),(1,.c [.b,.CU]),(2,o1),(3,.c [.row .str])],4⟩]
abbrev A0:Type:=LI×Int×Bool×(List (List Int×(List LI×(List Int×List Int))))×Bool×LI×LI×LI×LL×Unit
abbrev B0:Type:=(LI×Int×Bool×(List (List Int×(List LI×(List Int×List Int))))×Unit) ⊕ (LI×Bool×(List (List Int×(List LI×(List Int×List Int))))×Bool×LI×LI×LI×LL×Unit)
def b0(self:A0->Option B0):A0->Option B0:=fun v_=>match v_ with
|(plain,i,m,m1,m2,m3,m4,m5,m6,())=>
 bif vZ (m1.length:Int)then
 bif decide (i<(m1.length:Int))then
  bif inB i (m1.length:Int)then
  (OQ.run m_ ((m3,(m6,(m4,m5))),(rd PL m1 i),())).bind fun r=>
  bif r then
   bif inB i (m1.length:Int)then
   some (.inl ((((rd PL m1 i).2).2).2,0,m,m1,()))else none
  else
   self (plain,(ag3.wrap (i+1)),m,m1,m2,m3,m4,m5,m6,())else none
 else
  some (.inr (plain,m,m1,m2,m3,m4,m5,m6,()))else none
theorem k0:KQ 33 (O m_) [] e0 x0 [] (b0 m_):=fun _ _=>by kernel_rfl
def l0:=loop m_ (b0 m_)
theorem q0(v):l0 .lim v=b0 .lim (l0 .lim) v:=KS.q (k0 .lim) v
def s0:=so m_ (k0 m_)
def run:Rx×(List Int)×(List (List Int))×(List Int)×Unit->Option (Rx×(List Int)×Int×Unit):=fun v_=>match v_ with
|(v,key,ad,plain,())=>
 bif !v.1 then
  (Qg.run m_ (key,ad,plain,())).bind fun (r,r1,())=>
  some (v,r,r1,())
 else
  bif vZ (plain.length:Int)then
  (OX.run m_ (key,ad,(plain.length:Int),())).bind fun r2=>
  bif !(decide (r2=0))then
   some (v,([]:List Int),r2,())
  else
   bif decide (ad.length<4398046511104)then
   (NU.l0 m_ (plain,0,v.1,v.2,false,key,plain,([]:List Int),ad,())).bind fun g_=>match g_ with
   | .inl (t,t1,m,m1,())=>
    some ((m,m1),t,t1,())
   | .inr (Yo,m2,m3,m4,m5,m6,m7,m8,())=>
    bif vZ (m3.length:Int)then
    bif decide ((m3.length:Int)>=2048)then
     some ((m2,m3),([]:List Int),18,())
    else
     bif vZ (m3.length:Int)then
     (Oe.run m_ ((ag3.wrap ((m3.length:Int)+1)),Yo,())).bind fun r3=>
     bif decide (m3.length<977343669134)then
     bif decide (m3.length+([(m5,(m8,(m6,r3)))]:List TY).length<977343669134)then
     some ((m2,(m3++([(m5,(m8,(m6,r3)))]:List TY))),r3,0,())else none else none else none else none else none else none
theorem k:KT (O m_) [] ⟨33,[.ag Rz,.one .str,.one (.lst .str),.one .str],.iF [.sh (.ag Rz),.sh (.one .str),.sh (.one (.int .i64))],run m_⟩ [s0 m_]:=fun _=>by kernel_rfl
def c:=co (k m_)
end NU

namespace Qj
def O:OO P:=lI [OA.c m_,Qn.c m_,NU.c m_,OU.c m_]
def run:Rx×WQ×(Int×(List Int×List Int))×(List Int)×Unit->Option (Rx×(List Int)×Int×Unit):=fun v_=>match v_ with
|(v,r,k,MW,())=>
 (OA.run m_ (k,())).bind fun r1=>
 bif !r1 then
  some (v,([]:List Int),13,())
 else
  bif vZ (MW.length:Int)then
  bif !(decide ((MW.length:Int)=16))then
   some (v,([]:List Int),10,())
  else
   bif vZ (r.1.length:Int)then
   bif inB (ag3.wrap ((r.1.length:Int)-1)) (r.1.length:Int)then
   (Qn.run m_ ((rd ((0:Int),(([]:List Int),(0:Int))) r.1 (ag3.wrap ((r.1.length:Int)-1))).1,())).bind fun r2=>
   (OU.run m_ (k,())).bind fun r3=>
   (NU.run m_ (v,((rd ((0:Int),(([]:List Int),(0:Int))) r.1 (ag3.wrap ((r.1.length:Int)-1))).2).1,([r2,MW]:List (List Int)),r3,())).bind fun (r4,r5,r6,())=>
   bif !(decide (r6=0))then
    some (v,([]:List Int),r6,())
   else
    bif decide (r2.length+MW.length<=maxStr)then
    bif decide ((r2++MW).length+r5.length<=maxStr)then
    some (r4,((r2++MW)++r5),0,())else none else none else none else none else none
theorem k:KT (O m_) [] ⟨10,[.ag Rz,.ag Wv,.ag Yw,.one .str],.iF [.sh (.ag Rz),.sh (.one .str),.sh (.one (.int .i64))],run m_⟩ []:=fun _=>by kernel_rfl
def c:=co (k m_)
end Qj

namespace NJ
def O(m_:Dq):OO P:=lI []
def e0:Spec:=⟨[fs 35 [.q 116,.z 116,.b 0,.q 15] [(0,.dat QG),(1,.w),(5,.own 5012 (.int .i64)),(6,.w)]],[(5012,.c [.row (.int .i64)])],5013⟩
def x0:List Spec:=[⟨[fs 35 [.q 15] [(5,.own 0 (.int .i64))]],[(0,.c [.row (.int .i64)])],1⟩]
abbrev A0:Type:=(List (Int×List Int))×Int×Int×LI×Unit
abbrev B0:Type:=(LI×Unit)
def b0(m_:Dq)(self:A0->Option B0):A0->Option B0:=fun v_=>match v_ with
|(l,kind,i,m,())=>
 bif vZ (l.length:Int)then
 bif decide (i<(l.length:Int))then
  bif inB i (l.length:Int)then
  bif decide (((rd ((0:Int),([]:List Int)) l i).1)=kind)then
   bif decide (m.length+([i]:List Int).length<8796093022208)then
   self (l,kind,(ag3.wrap (i+1)),(m++([i]:List Int)),())else none
  else
   self (l,kind,(ag3.wrap (i+1)),m,())else none
 else
  some (m,())else none
theorem k0:KQ 35 (O m_) [] e0 x0 [] (b0 m_):=fun _ _=>by kernel_rfl
def l0:=loop m_ (b0 m_)
theorem q0(v):l0 .lim v=b0 .lim (l0 .lim) v:=KS.q (k0 .lim) v
def s0:=so m_ (k0 m_)
def run:(List (Int×List Int))×Int×Unit->Option (List Int):=fun v_=>match v_ with
|(l,kind,())=>
 (NJ.l0 m_ (l,kind,0,([]:List Int),())).bind fun (m,())=>
 some m
theorem k:KT (O m_) [] ⟨35,[.one QG,.one (.int .i64)],.one (.own (.int .i64)),run m_⟩ [s0 m_]:=fun _=>by kernel_rfl
def c:=co (k m_)
end NJ

namespace PU
def O(m_:Dq):OO P:=lI []
def run(m_:Dq):Int×Unit->Option (List Int):=fun v_=>match v_ with
|(n,())=>
 some ([(aha.wrap (ag3.wrap (n.tdiv 256))),(aha.wrap (n.tmod 256))]:List Int)
theorem k:KT (O m_) [] ⟨66,[.one (.int .i64)],.one (.sh (.one .str)),run m_⟩ []:=fun _=>by kernel_rfl
def c:=co (k m_)
end PU

namespace NW
def O(m_:Dq):OO P:=lI []
def e0:Spec:=⟨[fs 67 [.q 24,.z 24,.b 0,.q 7] [(0,.s)]],[],0⟩
def x0:List Spec:=[⟨[fs 67 [.q 7] [(0,.s)]],[],0⟩]
abbrev A0:Type:=LI×Unit
abbrev B0:Type:=(LI×Unit)
def b0(m_:Dq)(self:A0->Option B0):A0->Option B0:=fun v_=>match v_ with
|(s,())=>
 bif vZ (s.length:Int)then
 bif !(decide (((s.length:Int).tmod 4)=0))then
  bif decide (s.length+([0]:List Int).length<=maxStr)then
  self ((s++([0]:List Int)),())else none
 else
  some (s,())else none
theorem k0:KQ 67 (O m_) [] e0 x0 [] (b0 m_):=fun _ _=>by kernel_rfl
def l0:=loop m_ (b0 m_)
theorem q0(v):l0 .lim v=b0 .lim (l0 .lim) v:=KS.q (k0 .lim) v
def s0:=so m_ (k0 m_)
def run:(List Int)×Unit->Option (List Int):=fun v_=>match v_ with
|(s,())=>
 (NW.l0 m_ (s,())).bind fun (s1,())=>
 some s1
theorem k:KT (O m_) [] ⟨67,[.one .str],.one (.sh (.one .str)),run m_⟩ [s0 m_]:=fun _=>by kernel_rfl
def c:=co (k m_)
end NW

namespace Qi
def O:OO P:=lI [NU.c m_,NM.c m_,PU.c m_,NW.c m_]
def run:Rx×(List Int)×(List Int)×(List Int)×(List (Int×List Int))×Unit->Option (Rx×(Int×List Int)×Int×Unit):=fun v_=>match v_ with
|(v,key,MW,ahead,inner,())=>
 bif vZ (MW.length:Int)then
 bif !(decide ((MW.length:Int)=16))then
  some (v,(0,([]:List Int)),10,())
 else
  bif vZ (ahead.length:Int)then
  bif decide ((ahead.length:Int)>1280)then
   some (v,(0,([]:List Int)),12,())
  else
   (NM.run m_ (inner,())).bind fun (r,r1,())=>
   bif !(decide (r1=0))then
    some (v,(0,([]:List Int)),r1,())
   else
    (NU.run m_ (v,key,([ahead,MW]:List (List Int)),r,())).bind fun (r2,r3,r4,())=>
    bif !(decide (r4=0))then
     some (v,(0,([]:List Int)),r4,())
    else
     (PU.run m_ (16,())).bind fun r5=>
     bif vZ (r3.length:Int)then
     (PU.run m_ ((r3.length:Int),())).bind fun r6=>
     bif decide (r5.length+r6.length<=maxStr)then
     bif decide ((r5++r6).length+MW.length<=maxStr)then
     (NW.run m_ (r3,())).bind fun r7=>
     bif decide (((r5++r6)++MW).length+r7.length<=maxStr)then
     some (r2,(1028,(((r5++r6)++MW)++r7)),0,())else none else none else none else none else none else none
theorem k:KT (O m_) [] ⟨36,[.ag Rz,.one .str,.one .str,.one .str,.one QG],.iF [.sh (.ag Rz),.sh (.ag Yb),.sh (.one (.int .i64))],run m_⟩ []:=fun _=>by kernel_rfl
def c:=co (k m_)
end Qi

namespace PG
def O:OO P:=lI [Ov.c m_,NJ.c m_,Qi.c m_]
def run:Rx×DT2×(List Int)×(List Int)×(List (Int×List Int))×Unit->Option (Rx×(List Int)×Int×Unit):=fun v_=>match v_ with
|(v,p,key,MW,inner,())=>
 (NJ.run m_ (p.2.2.2.2.2.2.2.2.2.2.2.2.2,1028,())).bind fun r=>
 bif vZ (r.length:Int)then
 bif decide ((r.length:Int)>0)then
  some (v,([]:List Int),23,())
 else
  (Ov.run m_ (p,())).bind fun (r1,r2,())=>
  bif !(decide (r2=0))then
   some (v,([]:List Int),r2,())
  else
   (Qi.run m_ (v,key,MW,r1,inner,())).bind fun (r3,r4,r5,())=>
   bif !(decide (r5=0))then
    some (v,([]:List Int),r5,())
   else
    bif decide (p.2.2.2.2.2.2.2.2.2.2.2.2.2.length<2932031007402)then
    bif decide (p.2.2.2.2.2.2.2.2.2.2.2.2.2.length+([r4]:List (Int×List Int)).length<2932031007402)then
    (Ov.run m_ ((p.1,(p.2.1,(p.2.2.1,(p.2.2.2.1,(p.2.2.2.2.1,(p.2.2.2.2.2.1,(p.2.2.2.2.2.2.1,(p.2.2.2.2.2.2.2.1,(p.2.2.2.2.2.2.2.2.1,(p.2.2.2.2.2.2.2.2.2.1,(p.2.2.2.2.2.2.2.2.2.2.1,(p.2.2.2.2.2.2.2.2.2.2.2.1,(p.2.2.2.2.2.2.2.2.2.2.2.2.1,(p.2.2.2.2.2.2.2.2.2.2.2.2.2++([r4]:List (Int×List Int)))))))))))))))),())).bind fun (r6,r7,())=>
    bif !(decide (r7=0))then
     some (v,([]:List Int),r7,())
    else
     some (r3,r6,0,())else none else none else none
theorem k:KT (O m_) [] ⟨11,[.ag Rz,.ag Yx,.one .str,.one .str,.one QG],.iF [.sh (.ag Rz),.sh (.one .str),.sh (.one (.int .i64))],run m_⟩ []:=fun _=>by kernel_rfl
def c:=co (k m_)
end PG

namespace Pz
def O:OO P:=lI [NW.c m_]
def run:(List Int)×Unit->Option ((List Int)×(List Int)×Int×Unit):=fun v_=>match v_ with
|(body,())=>
 bif vZ (body.length:Int)then
 bif decide ((body.length:Int)<4)then
  some (([]:List Int),([]:List Int),11,())
 else
  bif inB 0 (body.length:Int)then
  bif inB 1 (body.length:Int)then
  bif inB 2 (body.length:Int)then
  bif inB 3 (body.length:Int)then
  bif((!(!(!(decide ((ag3.wrap ((ag3.wrap ((ag3.wrap (rd 0 body 0))*256))+(ag3.wrap (rd 0 body 1))))=16)))))||(vZ (body.length:Int)))then
  bif((!(decide ((ag3.wrap ((ag3.wrap ((ag3.wrap (rd 0 body 0))*256))+(ag3.wrap (rd 0 body 1))))=16)))||(decide ((body.length:Int)<(ag3.wrap ((ag3.wrap (4+(ag3.wrap ((ag3.wrap ((ag3.wrap (rd 0 body 0))*256))+(ag3.wrap (rd 0 body 1))))))+(ag3.wrap ((ag3.wrap ((ag3.wrap (rd 0 body 2))*256))+(ag3.wrap (rd 0 body 3)))))))))then
   some (([]:List Int),([]:List Int),10,())
  else
   bif sS (ag3.wrap (4+(ag3.wrap ((ag3.wrap ((ag3.wrap (rd 0 body 0))*256))+(ag3.wrap (rd 0 body 1)))))) (ag3.wrap ((ag3.wrap (4+(ag3.wrap ((ag3.wrap ((ag3.wrap (rd 0 body 0))*256))+(ag3.wrap (rd 0 body 1))))))+(ag3.wrap ((ag3.wrap ((ag3.wrap (rd 0 body 2))*256))+(ag3.wrap (rd 0 body 3)))))) (body.length:Int)then
   bif sS (ag3.wrap (4+(ag3.wrap ((ag3.wrap ((ag3.wrap (rd 0 body 0))*256))+(ag3.wrap (rd 0 body 1)))))) (body.length:Int) (body.length:Int)then
   (NW.run m_ ((cut body (ag3.wrap (4+(ag3.wrap ((ag3.wrap ((ag3.wrap (rd 0 body 0))*256))+(ag3.wrap (rd 0 body 1)))))) (ag3.wrap ((ag3.wrap (4+(ag3.wrap ((ag3.wrap ((ag3.wrap (rd 0 body 0))*256))+(ag3.wrap (rd 0 body 1))))))+(ag3.wrap ((ag3.wrap ((ag3.wrap (rd 0 body 2))*256))+(ag3.wrap (rd 0 body 3))))))),())).bind fun r=>
   bif !(decide ((cut body (ag3.wrap (4+(ag3.wrap ((ag3.wrap ((ag3.wrap (rd 0 body 0))*256))+(ag3.wrap (rd 0 body 1)))))) (body.length:Int))=r))then
    some (([]:List Int),([]:List Int),10,())
   else
    bif sS 4 (ag3.wrap (4+(ag3.wrap ((ag3.wrap ((ag3.wrap (rd 0 body 0))*256))+(ag3.wrap (rd 0 body 1)))))) (body.length:Int)then
    some ((cut body 4 (ag3.wrap (4+(ag3.wrap ((ag3.wrap ((ag3.wrap (rd 0 body 0))*256))+(ag3.wrap (rd 0 body 1))))))),(cut body (ag3.wrap (4+(ag3.wrap ((ag3.wrap ((ag3.wrap (rd 0 body 0))*256))+(ag3.wrap (rd 0 body 1)))))) (ag3.wrap ((ag3.wrap (4+(ag3.wrap ((ag3.wrap ((ag3.wrap (rd 0 body 0))*256))+(ag3.wrap (rd 0 body 1))))))+(ag3.wrap ((ag3.wrap ((ag3.wrap (rd 0 body 2))*256))+(ag3.wrap (rd 0 body 3))))))),0,())else none else none else none else none else none else none else none else none else none
theorem k:KT (O m_) [] ⟨46,[.one .str],.iF [.sh (.one .str),.sh (.one .str),.sh (.one (.int .i64))],run m_⟩ []:=fun v_=>match v_ with|(body,())=>by kernel_rfl
def c:=co (k m_)
end Pz

namespace Qe
def O:OO P:=lI [OW.c m_,Pv.c m_,OH.c m_]
def run:(List Int)×(List (List Int))×(List Int)×Unit->Option ((List Int)×Int×Unit):=fun v_=>match v_ with
|(key,ad,sealed,())=>
 (OW.run m_ (key,ad,())).bind fun r=>
 bif !(decide (r=0))then
  some (([]:List Int),r,())
 else
  bif vZ (sealed.length:Int)then
  bif decide ((sealed.length:Int)<16)then
   some (([]:List Int),11,())
  else
   bif vZ (sealed.length:Int)then
   bif decide ((sealed.length:Int)>65552)then
    some (([]:List Int),12,())
   else
    bif vZ (key.length:Int)then
    bif sS 0 16 (sealed.length:Int)then
    bif sS (ag3.wrap ((key.length:Int).tdiv 2)) (key.length:Int) (key.length:Int)then
    bif sS 16 (sealed.length:Int) (sealed.length:Int)then
    (OH.run m_ ((cut key (ag3.wrap ((key.length:Int).tdiv 2)) (key.length:Int)),(cut sealed 0 16),(cut sealed 16 (sealed.length:Int)),())).bind fun r1=>
    bif sS 0 (ag3.wrap ((key.length:Int).tdiv 2)) (key.length:Int)then
    (Pv.run m_ ((cut key 0 (ag3.wrap ((key.length:Int).tdiv 2))),ad,r1,())).bind fun r2=>
    bif !(decide (r2=(cut sealed 0 16)))then
     some (([]:List Int),17,())
    else
     some (r1,0,())else none else none else none else none else none else none else none
theorem k:KT (O m_) [] ⟨81,[.one .str,.one (.lst .str),.one .str],.iF [.sh (.one .str),.sh (.one (.int .i64))],run m_⟩ []:=fun _=>by kernel_rfl
def c:=co (k m_)
end Qe

namespace NR
def O:OO P:=lI [OX.c m_,Qe.c m_,Ob.c m_]
def e0:Spec:=⟨[fs 47 [.q 2036,.z 2036,.b 0,.q 255] [(1,.s),(2,.t),(3,.s),(4,.ptr 0 0),(11,.w)]],[(0,.c [.b,.dat Uw])],1⟩
def x0:List Spec:=[⟨[fs 47 [.q 260685,.b 1,.q 8147,.z 2036,.b 0,.q 255] [(8,.s),(9,.w)]],[],0⟩,⟨[fs 47 [.q 255] []],[],0⟩]
abbrev A0:Type:=LI×LL×LI×Int×Bool×(List (List Int×(List LI×(List Int×List Int))))×Unit
abbrev B0:Type:=(LI×Int×Unit) ⊕ (Unit)
def b0(self:A0->Option B0):A0->Option B0:=fun v_=>match v_ with
|(key,ad,sealed,i,m,m1,())=>
 bif vZ (m1.length:Int)then
 bif decide (i<(m1.length:Int))then
  bif inB i (m1.length:Int)then
  ((bif((decide (((((rd PL m1 i).2).2).2)=sealed))&&(decide (((rd PL m1 i).1)=key)))then Ob.run m_ (((rd PL m1 i).2).1,ad,())else some false)).bind fun r=>
  bif(((decide (((((rd PL m1 i).2).2).2)=sealed))&&(decide (((rd PL m1 i).1)=key)))&&r)then
   some (.inl ((((rd PL m1 i).2).2).1,0,()))
  else
   self (key,ad,sealed,(ag3.wrap (i+1)),m,m1,())else none
 else
  some (.inr (()))else none
theorem k0:KQ 47 (O m_) [] e0 x0 [] (b0 m_):=fun _ _=>by kernel_rfl
def l0:=loop m_ (b0 m_)
theorem q0(v):l0 .lim v=b0 .lim (l0 .lim) v:=KS.q (k0 .lim) v
def s0:=so m_ (k0 m_)
def run:Rx×(List Int)×(List (List Int))×(List Int)×Unit->Option ((List Int)×Int×Unit):=fun v_=>match v_ with
|(v,key,ad,sealed,())=>
 bif !v.1 then
  (Qe.run m_ (key,ad,sealed,())).bind fun (r,r1,())=>
  some (r,r1,())
 else
  (OX.run m_ (key,ad,0,())).bind fun r2=>
  bif !(decide (r2=0))then
   some (([]:List Int),r2,())
  else
   bif vZ (sealed.length:Int)then
   bif decide ((sealed.length:Int)<16)then
    some (([]:List Int),11,())
   else
    bif vZ (sealed.length:Int)then
    bif decide ((sealed.length:Int)>65552)then
     some (([]:List Int),12,())
    else
     (NR.l0 m_ (key,ad,sealed,0,v.1,v.2,())).bind fun g_=>match g_ with
     | .inl (t,t1,())=>
      some (t,t1,())
     | .inr (())=>
      some (([]:List Int),17,())else none else none
theorem k:KT (O m_) [] ⟨47,[.ag Rz,.one .str,.one (.lst .str),.one .str],.iF [.sh (.one .str),.sh (.one (.int .i64))],run m_⟩ [s0 m_]:=fun _=>by kernel_rfl
def c:=co (k m_)
end NR

namespace N8
def O:OO P:=lI [Qh.c m_,NJ.c m_,Pz.c m_,NR.c m_,NK.c m_]
def o0:dJ:= .c [.b,.dat Uw]
def o1:dJ:= .c [.w,.w,.w,.w,.w,.w,.dat (.int .u32),.dat (.int .u32),.dat (.int .u32),.u,.u,.u,.u,.CU,.CU,.CU]
def o2:dJ:= .c [.w,.w,.w,.w,.w,.w,.dat (.int .u32),.dat (.int .u32),.dat (.int .u32),.u,.u,.u,.u,.dat QG]
def e0:Spec:=⟨[fs 15 [.q 2036,.z 2036,.b 0,.q 255] [(1,.s),(2,.s),(3,.ptr 0 0),(6,.ptr 1 0),(8,.ptr 2 0),(10,.own 3 (.int .i64)),(11,.w),(12,.w)]],[(0,o0),(1,o1),(2,o2),(3,.c [.row (.int .i64)])],4⟩
def x0:List Spec:=[⟨[fs 15 [.q 255] [(1,.s),(2,.s),(3,.ptr 0 0),(6,.ptr 1 0),(8,.ptr 2 0),(10,.own 3 (.int .i64)),(11,.w)]],[(0,o0),(1,o1),(2,o2),(3,.c [.row (.int .i64)])],4⟩]
abbrev A0:Type:=LI×LI×Int×Int×Bool×(List (List Int×(List LI×(List Int×List Int))))×Int×Int×Int×Int×Int×Int×Int×Int×Int×Int×Int×Int×Int×Int×Int×Int×Int×Int×Int×Int×Int×Int×Int×Int×Int×Int×(List (Int×List Int))×LI×Unit
abbrev B0:Type:=(LI×LI×Int×Bool×(List (List Int×(List LI×(List Int×List Int))))×Int×Int×Int×Int×Int×Int×Int×Int×Int×Int×Int×Int×Int×Int×Int×Int×Int×Int×Int×Int×Int×Int×Int×Int×Int×Int×(List (Int×List Int))×LI×Unit)
def b0(m_:Dq)(self:A0->Option B0):A0->Option B0:=fun v_=>match v_ with
|(s,key,n,i,m,m1,m2,m3,m4,m5,m6,m7,m8,m9,m10,m11,m12,m13,m14,m15,m16,m17,m18,m19,m20,m21,m22,m23,m24,Uf,TS,Uz,TT,Ul,())=>
 bif inB 0 (Ul.length:Int)then
 bif decide (i<(rd 0 Ul 0))then
  bif inB i (TT.length:Int)then
  bif vZ (((rd ((0:Int),([]:List Int)) TT i).2).length:Int)then
  self (s,key,(ag3.wrap ((ag3.wrap (n+4))+(((rd ((0:Int),([]:List Int)) TT i).2).length:Int))),(ag3.wrap (i+1)),m,m1,m2,m3,m4,m5,m6,m7,m8,m9,m10,m11,m12,m13,m14,m15,m16,m17,m18,m19,m20,m21,m22,m23,m24,Uf,TS,Uz,TT,Ul,())else none else none
 else
  some (s,key,n,m,m1,m2,m3,m4,m5,m6,m7,m8,m9,m10,m11,m12,m13,m14,m15,m16,m17,m18,m19,m20,m21,m22,m23,m24,Uf,TS,Uz,TT,Ul,())else none
theorem k0:KQ 15 (O m_) [] e0 x0 [] (b0 m_):=fun _ _=>by kernel_rfl
def l0:=loop m_ (b0 m_)
theorem q0(v):l0 .lim v=b0 .lim (l0 .lim) v:=KS.q (k0 .lim) v
def s0:=so m_ (k0 m_)
def run:Rx×(List Int)×(List Int)×Unit->Option ((DT2×(List (Int×List Int)×List (Int×List Int)))×Int×Unit):=fun v_=>match v_ with
|(v,s,key,())=>
 (Qh.run m_ (s,())).bind fun (r,r1,())=>
 bif !(decide (r1=0))then
  some (((0,(0,(0,(0,(0,(0,(0,(0,(0,(0,(0,(0,(0,([]:List (Int×List Int))))))))))))))),WU),r1,())
 else
  (NJ.run m_ (r.2.2.2.2.2.2.2.2.2.2.2.2.2,1028,())).bind fun r2=>
  bif vZ (r2.length:Int)then
  bif decide ((r2.length:Int)=0)then
   some (((0,(0,(0,(0,(0,(0,(0,(0,(0,(0,(0,(0,(0,([]:List (Int×List Int))))))))))))))),WU),19,())
  else
   (N8.l0 m_ (s,key,48,0,v.1,v.2,0,0,0,0,0,0,0,0,0,0,0,0,0,r.1,r.2.1,r.2.2.1,r.2.2.2.1,r.2.2.2.2.1,r.2.2.2.2.2.1,r.2.2.2.2.2.2.1,r.2.2.2.2.2.2.2.1,r.2.2.2.2.2.2.2.2.1,r.2.2.2.2.2.2.2.2.2.1,r.2.2.2.2.2.2.2.2.2.2.1,r.2.2.2.2.2.2.2.2.2.2.2.1,r.2.2.2.2.2.2.2.2.2.2.2.2.1,r.2.2.2.2.2.2.2.2.2.2.2.2.2,r2,())).bind fun (s1,key1,n,m,m1,m2,m3,m4,m5,m6,m7,m8,m9,m10,m11,m12,m13,m14,m15,m16,m17,m18,m19,m20,m21,m22,m23,m24,Uf,TS,Uz,TT,Ul,())=>
   bif inB 0 (Ul.length:Int)then
   bif inB (rd 0 Ul 0) (TT.length:Int)then
   (Pz.run m_ ((rd ((0:Int),([]:List Int)) TT (rd 0 Ul 0)).2,())).bind fun (r3,r4,r5,())=>
   bif !(decide (r5=0))then
    some (((0,(0,(0,(0,(0,(0,(0,(0,(0,(0,(0,(0,(0,([]:List (Int×List Int))))))))))))))),WU),r5,())
   else
    bif sS 0 n (s1.length:Int)then
    (NR.run m_ ((m,m1),key1,([(cut s1 0 n),r3]:List (List Int)),r4,())).bind fun (r6,r7,())=>
    bif !(decide (r7=0))then
     some (((0,(0,(0,(0,(0,(0,(0,(0,(0,(0,(0,(0,(0,([]:List (Int×List Int))))))))))))))),WU),r7,())
    else
     (NK.run m_ (r6,())).bind fun (r8,r9,())=>
     bif !(decide (r9=0))then
      some (((0,(0,(0,(0,(0,(0,(0,(0,(0,(0,(0,(0,(0,([]:List (Int×List Int))))))))))))))),WU),r9,())
     else
      bif inB 0 (Ul.length:Int)then
      bif sS 0 (rd 0 Ul 0) (TT.length:Int)then
      some (((m15,(m16,(m17,(m18,(m19,(m20,(m21,(m22,(m23,(m24,(Uf,(TS,(Uz,([]:List (Int×List Int))))))))))))))),((cut TT 0 (rd 0 Ul 0)),r8)),0,())else none else none else none else none else none else none
theorem k:KT (O m_) [] ⟨15,[.ag Rz,.one .str,.one .str],.iF [.sh (.ag (.pair Yx (.pair QG QG))),.sh (.one (.int .i64))],run m_⟩ [s0 m_]:=fun _=>by kernel_rfl
def c:=co (k m_)
end N8

namespace PS
def O:OO P:=lI [NJ.c m_]
def run:(List (Int×List Int))×Int×Unit->Option ((List Int)×Int×Unit):=fun v_=>match v_ with
|(l,kind,())=>
 (NJ.run m_ (l,kind,())).bind fun r=>
 bif vZ (r.length:Int)then
 bif decide ((r.length:Int)=0)then
  some (([]:List Int),19,())
 else
  bif vZ (r.length:Int)then
  bif decide ((r.length:Int)>1)then
   some (([]:List Int),24,())
  else
   bif inB 0 (r.length:Int)then
   bif inB (rd 0 r 0) (l.length:Int)then
   some ((rd ((0:Int),([]:List Int)) l (rd 0 r 0)).2,0,())else none else none else none else none
theorem k:KT (O m_) [] ⟨16,[.one QG,.one (.int .i64)],.iF [.sh (.one .str),.sh (.one (.int .i64))],run m_⟩ []:=fun _=>by kernel_rfl
def c:=co (k m_)
end PS

namespace Ot
def O(m_:Dq):OO P:=lI []
def e0:Spec:=⟨[fs 49 [.q 52,.z 52,.b 0,.q 7] [(1,.dat (.int .u32)),(2,.ptr 0 0),(5,.w)]],[(0,.c [.dat XG,.dat (.int .u32)])],1⟩
def x0:List Spec:=[⟨[fs 49 [.q 3365,.b 1,.q 211,.z 52,.b 0,.q 7] [(4,.w)]],[],0⟩,⟨[fs 49 [.q 7] []],[],0⟩]
abbrev A0:Type:=Int×Int×(List (Int×(List Int×Int)))×Int×Unit
abbrev B0:Type:=(Int×Unit) ⊕ (Unit)
def b0(m_:Dq)(self:A0->Option B0):A0->Option B0:=fun v_=>match v_ with
|(id,i,m,m1,())=>
 bif vZ (m.length:Int)then
 bif decide (i<(m.length:Int))then
  bif inB i (m.length:Int)then
  bif decide (((rd ((0:Int),(([]:List Int),(0:Int))) m i).1)=id)then
   some (.inl (i,()))
  else
   self (id,(ag3.wrap (i+1)),m,m1,())else none
 else
  some (.inr (()))else none
theorem k0:KQ 49 (O m_) [] e0 x0 [] (b0 m_):=fun _ _=>by kernel_rfl
def l0:=loop m_ (b0 m_)
theorem q0(v):l0 .lim v=b0 .lim (l0 .lim) v:=KS.q (k0 .lim) v
def s0:=so m_ (k0 m_)
def run:WQ×Int×Unit->Option (Int):=fun v_=>match v_ with
|(r,id,())=>
 (Ot.l0 m_ (id,0,r.1,r.2,())).bind fun g_=>match g_ with
 | .inl (t,())=>
  some t
 | .inr (())=>
  some (-1)
theorem k:KT (O m_) [] ⟨49,[.ag Wv,.one (.int .u32)],.one (.sh (.one (.int .i64))),run m_⟩ [s0 m_]:=fun _=>by kernel_rfl
def c:=co (k m_)
end Ot

namespace O5
def O:OO P:=lI [OA.c m_,OU.c m_,NR.c m_,Ot.c m_]
def run:Rx×WQ×(List Int)×Unit->Option ((Int×(List Int×List Int))×Int×Unit):=fun v_=>match v_ with
|(v,r,s,())=>
 bif vZ (s.length:Int)then
 bif decide ((s.length:Int)<20)then
  some ((0,(([]:List Int),([]:List Int))),11,())
 else
  bif inB 0 (s.length:Int)then
  bif inB 1 (s.length:Int)then
  bif inB 2 (s.length:Int)then
  bif inB 3 (s.length:Int)then
  (Ot.run m_ (r,(KY .u32 (KY .u32 (KY .u32 (Jd .u32 (ahq.wrap (rd 0 s 0)) 24) (Jd .u32 (ahq.wrap (rd 0 s 1)) 16)) (Jd .u32 (ahq.wrap (rd 0 s 2)) 8)) (ahq.wrap (rd 0 s 3))),())).bind fun r1=>
  bif decide (r1<0)then
   some ((0,(([]:List Int),([]:List Int))),19,())
  else
   bif inB r1 (r.1.length:Int)then
   bif sS 0 4 (s.length:Int)then
   bif sS 4 20 (s.length:Int)then
   bif sS 20 (s.length:Int) (s.length:Int)then
   (NR.run m_ (v,((rd ((0:Int),(([]:List Int),(0:Int))) r.1 r1).2).1,([(cut s 0 4),(cut s 4 20)]:List (List Int)),(cut s 20 (s.length:Int)),())).bind fun (r2,r3,())=>
   bif !(decide (r3=0))then
    some ((0,(([]:List Int),([]:List Int))),r3,())
   else
    bif vZ (r2.length:Int)then
    bif decide ((r2.length:Int)>=4)then
     bif vZ (r2.length:Int)then
     bif inB 0 (r2.length:Int)then
     bif inB 1 (r2.length:Int)then
     bif sS 4 (ag3.wrap (4+(ag3.wrap ((ag3.wrap ((r2.length:Int)-4)).tdiv 2)))) (r2.length:Int)then
     bif sS (ag3.wrap (4+(ag3.wrap ((ag3.wrap ((r2.length:Int)-4)).tdiv 2)))) (r2.length:Int) (r2.length:Int)then
     (OA.run m_ (((ag3.wrap ((ag3.wrap ((ag3.wrap (rd 0 r2 0))*256))+(ag3.wrap (rd 0 r2 1)))),((cut r2 4 (ag3.wrap (4+(ag3.wrap ((ag3.wrap ((r2.length:Int)-4)).tdiv 2))))),(cut r2 (ag3.wrap (4+(ag3.wrap ((ag3.wrap ((r2.length:Int)-4)).tdiv 2)))) (r2.length:Int)))),())).bind fun r4=>
     ((bif !!r4 then OU.run m_ (((ag3.wrap ((ag3.wrap ((ag3.wrap (rd 0 r2 0))*256))+(ag3.wrap (rd 0 r2 1)))),((cut r2 4 (ag3.wrap (4+(ag3.wrap ((ag3.wrap ((r2.length:Int)-4)).tdiv 2))))),(cut r2 (ag3.wrap (4+(ag3.wrap ((ag3.wrap ((r2.length:Int)-4)).tdiv 2)))) (r2.length:Int)))),())else some ([]:List Int))).bind fun r5=>
     bif(!r4||(!(decide (r5=r2))))then
      some ((0,(([]:List Int),([]:List Int))),10,())
     else
      some (((ag3.wrap ((ag3.wrap ((ag3.wrap (rd 0 r2 0))*256))+(ag3.wrap (rd 0 r2 1)))),((cut r2 4 (ag3.wrap (4+(ag3.wrap ((ag3.wrap ((r2.length:Int)-4)).tdiv 2))))),(cut r2 (ag3.wrap (4+(ag3.wrap ((ag3.wrap ((r2.length:Int)-4)).tdiv 2)))) (r2.length:Int)))),0,())else none else none else none else none else none
    else
     (OA.run m_ ((0,(([]:List Int),([]:List Int))),())).bind fun r6=>
     ((bif !!r6 then OU.run m_ ((0,(([]:List Int),([]:List Int))),())else some ([]:List Int))).bind fun r7=>
     bif(!r6||(!(decide (r7=r2))))then
      some ((0,(([]:List Int),([]:List Int))),10,())
     else
      some ((0,(([]:List Int),([]:List Int))),0,())else none else none else none else none else none else none else none else none else none else none
theorem k:KT (O m_) [] ⟨17,[.ag Rz,.ag Wv,.one .str],.iF [.sh (.ag Yw),.sh (.one (.int .i64))],run m_⟩ []:=fun v_=>match v_ with|(v,r,s,())=>by kernel_rfl
def c:=co (k m_)
end O5

namespace Nc
def O:OO P:=lI [Qd.c m_,OA.c m_,NH.c m_,Qj.c m_,PG.c m_,Nr.c m_,Oc.c m_,N9.c m_,N8.c m_,PS.c m_,O5.c m_]
def o0:dJ:= .c [.b,.dat Uw]
def o1:dJ:= .c [.dat XG,.dat (.int .u32),.w,.w,.dat (.int .u32),.dat (.int .u32),.dat (.int .u32),.u,.u,.u]
def e0:Spec:=⟨[fs 3 [.q 116,.z 116,.b 0,.q 15] [(3,.s),(4,.s),(5,.w),(6,.u),(7,.u),(8,.u),(9,.t),(10,.ptr 0 0),(11,.ptr 1 0),(12,.ptr 2 0),(73,.t),(74,.w),(75,.w)]],[(0,o0),(1,o1),(2,.c [.w,.s,.s])],3⟩
def x0:List Spec:=[⟨[fs 3 [.q 29901,.b 1,.q 935,.z 116,.b 0,.q 15] [(20,.b)]],[],0⟩,⟨[fs 3 [.q 15] [(3,.s),(4,.s),(5,.w),(6,.u),(7,.u),(8,.u),(9,.t),(10,.ptr 0 0),(11,.ptr 1 0),(12,.ptr 2 0)]],[(0,o0),(1,o1),(2,.c [.w,.s,.s])],3⟩]
abbrev A0:Type:=LI×LI×Int×Int×Int×Int×LL×LL×Int×Int×Bool×(List (List Int×(List LI×(List Int×List Int))))×(List (Int×(List Int×Int)))×Int×Int×Int×Int×Int×Int×Int×Int×Int×Int×LI×LI×Unit
abbrev B0:Type:=(Bool×Unit) ⊕ (LI×LI×Int×Int×Int×Int×LL×Bool×(List (List Int×(List LI×(List Int×List Int))))×(List (Int×(List Int×Int)))×Int×Int×Int×Int×Int×Int×Int×Int×Int×Int×LI×LI×Unit)
def b0(self:A0->Option B0):A0->Option B0:=fun v_=>match v_ with
|(unique,MW,Qu,t,recv,Og,draws,t1,t2,t3,m)=>
 bif decide (t3<t2)then
  bif inB t3 (t1.length:Int)then
  bif vZ ((rd ([]:List Int) t1 t3).length:Int)then
  bif !(decide (((rd ([]:List Int) t1 t3).length:Int)=16))then
   (NH.run m_ (())).bind fun r=>
   some (.inl (r,()))
  else
   self (unique,MW,Qu,t,recv,Og,draws,t1,t2,(ag3.wrap (t3+1)),m)else none else none
 else
  some (.inr (unique,MW,Qu,t,recv,Og,draws,m))
theorem k0:KQ 3 (O m_) [] e0 x0 [] (b0 m_):=fun _ _=>by kernel_rfl
def l0:=loop m_ (b0 m_)
theorem q0(v):l0 .lim v=b0 .lim (l0 .lim) v:=KS.q (k0 .lim) v
def s0:=so m_ (k0 m_)
def o2:dJ:= .c [.row Yb]
def e1:Spec:=⟨[fs 3 [.q 4084,.z 4084,.b 2,.q 511] [(3,.s),(4,.s),(6,.u),(7,.u),(8,.u),(9,.t),(11,.ptr 0 0),(12,.ptr 1 0),(23,.w),(24,.ptr 2 0),(25,.s),(27,.own 3 Yb),(106,.w),(107,.w)]],[(0,o1),(1,.c [.w,.s,.s]),(2,o0),(3,o2)],4⟩
def x1:List Spec:=[⟨[fs 3 [.q 511] [(3,.s),(4,.s),(6,.u),(7,.u),(8,.u),(9,.t),(11,.ptr 0 0),(12,.ptr 1 0),(23,.w),(24,.ptr 2 0),(27,.own 3 Yb)]],[(0,o1),(1,.c [.w,.s,.s]),(2,o0),(3,o2)],4⟩]
abbrev A1:Type:=LI×LI×Int×Int×Int×LL×Int×LI×Int×Int×(List (Int×(List Int×Int)))×Int×Int×Int×Int×Int×Int×Int×Int×Int×Int×LI×LI×Bool×(List (List Int×(List LI×(List Int×List Int))))×(List (Int×List Int))×Unit
abbrev B1:Type:=(LI×LI×Int×Int×Int×LL×Int×(List (Int×(List Int×Int)))×Int×Int×Int×Int×Int×Int×Int×Int×Int×Int×LI×LI×Bool×(List (List Int×(List LI×(List Int×List Int))))×(List (Int×List Int))×Unit)
def b1(m_:Dq)(self:A1->Option B1):A1->Option B1:=fun v_=>match v_ with
|(unique,MW,t,recv,Og,draws,n,UG,t1,t2,m,m1,m2,m3,m4,m5,m6,m7,m8,m9,m10,m11,m12,m13,m14,m15,())=>
 bif decide (t2<t1)then
  bif vZ (UG.length:Int)then
  bif(((decide (0<=(UG.length:Int)))&&(decide ((UG.length:Int)<=(UG.length:Int))))&&(ah0 ((UG.length:Int).toNat) 70368744177664))then
  bif decide (m15.length+([(772,(ag6 ((UG.length:Int).toNat) 0))]:List (Int×List Int)).length<2932031007402)then
  self (unique,MW,t,recv,Og,draws,n,UG,t1,(ag3.wrap (t2+1)),m,m1,m2,m3,m4,m5,m6,m7,m8,m9,m10,m11,m12,m13,m14,(m15++([(772,(ag6 ((UG.length:Int).toNat) 0))]:List (Int×List Int))),())else none else none else none
 else
  some (unique,MW,t,recv,Og,draws,n,m,m1,m2,m3,m4,m5,m6,m7,m8,m9,m10,m11,m12,m13,m14,m15,())
theorem k1:KQ 3 (O m_) [] e1 x1 [] (b1 m_):=fun _ _=>by kernel_rfl
def l1:=loop m_ (b1 m_)
theorem q1(v):l1 .lim v=b1 .lim (l1 .lim) v:=KS.q (k1 .lim) v
def s1:=so m_ (k1 m_)
def e2:Spec:=⟨[fs 3 [.q 1048564,.z 1048564,.b 4,.q 131071] [(12,.ptr 0 0),(30,.ptr 1 0),(31,.ptr 2 0),(260,.dat QG),(261,.w),(262,.w)]],[(0,.c [.w,.s,.s]),(1,o0),(2,o1)],3⟩
def x2:List Spec:=[⟨[fs 3 [.q 536865181,.b 5,.q 8388519,.z 1048564,.b 4,.q 131071] [(20,.b)]],[],0⟩,⟨[fs 3 [.q 131071] []],[],0⟩]
abbrev A2:Type:=(List (Int×List Int))×Int×Int×Int×LI×LI×Bool×(List (List Int×(List LI×(List Int×List Int))))×(List (Int×(List Int×Int)))×Int×Int×Int×Int×Int×Int×Int×Int×Int×Unit
abbrev B2:Type:=(Bool×Unit) ⊕ (Unit)
def b2(self:A2->Option B2):A2->Option B2:=fun v_=>match v_ with
|(t,t1,t2,m,m1,m2,m3,m4,m5,m6,m7)=>
 bif decide (t2<t1)then
  bif inB t2 (t.length:Int)then
  (O5.run m_ ((m3,m4),(m5,m6),(rd ((0:Int),([]:List Int)) t t2).2,())).bind fun (r,r1,())=>
  bif(((!(decide (r1=0)))||(!((decide (r.1=m))&&((decide (r.2.1=m1))&&(decide (r.2.2=m2))))))||(!(decide (((rd ((0:Int),([]:List Int)) t t2).1)=516))))then
   some (.inl (false,()))
  else
   self (t,t1,(ag3.wrap (t2+1)),m,m1,m2,m3,m4,m5,m6,m7)else none
 else
  some (.inr (()))
theorem k2:KQ 3 (O m_) [] e2 x2 [] (b2 m_):=fun _ _=>by kernel_rfl
def l2:=loop m_ (b2 m_)
theorem q2(v):l2 .lim v=b2 .lim (l2 .lim) v:=KS.q (k2 .lim) v
def s2:=so m_ (k2 m_)
def run:Rx×DT6×(Int×(List Int×List Int))×(List Int)×(List Int)×Int×Int×Int×Int×(List (List Int))×Unit->Option (Bool):=fun v_=>match v_ with
|(v,x,k,unique,MW,Qu,t,recv,Og,draws,())=>
 (Qd.run m_ (v,x,([]:List Int),draws,())).bind fun r=>
 ((bif !!r then OA.run m_ (k,())else some false)).bind fun r1=>
 bif((!(!(!r|| !r1)))||(vZ (unique.length:Int)))then
 bif((!(!((!r|| !r1)||(decide ((unique.length:Int)<32)))))||(vZ (unique.length:Int)))then
 bif((!(!(((!r|| !r1)||(decide ((unique.length:Int)<32)))||(decide ((unique.length:Int)>64)))))||(vZ (unique.length:Int)))then
 bif((!(!(((!r|| !r1)||(decide ((unique.length:Int)<32)))||(decide ((unique.length:Int)>64)))))||true)then
 bif((!(!((((!r|| !r1)||(decide ((unique.length:Int)<32)))||(decide ((unique.length:Int)>64)))||(!(decide (((unique.length:Int).tmod 4)=0))))))||(vZ (draws.length:Int)))then
 bif(((((!r|| !r1)||(decide ((unique.length:Int)<32)))||(decide ((unique.length:Int)>64)))||(!(decide (((unique.length:Int).tmod 4)=0))))||(decide ((draws.length:Int)=0)))then
  (NH.run m_ (())).bind fun r2=>
  some r2
 else
  bif vZ (draws.length:Int)then
  (Nc.l0 m_ (unique,MW,Qu,t,recv,Og,draws,draws,(draws.length:Int),0,v.1,v.2,x.1.1,x.1.2,x.2.1,x.2.2.1,x.2.2.2.1,x.2.2.2.2.1,x.2.2.2.2.2.1,x.2.2.2.2.2.2.1,x.2.2.2.2.2.2.2.1,x.2.2.2.2.2.2.2.2,k.1,k.2.1,k.2.2,())).bind fun g_=>match g_ with
  | .inl (t1,())=>
   some t1
  | .inr (aaF,abR,YU,t2,ae1,afa,adM,m,m1,m2,m3,m4,m5,m6,m7,m8,m9,m10,m11,m12,m13,m14,())=>
   (Qj.run m_ ((m,m1),(m2,m3),(m12,(m13,m14)),abR,())).bind fun (r3,r4,r5,())=>
   bif !(decide (r5=0))then
    (NH.run m_ (())).bind fun r6=>
    some r6
   else
    (Nc.l1 m_ (aaF,abR,t2,ae1,afa,adM,(ag3.wrap ((ahg.wrap YU).tmod 6)),r4,(ag3.wrap ((ahg.wrap YU).tmod 6)),0,m2,m3,m4,m5,m6,m7,m8,m9,m10,m11,m12,m13,m14,r3.1,r3.2,([(260,aaF),(516,r4)]:List (Int×List Int)),())).bind fun (YC,ad1,t3,aam,aaG,ZE,n,m15,m16,m17,m18,m19,m20,m21,m22,m23,m24,Uf,TS,Uz,TT,Ul,Vx,())=>
    (PG.run m_ ((TT,Ul),(0,(4,(3,(0,(0,(0,(0,(0,(0,(0,(0,(0,(t3,Vx))))))))))))),TS,ad1,([]:List (Int×List Int)),())).bind fun (r7,r8,r9,())=>
    ((bif !(!(decide (r9=0)))then Nr.run m_ (r7,())else some false)).bind fun r10=>
    bif((!(decide (r9=0)))|| !r10)then
     (NH.run m_ (())).bind fun r11=>
     some r11
    else
     (Oc.run m_ (r7,((m15,m16),(m17,(m18,(m19,(m20,(m21,(m22,(m23,m24)))))))),r8,aam,aaG,ZE,())).bind fun (r12,r13,XC,())=>
     ((bif !((((((!(decide (XC.1=1)))||(!(decide (XC.2.1=YC))))||(!(decide (XC.2.2.1=r8))))||(!(decide (r13.2.2.2.2.2.2.1=(ahg.wrap (m22+1))))))||(!(decide (r13.2.2.2.2.2.2.2.1=m23))))||(!(decide (r13.2.2.2.2.2.2.2.2=m24))))then N9.run m_ ((m15,m16),r13.1,())else some false)).bind fun r15=>
     bif(((((((!(decide (XC.1=1)))||(!(decide (XC.2.1=YC))))||(!(decide (XC.2.2.1=r8))))||(!(decide (r13.2.2.2.2.2.2.1=(ahg.wrap (m22+1))))))||(!(decide (r13.2.2.2.2.2.2.2.1=m23))))||(!(decide (r13.2.2.2.2.2.2.2.2=m24))))|| !r15)then
      some false
     else
      (N8.run m_ (r12,XC.2.2.2.1,Uz,())).bind fun (r16,r17,())=>
      bif((!(!(((((!(decide (r17=0)))||(!(decide (r16.1.2.2.2.2.2.2.2.2.2.2.1=t3))))||(!(decide (r16.1.2.2.2.2.2.2.2.2.2.2.2.1=aam))))||(!(decide (r16.1.2.2.2.2.2.2.2.2.2.2.2.2.1=aaG))))||(!(decide (r16.1.2.2.2.1=m17))))))||(vZ (r16.2.2.length:Int)))then
      bif((!(!(((((!(decide (r17=0)))||(!(decide (r16.1.2.2.2.2.2.2.2.2.2.2.1=t3))))||(!(decide (r16.1.2.2.2.2.2.2.2.2.2.2.2.1=aam))))||(!(decide (r16.1.2.2.2.2.2.2.2.2.2.2.2.2.1=aaG))))||(!(decide (r16.1.2.2.2.1=m17))))))||(vZ (ZE.length:Int)))then
      bif((((((!(decide (r17=0)))||(!(decide (r16.1.2.2.2.2.2.2.2.2.2.2.1=t3))))||(!(decide (r16.1.2.2.2.2.2.2.2.2.2.2.2.1=aam))))||(!(decide (r16.1.2.2.2.2.2.2.2.2.2.2.2.2.1=aaG))))||(!(decide (r16.1.2.2.2.1=m17))))||(!(decide ((r16.2.2.length:Int)=(mn (ag3.wrap (n+1)) (ag3.wrap ((ZE.length:Int)-1)))))))then
       some false
      else
       (PS.run m_ (r16.2.1,260,())).bind fun (r18,r19,())=>
       bif((!(decide (r19=0)))||(!(decide (r18=YC))))then
        some false
       else
        bif vZ (r16.2.2.length:Int)then
        (Nc.l2 m_ (r16.2.2,(r16.2.2.length:Int),0,Uf,TS,Uz,r12.1,r12.2,r13.1.1,r13.1.2,r13.2.1,r13.2.2.1,r13.2.2.2.1,r13.2.2.2.2.1,r13.2.2.2.2.2.1,r13.2.2.2.2.2.2.1,r13.2.2.2.2.2.2.2.1,r13.2.2.2.2.2.2.2.2,())).bind fun g_=>match g_ with
        | .inl (t4,())=>
         some t4
        | .inr (())=>
         (NH.run m_ (())).bind fun r20=>
         some r20 else none else none else none else none else none else none else none else none else none
theorem k:KT (O m_) [] ⟨3,[.ag Rz,.ag aa8,.ag Yw,.one .str,.one .str,.one (.int .i64),.one (.int .u64),.one (.int .u64),.one (.int .u64),.one (.lst .str)],.one (.sh (.one .bool)),run m_⟩ [s0 m_,s1 m_,s2 m_]:=fun v_=>match v_ with|(v,x,k,unique,MW,Qu,t,recv,Og,draws,())=>by kernel_rfl
def c:=co (k m_)
end Nc

end
end Go.AM
end
section
namespace Go.AM
def tmS:Nat->Int->Int->Int->Int
 |0,_,_,r=>r
 |n+1,a,b,r=>tmS n (bif decide (Jc .u8 a 128=0)then Jd .u8 a 1 else H8 .u8 (Jd .u8 a 1) 27) (Je .u8 b 1) (bif decide (Jc .u8 b 1=1)then H8 .u8 r a else r)
def tm(a b:Int):Int:=tmS 8 a b 0
theorem adz: ∀n a b r,B8 r->B8 (tmS n a b r)
 |0,_,_,_,h=>h
 |n+1,a,b,r,h=>adz n _ _ _ (by cases decide (Jc .u8 b 1=1)<;>first|exact h|exact Wp _ _)
theorem adf(a b:Int):B8 (tm a b):=adz 8 a b 0 ⟨by decide,by decide⟩
theorem X8(a b:Int):Oa.run .lim (a,b,())=some (tm a b):=by
 have key: ∀(n i:Nat) (a b r:Int),i+n=8->Oa.l0 .lim (a,b,r,(i:Int),())=some (tmS n a b r,()):=by
  intro n
  induction n with
  |zero=>
   intro i a b r h;rw[Oa.q0];simp (disch:=omega) only[NC,Nj,Nq,wrap64,MV,M_,dec_not,dec_and,OV,Oi,cond_true,cond_false,ag4,ahB,ahh,ahr,ahP,ahR,ahp,ahw,ahQ,ahD,ag9,ahb,ahJ,ahi,ahW,if_true,if_false,and_self,true_and,and_true,and_false,false_and,or_true,true_or,or_false,false_or,not_true_eq_false,not_false_eq_true,decide_true,decide_false,eq_self,if_pos,if_neg,PO,Pg,Oa.b0];rfl
  |succ n ih=>
   intro i a b r h;rw[Oa.q0];simp only[Oa.b0,QU i (by omega),ih (i+1) _ _ _ (by omega),MV (show (i:Int)<8 by omega),cond_true];rw[tmS];cases decide (Jc .u8 b 1=1)<;>cases decide (Jc .u8 a 128=0)<;>rfl
 have:=key 8 0 a b 0 rfl;rw[show ((0:Nat):Int)=0 from rfl]at this;simp only[Oa.run,this,ag4];rfl
theorem Zi: ∀n a r,tmS n a 0 r=r
 |0,_,_=>rfl
 |n+1,a,r=>by
  rw[tmS,show Je .u8 0 1=0 from by decide,Zi n];rfl
theorem step_a{a:Int}(h:B8 a):H8 .u8 (Jd .u8 a 1) (aha.wrap (Je .u8 a 7*27))=bif decide (Jc .u8 a 128=0)then Jd .u8 a 1 else H8 .u8 (Jd .u8 a 1) 27:=
 Qa (p:=fun a=>H8 .u8 (Jd .u8 a 1) (aha.wrap (Je .u8 a 7*27))=bif decide (Jc .u8 a 128=0)then Jd .u8 a 1 else H8 .u8 (Jd .u8 a 1) 27) (by decide+kernel) h
theorem aev{b:Int}(h:B8 b):Jc .u8 b 1=0\/Jc .u8 b 1=1:=
 Qa (p:=fun b=>Jc .u8 b 1=0\/Jc .u8 b 1=1) (by decide+kernel) h
theorem aea{a:Int}:B8 (bif decide (Jc .u8 a 128=0)then Jd .u8 a 1 else H8 .u8 (Jd .u8 a 1) 27):=by
 cases decide (Jc .u8 a 128=0)
 ·exact Wp _ _
 ·exact aay _ _
theorem SY{a b:Int}(ha:B8 a)(hb:B8 b):O7.run .lim (a,b,())=some (tm a b):=by
 have key: ∀(n:Nat) (a b r:Int),B8 a->B8 r->0<=b->b<2^n->n<=8->O7.l0 .lim (a,b,r,())=some (tmS n a b r,()):=by
  intro n
  induction n with
  |zero=>
   intro a b r ha hr h0 h1 _;obtain rfl:b=0:=by simp at h1;omega
   rw[O7.q0];simp (disch:=omega) only[NC,Nj,Nq,wrap64,MV,M_,dec_not,dec_and,OV,Oi,cond_true,cond_false,ag4,ahB,ahh,ahr,ahP,ahR,ahp,ahw,ahQ,ahD,ag9,ahb,ahJ,ahi,ahW,if_true,if_false,and_self,true_and,and_true,and_false,false_and,or_true,true_or,or_false,false_or,not_true_eq_false,not_false_eq_true,decide_true,decide_false,eq_self,if_pos,if_neg,PO,Pg,O7.b0];rfl
  |succ n ih=>
   intro a b r ha hr h0 h1 hn;have hb:B8 b:=by
    refine⟨h0,Int.lt_of_lt_of_le h1 ?_⟩;have h2:(2:Int)^(n+1)=((2^(n+1):Nat):Int):=by simp
    have h3:2^(n+1)<=2^8:=ahC (by omega) hn;rw[h2];omega
   rw[O7.q0];by_cases hz:b=0
   ·subst hz;rw[Zi];simp (disch:=omega) only[NC,Nj,Nq,wrap64,MV,M_,dec_not,dec_and,OV,Oi,cond_true,cond_false,ag4,ahB,ahh,ahr,ahP,ahR,ahp,ahw,ahQ,ahD,ag9,ahb,ahJ,ahi,ahW,if_true,if_false,and_self,true_and,and_true,and_false,false_and,or_true,true_or,or_false,false_or,not_true_eq_false,not_false_eq_true,decide_true,decide_false,eq_self,if_pos,if_neg,PO,Pg,O7.b0]
   ·have hs:Je .u8 b 1=b/2:=by rw[ad9];rfl
    have hm:aha.wrap (a*Jc .u8 b 1)=bif decide (Jc .u8 b 1=1)then a else 0:=by
     rcases aev hb with e|e
     ·rw[e];simp;decide
     ·rw[e,Int.mul_one,Tf ha];rfl
    have hx:H8 .u8 r (bif decide (Jc .u8 b 1=1)then a else 0)=bif decide (Jc .u8 b 1=1)then H8 .u8 r a else r:=by
     cases decide (Jc .u8 b 1=1)
     ·exact xor_zero hr
     ·rfl
    have hr':B8 (bif decide (Jc .u8 b 1=1)then H8 .u8 r a else r):=by
     cases decide (Jc .u8 b 1=1)
     ·exact hr
     ·exact Wp _ _
    have h2:=ih _ (Je .u8 b 1) _ (@aea a) hr' (by rw[hs];omega) (by rw[hs,aio]at*;omega) (by omega);simp only[O7.b0,MV (show b>0 by omega),cond_true,step_a ha,hm,hx];rw[h2,tmS]
 have:=key 8 a b 0 ha ⟨by decide,by decide⟩ hb.1 hb.2 (by omega);simp only[O7.run,this,ag4];rfl
def invS:Nat->Int->Int->Int
 |0,r,_=>r
 |n+1,r,s=>invS n (tm r (tm s s)) (tm s s)
def ac4(b n:Int):Int:=KY .u8 (Jd .u8 b n) (Je .u8 b (8-n))
def ac9(b:Int):Int:=H8 .u8 (H8 .u8 (H8 .u8 (H8 .u8 (H8 .u8 (invS 7 1 b) (ac4 (invS 7 1 b) 1)) (ac4 (invS 7 1 b) 2)) (ac4 (invS 7 1 b) 3)) (ac4 (invS 7 1 b) 4)) 99
theorem ZH{b:Int}(hb:B8 b):PI.run .lim (b,())=some (invS 7 1 b):=by
 have key: ∀(n i:Nat) (r s:Int),i+n=7->B8 r->B8 s->PI.l0 .lim (r,s,(i:Int),())=some (invS n r s,()):=by
  intro n
  induction n with
  |zero=>
   intro i r s h _ _;rw[PI.q0];simp (disch:=omega) only[NC,Nj,Nq,wrap64,MV,M_,dec_not,dec_and,OV,Oi,cond_true,cond_false,ag4,ahB,ahh,ahr,ahP,ahR,ahp,ahw,ahQ,ahD,ag9,ahb,ahJ,ahi,ahW,if_true,if_false,and_self,true_and,and_true,and_false,false_and,or_true,true_or,or_false,false_or,not_true_eq_false,not_false_eq_true,decide_true,decide_false,eq_self,if_pos,if_neg,PO,Pg,PI.b0];rfl
  |succ n ih=>
   intro i r s h hr hs;rw[PI.q0];simp only[PI.b0,QU i (by omega),MV (show (i:Int)<7 by omega),cond_true,SY hs hs,ag4,SY hr (adf s s),ih (i+1) _ _ (by omega) (adf _ _) (adf _ _)];rfl
 have:=key 7 0 1 b rfl ⟨by decide,by decide⟩ hb;rw[show ((0:Nat):Int)=0 from rfl]at this;simp only[PI.run,this,ag4]
theorem adJ{b:Int}(hb:B8 b):TP.run .lim (b,())=some (ac9 b):=by
 simp only[TP.run,ZH hb,ag4];have w: ∀n:Int,Tn.run .lim (invS 7 1 b,n,())=bif decide (0<=n)then(bif decide (0<=ag3.wrap (8-n))then some (KY .u8 (Jd .u8 (invS 7 1 b) n) (Je .u8 (invS 7 1 b) (ag3.wrap (8-n))))else none)else none:=fun n=>rfl
 rw[w,w,w,w];rfl
def VZ(b:Int):Int:=ac9 b
theorem Z_{b:Int}(hb:B8 b):TP.run .lim (b,())=some (VZ b):=adJ hb
theorem aau{b:Int}(hb:B8 b):B8 (VZ b):=Wp _ _
noncomputable def sbR(b:Int):Int:=(NV.run (.fuel 0) (b,())).getD 0
theorem aa7: ∀n:Nat,n<256->ac9 n=sbR n:=by decide+kernel
set_option maxRecDepth 20000 in
theorem VE{b:Int}(h:B8 b):NV.run .lim (b,())=some (VZ b):=by
 have h1: ∀b:Int,B8 b-> ∃r,NV.run (.fuel 0) (b,())=some r:=by
  intro b hb;exact⟨_,cond_pos (Nj hb.1 hb.2)⟩
 obtain⟨r,hr⟩:=h1 b h;have:NV.run .lim (b,())=some r:=hr;have hs:sbR b=r:=by unfold sbR;rw[hr];rfl
 rw[this,VZ,Qa (p:=fun b=>ac9 b=sbR b) aa7 h,hs]
end Go.AM
end
section
namespace Go.AM
abbrev z4:List Int:=ag6 4 0
abbrev WO:List Int:=ag6 16 0
abbrev OG:List Int:=ag6 256 0
abbrev kL:List Int:=[1,2,3,9,11,13,14]
theorem adr: ∀k:Nat,k<7->0<=rd 0 kL (k:Int)/\rd 0 kL (k:Int)<16:=by decide
def Ou(k:Nat):List (List Int):=
 let t:=fun j:Int=>RD 256 k fun i=>tm (i:Int) j
 [OG,t 1,t 2,t 3,OG,OG,OG,OG,OG,t 9,OG,t 11,OG,t 13,t 14,OG]
def Wi(i:Nat)(yb:List (List Int)):Nat->List (List Int)
 |0=>yb
 |k+1=>(Wi i yb k).set (rd 0 kL (k:Int)).toNat ((rd OG (Wi i yb k) (rd 0 kL (k:Int))).set i (tm (i:Int) (rd 0 kL (k:Int))))
theorem aap(k:Nat):Wi k (Ou k) 7=Ou (k+1):=by
 have e:Wi k (Ou k) 7=(
  let t:=fun j:Int=>(RD 256 k fun i=>tm (i:Int) j).set k (tm (k:Int) j)
  [OG,t 1,t 2,t 3,OG,OG,OG,OG,OG,t 9,OG,t 11,OG,t 13,t 14,OG]):=rfl
 have h: ∀j:Int,(RD 256 k fun i=>tm (i:Int) j).set k (tm (k:Int) j)=RD 256 (k+1) fun i=>tm (i:Int) j:=fun j=>Sv rfl
 rw[e];simp only[h];rfl
theorem Xp:Ou 0=ag6 16 OG:=by
 unfold Ou;simp only[RJ];rfl
noncomputable def VP:Nat->List Int
 |0=>OG
 |k+1=>(VP k).set (VZ (k:Int)).toNat (k:Int)
noncomputable def RF(k:Nat):List Int:=RD 256 k fun i=>VZ (i:Int)
theorem TW{x:Int}(h:B8 x):rd 0 (RF 256) x=VZ x:=by
 unfold RF;rw[Uj,aal h.1 (by exact h.2),show ((x.toNat:Nat):Int)=x by have:=h.1;omega]
theorem TV{x:Int}(h:B8 x):rd 0 (rd OG (Ou 256) 1) x=tm x 1/\rd 0 (rd OG (Ou 256) 2) x=tm x 2/\rd 0 (rd OG (Ou 256) 3) x=tm x 3:=by
 have e: ∀j:Int,rd 0 (RD 256 256 fun i=>tm (i:Int) j) x=tm x j:=fun j=>by rw[Uj,aal h.1 (by exact h.2),show ((x.toNat:Nat):Int)=x by have:=h.1;omega]
 exact⟨e 1,e 2,e 3⟩
def word(key:List Int)(j:Nat):List Int:=[rd 0 key ((4*j:Nat):Int),rd 0 key ((4*j+1:Nat):Int),rd 0 key ((4*j+2:Nat):Int),rd 0 key ((4*j+3:Nat):Int)]
theorem ado{m:List Int}{k:Nat}(h:k+4<=m.length):(m.drop k).take 4=[rd 0 m (k:Int),rd 0 m ((k+1:Nat):Int),rd 0 m ((k+2:Nat):Int),rd 0 m ((k+3:Nat):Int)]:=by
 rw[Qz (show k<m.length by omega),Qz (show k+1<m.length by omega),Qz (show k+2<m.length by omega),Qz (show k+3<m.length by omega)];rw[aht (show k<m.length by omega),aht (show k+1<m.length by omega),aht (show k+2<m.length by omega),aht (show k+3<m.length by omega)];rfl
theorem Ri{α:Type}(m:List α)(a b:Nat):cut m (a:Int) (b:Int)=(m.drop a).take (b-a):=by unfold cut;rw[ag5,ag5,List.drop_take]
theorem YO{key:List Int}{j:Nat}(h:4*j+4<=key.length):(cut key ((4*j:Nat):Int) ((4*j+4:Nat):Int)).take 4=word key j:=by
 rw[Ri,show 4*j+4-4*j=4 by omega,ah6,Nat.min_self,ado h];rfl
def Words(W:List (List Int)):Prop:= ∀w∈W,w.length=4/\ ∀x∈w,B8 x
theorem Words.at{W:List (List Int)}(h:Words W){i:Nat}(hi:i<W.length):(rd z4 W (i:Int)).length=4/\ ∀x∈rd z4 W (i:Int),B8 x:=h _ (Ol (by omega) (by omega))
theorem Words.byte{W:List (List Int)}(h:Words W){i:Nat}(hi:i<W.length){j:Int}(h0:0<=j)(hj:j<4):B8 (rd 0 (rd z4 W (i:Int)) j):=by
 have:=h.at hi;exact this.2 _ (Ol h0 (by omega))
theorem Ud{W:List (List Int)}(h:Words W):W.flatten.length=4*W.length:=by
 induction W with
 |nil=>rfl
 |cons w W ih=>
  rw[ahN,ag_,ih fun x hx=>h x (.tail _ hx),(h w (.head _)).1,List.length_cons];omega
theorem RU{W:List (List Int)}(h:Words W){i j:Nat}(hi:i<W.length)(hj:j<4):rd 0 W.flatten ((4*i+j:Nat):Int)=rd 0 (rd z4 W (i:Int)) (j:Int):=by
 induction W generalizing i with
 |nil=>simp at hi
 |cons w W ih=>
  have hw:=(h w (.head _)).1;cases i with
  |zero=>
   unfold rd;simp only[ag5,ahN,ahd];rw[ahL (by omega)];simp
  |succ i=>
   have:=ih (fun x hx=>h x (.tail _ hx)) (by simpa using hi);unfold rd at this ⊢
   simp only[ag5,ahN,ahd]at this ⊢
   rw[List.getElem?_append_right (by omega),show 4*(i+1)+j-w.length=4*i+j by omega,this];simp
noncomputable def aaD(nk:Nat)(i:Nat)(x:Int)(t:List Int):List Int:=
 if i%nk=0 then [H8 .u8 (VZ (rd 0 t 1)) x,VZ (rd 0 t 2),VZ (rd 0 t 3),VZ (rd 0 t 0)]
 else if nk=8/\i%8=4 then [VZ (rd 0 t 0),VZ (rd 0 t 1),VZ (rd 0 t 2),VZ (rd 0 t 3)]
 else [rd 0 t 0,rd 0 t 1,rd 0 t 2,rd 0 t 3]
def XA(t w:List Int):List Int:=[H8 .u8 (rd 0 t 0) (rd 0 w 0),H8 .u8 (rd 0 t 1) (rd 0 w 1),H8 .u8 (rd 0 t 2) (rd 0 w 2),H8 .u8 (rd 0 t 3) (rd 0 w 3)]
noncomputable def stepW(nk:Nat)(s:List (List Int)×Int):List (List Int)×Int:=
 (s.1++[XA (aaD nk s.1.length s.2 (rd z4 s.1 ((s.1.length-1:Nat):Int))) (rd z4 s.1 ((s.1.length-nk:Nat):Int))],if s.1.length%nk=0 then tm s.2 2 else s.2)
noncomputable def sched(nk:Nat)(key:List Int):Nat->List (List Int)×Int
 |0=>((ahm nk).map (word key),1)
 |k+1=>stepW nk (sched nk key k)
theorem Ug(nk:Nat)(key:List Int): ∀k,(sched nk key k).1.length=nk+k
 |0=>by simp[sched]
 |k+1=>by rw[sched,stepW,ag_,Ug nk key k];rfl
theorem WM(t w:List Int):(XA t w).length=4/\ ∀x∈XA t w,B8 x:=by
 refine⟨rfl,fun x hx=> ?_⟩;simp only[XA,ahE,ahA,or_false]at hx;rcases hx with rfl|rfl|rfl|rfl<;>exact Wp _ _
theorem UU(nk:Nat)(key:List Int)(hk:4*nk<=key.length)(hb: ∀x∈key,B8 x): ∀k,Words (sched nk key k).1/\B8 (sched nk key k).2
 |0=>by
  refine⟨fun w hw=> ?_,show B8 1 from⟨by decide,by decide⟩⟩;obtain⟨j,hj,rfl⟩:=aie.1 hw;have hj:=ahM.1 hj;refine⟨rfl,fun x hx=> ?_⟩;simp only[word,ahE,ahA,or_false]at hx;rcases hx with rfl|rfl|rfl|rfl<;>exact hb _ (Ol (by omega) (by omega))
 |k+1=>by
  obtain⟨h1,h2⟩:=UU nk key hk hb k;refine⟨fun w hw=> ?_,?_⟩
  ·rcases aij.1 hw with hw|hw
   ·exact h1 w hw
   ·rw[List.mem_singleton.1 hw];exact WM _ _
  ·show B8 (if _ then tm _ 2 else _);split
   ·exact adf _ _
   ·exact h2
noncomputable def QD(key:List Int):List (List Int):=(sched (key.length/4) key (3*(key.length/4)+28)).1
theorem T_(key:List Int):(QD key).length=4*(key.length/4)+28:=by unfold QD;rw[Ug];omega
theorem U4(key:List Int)(hb: ∀x∈key,B8 x):Words (QD key):=(UU _ key (by omega) hb _).1
def TD(W:List (List Int))(j:Nat):List Int:=rd z4 W ((4*j:Nat):Int)++(rd z4 W ((4*j+1:Nat):Int)++(rd z4 W ((4*j+2:Nat):Int)++rd z4 W ((4*j+3:Nat):Int)))
def PD(W:List (List Int)):List (List Int):=(ahm (W.length/4)).map (TD W)
theorem VB{W:List (List Int)}(h:Words W){j:Nat}(hj:4*j+3<W.length):(TD W j).length=16:=by
 unfold TD;simp only[ag_,(h.at (show 4*j<W.length by omega)).1,(h.at (show 4*j+1<W.length by omega)).1,(h.at (show 4*j+2<W.length by omega)).1,(h.at hj).1]
theorem WC{W:List (List Int)}(h:Words W){i:Nat}(hi:i<W.length):(W.flatten.drop (4*i)).take 4=rd z4 W (i:Int):=by
 have hl:=Ud h;rw[ado (by omega),list4 (h.at hi).1];have:=RU h hi (j:=0) (by omega);rw[show 4*i+0=4*i from rfl]at this;rw[this,RU h hi (j:=1) (by omega),RU h hi (j:=2) (by omega),RU h hi (j:=3) (by omega)];rfl
theorem YN{W:List (List Int)}(h:Words W){j:Nat}(hj:4*j+3<W.length):cut W.flatten ((16*j:Nat):Int) ((16*j+16:Nat):Int)=TD W j:=by
 have hl:=Ud h;have e0:=WC h (show 4*j<W.length by omega);have e1:=WC h (show 4*j+1<W.length by omega);have e2:=WC h (show 4*j+2<W.length by omega);have e3:=WC h hj;rw[show 4*(4*j)=16*j by omega]at e0;rw[show 4*(4*j+1)=16*j+4 by omega]at e1;rw[show 4*(4*j+2)=16*j+8 by omega]at e2;rw[show 4*(4*j+3)=16*j+12 by omega]at e3;rw[Ri,show 16*j+16-16*j=4+(4+(4+4)) by omega,aia,aia,aia,ah5,ah5,ah5];unfold TD;rw[e0,e1,show 16*j+4+4=16*j+8 by omega,e2,show 16*j+8+4=16*j+12 by omega,e3]
noncomputable def TI(b:List Int):List Int:=tab 16 fun i=>VZ (rd 0 b (((i+4*(i%4))%16:Nat):Int))
def R_(b:List Int):List Int:=tab 16 fun i=>
 H8 .u8 (H8 .u8 (H8 .u8 (H8 .u8 0 (tm (rd 0 b ((i/4*4+i%4:Nat):Int)) 2)) (tm (rd 0 b ((i/4*4+(i+1)%4:Nat):Int)) 3)) (tm (rd 0 b ((i/4*4+(i+2)%4:Nat):Int)) 1)) (tm (rd 0 b ((i/4*4+(i+3)%4:Nat):Int)) 1)
def UA(b k:List Int):List Int:=tab 16 fun i=>H8 .u8 (rd 0 b (i:Int)) (rd 0 k (i:Int))
noncomputable def ZX(last:Bool)(b k:List Int):List Int:=UA (bif last then TI b else R_ (TI b)) k
noncomputable def Tt(W:List (List Int))(b:List Int):Nat->List Int
 |0=>UA b (TD W 0)
 |j+1=>ZX (decide (j+2=W.length/4)) (Tt W b j) (TD W (j+1))
noncomputable def encS(key b:List Int):List Int:=Tt (QD key) b ((QD key).length/4-1)
def V6(b:List Int):Prop:=b.length=16/\ ∀x∈b,B8 x
theorem Yc{n:Nat}{g:Nat->Int}(h: ∀k,k<n->B8 (g k)): ∀x∈tab n g,B8 x:=by
 intro x hx;obtain⟨i,hi,rfl⟩:=aie.1 hx;exact h i (ahM.1 hi)
theorem Y9(b k:List Int):V6 (UA b k):=⟨P7,Yc fun _ _=>Wp _ _⟩
theorem WB(W:List (List Int))(b:List Int): ∀j,V6 (Tt W b j)
 |0=>Y9 _ _
 |_+1=>Y9 _ _
theorem SH(key b:List Int):V6 (encS key b):=WB _ _ _
theorem V6.at{b:List Int}(h:V6 b){i:Nat}(hi:i<16):B8 (rd 0 b (i:Int)):=h.2 _ (Ol (by omega) (by rw[h.1];omega))
end Go.AM
end
section
namespace Go.AM
theorem afu(a b c d:Int):rd 0 [a,b,c,d] 0=a:=rfl
theorem afv(a b c d:Int):rd 0 [a,b,c,d] 1=b:=rfl
theorem afw(a b c d:Int):rd 0 [a,b,c,d] 2=c:=rfl
theorem afx(a b c d:Int):rd 0 [a,b,c,d] 3=d:=rfl
theorem VT{α:Type}{d:α}{a b:List α}{k:Nat}(h:k<a.length):rd d (a++b) (k:Int)=rd d a (k:Int):=by unfold rd;rw[ag5,ahd,ahd,ahL h]
theorem Z9{key:List Int}{q:Nat}(h:key.length=4*q)(hb: ∀x∈key,B8 x):((ahm q).map (word key)).flatten=key:=by
 have hW:Words ((ahm q).map (word key)):=by
  intro w hw;obtain⟨j,hj,rfl⟩:=aie.1 hw;have hj:=ahM.1 hj;refine⟨rfl,fun x hx=> ?_⟩;simp only[word,ahE,ahA,or_false]at hx;rcases hx with rfl|rfl|rfl|rfl<;>exact hb _ (Ol (by omega) (by omega))
 have hl:=Ud hW;rw[List.length_map,List.length_range]at hl;refine VU (d:=0) (by omega) fun k hk=> ?_
 have hi:k/4<((ahm q).map (word key)).length:=by simp;omega
 have:=RU hW hi (j:=k%4) (by omega);rw[show 4*(k/4)+k%4=k by omega]at this;rw[this,Qz hi];simp only[List.getElem_map,List.getElem_range,word];rcases (show k%4=0\/k%4=1\/k%4=2\/k%4=3 by omega)with e|e|e|e<;>rw[e]
 ·show rd 0 key ((4*(k/4):Nat):Int)=_;congr 2;omega
 ·show rd 0 key ((4*(k/4)+1:Nat):Int)=_;congr 2;omega
 ·show rd 0 key ((4*(k/4)+2:Nat):Int)=_;congr 2;omega
 ·show rd 0 key ((4*(k/4)+3:Nat):Int)=_;congr 2;omega
theorem ac6{W:List (List Int)}(hW:Words W){i nk:Nat}{c:Int}{t:List Int}(h1:nk<=i)(h2:i=W.length)(h3:0<nk)(h4:i<1000)(ht:t.length=4):
  Nv.l0 .lim ((nk:Int),c,(i:Int),0,W.flatten,t,())=some ((nk:Int),c,(i:Int),W.flatten++XA t (rd z4 W ((i-nk:Nat):Int)),()):=by
 have hl:=Ud hW;have hx: ∀k:Nat,k<4->rd 0 (XA t (rd z4 W ((i-nk:Nat):Int))) (k:Int)=H8 .u8 (rd 0 t (k:Int)) (rd 0 (rd z4 W ((i-nk:Nat):Int)) (k:Int)):=by
  intro k hk;rcases (show k=0\/k=1\/k=2\/k=3 by omega)with rfl|rfl|rfl|rfl<;>rfl
 have e:=Oh (f:=Nv.l0 .lim) (fun k=>((nk:Int),c,(i:Int),(k:Int),W.flatten++(XA t (rd z4 W ((i-nk:Nat):Int))).take k,t,())) (n:=4) (fun k hk=>by
  rw[Nv.q0];have w1:ag3.wrap (4*ag3.wrap ((i:Int)-(nk:Int)))=((4*(i-nk):Nat):Int):=by rw[wrap64 (n:=(i:Int)-(nk:Int)) (by omega) (by omega),wrap64 (by omega) (by omega)];omega
  have w2:ag3.wrap (((4*(i-nk):Nat):Int)+(k:Int))=((4*(i-nk)+k:Nat):Int):=by rw[wrap64 (by omega) (by omega)];omega
  have hr:=RU hW (i:=i-nk) (j:=k) (by omega) hk;have ha:rd 0 (W.flatten++(XA t (rd z4 W ((i-nk:Nat):Int))).take k) ((4*(i-nk)+k:Nat):Int)=rd 0 (rd z4 W ((i-nk:Nat):Int)) (k:Int):=by rw[VT (by omega),hr]
  have hlen:(W.flatten++(XA t (rd z4 W ((i-nk:Nat):Int))).take k).length=4*i+k:=by rw[ag_,hl,ahc,(WM _ _).1];omega
  simp only[Nv.b0,MV (show (k:Int)<4 by omega),w1,w2,ha,hlen,Nj (show (0:Int)<=((4*(i-nk)+k:Nat):Int) by omega) (show ((4*(i-nk)+k:Nat):Int)<((4*i+k:Nat):Int) by omega),Nj (show (0:Int)<=k by omega) (show (k:Int)<(t.length:Int) by omega),cond_true,QU k (by omega)];rw[cond_pos (by simp;omega),Vb (d:=(0:Int)) (by rw[(WM _ _).1];omega),hx k hk,xor_comm,ahy])
 rw[ah7,aif,show ((0:Nat):Int)=0 from rfl]at e;rw[e,ahf (by rw[(WM _ _).1];omega),Nv.q0];simp only[Nv.b0,M_ (show ¬((4:Nat):Int)<4 by decide),cond_false]
theorem X_{key:List Int}(hk:key.length=16\/key.length=32)(hb: ∀x∈key,B8 x):Nv.run .lim (key,())=some (QD key).flatten:=by
 have hd:(key.length:Int).tdiv 4=((key.length/4:Nat):Int):=by rw[ahl (ag8 _)];simp
 have w0:ag3.wrap ((key.length:Int).tdiv 4)=((key.length/4:Nat):Int):=by rw[hd,wrap64 (by omega) (by omega)]
 generalize hnk:key.length/4=nk at w0;have hn:nk=4\/nk=8:=by omega
 have e:=Oh (f:=Nv.l1 .lim) (fun k=>((nk:Int),(sched nk key k).2,((nk+k:Nat):Int),(sched nk key k).1.flatten,())) (n:=3*nk+28) (fun k hkq=>by
  rw[Nv.q1];obtain⟨hW,hx⟩:=UU nk key (by omega) hb k;have hl:=Ug nk key k;have hs:sched nk key (k+1)=stepW nk (sched nk key k):=rfl;rw[hs];unfold stepW;generalize hq:sched nk key k=q at hW hx hl;obtain⟨W,x⟩:=q;simp only at hW hx hl ⊢
  have hi0:nk+k<1000:=by omega
  generalize hi:nk+k=i at hl hi0;have hw:=hW.at (show i-1<W.length by omega);have hfl:=Ud hW;have hb0:=hW.byte (show i-1<W.length by omega) (j:=0) (by omega) (by omega);have hb1:=hW.byte (show i-1<W.length by omega) (j:=1) (by omega) (by omega);have hb2:=hW.byte (show i-1<W.length by omega) (j:=2) (by omega) (by omega);have hb3:=hW.byte (show i-1<W.length by omega) (j:=3) (by omega) (by omega);have f0:=RU hW (show i-1<W.length by omega) (j:=0) (by omega);have f1:=RU hW (show i-1<W.length by omega) (j:=1) (by omega);have f2:=RU hW (show i-1<W.length by omega) (j:=2) (by omega);have f3:=RU hW (show i-1<W.length by omega) (j:=3) (by omega);rw[show 4*(i-1)+0=4*i-4 by omega,show ((0:Nat):Int)=0 from rfl]at f0;rw[show 4*(i-1)+1=4*i-3 by omega,show ((1:Nat):Int)=1 from rfl]at f1;rw[show 4*(i-1)+2=4*i-2 by omega,show ((2:Nat):Int)=2 from rfl]at f2;rw[show 4*(i-1)+3=4*i-1 by omega,show ((3:Nat):Int)=3 from rfl]at f3;have w1:ag3.wrap (4*ag3.wrap ((nk:Int)+7))=((4*nk+28:Nat):Int):=by rw[wrap64 (n:=(nk:Int)+7) (by omega) (by omega),wrap64 (by omega) (by omega)];omega
  have w2:ag3.wrap (4*(i:Int))=((4*i:Nat):Int):=by rw[wrap64 (by omega) (by omega)];omega
  have w4:ag3.wrap (((4*i:Nat):Int)-4)=((4*i-4:Nat):Int):=by rw[wrap64 (by omega) (by omega)];omega
  have w5:ag3.wrap (((4*i:Nat):Int)-3)=((4*i-3:Nat):Int):=by rw[wrap64 (by omega) (by omega)];omega
  have w6:ag3.wrap (((4*i:Nat):Int)-2)=((4*i-2:Nat):Int):=by rw[wrap64 (by omega) (by omega)];omega
  have w7:ag3.wrap (((4*i:Nat):Int)-1)=((4*i-1:Nat):Int):=by rw[wrap64 (by omega) (by omega)];omega
  have m1:((i:Int)).tmod (nk:Int)=((i%nk:Nat):Int):=by rw[ag7 (ag8 i)];simp
  have m2:((i:Int)).tmod 8=((i%8:Nat):Int):=by rw[ag7 (ag8 i)];simp
  have Xd:=fun c t ht=>ac6 (c:=c) (t:=t) hW (i:=i) (nk:=nk) (by omega) (by omega) (by omega) (by omega) ht
  have hin: ∀j:Nat,1<=j->j<=4->inB ((4*i-j:Nat):Int) (W.flatten.length:Int)=true:=fun j h1 h2=>Nj (by omega) (by omega)
  simp only[Nv.b1,w1,w2,w4,w5,w6,w7,MV (show (i:Int)<((4*nk+28:Nat):Int) by omega),hin 4 (by omega) (by omega),hin 3 (by omega) (by omega),hin 2 (by omega) (by omega),hin 1 (by omega) (by omega),M_ (show ¬(nk:Int)=0 by omega),m1,m2,cond_true,ahb,ahh,f0,f1,f2,f3,afu,afv,afw,afx,VE hb0,VE hb1,VE hb2,VE hb3,ag4,X8];have hi4: ∀(a b c d:Int) (j:Int),0<=j->j<4->inB j (([a,b,c,d]:List Int).length:Int)=true:=fun a b c d j h1 h2=>Nj h1 h2
  simp only[hi4 _ _ _ _ 0 (by omega) (by omega),hi4 _ _ _ _ 1 (by omega) (by omega),hi4 _ _ _ _ 2 (by omega) (by omega),hi4 _ _ _ _ 3 (by omega) (by omega),cond_true];rw[hl];unfold aaD;have hfa: ∀v:List Int,(W++[v]).flatten=W.flatten++v:=fun v=>by simp
  rw[hfa];by_cases c1:i%nk=0
  ·rw[MV (show ((i%nk:Nat):Int)=0 by omega),if_pos c1,if_pos c1];simp only[cond_true];rw[Xd _ _ rfl];simp only[ag4,QU i (by omega)];rw[show i+1=nk+(k+1) by omega]
  ·rw[M_ (show ¬((i%nk:Nat):Int)=0 by omega),if_neg c1,if_neg c1];simp only[cond_false];by_cases c2:nk=8/\i%8=4
   ·rw[MV (show (nk:Int)=8 by omega),MV (show ((i%8:Nat):Int)=4 by omega),if_pos c2];simp only[ahi,cond_true];rw[Xd _ _ rfl];simp only[ag4,QU i (by omega)];rw[show i+1=nk+(k+1) by omega]
   ·have:(decide ((nk:Int)=8)&&decide (((i%8:Nat):Int)=4))=false:=by
     by_cases c3:nk=8
     ·rw[M_ (show ¬((i%8:Nat):Int)=4 by omega),ahp]
     ·rw[M_ (show ¬(nk:Int)=8 by omega),ahw]
    rw[this,if_neg c2];simp only[cond_false];rw[Xd _ _ rfl];simp only[ag4,QU i (by omega)];rw[show i+1=nk+(k+1) by omega])
 have hs0:(sched nk key 0).1.flatten=key:=Z9 (by omega) hb;rw[hs0,show (sched nk key 0).2=1 from rfl,ahz]at e;have w1:ag3.wrap (4*ag3.wrap ((nk:Int)+7))=((4*nk+28:Nat):Int):=by rw[wrap64 (n:=(nk:Int)+7) (by omega) (by omega),wrap64 (by omega) (by omega)];omega
 simp only[Nv.run,Nh (show key.length<9223372036854775808 by omega),cond_true,w0,e];rw[Nv.q1];simp only[Nv.b1,w1,M_ (show ¬((nk+(3*nk+28):Nat):Int)<((4*nk+28:Nat):Int) by omega),cond_false,ag4];unfold QD;rw[hnk]
theorem aa9{b:List Int}(hb:b.length=16):Ny.run .lim (b,false,())=some (tab 16 fun i=>rd 0 b (((i+4*(i%4))%16:Nat):Int)):=by
 have inner: ∀c:Nat,c<4->Ny.l0 .lim (b,false,(c:Int),0,RD 16 (4*c) (fun i=>rd 0 b (((i+4*(i%4))%16:Nat):Int)),())=some (b,false,(c:Int),RD 16 (4*c+4) (fun i=>rd 0 b (((i+4*(i%4))%16:Nat):Int)),()):=by
  intro c hc;have e:=Oh (f:=Ny.l0 .lim) (fun r=>(b,false,(c:Int),(r:Int),RD 16 (4*c+r) (fun i=>rd 0 b (((i+4*(i%4))%16:Nat):Int)),())) (n:=4) (fun r hr=>by
   rw[Ny.q0];have w1:ag3.wrap (4*(c:Int))=((4*c:Nat):Int):=by rw[wrap64 (by omega) (by omega)];omega
   have w2:ag3.wrap (((4*c:Nat):Int)+(r:Int))=((4*c+r:Nat):Int):=by rw[wrap64 (by omega) (by omega)];omega
   have w3:ag3.wrap ((c:Int)+(r:Int))=((c+r:Nat):Int):=by rw[wrap64 (by omega) (by omega)];omega
   have m1:(((c+r:Nat):Int)).tmod 4=(((c+r)%4:Nat):Int):=by rw[ag7 (ag8 _)];simp
   have w4:ag3.wrap (4*(((c+r)%4:Nat):Int))=((4*((c+r)%4):Nat):Int):=by rw[wrap64 (by omega) (by omega)];omega
   have w5:ag3.wrap (((4*((c+r)%4):Nat):Int)+(r:Int))=((4*((c+r)%4)+r:Nat):Int):=by rw[wrap64 (by omega) (by omega)];omega
   simp only[Ny.b0,MV (show (r:Int)<4 by omega),w1,w2,w3,m1,w4,w5,hb,U1,Nj (show (0:Int)<=((4*((c+r)%4)+r:Nat):Int) by omega) (show ((4*((c+r)%4)+r:Nat):Int)<((16:Nat):Int) by omega),Nj (show (0:Int)<=((4*c+r:Nat):Int) by omega) (show ((4*c+r:Nat):Int)<((16:Nat):Int) by omega),cond_true,cond_false,QU r (by omega),ag5];rw[Sv]
   ·rfl
   ·congr 2;omega)
  rw[show ((0:Nat):Int)=0 from rfl,ahz]at e;rw[e,Ny.q0];simp only[Ny.b0,M_ (show ¬((4:Nat):Int)<4 by decide),cond_false]
 have e:=Oh (f:=Ny.l1 .lim) (fun c=>(b,false,(c:Int),RD 16 (4*c) (fun i=>rd 0 b (((i+4*(i%4))%16:Nat):Int)),())) (n:=4) (fun c hc=>by
  rw[Ny.q1];simp only[Ny.b1,MV (show (c:Int)<4 by omega),cond_true,inner c hc,ag4,QU c (by omega)];rfl)
 rw[show ((0:Nat):Int)=0 from rfl,air,RJ]at e;simp only[Ny.run,show ah0 16 70368744177664=true from rfl,cond_true,e];rw[Ny.q1];simp only[Ny.b1,M_ (show ¬((4:Nat):Int)<4 by decide),cond_false,ag4];rw[show 4*4=16 from rfl,Uj]
theorem abM{b:List Int}(hb:b.length=16):Np.run .lim (b,[2,3,1,1],())=some (R_ b):=by
 have cell: ∀c r:Nat,c<4->r<4->Np.l0 .lim (b,[2,3,1,1],(c:Int),(r:Int),0,RD 16 (4*c+r) (fun i=>rd 0 (R_ b) (i:Int)),())=some (b,[2,3,1,1],(c:Int),(r:Int),RD 16 (4*c+r+1) (fun i=>rd 0 (R_ b) (i:Int)),()):=by
  intro c r hc hr;have h4: ∀j:Nat,j<4->ag3.wrap (ag3.wrap (4*(c:Int))+(ag3.wrap ((r:Int)+(j:Int))).tmod 4)=(((4*c+r)/4*4+(4*c+r+j)%4:Nat):Int):=by
   intro j hj;have d2:ag3.wrap ((r:Int)+(j:Int))=((r+j:Nat):Int):=by rw[wrap64 (by omega) (by omega)];omega
   have d3:(((r+j:Nat):Int)).tmod 4=(((r+j)%4:Nat):Int):=by rw[ag7 (ag8 _)];simp
   rw[d2,d3,wrap64 (n:=4*(c:Int)) (by omega) (by omega),wrap64 (by omega) (by omega)];omega
  have w2:ag3.wrap (ag3.wrap (4*(c:Int))+(r:Int))=((4*c+r:Nat):Int):=by rw[wrap64 (n:=4*(c:Int)) (by omega) (by omega),wrap64 (by omega) (by omega)];omega
  have step: ∀(k:Int) (k':Int) (cf:Int) (q:Nat) (m:List Int),m.length=16->0<=k->k<4->rd 0 ([2,3,1,1]:List Int) k=cf->ag3.wrap (k+1)=k'->ag3.wrap (ag3.wrap (4*(c:Int))+(ag3.wrap ((r:Int)+k)).tmod 4)=(q:Int)->q<16->
    Np.l0 .lim (b,[2,3,1,1],(c:Int),(r:Int),k,m,())=Np.l0 .lim (b,[2,3,1,1],(c:Int),(r:Int),k',m.set (4*c+r) (H8 .u8 (rd 0 m ((4*c+r:Nat):Int)) (tm (rd 0 b (q:Int)) cf)),()):=by
   intro k k' cf q m hm h1 h2 h3 h4 h5 h6;rw[Np.q0];simp only[Np.b0,MV h2,w2,h5,hm,hb,Nj (show (0:Int)<=((4*c+r:Nat):Int) by omega) (show ((4*c+r:Nat):Int)<((16:Nat):Int) by omega),Nj (show (0:Int)<=(q:Int) by omega) (show (q:Int)<((16:Nat):Int) by omega),Nj h1 (show k<((([2,3,1,1]:List Int).length:Nat):Int)from h2),h3,h4,X8,ag4,cond_true,ag5]
  have g0:=h4 0 (by omega);have g1:=h4 1 (by omega);have g2:=h4 2 (by omega);have g3:=h4 3 (by omega);rw[show ((0:Nat):Int)=0 from rfl]at g0;rw[show ((1:Nat):Int)=1 from rfl]at g1;rw[show ((2:Nat):Int)=2 from rfl]at g2;rw[show ((3:Nat):Int)=3 from rfl]at g3;rw[step 0 1 2 _ _ U1 (by omega) (by omega) rfl rfl g0 (by omega)];rw[step 1 2 3 _ _ (by simp) (by omega) (by omega) rfl rfl g1 (by omega)];rw[step 2 3 1 _ _ (by simp) (by omega) (by omega) rfl rfl g2 (by omega)];rw[step 3 4 1 _ _ (by simp) (by omega) (by omega) rfl rfl g3 (by omega)];rw[Np.q0];simp only[Np.b0,M_ (show ¬(4:Int)<4 by omega),cond_false];generalize hm:RD 16 (4*c+r) (fun i=>rd 0 (R_ b) (i:Int))=m;have hml:m.length=16:=by rw[<-hm,U1]
  have hl: ∀v,4*c+r<(m.set (4*c+r) v).length:=fun v=>by simp[hml];omega
  have h0:rd 0 m ((4*c+r:Nat):Int)=0:=by rw[<-hm,acW (by omega)]
  simp only[Ur (show 4*c+r<m.length by omega),Ur (hl _),ahK,h0];rw[<-hm,Sv];unfold R_;rw[Rt (by omega)];simp only[ahz]
 have inner: ∀c:Nat,c<4->Np.l1 .lim (b,[2,3,1,1],(c:Int),0,RD 16 (4*c) (fun i=>rd 0 (R_ b) (i:Int)),())=some (b,[2,3,1,1],(c:Int),RD 16 (4*c+4) (fun i=>rd 0 (R_ b) (i:Int)),()):=by
  intro c hc;have e:=Oh (f:=Np.l1 .lim) (fun r=>(b,[2,3,1,1],(c:Int),(r:Int),RD 16 (4*c+r) (fun i=>rd 0 (R_ b) (i:Int)),())) (n:=4) (fun r hr=>by
   rw[Np.q1];simp only[Np.b1,MV (show (r:Int)<4 by omega),cond_true,cell c r hc hr,ag4,QU r (by omega)];rfl)
  rw[show ((0:Nat):Int)=0 from rfl,ahz]at e;rw[e,Np.q1];simp only[Np.b1,M_ (show ¬((4:Nat):Int)<4 by decide),cond_false]
 have e:=Oh (f:=Np.l2 .lim) (fun c=>(b,[2,3,1,1],(c:Int),RD 16 (4*c) (fun i=>rd 0 (R_ b) (i:Int)),())) (n:=4) (fun c hc=>by
  rw[Np.q2];simp only[Np.b2,MV (show (c:Int)<4 by omega),cond_true,inner c hc,ag4,QU c (by omega)];rfl)
 rw[show ((0:Nat):Int)=0 from rfl,air,RJ]at e;simp only[Np.run,show ah0 16 70368744177664=true from rfl,cond_true,e];rw[Np.q2];simp only[Np.b2,M_ (show ¬((4:Nat):Int)<4 by decide),cond_false,ag4];rw[show 4*4=16 from rfl,Uj,<-Xy (m:=R_ b) P7]
theorem aaX{b w w1:List Int}(hb:b.length=16)(hw:w.length=16):Na.l0 .lim (w,0,w1,b,())=some (w1,UA b w,()):=by
 have e:=PY (f:=Na.l0 .lim) (fun k b=>(w,(k:Int),w1,b,())) (fun k v=>H8 .u8 v (rd 0 w (k:Int))) b hb (fun k hk m' hm hj=>by
  rw[Na.q0];simp only[Na.b0,MV (show (k:Int)<16 by omega),hm,hw,Nj (show (0:Int)<=k by omega) (show (k:Int)<((16:Nat):Int) by omega),cond_true,QU k (by omega),hj k (ahk _),ag5])
 refine(show _=_ from e).trans ?_;rw[Na.q0];simp only[Na.b0,M_ (show ¬((16:Nat):Int)<16 by decide),cond_false];rfl
theorem Zb{b w w1:List Int}{i1:Int}(hb:b.length=16)(hw:w.length=16):Na.l2 .lim (w,0,w1,i1,b,())=some (w1,i1,UA b w,()):=by
 have e:=PY (f:=Na.l2 .lim) (fun k b=>(w,(k:Int),w1,i1,b,())) (fun k v=>H8 .u8 v (rd 0 w (k:Int))) b hb (fun k hk m' hm hj=>by
  rw[Na.q2];simp only[Na.b2,MV (show (k:Int)<16 by omega),hm,hw,Nj (show (0:Int)<=k by omega) (show (k:Int)<((16:Nat):Int) by omega),cond_true,QU k (by omega),hj k (ahk _),ag5])
 refine(show _=_ from e).trans ?_;rw[Na.q2];simp only[Na.b2,M_ (show ¬((16:Nat):Int)<16 by decide),cond_false];rfl
theorem ab8{b w:List Int}{i:Int}(hb:V6 b):Na.l1 .lim (w,i,0,b,())=some (w,i,tab 16 (fun i=>VZ (rd 0 b (i:Int))),()):=by
 have e:=PY (f:=Na.l1 .lim) (fun k b=>(w,i,(k:Int),b,())) (fun k v=>VZ v) b hb.1 (fun k hk m' hm hj=>by
  rw[Na.q1];simp only[Na.b1,MV (show (k:Int)<16 by omega),hm,Nj (show (0:Int)<=k by omega) (show (k:Int)<((16:Nat):Int) by omega),cond_true,QU k (by omega),hj k (ahk _),VE (hb.at hk),ag4,ag5])
 refine(show _=_ from e).trans ?_;rw[Na.q1];simp only[Na.b1,M_ (show ¬((16:Nat):Int)<16 by decide),cond_false]
theorem aa3(b:List Int):(tab 16 fun i=>rd 0 (tab 16 fun i=>VZ (rd 0 b (i:Int))) (((i+4*(i%4))%16:Nat):Int))=TI b:=P_ fun k hk=>by rw[Rt (by omega)]
theorem Za{W:List (List Int)}{b:List Int}{r:Nat}(hW:Words W)(hl:W.length=4*(r+1))(hr:r<=100)(hr0:0<r)(hb:b.length=16):Na.run .lim (W.flatten,b,())=some (Tt W b r):=by
 have hfl:=Ud hW;have h0:=YN hW (j:=0) (by omega);rw[show ((16*0:Nat):Int)=0 from rfl,show ((16*0+16:Nat):Int)=16 from rfl]at h0;have e:=Oh (f:=Na.l3 .lim) (fun k=>(W.flatten,((16*(k+1):Nat):Int),Tt W b k,())) (n:=r) (fun k hk=>by
  rw[Na.q3];have hB:=WB W b k;have hc:=YN hW (j:=k+1) (by omega);have hkl:=VB hW (j:=k+1) (by omega);have w1:ag3.wrap (((16*(k+1):Nat):Int)+16)=((16*(k+1)+16:Nat):Int):=by rw[wrap64 (by omega) (by omega)];omega
  have hlast:decide (((16*(k+1)+16:Nat):Int)<(W.flatten.length:Int))= !decide (k+2=W.length/4):=by
   by_cases h:k+1=r
   ·rw[M_ (by omega),MV (by omega)];rfl
   ·rw[MV (by omega),M_ (by omega)];rfl
  simp only[Na.b3,Nh (show W.flatten.length<9223372036854775808 by omega),MV (show ((16*(k+1):Nat):Int)<(W.flatten.length:Int) by omega),cond_true,ab8 hB,ag4,aa9 P7,aa3,w1,hlast,Nq (show (0:Int)<=((16*(k+1):Nat):Int) by omega) (show ((16*(k+1):Nat):Int)<=((16*(k+1)+16:Nat):Int) by omega) (show ((16*(k+1)+16:Nat):Int)<=(W.flatten.length:Int) by omega),hc];have hsl:(TI (Tt W b k)).length=16:=P7;have hml:(R_ (TI (Tt W b k))).length=16:=P7;show _=Na.l3 .lim (W.flatten,((16*(k+1+1):Nat):Int),ZX (decide (k+2=W.length/4)) (Tt W b k) (TD W (k+1)),());unfold ZX;cases decide (k+2=W.length/4)with
  |true=>
   simp only[ag9,cond_false,cond_true];rw[Zb hsl hkl];simp only[ag4,w1];rfl
  |false=>
   simp only[ahb,cond_false,cond_true,abM hsl,ag4];rw[Zb hml hkl];simp only[ag4,w1];rfl)
 simp only[Na.run];rw[cond_pos (Nq (by omega) (by omega) (by omega)),h0,aaX hb (VB hW (by omega))];simp only[ag4];rw[show Tt W b 0=UA b (TD W 0)from rfl,show ((16*(0+1):Nat):Int)=16 from rfl]at e;rw[e,Na.q3];simp only[Na.b3,Nh (show W.flatten.length<9223372036854775808 by omega),M_ (show ¬((16*(r+1):Nat):Int)<(W.flatten.length:Int) by omega),cond_true,cond_false,ag4]
theorem aan{key b:List Int}(hk:key.length=16\/key.length=32)(hb: ∀x∈key,B8 x)(hl:b.length=16):Na.run .lim ((QD key).flatten,b,())=some (encS key b):=by
 have h1:=T_ key;rw[Za (r:=key.length/4+6) (U4 key hb) (by omega) (by omega) (by omega) hl];unfold encS;rw[show (QD key).length/4-1=key.length/4+6 by omega]
end Go.AM
end
section
namespace Go.AM
section
variable {ok:Bool} {n dn mu sm four nk x i t t1 t2 tp tq:Int} {key b tw ta out K was kb T sb bk:List Int} {yb W rn:List (List Int)} {last:Bool}
theorem aef(i:Nat)(hi:i<256):MZ.l0 .lim ((i:Int),t,7,0,ok,key,dn,mu,sm,sb,bk,yb,kL,b,tw,())=some (t,ok,key,dn,mu,sm,sb,bk,Wi i yb 7,b,tw,()):=by
 have e:=Oh (f:=MZ.l0 .lim) (fun k=>((i:Int),t,7,(k:Int),ok,key,dn,mu,sm,sb,bk,Wi i yb k,kL,b,tw,())) (n:=7) (fun k hk=>by
  rw[MZ.q0];obtain⟨h1,h2⟩:=adr k hk;have hB:B8 (rd 0 kL (k:Int)):=⟨h1,by omega⟩;have hi8:B8 (i:Int):=⟨by omega,by omega⟩;simp only[MZ.b0,MV (show (k:Int)<7 by omega),Nj (show (0:Int)<=k by omega) (show (k:Int)<(kL.length:Int)from show (k:Int)<7 by omega),Tf hi8,SY hi8 hB,ag4,Nj h1 (show rd 0 kL (k:Int)<16 from h2),Nj (show (0:Int)<=i by omega) (show (i:Int)<256 by omega),cond_true,QU k (by omega),ag5];rfl)
 refine e.trans ?_;rw[MZ.q0];simp only[MZ.b0,M_ (show ¬((7:Nat):Int)<7 by decide),cond_false]
theorem abh:MZ.l1 .lim (0,ok,key,dn,mu,sm,OG,OG,ag6 16 OG,b,tw,())=some (ok,key,dn,mu,sm,RF 256,VP 256,Ou 256,b,tw,()):=by
 have e:=Oh (f:=MZ.l1 .lim) (fun k=>((k:Int),ok,key,dn,mu,sm,RF k,VP k,Ou k,b,tw,())) (n:=256) (fun k hk=>by
  rw[MZ.q1];have hi8:B8 (k:Int):=⟨by omega,by omega⟩;have hs:=aau hi8;have hm:=fun sb bk=>aef (ok:=ok) (key:=key) (dn:=dn) (mu:=mu) (sm:=sm) (sb:=sb) (bk:=bk) (yb:=Ou k) (b:=b) (tw:=tw) (t:=(k:Int))  k hk
  simp only[MZ.b1,MV (show (k:Int)<256 by omega),Tf hi8,Z_ hi8,ag4,Nj (show (0:Int)<=k by omega) (show (k:Int)<256 by omega),Nj hs.1 hs.2,cond_true,show ((([1,2,3,9,11,13,14]:List Int).length:Nat):Int)=7 from rfl,NC (show (7:Int)<9223372036854775808 by omega),hm,QU k (by omega),aap];rw[show (RF k).set ((k:Int)).toNat (VZ k)=RF (k+1)from Sv rfl];rfl)
 rw[show RF 0=OG from RJ,Xp,show VP 0=OG from rfl,show ((0:Nat):Int)=0 from rfl]at e;refine e.trans ?_;rw[MZ.q1];simp only[MZ.b1,M_ (show ¬((256:Nat):Int)<256 by decide),cond_false]
theorem acA{q:Nat}(hk:kb.length=4*q)(hq:q<=100):MZ.l2 .lim (0,nk,ok,4,key,dn,mu,sm,sb,bk,yb,b,tw,kb,[],())=some (nk,ok,key,dn,mu,sm,sb,bk,yb,b,tw,(ahm q).map (word kb),()):=by
 have e:=Oh (f:=MZ.l2 .lim) (fun k=>(((4*k:Nat):Int),nk,ok,4,key,dn,mu,sm,sb,bk,yb,b,tw,kb,(ahm k).map (word kb),())) (n:=q) (fun k hkq=>by
  rw[MZ.q2];have w1:ag3.wrap (((4*k:Nat):Int)+4)=((4*k+4:Nat):Int):=by rw[wrap64 (by omega) (by omega)];omega
  have w2:mn 4 ((kb.length:Int)-((4*k:Nat):Int))=4:=by rw[Pg];omega
  have w3:(cut kb ((4*k:Nat):Int) ((4*k+4:Nat):Int)).length=4:=by rw[Ri,ahc,ahe];omega
  have w4:(ahH 1 4&&ahH 4 (cut kb ((4*k:Nat):Int) ((4*k+4:Nat):Int)).length)=true:=by rw[w3];rfl
  simp only[MZ.b2,NC (show (kb.length:Int)<9223372036854775808 by omega),MV (show ((4*k:Nat):Int)<(kb.length:Int) by omega),Nq (show (0:Int)<=((4*k:Nat):Int) by omega) (show ((4*k:Nat):Int)<=(kb.length:Int) by omega) (ahu _),NC (show (kb.length:Int)-((4*k:Nat):Int)<9223372036854775808 by omega),w2,w1,Nq (show (0:Int)<=((4*k:Nat):Int) by omega) (show ((4*k:Nat):Int)<=((4*k+4:Nat):Int) by omega) (ahu _),MV (show ((4*k+4:Nat):Int)<=(kb.length:Int) by omega),ahi,w4,cond_true];rw[cond_pos (by simp;omega),YO (by omega)];simp only[ahG,ahF,ahT,ahZ];rfl)
 refine e.trans ?_;rw[MZ.q2];simp only[MZ.b2,NC (show (kb.length:Int)<9223372036854775808 by omega),M_ (show ¬((4*q:Nat):Int)<(kb.length:Int) by omega),cond_true,cond_false]
theorem aeg(hW:Words W){i nk:Nat}(h1:nk<=i)(h2:i<=W.length)(h3:0<nk)(h4:i<1000)(hT:T.length=4):MZ.l3 .lim ((nk:Int),x,(i:Int),0,ok,T,key,dn,mu,sm,sb,bk,yb,b,tw,W,())=some ((nk:Int),x,(i:Int),ok,XA T (rd z4 W ((i-nk:Nat):Int)),key,dn,mu,sm,sb,bk,yb,b,tw,W,()):=by
 have w:ag3.wrap ((i:Int)-(nk:Int))=((i-nk:Nat):Int):=by rw[wrap64 (by omega) (by omega)];omega
 have e:=PY (f:=MZ.l3 .lim) (fun k T=>((nk:Int),x,(i:Int),(k:Int),ok,T,key,dn,mu,sm,sb,bk,yb,b,tw,W,())) (fun k v=>H8 .u8 v (rd 0 (rd z4 W ((i-nk:Nat):Int)) (k:Int))) T hT (fun k hk m' hm hj=>by
  rw[MZ.q3];simp only[MZ.b3,MV (show (k:Int)<4 by omega),Nj (show (0:Int)<=k by omega) (show (k:Int)<4 by omega),w,Nj (show (0:Int)<=((i-nk:Nat):Int) by omega) (show ((i-nk:Nat):Int)<(W.length:Int) by omega),cond_true,QU k (by omega),hj k (ahk _),ag5])
 refine e.trans ?_;rw[MZ.q3];simp only[MZ.b3,M_ (show ¬((4:Nat):Int)<4 by decide),cond_false];rfl
end
end Go.AM
end
section
namespace Go.AM
section
variable {ok:Bool} {n dn mu sm four x i t t1 t2 tp tq:Int} {key b tw ta out K was kb T sb bk:List Int} {yb W rn:List (List Int)} {last:Bool}
theorem adC(a b c d:Int):((((ag6 4 (0:Int)).set 0 a).set 1 b).set 2 c).set 3 d=[a,b,c,d]:=rfl
theorem acB{nk:Nat}(hn:nk=4\/nk=8)(hk:4*nk<=kb.length)(hb: ∀x∈kb,B8 x):
  MZ.l4 .lim ((nk:Int),1,(nk:Int),ok,key,dn,mu,sm,RF 256,bk,yb,b,tw,(ahm nk).map (word kb),())=some (ok,key,dn,mu,sm,RF 256,bk,yb,b,tw,(sched nk kb (3*nk+28)).1,()):=by
 have e:=Oh (f:=MZ.l4 .lim) (fun k=>((nk:Int),(sched nk kb k).2,((nk+k:Nat):Int),ok,key,dn,mu,sm,RF 256,bk,yb,b,tw,(sched nk kb k).1,())) (n:=3*nk+28) (fun k hkq=>by
  rw[MZ.q4];obtain⟨hW,hx⟩:=UU nk kb hk hb k;have hl:=Ug nk kb k;have hs:sched nk kb (k+1)=stepW nk (sched nk kb k):=rfl;rw[hs];unfold stepW;generalize hq:sched nk kb k=q at hW hx hl;obtain⟨W,x⟩:=q;simp only at hW hx hl ⊢
  have hi0:nk+k<1000:=by omega
  generalize hi:nk+k=i at hl hi0;have hw:=hW.at (show i-1<W.length by omega);have hb0:=hW.byte (show i-1<W.length by omega) (j:=0) (by omega) (by omega);have hb1:=hW.byte (show i-1<W.length by omega) (j:=1) (by omega) (by omega);have hb2:=hW.byte (show i-1<W.length by omega) (j:=2) (by omega) (by omega);have hb3:=hW.byte (show i-1<W.length by omega) (j:=3) (by omega) (by omega);have w1:ag3.wrap (4*ag3.wrap ((nk:Int)+7))=((4*nk+28:Nat):Int):=by rw[wrap64 (n:=(nk:Int)+7) (by omega) (by omega),wrap64 (by omega) (by omega)];omega
  have w2:ag3.wrap ((i:Int)-1)=((i-1:Nat):Int):=by rw[wrap64 (by omega) (by omega)];omega
  have m1:((i:Int)).tmod (nk:Int)=((i%nk:Nat):Int):=by rw[ag7 (ag8 i)];simp
  have m2:((i:Int)).tmod 8=((i%8:Nat):Int):=by rw[ag7 (ag8 i)];simp
  have Xd:=fun x T hT=>aeg (ok:=ok) (key:=key) (dn:=dn) (mu:=mu) (sm:=sm) (sb:=RF 256) (bk:=bk) (yb:=yb) (b:=b) (tw:=tw) (x:=x) (T:=T)  hW (i:=i) (nk:=nk) (by omega) (by omega) (by omega) (by omega) hT
  have cap: ∀T:List Int,decide (W.length+([T]:List (List Int)).length<17592186044416)=true:=fun T=>MV (by simp;omega)
  simp only[MZ.b4,w1,MV (show (i:Int)<((4*nk+28:Nat):Int) by omega),w2,Nj (show (0:Int)<=((i-1:Nat):Int) by omega) (show ((i-1:Nat):Int)<(W.length:Int) by omega),M_ (show ¬(nk:Int)=0 by omega),m1,m2,cond_true,ahb,Nj hb0.1 hb0.2,Nj hb1.1 hb1.2,Nj hb2.1 hb2.2,Nj hb3.1 hb3.2,TW hb0,TW hb1,TW hb2,TW hb3,adC,ahh];rw[hl];unfold aaD;by_cases c1:i%nk=0
  ·rw[MV (show ((i%nk:Nat):Int)=0 by omega),if_pos c1,if_pos c1];simp only[cond_true,SY hx (show B8 2 from⟨by decide,by decide⟩),ag4];rw[Xd _ _ rfl];simp only[ag4];rw[cond_pos (by simp;omega),QU i (by omega)];rw[show i+1=nk+(k+1) by omega]
  ·rw[M_ (show ¬((i%nk:Nat):Int)=0 by omega),if_neg c1,if_neg c1];simp only[cond_false];by_cases c2:nk=8/\i%8=4
   ·rw[MV (show (nk:Int)=8 by omega),MV (show ((i%8:Nat):Int)=4 by omega),if_pos c2];simp only[ahi,cond_true];rw[Xd _ _ rfl];simp only[ag4];rw[cond_pos (by simp;omega),QU i (by omega)];rw[show i+1=nk+(k+1) by omega]
   ·have:(decide ((nk:Int)=8)&&decide (((i%8:Nat):Int)=4))=false:=by
     by_cases c3:nk=8
     ·rw[M_ (show ¬((i%8:Nat):Int)=4 by omega),ahp]
     ·rw[M_ (show ¬(nk:Int)=8 by omega),ahw]
    rw[this,if_neg c2];simp only[cond_false];rw[Xd _ _ hw.1];simp only[ag4];rw[cond_pos (by simp;omega),QU i (by omega),<-list4 hw.1];rw[show i+1=nk+(k+1) by omega])
 refine(show _=_ from e).trans ?_;rw[MZ.q4];have w1:ag3.wrap (4*ag3.wrap ((nk:Int)+7))=((4*nk+28:Nat):Int):=by rw[wrap64 (n:=(nk:Int)+7) (by omega) (by omega),wrap64 (by omega) (by omega)];omega
 simp only[MZ.b4,w1,M_ (show ¬((nk+(3*nk+28):Nat):Int)<((4*nk+28:Nat):Int) by omega),cond_false]
end
end Go.AM
end
section
namespace Go.AM
theorem Yd{l:List (List Int)}{k:Nat}(h:k<l.length):(l.take (k+1)).flatten=(l.take k).flatten++rd [] l (k:Int):=by rw[Vb (d:=([]:List Int)) h,ah8];simp
theorem VG(l:List (List Int))(k:Nat):(l.take k).flatten.length<=l.flatten.length:=by
 have:l.flatten=(l.take k).flatten++(l.drop k).flatten:=by rw[<-ah8,ahs]
 rw[this,ag_];omega
theorem XJ(l:List (List Int))(h:l.flatten.length<=1000000)(hl:l.length<=1000000):Nl.run .lim (l,())=some l.flatten:=by
 have e:=Oh (f:=Nl.l0 .lim) (fun k=>(l,(((l.take k).flatten.length:Nat):Int),l,(l.length:Int),(k:Int),())) (n:=l.length) (fun k hk=>by
  rw[Nl.q0];have h1:=Yd hk;have h2:=VG l (k+1);rw[h1,ag_]at h2;have w:ag3.wrap ((((l.take k).flatten.length:Nat):Int)+((rd ([]:List Int) l (k:Int)).length:Int))=(((l.take (k+1)).flatten.length:Nat):Int):=by rw[wrap64 (by omega) (by omega),h1,ag_];omega
  simp only[Nl.b0,MV (show (k:Int)<(l.length:Int) by omega),Nj (show (0:Int)<=k by omega) (show (k:Int)<(l.length:Int) by omega),Nh (show (rd ([]:List Int) l (k:Int)).length<9223372036854775808 by omega),w,M_ (show ¬((((l.take (k+1)).flatten.length:Nat):Int)<0) by omega),cond_true,cond_false,QU k (by omega)])
 have e1:=fun N:Nat=>fun hN:N=l.flatten.length=>Oh (f:=Nl.l1 .lim) (fun k=>((((l.take k).flatten.length:Nat):Int),l,(l.length:Int),(k:Int),(l.take k).flatten++ag6 (N-(l.take k).flatten.length) 0,())) (n:=l.length) (fun k hk=>by
  rw[Nl.q1];have h1:=Yd hk;have h2:=VG l (k+1);rw[h1,ag_]at h2;simp only[Nl.b1,MV (show (k:Int)<(l.length:Int) by omega),Nj (show (0:Int)<=k by omega) (show (k:Int)<(l.length:Int) by omega),cond_true,QU k (by omega),ag5];have hc:(decide (((l.take k).flatten++ag6 (N-(l.take k).flatten.length) (0:Int)).length+(rd ([]:List Int) l (k:Int)).length<70368744177664)&&decide (0<=(((l.take k).flatten.length:Nat):Int)))=true:=by rw[ag_,ahX,MV (by omega),MV (by omega)];rfl
  rw[cond_pos hc,h1,ag_];have e3:((((l.take k).flatten.length:Nat):Int)+((rd ([]:List Int) l (k:Int)).length:Int))=(((l.take k).flatten.length+(rd ([]:List Int) l (k:Int)).length:Nat):Int):=by omega
  rw[e3,List.take_append_of_le_length (ahk _),ahj,List.drop_append,List.drop_eq_nil_of_le (by omega),List.nil_append,List.drop_replicate,ahy];have e4:N-(l.take k).flatten.length-((l.take k).flatten.length+(rd ([]:List Int) l (k:Int)).length-(l.take k).flatten.length)=N-((l.take k).flatten.length+(rd ([]:List Int) l (k:Int)).length):=by omega
  rw[e4])
 rw[ahj,ah7,show ((([]:List (List Int)).flatten.length:Nat):Int)=0 from rfl,show ((0:Nat):Int)=0 from rfl]at e;have ee:Nl.l0 .lim (l,((l.flatten.length:Nat):Int),l,(l.length:Int),(l.length:Int),())=some (l,((l.flatten.length:Nat):Int),()):=by
  rw[Nl.q0];simp only[Nl.b0,M_ (show ¬(l.length:Int)<(l.length:Int) by omega),cond_false]
 have ee1: ∀m,Nl.l1 .lim (((l.flatten.length:Nat):Int),l,(l.length:Int),(l.length:Int),m,())=some (((l.flatten.length:Nat):Int),m,()):=fun m=>by
  rw[Nl.q1];simp only[Nl.b1,M_ (show ¬(l.length:Int)<(l.length:Int) by omega),cond_false]
 have e2:Nl.l1 .lim (0,l,(l.length:Int),0,ag6 l.flatten.length 0,())=some (((l.flatten.length:Nat):Int),l.flatten,()):=by
  have:=e1 _ rfl;rw[ahj,ah7,Nat.sub_self,ah9,aif]at this;exact this.trans (ee1 _)
 simp only[Nl.run,Nh (show l.length<9223372036854775808 by omega),cond_true,e,ee,ag4,aip,M_ (show ¬((l.flatten.length:Nat):Int)<0 by omega),cond_false,wrap64 (show-9223372036854775808<=((l.flatten.length:Nat):Int) by omega) (show ((l.flatten.length:Nat):Int)<9223372036854775808 by omega),ag5];by_cases h0:l.flatten.length=0
 ·rw[M_ (show ¬((l.flatten.length:Nat):Int)>0 by omega)];rw[h0,ah9]at e2;simp only[cond_false];rw[e2];simp[ahv.1 h0]
 ·rw[MV (show ((l.flatten.length:Nat):Int)>0 by omega)];have hb:ah0 l.flatten.length 70368744177664=true:=by rw[Nat.blt_eq];omega
  simp only[cond_true,MV (show (0:Int)<=((l.flatten.length:Nat):Int) by omega),hb,ahi,e2,ag4,ahx,ag5,ahj];rw[cond_pos (Nq (ahu 0) (ahu 0) (ag8 _))]
end Go.AM
end
section
namespace Go.AM
section
variable {ok:Bool} {n dn mu sm four x i t t1 t2 tp tq:Int} {key b tw ta out K was kb T sb bk:List Int} {yb W rn:List (List Int)} {last:Bool}
theorem abg{q:Nat}(hW:Words W)(hl:W.length=4*q)(hq:q<=100):MZ.l5 .lim (0,ok,4,key,dn,mu,sm,sb,bk,yb,b,tw,W,[],())=some (ok,key,dn,mu,sm,sb,bk,yb,b,tw,PD W,()):=by
 have e:=Oh (f:=MZ.l5 .lim) (fun k=>(((4*k:Nat):Int),ok,4,key,dn,mu,sm,sb,bk,yb,b,tw,W,(ahm k).map (TD W),())) (n:=q) (fun k hkq=>by
  rw[MZ.q5];have w1:ag3.wrap (((4*k:Nat):Int)+4)=((4*k+4:Nat):Int):=by rw[wrap64 (by omega) (by omega)];omega
  have w2:mn 4 ((W.length:Int)-((4*k:Nat):Int))=4:=by rw[Pg];omega
  have w3:(cut W ((4*k:Nat):Int) ((4*k+4:Nat):Int)).length=4:=by rw[Ri,ahc,ahe];omega
  have at_: ∀j:Nat,j<4->rd z4 (cut W ((4*k:Nat):Int) ((4*k+4:Nat):Int)) (j:Int)=rd z4 W ((4*k+j:Nat):Int):=fun j hj=>by
   rw[Ri];unfold rd;rw[ag5,ag5,ahd,ahd,ahO (by omega),ah_]
  have a0:rd z4 (cut W ((4*k:Nat):Int) ((4*k+4:Nat):Int)) 0=rd z4 W ((4*k:Nat):Int):=at_ 0 (by omega);have a1:rd z4 (cut W ((4*k:Nat):Int) ((4*k+4:Nat):Int)) 1=rd z4 W ((4*k+1:Nat):Int):=at_ 1 (by omega);have a2:rd z4 (cut W ((4*k:Nat):Int) ((4*k+4:Nat):Int)) 2=rd z4 W ((4*k+2:Nat):Int):=at_ 2 (by omega);have a3:rd z4 (cut W ((4*k:Nat):Int) ((4*k+4:Nat):Int)) 3=rd z4 W ((4*k+3:Nat):Int):=at_ 3 (by omega);have c4: ∀l:List Int,l.length=4->cut l 0 4=l:=fun l hl=>by
   have:=Ri l 0 4;rw[show ((0:Nat):Int)=0 from rfl,show ((4:Nat):Int)=4 from rfl]at this;rw[this,ahx,ahf (by omega)]
  have l0:=(hW.at (show 4*k<W.length by omega)).1;have l1:=(hW.at (show 4*k+1<W.length by omega)).1;have l2:=(hW.at (show 4*k+2<W.length by omega)).1;have l3:=(hW.at (show 4*k+3<W.length by omega)).1;have hfl:[rd z4 W ((4*k:Nat):Int),rd z4 W ((4*k+1:Nat):Int),rd z4 W ((4*k+2:Nat):Int),rd z4 W ((4*k+3:Nat):Int)].flatten=TD W k:=by simp[TD]
  have hrl:=VB hW (j:=k) (by omega);have ou:=XJ [rd z4 W ((4*k:Nat):Int),rd z4 W ((4*k+1:Nat):Int),rd z4 W ((4*k+2:Nat):Int),rd z4 W ((4*k+3:Nat):Int)] (by rw[hfl,hrl];omega) (by simp);rw[hfl]at ou;simp only[MZ.b5,NC (show (W.length:Int)<9223372036854775808 by omega),MV (show ((4*k:Nat):Int)<(W.length:Int) by omega),Nq (show (0:Int)<=((4*k:Nat):Int) by omega) (show ((4*k:Nat):Int)<=(W.length:Int) by omega) (ahu _),NC (show (W.length:Int)-((4*k:Nat):Int)<9223372036854775808 by omega),w2,w1,Nq (show (0:Int)<=((4*k:Nat):Int) by omega) (show ((4*k:Nat):Int)<=((4*k+4:Nat):Int) by omega) (ahu _),MV (show ((4*k+4:Nat):Int)<=(W.length:Int) by omega),ahi,w3,cond_true,Nj (show (0:Int)<=0 by omega) (show (0:Int)<((4:Nat):Int) by decide),Nj (show (0:Int)<=1 by omega) (show (1:Int)<((4:Nat):Int) by decide),Nj (show (0:Int)<=2 by omega) (show (2:Int)<((4:Nat):Int) by decide),Nj (show (0:Int)<=3 by omega) (show (3:Int)<((4:Nat):Int) by decide),a0,a1,a2,a3,c4 _ l0,c4 _ l1,c4 _ l2,c4 _ l3,ou,ag4,hrl,ahf (aiq hrl)];rw[show (ahH 1 16&&ahH 16 16)=true from rfl,cond_true,cond_pos (by simp;omega)];simp only[ahG,ahF,ahT,ahZ];rfl)
 refine(show _=_ from e).trans ?_;rw[MZ.q5];simp only[MZ.b5,NC (show (W.length:Int)<9223372036854775808 by omega),M_ (show ¬((4*q:Nat):Int)<(W.length:Int) by omega),cond_true,cond_false];unfold PD;rw[hl,ahU _ (by omega)]
theorem acy(hk:key.length=16\/key.length=32)(hb: ∀x∈key,B8 x):MZ.l6 .lim (key,0,0,sm,OG,OG,ag6 16 OG,b,tw,())=some (b,tw,key,1,0,sm,RF 256,VP 256,Ou 256,PD (QD key),()):=by
 have h0:MZ.l6 .lim (key,0,0,sm,OG,OG,ag6 16 OG,b,tw,())=MZ.b6 .lim (MZ.l6 .lim) (key,0,0,sm,OG,OG,ag6 16 OG,b,tw,()):=MZ.q6 _;rw[h0];have hd:(key.length:Int).tdiv 4=((key.length/4:Nat):Int):=by rw[ahl (ag8 _)];simp
 have w1:ag3.wrap ((key.length:Int).tdiv 4)=((key.length/4:Nat):Int):=by rw[hd,wrap64 (by omega) (by omega)]
 have t:=abh (ok:=true) (key:=key) (dn:=0) (mu:=1) (sm:=sm) (b:=b) (tw:=tw);have s:=acA (kb:=key) (q:=key.length/4) (nk:=((key.length/4:Nat):Int)) (ok:=true) (key:=key) (dn:=0) (mu:=1) (sm:=sm) (sb:=RF 256) (bk:=VP 256) (yb:=Ou 256) (b:=b) (tw:=tw)  (by omega) (by omega);have w:=acB (kb:=key) (nk:=key.length/4) (ok:=true) (key:=key) (dn:=0) (mu:=1) (sm:=sm) (bk:=VP 256) (yb:=Ou 256) (b:=b) (tw:=tw)  (by omega) (by omega) hb;have r:=abg (W:=QD key) (q:=key.length/4+7) (ok:=true) (key:=key) (dn:=0) (mu:=1) (sm:=sm) (sb:=RF 256) (bk:=VP 256) (yb:=Ou 256) (b:=b) (tw:=tw)  (U4 key hb) (by rw[T_];omega) (by omega);have hs:PX.run .lim (true,())=some 1:=rfl;have hw:(sched (key.length/4) key (3*(key.length/4)+28)).1=QD key:=rfl;simp only[MZ.b6,decide_true,ag9,ahb,cond_true,t,ag4,NC (show (key.length:Int)<9223372036854775808 by omega),w1];rw[s];simp only[ag4];rw[w];simp only[ag4];rw[hw,r];simp only[ag4,hs,show ais.wrap (1+ -1)=0 from by decide,decide_true,ag9,cond_false]
end
end Go.AM
end
section
namespace Go.AM
section
variable {ok:Bool} {n dn mu sm four x i t t1 t2 tp tq:Int} {key b tw ta out K was kb T sb bk:List Int} {yb W rn:List (List Int)} {last:Bool}
theorem acw(hb:b.length=16):MZ.l7 .lim (0,b,K,tw,key,dn,mu,sm,sb,bk,yb,rn,())=some (UA b K,tw,key,dn,mu,sm,sb,bk,yb,rn,()):=by
 have e:=PY (f:=MZ.l7 .lim) (fun k b=>((k:Int),b,K,tw,key,dn,mu,sm,sb,bk,yb,rn,())) (fun k v=>H8 .u8 v (rd 0 K (k:Int))) b hb (fun k hk m' hm hj=>by
  rw[MZ.q7];simp only[MZ.b7,MV (show (k:Int)<16 by omega),Nj (show (0:Int)<=k by omega) (show (k:Int)<16 by omega),cond_true,QU k (by omega),hj k (ahk _),ag5])
 refine(show _=_ from e).trans ?_;rw[MZ.q7];simp only[MZ.b7,M_ (show ¬((16:Nat):Int)<16 by decide),cond_false];rfl
theorem abe(hb:V6 b):MZ.l8 .lim (0,last,tp,tq,t1,t2,b,key,dn,mu,sm,RF 256,bk,yb,K,rn,tw,())=some (last,tp,tq,t1,t2,tab 16 fun i=>VZ (rd 0 b (i:Int)),K,rn,tw,key,dn,mu,sm,RF 256,bk,yb,()):=by
 have e:=PY (f:=MZ.l8 .lim) (fun k b=>((k:Int),last,tp,tq,t1,t2,b,key,dn,mu,sm,RF 256,bk,yb,K,rn,tw,())) (fun k v=>VZ v) b hb.1 (fun k hk m' hm hj=>by
  rw[MZ.q8];have h:=hb.at hk;simp only[MZ.b8,MV (show (k:Int)<16 by omega),Nj (show (0:Int)<=k by omega) (show (k:Int)<16 by omega),cond_true,QU k (by omega),hj k (ahk _),Nj h.1 h.2,TW h,ag5])
 refine(show _=_ from e).trans ?_;rw[MZ.q8];simp only[MZ.b8,M_ (show ¬((16:Nat):Int)<16 by decide),cond_false]
theorem adE(hb:b.length=16):MZ.l9 .lim (4,0,last,tp,tq,t1,t2,b,was,K,rn,tw,key,dn,mu,sm,sb,bk,yb,())=some (last,tp,tq,t1,t2,tab 16 fun i=>rd 0 was (((i+4*(i%4))%16:Nat):Int),K,rn,tw,key,dn,mu,sm,sb,bk,yb,()):=by
 have e:=PY (f:=MZ.l9 .lim) (fun k b=>(4,(k:Int),last,tp,tq,t1,t2,b,was,K,rn,tw,key,dn,mu,sm,sb,bk,yb,())) (fun k v=>rd 0 was (((k+4*(k%4))%16:Nat):Int)) b hb (fun k hk m' hm hj=>by
  rw[MZ.q9];have m1:((k:Int)).tmod 4=((k%4:Nat):Int):=by rw[ag7 (ag8 k)];simp
  have w1:ag3.wrap (4*(k:Int).tmod 4)=((4*(k%4):Nat):Int):=by rw[m1,wrap64 (by omega) (by omega)];omega
  have w2:ag3.wrap ((k:Int)+((4*(k%4):Nat):Int))=((k+4*(k%4):Nat):Int):=by rw[wrap64 (by omega) (by omega)];omega
  have w3:ag3.wrap (((k+4*(k%4):Nat):Int)+64)=((k+4*(k%4)+64:Nat):Int):=by rw[wrap64 (by omega) (by omega)];omega
  have m2:(((k+4*(k%4)+64:Nat):Int)).tmod 16=(((k+4*(k%4))%16:Nat):Int):=by rw[ag7 (ag8 _)];omega
  simp only[MZ.b9,MV (show (k:Int)<16 by omega),Nj (show (0:Int)<=k by omega) (show (k:Int)<16 by omega),cond_true,QU k (by omega),w1,w2,w3,m2,Nj (show (0:Int)<=(((k+4*(k%4))%16:Nat):Int) by omega) (show (((k+4*(k%4))%16:Nat):Int)<16 by omega),ag5])
 refine(show _=_ from e).trans ?_;rw[MZ.q9];simp only[MZ.b9,M_ (show ¬((16:Nat):Int)<16 by decide),cond_false]
abbrev Ti:List Int:=[2,3,1,1]
theorem adB(hw:V6 was){i:Nat}(hi:i<16)(hb:b.length=16)(h0:rd 0 b (i:Int)=0):MZ.l10 .lim ((i:Int),t,Ti,0,tp,tq,t1,t2,key,dn,mu,sm,sb,bk,Ou 256,b,Ti,was,K,rn,tw,())=some (t,tp,tq,t1,t2,key,dn,mu,sm,sb,bk,Ou 256,b.set i (rd 0 (R_ was) (i:Int)),Ti,was,K,rn,tw,()):=by
 have h4: ∀j:Nat,j<4->ag3.wrap (ag3.wrap (ag3.wrap ((i:Int).tdiv 4)*4)+(ag3.wrap ((i:Int)+(j:Int))).tmod 4)=((i/4*4+(i+j)%4:Nat):Int):=by
  intro j hj;have d1:((i:Int)).tdiv 4=((i/4:Nat):Int):=by rw[ahl (ag8 i)];simp
  have d2:ag3.wrap ((i:Int)+(j:Int))=((i+j:Nat):Int):=by rw[wrap64 (by omega) (by omega)];omega
  have d3:(((i+j:Nat):Int)).tmod 4=(((i+j)%4:Nat):Int):=by rw[ag7 (ag8 _)];simp
  rw[d1,d2,d3,wrap64 (n:=((i/4:Nat):Int)) (by omega) (by omega),wrap64 (n:=((i/4:Nat):Int)*4) (by omega) (by omega),wrap64 (by omega) (by omega)];omega
 have hB: ∀j:Nat,j<4->B8 (rd 0 was ((i/4*4+(i+j)%4:Nat):Int)):=fun j hj=>hw.at (by omega)
 have g0:=h4 0 (by omega);have g1:=h4 1 (by omega);have g2:=h4 2 (by omega);have g3:=h4 3 (by omega);have b0:=hB 0 (by omega);have b1:=hB 1 (by omega);have b2:=hB 2 (by omega);have b3:=hB 3 (by omega);rw[show ((0:Nat):Int)=0 from rfl]at g0;rw[show ((1:Nat):Int)=1 from rfl]at g1;rw[show ((2:Nat):Int)=2 from rfl]at g2;rw[show ((3:Nat):Int)=3 from rfl]at g3;have r0:=(TV b0).2.1;have r1:=(TV b1).2.2;have r2:=(TV b2).1;have r3:=(TV b3).1;have step: ∀(c:Int) (j j':Int) (q:Nat) (v:Int) (bb:List Int),bb.length=16->0<=j->j<4->rd 0 Ti j=c->0<=c->c<16->ag3.wrap (j+1)=j'->ag3.wrap (ag3.wrap (ag3.wrap ((i:Int).tdiv 4)*4)+(ag3.wrap ((i:Int)+j)).tmod 4)=(q:Int)->q<16->rd 0 (rd OG (Ou 256) c) (rd 0 was (q:Int))=v->B8 (rd 0 was (q:Int))->
   MZ.l10 .lim ((i:Int),t,Ti,j,tp,tq,t1,t2,key,dn,mu,sm,sb,bk,Ou 256,bb,Ti,was,K,rn,tw,())=MZ.l10 .lim ((i:Int),t,Ti,j',tp,tq,t1,t2,key,dn,mu,sm,sb,bk,Ou 256,bb.set i (H8 .u8 (rd 0 bb (i:Int)) v),Ti,was,K,rn,tw,()):=by
  intro c j j' q v bb hbb h1 h2 h3 h4 h5 h6 h7 h8 h9 h10;rw[MZ.q10];simp only[MZ.b10,MV h2,Nj h1 h2,h3,Nj h4 h5,h7,Nj (show (0:Int)<=i by omega) (show (i:Int)<16 by omega),Nj (show (0:Int)<=(q:Int) by omega) (show (q:Int)<16 by omega),Nj h10.1 h10.2,h9,h6,cond_true,ag5]
 rw[step 2 0 1 _ _ b hb (by omega) (by omega) rfl (by omega) (by omega) rfl g0 (by omega) r0 b0];rw[step 3 1 2 _ _ _ (by simp[hb]) (by omega) (by omega) rfl (by omega) (by omega) rfl g1 (by omega) r1 b1];rw[step 1 2 3 _ _ _ (by simp[hb]) (by omega) (by omega) rfl (by omega) (by omega) rfl g2 (by omega) r2 b2];rw[step 1 3 4 _ _ _ (by simp[hb]) (by omega) (by omega) rfl (by omega) (by omega) rfl g3 (by omega) r3 b3];rw[MZ.q10];simp only[MZ.b10,M_ (show ¬(4:Int)<4 by omega),cond_false];have hl: ∀v,i<(b.set i v).length:=fun v=>by simp[hb];omega
 simp only[Ur (show i<b.length by omega),Ur (hl _),ahK,h0];unfold R_;rw[Rt hi];simp only[ahz]
theorem aee(hw:V6 was)(hb:b.length=16):MZ.l11 .lim (0,tp,tq,t1,t2,key,dn,mu,sm,sb,bk,Ou 256,b,Ti,was,K,rn,tw,())=some (tp,tq,t1,t2,R_ was,K,rn,tw,key,dn,mu,sm,sb,bk,Ou 256,()):=by
 have e:=PY (f:=MZ.l11 .lim) (fun k b=>((k:Int),tp,tq,t1,t2,key,dn,mu,sm,sb,bk,Ou 256,b,Ti,was,K,rn,tw,())) (fun k v=>rd 0 (R_ was) (k:Int)) b hb (fun k hk m' hm hj=>by
  rw[MZ.q11];have hm:=fun h0=>adB (tp:=tp) (tq:=tq) (t1:=t1) (t2:=t2) (key:=key) (dn:=dn) (mu:=mu) (sm:=sm) (sb:=sb) (bk:=bk) (K:=K) (rn:=rn) (tw:=tw) (t:=(k:Int))  hw (b:=m'.set k 0) hk (by simp[hm]) h0
  simp only[MZ.b11,MV (show (k:Int)<16 by omega),Nj (show (0:Int)<=k by omega) (show (k:Int)<16 by omega),cond_true,ag5];rw[hm (Ur (by omega))];simp only[ag4,QU k (by omega),ahK])
 refine(show _=_ from e).trans ?_;rw[MZ.q11];simp only[MZ.b11,M_ (show ¬((16:Nat):Int)<16 by decide),cond_false];have:(tab 16 fun i=>rd 0 (R_ was) (i:Int))=R_ was:=(Xy P7).symm;rw[this]
theorem abf(hb:b.length=16):MZ.l12 .lim (0,tp,tq,t1,t2,b,K,rn,tw,key,dn,mu,sm,sb,bk,yb,())=some (tp,tq,t1,t2,rn,UA b K,tw,key,dn,mu,sm,sb,bk,yb,()):=by
 have e:=PY (f:=MZ.l12 .lim) (fun k b=>((k:Int),tp,tq,t1,t2,b,K,rn,tw,key,dn,mu,sm,sb,bk,yb,())) (fun k v=>H8 .u8 v (rd 0 K (k:Int))) b hb (fun k hk m' hm hj=>by
  rw[MZ.q12];simp only[MZ.b12,MV (show (k:Int)<16 by omega),Nj (show (0:Int)<=k by omega) (show (k:Int)<16 by omega),cond_true,QU k (by omega),hj k (ahk _),ag5])
 refine(show _=_ from e).trans ?_;rw[MZ.q12];simp only[MZ.b12,M_ (show ¬((16:Nat):Int)<16 by decide),cond_false];rfl
theorem acz(b:List Int):(tab 16 fun i=>rd 0 (tab 16 fun i=>VZ (rd 0 b (i:Int))) (((i+4*(i%4))%16:Nat):Int))=TI b:=P_ fun k hk=>by rw[Rt (by omega)]
theorem Zx(hb:V6 b):V6 (TI b):=⟨P7,Yc fun k hk=>aau (hb.at (by omega))⟩
theorem aed{r:Nat}(hW:Words W)(hl:W.length=4*(r+1))(hr:r<=100)(hr0:0<r)(hb:b.length=16):
  MZ.ZI .lim (1,((r:Nat):Int),((r:Nat):Int),0,PD W,Tt W b 0,tw,key,dn,mu,sm,RF 256,bk,Ou 256,())=some (Tt W b r,tw,key,dn,mu,sm,RF 256,bk,Ou 256,PD W,()):=by
 have hn:(PD W).length=r+1:=by unfold PD;simp;omega
 have e:=Oh (f:=MZ.ZI .lim) (fun k=>(1,(r:Int),(r:Int),(k:Int),PD W,Tt W b k,tw,key,dn,mu,sm,RF 256,bk,Ou 256,())) (n:=r) (fun k hk=>by
  rw[MZ.q13];have hB:=WB W b k;have hK:rd WO (PD W) (1+(k:Int))=TD W (k+1):=by
   rw[show (1+(k:Int))=((k+1:Nat):Int) by omega,Qz (by omega)];unfold PD;simp
  have w1:ag3.wrap (((PD W).length:Int)-2)=(r:Int)-1:=by rw[wrap64 (by omega) (by omega)];omega
  have hlast:decide ((k:Int)=(r:Int)-1)=decide (k+2=W.length/4):=by
   by_cases h:k+1=r
   ·rw[MV (by omega),MV (by omega)]
   ·rw[M_ (by omega),M_ (by omega)]
  simp only[MZ.b13,MV (show (k:Int)<(r:Int) by omega),Nj (show (0:Int)<=k by omega) (show (k:Int)<(r:Int) by omega),NC (show ((PD W).length:Int)<9223372036854775808 by omega),cond_true,hK,w1,hlast,abe hB,ag4];rw[adE P7];simp only[ag4,acz];have hs:=Zx hB;have hc:((((ag6 4 (0:Int)).set 0 2).set 1 3).set 2 1).set 3 1=Ti:=rfl;show _=MZ.ZI .lim (1,(r:Int),(r:Int),((k+1:Nat):Int),PD W,ZX (decide (k+2=W.length/4)) (Tt W b k) (TD W (k+1)),tw,key,dn,mu,sm,RF 256,bk,Ou 256,());unfold ZX;cases decide (k+2=W.length/4)with
  |true=>
   simp only[ag9,cond_false,cond_true];rw[abf hs.1];simp only[ag4,QU k (by omega)]
  |false=>
   simp only[ahb,cond_false,cond_true,hc];rw[aee hs hs.1];simp only[ag4];have hml:(R_ (TI (Tt W b k))).length=16:=P7;rw[abf hml];simp only[ag4,QU k (by omega)])
 refine(show _=_ from e).trans ?_;rw[MZ.q13];simp only[MZ.b13,M_ (show ¬(r:Int)<(r:Int) by omega),cond_false]
end
end Go.AM
end
section
namespace Go.AM
section
variable {ok:Bool} {n dn mu sm four x i t t1 t2 tp tq:Int} {key b tw ta out K was kb T sb bk:List Int} {yb W rn:List (List Int)} {last:Bool}
theorem adD{r:Nat}(hW:Words W)(hl:W.length=4*(r+1))(hr:r<=100)(hr0:0<r)(hb:b.length=16){β:Type}{Q:_->Option β}:
  (bif inB 0 ((PD W).length:Int)then
   ((MZ.l7 .lim (0,b,rd WO (PD W) 0,tw,key,dn,mu,sm,RF 256,bk,Ou 256,PD W,())).bind fun (b,tw,key,dn,mu,sm,sb,bk,yb,rn,())=>
    bif sS 1 (rn.length:Int) (rn.length:Int)then bif vZ ((rn.length:Int)-1)then(MZ.ZI .lim (1,((rn.length:Int)-1),((rn.length:Int)-1),0,rn,b,tw,key,dn,mu,sm,sb,bk,yb,())).bind Q else none else none)else none)=Q (Tt W b r,tw,key,dn,mu,sm,RF 256,bk,Ou 256,PD W,()):=by
 have hn:(PD W).length=r+1:=by unfold PD;simp;omega
 have h0:rd WO (PD W) 0=TD W 0:=by
  have:=Qz (d:=WO) (show 0<(PD W).length by omega);rw[show ((0:Nat):Int)=0 from rfl]at this;rw[this];unfold PD;simp
 rw[cond_pos (Nj (by omega) (by omega)),h0,acw hb];simp only[ag4];rw[cond_pos (Nq (by omega) (by omega) (by omega)),cond_pos (NC (by omega)),show ((PD W).length:Int)-1=(r:Int) by omega];have:=aed (tw:=tw) (key:=key) (dn:=dn) (mu:=mu) (sm:=sm) (bk:=bk)  hW hl hr hr0 hb;rw[show Tt W b 0=UA b (TD W 0)from rfl]at this;rw[this];rfl
theorem acv(hk:key.length=16\/key.length=32)(hkb: ∀x∈key,B8 x)(hb:b.length=16):
  MZ.Y1 .lim (b,key,0,0,sm,OG,OG,ag6 16 OG,())=some (encS key b,()):=by
 have h0:MZ.Y1 .lim (b,key,0,0,sm,OG,OG,ag6 16 OG,())=MZ.b14 .lim (MZ.Y1 .lim) (b,key,0,0,sm,OG,OG,ag6 16 OG,()):=MZ.q14 _;rw[h0];have hr:=acy (sm:=sm) (key:=key) (b:=b) (tw:=WO)  hk hkb;have hW:=U4 key hkb;have hl:(QD key).length=4*((key.length/4+6)+1):=by rw[T_];omega
 have hq:(QD key).length/4-1=key.length/4+6:=by omega
 unfold MZ.b14;simp only[hr,ag4];refine(adD (Q:=fun (b,tw,key,dn,mu,sm,sb,bk,yb,rn,())=>some (b,())) hW hl (by omega) (by omega) hb).trans ?_;unfold encS;rw[hq]
end
end Go.AM
end
section
namespace Go.AM
section
variable {ok:Bool} {n dn mu sm four nk x i t t1 t2 tp tq:Int} {key b tw ta out K was kb T sb bk:List Int} {yb W rn:List (List Int)} {last:Bool}
theorem aej(i:Nat)(hi:i<256):MX.l0 .lim ((i:Int),t,7,0,ok,n,key,dn,mu,sm,sb,bk,yb,kL,b,tw,ta,out,rn,())=some (t,ok,n,key,dn,mu,sm,sb,bk,Wi i yb 7,b,tw,ta,out,rn,()):=by
 have e:=Oh (f:=MX.l0 .lim) (fun k=>((i:Int),t,7,(k:Int),ok,n,key,dn,mu,sm,sb,bk,Wi i yb k,kL,b,tw,ta,out,rn,())) (n:=7) (fun k hk=>by
  rw[MX.q0];obtain⟨h1,h2⟩:=adr k hk;have hB:B8 (rd 0 kL (k:Int)):=⟨h1,by omega⟩;have hi8:B8 (i:Int):=⟨by omega,by omega⟩;simp only[MX.b0,MV (show (k:Int)<7 by omega),Nj (show (0:Int)<=k by omega) (show (k:Int)<(kL.length:Int)from show (k:Int)<7 by omega),Tf hi8,SY hi8 hB,ag4,Nj h1 (show rd 0 kL (k:Int)<16 from h2),Nj (show (0:Int)<=i by omega) (show (i:Int)<256 by omega),cond_true,QU k (by omega),ag5];rfl)
 refine e.trans ?_;rw[MX.q0];simp only[MX.b0,M_ (show ¬((7:Nat):Int)<7 by decide),cond_false]
theorem abm:MX.l1 .lim (0,ok,n,key,dn,mu,sm,OG,OG,ag6 16 OG,b,tw,ta,out,rn,())=some (ok,n,key,dn,mu,sm,RF 256,VP 256,Ou 256,b,tw,ta,out,rn,()):=by
 have e:=Oh (f:=MX.l1 .lim) (fun k=>((k:Int),ok,n,key,dn,mu,sm,RF k,VP k,Ou k,b,tw,ta,out,rn,())) (n:=256) (fun k hk=>by
  rw[MX.q1];have hi8:B8 (k:Int):=⟨by omega,by omega⟩;have hs:=aau hi8;have hm:=fun sb bk=>aej (ok:=ok) (key:=key) (dn:=dn) (mu:=mu) (sm:=sm) (sb:=sb) (bk:=bk) (yb:=Ou k) (b:=b) (tw:=tw) (t:=(k:Int)) (n:=n) (ta:=ta) (out:=out) (rn:=rn) k hk
  simp only[MX.b1,MV (show (k:Int)<256 by omega),Tf hi8,Z_ hi8,ag4,Nj (show (0:Int)<=k by omega) (show (k:Int)<256 by omega),Nj hs.1 hs.2,cond_true,show ((([1,2,3,9,11,13,14]:List Int).length:Nat):Int)=7 from rfl,NC (show (7:Int)<9223372036854775808 by omega),hm,QU k (by omega),aap];rw[show (RF k).set ((k:Int)).toNat (VZ k)=RF (k+1)from Sv rfl];rfl)
 rw[show RF 0=OG from RJ,Xp,show VP 0=OG from rfl,show ((0:Nat):Int)=0 from rfl]at e;refine e.trans ?_;rw[MX.q1];simp only[MX.b1,M_ (show ¬((256:Nat):Int)<256 by decide),cond_false]
theorem acH{q:Nat}(hk:kb.length=4*q)(hq:q<=100):MX.l2 .lim (0,nk,ok,n,4,key,dn,mu,sm,sb,bk,yb,b,tw,ta,out,kb,[],rn,())=some (nk,ok,n,key,dn,mu,sm,sb,bk,yb,b,tw,ta,out,(ahm q).map (word kb),rn,()):=by
 have e:=Oh (f:=MX.l2 .lim) (fun k=>(((4*k:Nat):Int),nk,ok,n,4,key,dn,mu,sm,sb,bk,yb,b,tw,ta,out,kb,(ahm k).map (word kb),rn,())) (n:=q) (fun k hkq=>by
  rw[MX.q2];have w1:ag3.wrap (((4*k:Nat):Int)+4)=((4*k+4:Nat):Int):=by rw[wrap64 (by omega) (by omega)];omega
  have w2:mn 4 ((kb.length:Int)-((4*k:Nat):Int))=4:=by rw[Pg];omega
  have w3:(cut kb ((4*k:Nat):Int) ((4*k+4:Nat):Int)).length=4:=by rw[Ri,ahc,ahe];omega
  have w4:(ahH 1 4&&ahH 4 (cut kb ((4*k:Nat):Int) ((4*k+4:Nat):Int)).length)=true:=by rw[w3];rfl
  simp only[MX.b2,NC (show (kb.length:Int)<9223372036854775808 by omega),MV (show ((4*k:Nat):Int)<(kb.length:Int) by omega),Nq (show (0:Int)<=((4*k:Nat):Int) by omega) (show ((4*k:Nat):Int)<=(kb.length:Int) by omega) (ahu _),NC (show (kb.length:Int)-((4*k:Nat):Int)<9223372036854775808 by omega),w2,w1,Nq (show (0:Int)<=((4*k:Nat):Int) by omega) (show ((4*k:Nat):Int)<=((4*k+4:Nat):Int) by omega) (ahu _),MV (show ((4*k+4:Nat):Int)<=(kb.length:Int) by omega),ahi,w4,cond_true];rw[cond_pos (by simp;omega),YO (by omega)];simp only[ahG,ahF,ahT,ahZ];rfl)
 refine e.trans ?_;rw[MX.q2];simp only[MX.b2,NC (show (kb.length:Int)<9223372036854775808 by omega),M_ (show ¬((4*q:Nat):Int)<(kb.length:Int) by omega),cond_true,cond_false]
theorem aek(hW:Words W){i nk:Nat}(h1:nk<=i)(h2:i<=W.length)(h3:0<nk)(h4:i<1000)(hT:T.length=4):MX.l3 .lim ((nk:Int),x,(i:Int),0,ok,n,T,key,dn,mu,sm,sb,bk,yb,b,tw,ta,out,W,rn,())=some ((nk:Int),x,(i:Int),ok,n,XA T (rd z4 W ((i-nk:Nat):Int)),key,dn,mu,sm,sb,bk,yb,b,tw,ta,out,W,rn,()):=by
 have w:ag3.wrap ((i:Int)-(nk:Int))=((i-nk:Nat):Int):=by rw[wrap64 (by omega) (by omega)];omega
 have e:=PY (f:=MX.l3 .lim) (fun k T=>((nk:Int),x,(i:Int),(k:Int),ok,n,T,key,dn,mu,sm,sb,bk,yb,b,tw,ta,out,W,rn,())) (fun k v=>H8 .u8 v (rd 0 (rd z4 W ((i-nk:Nat):Int)) (k:Int))) T hT (fun k hk m' hm hj=>by
  rw[MX.q3];simp only[MX.b3,MV (show (k:Int)<4 by omega),Nj (show (0:Int)<=k by omega) (show (k:Int)<4 by omega),w,Nj (show (0:Int)<=((i-nk:Nat):Int) by omega) (show ((i-nk:Nat):Int)<(W.length:Int) by omega),cond_true,QU k (by omega),hj k (ahk _),ag5])
 refine e.trans ?_;rw[MX.q3];simp only[MX.b3,M_ (show ¬((4:Nat):Int)<4 by decide),cond_false];rfl
end
end Go.AM
end
section
namespace Go.AM
section
variable {ok:Bool} {n dn mu sm four x i t t1 t2 tp tq:Int} {key b tw ta out K was kb T sb bk:List Int} {yb W rn:List (List Int)} {last:Bool}
theorem adH(a b c d:Int):((((ag6 4 (0:Int)).set 0 a).set 1 b).set 2 c).set 3 d=[a,b,c,d]:=rfl
theorem acI{nk:Nat}(hn:nk=4\/nk=8)(hk:4*nk<=kb.length)(hb: ∀x∈kb,B8 x):
  MX.l4 .lim ((nk:Int),1,(nk:Int),ok,n,key,dn,mu,sm,RF 256,bk,yb,b,tw,ta,out,(ahm nk).map (word kb),rn,())=some (ok,n,key,dn,mu,sm,RF 256,bk,yb,b,tw,ta,out,(sched nk kb (3*nk+28)).1,rn,()):=by
 have e:=Oh (f:=MX.l4 .lim) (fun k=>((nk:Int),(sched nk kb k).2,((nk+k:Nat):Int),ok,n,key,dn,mu,sm,RF 256,bk,yb,b,tw,ta,out,(sched nk kb k).1,rn,())) (n:=3*nk+28) (fun k hkq=>by
  rw[MX.q4];obtain⟨hW,hx⟩:=UU nk kb hk hb k;have hl:=Ug nk kb k;have hs:sched nk kb (k+1)=stepW nk (sched nk kb k):=rfl;rw[hs];unfold stepW;generalize hq:sched nk kb k=q at hW hx hl;obtain⟨W,x⟩:=q;simp only at hW hx hl ⊢
  have hi0:nk+k<1000:=by omega
  generalize hi:nk+k=i at hl hi0;have hw:=hW.at (show i-1<W.length by omega);have hb0:=hW.byte (show i-1<W.length by omega) (j:=0) (by omega) (by omega);have hb1:=hW.byte (show i-1<W.length by omega) (j:=1) (by omega) (by omega);have hb2:=hW.byte (show i-1<W.length by omega) (j:=2) (by omega) (by omega);have hb3:=hW.byte (show i-1<W.length by omega) (j:=3) (by omega) (by omega);have w1:ag3.wrap (4*ag3.wrap ((nk:Int)+7))=((4*nk+28:Nat):Int):=by rw[wrap64 (n:=(nk:Int)+7) (by omega) (by omega),wrap64 (by omega) (by omega)];omega
  have w2:ag3.wrap ((i:Int)-1)=((i-1:Nat):Int):=by rw[wrap64 (by omega) (by omega)];omega
  have m1:((i:Int)).tmod (nk:Int)=((i%nk:Nat):Int):=by rw[ag7 (ag8 i)];simp
  have m2:((i:Int)).tmod 8=((i%8:Nat):Int):=by rw[ag7 (ag8 i)];simp
  have Xd:=fun x T hT=>aek (ok:=ok) (key:=key) (dn:=dn) (mu:=mu) (sm:=sm) (sb:=RF 256) (bk:=bk) (yb:=yb) (b:=b) (tw:=tw) (x:=x) (T:=T) (n:=n) (ta:=ta) (out:=out) (rn:=rn) hW (i:=i) (nk:=nk) (by omega) (by omega) (by omega) (by omega) hT
  have cap: ∀T:List Int,decide (W.length+([T]:List (List Int)).length<17592186044416)=true:=fun T=>MV (by simp;omega)
  simp only[MX.b4,w1,MV (show (i:Int)<((4*nk+28:Nat):Int) by omega),w2,Nj (show (0:Int)<=((i-1:Nat):Int) by omega) (show ((i-1:Nat):Int)<(W.length:Int) by omega),M_ (show ¬(nk:Int)=0 by omega),m1,m2,cond_true,ahb,Nj hb0.1 hb0.2,Nj hb1.1 hb1.2,Nj hb2.1 hb2.2,Nj hb3.1 hb3.2,TW hb0,TW hb1,TW hb2,TW hb3,adH,ahh];rw[hl];unfold aaD;by_cases c1:i%nk=0
  ·rw[MV (show ((i%nk:Nat):Int)=0 by omega),if_pos c1,if_pos c1];simp only[cond_true,SY hx (show B8 2 from⟨by decide,by decide⟩),ag4];rw[Xd _ _ rfl];simp only[ag4];rw[cond_pos (by simp;omega),QU i (by omega)];rw[show i+1=nk+(k+1) by omega]
  ·rw[M_ (show ¬((i%nk:Nat):Int)=0 by omega),if_neg c1,if_neg c1];simp only[cond_false];by_cases c2:nk=8/\i%8=4
   ·rw[MV (show (nk:Int)=8 by omega),MV (show ((i%8:Nat):Int)=4 by omega),if_pos c2];simp only[ahi,cond_true];rw[Xd _ _ rfl];simp only[ag4];rw[cond_pos (by simp;omega),QU i (by omega)];rw[show i+1=nk+(k+1) by omega]
   ·have:(decide ((nk:Int)=8)&&decide (((i%8:Nat):Int)=4))=false:=by
     by_cases c3:nk=8
     ·rw[M_ (show ¬((i%8:Nat):Int)=4 by omega),ahp]
     ·rw[M_ (show ¬(nk:Int)=8 by omega),ahw]
    rw[this,if_neg c2];simp only[cond_false];rw[Xd _ _ hw.1];simp only[ag4];rw[cond_pos (by simp;omega),QU i (by omega),<-list4 hw.1];rw[show i+1=nk+(k+1) by omega])
 refine(show _=_ from e).trans ?_;rw[MX.q4];have w1:ag3.wrap (4*ag3.wrap ((nk:Int)+7))=((4*nk+28:Nat):Int):=by rw[wrap64 (n:=(nk:Int)+7) (by omega) (by omega),wrap64 (by omega) (by omega)];omega
 simp only[MX.b4,w1,M_ (show ¬((nk+(3*nk+28):Nat):Int)<((4*nk+28:Nat):Int) by omega),cond_false]
end
end Go.AM
end
section
namespace Go.AM
section
variable {ok:Bool} {n dn mu sm four x i t t1 t2 tp tq:Int} {key b tw ta out K was kb T sb bk:List Int} {yb W rn:List (List Int)} {last:Bool}
theorem abl{q:Nat}(hW:Words W)(hl:W.length=4*q)(hq:q<=100):MX.l5 .lim (0,ok,n,4,key,dn,mu,sm,sb,bk,yb,b,tw,ta,out,W,[],())=some (ok,n,key,dn,mu,sm,sb,bk,yb,b,tw,ta,out,PD W,()):=by
 have e:=Oh (f:=MX.l5 .lim) (fun k=>(((4*k:Nat):Int),ok,n,4,key,dn,mu,sm,sb,bk,yb,b,tw,ta,out,W,(ahm k).map (TD W),())) (n:=q) (fun k hkq=>by
  rw[MX.q5];have w1:ag3.wrap (((4*k:Nat):Int)+4)=((4*k+4:Nat):Int):=by rw[wrap64 (by omega) (by omega)];omega
  have w2:mn 4 ((W.length:Int)-((4*k:Nat):Int))=4:=by rw[Pg];omega
  have w3:(cut W ((4*k:Nat):Int) ((4*k+4:Nat):Int)).length=4:=by rw[Ri,ahc,ahe];omega
  have at_: ∀j:Nat,j<4->rd z4 (cut W ((4*k:Nat):Int) ((4*k+4:Nat):Int)) (j:Int)=rd z4 W ((4*k+j:Nat):Int):=fun j hj=>by
   rw[Ri];unfold rd;rw[ag5,ag5,ahd,ahd,ahO (by omega),ah_]
  have a0:rd z4 (cut W ((4*k:Nat):Int) ((4*k+4:Nat):Int)) 0=rd z4 W ((4*k:Nat):Int):=at_ 0 (by omega);have a1:rd z4 (cut W ((4*k:Nat):Int) ((4*k+4:Nat):Int)) 1=rd z4 W ((4*k+1:Nat):Int):=at_ 1 (by omega);have a2:rd z4 (cut W ((4*k:Nat):Int) ((4*k+4:Nat):Int)) 2=rd z4 W ((4*k+2:Nat):Int):=at_ 2 (by omega);have a3:rd z4 (cut W ((4*k:Nat):Int) ((4*k+4:Nat):Int)) 3=rd z4 W ((4*k+3:Nat):Int):=at_ 3 (by omega);have c4: ∀l:List Int,l.length=4->cut l 0 4=l:=fun l hl=>by
   have:=Ri l 0 4;rw[show ((0:Nat):Int)=0 from rfl,show ((4:Nat):Int)=4 from rfl]at this;rw[this,ahx,ahf (by omega)]
  have l0:=(hW.at (show 4*k<W.length by omega)).1;have l1:=(hW.at (show 4*k+1<W.length by omega)).1;have l2:=(hW.at (show 4*k+2<W.length by omega)).1;have l3:=(hW.at (show 4*k+3<W.length by omega)).1;have hfl:[rd z4 W ((4*k:Nat):Int),rd z4 W ((4*k+1:Nat):Int),rd z4 W ((4*k+2:Nat):Int),rd z4 W ((4*k+3:Nat):Int)].flatten=TD W k:=by simp[TD]
  have hrl:=VB hW (j:=k) (by omega);have ou:=XJ [rd z4 W ((4*k:Nat):Int),rd z4 W ((4*k+1:Nat):Int),rd z4 W ((4*k+2:Nat):Int),rd z4 W ((4*k+3:Nat):Int)] (by rw[hfl,hrl];omega) (by simp);rw[hfl]at ou;simp only[MX.b5,NC (show (W.length:Int)<9223372036854775808 by omega),MV (show ((4*k:Nat):Int)<(W.length:Int) by omega),Nq (show (0:Int)<=((4*k:Nat):Int) by omega) (show ((4*k:Nat):Int)<=(W.length:Int) by omega) (ahu _),NC (show (W.length:Int)-((4*k:Nat):Int)<9223372036854775808 by omega),w2,w1,Nq (show (0:Int)<=((4*k:Nat):Int) by omega) (show ((4*k:Nat):Int)<=((4*k+4:Nat):Int) by omega) (ahu _),MV (show ((4*k+4:Nat):Int)<=(W.length:Int) by omega),ahi,w3,cond_true,Nj (show (0:Int)<=0 by omega) (show (0:Int)<((4:Nat):Int) by decide),Nj (show (0:Int)<=1 by omega) (show (1:Int)<((4:Nat):Int) by decide),Nj (show (0:Int)<=2 by omega) (show (2:Int)<((4:Nat):Int) by decide),Nj (show (0:Int)<=3 by omega) (show (3:Int)<((4:Nat):Int) by decide),a0,a1,a2,a3,c4 _ l0,c4 _ l1,c4 _ l2,c4 _ l3,ou,ag4,hrl,ahf (aiq hrl)];rw[show (ahH 1 16&&ahH 16 16)=true from rfl,cond_true,cond_pos (by simp;omega)];simp only[ahG,ahF,ahT,ahZ];rfl)
 refine(show _=_ from e).trans ?_;rw[MX.q5];simp only[MX.b5,NC (show (W.length:Int)<9223372036854775808 by omega),M_ (show ¬((4*q:Nat):Int)<(W.length:Int) by omega),cond_true,cond_false];unfold PD;rw[hl,ahU _ (by omega)]
theorem acF(hk:key.length=16\/key.length=32)(hb: ∀x∈key,B8 x):MX.l6 .lim (n,key,0,0,sm,OG,OG,ag6 16 OG,b,tw,ta,out,[],())=some (n,b,tw,key,1,0,sm,RF 256,VP 256,Ou 256,ta,out,PD (QD key),()):=by
 have h0:MX.l6 .lim (n,key,0,0,sm,OG,OG,ag6 16 OG,b,tw,ta,out,[],())=MX.b6 .lim (MX.l6 .lim) (n,key,0,0,sm,OG,OG,ag6 16 OG,b,tw,ta,out,[],()):=MX.q6 _;rw[h0];have hd:(key.length:Int).tdiv 4=((key.length/4:Nat):Int):=by rw[ahl (ag8 _)];simp
 have w1:ag3.wrap ((key.length:Int).tdiv 4)=((key.length/4:Nat):Int):=by rw[hd,wrap64 (by omega) (by omega)]
 have t:=abm (ok:=true) (key:=key) (dn:=0) (mu:=1) (sm:=sm) (b:=b) (tw:=tw) (n:=n) (ta:=ta) (out:=out) (rn:=[]);have s:=acH (kb:=key) (q:=key.length/4) (nk:=((key.length/4:Nat):Int)) (ok:=true) (key:=key) (dn:=0) (mu:=1) (sm:=sm) (sb:=RF 256) (bk:=VP 256) (yb:=Ou 256) (b:=b) (tw:=tw) (n:=n) (ta:=ta) (out:=out) (rn:=[]) (by omega) (by omega);have w:=acI (kb:=key) (nk:=key.length/4) (ok:=true) (key:=key) (dn:=0) (mu:=1) (sm:=sm) (bk:=VP 256) (yb:=Ou 256) (b:=b) (tw:=tw) (n:=n) (ta:=ta) (out:=out) (rn:=[]) (by omega) (by omega) hb;have r:=abl (W:=QD key) (q:=key.length/4+7) (ok:=true) (key:=key) (dn:=0) (mu:=1) (sm:=sm) (sb:=RF 256) (bk:=VP 256) (yb:=Ou 256) (b:=b) (tw:=tw) (n:=n) (ta:=ta) (out:=out) (U4 key hb) (by rw[T_];omega) (by omega);have hs:PX.run .lim (true,())=some 1:=rfl;have hw:(sched (key.length/4) key (3*(key.length/4)+28)).1=QD key:=rfl;simp only[MX.b6,decide_true,ag9,ahb,cond_true,t,ag4,NC (show (key.length:Int)<9223372036854775808 by omega),w1];rw[s];simp only[ag4];rw[w];simp only[ag4];rw[hw,r];simp only[ag4,hs,show ais.wrap (1+ -1)=0 from by decide,decide_true,ag9,cond_false]
end
end Go.AM
end
section
namespace Go.AM
section
variable {ok:Bool} {n dn mu sm four x i t t1 t2 tp tq:Int} {key b tw ta out K was kb T sb bk:List Int} {yb W rn:List (List Int)} {last:Bool}
theorem acE(hb:b.length=16):MX.l7 .lim (0,n,b,K,tw,key,dn,mu,sm,sb,bk,yb,ta,out,rn,())=some (n,UA b K,tw,key,dn,mu,sm,sb,bk,yb,ta,out,rn,()):=by
 have e:=PY (f:=MX.l7 .lim) (fun k b=>((k:Int),n,b,K,tw,key,dn,mu,sm,sb,bk,yb,ta,out,rn,())) (fun k v=>H8 .u8 v (rd 0 K (k:Int))) b hb (fun k hk m' hm hj=>by
  rw[MX.q7];simp only[MX.b7,MV (show (k:Int)<16 by omega),Nj (show (0:Int)<=k by omega) (show (k:Int)<16 by omega),cond_true,QU k (by omega),hj k (ahk _),ag5])
 refine(show _=_ from e).trans ?_;rw[MX.q7];simp only[MX.b7,M_ (show ¬((16:Nat):Int)<16 by decide),cond_false];rfl
theorem abj(hb:V6 b):MX.l8 .lim (0,last,tp,tq,t1,t2,n,b,key,dn,mu,sm,RF 256,bk,yb,K,rn,tw,ta,out,())=some (last,tp,tq,t1,t2,n,tab 16 fun i=>VZ (rd 0 b (i:Int)),K,rn,tw,key,dn,mu,sm,RF 256,bk,yb,ta,out,()):=by
 have e:=PY (f:=MX.l8 .lim) (fun k b=>((k:Int),last,tp,tq,t1,t2,n,b,key,dn,mu,sm,RF 256,bk,yb,K,rn,tw,ta,out,())) (fun k v=>VZ v) b hb.1 (fun k hk m' hm hj=>by
  rw[MX.q8];have h:=hb.at hk;simp only[MX.b8,MV (show (k:Int)<16 by omega),Nj (show (0:Int)<=k by omega) (show (k:Int)<16 by omega),cond_true,QU k (by omega),hj k (ahk _),Nj h.1 h.2,TW h,ag5])
 refine(show _=_ from e).trans ?_;rw[MX.q8];simp only[MX.b8,M_ (show ¬((16:Nat):Int)<16 by decide),cond_false]
theorem adI(hb:b.length=16):MX.l9 .lim (4,0,last,tp,tq,t1,t2,n,b,was,K,rn,tw,key,dn,mu,sm,sb,bk,yb,ta,out,())=some (last,tp,tq,t1,t2,n,tab 16 fun i=>rd 0 was (((i+4*(i%4))%16:Nat):Int),K,rn,tw,key,dn,mu,sm,sb,bk,yb,ta,out,()):=by
 have e:=PY (f:=MX.l9 .lim) (fun k b=>(4,(k:Int),last,tp,tq,t1,t2,n,b,was,K,rn,tw,key,dn,mu,sm,sb,bk,yb,ta,out,())) (fun k v=>rd 0 was (((k+4*(k%4))%16:Nat):Int)) b hb (fun k hk m' hm hj=>by
  rw[MX.q9];have m1:((k:Int)).tmod 4=((k%4:Nat):Int):=by rw[ag7 (ag8 k)];simp
  have w1:ag3.wrap (4*(k:Int).tmod 4)=((4*(k%4):Nat):Int):=by rw[m1,wrap64 (by omega) (by omega)];omega
  have w2:ag3.wrap ((k:Int)+((4*(k%4):Nat):Int))=((k+4*(k%4):Nat):Int):=by rw[wrap64 (by omega) (by omega)];omega
  have w3:ag3.wrap (((k+4*(k%4):Nat):Int)+64)=((k+4*(k%4)+64:Nat):Int):=by rw[wrap64 (by omega) (by omega)];omega
  have m2:(((k+4*(k%4)+64:Nat):Int)).tmod 16=(((k+4*(k%4))%16:Nat):Int):=by rw[ag7 (ag8 _)];omega
  simp only[MX.b9,MV (show (k:Int)<16 by omega),Nj (show (0:Int)<=k by omega) (show (k:Int)<16 by omega),cond_true,QU k (by omega),w1,w2,w3,m2,Nj (show (0:Int)<=(((k+4*(k%4))%16:Nat):Int) by omega) (show (((k+4*(k%4))%16:Nat):Int)<16 by omega),ag5])
 refine(show _=_ from e).trans ?_;rw[MX.q9];simp only[MX.b9,M_ (show ¬((16:Nat):Int)<16 by decide),cond_false]
abbrev Tj:List Int:=[2,3,1,1]
theorem adG(hw:V6 was){i:Nat}(hi:i<16)(hb:b.length=16)(h0:rd 0 b (i:Int)=0):MX.l10 .lim ((i:Int),t,Tj,0,tp,tq,t1,t2,n,key,dn,mu,sm,sb,bk,Ou 256,b,Tj,was,K,rn,tw,ta,out,())=some (t,tp,tq,t1,t2,n,key,dn,mu,sm,sb,bk,Ou 256,b.set i (rd 0 (R_ was) (i:Int)),Tj,was,K,rn,tw,ta,out,()):=by
 have h4: ∀j:Nat,j<4->ag3.wrap (ag3.wrap (ag3.wrap ((i:Int).tdiv 4)*4)+(ag3.wrap ((i:Int)+(j:Int))).tmod 4)=((i/4*4+(i+j)%4:Nat):Int):=by
  intro j hj;have d1:((i:Int)).tdiv 4=((i/4:Nat):Int):=by rw[ahl (ag8 i)];simp
  have d2:ag3.wrap ((i:Int)+(j:Int))=((i+j:Nat):Int):=by rw[wrap64 (by omega) (by omega)];omega
  have d3:(((i+j:Nat):Int)).tmod 4=(((i+j)%4:Nat):Int):=by rw[ag7 (ag8 _)];simp
  rw[d1,d2,d3,wrap64 (n:=((i/4:Nat):Int)) (by omega) (by omega),wrap64 (n:=((i/4:Nat):Int)*4) (by omega) (by omega),wrap64 (by omega) (by omega)];omega
 have hB: ∀j:Nat,j<4->B8 (rd 0 was ((i/4*4+(i+j)%4:Nat):Int)):=fun j hj=>hw.at (by omega)
 have g0:=h4 0 (by omega);have g1:=h4 1 (by omega);have g2:=h4 2 (by omega);have g3:=h4 3 (by omega);have b0:=hB 0 (by omega);have b1:=hB 1 (by omega);have b2:=hB 2 (by omega);have b3:=hB 3 (by omega);rw[show ((0:Nat):Int)=0 from rfl]at g0;rw[show ((1:Nat):Int)=1 from rfl]at g1;rw[show ((2:Nat):Int)=2 from rfl]at g2;rw[show ((3:Nat):Int)=3 from rfl]at g3;have r0:=(TV b0).2.1;have r1:=(TV b1).2.2;have r2:=(TV b2).1;have r3:=(TV b3).1;have step: ∀(c:Int) (j j':Int) (q:Nat) (v:Int) (bb:List Int),bb.length=16->0<=j->j<4->rd 0 Tj j=c->0<=c->c<16->ag3.wrap (j+1)=j'->ag3.wrap (ag3.wrap (ag3.wrap ((i:Int).tdiv 4)*4)+(ag3.wrap ((i:Int)+j)).tmod 4)=(q:Int)->q<16->rd 0 (rd OG (Ou 256) c) (rd 0 was (q:Int))=v->B8 (rd 0 was (q:Int))->
   MX.l10 .lim ((i:Int),t,Tj,j,tp,tq,t1,t2,n,key,dn,mu,sm,sb,bk,Ou 256,bb,Tj,was,K,rn,tw,ta,out,())=MX.l10 .lim ((i:Int),t,Tj,j',tp,tq,t1,t2,n,key,dn,mu,sm,sb,bk,Ou 256,bb.set i (H8 .u8 (rd 0 bb (i:Int)) v),Tj,was,K,rn,tw,ta,out,()):=by
  intro c j j' q v bb hbb h1 h2 h3 h4 h5 h6 h7 h8 h9 h10;rw[MX.q10];simp only[MX.b10,MV h2,Nj h1 h2,h3,Nj h4 h5,h7,Nj (show (0:Int)<=i by omega) (show (i:Int)<16 by omega),Nj (show (0:Int)<=(q:Int) by omega) (show (q:Int)<16 by omega),Nj h10.1 h10.2,h9,h6,cond_true,ag5]
 rw[step 2 0 1 _ _ b hb (by omega) (by omega) rfl (by omega) (by omega) rfl g0 (by omega) r0 b0];rw[step 3 1 2 _ _ _ (by simp[hb]) (by omega) (by omega) rfl (by omega) (by omega) rfl g1 (by omega) r1 b1];rw[step 1 2 3 _ _ _ (by simp[hb]) (by omega) (by omega) rfl (by omega) (by omega) rfl g2 (by omega) r2 b2];rw[step 1 3 4 _ _ _ (by simp[hb]) (by omega) (by omega) rfl (by omega) (by omega) rfl g3 (by omega) r3 b3];rw[MX.q10];simp only[MX.b10,M_ (show ¬(4:Int)<4 by omega),cond_false];have hl: ∀v,i<(b.set i v).length:=fun v=>by simp[hb];omega
 simp only[Ur (show i<b.length by omega),Ur (hl _),ahK,h0];unfold R_;rw[Rt hi];simp only[ahz]
theorem aei(hw:V6 was)(hb:b.length=16):MX.l11 .lim (0,tp,tq,t1,t2,n,key,dn,mu,sm,sb,bk,Ou 256,b,Tj,was,K,rn,tw,ta,out,())=some (tp,tq,t1,t2,n,R_ was,K,rn,tw,key,dn,mu,sm,sb,bk,Ou 256,ta,out,()):=by
 have e:=PY (f:=MX.l11 .lim) (fun k b=>((k:Int),tp,tq,t1,t2,n,key,dn,mu,sm,sb,bk,Ou 256,b,Tj,was,K,rn,tw,ta,out,())) (fun k v=>rd 0 (R_ was) (k:Int)) b hb (fun k hk m' hm hj=>by
  rw[MX.q11];have hm:=fun h0=>adG (tp:=tp) (tq:=tq) (t1:=t1) (t2:=t2) (key:=key) (dn:=dn) (mu:=mu) (sm:=sm) (sb:=sb) (bk:=bk) (K:=K) (rn:=rn) (tw:=tw) (t:=(k:Int)) (n:=n) (ta:=ta) (out:=out) hw (b:=m'.set k 0) hk (by simp[hm]) h0
  simp only[MX.b11,MV (show (k:Int)<16 by omega),Nj (show (0:Int)<=k by omega) (show (k:Int)<16 by omega),cond_true,ag5];rw[hm (Ur (by omega))];simp only[ag4,QU k (by omega),ahK])
 refine(show _=_ from e).trans ?_;rw[MX.q11];simp only[MX.b11,M_ (show ¬((16:Nat):Int)<16 by decide),cond_false];have:(tab 16 fun i=>rd 0 (R_ was) (i:Int))=R_ was:=(Xy P7).symm;rw[this]
theorem abk(hb:b.length=16):MX.l12 .lim (0,tp,tq,t1,t2,n,b,K,rn,tw,key,dn,mu,sm,sb,bk,yb,ta,out,())=some (tp,tq,t1,t2,n,rn,UA b K,tw,key,dn,mu,sm,sb,bk,yb,ta,out,()):=by
 have e:=PY (f:=MX.l12 .lim) (fun k b=>((k:Int),tp,tq,t1,t2,n,b,K,rn,tw,key,dn,mu,sm,sb,bk,yb,ta,out,())) (fun k v=>H8 .u8 v (rd 0 K (k:Int))) b hb (fun k hk m' hm hj=>by
  rw[MX.q12];simp only[MX.b12,MV (show (k:Int)<16 by omega),Nj (show (0:Int)<=k by omega) (show (k:Int)<16 by omega),cond_true,QU k (by omega),hj k (ahk _),ag5])
 refine(show _=_ from e).trans ?_;rw[MX.q12];simp only[MX.b12,M_ (show ¬((16:Nat):Int)<16 by decide),cond_false];rfl
theorem acG(b:List Int):(tab 16 fun i=>rd 0 (tab 16 fun i=>VZ (rd 0 b (i:Int))) (((i+4*(i%4))%16:Nat):Int))=TI b:=P_ fun k hk=>by rw[Rt (by omega)]
theorem Zy(hb:V6 b):V6 (TI b):=⟨P7,Yc fun k hk=>aau (hb.at (by omega))⟩
theorem aeh{r:Nat}(hW:Words W)(hl:W.length=4*(r+1))(hr:r<=100)(hr0:0<r)(hb:b.length=16):
  MX.ZI .lim (1,((r:Nat):Int),((r:Nat):Int),0,n,PD W,Tt W b 0,tw,key,dn,mu,sm,RF 256,bk,Ou 256,ta,out,())=some (n,Tt W b r,tw,key,dn,mu,sm,RF 256,bk,Ou 256,ta,out,PD W,()):=by
 have hn:(PD W).length=r+1:=by unfold PD;simp;omega
 have e:=Oh (f:=MX.ZI .lim) (fun k=>(1,(r:Int),(r:Int),(k:Int),n,PD W,Tt W b k,tw,key,dn,mu,sm,RF 256,bk,Ou 256,ta,out,())) (n:=r) (fun k hk=>by
  rw[MX.q13];have hB:=WB W b k;have hK:rd WO (PD W) (1+(k:Int))=TD W (k+1):=by
   rw[show (1+(k:Int))=((k+1:Nat):Int) by omega,Qz (by omega)];unfold PD;simp
  have w1:ag3.wrap (((PD W).length:Int)-2)=(r:Int)-1:=by rw[wrap64 (by omega) (by omega)];omega
  have hlast:decide ((k:Int)=(r:Int)-1)=decide (k+2=W.length/4):=by
   by_cases h:k+1=r
   ·rw[MV (by omega),MV (by omega)]
   ·rw[M_ (by omega),M_ (by omega)]
  simp only[MX.b13,MV (show (k:Int)<(r:Int) by omega),Nj (show (0:Int)<=k by omega) (show (k:Int)<(r:Int) by omega),NC (show ((PD W).length:Int)<9223372036854775808 by omega),cond_true,hK,w1,hlast,abj hB,ag4];rw[adI P7];simp only[ag4,acG];have hs:=Zy hB;have hc:((((ag6 4 (0:Int)).set 0 2).set 1 3).set 2 1).set 3 1=Tj:=rfl;show _=MX.ZI .lim (1,(r:Int),(r:Int),((k+1:Nat):Int),n,PD W,ZX (decide (k+2=W.length/4)) (Tt W b k) (TD W (k+1)),tw,key,dn,mu,sm,RF 256,bk,Ou 256,ta,out,());unfold ZX;cases decide (k+2=W.length/4)with
  |true=>
   simp only[ag9,cond_false,cond_true];rw[abk hs.1];simp only[ag4,QU k (by omega)]
  |false=>
   simp only[ahb,cond_false,cond_true,hc];rw[aei hs hs.1];simp only[ag4];have hml:(R_ (TI (Tt W b k))).length=16:=P7;rw[abk hml];simp only[ag4,QU k (by omega)])
 refine(show _=_ from e).trans ?_;rw[MX.q13];simp only[MX.b13,M_ (show ¬(r:Int)<(r:Int) by omega),cond_false]
end
end Go.AM
end
section
namespace Go.AM
section
variable {ok:Bool} {n dn mu sm four x i t t1 t2 tp tq:Int} {key b tw ta out K was kb T sb bk:List Int} {yb W rn:List (List Int)} {last:Bool}
theorem abn{r:Nat}(hW:Words W)(hl:W.length=4*(r+1))(hr:r<=100)(hr0:0<r)(hb:b.length=16){β:Type}{Q:_->Option β}:
  (bif inB 0 ((PD W).length:Int)then
   ((MX.l7 .lim (0,n,b,rd WO (PD W) 0,tw,key,dn,mu,sm,RF 256,bk,Ou 256,ta,out,PD W,())).bind fun (n,b,tw,key,dn,mu,sm,sb,bk,yb,ta,out,rn,())=>
    bif sS 1 (rn.length:Int) (rn.length:Int)then bif vZ ((rn.length:Int)-1)then(MX.ZI .lim (1,((rn.length:Int)-1),((rn.length:Int)-1),0,n,rn,b,tw,key,dn,mu,sm,sb,bk,yb,ta,out,())).bind Q else none else none)else none)=Q (n,Tt W b r,tw,key,dn,mu,sm,RF 256,bk,Ou 256,ta,out,PD W,()):=by
 have hn:(PD W).length=r+1:=by unfold PD;simp;omega
 have h0:rd WO (PD W) 0=TD W 0:=by
  have:=Qz (d:=WO) (show 0<(PD W).length by omega);rw[show ((0:Nat):Int)=0 from rfl]at this;rw[this];unfold PD;simp
 rw[cond_pos (Nj (by omega) (by omega)),h0,acE hb];simp only[ag4];rw[cond_pos (Nq (by omega) (by omega) (by omega)),cond_pos (NC (by omega)),show ((PD W).length:Int)-1=(r:Int) by omega];have:=aeh (tw:=tw) (key:=key) (dn:=dn) (mu:=mu) (sm:=sm) (bk:=bk) (n:=n) (ta:=ta) (out:=out) hW hl hr hr0 hb;rw[show Tt W b 0=UA b (TD W 0)from rfl]at this;rw[this];rfl
theorem acD(hk:key.length=16\/key.length=32)(hkb: ∀x∈key,B8 x)(hb:b.length=16):
  MX.Y1 .lim (b,n,key,0,0,sm,OG,OG,ag6 16 OG,ta,out,[],())=some (n,encS key b,key,1,0,sm,RF 256,VP 256,Ou 256,ta,out,PD (QD key),()):=by
 have h0:MX.Y1 .lim (b,n,key,0,0,sm,OG,OG,ag6 16 OG,ta,out,[],())=MX.b14 .lim (MX.Y1 .lim) (b,n,key,0,0,sm,OG,OG,ag6 16 OG,ta,out,[],()):=MX.q14 _;rw[h0];have hr:=acF (sm:=sm) (key:=key) (b:=b) (tw:=WO) (n:=n) (ta:=ta) (out:=out) hk hkb;have hW:=U4 key hkb;have hl:(QD key).length=4*((key.length/4+6)+1):=by rw[T_];omega
 have hq:(QD key).length/4-1=key.length/4+6:=by omega
 unfold MX.b14;simp only[hr,ag4];refine(abn (Q:=fun (n,b,tw,key,dn,mu,sm,sb,bk,yb,ta,out,rn,())=>some (n,b,key,dn,mu,sm,sb,bk,yb,ta,out,rn,())) hW hl (by omega) (by omega) hb).trans ?_;unfold encS;rw[hq]
theorem acC(hk:key.length=16\/key.length=32)(hkb: ∀x∈key,B8 x)(hb:b.length=16):
  MX.Y1 .lim (b,n,key,1,0,sm,RF 256,VP 256,Ou 256,ta,out,PD (QD key),())=some (n,encS key b,key,1,0,sm,RF 256,VP 256,Ou 256,ta,out,PD (QD key),()):=by
 have h0:MX.Y1 .lim (b,n,key,1,0,sm,RF 256,VP 256,Ou 256,ta,out,PD (QD key),())=MX.b14 .lim (MX.Y1 .lim) (b,n,key,1,0,sm,RF 256,VP 256,Ou 256,ta,out,PD (QD key),()):=MX.q14 _;rw[h0];have hr:MX.l6 .lim (n,key,1,0,sm,RF 256,VP 256,Ou 256,b,WO,ta,out,PD (QD key),())=some (n,b,WO,key,1,0,sm,RF 256,VP 256,Ou 256,ta,out,PD (QD key),()):=by
  rw[MX.q6];simp only[MX.b6,M_ (show ¬(1:Int)=0 by omega),ahb,ag9,cond_false]
 have hW:=U4 key hkb;have hl:(QD key).length=4*((key.length/4+6)+1):=by rw[T_];omega
 have hq:(QD key).length/4-1=key.length/4+6:=by omega
 unfold MX.b14;simp only[hr,ag4];refine(abn (Q:=fun (n,b,tw,key,dn,mu,sm,sb,bk,yb,ta,out,rn,())=>some (n,b,key,dn,mu,sm,sb,bk,yb,ta,out,rn,())) hW hl (by omega) (by omega) hb).trans ?_;unfold encS;rw[hq]
end
end Go.AM
end
section
namespace Go.AM
abbrev Bs(s:List Int):Prop:= ∀x∈s,B8 x
abbrev Nw:Nat:=9223372036854775808
def keyE(key:List Int):Bool:=decide (key.length=16\/key.length=32)
noncomputable def encR(key b:List Int):List Int×Int:=if key.length=16\/key.length=32 then(if b.length=16 then(encS key b,0)else([],10))else([],13)
theorem aco{b:List Int}(h:b.length=16):(b.drop 0).take 16=b:=by rw[ahx,ahf (by omega)]
theorem UF{key b:List Int}(hk:key.length<Nw)(hb:b.length<Nw)(hkb:Bs key):MZ.run .lim (key,b,())=some ((encR key b).1,(encR key b).2,()):=by
 unfold encR;simp only[MZ.run,Nh hk,Nh hb,cond_true,ahh];by_cases h1:key.length=16\/key.length=32
 ·have:(!decide ((key.length:Int)=16)&& !decide ((key.length:Int)=32))=false:=by
   rcases h1 with h|h
   ·rw[MV (show (key.length:Int)=16 by omega)];rfl
   ·rw[MV (show (key.length:Int)=32 by omega),ag9,ahp]
  rw[this,if_pos h1];simp only[cond_false];by_cases h2:b.length=16
  ·rw[MV (show (b.length:Int)=16 by omega),if_pos h2];simp only[ag9,cond_false,h2];rw[show (ahH 1 16&&ahH 16 16)=true from rfl,cond_true,ahf (by omega),acv h1 hkb h2];simp only[ag4];rw[aco (SH _ _).1]
  ·rw[M_ (show ¬(b.length:Int)=16 by omega),if_neg h2];rfl
 ·rw[M_ (show ¬(key.length:Int)=16 by omega),M_ (show ¬(key.length:Int)=32 by omega),if_neg h1];rfl
theorem aaY{key:List Int}(hk:key.length<Nw):P5.run .lim (key,())=some (keyE key):=by
 simp only[P5.run,Nh hk,cond_true,ahh,OV];unfold keyE;congr 1;exact decide_eq_decide.2 (by omega)
theorem Xq{key b:List Int}(hk:key.length<Nw)(hb:b.length<Nw):O4.run .lim (key,b,())=some (if key.length=16\/key.length=32 then(if b.length=16 then 0 else 10)else 13):=by
 simp only[O4.run,aaY hk,ag4,Nh hb];unfold keyE;by_cases h1:key.length=16\/key.length=32
 ·rw[MV h1,if_pos h1];by_cases h2:b.length=16
  ·rw[MV (show (b.length:Int)=16 by omega),if_pos h2];rfl
  ·rw[M_ (show ¬(b.length:Int)=16 by omega),if_neg h2];rfl
 ·rw[M_ h1,if_neg h1];rfl
theorem Us{key b:List Int}(hk:key.length<Nw)(hb:b.length<Nw)(hkb:Bs key):OC.run .lim (key,b,())=some ((encR key b).1,(encR key b).2,()):=by
 simp only[OC.run,Xq hk hb,ag4];unfold encR;by_cases h1:key.length=16\/key.length=32
 ·rw[if_pos h1,if_pos h1];by_cases h2:b.length=16
  ·rw[if_pos h2,if_pos h2,X_ h1 hkb];simp only[ag4,aan h1 hkb h2];rfl
  ·rw[if_neg h2,if_neg h2];rfl
 ·rw[if_neg h1,if_neg h1];rfl
def YV:Nat->List Int->List Int
 |0,m=>m
 |i+1,m=>bif !decide (rd 0 (m.set i (aha.wrap (rd 0 m (i:Int)+1))) (i:Int)=0)then m.set i (aha.wrap (rd 0 m (i:Int)+1))else YV i (m.set i (aha.wrap (rd 0 m (i:Int)+1)))
theorem YW: ∀i m,(YV i m).length=m.length
 |0,_=>rfl
 |i+1,m=>by
  rw[YV];cases decide (rd 0 (m.set i (aha.wrap (rd 0 m (i:Int)+1))) (i:Int)=0)
  ·simp
  ·simp[YW i]
noncomputable def P9(key at_:List Int):Nat->List Int×List Int
 |0=>([],at_)
 |k+1=>((P9 key at_ k).1++encS key (P9 key at_ k).2,YV 16 (P9 key at_ k).2)
theorem RX(key at_:List Int): ∀k,(P9 key at_ k).1.length=16*k/\(P9 key at_ k).2.length=at_.length
 |0=>⟨rfl,rfl⟩
 |k+1=>by
  obtain⟨h1,h2⟩:=RX key at_ k;exact⟨by rw[P9,ag_,h1,(SH _ _).1];omega,by rw[P9,YW,h2]⟩
noncomputable def Z7(key at_:List Int)(n:Nat):List Int:=(P9 key at_ ((n+15)/16)).1.take n
theorem U0(key at_:List Int)(n:Nat):(Z7 key at_ n).length=n:=by unfold Z7;rw[ahc,(RX _ _ _).1];omega
section
variable {n dn mu sm:Int} {key ta out sb bk w:List Int} {yb rn:List (List Int)}
theorem adn: ∀(i:Nat),i<=16-> ∀(ta:List Int),ta.length=16->MX.l15 .lim (n,(i:Int)-1,key,dn,mu,sm,sb,bk,yb,ta,out,rn,())=some (n,key,dn,mu,sm,sb,bk,yb,YV i ta,out,rn,())
 |0,_,ta,ht=>by
  rw[MX.q15];simp only[MX.b15,M_ (show ¬(((0:Nat):Int)-1>=0) by omega),cond_false];rfl
 |i+1,hi,ta,ht=>by
  have w1:ag3.wrap ((i:Int)-1)=(i:Int)-1:=wrap64 (by omega) (by omega);have ih:=adn i (by omega) (ta.set i (aha.wrap (rd 0 ta (i:Int)+1))) (by simpa using ht);rw[show ((i+1:Nat):Int)-1=(i:Int) by omega,MX.q15,YV];simp only[MX.b15,MV (show (i:Int)>=0 by omega),Nj (show (0:Int)<=i by omega) (show (i:Int)<16 by omega),cond_true,ag5,w1,ih];cases decide (rd 0 (ta.set i (aha.wrap (rd 0 ta (i:Int)+1))) (i:Int)=0)<;>rfl
theorem adl: ∀(i:Nat),i<=16-> ∀(ta:List Int),ta.length=16->NG.l0 .lim (n,out,(i:Int)-1,w,ta,())=some (n,out,w,YV i ta,())
 |0,_,ta,ht=>by
  rw[NG.q0];simp only[NG.b0,M_ (show ¬(((0:Nat):Int)-1>=0) by omega),cond_false];rfl
 |i+1,hi,ta,ht=>by
  have w1:ag3.wrap ((i:Int)-1)=(i:Int)-1:=wrap64 (by omega) (by omega);have ih:=adl i (by omega) (ta.set i (aha.wrap (rd 0 ta (i:Int)+1))) (by simpa using ht);rw[show ((i+1:Nat):Int)-1=(i:Int) by omega,NG.q0,YV];simp only[NG.b0,MV (show (i:Int)>=0 by omega),ahY,ht,Nj (show (0:Int)<=i by omega) (show (i:Int)<((16:Nat):Int) by omega),cond_true,ag5,w1,ih];cases decide (rd 0 (ta.set i (aha.wrap (rd 0 ta (i:Int)+1))) (i:Int)=0)<;>rfl
end
def aa4(key at_:List Int)(n:Int):Int:=if n<0\/n>65536 then 13 else if key.length=16\/key.length=32 then(if at_.length=16 then 0 else 10)else 13
noncomputable def aa5(key at_:List Int)(n:Int):List Int:=if aa4 key at_ n=0 then Z7 key at_ n.toNat else []
theorem adF{key at_:List Int}{q:Nat}(hk:key.length=16\/key.length=32)(hkb:Bs key)(ha:at_.length=16)(hq:q<=65536):
  MX.l16 .lim ((q:Int),key,0,0,0,OG,OG,ag6 16 OG,at_,[],[],())=some ((q:Int),(P9 key at_ ((q+15)/16)).1,()):=by
 have step: ∀(k:Nat) (dn mu:Int) (sb bk:List Int) (yb rn:List (List Int)),k<(q+15)/16->MX.Y1 .lim ((P9 key at_ k).2,(q:Int),key,dn,mu,0,sb,bk,yb,(P9 key at_ k).2,(P9 key at_ k).1,rn,())=some ((q:Int),encS key (P9 key at_ k).2,key,1,0,0,RF 256,VP 256,Ou 256,(P9 key at_ k).2,(P9 key at_ k).1,PD (QD key),())->
   MX.l16 .lim ((q:Int),key,dn,mu,0,sb,bk,yb,(P9 key at_ k).2,(P9 key at_ k).1,rn,())=MX.l16 .lim ((q:Int),key,1,0,0,RF 256,VP 256,Ou 256,(P9 key at_ (k+1)).2,(P9 key at_ (k+1)).1,PD (QD key),()):=by
  intro k dn mu sb bk yb rn hk e;obtain⟨h1,h2⟩:=RX key at_ k;have hi:=adn (n:=(q:Int)) (dn:=1) (mu:=0) (sm:=0) (key:=key) (sb:=RF 256) (bk:=VP 256) (yb:=Ou 256) (rn:=PD (QD key)) (out:=(P9 key at_ k).1++encS key (P9 key at_ k).2) 16 (by omega) (P9 key at_ k).2 (by omega);rw[show ((16:Nat):Int)-1=15 from rfl]at hi;rw[MX.q16];simp only[MX.b16,Nh (show (P9 key at_ k).1.length<9223372036854775808 by omega),MV (show (((P9 key at_ k).1.length:Nat):Int)<(q:Int) by omega),cond_true,e,ag4,aco (SH key (P9 key at_ k).2).1,(SH key (P9 key at_ k).2).1,hi];rw[cond_pos (MV (by omega))];rfl
 have fin: ∀dn mu sb bk yb rn,MX.l16 .lim ((q:Int),key,dn,mu,0,sb,bk,yb,(P9 key at_ ((q+15)/16)).2,(P9 key at_ ((q+15)/16)).1,rn,())=some ((q:Int),(P9 key at_ ((q+15)/16)).1,()):=by
  intro dn mu sb bk yb rn;obtain⟨h1,h2⟩:=RX key at_ ((q+15)/16);rw[MX.q16];simp only[MX.b16,Nh (show (P9 key at_ ((q+15)/16)).1.length<9223372036854775808 by omega),M_ (show ¬(((P9 key at_ ((q+15)/16)).1.length:Nat):Int)<(q:Int) by omega),cond_true,cond_false]
 by_cases h0:q=0
 ·subst h0;exact fin 0 0 OG OG (ag6 16 OG) []
 ·obtain⟨p,hp⟩: ∃p,(q+15)/16=p+1:=⟨(q+15)/16-1,by omega⟩;have e0:=step 0 0 0 OG OG (ag6 16 OG) [] (by omega) (acD (n:=(q:Int)) (sm:=0) (ta:=at_) (out:=[]) hk hkb ha);have e1:=Oh (f:=MX.l16 .lim) (fun k=>((q:Int),key,1,0,0,RF 256,VP 256,Ou 256,(P9 key at_ (k+1)).2,(P9 key at_ (k+1)).1,PD (QD key),())) (n:=p) (fun k hkp=>step (k+1) 1 0 (RF 256) (VP 256) (Ou 256) (PD (QD key)) (by omega) (acC (n:=(q:Int)) (sm:=0) (ta:=(P9 key at_ (k+1)).2) (out:=(P9 key at_ (k+1)).1) hk hkb (by rw[(RX _ _ _).2];exact ha)));refine e0.trans (e1.trans ?_);rw[<-hp];exact fin _ _ _ _ _ _
theorem ZA{key at_:List Int}{n:Int}(hk:key.length<Nw)(ha:at_.length<Nw)(hkb:Bs key):MX.run .lim (key,at_,n,())=some (aa5 key at_ n,aa4 key at_ n,()):=by
 unfold aa5 aa4;simp only[MX.run,Nh hk,Nh ha,cond_true,ahh,OV];by_cases h0:n<0\/n>65536
 ·rw[MV h0,if_pos h0,if_neg (by decide)];rfl
 ·rw[M_ h0,if_neg h0];simp only[cond_false];by_cases h1:key.length=16\/key.length=32
  ·have:(!decide ((key.length:Int)=16)&& !decide ((key.length:Int)=32))=false:=by
    rcases h1 with h|h
    ·rw[MV (show (key.length:Int)=16 by omega)];rfl
    ·rw[MV (show (key.length:Int)=32 by omega),ag9,ahp]
   rw[this,if_pos h1];simp only[cond_false];by_cases h2:at_.length=16
   ·rw[MV (show (at_.length:Int)=16 by omega),if_pos h2,if_pos rfl];simp only[ag9,cond_false,h2];have hn:n=((n.toNat:Nat):Int):=by omega
    have hl:=adF (q:=n.toNat) h1 hkb h2 (by omega);rw[<-hn]at hl;rw[show (ahH 1 16&&ahH 16 16)=true from rfl,cond_true,ahf (by omega),hl];simp only[ag4];have:=(RX key at_ ((n.toNat+15)/16)).1;rw[cond_pos (Nq (by omega) (by omega) (by omega)),ahx,aip];rfl
   ·rw[M_ (show ¬(at_.length:Int)=16 by omega),if_neg h2,if_neg (by decide)];rfl
  ·rw[M_ (show ¬(key.length:Int)=16 by omega),M_ (show ¬(key.length:Int)=32 by omega),if_neg h1,if_neg (by decide)];rfl
theorem Z5{key at_:List Int}{n:Int}(hk:key.length<Nw)(ha:at_.length<Nw)(hkb:Bs key):NG.run .lim (key,at_,n,())=some (aa5 key at_ n,aa4 key at_ n,()):=by
 unfold aa5 aa4;simp only[NG.run,OV,Xq hk ha,ag4];by_cases h0:n<0\/n>65536
 ·rw[MV h0,if_pos h0,if_neg (show ¬(13:Int)=0 by decide)];rfl
 ·rw[M_ h0,if_neg h0];simp only[cond_false];by_cases h1:key.length=16\/key.length=32
  ·rw[if_pos h1];by_cases h2:at_.length=16
   ·rw[if_pos h2,X_ h1 hkb];simp only[ag4,decide_true,ag9,cond_false];have hn:n=((n.toNat:Nat):Int):=by omega
    generalize hq:n.toNat=q at hn;subst hn;have e:=Oh (f:=NG.l1 .lim) (fun k=>((q:Int),(P9 key at_ k).1,(QD key).flatten,(P9 key at_ k).2,())) (n:=(q+15)/16) (fun k hk=>by
     obtain⟨g1,g2⟩:=RX key at_ k;have hi:=adl (n:=(q:Int)) (w:=(QD key).flatten) (out:=(P9 key at_ k).1++encS key (P9 key at_ k).2) 16 (by omega) (P9 key at_ k).2 (by omega);rw[show ((16:Nat):Int)-1=15 from rfl]at hi;rw[NG.q1];simp only[NG.b1,Nh (show (P9 key at_ k).1.length<9223372036854775808 by omega),MV (show (((P9 key at_ k).1.length:Nat):Int)<(q:Int) by omega),cond_true,aan h1 hkb (show (P9 key at_ k).2.length=16 by omega),ag4,(SH key (P9 key at_ k).2).1,hi];rw[cond_pos (MV (by unfold maxStr;omega))];rfl)
    rw[show (P9 key at_ 0).1=[]from rfl,show (P9 key at_ 0).2=at_ from rfl]at e;obtain⟨g1,g2⟩:=RX key at_ ((q+15)/16);rw[e,NG.q1];simp only[NG.b1,Nh (show (P9 key at_ ((q+15)/16)).1.length<9223372036854775808 by omega),M_ (show ¬(((P9 key at_ ((q+15)/16)).1.length:Nat):Int)<(q:Int) by omega),cond_true,cond_false,ag4];rw[cond_pos (Nq (by omega) (by omega) (by omega)),if_pos trivial];congr 2
   ·rw[if_neg h2,if_neg (show ¬(10:Int)=0 by decide)];rfl
  ·rw[if_neg h1,if_neg (show ¬(13:Int)=0 by decide)];rfl
end Go.AM
end
section
namespace Go.AM
theorem SS(n:Int):ahq.wrap n=n%4294967296:=by unfold ain;simp[aik,ail]
theorem SX(n:Int):ahg.wrap n=n%18446744073709551616:=by unfold ain;simp[aik,ail]
theorem ZV{w x y:Nat}(hx:x<2^w)(hy:y<2^w):(aho w (x:Int) ||| aho w (y:Int)).toNat=x ||| y:=by
 rw[BitVec.toNat_or,ahI,ahI];have e: ∀z:Nat,z<2^w->((z:Int)%((2^w:Nat):Int)).toNat=z:=fun z hz=>by rw[<-Int.natCast_emod,ag5,Nat.mod_eq_of_lt hz]
 rw[e x hx,e y hy]
theorem ZU{a b m:Nat}(h:b<2^m):2^m*a ||| b=2^m*a+b:=(Nat.two_pow_add_eq_or_of_lt h a).symm
theorem abE{a b:Nat}(m:Nat)(h:b<2^m)(hm:2^m*a+b<4294967296):KY .u32 ((2^m*a:Nat):Int) (b:Int)=((2^m*a+b:Nat):Int):=by
 show ahq.wrap ((aho 32 ((2^m*a:Nat):Int) ||| aho 32 (b:Int)).toNat:Int)=_;rw[ZV (ahn (ahV _ _) hm) (ahn (ah1 _ _) hm),ZU h,SS];omega
theorem aeI{a b:Nat}(m:Nat)(h:b<2^m)(hm:2^m*a+b<9223372036854775808):KY .i64 ((2^m*a:Nat):Int) (b:Int)=((2^m*a+b:Nat):Int):=by
 show ag3.wrap ((aho 64 ((2^m*a:Nat):Int) ||| aho 64 (b:Int)).toNat:Int)=_;have h1:2^m*a<2^64:=ahn (ahV _ b) (aib hm (by decide));have h2:b<2^64:=ahn (ah1 _ (2^m*a)) (aib hm (by decide));rw[ZV h1 h2,ZU h,wrap64 (by omega) (by omega)]
theorem Vk{a:Int}(h:B8 a): ∃n:Nat,a=(n:Int)/\n<256:=⟨a.toNat,by have:=h.1;omega,by have:=h.1;have:=h.2;omega⟩
theorem ad2{a b:Int}(ha:B8 a)(hb:B8 b):KY .i64 (Jd .i64 (ag3.wrap a) 8) (ag3.wrap b)=a*256+b:=by
 obtain⟨x,rfl,hx⟩:=Vk ha;obtain⟨y,rfl,hy⟩:=Vk hb;rw[wrap64 (by omega) (by omega),wrap64 (by omega) (by omega)];have e:Jd .i64 (x:Int) 8=((2^8*x:Nat):Int):=by
  show ag3.wrap ((x:Int)*2^8)=_;rw[wrap64 (by omega) (by omega)];omega
 rw[e,aeI 8 (by omega) (by omega)];omega
theorem abT{a b:Int}(ha:B8 a)(hb:B8 b):ag3.wrap (ag3.wrap (ag3.wrap a*256)+ag3.wrap b)=a*256+b:=by
 unfold B8 at ha hb;rw[wrap64 (n:=a) (by omega) (by omega),wrap64 (n:=b) (by omega) (by omega),wrap64 (n:=a*256) (by omega) (by omega),wrap64 (by omega) (by omega)]
theorem ace{x:Nat}(hx:x<256)(m:Nat)(hm:m<=24):Jd .u32 (x:Int) (m:Int)=((2^m*x:Nat):Int):=by
 show ahq.wrap ((x:Int)*2^min ((m:Int).toNat) 32)=_;rw[ag5,ah2 (by omega),SS];have h1:2^m<=2^24:=ahC (by decide) hm;have h2:2^m*x<4294967296:=ahn (Nat.mul_le_mul h1 (Nat.le_of_lt_succ (show x<255+1 by omega))) (by decide);rw[show (x:Int)*2^m=((2^m*x:Nat):Int) by rw[Nat.mul_comm];simp];omega
theorem aeZ{a b c d:Int}(ha:B8 a)(hb:B8 b)(hc:B8 c)(hd:B8 d):
  KY .u32 (KY .u32 (KY .u32 (Jd .u32 (ahq.wrap a) 24) (Jd .u32 (ahq.wrap b) 16)) (Jd .u32 (ahq.wrap c) 8)) (ahq.wrap d)=((a*256+b)*256+c)*256+d:=by
 obtain⟨x,rfl,hx⟩:=Vk ha;obtain⟨y,rfl,hy⟩:=Vk hb;obtain⟨z,rfl,hz⟩:=Vk hc;obtain⟨t,rfl,ht⟩:=Vk hd;have w: ∀n:Nat,n<256->ahq.wrap (n:Int)=(n:Int):=fun n hn=>by rw[SS];omega
 rw[w x hx,w y hy,w z hz,w t ht,show (24:Int)=((24:Nat):Int)from rfl,show (16:Int)=((16:Nat):Int)from rfl,show (8:Int)=((8:Nat):Int)from rfl,
  ace hx 24 (by decide),ace hy 16 (by decide),ace hz 8 (by decide),abE 24 (by omega) (by omega),
  show ((2^24*x+2^16*y:Nat):Int)=((2^16*(256*x+y):Nat):Int) by omega,abE 16 (by omega) (by omega),
  show ((2^16*(256*x+y)+2^8*z:Nat):Int)=((2^8*((256*x+y)*256+z):Nat):Int) by omega,abE 8 (by omega) (by omega)]
 omega
theorem O8(x:Int)(k m:Nat)(K:IntKind)(hm:m<=K.bits):Je K x (m:Int)=x/2^m:=by
 show x.fdiv (2^min ((m:Int).toNat) K.bits)=_;rw[ag5,ah2 hm,Int.fdiv_eq_ediv_of_nonneg _ (by exact Int.le_of_lt (Int.pow_pos (by decide)))]
end Go.AM
end
section
namespace Go.AM
abbrev FF:=Int×List Int
abbrev f0:FF:=((0:Int),([]:List Int))
def OJ(s:List Int):Int:=s.foldl (fun n c=>n*256+c) 0
theorem Ye(s:List Int)(c:Int):OJ (s++[c])=OJ s*256+c:=by unfold OJ;rw[List.foldl_append];rfl
theorem WJ{s:List Int}(hs:Bs s): ∀k,k<=s.length->0<=OJ (s.take k)/\OJ (s.take k)<256^k:=by
 intro k
 induction k with
 |zero=>intro _;simp[OJ]
 |succ k ih=>
  intro hk;have h:=ih (by omega);rw[Vb (d:=(0:Int)) (by omega),Ye,aio];have hc:=hs _ (Ol (d:=(0:Int)) (i:=(k:Int)) (by omega) (by omega));omega
theorem ad3{k:Nat}(h:k<=7):(256:Int)^k<=72057594037927936:=by
 have h1:=ahC (n:=256) (by decide) h;have h2:((256^k:Nat):Int)=(256:Int)^k:=by rw[Int.natCast_pow];rfl
 omega
theorem adU{a b:Nat}(m:Nat)(h:b<2^m)(hm:2^m*a+b<18446744073709551616):KY .u64 ((2^m*a:Nat):Int) (b:Int)=((2^m*a+b:Nat):Int):=by
 show ahg.wrap ((aho 64 ((2^m*a:Nat):Int) ||| aho 64 (b:Int)).toNat:Int)=_;rw[ZV (ahn (ahV _ b) hm) (ahn (ah1 _ (2^m*a)) hm),ZU h,SX];omega
theorem ad_{n c:Int}(h0:0<=n)(h1:n<72057594037927936)(hc:B8 c):KY .u64 (Jd .u64 n 8) (ahg.wrap c)=n*256+c:=by
 obtain⟨x,rfl⟩:=ahS h0;obtain⟨y,rfl,hy⟩:=Vk hc;have e:Jd .u64 (x:Int) 8=((2^8*x:Nat):Int):=by
  show ahg.wrap ((x:Int)*2^8)=_;rw[SX];omega
 have e2:ahg.wrap (y:Int)=(y:Int):=by rw[SX];omega
 rw[e,e2,adU 8 (by omega) (by omega)];omega
theorem Zj{s:List Int}(hs:Bs s)(hl:s.length<=8){k:Nat}(hk:k<s.length):KY .u64 (Jd .u64 (OJ (s.take k)) 8) (ahg.wrap (rd 0 s (k:Int)))=OJ (s.take (k+1)):=by
 have hb:=WJ hs k (by omega);have hp:=ad3 (k:=k) (by omega);rw[ad_ hb.1 (by omega) (hs _ (Ol (by omega) (by omega))),Vb (d:=(0:Int)) hk,Ye]
theorem VI{s:List Int}(hs:Bs s)(hl:s.length<=8):Om.run .lim (s,())=some (OJ s):=by
 have e:=Oh (f:=Om.l0 .lim) (fun k=>(s,OJ (s.take k),(s.length:Int),(k:Int),())) (n:=s.length) (fun k hk=>by
  rw[Om.q0];simp only[Om.b0,MV (show (k:Int)<(s.length:Int) by omega),Nj (show (0:Int)<=(k:Int) by omega) (show (k:Int)<(s.length:Int) by omega),cond_true,QU k (by omega),Zj hs hl hk])
 have e0:Om.l0 .lim (s,0,(s.length:Int),0,())=Om.l0 .lim (s,OJ (s.take s.length),(s.length:Int),(s.length:Int),()):=e;simp only[Om.run,Nh (show s.length<9223372036854775808 by omega),cond_true,e0,ahj];rw[Om.q0];simp only[Om.b0,M_ (show ¬(s.length:Int)<(s.length:Int) by omega),cond_false,ag4]
theorem VW{s:List Int}(hs:Bs s)(hl:s.length<=8):Ns.run .lim (s,())=some (OJ s):=by
 have e:=Oh (f:=Ns.l0 .lim) (fun k=>(s,OJ (s.take k),(k:Int),())) (n:=s.length) (fun k hk=>by
  rw[Ns.q0];simp only[Ns.b0,Nh (show s.length<9223372036854775808 by omega),MV (show (k:Int)<(s.length:Int) by omega),Nj (show (0:Int)<=(k:Int) by omega) (show (k:Int)<(s.length:Int) by omega),cond_true,QU k (by omega),Zj hs hl hk])
 have e0:Ns.l0 .lim (s,0,0,())=Ns.l0 .lim (s,OJ (s.take s.length),(s.length:Int),()):=e;simp only[Ns.run,e0,ahj];rw[Ns.q0];simp only[Ns.b0,Nh (show s.length<9223372036854775808 by omega),M_ (show ¬(s.length:Int)<(s.length:Int) by omega),cond_true,cond_false,ag4]
theorem Qk{α:Type}{s:List α}{a b:Nat}{i j:Int}(hi:i=(a:Int))(hj:j=(b:Int)):cut s i j=(s.take b).drop a:=by subst hi;subst hj;rfl
theorem SG{α:Type}{s:List α}{a:Nat}{i:Int}(hi:i=(a:Int)):cut s i (s.length:Int)=s.drop a:=by subst hi;unfold cut;rw[ag5,ag5,ahj]
theorem Bs.take{s:List Int}(h:Bs s)(n:Nat):Bs (s.take n):=fun x hx=>h x (ah4 hx)
theorem Bs.drop{s:List Int}(h:Bs s)(n:Nat):Bs (s.drop n):=fun x hx=>h x (ah3 hx)
theorem Bs.cut{s:List Int}(h:Bs s)(i j:Int):Bs (cut s i j):=fun x hx=>h x (ah4 (ah3 hx))
theorem Bs.app{s t:List Int}(h:Bs s)(k:Bs t):Bs (s++t):=fun x hx=>(aij.1 hx).elim (h x) (k x)
theorem aem{n:Int}(h0:0<=n)(h1:n<9223372036854775808):Jc .i64 n 3=n%4:=by
 obtain⟨x,rfl⟩:=ahS h0;show ag3.wrap ((aho 64 (x:Int) &&& aho 64 3).toNat:Int)=_;rw[BitVec.toNat_and,ahI,show (aho 64 3).toNat=2^2-1 from rfl,Nat.and_two_pow_sub_one_eq_mod];have e:((x:Int)%((2^64:Nat):Int)).toNat=x:=by omega
 rw[e,wrap64 (by omega) (by omega)];omega
def OI(s:List Int):Nat:=(OJ ((s.take 4).drop 2)).toNat
def Vm(s:List Int):Prop:=s.length<4\/OI s<16\/OI s%4≠0\/OI s>s.length
instance (s:List Int):Decidable (Vm s):=by unfold Vm;exact inferInstance
def fOf(s:List Int):FF:=(OJ (s.take 2),(s.take (OI s)).drop 4)
def Vd:Nat->List Int->List FF->List FF×Int
 |0,_,acc=>(acc,0)
 |n+1,s,acc=>if s=[]then(acc,0)else if Vm s then([],10)else if acc.length=16 then([],18)else Vd n (s.drop (OI s)) (acc++[fOf s])
theorem Yj{s:List Int}(hs:Bs s)(h:4<=s.length):OJ ((s.take 4).drop 2)=(OI s:Int)/\OI s<65536:=by
 have hb:Bs ((s.take 4).drop 2):=(hs.take 4).drop 2;have hl:((s.take 4).drop 2).length=2:=by rw[ahe,ahc];omega
 have:=WJ hb 2 (by omega);rw[ahf (by omega)]at this;unfold OI;omega
theorem YD{s:List Int}(hs:Bs s)(h:2<=s.length):0<=OJ (s.take 2)/\OJ (s.take 2)<65536:=by
 have:=WJ hs 2 (by omega);omega
theorem adb: ∀(n:Nat) (s:List Int) (acc:List FF),s.length<=n->Bs s->s.length<9223372036854775808->acc.length<=16->
  ((OE.l0 .lim (s,0,acc,())).bind fun g_=>match g_ with
   | .inl (m,m1,())=>some (([]:List FF),m,())
   | .inr (.inl (m2,m3,()))=>some (([]:List FF),m2,())
   | .inr (.inr (m4,m5,()))=>some (m5,0,()))=some ((Vd n s acc).1,(Vd n s acc).2,()):=by
 intro n
 induction n with
 |zero=>
  intro s acc hn _ _ _;obtain rfl:s=[]:=ahv.1 (by omega);rw[OE.q0];simp only[OE.b0,decide_true,ag9,cond_false,ag4,Vd]
 |succ n ih=>
  intro s acc hn hs hl ha;rw[OE.q0];by_cases h0:s=[]
  ·subst h0;simp only[OE.b0,decide_true,ag9,cond_false,ag4,Vd,if_true]
  simp only[OE.b0,M_ h0,ahb,cond_true,Nh hl,Vd,if_neg h0];by_cases h4:s.length<4
  ·simp only[M_ (show ¬(s.length:Int)>=4 by omega),cond_false,ag4];rw[if_pos (show Vm s from .inl h4)]
  ·obtain⟨e1,e2⟩:=Yj hs (by omega);have hc:cut s 2 4=(s.take 4).drop 2:=Qk (a:=2) (b:=4) rfl rfl;have hlen:((s.take 4).drop 2).length<=8:=by rw[ahe,ahc];omega
   have w:ag3.wrap (OI s:Int)=(OI s:Int):=wrap64 (by omega) (by omega);simp only[MV (show (s.length:Int)>=4 by omega),cond_true,Nq (show (0:Int)<=2 by omega) (show (2:Int)<=4 by omega) (show (4:Int)<=(s.length:Int) by omega),hc,VI ((hs.take 4).drop 2) hlen,ag4,e1,w,ahh];have h3:Jc .i64 (OI s:Int) 3=((OI s%4:Nat):Int):=by rw[aem (by omega) (by omega)];omega
   by_cases hb:Vm s
   ·rw[if_pos hb];have hq:(((decide ((OI s:Int)<16))||(!(decide ((Jc .i64 (OI s:Int) 3)=0))))||(decide ((OI s:Int)>(s.length:Int))))=true:=by
     rw[h3];rcases hb with hb|hb|hb|hb
     ·exact absurd hb h4
     ·simp only[MV (show (OI s:Int)<16 by omega),ahr]
     ·simp only[M_ (show ¬((OI s%4:Nat):Int)=0 by omega),ahb,ahh,ahr]
     ·simp only[MV (show (OI s:Int)>(s.length:Int) by omega),ahh]
    simp only[hq,cond_true,ag4]
   ·rw[if_neg hb];unfold Vm at hb;have hq:(((decide ((OI s:Int)<16))||(!(decide ((Jc .i64 (OI s:Int) 3)=0))))||(decide ((OI s:Int)>(s.length:Int))))=false:=by rw[h3,M_ (show ¬(OI s:Int)<16 by omega),MV (show ((OI s%4:Nat):Int)=0 by omega),M_ (show ¬(OI s:Int)>(s.length:Int) by omega)];rfl
    have hc2:cut s 0 2=s.take 2:=Qk (a:=0) (b:=2) rfl rfl;have hv:=YD hs (by omega);have w2:ag3.wrap (OJ (s.take 2))=OJ (s.take 2):=wrap64 (by omega) (by omega);have hc3:cut s 4 (OI s:Int)=(s.take (OI s)).drop 4:=Qk (a:=4) (b:=OI s) rfl rfl;have hc4:cut s (OI s:Int) (s.length:Int)=s.drop (OI s):=SG rfl;simp only[hq,cond_false,Nq (show (0:Int)<=0 by omega) (show (0:Int)<=2 by omega) (show (2:Int)<=(s.length:Int) by omega),cond_true,hc2,VI (hs.take 2) (show (s.take 2).length<=8 by rw[ahc];omega),ag4,w2,
     Nq (show (0:Int)<=4 by omega) (show (4:Int)<=(OI s:Int) by omega) (show (OI s:Int)<=(s.length:Int) by omega),Nq (show (0:Int)<=(OI s:Int) by omega) (show (OI s:Int)<=(s.length:Int) by omega) (show (s.length:Int)<=(s.length:Int) by omega),Nh (show acc.length<9223372036854775808 by omega),hc3,hc4]
    by_cases h16:acc.length=16
    ·rw[MV (show (acc.length:Int)=16 by omega),if_pos h16];rfl
    ·rw[M_ (show ¬(acc.length:Int)=16 by omega),if_neg h16];simp only[cond_false];rw[cond_pos (MV (by simp;omega))];exact ih (s.drop (OI s)) (acc++[fOf s]) (by rw[ahe];omega) (hs.drop _) (by rw[ahe];omega) (by simp;omega)
theorem acp{s:List Int}(hs:Bs s)(hl:s.length<9223372036854775808):OE.run .lim (s,())=some ((Vd s.length s []).1,(Vd s.length s []).2,()):=by
 simp only[OE.run];exact adb s.length s [] (ahk _) hs hl (by simp)
theorem ab_: ∀(n:Nat) (s:List Int) (acc:List FF),s.length<=n->Bs s->s.length<9223372036854775808->acc.length<=16->
  ((NK.l0 .lim (s,acc,())).bind fun g_=>match g_ with
   | .inl (t,())=>some (([]:List FF),t,())
   | .inr (.inl (t1,()))=>some (([]:List FF),t1,())
   | .inr (.inr (.inl (t2,())))=>some (([]:List FF),t2,())
   | .inr (.inr (.inr (m,())))=>some (m,0,()))=some ((Vd n s acc).1,(Vd n s acc).2,()):=by
 intro n
 induction n with
 |zero=>
  intro s acc hn _ _ _;obtain rfl:s=[]:=ahv.1 (by omega);rw[NK.q0];simp only[NK.b0,decide_true,ag9,cond_false,ag4,Vd]
 |succ n ih=>
  intro s acc hn hs hl ha;rw[NK.q0];by_cases h0:s=[]
  ·subst h0;simp only[NK.b0,decide_true,ag9,cond_false,ag4,Vd,if_true]
  simp only[NK.b0,M_ h0,ahb,cond_true,Nh hl,Vd,if_neg h0];by_cases h4:s.length<4
  ·simp only[MV (show (s.length:Int)<4 by omega),cond_true,ag4];rw[if_pos (show Vm s from .inl h4)]
  ·obtain⟨e1,e2⟩:=Yj hs (by omega);have hc:cut s 2 4=(s.take 4).drop 2:=Qk (a:=2) (b:=4) rfl rfl;have hlen:((s.take 4).drop 2).length<=8:=by rw[ahe,ahc];omega
   have w:ag3.wrap (OI s:Int)=(OI s:Int):=wrap64 (by omega) (by omega);simp only[M_ (show ¬(s.length:Int)<4 by omega),cond_true,cond_false,Nq (show (0:Int)<=2 by omega) (show (2:Int)<=4 by omega) (show (4:Int)<=(s.length:Int) by omega),hc,VW ((hs.take 4).drop 2) hlen,ag4,e1,w,ahh];have h3:(OI s:Int).tmod 4=((OI s%4:Nat):Int):=by rw[ag7 (by omega)];omega
   by_cases hb:Vm s
   ·rw[if_pos hb];have hq:(((decide ((OI s:Int)<16))||(!(decide (((OI s:Int).tmod 4)=0))))||(decide ((OI s:Int)>(s.length:Int))))=true:=by
     rw[h3];rcases hb with hb|hb|hb|hb
     ·exact absurd hb h4
     ·simp only[MV (show (OI s:Int)<16 by omega),ahr]
     ·simp only[M_ (show ¬((OI s%4:Nat):Int)=0 by omega),ahb,ahh,ahr]
     ·simp only[MV (show (OI s:Int)>(s.length:Int) by omega),ahh]
    simp only[hq,cond_true,ag4]
   ·rw[if_neg hb];unfold Vm at hb;have hq:(((decide ((OI s:Int)<16))||(!(decide (((OI s:Int).tmod 4)=0))))||(decide ((OI s:Int)>(s.length:Int))))=false:=by rw[h3,M_ (show ¬(OI s:Int)<16 by omega),MV (show ((OI s%4:Nat):Int)=0 by omega),M_ (show ¬(OI s:Int)>(s.length:Int) by omega)];rfl
    have hc2:cut s 0 2=s.take 2:=Qk (a:=0) (b:=2) rfl rfl;have hv:=YD hs (by omega);have w2:ag3.wrap (OJ (s.take 2))=OJ (s.take 2):=wrap64 (by omega) (by omega);have hc3:cut s 4 (OI s:Int)=(s.take (OI s)).drop 4:=Qk (a:=4) (b:=OI s) rfl rfl;have hc4:cut s (OI s:Int) (s.length:Int)=s.drop (OI s):=SG rfl;simp only[hq,cond_false,Nh (show acc.length<9223372036854775808 by omega),cond_true];by_cases h16:acc.length=16
    ·rw[MV (show (acc.length:Int)=16 by omega),if_pos h16];rfl
    ·rw[M_ (show ¬(acc.length:Int)=16 by omega),if_neg h16];simp only[cond_false,cond_true,Nq (show (0:Int)<=0 by omega) (show (0:Int)<=2 by omega) (show (2:Int)<=(s.length:Int) by omega),hc2,VW (hs.take 2) (show (s.take 2).length<=8 by rw[ahc];omega),ag4,w2,
      Nq (show (0:Int)<=4 by omega) (show (4:Int)<=(OI s:Int) by omega) (show (OI s:Int)<=(s.length:Int) by omega),Nq (show (0:Int)<=(OI s:Int) by omega) (show (OI s:Int)<=(s.length:Int) by omega) (show (s.length:Int)<=(s.length:Int) by omega),hc3,hc4]
     rw[cond_pos (MV (by simp;omega))];exact ih (s.drop (OI s)) (acc++[fOf s]) (by rw[ahe];omega) (hs.drop _) (by rw[ahe];omega) (by simp;omega)
theorem ab9{s:List Int}(hs:Bs s)(hl:s.length<9223372036854775808):NK.run .lim (s,())=some ((Vd s.length s []).1,(Vd s.length s []).2,()):=by
 simp only[NK.run];exact ab_ s.length s [] (ahk _) hs hl (by simp)
end Go.AM
end
section
namespace Go.AM
theorem acf{n:Int}:Je .i64 n 8=n/256:=by
 have:=O8 n 0 8 .i64 (by decide);exact this
def twoS(n:Int):List Int:=[aha.wrap (Je .i64 n 8),aha.wrap n]
theorem OD(n:Int):(twoS n).length=2:=rfl
theorem Yy(n:Int):Bs (twoS n):=fun x hx=>by
 unfold twoS at hx;simp only[ahE,ahA,or_false]at hx;rcases hx with rfl|rfl<;>exact Uk _
theorem aaE{t:List Int}(hb:Bs t)(hl:t.length=2):twoS (OJ t)=t:=by
 match t,hl with
 |[a,b],_=>
  have ha:=hb a (.head _);have hb:=hb b (.tail _ (.head _));have e:OJ [a,b]=a*256+b:=by simp[OJ]
  unfold twoS;rw[e,acf,PN,PN];congr 1
  ·omega
  ·congr 1;omega
theorem val_two{n:Int}(h0:0<=n)(h1:n<65536):OJ (twoS n)=n:=by
 unfold twoS OJ;rw[acf,PN,PN];simp only[List.foldl_cons,List.foldl_nil];omega
def QS(f:FF):List Int:=twoS f.1++twoS ((f.2.length:Int)+4)++f.2
def Nk(l:List FF):List Int:=(l.map QS).flatten
theorem Qb(f:FF):(QS f).length=4+f.2.length:=by simp[QS,twoS];omega
theorem S_(a b:List FF):Nk (a++b)=Nk a++Nk b:=by simp[Nk]
theorem Ub(f:FF):Nk [f]=QS f:=by simp[Nk]
theorem Tq{l:List FF}{k:Nat}(h:k<l.length):Nk (l.take (k+1))=Nk (l.take k)++QS (rd f0 l (k:Int)):=by rw[Vb (d:=f0) h,S_,Ub]
theorem WV(l:List FF)(k:Nat):(Nk (l.take k)).length<=(Nk l).length:=by
 have:Nk l=Nk (l.take k)++Nk (l.drop k):=by rw[<-S_,ahs]
 rw[this,ag_];omega
structure Wq(f:FF):Prop where
 k0:0<=f.1
 k1:f.1<65536
 l0:12<=f.2.length
 l4:f.2.length%4=0
 l1:f.2.length<65532
 b:Bs f.2
theorem acN{s:List Int}(hs:Bs s)(hb: ¬Vm s):s.take (OI s)=QS (fOf s)/\Wq (fOf s):=by
 unfold Vm at hb;obtain⟨e1,e2⟩:=Yj hs (by omega);have hv:=YD hs (by omega);have hlen:((s.take (OI s)).drop 4).length=OI s-4:=by rw[ahe,ahc];omega
 refine⟨?_,⟨hv.1,hv.2,by show 12<=((s.take (OI s)).drop 4).length;omega,by show ((s.take (OI s)).drop 4).length%4=0;omega,by show ((s.take (OI s)).drop 4).length<65532;omega,(hs.take _).drop _⟩⟩;unfold QS fOf;have h2:twoS ((((s.take (OI s)).drop 4).length:Int)+4)=(s.take 4).drop 2:=by
  rw[hlen,show ((OI s-4:Nat):Int)+4=(OI s:Int) by omega,<-e1];exact aaE ((hs.take 4).drop 2) (by rw[ahe,ahc];omega)
 have h1:twoS (OJ (s.take 2))=s.take 2:=aaE (hs.take 2) (by rw[ahc];omega);show s.take (OI s)=twoS (OJ (s.take 2))++twoS ((((s.take (OI s)).drop 4).length:Int)+4)++(s.take (OI s)).drop 4;rw[h1,h2];have h3:s.take 2++(s.take 4).drop 2=s.take 4:=by
  have:s.take 2=(s.take 4).take 2:=by rw[ah6];rfl
  rw[this,ahs]
 have h4:s.take 4=(s.take (OI s)).take 4:=by rw[ah6,ah2 (by omega)]
 rw[h3,h4,ahs]
theorem ade: ∀(n:Nat) (s:List Int) (acc:List FF),s.length<=n->Bs s->(Vd n s acc).2=0-> ∃l,(Vd n s acc).1=acc++l/\s=Nk l/\(∀f∈l,Wq f)/\(acc.length<=16->(acc++l).length<=16):=by
 intro n
 induction n with
 |zero=>
  intro s acc hn _ _;obtain rfl:s=[]:=ahv.1 (by omega);exact⟨[],by simp[Vd],rfl,fun f hf=>(by cases hf),fun h=>by simpa using h⟩
 |succ n ih=>
  intro s acc hn hs he;by_cases h0:s=[]
  ·subst h0;exact⟨[],by simp[Vd],rfl,fun f hf=>(by cases hf),fun h=>by simpa using h⟩
  ·simp only[Vd,if_neg h0]at he ⊢
   by_cases hb:Vm s
   ·rw[if_pos hb]at he;exact absurd he (by decide)
   ·rw[if_neg hb]at he ⊢
    by_cases h16:acc.length=16
    ·rw[if_pos h16]at he;exact absurd he (by decide)
    ·rw[if_neg h16]at he ⊢
     obtain⟨e1,e2⟩:=acN hs hb;have hb':=hb;unfold Vm at hb';obtain⟨l,k1,k2,k3,k4⟩:=ih (s.drop (OI s)) (acc++[fOf s]) (by rw[ahe];omega) (hs.drop _) he;refine⟨fOf s::l,by rw[k1,ahy];rfl,?_,fun f hf=> ?_,fun h=> ?_⟩
     ·have:Nk (fOf s::l)=QS (fOf s)++Nk l:=by simp[Nk]
      rw[this,<-k2,<-e1,ahs]
     ·rcases ahE.1 hf with rfl|hf
      ·exact e2
      ·exact k3 f hf
     ·have:=k4 (by simp;omega);simpa[ahy]using this
def fE(f:FF):Int:=if f.1<0\/f.1>=65536 then 13 else if f.2.length<12\/f.2.length%4≠0 then 10 else 0
def Rl(l:List FF):Int:=if l.length>16 then 18 else match (ahm l.length).find? (fun k:Nat=> !decide (fE (rd f0 l (k:Int))=0))with
 |some k=>fE (rd f0 l (k:Int))
 |none=>if(Nk l).length>1232 then 12 else 0
def QW(l:List FF):List Int:=if Rl l=0 then Nk l else []
theorem aeC{f:FF}(h:Wq f):fE f=0:=by
 unfold fE;rw[if_neg (by have:=h.k0;have:=h.k1;omega),if_neg (by have:=h.l0;have:=h.l4;omega)]
theorem Um{l:List FF}(h: ∀f∈l,Wq f)(h16:l.length<=16)(hl:(Nk l).length<=1232):Rl l=0:=by
 unfold Rl;rw[if_neg (by omega)];have:(ahm l.length).find? (fun k:Nat=> !decide (fE (rd f0 l (k:Int))=0))=none:=List.find?_eq_none.2 fun k hk=>by
  have hk:=ahM.1 hk;rw[MV (aeC (h _ (Ol (by omega) (by omega))))];simp
 rw[this];simp only;rw[if_neg (by omega)]
def SI(l:List FF):Nat->List Int
 |0=>[]
 |k+1=>if(Nk (l.take (k+1))).length>1232 then SI l k else SI l k++QS (rd f0 l (k:Int))
theorem WG{l:List FF}: ∀k,k<=l.length->(Nk (l.take k)).length<=1232->SI l k=Nk (l.take k):=by
 intro k
 induction k with
 |zero=>intro _ _;rfl
 |succ k ih=>
  intro hk h;have e:=Tq (l:=l) (k:=k) (by omega);unfold SI;rw[if_neg (by omega),e];rw[ih (by omega) (by rw[e,ag_]at h;omega)]
theorem adk(n:Int):U2.run .lim (n,())=some (twoS n):=rfl
def FL(l:List FF):Prop:=l.length<9223372036854775808/\ ∀f∈l,f.2.length<=140737488351232
theorem XM{l:List FF}(hl:FL l):Ph.run .lim (l,())=some (QW l,Rl l,()):=by
 obtain⟨h1,h2⟩:=hl;simp only[Ph.run,Nh h1,cond_true];by_cases h16:l.length>16
 ·rw[MV (show (l.length:Int)>16 by omega)];have:Rl l=18:=by unfold Rl;rw[if_pos h16]
  unfold QW;rw[this];rfl
 rw[M_ (show ¬(l.length:Int)>16 by omega)];have e:=Qq (f:=Ph.l0 .lim) (fun k=>(decide ((Nk (l.take k)).length>1232),l,(l.length:Int),(k:Int),SI l k,())) l.length (fun k:Nat=> !decide (fE (rd f0 l (k:Int))=0))
  (fun k=>if fE (rd f0 l (k:Int))=13 then some (.inl (([]:List Int),13,()))else some (.inr (.inl (([]:List Int),10,())))) (fun k hk=>by
  have hm:=Ol (d:=f0) (xs:=l) (i:=(k:Int)) (by omega) (by omega);have hb:=h2 _ hm;rw[Ph.q0];generalize hg:rd f0 l (k:Int)=f at hm hb;simp only[Ph.b0,MV (show (k:Int)<(l.length:Int) by omega),Nj (show (0:Int)<=(k:Int) by omega) (show (k:Int)<(l.length:Int) by omega),cond_true,hg,Nh (show f.2.length<9223372036854775808 by omega),ahh];unfold fE;by_cases hk1:f.1<0\/f.1>=65536
  ·rw[if_pos hk1];have:((decide (f.1<0))||(decide (f.1>=65536)))=true:=by rcases hk1 with q|q<;>simp only[MV q,ahr,ahh]
   simp only[this,cond_true];rfl
  ·rw[if_neg hk1];have:((decide (f.1<0))||(decide (f.1>=65536)))=false:=by rw[M_ (show ¬f.1<0 by omega),M_ (show ¬f.1>=65536 by omega)];rfl
   simp only[this,cond_false];have h3:Jc .i64 (f.2.length:Int) 3=((f.2.length%4:Nat):Int):=by rw[aem (by omega) (by omega)];omega
   by_cases hk2:f.2.length<12\/f.2.length%4≠0
   ·rw[if_pos hk2];have:((decide ((f.2.length:Int)<12))||(!(decide ((Jc .i64 (f.2.length:Int) 3)=0))))=true:=by
     rw[h3];rcases hk2 with q|q
     ·rw[MV (show (f.2.length:Int)<12 by omega)];rfl
     ·rw[M_ (show ¬((f.2.length%4:Nat):Int)=0 by omega)];simp
    simp only[this,cond_true];rfl
   ·rw[if_neg hk2];have:((decide ((f.2.length:Int)<12))||(!(decide ((Jc .i64 (f.2.length:Int) 3)=0))))=false:=by rw[h3,M_ (show ¬(f.2.length:Int)<12 by omega),MV (show ((f.2.length%4:Nat):Int)=0 by omega)];rfl
    simp only[this,cond_false,decide_true,ag9,cond_false];have es:=Tq hk;have el:(Nk (l.take (k+1))).length=(Nk (l.take k)).length+(4+f.2.length):=by rw[es,ag_,Qb,hg]
    have hu: ∀b:Bool,(bif b then some ()else some ())=some ():=fun b=>by cases b<;>rfl
    simp only[hu,ag4,adk];by_cases hlong:(Nk (l.take k)).length>1232
    ·have e1:decide ((Nk (l.take k)).length>1232)=true:=MV hlong;have e2:decide ((Nk (l.take (k+1))).length>1232)=true:=MV (show (Nk (l.take (k+1))).length>1232 by omega);have e3:SI l (k+1)=SI l k:=by rw[SI,if_pos (show (Nk (l.take (k+1))).length>1232 by omega)]
     simp only[e1,e2,e3,ahr,ag9,cond_false,QU k (by omega)]
    ·have e1:decide ((Nk (l.take k)).length>1232)=false:=M_ hlong;have eo:=WG (l:=l) k (by omega) (by omega);have ew:ag3.wrap ((ag3.wrap (((SI l k).length:Int)+4))+(f.2.length:Int))=((Nk (l.take (k+1))).length:Int):=by rw[eo,wrap64 (n:=((Nk (l.take k)).length:Int)+4) (by omega) (by omega),wrap64 (by omega) (by omega)];omega
     have ed:decide (((Nk (l.take (k+1))).length:Int)>1232)=decide ((Nk (l.take (k+1))).length>1232):=by
      by_cases q:(Nk (l.take (k+1))).length>1232
      ·rw[MV q,MV (show ((Nk (l.take (k+1))).length:Int)>1232 by omega)]
      ·rw[M_ q,M_ (show ¬((Nk (l.take (k+1))).length:Int)>1232 by omega)]
     simp only[e1,ew,ed,ahD];by_cases hl2:(Nk (l.take (k+1))).length>1232
     ·have e2:decide ((Nk (l.take (k+1))).length>1232)=true:=MV hl2;have e3:SI l (k+1)=SI l k:=by rw[SI,if_pos hl2]
      simp only[e2,e3,ag9,cond_false,QU k (by omega)]
     ·have e2:decide ((Nk (l.take (k+1))).length>1232)=false:=M_ hl2;have e3:SI l (k+1)=SI l k++QS f:=by rw[SI,if_neg hl2,hg]
      have e4:ag3.wrap ((f.2.length:Int)+4)=(f.2.length:Int)+4:=wrap64 (by omega) (by omega);have e5:GH ((SI l k).length+(twoS f.1++twoS ((f.2.length:Int)+4)++f.2).length)=some ():=by
       have:(twoS f.1++twoS ((f.2.length:Int)+4)++f.2).length=4+f.2.length:=Qb f;rw[this,eo];unfold GH;rw[Nat.ble_eq_true_of_le (show (Nk (l.take k)).length+(4+f.2.length)<=140737488355328 by omega)];rfl
      simp only[e2,e3,e4,ahb,cond_true,QU k (by omega)];rw[cond_pos (MV (by rw[OD,OD];decide)),cond_pos (MV (by rw[ag_,OD,OD];unfold maxStr;omega)),e5];rfl)
 have e0:Ph.l0 .lim (false,l,(l.length:Int),0,([]:List Int),())=_:=e;rw[e0];unfold QW Rl;rw[if_neg h16];cases hq:(ahm l.length).find? (fun k:Nat=> !decide (fE (rd f0 l (k:Int))=0))with
 |some k=>
  have hk:=aii hq;simp only[aic,decide_eq_false_iff_not]at hk;simp only;have:fE (rd f0 l (k:Int))=13\/fE (rd f0 l (k:Int))=10:=by
   unfold fE at hk ⊢
   split
   ·exact .inl rfl
   ·split
    ·exact .inr rfl
    ·rename_i q1 q2;rw[if_neg q1,if_neg q2]at hk;exact absurd rfl hk
  rw[if_neg hk];rcases this with q|q
  ·rw[if_pos q,q];rfl
  ·rw[if_neg (by omega),q];rfl
 |none=>
  simp only[ahj];rw[Ph.q0];simp only[Ph.b0,M_ (show ¬(l.length:Int)<(l.length:Int) by omega),cond_false,ag4];by_cases hl:(Nk l).length>1232
  ·rw[MV hl,if_pos hl];rfl
  ·rw[M_ hl,if_neg hl,WG l.length (ahk _) (by rw[ahj];omega),ahj];rfl
end Go.AM
end
section
namespace Go.AM
abbrev PK:=Int×Int×Int×Int×Int×Int×Int×Int×Int×Int×Int×Int×Int×List FF
abbrev p0:PK:=((0:Int),(0,(0,(0,(0,(0,(0,(0,(0,(0,(0,(0,(0,([]:List FF))))))))))))))
abbrev PK.fs(p:PK):List FF:=p.2.2.2.2.2.2.2.2.2.2.2.2.2
abbrev PK.cut(p:PK)(l:List FF):PK:=(p.1,p.2.1,p.2.2.1,p.2.2.2.1,p.2.2.2.2.1,p.2.2.2.2.2.1,p.2.2.2.2.2.2.1,p.2.2.2.2.2.2.2.1,p.2.2.2.2.2.2.2.2.1,p.2.2.2.2.2.2.2.2.2.1,p.2.2.2.2.2.2.2.2.2.2.1,p.2.2.2.2.2.2.2.2.2.2.2.1,p.2.2.2.2.2.2.2.2.2.2.2.2.1,l)
def WE(n low high:Int):Bool:=decide (low<=n)&&decide (n<=high)
def Vt(p:PK):Bool:=WE p.1 0 3&&WE p.2.1 0 7&&WE p.2.2.1 0 7&&WE p.2.2.2.1 0 255&&WE p.2.2.2.2.1 (-128) 127&&WE p.2.2.2.2.2.1 (-128) 127
def Ua(n:Int)(k:Nat):Int:=aha.wrap (Je .u64 n (k:Int))
def ZB(n:Int):List Int:=[Ua n 24,Ua n 16,Ua n 8,Ua n 0]
def by8(n:Int):List Int:=[Ua n 56,Ua n 48,Ua n 40,Ua n 32,Ua n 24,Ua n 16,Ua n 8,Ua n 0]
def b0S(a b c:Int):Int:=aha.wrap (KY .i64 (KY .i64 (Jd .i64 a 6) (Jd .i64 b 3)) c)
def TK(p:PK):List Int:=[b0S p.1 p.2.1 p.2.2.1,aha.wrap p.2.2.2.1,aha.wrap p.2.2.2.2.1,aha.wrap p.2.2.2.2.2.1]++
 (ZB (ahg.wrap p.2.2.2.2.2.2.1)++(ZB (ahg.wrap p.2.2.2.2.2.2.2.1)++(ZB (ahg.wrap p.2.2.2.2.2.2.2.2.1)++(by8 p.2.2.2.2.2.2.2.2.2.1++(by8 p.2.2.2.2.2.2.2.2.2.2.1++(by8 p.2.2.2.2.2.2.2.2.2.2.2.1++by8 p.2.2.2.2.2.2.2.2.2.2.2.2.1))))))
theorem TQ(p:PK):(TK p).length=48:=rfl
def VK(p:PK):Int:=if Vt p=true then Rl p.fs else 13
def Vr(p:PK):List Int:=if VK p=0 then TK p++Nk p.fs else []
def P8(m:List Int)(bp:Nat)(g:Nat->Int):Nat->List Int
 |0=>m
 |i+1=>(P8 m bp g i).set (bp+i) (g i)
theorem Rh(m:List Int)(bp:Nat)(g:Nat->Int): ∀i,(P8 m bp g i).length=m.length
 |0=>rfl
 |i+1=>by rw[P8,ahY,Rh m bp g i]
theorem afY{bp bq:Nat}(hb:bp<=48)(hq:bq<=8)(hq0:1<=bq)(n:Int)(f:List Int)(t:List Int)(t3:Int)(m:List Int)(m1 m2 m3 m4 m5 m6 m7 m8 m9 m10 m11 m12 m13:Int)(m14:List FF):
  Nu.l0 .lim ((bp:Int),(bq:Int),n,(bq:Int),0,f,t,t3,m,m1,m2,m3,m4,m5,m6,m7,m8,m9,m10,m11,m12,m13,m14,())=
   some (f,t,t3,m1,m2,m3,m4,m5,m6,m7,m8,m9,m10,m11,m12,m13,m14,P8 m bp (fun i=>Ua n (8*(bq-1-i))) bq,()):=by
 have e:=Oh (f:=Nu.l0 .lim) (fun i=>((bp:Int),(bq:Int),n,(bq:Int),(i:Int),f,t,t3,P8 m bp (fun i=>Ua n (8*(bq-1-i))) i,m1,m2,m3,m4,m5,m6,m7,m8,m9,m10,m11,m12,m13,m14,())) (n:=bq) (fun i hi=>by
  rw[Nu.q0];have w1:ag3.wrap (8*(ag3.wrap ((ag3.wrap ((bq:Int)-1))-(i:Int))))=((8*(bq-1-i):Nat):Int):=by rw[wrap64 (n:=(bq:Int)-1) (by omega) (by omega),wrap64 (n:=(bq:Int)-1-(i:Int)) (by omega) (by omega),wrap64 (by omega) (by omega)];omega
  have w2:((bp:Int)+(i:Int)).toNat=bp+i:=by omega
  simp only[Nu.b0,MV (show (i:Int)<(bq:Int) by omega),Nh (show bq<9223372036854775808 by omega),w1,MV (show (0:Int)<=((8*(bq-1-i):Nat):Int) by omega),Nj (show (0:Int)<=(i:Int) by omega) (show (i:Int)<(bq:Int) by omega),cond_true,QU i (by omega),w2];rfl)
 have e0:Nu.l0 .lim ((bp:Int),(bq:Int),n,(bq:Int),0,f,t,t3,m,m1,m2,m3,m4,m5,m6,m7,m8,m9,m10,m11,m12,m13,m14,())=_:=e;rw[e0,Nu.q0];simp only[Nu.b0,M_ (show ¬(bq:Int)<(bq:Int) by omega),cond_false]
theorem af0{bp bq:Nat}(hb:bp<=48)(hq:bq<=8)(hq0:1<=bq)(n:Int)(f:List Int)(t:List Int)(t3:Int)(m:List Int):
  Nu.l2 .lim ((bp:Int),(bq:Int),n,(bq:Int),0,f,t,t3,m,())=some (f,t,t3,P8 m bp (fun i=>Ua n (8*(bq-1-i))) bq,()):=by
 have e:=Oh (f:=Nu.l2 .lim) (fun i=>((bp:Int),(bq:Int),n,(bq:Int),(i:Int),f,t,t3,P8 m bp (fun i=>Ua n (8*(bq-1-i))) i,())) (n:=bq) (fun i hi=>by
  rw[Nu.q2];have w1:ag3.wrap (8*(ag3.wrap ((ag3.wrap ((bq:Int)-1))-(i:Int))))=((8*(bq-1-i):Nat):Int):=by rw[wrap64 (n:=(bq:Int)-1) (by omega) (by omega),wrap64 (n:=(bq:Int)-1-(i:Int)) (by omega) (by omega),wrap64 (by omega) (by omega)];omega
  have w2:((bp:Int)+(i:Int)).toNat=bp+i:=by omega
  simp only[Nu.b2,MV (show (i:Int)<(bq:Int) by omega),Nh (show bq<9223372036854775808 by omega),w1,MV (show (0:Int)<=((8*(bq-1-i):Nat):Int) by omega),Nj (show (0:Int)<=(i:Int) by omega) (show (i:Int)<(bq:Int) by omega),cond_true,QU i (by omega),w2];rfl)
 have e0:Nu.l2 .lim ((bp:Int),(bq:Int),n,(bq:Int),0,f,t,t3,m,())=_:=e;rw[e0,Nu.q2];simp only[Nu.b2,M_ (show ¬(bq:Int)<(bq:Int) by omega),cond_false]
theorem acR(n low high:Int):QM.run .lim (n,low,high,())=some (WE n low high):=rfl
theorem afZ(f a:List Int)(x0 x1 x2:Int)(ha:a=[x0,x1,x2])(m:List Int)(m1 m2 m3 m4 m5 m6 m7 m8 m9 m10 m11 m12 m13:Int)(m14:List FF):
  Nu.l1 .lim (f,a,0,m1,m2,m3,m4,m5,m6,m7,m8,m9,m10,m11,m12,m13,m14,m,())=
   some (f,m1,m2,m3,m4,m5,m6,m7,m8,m9,m10,m11,m12,m13,m14,
    P8 (P8 (P8 m 4 (fun i=>Ua (ahg.wrap x0) (8*(4-1-i))) 4) 8 (fun i=>Ua (ahg.wrap x1) (8*(4-1-i))) 4) 12 (fun i=>Ua (ahg.wrap x2) (8*(4-1-i))) 4,()):=by
 subst ha;have step: ∀(k:Nat) (hk:k<3) (x:Int) (_:rd 0 [x0,x1,x2] (k:Int)=x) (q:List Int),Nu.l1 .lim (f,[x0,x1,x2],(k:Int),m1,m2,m3,m4,m5,m6,m7,m8,m9,m10,m11,m12,m13,m14,q,())=
   Nu.l1 .lim (f,[x0,x1,x2],((k+1:Nat):Int),m1,m2,m3,m4,m5,m6,m7,m8,m9,m10,m11,m12,m13,m14,P8 q (4+4*k) (fun i=>Ua (ahg.wrap x) (8*(4-1-i))) 4,()):=by
  intro k hk x hx q;rw[Nu.q1];have w1:ag3.wrap (4+ag3.wrap (4*(k:Int)))=((4+4*k:Nat):Int):=by rw[wrap64 (n:=4*(k:Int)) (by omega) (by omega),wrap64 (by omega) (by omega)];omega
  have w2:ag3.wrap (8+ag3.wrap (4*(k:Int)))=((8+4*k:Nat):Int):=by rw[wrap64 (n:=4*(k:Int)) (by omega) (by omega),wrap64 (by omega) (by omega)];omega
  have w3:((8+4*k:Nat):Int)-((4+4*k:Nat):Int)=((4:Nat):Int):=by omega
  have h:=afY (bp:=4+4*k) (bq:=4) (by omega) (by omega) (by omega) (ahg.wrap x) f [x0,x1,x2] (k:Int) q m1 m2 m3 m4 m5 m6 m7 m8 m9 m10 m11 m12 m13 m14;simp only[Nu.b1,MV (show (k:Int)<3 by omega),Nj (show (0:Int)<=(k:Int) by omega) (show (k:Int)<3 by omega),w1,w2,w3,Nq (show (0:Int)<=((4+4*k:Nat):Int) by omega) (show ((4+4*k:Nat):Int)<=((8+4*k:Nat):Int) by omega) (show ((8+4*k:Nat):Int)<=48 by omega),Nh (show 4<9223372036854775808 by decide),cond_true,hx,h,ag4,QU k (by omega)]
 have s0:=step 0 (by decide) x0 rfl m;have s1:=step 1 (by decide) x1 rfl (P8 m 4 (fun i=>Ua (ahg.wrap x0) (8*(4-1-i))) 4);have s2:=step 2 (by decide) x2 rfl (P8 (P8 m 4 (fun i=>Ua (ahg.wrap x0) (8*(4-1-i))) 4) 8 (fun i=>Ua (ahg.wrap x1) (8*(4-1-i))) 4);refine(s0.trans (s1.trans s2)).trans ?_;rw[Nu.q1];simp only[Nu.b1,M_ (show ¬((2+1:Nat):Int)<3 by decide),cond_false]
theorem af2(f a:List Int)(x0 x1 x2 x3:Int)(ha:a=[x0,x1,x2,x3])(m:List Int):
  Nu.l3 .lim (f,a,0,m,())=
   some (f,P8 (P8 (P8 (P8 m 16 (fun i=>Ua x0 (8*(8-1-i))) 8) 24 (fun i=>Ua x1 (8*(8-1-i))) 8) 32 (fun i=>Ua x2 (8*(8-1-i))) 8) 40 (fun i=>Ua x3 (8*(8-1-i))) 8,()):=by
 subst ha;have step: ∀(k:Nat) (hk:k<4) (x:Int) (_:rd 0 [x0,x1,x2,x3] (k:Int)=x) (q:List Int),Nu.l3 .lim (f,[x0,x1,x2,x3],(k:Int),q,())=
   Nu.l3 .lim (f,[x0,x1,x2,x3],((k+1:Nat):Int),P8 q (16+8*k) (fun i=>Ua x (8*(8-1-i))) 8,()):=by
  intro k hk x hx q;rw[Nu.q3];have w1:ag3.wrap (16+ag3.wrap (8*(k:Int)))=((16+8*k:Nat):Int):=by rw[wrap64 (n:=8*(k:Int)) (by omega) (by omega),wrap64 (by omega) (by omega)];omega
  have w2:ag3.wrap (24+ag3.wrap (8*(k:Int)))=((24+8*k:Nat):Int):=by rw[wrap64 (n:=8*(k:Int)) (by omega) (by omega),wrap64 (by omega) (by omega)];omega
  have w3:((24+8*k:Nat):Int)-((16+8*k:Nat):Int)=((8:Nat):Int):=by omega
  have h:=af0 (bp:=16+8*k) (bq:=8) (by omega) (by omega) (by omega) x f [x0,x1,x2,x3] (k:Int) q;simp only[Nu.b3,MV (show (k:Int)<4 by omega),Nj (show (0:Int)<=(k:Int) by omega) (show (k:Int)<4 by omega),w1,w2,w3,Nq (show (0:Int)<=((16+8*k:Nat):Int) by omega) (show ((16+8*k:Nat):Int)<=((24+8*k:Nat):Int) by omega) (show ((24+8*k:Nat):Int)<=48 by omega),Nh (show 8<9223372036854775808 by decide),cond_true,hx,h,ag4,QU k (by omega)]
 have s0:=step 0 (by decide) x0 rfl m;have s1:=step 1 (by decide) x1 rfl (P8 m 16 (fun i=>Ua x0 (8*(8-1-i))) 8);have s2:=step 2 (by decide) x2 rfl (P8 (P8 m 16 (fun i=>Ua x0 (8*(8-1-i))) 8) 24 (fun i=>Ua x1 (8*(8-1-i))) 8);have s3:=step 3 (by decide) x3 rfl (P8 (P8 (P8 m 16 (fun i=>Ua x0 (8*(8-1-i))) 8) 24 (fun i=>Ua x1 (8*(8-1-i))) 8) 32 (fun i=>Ua x2 (8*(8-1-i))) 8);refine(s0.trans (s1.trans (s2.trans s3))).trans ?_;rw[Nu.q3];simp only[Nu.b3,M_ (show ¬((3+1:Nat):Int)<4 by decide),cond_false]
theorem Tv{l:List FF}:(QW l).length<=1232:=by
 unfold QW;split
 ·rename_i h;unfold Rl at h;split at h
  ·cases h
  ·split at h
   ·rename_i k hq;have hk:=aii hq;simp only[aic,decide_eq_false_iff_not]at hk;exact absurd h hk
   ·split at h
    ·cases h
    ·omega
 ·simp
theorem acd(x0 x1 x2 x3:Int)(a b c d e f g:Nat->Int):
  ((P8 (P8 (P8 (P8 (P8 (P8 (P8 (((((ag6 48 (0:Int)).set 0 x0).set 1 x1).set 2 x2).set 3 x3) 4 a 4) 8 b 4) 12 c 4) 16 d 8) 24 e 8) 32 f 8) 40 g 8).drop 0).take 48=
   [x0,x1,x2,x3]++([a 0,a 1,a 2,a 3]++([b 0,b 1,b 2,b 3]++([c 0,c 1,c 2,c 3]++([d 0,d 1,d 2,d 3,d 4,d 5,d 6,d 7]++([e 0,e 1,e 2,e 3,e 4,e 5,e 6,e 7]++([f 0,f 1,f 2,f 3,f 4,f 5,f 6,f 7]++[g 0,g 1,g 2,g 3,g 4,g 5,g 6,g 7])))))):=by kernel_rfl
theorem VL{p:PK}(hl:FL p.fs):Nu.run .lim (p,())=some (Vr p,VK p,()):=by
 obtain⟨a,b,c,d,e,g,r1,r2,r3,q1,q2,q3,q4,l⟩:=p;simp only[Nu.run,acR,ag4];unfold Vr VK Vt;generalize WE a 0 3=c1;generalize WE b 0 7=c2;generalize WE c 0 7=c3;generalize WE d 0 255=c4;generalize WE e (-128) 127=c5;generalize WE g (-128) 127=c6;cases c1
 ·rfl
 cases c2
 ·rfl
 cases c3
 ·rfl
 cases c4
 ·rfl
 cases c5
 ·rfl
 cases c6
 ·rfl
 simp only[ag9,ahb,cond_true,cond_false,ag4,ahJ,ahi,if_true];rw[XM hl];simp only[ag4];have hfl:(QW (PK.fs (a,b,c,d,e,g,r1,r2,r3,q1,q2,q3,q4,l))).length<=1232:=Tv;show (bif !decide (Rl l=0)then some (([]:List Int),Rl l,())else _)=some (if Rl l=0 then _ else [],Rl l,());by_cases h0:Rl l=0
 ·rw[MV h0,if_pos h0];simp only[ag9,cond_false];rw[afZ _ ((((ag6 3 (0:Int)).set 0 r1).set 1 r2).set 2 r3) r1 r2 r3 rfl];simp only[ag4];rw[af2 _ (((((ag6 4 (0:Int)).set 0 q1).set 1 q2).set 2 q3).set 3 q4) q1 q2 q3 q4 rfl];simp only[ag4];have hf:QW l=Nk l:=by unfold QW;rw[if_pos h0]
  rw[cond_pos (MV (show _<=maxStr by rw[ahc,ahx,Rh,Rh,Rh,Rh,Rh,Rh,Rh];simp only[ahY,ahX];unfold maxStr;omega)),h0,acd];have hf:QW (PK.fs (a,b,c,d,e,g,r1,r2,r3,q1,q2,q3,q4,l))=Nk (PK.fs (a,b,c,d,e,g,r1,r2,r3,q1,q2,q3,q4,l)):=hf;rw[hf];rfl
 ·rw[M_ h0,if_neg h0];rfl
end Go.AM
end
