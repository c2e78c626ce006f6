import Derived.Test.YtbpfiolmmdmapaaGreatPart2

/-! The functions that the laws of this seat reach, as plain functions, and what these answer; no condition. -/
set_option linter.unusedSimpArgs false
set_option linter.unusedVariables false
set_option linter.unusedSectionVars false

open BitVec renaming ofInt->ahV,toNat_ofInt->aia
open Bool renaming not_true->ahD,not_false->ahF,or_true->ahK,and_self->ahL,and_false->ahR,true_or->ahS,false_and->ahY,false_or->ah6,or_self->aib,and_true->aik,or_false->ail,true_and->ain,not_not->air,not_eq_true'->aiG
open Go.IntKind renaming i64->ahw,u64->ahC,u8->ahN,u32->ah1,signed->aiO,bits->aiP,wrap->aiQ,i32->aiV,i8->aiX
open Int renaming toNat_natCast->ahy,tmod_eq_emod_of_nonneg->ahA,natCast_nonneg->ahB,tdiv_eq_ediv_of_nonneg->ahP,le_refl->ahW,eq_ofNat_of_zero_le->aio,pow_succ->aiR,sub_zero->aiS
open List renaming replicate->ahz,length_append->ahE,length_take->ahG,getD_eq_getElem?_getD->ahH,length_drop->ahI,take_of_length_le->ahJ,take_length->ahM,range->ahQ,take_append_drop->ahT,drop_eq_getElem_cons->ahU,length_eq_zero_iff->ahX,drop_zero->ahZ,append_assoc->ah2,not_mem_nil->ah4,mem_cons->ah7,map_append->ah8,range_succ->ah9,set_set->aic,getElem?_append_left->aie,mem_range->aif,flatten_cons->aii,getElem?_take_of_lt->aij,map_cons->aip,length_replicate->ais,length_set->ait,map_nil->aiu,mem_of_mem_drop->aiv,mem_of_mem_take->aiw,drop_drop->aiy,take_take->aiz,take_zero->aiA,flatten_append->aiB,replicate_zero->aiC,getElem?_drop->aiD,take_add->aiE,mem_map->aiH,append_nil->aiJ,find?_some->aiK,mem_append->aiL
open Nat renaming le_refl->ahO,lt_of_le_of_lt->ah0,add_zero->ah3,ble->ah_,mul_div_cancel_left->aiq,pow_le_pow_right->aix,lt_of_lt_of_le->aiF,le_add_right->aiI,le_add_left->aiM,min_eq_left->aiN,le_of_eq->aiT,mul_zero->aiU,blt->aiW
open Option renaming bind_some->ahx,bind_none->ah5
section
namespace Go.AM
open Go.Proofs
set_option maxRecDepth 100000
set_option linter.unusedVariables false
noncomputable section
variable (m_:Dq)
namespace N9
def O:OO P:=lI [Qc.c m_]
def o0:dJ:= .c [.b,.dat Uo]
def o1:dJ:= .c [.w,.s,.s,.t,.s,.s,.u,.u,.u,.u,.u]
def o2:dJ:= .c [.w,.s,.s,.CW,.s,.s,.u,.u,.u,.u,.u]
def o3:dJ:= .c [.row Xp]
def e0:Spec:=⟨[fs 16 [.q 2036,.z 2036,.b 0,.q 255] [(2,.s),(3,.s),(4,.u),(5,.ptr 0 0),(6,.ptr 1 0),(10,.ptr 2 0),(11,.ptr 3 0),(14,.s),(15,.own 4 Xp),(16,.w),(17,.w)]],[(0,o0),(1,o1),(2,.c [.b,.CW]),(3,o2),(4,o3)],5⟩
def x0:List Spec:=[⟨[fs 16 [.q 255] [(2,.s),(3,.s),(4,.u),(5,.ptr 0 0),(6,.ptr 1 0),(10,.ptr 2 0),(11,.ptr 3 0),(15,.own 4 Xp)]],[(0,o0),(1,o1),(2,.c [.b,.CW]),(3,o2),(4,o3)],5⟩]
abbrev A0:Type:=LI×LI×Int×LI×Int×Int×Bool×(List (List Int×(List LI×(List Int×List Int))))×Int×LI×LI×LL×LI×LI×Int×Int×Int×Int×Int×Bool×Int×LI×LI×LI×LI×Int×Int×Int×Int×Int×(List (Int×List Int))×Unit
abbrev B0:Type:=(LI×LI×Int×Bool×(List (List Int×(List LI×(List Int×List Int))))×Int×LI×LI×LL×LI×LI×Int×Int×Int×Int×Int×Bool×Int×LI×LI×LI×LI×Int×Int×Int×Int×Int×(List (Int×List Int))×Unit)
def b0(m_:Dq)(self:A0->Option B0):A0->Option B0:=fun v_=>match v_ with
|(unique,MS,t1,RG,n,i,m,m1,m2,m3,m4,m5,m6,m7,m8,m9,m10,m11,m12,m13,m14,m15,m16,m17,m18,m19,m20,m21,m22,m23,m24,())=>
 bif wB (m5.length:Int)then
 bif((!(decide (i<(ahw.wrap (8-(m5.length:Int))))))||(wB (RG.length:Int)))then
 bif((decide (i<(ahw.wrap (8-(m5.length:Int)))))&&(decide ((ahw.wrap ((ahw.wrap (n+4))+(RG.length:Int)))<=1280)))then
  bif wB (RG.length:Int)then
  bif(((decide (0<=(RG.length:Int)))&&(decide ((RG.length:Int)<=(RG.length:Int))))&&(aiW ((RG.length:Int).toNat) 70368744177664))then
  bif decide (m24.length+([(772,(ahz ((RG.length:Int).toNat) 0))]:List (Int×List Int)).length<2932031007402)then
  bif wB (RG.length:Int)then
  self (unique,MS,t1,RG,(ahw.wrap ((ahw.wrap (n+4))+(RG.length:Int))),(ahw.wrap (i+1)),m,m1,m2,m3,m4,m5,m6,m7,m8,m9,m10,m11,m12,m13,m14,m15,m16,m17,m18,m19,m20,m21,m22,m23,(m24++([(772,(ahz ((RG.length:Int).toNat) 0))]:List (Int×List Int))),())else none else none else none else none
 else
  some (unique,MS,t1,m,m1,m2,m3,m4,m5,m6,m7,m8,m9,m10,m11,m12,m13,m14,m15,m16,m17,m18,m19,m20,m21,m22,m23,m24,())else none else none
theorem k0:KQ 16 (O m_) [] e0 x0 [] (b0 m_):=fun _ _=>by kernel_rfl
def l0:=loop m_ (b0 m_)
theorem q0(v):l0 .lim v=b0 .lim (l0 .lim) v:=KS.q (k0 .lim) v
def s0:=so m_ (k0 m_)
def run:QY×XH×(List Int)×(List Int)×Int×Unit->Option (QY×XH×(List Int)×Int×Unit):=fun v_=>match v_ with
|(v,x,unique,MS,t1,())=>
 bif wB (unique.length:Int)then
 bif !(decide ((unique.length:Int)=32))then
  some (v,x,([]:List Int),10,())
 else
  bif wB (x.2.1.length:Int)then
  bif decide ((x.2.1.length:Int)=0)then
   some (v,x,([]:List Int),19,())
  else
   bif inB 0 (x.2.1.length:Int)then
   bif wB ((rd ([]:List Int) x.2.1 0).length:Int)then
   (N9.l0 m_ (unique,MS,t1,(rd ([]:List Int) x.2.1 0),(ahw.wrap (128+((rd ([]:List Int) x.2.1 0).length:Int))),0,v.1,v.2,x.1.1,x.1.2.1,x.1.2.2,x.2.1,x.2.2.1,x.2.2.2.1,x.2.2.2.2.1,x.2.2.2.2.2.1,x.2.2.2.2.2.2.1,x.2.2.2.2.2.2.2.1,x.2.2.2.2.2.2.2.2,false,0,([]:List Int),([]:List Int),([]:List Int),([]:List Int),0,0,0,0,0,([(260,unique),(516,(rd ([]:List Int) x.2.1 0))]:List (Int×List Int)),())).bind fun (Wp,YK,t11,m,m1,m2,m3,m4,m5,m6,m7,m8,m9,m10,m11,m12,m13,m14,m15,m16,m17,m18,m19,m20,m21,m22,m23,m24,())=>
   (Qc.run m_ ((m,m1),(0,(4,(3,(0,(0,(0,(0,(0,(0,(0,(0,(0,(t11,m24))))))))))))),m3,YK,([]:List (Int×List Int)),())).bind fun (r,r1,r2,())=>
   bif !(decide (r2=0))then
    some ((m,m1),((m2,(m3,m4)),(m5,(m6,(m7,(m8,(m9,(m10,(m11,m12)))))))),([]:List Int),r2,())
   else
    bif sV 1 (m5.length:Int) (m5.length:Int)then
    bif decide ((cut m5 1 (m5.length:Int)).length<4398046511104)then
    some (r,((m2,(m3,m4)),((cut m5 1 (m5.length:Int)),(Wp,(r1,(t11,((ahC.wrap (m9+1)),(m10,(m11,m12)))))))),r1,0,())else none else none else none else none else none else none
theorem k:KT (O m_) [] ⟨16,[.ag Q7,.ag TV,.one .str,.one .str,.one (.int .u64)],.gG [.sh (.ag Q7),.sh (.ag TV),.sh (.one .str),.sh (.one (.int .i64))],run m_⟩ [s0 m_]:=fun _=>by kernel_rfl
def c:=co (k m_)
end N9

namespace Oc
def O(m_:Dq):OO P:=lI []
def e0:Spec:=⟨[fs 124 [.q 116,.z 116,.b 0,.q 15] [(0,.s),(3,.u),(6,.w),(7,.w)]],[],0⟩
def x0:List Spec:=[⟨[fs 124 [.q 15] [(3,.u)]],[],0⟩]
abbrev A0:Type:=LI×Int×Int×Int×Unit
abbrev B0:Type:=(Int×Unit)
def b0(m_:Dq)(self:A0->Option B0):A0->Option B0:=fun v_=>match v_ with
|(s,n,t,t1,())=>
 bif decide (t1<t)then
  bif inB t1 (s.length:Int)then
  self (s,(KL .u64 (I_ .u64 n 8) (ahC.wrap (rd 0 s t1))),t,(ahw.wrap (t1+1)),())else none
 else
  some (n,())
theorem k0:KQ 124 (O m_) [] e0 x0 [] (b0 m_):=fun _ _=>by kernel_rfl
def l0:=loop m_ (b0 m_)
theorem q0(v):l0 .lim v=b0 .lim (l0 .lim) v:=KS.q (k0 .lim) v
def s0:=so m_ (k0 m_)
def run:(List Int)×Unit->Option (Int):=fun v_=>match v_ with
|(s,())=>
 bif wB (s.length:Int)then
 (Oc.l0 m_ (s,0,(s.length:Int),0,())).bind fun (n,())=>
 some n else none
theorem k:KT (O m_) [] ⟨124,[.one .str],.one (.sh (.one (.int .u64))),run m_⟩ [s0 m_]:=fun _=>by kernel_rfl
def c:=co (k m_)
end Oc

namespace Oo
def O:OO P:=lI [Oc.c m_]
def o0:dJ:= .c [.row Xp]
def f1:gB:=⟨89,[.inRange 3,.b 0,.q 15],[(2,.ptr 0 0),(3,.ptr 1 0),(4,.ptr 2 0)],none,[.mark 4],false⟩
def o2:dJ:= .c [.own 5 Xp]
def o3:dJ:= .loop .done (some .ret) 89 [(2,.ptr 0 0),(3,.ptr 1 0),(4,.ptr 2 0)] [9,10] (KP 58) 4
def e0:Spec:=⟨[fs 144 [.q 4,.z 4,.b 0] [(0,.fn (.yield 0) []),(1,.ptr 1 0)],⟨89,[.inRange 0,.b 0,.q 15],[(2,.ptr 2 0),(3,.ptr 3 0),(4,.ptr 4 0)],none,[.mark 5],false⟩],[(0,.loop .ready none 89 [(2,.ptr 2 0),(3,.ptr 3 0),(4,.ptr 4 0)] [9,10] (KP 58) 5),(1,.c [.s]),(2,.c [.CW]),(3,.c [.w]),(4,.c [.own 5009 Xp]),(5,.deferred false),(5009,o0)],5010⟩
def x0:List Spec:=[⟨[fs 144 [.q 1205,.q 151,.b 1,.z 4,.b 0] [],f1],[(0,.c [.CW]),(1,.c [.w]),(2,o2),(3,o3),(4,.deferred false),(5,o0)],6⟩,⟨[fs 144 [.q 2430,.b 1,.z 4,.b 0] [],f1],[(0,.c [.CW]),(1,.c [.w]),(2,o2),(3,o3),(4,.deferred false),(5,o0)],6⟩,⟨[fs 144 [] [],f1],[(0,.c [.CW]),(1,.c [.w]),(2,o2),(3,.loop .ready none 89 [(2,.ptr 0 0),(3,.ptr 1 0),(4,.ptr 2 0)] [9,10] (KP 58) 4),(4,.deferred false),(5,o0)],6⟩]
abbrev A0:Type:=LI×Int×(List (Int×List Int))×Unit
abbrev B0:Type:=(Int×(List (Int×List Int))×Unit) ⊕ (Int×(List (Int×List Int))×Unit) ⊕ (Int×(List (Int×List Int))×Unit)
def b0(self:A0->Option B0):A0->Option B0:=fun v_=>match v_ with
|(m,m1,m2,())=>
 bif !(decide (m=([]:List Int)))then
  bif wB (m.length:Int)then
  bif decide ((m.length:Int)>=4)then
   bif sV 2 4 (m.length:Int)then
   (Oc.run m_ ((cut m 2 4),())).bind fun r=>
   bif((!(!((decide ((ahw.wrap r)<16))||(!(decide ((I9 .i64 (ahw.wrap r) 3)=0))))))||(wB (m.length:Int)))then
   bif(((decide ((ahw.wrap r)<16))||(!(decide ((I9 .i64 (ahw.wrap r) 3)=0))))||(decide ((ahw.wrap r)>(m.length:Int))))then
    some (.inl (10,m2,()))
   else
    bif sV 0 2 (m.length:Int)then
    (Oc.run m_ ((cut m 0 2),())).bind fun r1=>
    bif sV 4 (ahw.wrap r) (m.length:Int)then
    bif sV (ahw.wrap r) (m.length:Int) (m.length:Int)then
    bif wB (m2.length:Int)then
    bif decide ((m2.length:Int)=16)then
     some (.inr (.inl (18,m2,())))
    else
     bif decide (m2.length+([((ahw.wrap r1),(cut m 4 (ahw.wrap r)))]:List (Int×List Int)).length<2932031007402)then
     self ((cut m (ahw.wrap r) (m.length:Int)),m1,(m2++([((ahw.wrap r1),(cut m 4 (ahw.wrap r)))]:List (Int×List Int))),())else none else none else none else none else none else none else none
  else
   some (.inl (10,m2,()))else none
 else
  some (.inr (.inr (m1,m2,())))
theorem k0:KQ 89 (O m_) [129] e0 x0 [] (b0 m_):=fun _ _=>by kernel_rfl
def l0:=loop m_ (b0 m_)
theorem q0(v):l0 .lim v=b0 .lim (l0 .lim) v:=KS.q (k0 .lim) v
def s0:=so m_ (k0 m_)
def run:(List Int)×Unit->Option ((List (Int×List Int))×Int×Unit):=fun v_=>match v_ with
|(s,())=>
 (Oo.l0 m_ (s,0,([]:List (Int×List Int)),())).bind fun g_=>match g_ with
 | .inl (m,m1,())=>
  some (([]:List (Int×List Int)),m,())
 | .inr (.inl (m2,m3,()))=>
  some (([]:List (Int×List Int)),m2,())
 | .inr (.inr (m4,m5,()))=>
  some (m5,0,())
theorem k:KT (O m_) [129] ⟨89,[.one .str],.gG [.own Xp,.sh (.one (.int .i64))],run m_⟩ [s0 m_]:=fun _=>by kernel_rfl
def c:=co (k m_)
end Oo

namespace Rn
def O:OO P:=lI [Oo.c m_,Oc.c m_]
def run:(List Int)×Unit->Option (DT5×Int×Unit):=fun v_=>match v_ with
|(s,())=>
 bif wB (s.length:Int)then
 bif decide ((s.length:Int)<48)then
  some ((0,(0,(0,(0,(0,(0,(0,(0,(0,(0,(0,(0,(0,([]:List (Int×List Int))))))))))))))),11,())
 else
  bif wB (s.length:Int)then
  bif decide ((s.length:Int)>1280)then
   some ((0,(0,(0,(0,(0,(0,(0,(0,(0,(0,(0,(0,(0,([]:List (Int×List Int))))))))))))))),12,())
  else
   bif sV 48 (s.length:Int) (s.length:Int)then
   (Oo.run m_ ((cut s 48 (s.length:Int)),())).bind fun (r,r1,())=>
   bif !(decide (r1=0))then
    some ((0,(0,(0,(0,(0,(0,(0,(0,(0,(0,(0,(0,(0,([]:List (Int×List Int))))))))))))))),r1,())
   else
    bif inB 0 (s.length:Int)then
    bif inB 0 (s.length:Int)then
    bif inB 0 (s.length:Int)then
    bif inB 1 (s.length:Int)then
    bif inB 2 (s.length:Int)then
    bif inB 3 (s.length:Int)then
    bif sV 4 8 (s.length:Int)then
    (Oc.run m_ ((cut s 4 8),())).bind fun r2=>
    bif sV 8 12 (s.length:Int)then
    (Oc.run m_ ((cut s 8 12),())).bind fun r3=>
    bif sV 12 16 (s.length:Int)then
    (Oc.run m_ ((cut s 12 16),())).bind fun r4=>
    bif sV 16 24 (s.length:Int)then
    (Oc.run m_ ((cut s 16 24),())).bind fun r5=>
    bif sV 24 32 (s.length:Int)then
    (Oc.run m_ ((cut s 24 32),())).bind fun r6=>
    bif sV 32 40 (s.length:Int)then
    (Oc.run m_ ((cut s 32 40),())).bind fun r7=>
    bif sV 40 48 (s.length:Int)then
    (Oc.run m_ ((cut s 40 48),())).bind fun r8=>
    some (((ahw.wrap (Ja .u8 (rd 0 s 0) 6)),((ahw.wrap (I9 .u8 (Ja .u8 (rd 0 s 0) 3) 7)),((ahw.wrap (I9 .u8 (rd 0 s 0) 7)),((ahw.wrap (rd 0 s 1)),((ahw.wrap (aiX.wrap (rd 0 s 2))),((ahw.wrap (aiX.wrap (rd 0 s 3))),((ah1.wrap r2),((ah1.wrap r3),((ah1.wrap r4),(r5,(r6,(r7,(r8,r))))))))))))),0,())else none else none else none else none else none else none else none else none else none else none else none else none else none else none else none else none
theorem k:KT (O m_) [] ⟨82,[.one .str],.gG [.sh (.ag W_),.sh (.one (.int .i64))],run m_⟩ []:=fun _=>by kernel_rfl
def c:=co (k m_)
end Rn

namespace QD
def O(m_:Dq):OO P:=lI []
def run(m_:Dq):(Int×List Int)×Unit->Option (Bool):=fun v_=>match v_ with
|(f,())=>
 some (decide (f.1=1028))
theorem k:KT (O m_) [] ⟨84,[.ag Xp],.one (.sh (.one .bool)),run m_⟩ []:=fun _=>by kernel_rfl
def c:=co (k m_)
end QD

namespace Td
def O:OO P:=lI [Pv.c m_]
def run:(List (Int×List Int))×Int×Unit->Option ((List Int)×Int×Unit):=fun v_=>match v_ with
|(l,kind,())=>
 (Pv.run m_ (l,kind,())).bind fun r=>
 bif wB (r.length:Int)then
 bif decide ((r.length:Int)=0)then
  some (([]:List Int),19,())
 else
  bif decide ((r.length:Int)=1)then
   bif inB 0 (r.length:Int)then
   bif inB (rd 0 r 0) (l.length:Int)then
   some ((rd ((0:Int),([]:List Int)) l (rd 0 r 0)).2,0,())else none else none
  else
   some (([]:List Int),24,())else none
theorem k:KT (O m_) [] ⟨85,[.one Qr,.one (.int .i64)],.gG [.sh (.one .str),.sh (.one (.int .i64))],run m_⟩ []:=fun _=>by kernel_rfl
def c:=co (k m_)
end Td

namespace TN
def O(m_:Dq):OO P:=lI []
def run(m_:Dq):(Int×List Int)×Unit->Option (Bool):=fun v_=>match v_ with
|(f,())=>
 some (decide (f.1=1028))
theorem k:KT (O m_) [] ⟨86,[.ag Xp],.one (.sh (.one .bool)),run m_⟩ []:=fun _=>by kernel_rfl
def c:=co (k m_)
end TN

namespace Rj
def O:OO P:=lI [QG.c m_]
def run:(List Int)×Unit->Option ((List Int)×(List Int)×Int×Unit):=fun v_=>match v_ with
|(body,())=>
 bif wB (body.length:Int)then
 bif decide ((body.length:Int)<2)then
  some (([]:List Int),([]:List Int),11,())
 else
  bif sV 0 2 (body.length:Int)then
  bif sV 2 (body.length:Int) (body.length:Int)then
  bif inB 0 ((cut body 0 2).length:Int)then
  bif inB 1 ((cut body 0 2).length:Int)then
  bif wB ((cut body 2 (body.length:Int)).length:Int)then
  bif decide (((cut body 2 (body.length:Int)).length:Int)<2)then
   some (([]:List Int),([]:List Int),11,())
  else
   bif sV 0 2 ((cut body 2 (body.length:Int)).length:Int)then
   bif sV 2 ((cut body 2 (body.length:Int)).length:Int) ((cut body 2 (body.length:Int)).length:Int)then
   bif inB 0 ((cut (cut body 2 (body.length:Int)) 0 2).length:Int)then
   bif inB 1 ((cut (cut body 2 (body.length:Int)) 0 2).length:Int)then
   bif !(decide ((KL .i64 (I_ .i64 (ahw.wrap (rd 0 (cut body 0 2) 0)) 8) (ahw.wrap (rd 0 (cut body 0 2) 1)))=16))then
    some (([]:List Int),([]:List Int),10,())
   else
    bif wB ((cut (cut body 2 (body.length:Int)) 2 ((cut body 2 (body.length:Int)).length:Int)).length:Int)then
    bif decide (((cut (cut body 2 (body.length:Int)) 2 ((cut body 2 (body.length:Int)).length:Int)).length:Int)<(KL .i64 (I_ .i64 (ahw.wrap (rd 0 (cut body 0 2) 0)) 8) (ahw.wrap (rd 0 (cut body 0 2) 1))))then
     some (([]:List Int),([]:List Int),10,())
    else
     bif sV 0 (KL .i64 (I_ .i64 (ahw.wrap (rd 0 (cut body 0 2) 0)) 8) (ahw.wrap (rd 0 (cut body 0 2) 1))) ((cut (cut body 2 (body.length:Int)) 2 ((cut body 2 (body.length:Int)).length:Int)).length:Int)then
     bif sV (KL .i64 (I_ .i64 (ahw.wrap (rd 0 (cut body 0 2) 0)) 8) (ahw.wrap (rd 0 (cut body 0 2) 1))) ((cut (cut body 2 (body.length:Int)) 2 ((cut body 2 (body.length:Int)).length:Int)).length:Int) ((cut (cut body 2 (body.length:Int)) 2 ((cut body 2 (body.length:Int)).length:Int)).length:Int)then
     bif wB ((cut (cut (cut body 2 (body.length:Int)) 2 ((cut body 2 (body.length:Int)).length:Int)) (KL .i64 (I_ .i64 (ahw.wrap (rd 0 (cut body 0 2) 0)) 8) (ahw.wrap (rd 0 (cut body 0 2) 1))) ((cut (cut body 2 (body.length:Int)) 2 ((cut body 2 (body.length:Int)).length:Int)).length:Int)).length:Int)then
     bif decide (((cut (cut (cut body 2 (body.length:Int)) 2 ((cut body 2 (body.length:Int)).length:Int)) (KL .i64 (I_ .i64 (ahw.wrap (rd 0 (cut body 0 2) 0)) 8) (ahw.wrap (rd 0 (cut body 0 2) 1))) ((cut (cut body 2 (body.length:Int)) 2 ((cut body 2 (body.length:Int)).length:Int)).length:Int)).length:Int)<(KL .i64 (I_ .i64 (ahw.wrap (rd 0 (cut (cut body 2 (body.length:Int)) 0 2) 0)) 8) (ahw.wrap (rd 0 (cut (cut body 2 (body.length:Int)) 0 2) 1))))then
      some (([]:List Int),([]:List Int),10,())
     else
      bif sV 0 (KL .i64 (I_ .i64 (ahw.wrap (rd 0 (cut (cut body 2 (body.length:Int)) 0 2) 0)) 8) (ahw.wrap (rd 0 (cut (cut body 2 (body.length:Int)) 0 2) 1))) ((cut (cut (cut body 2 (body.length:Int)) 2 ((cut body 2 (body.length:Int)).length:Int)) (KL .i64 (I_ .i64 (ahw.wrap (rd 0 (cut body 0 2) 0)) 8) (ahw.wrap (rd 0 (cut body 0 2) 1))) ((cut (cut body 2 (body.length:Int)) 2 ((cut body 2 (body.length:Int)).length:Int)).length:Int)).length:Int)then
      bif sV (KL .i64 (I_ .i64 (ahw.wrap (rd 0 (cut (cut body 2 (body.length:Int)) 0 2) 0)) 8) (ahw.wrap (rd 0 (cut (cut body 2 (body.length:Int)) 0 2) 1))) ((cut (cut (cut body 2 (body.length:Int)) 2 ((cut body 2 (body.length:Int)).length:Int)) (KL .i64 (I_ .i64 (ahw.wrap (rd 0 (cut body 0 2) 0)) 8) (ahw.wrap (rd 0 (cut body 0 2) 1))) ((cut (cut body 2 (body.length:Int)) 2 ((cut body 2 (body.length:Int)).length:Int)).length:Int)).length:Int) ((cut (cut (cut body 2 (body.length:Int)) 2 ((cut body 2 (body.length:Int)).length:Int)) (KL .i64 (I_ .i64 (ahw.wrap (rd 0 (cut body 0 2) 0)) 8) (ahw.wrap (rd 0 (cut body 0 2) 1))) ((cut (cut body 2 (body.length:Int)) 2 ((cut body 2 (body.length:Int)).length:Int)).length:Int)).length:Int)then
      bif decide ((cut (cut (cut (cut body 2 (body.length:Int)) 2 ((cut body 2 (body.length:Int)).length:Int)) (KL .i64 (I_ .i64 (ahw.wrap (rd 0 (cut body 0 2) 0)) 8) (ahw.wrap (rd 0 (cut body 0 2) 1))) ((cut (cut body 2 (body.length:Int)) 2 ((cut body 2 (body.length:Int)).length:Int)).length:Int)) 0 (KL .i64 (I_ .i64 (ahw.wrap (rd 0 (cut (cut body 2 (body.length:Int)) 0 2) 0)) 8) (ahw.wrap (rd 0 (cut (cut body 2 (body.length:Int)) 0 2) 1)))).length+(cut (cut (cut (cut body 2 (body.length:Int)) 2 ((cut body 2 (body.length:Int)).length:Int)) (KL .i64 (I_ .i64 (ahw.wrap (rd 0 (cut body 0 2) 0)) 8) (ahw.wrap (rd 0 (cut body 0 2) 1))) ((cut (cut body 2 (body.length:Int)) 2 ((cut body 2 (body.length:Int)).length:Int)).length:Int)) (KL .i64 (I_ .i64 (ahw.wrap (rd 0 (cut (cut body 2 (body.length:Int)) 0 2) 0)) 8) (ahw.wrap (rd 0 (cut (cut body 2 (body.length:Int)) 0 2) 1))) ((cut (cut (cut body 2 (body.length:Int)) 2 ((cut body 2 (body.length:Int)).length:Int)) (KL .i64 (I_ .i64 (ahw.wrap (rd 0 (cut body 0 2) 0)) 8) (ahw.wrap (rd 0 (cut body 0 2) 1))) ((cut (cut body 2 (body.length:Int)) 2 ((cut body 2 (body.length:Int)).length:Int)).length:Int)).length:Int)).length<=maxStr)then
      (QG.run m_ ((cut (cut (cut (cut body 2 (body.length:Int)) 2 ((cut body 2 (body.length:Int)).length:Int)) (KL .i64 (I_ .i64 (ahw.wrap (rd 0 (cut body 0 2) 0)) 8) (ahw.wrap (rd 0 (cut body 0 2) 1))) ((cut (cut body 2 (body.length:Int)) 2 ((cut body 2 (body.length:Int)).length:Int)).length:Int)) 0 (KL .i64 (I_ .i64 (ahw.wrap (rd 0 (cut (cut body 2 (body.length:Int)) 0 2) 0)) 8) (ahw.wrap (rd 0 (cut (cut body 2 (body.length:Int)) 0 2) 1)))),())).bind fun r=>
      bif !(decide (((cut (cut (cut (cut body 2 (body.length:Int)) 2 ((cut body 2 (body.length:Int)).length:Int)) (KL .i64 (I_ .i64 (ahw.wrap (rd 0 (cut body 0 2) 0)) 8) (ahw.wrap (rd 0 (cut body 0 2) 1))) ((cut (cut body 2 (body.length:Int)) 2 ((cut body 2 (body.length:Int)).length:Int)).length:Int)) 0 (KL .i64 (I_ .i64 (ahw.wrap (rd 0 (cut (cut body 2 (body.length:Int)) 0 2) 0)) 8) (ahw.wrap (rd 0 (cut (cut body 2 (body.length:Int)) 0 2) 1))))++(cut (cut (cut (cut body 2 (body.length:Int)) 2 ((cut body 2 (body.length:Int)).length:Int)) (KL .i64 (I_ .i64 (ahw.wrap (rd 0 (cut body 0 2) 0)) 8) (ahw.wrap (rd 0 (cut body 0 2) 1))) ((cut (cut body 2 (body.length:Int)) 2 ((cut body 2 (body.length:Int)).length:Int)).length:Int)) (KL .i64 (I_ .i64 (ahw.wrap (rd 0 (cut (cut body 2 (body.length:Int)) 0 2) 0)) 8) (ahw.wrap (rd 0 (cut (cut body 2 (body.length:Int)) 0 2) 1))) ((cut (cut (cut body 2 (body.length:Int)) 2 ((cut body 2 (body.length:Int)).length:Int)) (KL .i64 (I_ .i64 (ahw.wrap (rd 0 (cut body 0 2) 0)) 8) (ahw.wrap (rd 0 (cut body 0 2) 1))) ((cut (cut body 2 (body.length:Int)) 2 ((cut body 2 (body.length:Int)).length:Int)).length:Int)).length:Int)))=r))then
       some (([]:List Int),([]:List Int),10,())
      else
       some ((cut (cut (cut body 2 (body.length:Int)) 2 ((cut body 2 (body.length:Int)).length:Int)) 0 (KL .i64 (I_ .i64 (ahw.wrap (rd 0 (cut body 0 2) 0)) 8) (ahw.wrap (rd 0 (cut body 0 2) 1)))),(cut (cut (cut (cut body 2 (body.length:Int)) 2 ((cut body 2 (body.length:Int)).length:Int)) (KL .i64 (I_ .i64 (ahw.wrap (rd 0 (cut body 0 2) 0)) 8) (ahw.wrap (rd 0 (cut body 0 2) 1))) ((cut (cut body 2 (body.length:Int)) 2 ((cut body 2 (body.length:Int)).length:Int)).length:Int)) 0 (KL .i64 (I_ .i64 (ahw.wrap (rd 0 (cut (cut body 2 (body.length:Int)) 0 2) 0)) 8) (ahw.wrap (rd 0 (cut (cut body 2 (body.length:Int)) 0 2) 1)))),0,())else none else none else none else none else none else none else none else none else none else none else none else none else none else none else none else none else none
theorem k:KT (O m_) [126,127] ⟨87,[.one .str],.gG [.sh (.one .str),.sh (.one .str),.sh (.one (.int .i64))],run m_⟩ []:=fun v_=>match v_ with|(body,())=>by kernel_rfl
def c:=co (k m_)
end Rj

namespace Um
def O:OO P:=lI [MW.c m_,QH.c m_,QI.c m_,O9.c m_,Oy.c m_,PI.c m_]
def run:(List Int)×(List (List Int))×(List Int)×Unit->Option ((List Int)×Int×Unit):=fun v_=>match v_ with
|(key,ad,sealed,())=>
 (QH.run m_ (key,ad,())).bind fun (r,r1,r2,())=>
 bif !(decide (r2=0))then
  some (([]:List Int),r2,())
 else
  bif wB (sealed.length:Int)then
  bif decide ((sealed.length:Int)<16)then
   some (([]:List Int),11,())
  else
   bif wB (sealed.length:Int)then
   bif decide ((sealed.length:Int)>65552)then
    some (([]:List Int),12,())
   else
    bif sV 0 16 (sealed.length:Int)then
    bif sV 16 (sealed.length:Int) (sealed.length:Int)then
    (QI.run m_ (r1,(cut sealed 0 16),(cut sealed 16 (sealed.length:Int)),())).bind fun r3=>
    (MW.run m_ (ad,())).bind fun r4=>
    bif decide (r4.length+([r3]:List (List Int)).length<4398046511104)then
    (Oy.run m_ (r,(r4++([r3]:List (List Int))),())).bind fun r5=>
    (O9.run m_ ((cut sealed 0 16),r5,())).bind fun r6=>
    (PI.run m_ (16,())).bind fun r7=>
    bif !(decide (r6=r7))then
     some (([]:List Int),17,())
    else
     some (r3,0,())else none else none else none else none else none
theorem k:KT (O m_) [] ⟨217,[.one .str,.one (.lst .str),.one .str],.gG [.sh (.one .str),.sh (.one (.int .i64))],run m_⟩ []:=fun _=>by kernel_rfl
def c:=co (k m_)
end Um

namespace Qv
def O:OO P:=lI [Um.c m_]
def run:Unit×SX×Unit->Option ((List Int)×Int×Unit):=fun v_=>match v_ with
|(a,k,())=>
 (Um.run m_ (k.1,k.2.1,k.2.2.2,())).bind fun (r,r1,())=>
 some (r,r1,())
theorem k:KT (O m_) [] ⟨215,[.ag .unit,.ag Xo],.gG [.sh (.one .str),.sh (.one (.int .i64))],run m_⟩ []:=fun _=>by kernel_rfl
def c:=co (k m_)
end Qv

namespace OW
def O:OO P:=lI [Qi.c m_,Nq.c m_,Qv.c m_]
def f0:gB:=fs 88 [.v 6 [6,7,8,9,10],.q 7] []
def o1:dJ:= .c [.dat Uo]
def f2:gB:=fs 205 [.v 30 [5,6],.q 31] [(0,.ptr 0 0)]
def e0:Spec:=⟨[fs 208 [.q 52,.z 52,.b 0,.q 7] [(0,.dat Uo),(1,.fn (.func 209) [0]),(7,.w),(8,.w)],fs 205 [.v 30 [5,6],.q 31] [(0,.ptr 1 0)],f0],[(0,.c [.s,.t,.s,.s]),(1,o1)],2⟩
def x0:List Spec:=[⟨[fs 208 [.q 13517,.b 1,.q 423,.z 52,.b 0,.q 7] [(4,.w)],f2,f0],[(0,o1)],1⟩,⟨[fs 208 [.q 7] [],f2,f0],[(0,o1)],1⟩]
abbrev A0:Type:=(List (List Int×(List LI×(List Int×List Int))))×Int×Int×LI×LL×LI×LI×(List (List Int×(List LI×(List Int×List Int))))×Unit
abbrev B0:Type:=(Int×(List (List Int×(List LI×(List Int×List Int))))×Unit) ⊕ ((List (List Int×(List LI×(List Int×List Int))))×Unit)
def b0(self:A0->Option B0):A0->Option B0:=fun v_=>match v_ with
|(s,t,t1,m,m1,m2,m3,m4,())=>
 bif decide (t1<t)then
  bif inB t1 (s.length:Int)then
  ((bif((decide (((((rd Pj s t1).2).2).2)=m3))&&(decide (((rd Pj s t1).1)=m)))then Nq.run m_ (((rd Pj s t1).2).1,m1,())else some false)).bind fun r=>
  bif(((decide (((((rd Pj s t1).2).2).2)=m3))&&(decide (((rd Pj s t1).1)=m)))&&r)then
   some (.inl (t1,m4,()))
  else
   self (s,t,(ahw.wrap (t1+1)),m,m1,m2,m3,m4,())else none
 else
  some (.inr (m4,()))
theorem k0:KQ 88 (O m_) [128,205,208,209] e0 x0 [] (b0 m_):=fun _ _=>by kernel_rfl
def l0:=loop m_ (b0 m_)
theorem q0(v):l0 .lim v=b0 .lim (l0 .lim) v:=KS.q (k0 .lim) v
def s0:=so m_ (k0 m_)
def run:QY×(List Int)×(List (List Int))×(List Int)×Unit->Option ((List Int)×Int×Unit):=fun v_=>match v_ with
|(v,key,ad,text,())=>
 bif v.1 then
  (Qi.run m_ ((key,(ad,(([]:List Int),text))),())).bind fun r=>
  bif !(decide (r=0))then
   some (([]:List Int),r,())
  else
   bif wB (text.length:Int)then
   bif decide ((text.length:Int)<16)then
    some (([]:List Int),11,())
   else
    bif wB (text.length:Int)then
    bif decide ((text.length:Int)>65552)then
     some (([]:List Int),12,())
    else
     bif wB (v.2.length:Int)then
     (OW.l0 m_ (v.2,(v.2.length:Int),0,key,ad,([]:List Int),text,v.2,())).bind fun g_=>match g_ with
     | .inl (t,m,())=>
      bif decide (t<0)then
       some (([]:List Int),17,())
      else
       bif inB t (m.length:Int)then
       some ((((rd Pj m t).2).2).1,0,())else none
     | .inr (m1,())=>
      some (([]:List Int),17,())else none else none else none
 else
  (Qv.run m_ ((),(key,(ad,(([]:List Int),text))),())).bind fun (r1,r2,())=>
  some (r1,r2,())
theorem k:KT (O m_) [128,205,208,209] ⟨88,[.ag Q7,.one .str,.one (.lst .str),.one .str],.gG [.sh (.one .str),.sh (.one (.int .i64))],run m_⟩ [s0 m_]:=fun _=>by kernel_rfl
def c:=co (k m_)
end OW

namespace Pz
def O:OO P:=lI [Nj.c m_,Rn.c m_,TN.c m_,Rj.c m_,OW.c m_,Oo.c m_]
def f0:gB:=fs 45 [.v 30 [2,3],.q 31] [(2,.s),(3,.ptr 0 0),(6,.ptr 1 0),(8,.ptr 2 0)]
def o1:dJ:= .c [.b,.dat Uo]
def o2:dJ:= .c [.w,.w,.w,.w,.w,.w,.dat (.int .u32),.dat (.int .u32),.dat (.int .u32),.u,.u,.u,.u,.CW,.CW,.CW]
def o3:dJ:= .c [.w,.w,.w,.w,.w,.w,.dat (.int .u32),.dat (.int .u32),.dat (.int .u32),.u,.u,.u,.u,.dat Qr]
def e0:Spec:=⟨[fs 83 [.q 52,.z 52,.b 0,.q 7] [(0,.dat Qr),(1,.fn (.func 86) []),(7,.w),(8,.w)],f0],[(0,o1),(1,o2),(2,o3)],3⟩
def x0:List Spec:=[⟨[fs 83 [.q 13517,.b 1,.q 423,.z 52,.b 0,.q 7] [(4,.w)],f0],[(0,o1),(1,o2),(2,o3)],3⟩,⟨[fs 83 [.q 7] [],f0],[(0,o1),(1,o2),(2,o3)],3⟩]
abbrev A0:Type:=(List (Int×List Int))×Int×Int×LI×Bool×(List (List Int×(List LI×(List Int×List Int))))×Int×Int×Int×Int×Int×Int×Int×Int×Int×Int×Int×Int×Int×Int×Int×Int×Int×Int×Int×Int×Int×Int×Int×Int×Int×Int×(List (Int×List Int))×Unit
abbrev B0:Type:=(Int×LI×Bool×(List (List Int×(List LI×(List Int×List Int))))×Int×Int×Int×Int×Int×Int×Int×Int×Int×Int×Int×Int×Int×Int×Int×Int×Int×Int×Int×Int×Int×Int×Int×Int×Int×Int×(List (Int×List Int))×Unit) ⊕ (LI×Bool×(List (List Int×(List LI×(List Int×List Int))))×Int×Int×Int×Int×Int×Int×Int×Int×Int×Int×Int×Int×Int×Int×Int×Int×Int×Int×Int×Int×Int×Int×Int×Int×Int×Int×(List (Int×List Int))×Unit)
def b0(self:A0->Option B0):A0->Option B0:=fun v_=>match v_ with
|(s,t,t1,key)=>
 bif decide (t1<t)then
  bif inB t1 (s.length:Int)then
  (TN.run m_ ((rd ((0:Int),([]:List Int)) s t1),())).bind fun r=>
  bif r then
   some (.inl (t1,key))
  else
   self (s,t,(ahw.wrap (t1+1)),key)else none
 else
  some (.inr (key))
theorem k0:KQ 45 (O m_) [83] e0 x0 [] (b0 m_):=fun _ _=>by kernel_rfl
def l0:=loop m_ (b0 m_)
theorem q0(v):l0 .lim v=b0 .lim (l0 .lim) v:=KS.q (k0 .lim) v
def s0:=so m_ (k0 m_)
def run:QY×(List Int)×(List Int)×Unit->Option ((DT5×(List (Int×List Int)×List (Int×List Int)))×Int×Unit):=fun v_=>match v_ with
|(v,s,key,())=>
 (Rn.run m_ (s,())).bind fun (r,r1,())=>
 bif !(decide (r1=0))then
  some (((0,(0,(0,(0,(0,(0,(0,(0,(0,(0,(0,(0,(0,([]:List (Int×List Int))))))))))))))),WA),r1,())
 else
  bif wB (r.2.2.2.2.2.2.2.2.2.2.2.2.2.length:Int)then
  (Pz.l0 m_ (r.2.2.2.2.2.2.2.2.2.2.2.2.2,(r.2.2.2.2.2.2.2.2.2.2.2.2.2.length:Int),0,key,v.1,v.2,0,0,0,0,0,0,0,0,0,0,0,0,0,r.1,r.2.1,r.2.2.1,r.2.2.2.1,r.2.2.2.2.1,r.2.2.2.2.2.1,r.2.2.2.2.2.2.1,r.2.2.2.2.2.2.2.1,r.2.2.2.2.2.2.2.2.1,r.2.2.2.2.2.2.2.2.2.1,r.2.2.2.2.2.2.2.2.2.2.1,r.2.2.2.2.2.2.2.2.2.2.2.1,r.2.2.2.2.2.2.2.2.2.2.2.2.1,r.2.2.2.2.2.2.2.2.2.2.2.2.2,())).bind fun g_=>match g_ with
  | .inl (t,key1,m,m1,m2,m3,m4,m5,m6,m7,m8,m9,m10,m11,m12,m13,m14,m15,m16,m17,m18,m19,m20,m21,m22,m23,m24,Tz,Tc,TG,RX,())=>
   bif decide (t<0)then
    some (((0,(0,(0,(0,(0,(0,(0,(0,(0,(0,(0,(0,(0,([]:List (Int×List Int))))))))))))))),WA),19,())
   else
    bif((sV 0 t t)&&(decide (t<=(RX.length:Int))))then
    bif inB t (RX.length:Int)then
    (Rj.run m_ ((rd ((0:Int),([]:List Int)) RX t).2,())).bind fun (r2,r3,r4,())=>
    bif !(decide (r4=0))then
     some (((0,(0,(0,(0,(0,(0,(0,(0,(0,(0,(0,(0,(0,([]:List (Int×List Int))))))))))))))),WA),r4,())
    else
     (Nj.run m_ ((m15,(m16,(m17,(m18,(m19,(m20,(m21,(m22,(m23,(m24,(Tz,(Tc,(TG,(cut RX 0 t)))))))))))))),())).bind fun (r5,r6,())=>
     (OW.run m_ ((m,m1),key1,([r5,r2]:List (List Int)),r3,())).bind fun (r7,r8,())=>
     bif !(decide (r8=0))then
      some (((0,(0,(0,(0,(0,(0,(0,(0,(0,(0,(0,(0,(0,([]:List (Int×List Int))))))))))))))),WA),r8,())
     else
      (Oo.run m_ (r7,())).bind fun (r9,r10,())=>
      bif !(decide (r10=0))then
       some (((0,(0,(0,(0,(0,(0,(0,(0,(0,(0,(0,(0,(0,([]:List (Int×List Int))))))))))))))),WA),r10,())
      else
       some (((m15,(m16,(m17,(m18,(m19,(m20,(m21,(m22,(m23,(m24,(Tz,(Tc,(TG,([]:List (Int×List Int))))))))))))))),((cut RX 0 t),r9)),0,())else none else none
  | .inr (key2)=>
   some (((0,(0,(0,(0,(0,(0,(0,(0,(0,(0,(0,(0,(0,([]:List (Int×List Int))))))))))))))),WA),19,())else none
theorem k:KT (O m_) [83] ⟨45,[.ag Q7,.one .str,.one .str],.gG [.sh (.ag (.pair W_ (.pair Qr Qr))),.sh (.one (.int .i64))],run m_⟩ [s0 m_]:=fun _=>by kernel_rfl
def c:=co (k m_)
end Pz

namespace Rf
def O(m_:Dq):OO P:=lI []
def run(m_:Dq):XH×Unit->Option (XH):=fun v_=>match v_ with
|(x,())=>
 some (x.1,(x.2.1,(([]:List Int),(([]:List Int),(0,x.2.2.2.2.2)))))
theorem k:KT (O m_) [] ⟨20,[.ag TV],.one (.sh (.ag TV)),run m_⟩ []:=fun _=>by kernel_rfl
def c:=co (k m_)
end Rf

namespace SQ
def O(m_:Dq):OO P:=lI []
def run(m_:Dq):Int×Int×Unit->Option (Int):=fun v_=>match v_ with
|(a,b,())=>
 some (ahw.wrap (ahC.wrap (a-b)))
theorem k:KT (O m_) [] ⟨91,[.one (.int .u64),.one (.int .u64)],.one (.sh (.one (.int .i64))),run m_⟩ []:=fun _=>by kernel_rfl
def c:=co (k m_)
end SQ

namespace Ox
def O(m_:Dq):OO P:=lI []
def e0:Spec:=⟨[fs 90 [.q 244,.z 244,.b 0,.q 31] [(3,.ptr 0 0),(4,.ptr 1 0),(5,.fn (.func 130) [0,1]),(9,.dat (.lst (.int .i64))),(10,.w),(11,.w)]],[(0,.c [.w]),(1,.c [.w])],2⟩
def x0:List Spec:=[⟨[fs 90 [.q 31] [(3,.ptr 0 0),(4,.ptr 1 0)]],[(0,.c [.w]),(1,.c [.w])],2⟩]
abbrev A0:Type:=LI×Int×Int×Int×Int×Unit
abbrev B0:Type:=(Int×Int×Unit)
def b0(m_:Dq)(self:A0->Option B0):A0->Option B0:=fun v_=>match v_ with
|(t,t1,t2,m,m1,())=>
 bif decide (t2<t1)then
  bif inB t2 (t.length:Int)then
  self (t,t1,(ahw.wrap (t2+1)),(ahw.wrap (m+(Ja .i64 (rd 0 t t2) 1))),(ahw.wrap (m1+(I9 .i64 (rd 0 t t2) 1))),())else none
 else
  some (m,m1,())
theorem k0:KQ 90 (O m_) [130] e0 x0 [] (b0 m_):=fun _ _=>by kernel_rfl
def l0:=loop m_ (b0 m_)
theorem q0(v):l0 .lim v=b0 .lim (l0 .lim) v:=KS.q (k0 .lim) v
def s0:=so m_ (k0 m_)
def run:(List Int)×Unit->Option (Int):=fun v_=>match v_ with
|(l,())=>
 bif wB (l.length:Int)then
 (Ox.l0 m_ (l,(l.length:Int),0,0,0,())).bind fun (m,m1,())=>
 some (ahw.wrap (m+(Ja .i64 m1 1)))else none
theorem k:KT (O m_) [130] ⟨90,[.one (.lst (.int .i64))],.one (.sh (.one (.int .i64))),run m_⟩ [s0 m_]:=fun _=>by kernel_rfl
def c:=co (k m_)
end Ox

namespace Qq
def O:OO P:=lI [Ox.c m_,SQ.c m_]
def run:Int×Int×Int×Int×Unit->Option ((Int×Int)):=fun v_=>match v_ with
|(t1,t2,t3,t4,())=>
 (SQ.run m_ (t2,t1,())).bind fun r=>
 (SQ.run m_ (t3,t4,())).bind fun r1=>
 (Ox.run m_ (([r,r1]:List Int),())).bind fun r2=>
 some (r2,(ahw.wrap (ahC.wrap ((ahC.wrap (t4-t1))-(ahC.wrap (t3-t2))))))
theorem k:KT (O m_) [] ⟨46,[.one (.int .u64),.one (.int .u64),.one (.int .u64),.one (.int .u64)],.one (.sh (.ag adn)),run m_⟩ []:=fun _=>by kernel_rfl
def c:=co (k m_)
end Qq

namespace Ny
def O(m_:Dq):OO P:=lI []
def e0:Spec:=⟨[fs 131 [.q 52,.z 52,.b 0,.q 7] [(0,.t),(1,.s),(7,.w),(8,.w)]],[],0⟩
def x0:List Spec:=[⟨[fs 131 [.q 13517,.b 1,.q 423,.z 52,.b 0,.q 7] [(4,.w)]],[],0⟩,⟨[fs 131 [.q 7] []],[],0⟩]
abbrev A0:Type:=LL×LI×Int×Int×Unit
abbrev B0:Type:=(Int×Unit) ⊕ (Unit)
def b0(m_:Dq)(self:A0->Option B0):A0->Option B0:=fun v_=>match v_ with
|(s,v,t,t1,())=>
 bif decide (t1<t)then
  bif inB t1 (s.length:Int)then
  bif decide (v=(rd ([]:List Int) s t1))then
   some (.inl (t1,()))
  else
   self (s,v,t,(ahw.wrap (t1+1)),())else none
 else
  some (.inr (()))
theorem k0:KQ 131 (O m_) [] e0 x0 [] (b0 m_):=fun _ _=>by kernel_rfl
def l0:=loop m_ (b0 m_)
theorem q0(v):l0 .lim v=b0 .lim (l0 .lim) v:=KS.q (k0 .lim) v
def s0:=so m_ (k0 m_)
def run:(List (List Int))×(List Int)×Unit->Option (Int):=fun v_=>match v_ with
|(s,v,())=>
 bif wB (s.length:Int)then
 (Ny.l0 m_ (s,v,(s.length:Int),0,())).bind fun g_=>match g_ with
 | .inl (t,())=>
  some t
 | .inr (())=>
  some (-1)else none
theorem k:KT (O m_) [] ⟨131,[.one (.lst .str),.one .str],.one (.sh (.one (.int .i64))),run m_⟩ [s0 m_]:=fun _=>by kernel_rfl
def c:=co (k m_)
end Ny

namespace Ot
def O:OO P:=lI [Ny.c m_]
def run:(List (List Int))×(List Int)×Unit->Option (Bool):=fun v_=>match v_ with
|(s,v,())=>
 (Ny.run m_ (s,v,())).bind fun r=>
 some (decide (r>=0))
theorem k:KT (O m_) [] ⟨93,[.one (.lst .str),.one .str],.one (.sh (.one .bool)),run m_⟩ []:=fun _=>by kernel_rfl
def c:=co (k m_)
end Ot

namespace OG
def O:OO P:=lI [Rf.c m_,MW.c m_,QE.c m_,Pz.c m_,Qq.c m_,Rn.c m_,QD.c m_,Td.c m_,TM.c m_,Ot.c m_]
def f0:gB:=fs 44 [.v 30 [2,3],.q 31] [(0,.ptr 0 0),(6,.ptr 1 0)]
def f1:gB:=fs 17 [.v 14 [2,3,4,5,6,7],.q 15] [(2,.s),(3,.u),(4,.ptr 2 0),(5,.ptr 3 0),(8,.ptr 4 0),(9,.ptr 5 0),(10,.ptr 0 0)]
def o2:dJ:= .c [.w,.s,.s,.t,.s,.s,.u,.u,.u,.u,.u,.w,.s,.s,.w,.w,.w,.w,.w,.w,.dat (.int .u32),.dat (.int .u32),.dat (.int .u32),.u,.u,.u,.u,.CW,.w,.w]
def o3:dJ:= .c [.w,.w,.w,.w,.w,.w,.dat (.int .u32),.dat (.int .u32),.dat (.int .u32),.u,.u,.u,.u,.dat Qr]
def o4:dJ:= .c [.b,.dat Uo]
def o5:dJ:= .c [.w,.s,.s,.t,.s,.s,.u,.u,.u,.u,.u]
def o6:dJ:= .c [.w,.s,.s,.CW,.s,.s,.u,.u,.u,.u,.u]
def o7:dJ:= .c [.w,.s,.s,.w,.w,.w,.w,.w,.w,.dat (.int .u32),.dat (.int .u32),.dat (.int .u32),.u,.u,.u,.u,.CW,.w,.w]
def e0:Spec:=⟨[fs 83 [.q 52,.z 52,.b 0,.q 7] [(0,.dat Qr),(1,.fn (.func 84) []),(7,.w),(8,.w)],f0,f1],[(0,o2),(1,o3),(2,o4),(3,o5),(4,o6),(5,o7)],6⟩
def x0:List Spec:=[⟨[fs 83 [.q 13517,.b 1,.q 423,.z 52,.b 0,.q 7] [(4,.w)],f0,f1],[(0,o2),(1,o3),(2,o4),(3,o5),(4,o6),(5,o7)],6⟩,⟨[fs 83 [.q 7] [],f0,f1],[(0,o2),(1,o3),(2,o4),(3,o5),(4,o6),(5,o7)],6⟩]
abbrev A0:Type:=(List (Int×List Int))×Int×Int×LI×Int×Int×LI×LI×LL×LI×LI×Int×Int×Int×Int×Int×Int×LI×LI×Int×Int×Int×Int×Int×Int×Int×Int×Int×Int×Int×Int×Int×Int×Int×Int×Int×Int×Int×Int×Int×Int×Int×Int×Int×Int×Int×Int×(List (Int×List Int))×Bool×(List (List Int×(List LI×(List Int×List Int))))×Int×LI×LI×LL×LI×LI×Int×Int×Int×Int×Int×Int×LI×LI×LI×LI×Int×Int×Int×Int×Int×Int×LI×LI×Int×Int×Int×Int×Int×Int×Int×Int×Int×Int×Int×Int×Int×Int×Int×Unit
abbrev B0:Type:=(Int×LI×Int×Int×LI×LI×LL×LI×LI×Int×Int×Int×Int×Int×Int×LI×LI×Int×Int×Int×Int×Int×Int×Int×Int×Int×Int×Int×Int×Int×Int×Int×Int×Int×Int×Int×Int×Int×Int×Int×Int×Int×Int×Int×Int×(List (Int×List Int))×Bool×(List (List Int×(List LI×(List Int×List Int))))×Int×LI×LI×LL×LI×LI×Int×Int×Int×Int×Int×Int×LI×LI×LI×LI×Int×Int×Int×Int×Int×Int×LI×LI×Int×Int×Int×Int×Int×Int×Int×Int×Int×Int×Int×Int×Int×Int×Int×Unit) ⊕ (LI×Int×Int×LI×LI×LL×LI×LI×Int×Int×Int×Int×Int×Int×LI×LI×Int×Int×Int×Int×Int×Int×Int×Int×Int×Int×Int×Int×Int×Int×Int×Int×Int×Int×Int×Int×Int×Int×Int×Int×Int×Int×Int×Int×(List (Int×List Int))×Bool×(List (List Int×(List LI×(List Int×List Int))))×Int×LI×LI×LL×LI×LI×Int×Int×Int×Int×Int×Int×LI×LI×LI×LI×Int×Int×Int×Int×Int×Int×LI×LI×Int×Int×Int×Int×Int×Int×Int×Int×Int×Int×Int×Int×Int×Int×Int×Unit)
def b0(self:A0->Option B0):A0->Option B0:=fun v_=>match v_ with
|(s,t,t1,s1)=>
 bif decide (t1<t)then
  bif inB t1 (s.length:Int)then
  (QD.run m_ ((rd ((0:Int),([]:List Int)) s t1),())).bind fun r=>
  bif r then
   some (.inl (t1,s1))
  else
   self (s,t,(ahw.wrap (t1+1)),s1)else none
 else
  some (.inr (s1))
theorem k0:KQ 17 (O m_) [44,47,83] e0 x0 [] (b0 m_):=fun _ _=>by kernel_rfl
def l0:=loop m_ (b0 m_)
theorem q0(v):l0 .lim v=b0 .lim (l0 .lim) v:=KS.q (k0 .lim) v
def s0:=so m_ (k0 m_)
def o8:dJ:= .c [.w,.s,.s,.own 3 .str,.s,.s,.u,.u,.u,.u,.u,.w,.s,.s,.w,.w,.w,.w,.w,.w,.dat (.int .u32),.dat (.int .u32),.dat (.int .u32),.u,.u,.u,.u,.dat Qr,.w,.w]
def e1:Spec:=⟨[fs 47 [.q 28,.z 28,.b 0] [(0,.ptr 0 0),(16,.dat Qr),(17,.w),(18,.w)],fs 17 [.v 16382 [3],.q 16383] [(8,.ptr 1 0),(9,.ptr 2 0),(10,.ptr 0 0)]],[(0,o8),(1,o6),(2,o7),(3,.c [.row .str])],4⟩
def x1:List Spec:=[⟨[fs 47 [] [],fs 17 [.v 16382 [3],.q 16383] [(8,.ptr 0 0),(9,.ptr 1 0),(10,.ptr 2 0)]],[(0,o6),(1,o7),(2,o8),(3,.c [.row .str])],4⟩]
abbrev A1:Type:=(List (Int×List Int))×Int×Int×Int×LI×LI×LI×LI×Int×Int×Int×Int×Int×Int×LI×LI×Int×Int×Int×Int×Int×Int×Int×Int×Int×Int×Int×Int×Int×(List (Int×List Int))×Int×Int×Int×LI×LI×LI×LI×Int×Int×Int×Int×Int×Int×LI×LI×Int×Int×Int×Int×Int×Int×Int×Int×Int×Int×Int×Int×Int×Int×Int×LL×Unit
abbrev B1:Type:=(Int×LI×LI×LI×LI×Int×Int×Int×Int×Int×Int×LI×LI×Int×Int×Int×Int×Int×Int×Int×Int×Int×Int×Int×Int×Int×Int×Int×Int×LI×LI×LI×LI×Int×Int×Int×Int×Int×Int×LI×LI×Int×Int×Int×Int×Int×Int×Int×Int×Int×Int×Int×Int×Int×(List (Int×List Int))×Int×Int×LL×Unit)
def b1(self:A1->Option B1):A1->Option B1:=fun v_=>match v_ with
|(t,t1,t2,m,m1,m2,m3,m4,m5,m6,m7,m8,m9,m10,m11,m12,m13,m14,m15,m16,m17,m18,m19,m20,m21,m22,m23,m24,Tz,Tc,TG,RX,SY,UG,UO,m32,Ux,UZ,Vo,U0,VW,Xh,V_,Wh,Xi,VJ,VX,VY,U5,U6,VK,VZ,U7,Vp,Vx,Xl,V3,WJ,Xj,Xw,V4,())=>
 bif decide (t2<t1)then
  bif inB t2 (t.length:Int)then
  ((bif decide (((rd ((0:Int),([]:List Int)) t t2).1)=516)then TM.run m_ ((rd ((0:Int),([]:List Int)) t t2).2,())else some false)).bind fun r=>
  bif((!((decide (((rd ((0:Int),([]:List Int)) t t2).1)=516))&&r))||(wB (V4.length:Int)))then
  ((bif(((decide (((rd ((0:Int),([]:List Int)) t t2).1)=516))&&r)&&(decide ((V4.length:Int)<8)))then Ot.run m_ (V4,(rd ((0:Int),([]:List Int)) t t2).2,())else some false)).bind fun r1=>
  bif((((decide (((rd ((0:Int),([]:List Int)) t t2).1)=516))&&r)&&(decide ((V4.length:Int)<8)))&& !r1)then
   bif decide (V4.length+([(rd ((0:Int),([]:List Int)) t t2).2]:List (List Int)).length<4398046511104)then
   self (t,t1,(ahw.wrap (t2+1)),m,m1,m2,m3,m4,m5,m6,m7,m8,m9,m10,m11,m12,m13,m14,m15,m16,m17,m18,m19,m20,m21,m22,m23,m24,Tz,Tc,TG,RX,SY,UG,UO,m32,Ux,UZ,Vo,U0,VW,Xh,V_,Wh,Xi,VJ,VX,VY,U5,U6,VK,VZ,U7,Vp,Vx,Xl,V3,WJ,Xj,Xw,(V4++([(rd ((0:Int),([]:List Int)) t t2).2]:List (List Int))),())else none
  else
   self (t,t1,(ahw.wrap (t2+1)),m,m1,m2,m3,m4,m5,m6,m7,m8,m9,m10,m11,m12,m13,m14,m15,m16,m17,m18,m19,m20,m21,m22,m23,m24,Tz,Tc,TG,RX,SY,UG,UO,m32,Ux,UZ,Vo,U0,VW,Xh,V_,Wh,Xi,VJ,VX,VY,U5,U6,VK,VZ,U7,Vp,Vx,Xl,V3,WJ,Xj,Xw,V4,())else none else none
 else
  some (SY,UG,UO,m32,Ux,UZ,Vo,U0,VW,Xh,V_,Wh,Xi,VJ,VX,VY,U5,U6,VK,VZ,U7,Vp,Vx,Xl,V3,WJ,Xj,Xw,m,m1,m2,m3,m4,m5,m6,m7,m8,m9,m10,m11,m12,m13,m14,m15,m16,m17,m18,m19,m20,m21,m22,m23,m24,Tz,Tc,TG,RX,V4,())
theorem k1:KQ 17 (O m_) [44,47,83] e1 x1 [] (b1 m_):=fun _ _=>by kernel_rfl
def l1:=loop m_ (b1 m_)
theorem q1(v):l1 .lim v=b1 .lim (l1 .lim) v:=KS.q (k1 .lim) v
def s1:=so m_ (k1 m_)
def run:QY×XH×(List Int)×Int×Unit->Option (XH×DT1×Unit):=fun v_=>match v_ with
|(v,x,s,t4,())=>
 (Rn.run m_ (s,())).bind fun (r,r1,())=>
 bif((((decide (x.2.2.1=([]:List Int)))||(!(decide (r1=0))))||(!(decide (r.2.1=4))))||(!(decide (r.2.2.1=4))))then
  some (x,(0,(([]:List Int),(([]:List Int),((0,(0,(0,(0,(0,(0,(0,(0,(0,(0,(0,(0,(0,([]:List (Int×List Int))))))))))))))),(0,0))))),())
 else
  bif wB (r.2.2.2.2.2.2.2.2.2.2.2.2.2.length:Int)then
  (OG.l0 m_ (r.2.2.2.2.2.2.2.2.2.2.2.2.2,(r.2.2.2.2.2.2.2.2.2.2.2.2.2.length:Int),0,s,t4,x.1.1,x.1.2.1,x.1.2.2,x.2.1,x.2.2.1,x.2.2.2.1,x.2.2.2.2.1,x.2.2.2.2.2.1,x.2.2.2.2.2.2.1,x.2.2.2.2.2.2.2.1,x.2.2.2.2.2.2.2.2,0,([]:List Int),([]:List Int),0,0,0,0,0,0,0,0,0,0,0,0,0,0,0,r.1,r.2.1,r.2.2.1,r.2.2.2.1,r.2.2.2.2.1,r.2.2.2.2.2.1,r.2.2.2.2.2.2.1,r.2.2.2.2.2.2.2.1,r.2.2.2.2.2.2.2.2.1,r.2.2.2.2.2.2.2.2.2.1,r.2.2.2.2.2.2.2.2.2.2.1,r.2.2.2.2.2.2.2.2.2.2.2.1,r.2.2.2.2.2.2.2.2.2.2.2.2.1,r.2.2.2.2.2.2.2.2.2.2.2.2.2,v.1,v.2,x.1.1,x.1.2.1,x.1.2.2,x.2.1,x.2.2.1,x.2.2.2.1,x.2.2.2.2.1,x.2.2.2.2.2.1,x.2.2.2.2.2.2.1,x.2.2.2.2.2.2.2.1,x.2.2.2.2.2.2.2.2,0,([]:List Int),([]:List Int),([]:List Int),([]:List Int),0,0,0,0,0,0,([]:List Int),([]:List Int),0,0,0,0,0,0,0,0,0,0,0,0,0,0,0,())).bind fun g_=>match g_ with
  | .inl (t,s1,t41,m,m1,m2,m3,m4,m5,m6,m7,m8,m9,m10,m11,m12,m13,m14,m15,m16,m17,m18,m19,m20,m21,m22,m23,m24,Tz,Tc,TG,RX,SY,UG,UO,m32,Ux,UZ,Vo,U0,VW,Xh,V_,Wh,Xi,VJ,VX,VY,U5,U6,VK,VZ,U7,Vp,Vx,Xl,V3,WJ,Xj,Xw,V4,YJ,m59,m60,m61,X4,ZJ,m64,m65,m66,m67,m68,m69,m70,m71,m72,m73,m74,m75,m76,m77,m78,m79,m80,m81,m82,m83,())=>
   bif decide (t>=0)then
    bif sV 0 t (VJ.length:Int)then
    (Td.run m_ ((cut VJ 0 t),260,())).bind fun (r2,r3,())=>
    bif !((decide (r3=0))&&(decide (r2=m4)))then
     some (((U5,(U6,VK)),(VZ,(U7,(Vp,(Vx,(Xl,(V3,(WJ,Xj)))))))),(0,(([]:List Int),(([]:List Int),((0,(0,(0,(0,(0,(0,(0,(0,(0,(0,(0,(0,(0,([]:List (Int×List Int))))))))))))))),(0,0))))),())
    else
     bif !(decide (t>=0))then
      (QE.run m_ (m9,())).bind fun r4=>
      some (((m,(m1,m2)),(m3,(m4,(m5,(m6,(m7,(m8,(r4,m10)))))))),(1,(U7,(Vp,((0,(0,(0,(0,(0,(0,(0,(0,(0,(0,(0,(0,(0,([]:List (Int×List Int))))))))))))))),(0,0))))),())
     else
      (Pz.run m_ ((VX,VY),s1,VK,())).bind fun (r5,r6,())=>
      bif(((!(decide (r6=0)))||(!(decide (r5.1.2.2.2.2.2.2.2.2.2.2.1=Vx))))||(decide (r5.1.2.2.2.1>15)))then
       some (((U5,(U6,VK)),(VZ,(U7,(Vp,(Vx,(Xl,(V3,(WJ,Xj)))))))),(0,(([]:List Int),(([]:List Int),((0,(0,(0,(0,(0,(0,(0,(0,(0,(0,(0,(0,(0,([]:List (Int×List Int))))))))))))))),(0,0))))),())
      else
       (Rf.run m_ (((U5,(U6,VK)),(VZ,(U7,(Vp,(Vx,(Xl,(V3,(WJ,Xj)))))))),())).bind fun r7=>
       bif decide (r5.1.2.2.2.1=0)then
        (QE.run m_ (r7.2.2.2.2.2.2.2.2,())).bind fun r8=>
        some ((r7.1,(r7.2.1,(r7.2.2.1,(r7.2.2.2.1,(r7.2.2.2.2.1,(r7.2.2.2.2.2.1,(r7.2.2.2.2.2.2.1,(r7.2.2.2.2.2.2.2.1,r8)))))))),(2,(U7,(Vp,(r5.1,(0,0))))),())
       else
        (QE.run m_ (r7.2.2.2.2.2.2.1,())).bind fun r9=>
        (Qq.run m_ (Vx,r5.1.2.2.2.2.2.2.2.2.2.2.2.1,r5.1.2.2.2.2.2.2.2.2.2.2.2.2.1,t41,())).bind fun r10=>
        (MW.run m_ (r7.2.1,())).bind fun r11=>
        bif wB (r5.2.2.length:Int)then
        (OG.l1 m_ (r5.2.2,(r5.2.2.length:Int),0,r7.1.1,r7.1.2.1,r7.1.2.2,r7.2.2.1,r7.2.2.2.1,r7.2.2.2.2.1,r7.2.2.2.2.2.1,r9,r7.2.2.2.2.2.2.2.1,r7.2.2.2.2.2.2.2.2,3,U7,Vp,r5.1.1,r5.1.2.1,r5.1.2.2.1,r5.1.2.2.2.1,r5.1.2.2.2.2.1,r5.1.2.2.2.2.2.1,r5.1.2.2.2.2.2.2.1,r5.1.2.2.2.2.2.2.2.1,r5.1.2.2.2.2.2.2.2.2.1,r5.1.2.2.2.2.2.2.2.2.2.1,r5.1.2.2.2.2.2.2.2.2.2.2.1,r5.1.2.2.2.2.2.2.2.2.2.2.2.1,r5.1.2.2.2.2.2.2.2.2.2.2.2.2.1,r5.1.2.2.2.2.2.2.2.2.2.2.2.2.2,r10.1,r10.2,Xw,V4,YJ,m59,m60,m61,X4,ZJ,m64,m65,m66,m67,m68,m69,m70,m71,m72,m73,m74,m75,m76,m77,m78,m79,m80,m81,m82,m83,r11,())).bind fun (m84,m85,m86,m87,m88,m89,m90,m91,m92,m93,m94,m95,m96,m97,m98,m99,agf,agh,agi,agj,agk,agl,agm,agn,agp,agq,agr,ags,ad6,ad7,ad8,ad9,ad_,aea,aeb,aec,aed,aee,aef,aeg,aeh,aei,aej,aek,ael,aem,aen,aeo,aep,aer,aeu,aev,aew,aex,aey,aez,aeA,aeB,())=>
        some (((ad6,(ad7,ad8)),(aeB,(ad9,(ad_,(aea,(aeb,(aec,(aed,aee)))))))),(aef,(aeg,(aeh,((aei,(aej,(aek,(ael,(aem,(aen,(aeo,(aep,(aer,(aeu,(aev,(aew,(aex,aey))))))))))))),(aez,aeA))))),())else none else none
   else
    (Td.run m_ (VJ,260,())).bind fun (r12,r13,())=>
    bif !((decide (r13=0))&&(decide (r12=m4)))then
     some (((U5,(U6,VK)),(VZ,(U7,(Vp,(Vx,(Xl,(V3,(WJ,Xj)))))))),(0,(([]:List Int),(([]:List Int),((0,(0,(0,(0,(0,(0,(0,(0,(0,(0,(0,(0,(0,([]:List (Int×List Int))))))))))))))),(0,0))))),())
    else
     bif !(decide (t>=0))then
      (QE.run m_ (m9,())).bind fun YN=>
      some (((m,(m1,m2)),(m3,(m4,(m5,(m6,(m7,(m8,(YN,m10)))))))),(1,(U7,(Vp,((0,(0,(0,(0,(0,(0,(0,(0,(0,(0,(0,(0,(0,([]:List (Int×List Int))))))))))))))),(0,0))))),())
     else
      (Pz.run m_ ((VX,VY),s1,VK,())).bind fun (UR,r16,())=>
      bif(((!(decide (r16=0)))||(!(decide (UR.1.2.2.2.2.2.2.2.2.2.2.1=Vx))))||(decide (UR.1.2.2.2.1>15)))then
       some (((U5,(U6,VK)),(VZ,(U7,(Vp,(Vx,(Xl,(V3,(WJ,Xj)))))))),(0,(([]:List Int),(([]:List Int),((0,(0,(0,(0,(0,(0,(0,(0,(0,(0,(0,(0,(0,([]:List (Int×List Int))))))))))))))),(0,0))))),())
      else
       (Rf.run m_ (((U5,(U6,VK)),(VZ,(U7,(Vp,(Vx,(Xl,(V3,(WJ,Xj)))))))),())).bind fun VO=>
       bif decide (UR.1.2.2.2.1=0)then
        (QE.run m_ (VO.2.2.2.2.2.2.2.2,())).bind fun r18=>
        some ((VO.1,(VO.2.1,(VO.2.2.1,(VO.2.2.2.1,(VO.2.2.2.2.1,(VO.2.2.2.2.2.1,(VO.2.2.2.2.2.2.1,(VO.2.2.2.2.2.2.2.1,r18)))))))),(2,(U7,(Vp,(UR.1,(0,0))))),())
       else
        (QE.run m_ (VO.2.2.2.2.2.2.1,())).bind fun r19=>
        (Qq.run m_ (Vx,UR.1.2.2.2.2.2.2.2.2.2.2.2.1,UR.1.2.2.2.2.2.2.2.2.2.2.2.2.1,t41,())).bind fun r20=>
        (MW.run m_ (VO.2.1,())).bind fun r21=>
        bif wB (UR.2.2.length:Int)then
        (OG.l1 m_ (UR.2.2,(UR.2.2.length:Int),0,VO.1.1,VO.1.2.1,VO.1.2.2,VO.2.2.1,VO.2.2.2.1,VO.2.2.2.2.1,VO.2.2.2.2.2.1,r19,VO.2.2.2.2.2.2.2.1,VO.2.2.2.2.2.2.2.2,3,U7,Vp,UR.1.1,UR.1.2.1,UR.1.2.2.1,UR.1.2.2.2.1,UR.1.2.2.2.2.1,UR.1.2.2.2.2.2.1,UR.1.2.2.2.2.2.2.1,UR.1.2.2.2.2.2.2.2.1,UR.1.2.2.2.2.2.2.2.2.1,UR.1.2.2.2.2.2.2.2.2.2.1,UR.1.2.2.2.2.2.2.2.2.2.2.1,UR.1.2.2.2.2.2.2.2.2.2.2.2.1,UR.1.2.2.2.2.2.2.2.2.2.2.2.2.1,UR.1.2.2.2.2.2.2.2.2.2.2.2.2.2,r20.1,r20.2,Xw,V4,YJ,m59,m60,m61,X4,ZJ,m64,m65,m66,m67,m68,m69,m70,m71,m72,m73,m74,m75,m76,m77,m78,m79,m80,m81,m82,m83,r21,())).bind fun (agt,agu,agv,agw,agx,agy,agz,agA,agB,agC,agD,agE,agF,agG,agH,agI,agJ,agK,agL,agM,agN,agO,agP,agQ,agR,agS,agT,agU,aeC,aeD,aeE,aeF,aeG,aeH,aeI,aeJ,aeK,aeL,aeM,aeN,aeO,aeP,aeQ,aeR,aeS,aeT,aeU,aeV,aeW,aeX,aeY,aeZ,ae0,ae1,ae2,ae3,ae4,ae5,())=>
        some (((aeC,(aeD,aeE)),(ae5,(aeF,(aeG,(aeH,(aeI,(aeJ,(aeK,aeL)))))))),(aeM,(aeN,(aeO,((aeP,(aeQ,(aeR,(aeS,(aeT,(aeU,(aeV,(aeW,(aeX,(aeY,(aeZ,(ae0,(ae1,ae2))))))))))))),(ae3,ae4))))),())else none
  | .inr (s2,t42,ae6,ae7,ae8,ae9,adL,ae_,afa,afb,afc,afd,afe,agV,agW,agX,agY,agZ,ag0,ag3,ag4,ag5,ag6,ag7,ag8,ag9,ag_,aha,ahb,ahc,ahd,ahe,ahf,ahg,ahh,ahi,ahj,ahk,ahl,ahm,ahn,aho,ahp,ahq,aff,ahr,ahs,afg,afh,afi,afj,adM,adN,afk,afl,afm,afn,afo,aht)=>
   (Td.run m_ (aff,260,())).bind fun (r22,r23,())=>
   bif !((decide (r23=0))&&(decide (r22=adL)))then
    some (((afg,(afh,afi)),(afj,(adM,(adN,(afk,(afl,(afm,(afn,afo)))))))),(0,(([]:List Int),(([]:List Int),((0,(0,(0,(0,(0,(0,(0,(0,(0,(0,(0,(0,(0,([]:List (Int×List Int))))))))))))))),(0,0))))),())
   else
    (QE.run m_ (afd,())).bind fun r24=>
    some (((ae6,(ae7,ae8)),(ae9,(adL,(ae_,(afa,(afb,(afc,(r24,afe)))))))),(1,(adM,(adN,((0,(0,(0,(0,(0,(0,(0,(0,(0,(0,(0,(0,(0,([]:List (Int×List Int))))))))))))))),(0,0))))),())else none
theorem k:KT (O m_) [44,47,83] ⟨17,[.ag Q7,.ag TV,.one .str,.one (.int .u64)],.gG [.sh (.ag TV),.sh (.ag acr)],run m_⟩ [s0 m_,s1 m_]:=fun v_=>match v_ with|(v,x,s,t4,())=>by kernel_rfl
def c:=co (k m_)
end OG

namespace Na
def O(m_:Dq):OO P:=lI []
def e0:Spec:=⟨[fs 40 [.q 116,.z 116,.b 0,.q 15] [(0,.s),(3,.u),(4,.w)]],[],0⟩
def x0:List Spec:=[⟨[fs 40 [.q 15] [(3,.u)]],[],0⟩]
abbrev A0:Type:=LI×Int×Int×Unit
abbrev B0:Type:=(Int×Unit)
def b0(m_:Dq)(self:A0->Option B0):A0->Option B0:=fun v_=>match v_ with
|(s,n,i,())=>
 bif wB (s.length:Int)then
 bif decide (i<(s.length:Int))then
  bif inB i (s.length:Int)then
  self (s,(KL .u64 (I_ .u64 n 8) (ahC.wrap (rd 0 s i))),(ahw.wrap (i+1)),())else none
 else
  some (n,())else none
theorem k0:KQ 40 (O m_) [] e0 x0 [] (b0 m_):=fun _ _=>by kernel_rfl
def l0:=loop m_ (b0 m_)
theorem q0(v):l0 .lim v=b0 .lim (l0 .lim) v:=KS.q (k0 .lim) v
def s0:=so m_ (k0 m_)
def run:(List Int)×Unit->Option (Int):=fun v_=>match v_ with
|(s,())=>
 (Na.l0 m_ (s,0,0,())).bind fun (n,())=>
 some n
theorem k:KT (O m_) [] ⟨40,[.one .str],.one (.sh (.one (.int .u64))),run m_⟩ [s0 m_]:=fun _=>by kernel_rfl
def c:=co (k m_)
end Na

namespace Nu
def O:OO P:=lI [Na.c m_]
def o0:dJ:= .c [.row Xp]
def e0:Spec:=⟨[fs 38 [.q 56,.z 56,.b 0,.q 15] [(0,.s),(4,.own 5010 Xp)]],[(5010,o0)],5011⟩
def x0:List Spec:=[⟨[fs 38 [.q 3621,.q 453,.b 1,.z 56,.b 0,.q 15] [(2,.CW),(3,.w)]],[],0⟩,⟨[fs 38 [.q 14517,.q 1815,.b 1,.z 56,.b 0,.q 15] [(2,.CW),(3,.w)]],[],0⟩,⟨[fs 38 [.q 29045,.q 3631,.b 1,.z 56,.b 0,.q 15] [(2,.CW),(3,.w)]],[],0⟩,⟨[fs 38 [.q 15] [(4,.own 0 Xp)]],[(0,o0)],1⟩]
abbrev A0:Type:=LI×(List (Int×List Int))×Unit
abbrev B0:Type:=(Int×Unit) ⊕ (Int×Unit) ⊕ (Int×Unit) ⊕ ((List (Int×List Int))×Unit)
def b0(self:A0->Option B0):A0->Option B0:=fun v_=>match v_ with
|(s,m,())=>
 bif !(decide (s=([]:List Int)))then
  bif wB (s.length:Int)then
  bif decide ((s.length:Int)<4)then
   some (.inl (10,()))
  else
   bif sV 2 4 (s.length:Int)then
   (Na.run m_ ((cut s 2 4),())).bind fun r=>
   bif((!(!(decide ((ahw.wrap r)<16))))||true)then
   bif((!(!((decide ((ahw.wrap r)<16))||(!(decide (((ahw.wrap r).tmod 4)=0))))))||(wB (s.length:Int)))then
   bif(((decide ((ahw.wrap r)<16))||(!(decide (((ahw.wrap r).tmod 4)=0))))||(decide ((ahw.wrap r)>(s.length:Int))))then
    some (.inr (.inl (10,())))
   else
    bif wB (m.length:Int)then
    bif decide ((m.length:Int)=16)then
     some (.inr (.inr (.inl (18,()))))
    else
     bif sV 0 2 (s.length:Int)then
     (Na.run m_ ((cut s 0 2),())).bind fun r1=>
     bif sV 4 (ahw.wrap r) (s.length:Int)then
     bif decide (m.length+([((ahw.wrap r1),(cut s 4 (ahw.wrap r)))]:List (Int×List Int)).length<2932031007402)then
     bif sV (ahw.wrap r) (s.length:Int) (s.length:Int)then
     self ((cut s (ahw.wrap r) (s.length:Int)),(m++([((ahw.wrap r1),(cut s 4 (ahw.wrap r)))]:List (Int×List Int))),())else none else none else none else none else none else none else none else none else none
 else
  some (.inr (.inr (.inr (m,()))))
theorem k0:KQ 38 (O m_) [] e0 x0 [] (b0 m_):=fun _ _=>by kernel_rfl
def l0:=loop m_ (b0 m_)
theorem q0(v):l0 .lim v=b0 .lim (l0 .lim) v:=KS.q (k0 .lim) v
def s0:=so m_ (k0 m_)
def run:(List Int)×Unit->Option ((List (Int×List Int))×Int×Unit):=fun v_=>match v_ with
|(s,())=>
 (Nu.l0 m_ (s,([]:List (Int×List Int)),())).bind fun g_=>match g_ with
 | .inl (t,())=>
  some (([]:List (Int×List Int)),t,())
 | .inr (.inl (t1,()))=>
  some (([]:List (Int×List Int)),t1,())
 | .inr (.inr (.inl (t2,())))=>
  some (([]:List (Int×List Int)),t2,())
 | .inr (.inr (.inr (m,())))=>
  some (m,0,())
theorem k:KT (O m_) [] ⟨38,[.one .str],.gG [.own Xp,.sh (.one (.int .i64))],run m_⟩ [s0 m_]:=fun _=>by kernel_rfl
def c:=co (k m_)
end Nu

namespace OZ
def O(m_:Dq):OO P:=lI []
def run(m_:Dq):Int×Unit->Option (Int):=fun v_=>match v_ with
|(c,())=>
 bif decide (c>127)then
  some (ahw.wrap ((ahw.wrap c)-256))
 else
  some (ahw.wrap c)
theorem k:KT (O m_) [] ⟨39,[.one (.int .u8)],.one (.sh (.one (.int .i64))),run m_⟩ []:=fun _=>by kernel_rfl
def c:=co (k m_)
end OZ

namespace OX
def O:OO P:=lI [Nu.c m_,OZ.c m_,Na.c m_]
def run:(List Int)×Unit->Option (DT5×Int×Unit):=fun v_=>match v_ with
|(s,())=>
 bif wB (s.length:Int)then
 bif decide ((s.length:Int)<48)then
  some ((0,(0,(0,(0,(0,(0,(0,(0,(0,(0,(0,(0,(0,([]:List (Int×List Int))))))))))))))),11,())
 else
  bif wB (s.length:Int)then
  bif decide ((s.length:Int)>1280)then
   some ((0,(0,(0,(0,(0,(0,(0,(0,(0,(0,(0,(0,(0,([]:List (Int×List Int))))))))))))))),12,())
  else
   bif sV 48 (s.length:Int) (s.length:Int)then
   (Nu.run m_ ((cut s 48 (s.length:Int)),())).bind fun (r,r1,())=>
   bif !(decide (r1=0))then
    some ((0,(0,(0,(0,(0,(0,(0,(0,(0,(0,(0,(0,(0,([]:List (Int×List Int))))))))))))))),r1,())
   else
    bif inB 0 (s.length:Int)then
    bif inB 0 (s.length:Int)then
    bif inB 0 (s.length:Int)then
    bif inB 1 (s.length:Int)then
    bif inB 2 (s.length:Int)then
    (OZ.run m_ ((rd 0 s 2),())).bind fun r2=>
    bif inB 3 (s.length:Int)then
    (OZ.run m_ ((rd 0 s 3),())).bind fun r3=>
    bif sV 4 8 (s.length:Int)then
    (Na.run m_ ((cut s 4 8),())).bind fun r4=>
    bif sV 8 12 (s.length:Int)then
    (Na.run m_ ((cut s 8 12),())).bind fun r5=>
    bif sV 12 16 (s.length:Int)then
    (Na.run m_ ((cut s 12 16),())).bind fun r6=>
    bif sV 16 24 (s.length:Int)then
    (Na.run m_ ((cut s 16 24),())).bind fun r7=>
    bif sV 24 32 (s.length:Int)then
    (Na.run m_ ((cut s 24 32),())).bind fun r8=>
    bif sV 32 40 (s.length:Int)then
    (Na.run m_ ((cut s 32 40),())).bind fun r9=>
    bif sV 40 48 (s.length:Int)then
    (Na.run m_ ((cut s 40 48),())).bind fun r10=>
    some (((ahw.wrap (Ja .u8 (rd 0 s 0) 6)),((ahw.wrap (I9 .u8 (Ja .u8 (rd 0 s 0) 3) 7)),((ahw.wrap (I9 .u8 (rd 0 s 0) 7)),((ahw.wrap (rd 0 s 1)),(r2,(r3,((ah1.wrap r4),((ah1.wrap r5),((ah1.wrap r6),(r7,(r8,(r9,(r10,r))))))))))))),0,())else none else none else none else none else none else none else none else none else none else none else none else none else none else none else none else none
theorem k:KT (O m_) [] ⟨12,[.one .str],.gG [.sh (.ag W_),.sh (.one (.int .i64))],run m_⟩ []:=fun _=>by kernel_rfl
def c:=co (k m_)
end OX

namespace O7
def O:OO P:=lI [Nk.c m_]
def run:(List (Int×List Int))×Int×Unit->Option ((List Int)×Int×Unit):=fun v_=>match v_ with
|(l,kind,())=>
 (Nk.run m_ (l,kind,())).bind fun r=>
 bif wB (r.length:Int)then
 bif decide ((r.length:Int)=0)then
  some (([]:List Int),19,())
 else
  bif wB (r.length:Int)then
  bif decide ((r.length:Int)>1)then
   some (([]:List Int),24,())
  else
   bif inB 0 (r.length:Int)then
   bif inB (rd 0 r 0) (l.length:Int)then
   some ((rd ((0:Int),([]:List Int)) l (rd 0 r 0)).2,0,())else none else none else none else none
theorem k:KT (O m_) [] ⟨14,[.one Qr,.one (.int .i64)],.gG [.sh (.one .str),.sh (.one (.int .i64))],run m_⟩ []:=fun _=>by kernel_rfl
def c:=co (k m_)
end O7

namespace Qd
def O:OO P:=lI [OX.c m_,O7.c m_,Nk.c m_]
def run:XH×(List Int)×Unit->Option (Bool×Bool×Unit):=fun v_=>match v_ with
|(x,s,())=>
 (OX.run m_ (s,())).bind fun (r,r1,())=>
 bif((((decide (x.2.2.1=([]:List Int)))||(!(decide (r1=0))))||(!(decide (r.2.1=4))))||(!(decide (r.2.2.1=4))))then
  some (false,false,())
 else
  (Nk.run m_ (r.2.2.2.2.2.2.2.2.2.2.2.2.2,1028,())).bind fun r2=>
  bif wB (r2.length:Int)then
  bif decide ((r2.length:Int)>0)then
   bif inB 0 (r2.length:Int)then
   bif sV 0 (rd 0 r2 0) (r.2.2.2.2.2.2.2.2.2.2.2.2.2.length:Int)then
   (O7.run m_ ((cut r.2.2.2.2.2.2.2.2.2.2.2.2.2 0 (rd 0 r2 0)),260,())).bind fun (r3,r4,())=>
   bif wB (r2.length:Int)then
   some (((decide (r4=0))&&(decide (r3=x.2.2.1))),decide ((r2.length:Int)>0),())else none else none else none
  else
   (O7.run m_ (r.2.2.2.2.2.2.2.2.2.2.2.2.2,260,())).bind fun (r5,r6,())=>
   bif wB (r2.length:Int)then
   some (((decide (r6=0))&&(decide (r5=x.2.2.1))),decide ((r2.length:Int)>0),())else none else none
theorem k:KT (O m_) [] ⟨48,[.ag TV,.one .str],.gG [.sh (.one .bool),.sh (.one .bool)],run m_⟩ []:=fun _=>by kernel_rfl
def c:=co (k m_)
end Qd

namespace O_
def O:OO P:=lI [NJ.c m_]
def run:(List Int)×Unit->Option ((List Int)×(List Int)×Int×Unit):=fun v_=>match v_ with
|(body,())=>
 bif wB (body.length:Int)then
 bif decide ((body.length:Int)<4)then
  some (([]:List Int),([]:List Int),11,())
 else
  bif inB 0 (body.length:Int)then
  bif inB 1 (body.length:Int)then
  bif inB 2 (body.length:Int)then
  bif inB 3 (body.length:Int)then
  bif((!(!(!(decide ((ahw.wrap ((ahw.wrap ((ahw.wrap (rd 0 body 0))*256))+(ahw.wrap (rd 0 body 1))))=16)))))||(wB (body.length:Int)))then
  bif((!(decide ((ahw.wrap ((ahw.wrap ((ahw.wrap (rd 0 body 0))*256))+(ahw.wrap (rd 0 body 1))))=16)))||(decide ((body.length:Int)<(ahw.wrap ((ahw.wrap (4+(ahw.wrap ((ahw.wrap ((ahw.wrap (rd 0 body 0))*256))+(ahw.wrap (rd 0 body 1))))))+(ahw.wrap ((ahw.wrap ((ahw.wrap (rd 0 body 2))*256))+(ahw.wrap (rd 0 body 3)))))))))then
   some (([]:List Int),([]:List Int),10,())
  else
   bif sV (ahw.wrap (4+(ahw.wrap ((ahw.wrap ((ahw.wrap (rd 0 body 0))*256))+(ahw.wrap (rd 0 body 1)))))) (ahw.wrap ((ahw.wrap (4+(ahw.wrap ((ahw.wrap ((ahw.wrap (rd 0 body 0))*256))+(ahw.wrap (rd 0 body 1))))))+(ahw.wrap ((ahw.wrap ((ahw.wrap (rd 0 body 2))*256))+(ahw.wrap (rd 0 body 3)))))) (body.length:Int)then
   bif sV (ahw.wrap (4+(ahw.wrap ((ahw.wrap ((ahw.wrap (rd 0 body 0))*256))+(ahw.wrap (rd 0 body 1)))))) (body.length:Int) (body.length:Int)then
   (NJ.run m_ ((cut body (ahw.wrap (4+(ahw.wrap ((ahw.wrap ((ahw.wrap (rd 0 body 0))*256))+(ahw.wrap (rd 0 body 1)))))) (ahw.wrap ((ahw.wrap (4+(ahw.wrap ((ahw.wrap ((ahw.wrap (rd 0 body 0))*256))+(ahw.wrap (rd 0 body 1))))))+(ahw.wrap ((ahw.wrap ((ahw.wrap (rd 0 body 2))*256))+(ahw.wrap (rd 0 body 3))))))),())).bind fun r=>
   bif !(decide ((cut body (ahw.wrap (4+(ahw.wrap ((ahw.wrap ((ahw.wrap (rd 0 body 0))*256))+(ahw.wrap (rd 0 body 1)))))) (body.length:Int))=r))then
    some (([]:List Int),([]:List Int),10,())
   else
    bif sV 4 (ahw.wrap (4+(ahw.wrap ((ahw.wrap ((ahw.wrap (rd 0 body 0))*256))+(ahw.wrap (rd 0 body 1)))))) (body.length:Int)then
    some ((cut body 4 (ahw.wrap (4+(ahw.wrap ((ahw.wrap ((ahw.wrap (rd 0 body 0))*256))+(ahw.wrap (rd 0 body 1))))))),(cut body (ahw.wrap (4+(ahw.wrap ((ahw.wrap ((ahw.wrap (rd 0 body 0))*256))+(ahw.wrap (rd 0 body 1)))))) (ahw.wrap ((ahw.wrap (4+(ahw.wrap ((ahw.wrap ((ahw.wrap (rd 0 body 0))*256))+(ahw.wrap (rd 0 body 1))))))+(ahw.wrap ((ahw.wrap ((ahw.wrap (rd 0 body 2))*256))+(ahw.wrap (rd 0 body 3))))))),0,())else none else none else none else none else none else none else none else none else none
theorem k:KT (O m_) [] ⟨94,[.one .str],.gG [.sh (.one .str),.sh (.one .str),.sh (.one (.int .i64))],run m_⟩ []:=fun v_=>match v_ with|(body,())=>by kernel_rfl
def c:=co (k m_)
end O_

namespace P9
def O:OO P:=lI [Oz.c m_,Ou.c m_,O6.c m_]
def run:(List Int)×(List (List Int))×(List Int)×Unit->Option ((List Int)×Int×Unit):=fun v_=>match v_ with
|(key,ad,sealed,())=>
 (Oz.run m_ (key,ad,())).bind fun r=>
 bif !(decide (r=0))then
  some (([]:List Int),r,())
 else
  bif wB (sealed.length:Int)then
  bif decide ((sealed.length:Int)<16)then
   some (([]:List Int),11,())
  else
   bif wB (sealed.length:Int)then
   bif decide ((sealed.length:Int)>65552)then
    some (([]:List Int),12,())
   else
    bif wB (key.length:Int)then
    bif sV 0 16 (sealed.length:Int)then
    bif sV (ahw.wrap ((key.length:Int).tdiv 2)) (key.length:Int) (key.length:Int)then
    bif sV 16 (sealed.length:Int) (sealed.length:Int)then
    (Ou.run m_ ((cut key (ahw.wrap ((key.length:Int).tdiv 2)) (key.length:Int)),(cut sealed 0 16),(cut sealed 16 (sealed.length:Int)),())).bind fun r1=>
    bif sV 0 (ahw.wrap ((key.length:Int).tdiv 2)) (key.length:Int)then
    (O6.run m_ ((cut key 0 (ahw.wrap ((key.length:Int).tdiv 2))),ad,r1,())).bind fun r2=>
    bif !(decide (r2=(cut sealed 0 16)))then
     some (([]:List Int),17,())
    else
     some (r1,0,())else none else none else none else none else none else none else none
theorem k:KT (O m_) [] ⟨104,[.one .str,.one (.lst .str),.one .str],.gG [.sh (.one .str),.sh (.one (.int .i64))],run m_⟩ []:=fun _=>by kernel_rfl
def c:=co (k m_)
end P9

namespace NP
def O:OO P:=lI [NS.c m_,P9.c m_,OA.c m_]
def e0:Spec:=⟨[fs 63 [.q 2036,.z 2036,.b 0,.q 255] [(1,.s),(2,.t),(3,.s),(4,.ptr 0 0),(11,.w)]],[(0,.c [.b,.dat Uo])],1⟩
def x0:List Spec:=[⟨[fs 63 [.q 260685,.b 1,.q 8147,.z 2036,.b 0,.q 255] [(8,.s),(9,.w)]],[],0⟩,⟨[fs 63 [.q 255] []],[],0⟩]
abbrev A0:Type:=LI×LL×LI×Int×Bool×(List (List Int×(List LI×(List Int×List Int))))×Unit
abbrev B0:Type:=(LI×Int×Unit) ⊕ (Unit)
def b0(self:A0->Option B0):A0->Option B0:=fun v_=>match v_ with
|(key,ad,sealed,i,m,m1,())=>
 bif wB (m1.length:Int)then
 bif decide (i<(m1.length:Int))then
  bif inB i (m1.length:Int)then
  ((bif((decide (((((rd Pj m1 i).2).2).2)=sealed))&&(decide (((rd Pj m1 i).1)=key)))then NS.run m_ (((rd Pj m1 i).2).1,ad,())else some false)).bind fun r=>
  bif(((decide (((((rd Pj m1 i).2).2).2)=sealed))&&(decide (((rd Pj m1 i).1)=key)))&&r)then
   some (.inl ((((rd Pj m1 i).2).2).1,0,()))
  else
   self (key,ad,sealed,(ahw.wrap (i+1)),m,m1,())else none
 else
  some (.inr (()))else none
theorem k0:KQ 63 (O m_) [] e0 x0 [] (b0 m_):=fun _ _=>by kernel_rfl
def l0:=loop m_ (b0 m_)
theorem q0(v):l0 .lim v=b0 .lim (l0 .lim) v:=KS.q (k0 .lim) v
def s0:=so m_ (k0 m_)
def run:QY×(List Int)×(List (List Int))×(List Int)×Unit->Option ((List Int)×Int×Unit):=fun v_=>match v_ with
|(v,key,ad,sealed,())=>
 bif !v.1 then
  (P9.run m_ (key,ad,sealed,())).bind fun (r,r1,())=>
  some (r,r1,())
 else
  (OA.run m_ (key,ad,0,())).bind fun r2=>
  bif !(decide (r2=0))then
   some (([]:List Int),r2,())
  else
   bif wB (sealed.length:Int)then
   bif decide ((sealed.length:Int)<16)then
    some (([]:List Int),11,())
   else
    bif wB (sealed.length:Int)then
    bif decide ((sealed.length:Int)>65552)then
     some (([]:List Int),12,())
    else
     (NP.l0 m_ (key,ad,sealed,0,v.1,v.2,())).bind fun g_=>match g_ with
     | .inl (t,t1,())=>
      some (t,t1,())
     | .inr (())=>
      some (([]:List Int),17,())else none else none
theorem k:KT (O m_) [] ⟨63,[.ag Q7,.one .str,.one (.lst .str),.one .str],.gG [.sh (.one .str),.sh (.one (.int .i64))],run m_⟩ [s0 m_]:=fun _=>by kernel_rfl
def c:=co (k m_)
end NP

namespace NZ
def O:OO P:=lI [OX.c m_,Nu.c m_,Nk.c m_,NP.c m_,O_.c m_]
def o0:dJ:= .c [.b,.dat Uo]
def o1:dJ:= .c [.w,.w,.w,.w,.w,.w,.dat (.int .u32),.dat (.int .u32),.dat (.int .u32),.u,.u,.u,.u,.CW,.CW,.CW]
def o2:dJ:= .c [.w,.w,.w,.w,.w,.w,.dat (.int .u32),.dat (.int .u32),.dat (.int .u32),.u,.u,.u,.u,.dat Qr]
def e0:Spec:=⟨[fs 49 [.q 2036,.z 2036,.b 0,.q 255] [(1,.s),(2,.s),(3,.ptr 0 0),(6,.ptr 1 0),(8,.ptr 2 0),(10,.own 3 (.int .i64)),(11,.w),(12,.w)]],[(0,o0),(1,o1),(2,o2),(3,.c [.row (.int .i64)])],4⟩
def x0:List Spec:=[⟨[fs 49 [.q 255] [(1,.s),(2,.s),(3,.ptr 0 0),(6,.ptr 1 0),(8,.ptr 2 0),(10,.own 3 (.int .i64)),(11,.w)]],[(0,o0),(1,o1),(2,o2),(3,.c [.row (.int .i64)])],4⟩]
abbrev A0:Type:=LI×LI×Int×Int×Bool×(List (List Int×(List LI×(List Int×List Int))))×Int×Int×Int×Int×Int×Int×Int×Int×Int×Int×Int×Int×Int×Int×Int×Int×Int×Int×Int×Int×Int×Int×Int×Int×Int×Int×(List (Int×List Int))×LI×Unit
abbrev B0:Type:=(LI×LI×Int×Bool×(List (List Int×(List LI×(List Int×List Int))))×Int×Int×Int×Int×Int×Int×Int×Int×Int×Int×Int×Int×Int×Int×Int×Int×Int×Int×Int×Int×Int×Int×Int×Int×Int×Int×(List (Int×List Int))×LI×Unit)
def b0(m_:Dq)(self:A0->Option B0):A0->Option B0:=fun v_=>match v_ with
|(s,key,n,i,m,m1,m2,m3,m4,m5,m6,m7,m8,m9,m10,m11,m12,m13,m14,m15,m16,m17,m18,m19,m20,m21,m22,m23,m24,Tz,Tc,TG,RX,SY,())=>
 bif inB 0 (SY.length:Int)then
 bif decide (i<(rd 0 SY 0))then
  bif inB i (RX.length:Int)then
  bif wB (((rd ((0:Int),([]:List Int)) RX i).2).length:Int)then
  self (s,key,(ahw.wrap ((ahw.wrap (n+4))+(((rd ((0:Int),([]:List Int)) RX i).2).length:Int))),(ahw.wrap (i+1)),m,m1,m2,m3,m4,m5,m6,m7,m8,m9,m10,m11,m12,m13,m14,m15,m16,m17,m18,m19,m20,m21,m22,m23,m24,Tz,Tc,TG,RX,SY,())else none else none
 else
  some (s,key,n,m,m1,m2,m3,m4,m5,m6,m7,m8,m9,m10,m11,m12,m13,m14,m15,m16,m17,m18,m19,m20,m21,m22,m23,m24,Tz,Tc,TG,RX,SY,())else none
theorem k0:KQ 49 (O m_) [] e0 x0 [] (b0 m_):=fun _ _=>by kernel_rfl
def l0:=loop m_ (b0 m_)
theorem q0(v):l0 .lim v=b0 .lim (l0 .lim) v:=KS.q (k0 .lim) v
def s0:=so m_ (k0 m_)
def run:QY×(List Int)×(List Int)×Unit->Option ((DT5×(List (Int×List Int)×List (Int×List Int)))×Int×Unit):=fun v_=>match v_ with
|(v,s,key,())=>
 (OX.run m_ (s,())).bind fun (r,r1,())=>
 bif !(decide (r1=0))then
  some (((0,(0,(0,(0,(0,(0,(0,(0,(0,(0,(0,(0,(0,([]:List (Int×List Int))))))))))))))),WA),r1,())
 else
  (Nk.run m_ (r.2.2.2.2.2.2.2.2.2.2.2.2.2,1028,())).bind fun r2=>
  bif wB (r2.length:Int)then
  bif decide ((r2.length:Int)=0)then
   some (((0,(0,(0,(0,(0,(0,(0,(0,(0,(0,(0,(0,(0,([]:List (Int×List Int))))))))))))))),WA),19,())
  else
   (NZ.l0 m_ (s,key,48,0,v.1,v.2,0,0,0,0,0,0,0,0,0,0,0,0,0,r.1,r.2.1,r.2.2.1,r.2.2.2.1,r.2.2.2.2.1,r.2.2.2.2.2.1,r.2.2.2.2.2.2.1,r.2.2.2.2.2.2.2.1,r.2.2.2.2.2.2.2.2.1,r.2.2.2.2.2.2.2.2.2.1,r.2.2.2.2.2.2.2.2.2.2.1,r.2.2.2.2.2.2.2.2.2.2.2.1,r.2.2.2.2.2.2.2.2.2.2.2.2.1,r.2.2.2.2.2.2.2.2.2.2.2.2.2,r2,())).bind fun (s1,key1,n,m,m1,m2,m3,m4,m5,m6,m7,m8,m9,m10,m11,m12,m13,m14,m15,m16,m17,m18,m19,m20,m21,m22,m23,m24,Tz,Tc,TG,RX,SY,())=>
   bif inB 0 (SY.length:Int)then
   bif inB (rd 0 SY 0) (RX.length:Int)then
   (O_.run m_ ((rd ((0:Int),([]:List Int)) RX (rd 0 SY 0)).2,())).bind fun (r3,r4,r5,())=>
   bif !(decide (r5=0))then
    some (((0,(0,(0,(0,(0,(0,(0,(0,(0,(0,(0,(0,(0,([]:List (Int×List Int))))))))))))))),WA),r5,())
   else
    bif sV 0 n (s1.length:Int)then
    (NP.run m_ ((m,m1),key1,([(cut s1 0 n),r3]:List (List Int)),r4,())).bind fun (r6,r7,())=>
    bif !(decide (r7=0))then
     some (((0,(0,(0,(0,(0,(0,(0,(0,(0,(0,(0,(0,(0,([]:List (Int×List Int))))))))))))))),WA),r7,())
    else
     (Nu.run m_ (r6,())).bind fun (r8,r9,())=>
     bif !(decide (r9=0))then
      some (((0,(0,(0,(0,(0,(0,(0,(0,(0,(0,(0,(0,(0,([]:List (Int×List Int))))))))))))))),WA),r9,())
     else
      bif inB 0 (SY.length:Int)then
      bif sV 0 (rd 0 SY 0) (RX.length:Int)then
      some (((m15,(m16,(m17,(m18,(m19,(m20,(m21,(m22,(m23,(m24,(Tz,(Tc,(TG,([]:List (Int×List Int))))))))))))))),((cut RX 0 (rd 0 SY 0)),r8)),0,())else none else none else none else none else none else none
theorem k:KT (O m_) [] ⟨49,[.ag Q7,.one .str,.one .str],.gG [.sh (.ag (.pair W_ (.pair Qr Qr))),.sh (.one (.int .i64))],run m_⟩ [s0 m_]:=fun _=>by kernel_rfl
def c:=co (k m_)
end NZ

namespace Pg
def O(m_:Dq):OO P:=lI []
def run(m_:Dq):XH×Unit->Option (XH):=fun v_=>match v_ with
|(x,())=>
 some (x.1,(x.2.1,(([]:List Int),(([]:List Int),(0,x.2.2.2.2.2)))))
theorem k:KT (O m_) [] ⟨21,[.ag TV],.one (.sh (.ag TV)),run m_⟩ []:=fun _=>by kernel_rfl
def c:=co (k m_)
end Pg

namespace Ov
def O(m_:Dq):OO P:=lI []
def run(m_:Dq):Int×Int×Unit->Option (Int):=fun v_=>match v_ with
|(a,b,())=>
 some (ahw.wrap (ahC.wrap (a-b)))
theorem k:KT (O m_) [] ⟨95,[.one (.int .u64),.one (.int .u64)],.one (.sh (.one (.int .i64))),run m_⟩ []:=fun _=>by kernel_rfl
def c:=co (k m_)
end Ov

namespace Po
def O:OO P:=lI [Ov.c m_]
def run:Int×Int×Int×Int×Unit->Option ((Int×Int)):=fun v_=>match v_ with
|(t1,t2,t3,t4,())=>
 (Ov.run m_ (t2,t1,())).bind fun r=>
 (Ov.run m_ (t3,t4,())).bind fun r1=>
 bif((!(!(decide ((r.tmod 2)=0))))||true)then
 bif((!(decide ((r.tmod 2)=0)))&&(!(decide ((r1.tmod 2)=0))))then
  (Ov.run m_ (t4,t1,())).bind fun r2=>
  (Ov.run m_ (t3,t2,())).bind fun r3=>
  some ((ahw.wrap ((ahw.wrap ((Ja .i64 r 1)+(Ja .i64 r1 1)))+1)),(ahw.wrap (ahC.wrap ((ahC.wrap r2)-(ahC.wrap r3)))))
 else
  (Ov.run m_ (t4,t1,())).bind fun r4=>
  (Ov.run m_ (t3,t2,())).bind fun r5=>
  some ((ahw.wrap ((Ja .i64 r 1)+(Ja .i64 r1 1))),(ahw.wrap (ahC.wrap ((ahC.wrap r4)-(ahC.wrap r5)))))else none
theorem k:KT (O m_) [] ⟨50,[.one (.int .u64),.one (.int .u64),.one (.int .u64),.one (.int .u64)],.one (.sh (.ag adn)),run m_⟩ []:=fun _=>by kernel_rfl
def c:=co (k m_)
end Po

namespace N7
def O:OO P:=lI [Pg.c m_,Qd.c m_,NZ.c m_,Po.c m_,O8.c m_,NV.c m_]
def o0:dJ:= .c [.w,.s,.s,.CW,.s,.s,.u,.u,.u,.u,.u]
def o1:dJ:= .c [.w,.s,.s,.w,.w,.w,.w,.w,.w,.dat (.int .u32),.dat (.int .u32),.dat (.int .u32),.u,.u,.u,.u,.CW,.w,.w]
def o2:dJ:= .c [.w,.s,.s,.w,.w,.w,.w,.w,.w,.dat (.int .u32),.dat (.int .u32),.dat (.int .u32),.u,.u,.u,.u,.dat Qr,.w,.w]
def o3:dJ:= .c [.w,.s,.s,.t,.s,.s,.u,.u,.u,.u,.u]
def e0:Spec:=⟨[fs 18 [.q 1048564,.z 1048564,.b 0,.q 131071] [(8,.ptr 0 0),(9,.ptr 1 0),(12,.ptr 2 0),(13,.ptr 3 0),(15,.ptr 4 0),(16,.own 5 .str),(17,.w)]],[(0,o0),(1,o1),(2,o2),(3,.c [.w,.w,.w,.w,.w,.w,.dat (.int .u32),.dat (.int .u32),.dat (.int .u32),.u,.u,.u,.u,.dat Qr,.dat Qr,.dat Qr]),(4,o3),(5,.c [.row .str])],6⟩
def x0:List Spec:=[⟨[fs 18 [.q 131071] [(8,.ptr 0 0),(9,.ptr 1 0),(12,.ptr 2 0),(15,.ptr 3 0),(16,.own 4 .str)]],[(0,o0),(1,o1),(2,o2),(3,o3),(4,.c [.row .str])],5⟩]
abbrev A0:Type:=Int×Int×LI×LI×LI×LI×Int×Int×Int×Int×Int×Int×LI×LI×Int×Int×Int×Int×Int×Int×Int×Int×Int×Int×Int×Int×Int×Int×Int×Int×LI×LI×Int×Int×Int×Int×Int×Int×Int×Int×Int×Int×Int×Int×Int×(List (Int×List Int))×Int×Int×Int×Int×Int×Int×Int×Int×Int×Int×Int×Int×Int×Int×Int×(List (Int×List Int))×(List (Int×List Int))×(List (Int×List Int))×Int×LI×LI×LL×LI×LI×Int×Int×Int×Int×Int×LL×Unit
abbrev B0:Type:=(Int×LI×LI×LI×LI×Int×Int×Int×Int×Int×Int×LI×LI×Int×Int×Int×Int×Int×Int×Int×Int×Int×Int×Int×Int×Int×Int×Int×Int×LI×LI×Int×Int×Int×Int×Int×Int×Int×Int×Int×Int×Int×Int×Int×(List (Int×List Int))×Int×Int×Int×LI×LI×LL×LI×LI×Int×Int×Int×Int×Int×LL×Unit)
def b0(self:A0->Option B0):A0->Option B0:=fun v_=>match v_ with
|(i,m,m1,m2,m3,m4,m5,m6,m7,m8,m9,m10,m11,m12,m13,m14,m15,m16,m17,m18,m19,m20,m21,m22,m23,m24,Tz,Tc,TG,RX,SY,UG,UO,m32,Ux,UZ,Vo,U0,VW,Xh,V_,Wh,Xi,VJ,VX,VY,U5,U6,VK,VZ,U7,Vp,Vx,Xl,V3,WJ,Xj,Xw,V4,YJ,m59,m60,m61,X4,ZJ,m64,m65,m66,m67,m68,m69,m70,m71,m72,m73,m74,())=>
 bif wB (X4.length:Int)then
 bif decide (i<(X4.length:Int))then
  bif inB i (X4.length:Int)then
  ((bif decide (((rd ((0:Int),([]:List Int)) X4 i).1)=516)then O8.run m_ ((rd ((0:Int),([]:List Int)) X4 i).2,())else some false)).bind fun r=>
  ((bif((decide (((rd ((0:Int),([]:List Int)) X4 i).1)=516))&&r)then NV.run m_ (m74,(rd ((0:Int),([]:List Int)) X4 i).2,())else some false)).bind fun r1=>
  bif((!(((decide (((rd ((0:Int),([]:List Int)) X4 i).1)=516))&&r)&& !r1))||(wB (m74.length:Int)))then
  bif((((decide (((rd ((0:Int),([]:List Int)) X4 i).1)=516))&&r)&& !r1)&&(decide ((m74.length:Int)<8)))then
   bif decide (m74.length+([(rd ((0:Int),([]:List Int)) X4 i).2]:List (List Int)).length<4398046511104)then
   self ((ahw.wrap (i+1)),m,m1,m2,m3,m4,m5,m6,m7,m8,m9,m10,m11,m12,m13,m14,m15,m16,m17,m18,m19,m20,m21,m22,m23,m24,Tz,Tc,TG,RX,SY,UG,UO,m32,Ux,UZ,Vo,U0,VW,Xh,V_,Wh,Xi,VJ,VX,VY,U5,U6,VK,VZ,U7,Vp,Vx,Xl,V3,WJ,Xj,Xw,V4,YJ,m59,m60,m61,X4,ZJ,m64,m65,m66,m67,m68,m69,m70,m71,m72,m73,(m74++([(rd ((0:Int),([]:List Int)) X4 i).2]:List (List Int))),())else none
  else
   self ((ahw.wrap (i+1)),m,m1,m2,m3,m4,m5,m6,m7,m8,m9,m10,m11,m12,m13,m14,m15,m16,m17,m18,m19,m20,m21,m22,m23,m24,Tz,Tc,TG,RX,SY,UG,UO,m32,Ux,UZ,Vo,U0,VW,Xh,V_,Wh,Xi,VJ,VX,VY,U5,U6,VK,VZ,U7,Vp,Vx,Xl,V3,WJ,Xj,Xw,V4,YJ,m59,m60,m61,X4,ZJ,m64,m65,m66,m67,m68,m69,m70,m71,m72,m73,m74,())else none else none
 else
  some (m,m1,m2,m3,m4,m5,m6,m7,m8,m9,m10,m11,m12,m13,m14,m15,m16,m17,m18,m19,m20,m21,m22,m23,m24,Tz,Tc,TG,RX,SY,UG,UO,m32,Ux,UZ,Vo,U0,VW,Xh,V_,Wh,Xi,VJ,VX,VY,U5,U6,ZJ,m64,m65,m66,m67,m68,m69,m70,m71,m72,m73,m74,())else none
theorem k0:KQ 18 (O m_) [] e0 x0 [] (b0 m_):=fun _ _=>by kernel_rfl
def l0:=loop m_ (b0 m_)
theorem q0(v):l0 .lim v=b0 .lim (l0 .lim) v:=KS.q (k0 .lim) v
def s0:=so m_ (k0 m_)
def run:QY×XH×(List Int)×Int×Unit->Option (XH×DT1×Unit):=fun v_=>match v_ with
|(v,x,s,t4,())=>
 (Qd.run m_ (x,s,())).bind fun (r,r1,())=>
 bif !r then
  some (x,(0,(([]:List Int),(([]:List Int),((0,(0,(0,(0,(0,(0,(0,(0,(0,(0,(0,(0,(0,([]:List (Int×List Int))))))))))))))),(0,0))))),())
 else
  bif !r1 then
   some ((x.1,(x.2.1,(x.2.2.1,(x.2.2.2.1,(x.2.2.2.2.1,(x.2.2.2.2.2.1,(x.2.2.2.2.2.2.1,((ahC.wrap (x.2.2.2.2.2.2.2.1+1)),x.2.2.2.2.2.2.2.2)))))))),(1,(x.2.2.1,(x.2.2.2.1,((0,(0,(0,(0,(0,(0,(0,(0,(0,(0,(0,(0,(0,([]:List (Int×List Int))))))))))))))),(0,0))))),())
  else
   (NZ.run m_ (v,s,x.1.2.2,())).bind fun (r2,r3,())=>
   bif(((!(decide (r3=0)))||(!(decide (r2.1.2.2.2.2.2.2.2.2.2.2.1=x.2.2.2.2.1))))||(decide (r2.1.2.2.2.1>15)))then
    some (x,(0,(([]:List Int),(([]:List Int),((0,(0,(0,(0,(0,(0,(0,(0,(0,(0,(0,(0,(0,([]:List (Int×List Int))))))))))))))),(0,0))))),())
   else
    (Pg.run m_ (x,())).bind fun r4=>
    bif decide (r2.1.2.2.2.1=0)then
     some ((r4.1,(r4.2.1,(r4.2.2.1,(r4.2.2.2.1,(r4.2.2.2.2.1,(r4.2.2.2.2.2.1,(r4.2.2.2.2.2.2.1,(r4.2.2.2.2.2.2.2.1,(ahC.wrap (r4.2.2.2.2.2.2.2.2+1)))))))))),(2,(x.2.2.1,(x.2.2.2.1,(r2.1,(0,0))))),())
    else
     (Po.run m_ (x.2.2.2.2.1,r2.1.2.2.2.2.2.2.2.2.2.2.2.1,r2.1.2.2.2.2.2.2.2.2.2.2.2.2.1,t4,())).bind fun r5=>
     bif decide (x.2.1.length<4398046511104)then
     (N7.l0 m_ (0,0,([]:List Int),([]:List Int),([]:List Int),([]:List Int),0,0,0,0,0,0,([]:List Int),([]:List Int),0,0,0,0,0,0,0,0,0,0,0,0,0,0,0,3,x.2.2.1,x.2.2.2.1,r2.1.1,r2.1.2.1,r2.1.2.2.1,r2.1.2.2.2.1,r2.1.2.2.2.2.1,r2.1.2.2.2.2.2.1,r2.1.2.2.2.2.2.2.1,r2.1.2.2.2.2.2.2.2.1,r2.1.2.2.2.2.2.2.2.2.1,r2.1.2.2.2.2.2.2.2.2.2.1,r2.1.2.2.2.2.2.2.2.2.2.2.1,r2.1.2.2.2.2.2.2.2.2.2.2.2.1,r2.1.2.2.2.2.2.2.2.2.2.2.2.2.1,r2.1.2.2.2.2.2.2.2.2.2.2.2.2.2,r5.1,r5.2,r2.1.1,r2.1.2.1,r2.1.2.2.1,r2.1.2.2.2.1,r2.1.2.2.2.2.1,r2.1.2.2.2.2.2.1,r2.1.2.2.2.2.2.2.1,r2.1.2.2.2.2.2.2.2.1,r2.1.2.2.2.2.2.2.2.2.1,r2.1.2.2.2.2.2.2.2.2.2.1,r2.1.2.2.2.2.2.2.2.2.2.2.1,r2.1.2.2.2.2.2.2.2.2.2.2.2.1,r2.1.2.2.2.2.2.2.2.2.2.2.2.2.1,r2.1.2.2.2.2.2.2.2.2.2.2.2.2.2,r2.2.1,r2.2.2,r4.1.1,r4.1.2.1,r4.1.2.2,r4.2.1,r4.2.2.1,r4.2.2.2.1,r4.2.2.2.2.1,r4.2.2.2.2.2.1,(ahC.wrap (r4.2.2.2.2.2.2.1+1)),r4.2.2.2.2.2.2.2.1,r4.2.2.2.2.2.2.2.2,x.2.1,())).bind fun (m,m1,m2,m3,m4,m5,m6,m7,m8,m9,m10,m11,m12,m13,m14,m15,m16,m17,m18,m19,m20,m21,m22,m23,m24,Tz,Tc,TG,RX,SY,UG,UO,m32,Ux,UZ,Vo,U0,VW,Xh,V_,Wh,Xi,VJ,VX,VY,U5,U6,VK,VZ,U7,Vp,Vx,Xl,V3,WJ,Xj,Xw,V4,YJ,())=>
     some (((VK,(VZ,U7)),(YJ,(Vx,(Xl,(V3,(WJ,(Xj,(Xw,V4)))))))),(RX,(SY,(UG,((UO,(m32,(Ux,(UZ,(Vo,(U0,(VW,(Xh,(V_,(Wh,(Xi,(VJ,(VX,VY))))))))))))),(U5,U6))))),())else none
theorem k:KT (O m_) [] ⟨18,[.ag Q7,.ag TV,.one .str,.one (.int .u64)],.gG [.sh (.ag TV),.sh (.ag acr)],run m_⟩ [s0 m_]:=fun v_=>match v_ with|(v,x,s,t4,())=>by kernel_rfl
def c:=co (k m_)
end N7

namespace Ob
def O:OO P:=lI [Og.c m_]
def o0:dJ:= .c [.b,.dat Uo]
def e0:Spec:=⟨[fs 10 [.q 116,.z 116,.b 0,.q 15] [(2,.ptr 0 0),(3,.ptr 1 0),(5,.w)]],[(0,o0),(1,o0)],2⟩
def x0:List Spec:=[⟨[fs 10 [.q 7461,.b 1,.q 467,.z 116,.b 0,.q 15] [(4,.b)]],[],0⟩,⟨[fs 10 [.q 15] []],[],0⟩]
abbrev A0:Type:=Int×Bool×(List (List Int×(List LI×(List Int×List Int))))×Bool×(List (List Int×(List LI×(List Int×List Int))))×Unit
abbrev B0:Type:=(Bool×Unit) ⊕ (Unit)
def b0(self:A0->Option B0):A0->Option B0:=fun v_=>match v_ with
|(i,m,m1,m2,m3,())=>
 bif wB (m1.length:Int)then
 bif decide (i<(m1.length:Int))then
  bif inB i (m1.length:Int)then
  bif inB i (m3.length:Int)then
  (Og.run m_ ((rd Pj m1 i),(rd Pj m3 i),())).bind fun r=>
  bif(!!!r||(inB i (m1.length:Int)))then
  bif(!!!r||(inB i (m3.length:Int)))then
  bif(!r||(!(decide (((((rd Pj m1 i).2).2).2)=((((rd Pj m3 i).2).2).2)))))then
   some (.inl (false,()))
  else
   self ((ahw.wrap (i+1)),m,m1,m2,m3,())else none else none else none else none
 else
  some (.inr (()))else none
theorem k0:KQ 10 (O m_) [] e0 x0 [] (b0 m_):=fun _ _=>by kernel_rfl
def l0:=loop m_ (b0 m_)
theorem q0(v):l0 .lim v=b0 .lim (l0 .lim) v:=KS.q (k0 .lim) v
def s0:=so m_ (k0 m_)
def run:QY×QY×Unit->Option (Bool):=fun v_=>match v_ with
|(a,b,())=>
 bif((!(!(!(a.1==b.1))))||(wB (a.2.length:Int)))then
 bif((!(!(!(a.1==b.1))))||(wB (b.2.length:Int)))then
 bif((!(a.1==b.1))||(!(decide ((a.2.length:Int)=(b.2.length:Int)))))then
  some false
 else
  (Ob.l0 m_ (0,a.1,a.2,b.1,b.2,())).bind fun g_=>match g_ with
  | .inl (t,())=>
   some t
  | .inr (())=>
   some true else none else none
theorem k:KT (O m_) [] ⟨10,[.ag Q7,.ag Q7],.one (.sh (.one .bool)),run m_⟩ [s0 m_]:=fun _=>by kernel_rfl
def c:=co (k m_)
end Ob

namespace N8
def O(m_:Dq):OO P:=lI []
def e0:Spec:=⟨[fs 15 [.q 116,.z 116,.b 0,.q 15] [(0,.t),(1,.t),(5,.w)]],[],0⟩
def x0:List Spec:=[⟨[fs 15 [.q 7461,.b 1,.q 467,.z 116,.b 0,.q 15] [(4,.b)]],[],0⟩,⟨[fs 15 [.q 15] []],[],0⟩]
abbrev A0:Type:=LL×LL×Int×Unit
abbrev B0:Type:=(Bool×Unit) ⊕ (Unit)
def b0(m_:Dq)(self:A0->Option B0):A0->Option B0:=fun v_=>match v_ with
|(a,b,i,())=>
 bif wB (a.length:Int)then
 bif decide (i<(a.length:Int))then
  bif inB i (a.length:Int)then
  bif inB i (b.length:Int)then
  bif !(decide ((rd ([]:List Int) a i)=(rd ([]:List Int) b i)))then
   some (.inl (false,()))
  else
   self (a,b,(ahw.wrap (i+1)),())else none else none
 else
  some (.inr (()))else none
theorem k0:KQ 15 (O m_) [] e0 x0 [] (b0 m_):=fun _ _=>by kernel_rfl
def l0:=loop m_ (b0 m_)
theorem q0(v):l0 .lim v=b0 .lim (l0 .lim) v:=KS.q (k0 .lim) v
def s0:=so m_ (k0 m_)
def run:(List (List Int))×(List (List Int))×Unit->Option (Bool):=fun v_=>match v_ with
|(a,b,())=>
 bif wB (a.length:Int)then
 bif wB (b.length:Int)then
 bif !(decide ((a.length:Int)=(b.length:Int)))then
  some false
 else
  (N8.l0 m_ (a,b,0,())).bind fun g_=>match g_ with
  | .inl (t,())=>
   some t
  | .inr (())=>
   some true else none else none
theorem k:KT (O m_) [] ⟨15,[.one (.lst .str),.one (.lst .str)],.one (.sh (.one .bool)),run m_⟩ [s0 m_]:=fun _=>by kernel_rfl
def c:=co (k m_)
end N8

namespace OY
def O:OO P:=lI [N8.c m_]
def run:XH×XH×Unit->Option (Bool):=fun v_=>match v_ with
|(a,b,())=>
 ((bif((decide (a.1.1=b.1.1))&&((decide (a.1.2.1=b.1.2.1))&&(decide (a.1.2.2=b.1.2.2))))then N8.run m_ (a.2.1,b.2.1,())else some false)).bind fun r=>
 some ((((((((((decide (a.1.1=b.1.1))&&((decide (a.1.2.1=b.1.2.1))&&(decide (a.1.2.2=b.1.2.2))))&&r)&&(decide (a.2.2.1=b.2.2.1)))&&(decide (a.2.2.2.1=b.2.2.2.1)))&&(decide (a.2.2.2.2.1=b.2.2.2.2.1)))&&(decide (a.2.2.2.2.2.1=b.2.2.2.2.2.1)))&&(decide (a.2.2.2.2.2.2.1=b.2.2.2.2.2.2.1)))&&(decide (a.2.2.2.2.2.2.2.1=b.2.2.2.2.2.2.2.1)))&&(decide (a.2.2.2.2.2.2.2.2=b.2.2.2.2.2.2.2.2)))
theorem k:KT (O m_) [] ⟨11,[.ag TV,.ag TV],.one (.sh (.one .bool)),run m_⟩ []:=fun _=>by kernel_rfl
def c:=co (k m_)
end OY

namespace N_
def O(m_:Dq):OO P:=lI []
def e0:Spec:=⟨[fs 96 [.q 116,.z 116,.b 0,.q 15] [(0,.dat Qr),(1,.dat Qr),(5,.w)]],[],0⟩
def x0:List Spec:=[⟨[fs 96 [.q 7461,.b 1,.q 467,.z 116,.b 0,.q 15] [(4,.b)]],[],0⟩,⟨[fs 96 [.q 15] []],[],0⟩]
abbrev A0:Type:=(List (Int×List Int))×(List (Int×List Int))×Int×Unit
abbrev B0:Type:=(Bool×Unit) ⊕ (Unit)
def b0(m_:Dq)(self:A0->Option B0):A0->Option B0:=fun v_=>match v_ with
|(a,b,i,())=>
 bif wB (a.length:Int)then
 bif decide (i<(a.length:Int))then
  bif inB i (a.length:Int)then
  bif inB i (b.length:Int)then
  bif !((decide (((rd ((0:Int),([]:List Int)) a i).1)=((rd ((0:Int),([]:List Int)) b i).1)))&&(decide (((rd ((0:Int),([]:List Int)) a i).2)=((rd ((0:Int),([]:List Int)) b i).2))))then
   some (.inl (false,()))
  else
   self (a,b,(ahw.wrap (i+1)),())else none else none
 else
  some (.inr (()))else none
theorem k0:KQ 96 (O m_) [] e0 x0 [] (b0 m_):=fun _ _=>by kernel_rfl
def l0:=loop m_ (b0 m_)
theorem q0(v):l0 .lim v=b0 .lim (l0 .lim) v:=KS.q (k0 .lim) v
def s0:=so m_ (k0 m_)
def run:(List (Int×List Int))×(List (Int×List Int))×Unit->Option (Bool):=fun v_=>match v_ with
|(a,b,())=>
 bif wB (a.length:Int)then
 bif wB (b.length:Int)then
 bif !(decide ((a.length:Int)=(b.length:Int)))then
  some false
 else
  (N_.l0 m_ (a,b,0,())).bind fun g_=>match g_ with
  | .inl (t,())=>
   some t
  | .inr (())=>
   some true else none else none
theorem k:KT (O m_) [] ⟨96,[.one Qr,.one Qr],.one (.sh (.one .bool)),run m_⟩ [s0 m_]:=fun _=>by kernel_rfl
def c:=co (k m_)
end N_

namespace Qa
def O:OO P:=lI [N_.c m_]
def run:DT5×DT5×Unit->Option (Bool):=fun v_=>match v_ with
|(a,b,())=>
 bif((((((((!(decide (a.1=b.1)))||(!(decide (a.2.1=b.2.1))))||(!(decide (a.2.2.1=b.2.2.1))))||(!(decide (a.2.2.2.1=b.2.2.2.1))))||(!(decide (a.2.2.2.2.1=b.2.2.2.2.1))))||(!(decide (a.2.2.2.2.2.1=b.2.2.2.2.2.1))))||(!(decide (a.2.2.2.2.2.2.1=b.2.2.2.2.2.2.1))))||(!(decide (a.2.2.2.2.2.2.2.1=b.2.2.2.2.2.2.2.1))))then
  some false
 else
  ((bif(((((decide (a.2.2.2.2.2.2.2.2.1=b.2.2.2.2.2.2.2.2.1))&&(decide (a.2.2.2.2.2.2.2.2.2.1=b.2.2.2.2.2.2.2.2.2.1)))&&(decide (a.2.2.2.2.2.2.2.2.2.2.1=b.2.2.2.2.2.2.2.2.2.2.1)))&&(decide (a.2.2.2.2.2.2.2.2.2.2.2.1=b.2.2.2.2.2.2.2.2.2.2.2.1)))&&(decide (a.2.2.2.2.2.2.2.2.2.2.2.2.1=b.2.2.2.2.2.2.2.2.2.2.2.2.1)))then N_.run m_ (a.2.2.2.2.2.2.2.2.2.2.2.2.2,b.2.2.2.2.2.2.2.2.2.2.2.2.2,())else some false)).bind fun r=>
  some ((((((decide (a.2.2.2.2.2.2.2.2.1=b.2.2.2.2.2.2.2.2.1))&&(decide (a.2.2.2.2.2.2.2.2.2.1=b.2.2.2.2.2.2.2.2.2.1)))&&(decide (a.2.2.2.2.2.2.2.2.2.2.1=b.2.2.2.2.2.2.2.2.2.2.1)))&&(decide (a.2.2.2.2.2.2.2.2.2.2.2.1=b.2.2.2.2.2.2.2.2.2.2.2.1)))&&(decide (a.2.2.2.2.2.2.2.2.2.2.2.2.1=b.2.2.2.2.2.2.2.2.2.2.2.2.1)))&&r)
theorem k:KT (O m_) [] ⟨53,[.ag W_,.ag W_],.one (.sh (.one .bool)),run m_⟩ []:=fun _=>by kernel_rfl
def c:=co (k m_)
end Qa

namespace PV
def O:OO P:=lI [Qa.c m_]
def run:DT1×DT1×Unit->Option (Bool):=fun v_=>match v_ with
|(a,b,())=>
 ((bif(((decide (a.1=b.1))&&(decide (a.2.1=b.2.1)))&&(decide (a.2.2.1=b.2.2.1)))then Qa.run m_ (a.2.2.2.1,b.2.2.2.1,())else some false)).bind fun r=>
 some (((((decide (a.1=b.1))&&(decide (a.2.1=b.2.1)))&&(decide (a.2.2.1=b.2.2.1)))&&r)&&((decide (a.2.2.2.2.1=b.2.2.2.2.1))&&(decide (a.2.2.2.2.2=b.2.2.2.2.2))))
theorem k:KT (O m_) [] ⟨19,[.ag acr,.ag acr],.one (.sh (.one .bool)),run m_⟩ []:=fun _=>by kernel_rfl
def c:=co (k m_)
end PV

namespace Pm
def O:OO P:=lI [P8.c m_,NH.c m_,Px.c m_,Ob.c m_,OY.c m_,N9.c m_,OG.c m_,N7.c m_,PV.c m_,Rf.c m_,Pg.c m_]
def run:QY×XH×(List Int)×(List Int)×(List Int)×Int×Unit->Option (Bool):=fun v_=>match v_ with
|(v,x,unique,MS,s,t,())=>
 (P8.run m_ (v,x,s,())).bind fun r=>
 bif !r then
  (NH.run m_ (())).bind fun r1=>
  some r1
 else
  (Px.run m_ (v,x,unique,MS,t,())).bind fun (r2,r3,r4,r5,())=>
  (N9.run m_ (v,x,unique,MS,t,())).bind fun (r6,r7,r8,r9,())=>
  (OG.run m_ (v,x,s,t,())).bind fun (r10,r11,())=>
  (N7.run m_ (v,x,s,t,())).bind fun (r12,r13,())=>
  (Ob.run m_ (r2,r6,())).bind fun YN=>
  ((bif YN then OY.run m_ (r3,r7,())else some false)).bind fun UR=>
  ((bif(((YN&&UR)&&(decide (r4=r8)))&&(decide (r5=r9)))then OY.run m_ (r10,r12,())else some false)).bind fun r16=>
  ((bif((((YN&&UR)&&(decide (r4=r8)))&&(decide (r5=r9)))&&r16)then PV.run m_ (r11,r13,())else some false)).bind fun VO=>
  ((bif(((((YN&&UR)&&(decide (r4=r8)))&&(decide (r5=r9)))&&r16)&&VO)then Rf.run m_ (x,())else some (((0:Int),(([]:List Int),([]:List Int))),(([]:List (List Int)),(([]:List Int),(([]:List Int),((0:Int),((0:Int),((0:Int),((0:Int),(0:Int))))))))))).bind fun r18=>
  ((bif(((((YN&&UR)&&(decide (r4=r8)))&&(decide (r5=r9)))&&r16)&&VO)then Pg.run m_ (x,())else some (((0:Int),(([]:List Int),([]:List Int))),(([]:List (List Int)),(([]:List Int),(([]:List Int),((0:Int),((0:Int),((0:Int),((0:Int),(0:Int))))))))))).bind fun r19=>
  ((bif(((((YN&&UR)&&(decide (r4=r8)))&&(decide (r5=r9)))&&r16)&&VO)then OY.run m_ (r18,r19,())else some false)).bind fun r20=>
  ((bif((((((YN&&UR)&&(decide (r4=r8)))&&(decide (r5=r9)))&&r16)&&VO)&&r20)then NH.run m_ (())else some false)).bind fun r21=>
  some (((((((YN&&UR)&&(decide (r4=r8)))&&(decide (r5=r9)))&&r16)&&VO)&&r20)&&r21)
theorem k:KT (O m_) [] ⟨4,[.ag Q7,.ag TV,.one .str,.one .str,.one .str,.one (.int .u64)],.one (.sh (.one .bool)),run m_⟩ []:=fun _=>by kernel_rfl
def c:=co (k m_)
end Pm

end
end Go.AM
end
section
namespace Go.AM
def tmS:Nat->Int->Int->Int->Int
 |0,_,_,r=>r
 |n+1,a,b,r=>tmS n (bif decide (I9 .u8 a 128=0)then I_ .u8 a 1 else Hz .u8 (I_ .u8 a 1) 27) (Ja .u8 b 1) (bif decide (I9 .u8 b 1=1)then Hz .u8 r a else r)
def tm(a b:Int):Int:=tmS 8 a b 0
theorem acN: ∀n a b r,B8 r->B8 (tmS n a b r)
 |0,_,_,_,h=>h
 |n+1,a,b,r,h=>acN n _ _ _ (by cases decide (I9 .u8 b 1=1)<;>first|exact h|exact VU _ _)
theorem acu(a b:Int):B8 (tm a b):=acN 8 a b 0 ⟨by decide,by decide⟩
theorem Xz(a b:Int):NR.run .lim (a,b,())=some (tm a b):=by
 have key: ∀(n i:Nat) (a b r:Int),i+n=8->NR.l0 .lim (a,b,r,(i:Int),())=some (tmS n a b r,()):=by
  intro n
  induction n with
  |zero=>
   intro i a b r h;rw[NR.q0];simp (disch:=omega) only[Nh,MV,M_,wrap64,MK,MO,dec_not,dec_and,Ol,NM,cond_true,cond_false,ahx,ah5,ahK,ahS,aik,ain,ahR,ahY,ail,ah6,ahD,ahF,aib,ahL,air,if_true,if_false,and_self,true_and,and_true,and_false,false_and,or_true,true_or,or_false,false_or,not_true_eq_false,not_false_eq_true,decide_true,decide_false,eq_self,if_pos,if_neg,O4,OH,NR.b0];rfl
  |succ n ih=>
   intro i a b r h;rw[NR.q0];simp only[NR.b0,Qz i (by omega),ih (i+1) _ _ _ (by omega),MK (show (i:Int)<8 by omega),cond_true];rw[tmS];cases decide (I9 .u8 b 1=1)<;>cases decide (I9 .u8 a 128=0)<;>rfl
 have:=key 8 0 a b 0 rfl;rw[show ((0:Nat):Int)=0 from rfl]at this;simp only[NR.run,this,ahx];rfl
theorem Yr: ∀n a r,tmS n a 0 r=r
 |0,_,_=>rfl
 |n+1,a,r=>by
  rw[tmS,show Ja .u8 0 1=0 from by decide,Yr n];rfl
theorem step_a{a:Int}(h:B8 a):Hz .u8 (I_ .u8 a 1) (ahN.wrap (Ja .u8 a 7*27))=bif decide (I9 .u8 a 128=0)then I_ .u8 a 1 else Hz .u8 (I_ .u8 a 1) 27:=
 P7 (p:=fun a=>Hz .u8 (I_ .u8 a 1) (ahN.wrap (Ja .u8 a 7*27))=bif decide (I9 .u8 a 128=0)then I_ .u8 a 1 else Hz .u8 (I_ .u8 a 1) 27) (by decide+kernel) h
theorem adA{b:Int}(h:B8 b):I9 .u8 b 1=0\/I9 .u8 b 1=1:=
 P7 (p:=fun b=>I9 .u8 b 1=0\/I9 .u8 b 1=1) (by decide+kernel) h
theorem adl{a:Int}:B8 (bif decide (I9 .u8 a 128=0)then I_ .u8 a 1 else Hz .u8 (I_ .u8 a 1) 27):=by
 cases decide (I9 .u8 a 128=0)
 ·exact VU _ _
 ·exact Zn _ _
theorem RV{a b:Int}(ha:B8 a)(hb:B8 b):OE.run .lim (a,b,())=some (tm a b):=by
 have key: ∀(n:Nat) (a b r:Int),B8 a->B8 r->0<=b->b<2^n->n<=8->OE.l0 .lim (a,b,r,())=some (tmS n a b r,()):=by
  intro n
  induction n with
  |zero=>
   intro a b r ha hr h0 h1 _;obtain rfl:b=0:=by simp at h1;omega
   rw[OE.q0];simp (disch:=omega) only[Nh,MV,M_,wrap64,MK,MO,dec_not,dec_and,Ol,NM,cond_true,cond_false,ahx,ah5,ahK,ahS,aik,ain,ahR,ahY,ail,ah6,ahD,ahF,aib,ahL,air,if_true,if_false,and_self,true_and,and_true,and_false,false_and,or_true,true_or,or_false,false_or,not_true_eq_false,not_false_eq_true,decide_true,decide_false,eq_self,if_pos,if_neg,O4,OH,OE.b0];rfl
  |succ n ih=>
   intro a b r ha hr h0 h1 hn;have hb:B8 b:=by
    refine⟨h0,Int.lt_of_lt_of_le h1 ?_⟩;have h2:(2:Int)^(n+1)=((2^(n+1):Nat):Int):=by simp
    have h3:2^(n+1)<=2^8:=aix (by omega) hn;rw[h2];omega
   rw[OE.q0];by_cases hz:b=0
   ·subst hz;rw[Yr];simp (disch:=omega) only[Nh,MV,M_,wrap64,MK,MO,dec_not,dec_and,Ol,NM,cond_true,cond_false,ahx,ah5,ahK,ahS,aik,ain,ahR,ahY,ail,ah6,ahD,ahF,aib,ahL,air,if_true,if_false,and_self,true_and,and_true,and_false,false_and,or_true,true_or,or_false,false_or,not_true_eq_false,not_false_eq_true,decide_true,decide_false,eq_self,if_pos,if_neg,O4,OH,OE.b0]
   ·have hs:Ja .u8 b 1=b/2:=by rw[adh];rfl
    have hm:ahN.wrap (a*I9 .u8 b 1)=bif decide (I9 .u8 b 1=1)then a else 0:=by
     rcases adA hb with e|e
     ·rw[e];simp;decide
     ·rw[e,Int.mul_one,R_ ha];rfl
    have hx:Hz .u8 r (bif decide (I9 .u8 b 1=1)then a else 0)=bif decide (I9 .u8 b 1=1)then Hz .u8 r a else r:=by
     cases decide (I9 .u8 b 1=1)
     ·exact xor_zero hr
     ·rfl
    have hr':B8 (bif decide (I9 .u8 b 1=1)then Hz .u8 r a else r):=by
     cases decide (I9 .u8 b 1=1)
     ·exact hr
     ·exact VU _ _
    have h2:=ih _ (Ja .u8 b 1) _ (@adl a) hr' (by rw[hs];omega) (by rw[hs,aiR]at*;omega) (by omega);simp only[OE.b0,MK (show b>0 by omega),cond_true,step_a ha,hm,hx];rw[h2,tmS]
 have:=key 8 a b 0 ha ⟨by decide,by decide⟩ hb.1 hb.2 (by omega);simp only[OE.run,this,ahx];rfl
def invS:Nat->Int->Int->Int
 |0,r,_=>r
 |n+1,r,s=>invS n (tm r (tm s s)) (tm s s)
def acf(b n:Int):Int:=KL .u8 (I_ .u8 b n) (Ja .u8 b (8-n))
def aco(b:Int):Int:=Hz .u8 (Hz .u8 (Hz .u8 (Hz .u8 (Hz .u8 (invS 7 1 b) (acf (invS 7 1 b) 1)) (acf (invS 7 1 b) 2)) (acf (invS 7 1 b) 3)) (acf (invS 7 1 b) 4)) 99
theorem YF{b:Int}(hb:B8 b):Py.run .lim (b,())=some (invS 7 1 b):=by
 have key: ∀(n i:Nat) (r s:Int),i+n=7->B8 r->B8 s->Py.l0 .lim (r,s,(i:Int),())=some (invS n r s,()):=by
  intro n
  induction n with
  |zero=>
   intro i r s h _ _;rw[Py.q0];simp (disch:=omega) only[Nh,MV,M_,wrap64,MK,MO,dec_not,dec_and,Ol,NM,cond_true,cond_false,ahx,ah5,ahK,ahS,aik,ain,ahR,ahY,ail,ah6,ahD,ahF,aib,ahL,air,if_true,if_false,and_self,true_and,and_true,and_false,false_and,or_true,true_or,or_false,false_or,not_true_eq_false,not_false_eq_true,decide_true,decide_false,eq_self,if_pos,if_neg,O4,OH,Py.b0];rfl
  |succ n ih=>
   intro i r s h hr hs;rw[Py.q0];simp only[Py.b0,Qz i (by omega),MK (show (i:Int)<7 by omega),cond_true,RV hs hs,ahx,RV hr (acu s s),ih (i+1) _ _ (by omega) (acu _ _) (acu _ _)];rfl
 have:=key 7 0 1 b rfl ⟨by decide,by decide⟩ hb;rw[show ((0:Nat):Int)=0 from rfl]at this;simp only[Py.run,this,ahx]
theorem acZ{b:Int}(hb:B8 b):S9.run .lim (b,())=some (aco b):=by
 simp only[S9.run,YF hb,ahx];have w: ∀n:Int,Sm.run .lim (invS 7 1 b,n,())=bif decide (0<=n)then(bif decide (0<=ahw.wrap (8-n))then some (KL .u8 (I_ .u8 (invS 7 1 b) n) (Ja .u8 (invS 7 1 b) (ahw.wrap (8-n))))else none)else none:=fun n=>rfl
 rw[w,w,w,w];rfl
def VB(b:Int):Int:=aco b
theorem Y3{b:Int}(hb:B8 b):S9.run .lim (b,())=some (VB b):=acZ hb
theorem Zl{b:Int}(hb:B8 b):B8 (VB b):=VU _ _
noncomputable def sbR(b:Int):Int:=(NI.run (.fuel 0) (b,())).getD 0
theorem aad: ∀n:Nat,n<256->aco n=sbR n:=by decide+kernel
set_option maxRecDepth 20000 in
theorem Vf{b:Int}(h:B8 b):NI.run .lim (b,())=some (VB b):=by
 have h1: ∀b:Int,B8 b-> ∃r,NI.run (.fuel 0) (b,())=some r:=by
  intro b hb;exact⟨_,cond_pos (MV hb.1 hb.2)⟩
 obtain⟨r,hr⟩:=h1 b h;have:NI.run .lim (b,())=some r:=hr;have hs:sbR b=r:=by unfold sbR;rw[hr];rfl
 rw[this,VB,P7 (p:=fun b=>aco b=sbR b) aad h,hs]
end Go.AM
end
section
namespace Go.AM
abbrev z4:List Int:=ahz 4 0
abbrev Wu:List Int:=ahz 16 0
abbrev Oq:List Int:=ahz 256 0
abbrev kL:List Int:=[1,2,3,9,11,13,14]
theorem acI: ∀k:Nat,k<7->0<=rd 0 kL (k:Int)/\rd 0 kL (k:Int)<16:=by decide
def Oe(k:Nat):List (List Int):=
 let t:=fun j:Int=>Q8 256 k fun i=>tm (i:Int) j
 [Oq,t 1,t 2,t 3,Oq,Oq,Oq,Oq,Oq,t 9,Oq,t 11,Oq,t 13,t 14,Oq]
def VP(i:Nat)(yb:List (List Int)):Nat->List (List Int)
 |0=>yb
 |k+1=>(VP i yb k).set (rd 0 kL (k:Int)).toNat ((rd Oq (VP i yb k) (rd 0 kL (k:Int))).set i (tm (i:Int) (rd 0 kL (k:Int))))
theorem Zh(k:Nat):VP k (Oe k) 7=Oe (k+1):=by
 have e:VP k (Oe k) 7=(
  let t:=fun j:Int=>(Q8 256 k fun i=>tm (i:Int) j).set k (tm (k:Int) j)
  [Oq,t 1,t 2,t 3,Oq,Oq,Oq,Oq,Oq,t 9,Oq,t 11,Oq,t 13,t 14,Oq]):=rfl
 have h: ∀j:Int,(Q8 256 k fun i=>tm (i:Int) j).set k (tm (k:Int) j)=Q8 256 (k+1) fun i=>tm (i:Int) j:=fun j=>RD rfl
 rw[e];simp only[h];rfl
theorem WV:Oe 0=ahz 16 Oq:=by
 unfold Oe;simp only[Rl];rfl
noncomputable def Vs:Nat->List Int
 |0=>Oq
 |k+1=>(Vs k).set (VB (k:Int)).toNat (k:Int)
noncomputable def Q_(k:Nat):List Int:=Q8 256 k fun i=>VB (i:Int)
theorem Tt{x:Int}(h:B8 x):rd 0 (Q_ 256) x=VB x:=by
 unfold Q_;rw[TL,Zb h.1 (by exact h.2),show ((x.toNat:Nat):Int)=x by have:=h.1;omega]
theorem Tf{x:Int}(h:B8 x):rd 0 (rd Oq (Oe 256) 1) x=tm x 1/\rd 0 (rd Oq (Oe 256) 2) x=tm x 2/\rd 0 (rd Oq (Oe 256) 3) x=tm x 3:=by
 have e: ∀j:Int,rd 0 (Q8 256 256 fun i=>tm (i:Int) j) x=tm x j:=fun j=>by rw[TL,Zb h.1 (by exact h.2),show ((x.toNat:Nat):Int)=x by have:=h.1;omega]
 exact⟨e 1,e 2,e 3⟩
def word(key:List Int)(j:Nat):List Int:=[rd 0 key ((4*j:Nat):Int),rd 0 key ((4*j+1:Nat):Int),rd 0 key ((4*j+2:Nat):Int),rd 0 key ((4*j+3:Nat):Int)]
theorem acG{m:List Int}{k:Nat}(h:k+4<=m.length):(m.drop k).take 4=[rd 0 m (k:Int),rd 0 m ((k+1:Nat):Int),rd 0 m ((k+2:Nat):Int),rd 0 m ((k+3:Nat):Int)]:=by
 rw[Qm (show k<m.length by omega),Qm (show k+1<m.length by omega),Qm (show k+2<m.length by omega),Qm (show k+3<m.length by omega)];rw[ahU (show k<m.length by omega),ahU (show k+1<m.length by omega),ahU (show k+2<m.length by omega),ahU (show k+3<m.length by omega)];rfl
theorem QM{α:Type}(m:List α)(a b:Nat):cut m (a:Int) (b:Int)=(m.drop a).take (b-a):=by unfold cut;rw[ahy,ahy,List.drop_take]
theorem Ya{key:List Int}{j:Nat}(h:4*j+4<=key.length):(cut key ((4*j:Nat):Int) ((4*j+4:Nat):Int)).take 4=word key j:=by
 rw[QM,show 4*j+4-4*j=4 by omega,aiz,Nat.min_self,acG h];rfl
def Words(W:List (List Int)):Prop:= ∀w∈W,w.length=4/\ ∀x∈w,B8 x
theorem Words.at{W:List (List Int)}(h:Words W){i:Nat}(hi:i<W.length):(rd z4 W (i:Int)).length=4/\ ∀x∈rd z4 W (i:Int),B8 x:=h _ (OB (by omega) (by omega))
theorem Words.byte{W:List (List Int)}(h:Words W){i:Nat}(hi:i<W.length){j:Int}(h0:0<=j)(hj:j<4):B8 (rd 0 (rd z4 W (i:Int)) j):=by
 have:=h.at hi;exact this.2 _ (OB h0 (by omega))
theorem TF{W:List (List Int)}(h:Words W):W.flatten.length=4*W.length:=by
 induction W with
 |nil=>rfl
 |cons w W ih=>
  rw[aii,ahE,ih fun x hx=>h x (.tail _ hx),(h w (.head _)).1,List.length_cons];omega
theorem Ro{W:List (List Int)}(h:Words W){i j:Nat}(hi:i<W.length)(hj:j<4):rd 0 W.flatten ((4*i+j:Nat):Int)=rd 0 (rd z4 W (i:Int)) (j:Int):=by
 induction W generalizing i with
 |nil=>simp at hi
 |cons w W ih=>
  have hw:=(h w (.head _)).1;cases i with
  |zero=>
   unfold rd;simp only[ahy,aii,ahH];rw[aie (by omega)];simp
  |succ i=>
   have:=ih (fun x hx=>h x (.tail _ hx)) (by simpa using hi);unfold rd at this ⊢
   simp only[ahy,aii,ahH]at this ⊢
   rw[List.getElem?_append_right (by omega),show 4*(i+1)+j-w.length=4*i+j by omega,this];simp
noncomputable def Zu(nk:Nat)(i:Nat)(x:Int)(t:List Int):List Int:=
 if i%nk=0 then [Hz .u8 (VB (rd 0 t 1)) x,VB (rd 0 t 2),VB (rd 0 t 3),VB (rd 0 t 0)]
 else if nk=8/\i%8=4 then [VB (rd 0 t 0),VB (rd 0 t 1),VB (rd 0 t 2),VB (rd 0 t 3)]
 else [rd 0 t 0,rd 0 t 1,rd 0 t 2,rd 0 t 3]
def Xf(t w:List Int):List Int:=[Hz .u8 (rd 0 t 0) (rd 0 w 0),Hz .u8 (rd 0 t 1) (rd 0 w 1),Hz .u8 (rd 0 t 2) (rd 0 w 2),Hz .u8 (rd 0 t 3) (rd 0 w 3)]
noncomputable def stepW(nk:Nat)(s:List (List Int)×Int):List (List Int)×Int:=
 (s.1++[Xf (Zu nk s.1.length s.2 (rd z4 s.1 ((s.1.length-1:Nat):Int))) (rd z4 s.1 ((s.1.length-nk:Nat):Int))],if s.1.length%nk=0 then tm s.2 2 else s.2)
noncomputable def sched(nk:Nat)(key:List Int):Nat->List (List Int)×Int
 |0=>((ahQ nk).map (word key),1)
 |k+1=>stepW nk (sched nk key k)
theorem TJ(nk:Nat)(key:List Int): ∀k,(sched nk key k).1.length=nk+k
 |0=>by simp[sched]
 |k+1=>by rw[sched,stepW,ahE,TJ nk key k];rfl
theorem Ws(t w:List Int):(Xf t w).length=4/\ ∀x∈Xf t w,B8 x:=by
 refine⟨rfl,fun x hx=> ?_⟩;simp only[Xf,ah7,ah4,or_false]at hx;rcases hx with rfl|rfl|rfl|rfl<;>exact VU _ _
theorem Ul(nk:Nat)(key:List Int)(hk:4*nk<=key.length)(hb: ∀x∈key,B8 x): ∀k,Words (sched nk key k).1/\B8 (sched nk key k).2
 |0=>by
  refine⟨fun w hw=> ?_,show B8 1 from⟨by decide,by decide⟩⟩;obtain⟨j,hj,rfl⟩:=aiH.1 hw;have hj:=aif.1 hj;refine⟨rfl,fun x hx=> ?_⟩;simp only[word,ah7,ah4,or_false]at hx;rcases hx with rfl|rfl|rfl|rfl<;>exact hb _ (OB (by omega) (by omega))
 |k+1=>by
  obtain⟨h1,h2⟩:=Ul nk key hk hb k;refine⟨fun w hw=> ?_,?_⟩
  ·rcases aiL.1 hw with hw|hw
   ·exact h1 w hw
   ·rw[List.mem_singleton.1 hw];exact Ws _ _
  ·show B8 (if _ then tm _ 2 else _);split
   ·exact acu _ _
   ·exact h2
noncomputable def Qs(key:List Int):List (List Int):=(sched (key.length/4) key (3*(key.length/4)+28)).1
theorem TA(key:List Int):(Qs key).length=4*(key.length/4)+28:=by unfold Qs;rw[TJ];omega
theorem Ut(key:List Int)(hb: ∀x∈key,B8 x):Words (Qs key):=(Ul _ key (by omega) hb _).1
def SH(W:List (List Int))(j:Nat):List Int:=rd z4 W ((4*j:Nat):Int)++(rd z4 W ((4*j+1:Nat):Int)++(rd z4 W ((4*j+2:Nat):Int)++rd z4 W ((4*j+3:Nat):Int)))
def Ph(W:List (List Int)):List (List Int):=(ahQ (W.length/4)).map (SH W)
theorem Vd{W:List (List Int)}(h:Words W){j:Nat}(hj:4*j+3<W.length):(SH W j).length=16:=by
 unfold SH;simp only[ahE,(h.at (show 4*j<W.length by omega)).1,(h.at (show 4*j+1<W.length by omega)).1,(h.at (show 4*j+2<W.length by omega)).1,(h.at hj).1]
theorem V9{W:List (List Int)}(h:Words W){i:Nat}(hi:i<W.length):(W.flatten.drop (4*i)).take 4=rd z4 W (i:Int):=by
 have hl:=TF h;rw[acG (by omega),list4 (h.at hi).1];have:=Ro h hi (j:=0) (by omega);rw[show 4*i+0=4*i from rfl]at this;rw[this,Ro h hi (j:=1) (by omega),Ro h hi (j:=2) (by omega),Ro h hi (j:=3) (by omega)];rfl
theorem X_{W:List (List Int)}(h:Words W){j:Nat}(hj:4*j+3<W.length):cut W.flatten ((16*j:Nat):Int) ((16*j+16:Nat):Int)=SH W j:=by
 have hl:=TF h;have e0:=V9 h (show 4*j<W.length by omega);have e1:=V9 h (show 4*j+1<W.length by omega);have e2:=V9 h (show 4*j+2<W.length by omega);have e3:=V9 h hj;rw[show 4*(4*j)=16*j by omega]at e0;rw[show 4*(4*j+1)=16*j+4 by omega]at e1;rw[show 4*(4*j+2)=16*j+8 by omega]at e2;rw[show 4*(4*j+3)=16*j+12 by omega]at e3;rw[QM,show 16*j+16-16*j=4+(4+(4+4)) by omega,aiE,aiE,aiE,aiy,aiy,aiy];unfold SH;rw[e0,e1,show 16*j+4+4=16*j+8 by omega,e2,show 16*j+8+4=16*j+12 by omega,e3]
noncomputable def SL(b:List Int):List Int:=tab 16 fun i=>VB (rd 0 b (((i+4*(i%4))%16:Nat):Int))
def Rx(b:List Int):List Int:=tab 16 fun i=>
 Hz .u8 (Hz .u8 (Hz .u8 (Hz .u8 0 (tm (rd 0 b ((i/4*4+i%4:Nat):Int)) 2)) (tm (rd 0 b ((i/4*4+(i+1)%4:Nat):Int)) 3)) (tm (rd 0 b ((i/4*4+(i+2)%4:Nat):Int)) 1)) (tm (rd 0 b ((i/4*4+(i+3)%4:Nat):Int)) 1)
def T_(b k:List Int):List Int:=tab 16 fun i=>Hz .u8 (rd 0 b (i:Int)) (rd 0 k (i:Int))
noncomputable def YO(last:Bool)(b k:List Int):List Int:=T_ (bif last then SL b else Rx (SL b)) k
noncomputable def SB(W:List (List Int))(b:List Int):Nat->List Int
 |0=>T_ b (SH W 0)
 |j+1=>YO (decide (j+2=W.length/4)) (SB W b j) (SH W (j+1))
noncomputable def encS(key b:List Int):List Int:=SB (Qs key) b ((Qs key).length/4-1)
def VH(b:List Int):Prop:=b.length=16/\ ∀x∈b,B8 x
theorem XE{n:Nat}{g:Nat->Int}(h: ∀k,k<n->B8 (g k)): ∀x∈tab n g,B8 x:=by
 intro x hx;obtain⟨i,hi,rfl⟩:=aiH.1 hx;exact h i (aif.1 hi)
theorem Yj(b k:List Int):VH (T_ b k):=⟨PX,XE fun _ _=>VU _ _⟩
theorem V8(W:List (List Int))(b:List Int): ∀j,VH (SB W b j)
 |0=>Yj _ _
 |_+1=>Yj _ _
theorem RJ(key b:List Int):VH (encS key b):=V8 _ _ _
theorem VH.at{b:List Int}(h:VH b){i:Nat}(hi:i<16):B8 (rd 0 b (i:Int)):=h.2 _ (OB (by omega) (by rw[h.1];omega))
end Go.AM
end
section
namespace Go.AM
theorem afr(a b c d:Int):rd 0 [a,b,c,d] 0=a:=rfl
theorem afs(a b c d:Int):rd 0 [a,b,c,d] 1=b:=rfl
theorem aft(a b c d:Int):rd 0 [a,b,c,d] 2=c:=rfl
theorem afu(a b c d:Int):rd 0 [a,b,c,d] 3=d:=rfl
theorem XT{α:Type}{d:α}{a b:List α}{k:Nat}(h:k<a.length):rd d (a++b) (k:Int)=rd d a (k:Int):=by unfold rd;rw[ahy,ahH,ahH,aie h]
theorem YZ{key:List Int}{q:Nat}(h:key.length=4*q)(hb: ∀x∈key,B8 x):((ahQ q).map (word key)).flatten=key:=by
 have hW:Words ((ahQ q).map (word key)):=by
  intro w hw;obtain⟨j,hj,rfl⟩:=aiH.1 hw;have hj:=aif.1 hj;refine⟨rfl,fun x hx=> ?_⟩;simp only[word,ah7,ah4,or_false]at hx;rcases hx with rfl|rfl|rfl|rfl<;>exact hb _ (OB (by omega) (by omega))
 have hl:=TF hW;rw[List.length_map,List.length_range]at hl;refine WQ (d:=0) (by omega) fun k hk=> ?_
 have hi:k/4<((ahQ q).map (word key)).length:=by simp;omega
 have:=Ro hW hi (j:=k%4) (by omega);rw[show 4*(k/4)+k%4=k by omega]at this;rw[this,Qm hi];simp only[List.getElem_map,List.getElem_range,word];rcases (show k%4=0\/k%4=1\/k%4=2\/k%4=3 by omega)with e|e|e|e<;>rw[e]
 ·show rd 0 key ((4*(k/4):Nat):Int)=_;congr 2;omega
 ·show rd 0 key ((4*(k/4)+1:Nat):Int)=_;congr 2;omega
 ·show rd 0 key ((4*(k/4)+2:Nat):Int)=_;congr 2;omega
 ·show rd 0 key ((4*(k/4)+3:Nat):Int)=_;congr 2;omega
theorem aci{W:List (List Int)}(hW:Words W){i nk:Nat}{c:Int}{t:List Int}(h1:nk<=i)(h2:i=W.length)(h3:0<nk)(h4:i<1000)(ht:t.length=4):
  Nb.l0 .lim ((nk:Int),c,(i:Int),0,W.flatten,t,())=some ((nk:Int),c,(i:Int),W.flatten++Xf t (rd z4 W ((i-nk:Nat):Int)),()):=by
 have hl:=TF hW;have hx: ∀k:Nat,k<4->rd 0 (Xf t (rd z4 W ((i-nk:Nat):Int))) (k:Int)=Hz .u8 (rd 0 t (k:Int)) (rd 0 (rd z4 W ((i-nk:Nat):Int)) (k:Int)):=by
  intro k hk;rcases (show k=0\/k=1\/k=2\/k=3 by omega)with rfl|rfl|rfl|rfl<;>rfl
 have e:=NU (f:=Nb.l0 .lim) (fun k=>((nk:Int),c,(i:Int),(k:Int),W.flatten++(Xf t (rd z4 W ((i-nk:Nat):Int))).take k,t,())) (n:=4) (fun k hk=>by
  rw[Nb.q0];have w1:ahw.wrap (4*ahw.wrap ((i:Int)-(nk:Int)))=((4*(i-nk):Nat):Int):=by rw[wrap64 (n:=(i:Int)-(nk:Int)) (by omega) (by omega),wrap64 (by omega) (by omega)];omega
  have w2:ahw.wrap (((4*(i-nk):Nat):Int)+(k:Int))=((4*(i-nk)+k:Nat):Int):=by rw[wrap64 (by omega) (by omega)];omega
  have hr:=Ro hW (i:=i-nk) (j:=k) (by omega) hk;have ha:rd 0 (W.flatten++(Xf t (rd z4 W ((i-nk:Nat):Int))).take k) ((4*(i-nk)+k:Nat):Int)=rd 0 (rd z4 W ((i-nk:Nat):Int)) (k:Int):=by rw[XT (by omega),hr]
  have hlen:(W.flatten++(Xf t (rd z4 W ((i-nk:Nat):Int))).take k).length=4*i+k:=by rw[ahE,hl,ahG,(Ws _ _).1];omega
  simp only[Nb.b0,MK (show (k:Int)<4 by omega),w1,w2,ha,hlen,MV (show (0:Int)<=((4*(i-nk)+k:Nat):Int) by omega) (show ((4*(i-nk)+k:Nat):Int)<((4*i+k:Nat):Int) by omega),MV (show (0:Int)<=k by omega) (show (k:Int)<(t.length:Int) by omega),cond_true,Qz k (by omega)];rw[cond_pos (by simp;omega),Vk (d:=(0:Int)) (by rw[(Ws _ _).1];omega),hx k hk,xor_comm,ah2])
 rw[aiA,aiJ,show ((0:Nat):Int)=0 from rfl]at e;rw[e,ahJ (by rw[(Ws _ _).1];omega),Nb.q0];simp only[Nb.b0,MO (show ¬((4:Nat):Int)<4 by decide),cond_false]
theorem XB{key:List Int}(hk:key.length=16\/key.length=32)(hb: ∀x∈key,B8 x):Nb.run .lim (key,())=some (Qs key).flatten:=by
 have hd:(key.length:Int).tdiv 4=((key.length/4:Nat):Int):=by rw[ahP (ahB _)];simp
 have w0:ahw.wrap ((key.length:Int).tdiv 4)=((key.length/4:Nat):Int):=by rw[hd,wrap64 (by omega) (by omega)]
 generalize hnk:key.length/4=nk at w0;have hn:nk=4\/nk=8:=by omega
 have e:=NU (f:=Nb.l1 .lim) (fun k=>((nk:Int),(sched nk key k).2,((nk+k:Nat):Int),(sched nk key k).1.flatten,())) (n:=3*nk+28) (fun k hkq=>by
  rw[Nb.q1];obtain⟨hW,hx⟩:=Ul nk key (by omega) hb k;have hl:=TJ nk key k;have hs:sched nk key (k+1)=stepW nk (sched nk key k):=rfl;rw[hs];unfold stepW;generalize hq:sched nk key k=q at hW hx hl;obtain⟨W,x⟩:=q;simp only at hW hx hl ⊢
  have hi0:nk+k<1000:=by omega
  generalize hi:nk+k=i at hl hi0;have hw:=hW.at (show i-1<W.length by omega);have hfl:=TF hW;have hb0:=hW.byte (show i-1<W.length by omega) (j:=0) (by omega) (by omega);have hb1:=hW.byte (show i-1<W.length by omega) (j:=1) (by omega) (by omega);have hb2:=hW.byte (show i-1<W.length by omega) (j:=2) (by omega) (by omega);have hb3:=hW.byte (show i-1<W.length by omega) (j:=3) (by omega) (by omega);have f0:=Ro hW (show i-1<W.length by omega) (j:=0) (by omega);have f1:=Ro hW (show i-1<W.length by omega) (j:=1) (by omega);have f2:=Ro hW (show i-1<W.length by omega) (j:=2) (by omega);have f3:=Ro hW (show i-1<W.length by omega) (j:=3) (by omega);rw[show 4*(i-1)+0=4*i-4 by omega,show ((0:Nat):Int)=0 from rfl]at f0;rw[show 4*(i-1)+1=4*i-3 by omega,show ((1:Nat):Int)=1 from rfl]at f1;rw[show 4*(i-1)+2=4*i-2 by omega,show ((2:Nat):Int)=2 from rfl]at f2;rw[show 4*(i-1)+3=4*i-1 by omega,show ((3:Nat):Int)=3 from rfl]at f3;have w1:ahw.wrap (4*ahw.wrap ((nk:Int)+7))=((4*nk+28:Nat):Int):=by rw[wrap64 (n:=(nk:Int)+7) (by omega) (by omega),wrap64 (by omega) (by omega)];omega
  have w2:ahw.wrap (4*(i:Int))=((4*i:Nat):Int):=by rw[wrap64 (by omega) (by omega)];omega
  have w4:ahw.wrap (((4*i:Nat):Int)-4)=((4*i-4:Nat):Int):=by rw[wrap64 (by omega) (by omega)];omega
  have w5:ahw.wrap (((4*i:Nat):Int)-3)=((4*i-3:Nat):Int):=by rw[wrap64 (by omega) (by omega)];omega
  have w6:ahw.wrap (((4*i:Nat):Int)-2)=((4*i-2:Nat):Int):=by rw[wrap64 (by omega) (by omega)];omega
  have w7:ahw.wrap (((4*i:Nat):Int)-1)=((4*i-1:Nat):Int):=by rw[wrap64 (by omega) (by omega)];omega
  have m1:((i:Int)).tmod (nk:Int)=((i%nk:Nat):Int):=by rw[ahA (ahB i)];simp
  have m2:((i:Int)).tmod 8=((i%8:Nat):Int):=by rw[ahA (ahB i)];simp
  have WH:=fun c t ht=>aci (c:=c) (t:=t) hW (i:=i) (nk:=nk) (by omega) (by omega) (by omega) (by omega) ht
  have hin: ∀j:Nat,1<=j->j<=4->inB ((4*i-j:Nat):Int) (W.flatten.length:Int)=true:=fun j h1 h2=>MV (by omega) (by omega)
  simp only[Nb.b1,w1,w2,w4,w5,w6,w7,MK (show (i:Int)<((4*nk+28:Nat):Int) by omega),hin 4 (by omega) (by omega),hin 3 (by omega) (by omega),hin 2 (by omega) (by omega),hin 1 (by omega) (by omega),MO (show ¬(nk:Int)=0 by omega),m1,m2,cond_true,ahF,ahK,f0,f1,f2,f3,afr,afs,aft,afu,Vf hb0,Vf hb1,Vf hb2,Vf hb3,ahx,Xz];have hi4: ∀(a b c d:Int) (j:Int),0<=j->j<4->inB j (([a,b,c,d]:List Int).length:Int)=true:=fun a b c d j h1 h2=>MV h1 h2
  simp only[hi4 _ _ _ _ 0 (by omega) (by omega),hi4 _ _ _ _ 1 (by omega) (by omega),hi4 _ _ _ _ 2 (by omega) (by omega),hi4 _ _ _ _ 3 (by omega) (by omega),cond_true];rw[hl];unfold Zu;have hfa: ∀v:List Int,(W++[v]).flatten=W.flatten++v:=fun v=>by simp
  rw[hfa];by_cases c1:i%nk=0
  ·rw[MK (show ((i%nk:Nat):Int)=0 by omega),if_pos c1,if_pos c1];simp only[cond_true];rw[WH _ _ rfl];simp only[ahx,Qz i (by omega)];rw[show i+1=nk+(k+1) by omega]
  ·rw[MO (show ¬((i%nk:Nat):Int)=0 by omega),if_neg c1,if_neg c1];simp only[cond_false];by_cases c2:nk=8/\i%8=4
   ·rw[MK (show (nk:Int)=8 by omega),MK (show ((i%8:Nat):Int)=4 by omega),if_pos c2];simp only[ahL,cond_true];rw[WH _ _ rfl];simp only[ahx,Qz i (by omega)];rw[show i+1=nk+(k+1) by omega]
   ·have:(decide ((nk:Int)=8)&&decide (((i%8:Nat):Int)=4))=false:=by
     by_cases c3:nk=8
     ·rw[MO (show ¬((i%8:Nat):Int)=4 by omega),ahR]
     ·rw[MO (show ¬(nk:Int)=8 by omega),ahY]
    rw[this,if_neg c2];simp only[cond_false];rw[WH _ _ rfl];simp only[ahx,Qz i (by omega)];rw[show i+1=nk+(k+1) by omega])
 have hs0:(sched nk key 0).1.flatten=key:=YZ (by omega) hb;rw[hs0,show (sched nk key 0).2=1 from rfl,ah3]at e;have w1:ahw.wrap (4*ahw.wrap ((nk:Int)+7))=((4*nk+28:Nat):Int):=by rw[wrap64 (n:=(nk:Int)+7) (by omega) (by omega),wrap64 (by omega) (by omega)];omega
 simp only[Nb.run,MR (show key.length<9223372036854775808 by omega),cond_true,w0,e];rw[Nb.q1];simp only[Nb.b1,w1,MO (show ¬((nk+(3*nk+28):Nat):Int)<((4*nk+28:Nat):Int) by omega),cond_false,ahx];unfold Qs;rw[hnk]
theorem aae{b:List Int}(hb:b.length=16):Np.run .lim (b,false,())=some (tab 16 fun i=>rd 0 b (((i+4*(i%4))%16:Nat):Int)):=by
 have inner: ∀c:Nat,c<4->Np.l0 .lim (b,false,(c:Int),0,Q8 16 (4*c) (fun i=>rd 0 b (((i+4*(i%4))%16:Nat):Int)),())=some (b,false,(c:Int),Q8 16 (4*c+4) (fun i=>rd 0 b (((i+4*(i%4))%16:Nat):Int)),()):=by
  intro c hc;have e:=NU (f:=Np.l0 .lim) (fun r=>(b,false,(c:Int),(r:Int),Q8 16 (4*c+r) (fun i=>rd 0 b (((i+4*(i%4))%16:Nat):Int)),())) (n:=4) (fun r hr=>by
   rw[Np.q0];have w1:ahw.wrap (4*(c:Int))=((4*c:Nat):Int):=by rw[wrap64 (by omega) (by omega)];omega
   have w2:ahw.wrap (((4*c:Nat):Int)+(r:Int))=((4*c+r:Nat):Int):=by rw[wrap64 (by omega) (by omega)];omega
   have w3:ahw.wrap ((c:Int)+(r:Int))=((c+r:Nat):Int):=by rw[wrap64 (by omega) (by omega)];omega
   have m1:(((c+r:Nat):Int)).tmod 4=(((c+r)%4:Nat):Int):=by rw[ahA (ahB _)];simp
   have w4:ahw.wrap (4*(((c+r)%4:Nat):Int))=((4*((c+r)%4):Nat):Int):=by rw[wrap64 (by omega) (by omega)];omega
   have w5:ahw.wrap (((4*((c+r)%4):Nat):Int)+(r:Int))=((4*((c+r)%4)+r:Nat):Int):=by rw[wrap64 (by omega) (by omega)];omega
   simp only[Np.b0,MK (show (r:Int)<4 by omega),w1,w2,w3,m1,w4,w5,hb,Ur,MV (show (0:Int)<=((4*((c+r)%4)+r:Nat):Int) by omega) (show ((4*((c+r)%4)+r:Nat):Int)<((16:Nat):Int) by omega),MV (show (0:Int)<=((4*c+r:Nat):Int) by omega) (show ((4*c+r:Nat):Int)<((16:Nat):Int) by omega),cond_true,cond_false,Qz r (by omega),ahy];rw[RD]
   ·rfl
   ·congr 2;omega)
  rw[show ((0:Nat):Int)=0 from rfl,ah3]at e;rw[e,Np.q0];simp only[Np.b0,MO (show ¬((4:Nat):Int)<4 by decide),cond_false]
 have e:=NU (f:=Np.l1 .lim) (fun c=>(b,false,(c:Int),Q8 16 (4*c) (fun i=>rd 0 b (((i+4*(i%4))%16:Nat):Int)),())) (n:=4) (fun c hc=>by
  rw[Np.q1];simp only[Np.b1,MK (show (c:Int)<4 by omega),cond_true,inner c hc,ahx,Qz c (by omega)];rfl)
 rw[show ((0:Nat):Int)=0 from rfl,aiU,Rl]at e;simp only[Np.run,show aiW 16 70368744177664=true from rfl,cond_true,e];rw[Np.q1];simp only[Np.b1,MO (show ¬((4:Nat):Int)<4 by decide),cond_false,ahx];rw[show 4*4=16 from rfl,TL]
theorem aaN{b:List Int}(hb:b.length=16):MZ.run .lim (b,[2,3,1,1],())=some (Rx b):=by
 have cell: ∀c r:Nat,c<4->r<4->MZ.l0 .lim (b,[2,3,1,1],(c:Int),(r:Int),0,Q8 16 (4*c+r) (fun i=>rd 0 (Rx b) (i:Int)),())=some (b,[2,3,1,1],(c:Int),(r:Int),Q8 16 (4*c+r+1) (fun i=>rd 0 (Rx b) (i:Int)),()):=by
  intro c r hc hr;have h4: ∀j:Nat,j<4->ahw.wrap (ahw.wrap (4*(c:Int))+(ahw.wrap ((r:Int)+(j:Int))).tmod 4)=(((4*c+r)/4*4+(4*c+r+j)%4:Nat):Int):=by
   intro j hj;have d2:ahw.wrap ((r:Int)+(j:Int))=((r+j:Nat):Int):=by rw[wrap64 (by omega) (by omega)];omega
   have d3:(((r+j:Nat):Int)).tmod 4=(((r+j)%4:Nat):Int):=by rw[ahA (ahB _)];simp
   rw[d2,d3,wrap64 (n:=4*(c:Int)) (by omega) (by omega),wrap64 (by omega) (by omega)];omega
  have w2:ahw.wrap (ahw.wrap (4*(c:Int))+(r:Int))=((4*c+r:Nat):Int):=by rw[wrap64 (n:=4*(c:Int)) (by omega) (by omega),wrap64 (by omega) (by omega)];omega
  have step: ∀(k:Int) (k':Int) (cf:Int) (q:Nat) (m:List Int),m.length=16->0<=k->k<4->rd 0 ([2,3,1,1]:List Int) k=cf->ahw.wrap (k+1)=k'->ahw.wrap (ahw.wrap (4*(c:Int))+(ahw.wrap ((r:Int)+k)).tmod 4)=(q:Int)->q<16->
    MZ.l0 .lim (b,[2,3,1,1],(c:Int),(r:Int),k,m,())=MZ.l0 .lim (b,[2,3,1,1],(c:Int),(r:Int),k',m.set (4*c+r) (Hz .u8 (rd 0 m ((4*c+r:Nat):Int)) (tm (rd 0 b (q:Int)) cf)),()):=by
   intro k k' cf q m hm h1 h2 h3 h4 h5 h6;rw[MZ.q0];simp only[MZ.b0,MK h2,w2,h5,hm,hb,MV (show (0:Int)<=((4*c+r:Nat):Int) by omega) (show ((4*c+r:Nat):Int)<((16:Nat):Int) by omega),MV (show (0:Int)<=(q:Int) by omega) (show (q:Int)<((16:Nat):Int) by omega),MV h1 (show k<((([2,3,1,1]:List Int).length:Nat):Int)from h2),h3,h4,Xz,ahx,cond_true,ahy]
  have g0:=h4 0 (by omega);have g1:=h4 1 (by omega);have g2:=h4 2 (by omega);have g3:=h4 3 (by omega);rw[show ((0:Nat):Int)=0 from rfl]at g0;rw[show ((1:Nat):Int)=1 from rfl]at g1;rw[show ((2:Nat):Int)=2 from rfl]at g2;rw[show ((3:Nat):Int)=3 from rfl]at g3;rw[step 0 1 2 _ _ Ur (by omega) (by omega) rfl rfl g0 (by omega)];rw[step 1 2 3 _ _ (by simp) (by omega) (by omega) rfl rfl g1 (by omega)];rw[step 2 3 1 _ _ (by simp) (by omega) (by omega) rfl rfl g2 (by omega)];rw[step 3 4 1 _ _ (by simp) (by omega) (by omega) rfl rfl g3 (by omega)];rw[MZ.q0];simp only[MZ.b0,MO (show ¬(4:Int)<4 by omega),cond_false];generalize hm:Q8 16 (4*c+r) (fun i=>rd 0 (Rx b) (i:Int))=m;have hml:m.length=16:=by rw[<-hm,Ur]
  have hl: ∀v,4*c+r<(m.set (4*c+r) v).length:=fun v=>by simp[hml];omega
  have h0:rd 0 m ((4*c+r:Nat):Int)=0:=by rw[<-hm,ab9 (by omega)]
  simp only[TQ (show 4*c+r<m.length by omega),TQ (hl _),aic,h0];rw[<-hm,RD];unfold Rx;rw[QW (by omega)];simp only[ah3]
 have inner: ∀c:Nat,c<4->MZ.l1 .lim (b,[2,3,1,1],(c:Int),0,Q8 16 (4*c) (fun i=>rd 0 (Rx b) (i:Int)),())=some (b,[2,3,1,1],(c:Int),Q8 16 (4*c+4) (fun i=>rd 0 (Rx b) (i:Int)),()):=by
  intro c hc;have e:=NU (f:=MZ.l1 .lim) (fun r=>(b,[2,3,1,1],(c:Int),(r:Int),Q8 16 (4*c+r) (fun i=>rd 0 (Rx b) (i:Int)),())) (n:=4) (fun r hr=>by
   rw[MZ.q1];simp only[MZ.b1,MK (show (r:Int)<4 by omega),cond_true,cell c r hc hr,ahx,Qz r (by omega)];rfl)
  rw[show ((0:Nat):Int)=0 from rfl,ah3]at e;rw[e,MZ.q1];simp only[MZ.b1,MO (show ¬((4:Nat):Int)<4 by decide),cond_false]
 have e:=NU (f:=MZ.l2 .lim) (fun c=>(b,[2,3,1,1],(c:Int),Q8 16 (4*c) (fun i=>rd 0 (Rx b) (i:Int)),())) (n:=4) (fun c hc=>by
  rw[MZ.q2];simp only[MZ.b2,MK (show (c:Int)<4 by omega),cond_true,inner c hc,ahx,Qz c (by omega)];rfl)
 rw[show ((0:Nat):Int)=0 from rfl,aiU,Rl]at e;simp only[MZ.run,show aiW 16 70368744177664=true from rfl,cond_true,e];rw[MZ.q2];simp only[MZ.b2,MO (show ¬((4:Nat):Int)<4 by decide),cond_false,ahx];rw[show 4*4=16 from rfl,TL,<-Xa (m:=Rx b) PX]
theorem ZT{b w w1:List Int}(hb:b.length=16)(hw:w.length=16):MP.l0 .lim (w,0,w1,b,())=some (w1,T_ b w,()):=by
 have e:=PO (f:=MP.l0 .lim) (fun k b=>(w,(k:Int),w1,b,())) (fun k v=>Hz .u8 v (rd 0 w (k:Int))) b hb (fun k hk m' hm hj=>by
  rw[MP.q0];simp only[MP.b0,MK (show (k:Int)<16 by omega),hm,hw,MV (show (0:Int)<=k by omega) (show (k:Int)<((16:Nat):Int) by omega),cond_true,Qz k (by omega),hj k (ahO _),ahy])
 refine(show _=_ from e).trans ?_;rw[MP.q0];simp only[MP.b0,MO (show ¬((16:Nat):Int)<16 by decide),cond_false];rfl
theorem Yn{b w w1:List Int}{i1:Int}(hb:b.length=16)(hw:w.length=16):MP.l2 .lim (w,0,w1,i1,b,())=some (w1,i1,T_ b w,()):=by
 have e:=PO (f:=MP.l2 .lim) (fun k b=>(w,(k:Int),w1,i1,b,())) (fun k v=>Hz .u8 v (rd 0 w (k:Int))) b hb (fun k hk m' hm hj=>by
  rw[MP.q2];simp only[MP.b2,MK (show (k:Int)<16 by omega),hm,hw,MV (show (0:Int)<=k by omega) (show (k:Int)<((16:Nat):Int) by omega),cond_true,Qz k (by omega),hj k (ahO _),ahy])
 refine(show _=_ from e).trans ?_;rw[MP.q2];simp only[MP.b2,MO (show ¬((16:Nat):Int)<16 by decide),cond_false];rfl
theorem aa8{b w:List Int}{i:Int}(hb:VH b):MP.l1 .lim (w,i,0,b,())=some (w,i,tab 16 (fun i=>VB (rd 0 b (i:Int))),()):=by
 have e:=PO (f:=MP.l1 .lim) (fun k b=>(w,i,(k:Int),b,())) (fun k v=>VB v) b hb.1 (fun k hk m' hm hj=>by
  rw[MP.q1];simp only[MP.b1,MK (show (k:Int)<16 by omega),hm,MV (show (0:Int)<=k by omega) (show (k:Int)<((16:Nat):Int) by omega),cond_true,Qz k (by omega),hj k (ahO _),Vf (hb.at hk),ahx,ahy])
 refine(show _=_ from e).trans ?_;rw[MP.q1];simp only[MP.b1,MO (show ¬((16:Nat):Int)<16 by decide),cond_false]
theorem Z7(b:List Int):(tab 16 fun i=>rd 0 (tab 16 fun i=>VB (rd 0 b (i:Int))) (((i+4*(i%4))%16:Nat):Int))=SL b:=P6 fun k hk=>by rw[QW (by omega)]
theorem Ym{W:List (List Int)}{b:List Int}{r:Nat}(hW:Words W)(hl:W.length=4*(r+1))(hr:r<=100)(hr0:0<r)(hb:b.length=16):MP.run .lim (W.flatten,b,())=some (SB W b r):=by
 have hfl:=TF hW;have h0:=X_ hW (j:=0) (by omega);rw[show ((16*0:Nat):Int)=0 from rfl,show ((16*0+16:Nat):Int)=16 from rfl]at h0;have e:=NU (f:=MP.l3 .lim) (fun k=>(W.flatten,((16*(k+1):Nat):Int),SB W b k,())) (n:=r) (fun k hk=>by
  rw[MP.q3];have hB:=V8 W b k;have hc:=X_ hW (j:=k+1) (by omega);have hkl:=Vd hW (j:=k+1) (by omega);have w1:ahw.wrap (((16*(k+1):Nat):Int)+16)=((16*(k+1)+16:Nat):Int):=by rw[wrap64 (by omega) (by omega)];omega
  have hlast:decide (((16*(k+1)+16:Nat):Int)<(W.flatten.length:Int))= !decide (k+2=W.length/4):=by
   by_cases h:k+1=r
   ·rw[MO (by omega),MK (by omega)];rfl
   ·rw[MK (by omega),MO (by omega)];rfl
  simp only[MP.b3,MR (show W.flatten.length<9223372036854775808 by omega),MK (show ((16*(k+1):Nat):Int)<(W.flatten.length:Int) by omega),cond_true,aa8 hB,ahx,aae PX,Z7,w1,hlast,M_ (show (0:Int)<=((16*(k+1):Nat):Int) by omega) (show ((16*(k+1):Nat):Int)<=((16*(k+1)+16:Nat):Int) by omega) (show ((16*(k+1)+16:Nat):Int)<=(W.flatten.length:Int) by omega),hc];have hsl:(SL (SB W b k)).length=16:=PX;have hml:(Rx (SL (SB W b k))).length=16:=PX;show _=MP.l3 .lim (W.flatten,((16*(k+1+1):Nat):Int),YO (decide (k+2=W.length/4)) (SB W b k) (SH W (k+1)),());unfold YO;cases decide (k+2=W.length/4)with
  |true=>
   simp only[ahD,cond_false,cond_true];rw[Yn hsl hkl];simp only[ahx,w1];rfl
  |false=>
   simp only[ahF,cond_false,cond_true,aaN hsl,ahx];rw[Yn hml hkl];simp only[ahx,w1];rfl)
 simp only[MP.run];rw[cond_pos (M_ (by omega) (by omega) (by omega)),h0,ZT hb (Vd hW (by omega))];simp only[ahx];rw[show SB W b 0=T_ b (SH W 0)from rfl,show ((16*(0+1):Nat):Int)=16 from rfl]at e;rw[e,MP.q3];simp only[MP.b3,MR (show W.flatten.length<9223372036854775808 by omega),MO (show ¬((16*(r+1):Nat):Int)<(W.flatten.length:Int) by omega),cond_true,cond_false,ahx]
theorem Zc{key b:List Int}(hk:key.length=16\/key.length=32)(hb: ∀x∈key,B8 x)(hl:b.length=16):MP.run .lim ((Qs key).flatten,b,())=some (encS key b):=by
 have h1:=TA key;rw[Ym (r:=key.length/4+6) (Ut key hb) (by omega) (by omega) (by omega) hl];unfold encS;rw[show (Qs key).length/4-1=key.length/4+6 by omega]
end Go.AM
end
section
namespace Go.AM
section
variable {ok:Bool} {n dn mu sm four nk x i t t1 t2 tp tq:Int} {key b tw ta out K was kb T sb bk:List Int} {yb W rn:List (List Int)} {last:Bool}
theorem ads(i:Nat)(hi:i<256):MN.l0 .lim ((i:Int),t,7,0,ok,key,dn,mu,sm,sb,bk,yb,kL,b,tw,())=some (t,ok,key,dn,mu,sm,sb,bk,VP i yb 7,b,tw,()):=by
 have e:=NU (f:=MN.l0 .lim) (fun k=>((i:Int),t,7,(k:Int),ok,key,dn,mu,sm,sb,bk,VP i yb k,kL,b,tw,())) (n:=7) (fun k hk=>by
  rw[MN.q0];obtain⟨h1,h2⟩:=acI k hk;have hB:B8 (rd 0 kL (k:Int)):=⟨h1,by omega⟩;have ZG:B8 (i:Int):=⟨by omega,by omega⟩;simp only[MN.b0,MK (show (k:Int)<7 by omega),MV (show (0:Int)<=k by omega) (show (k:Int)<(kL.length:Int)from show (k:Int)<7 by omega),R_ ZG,RV ZG hB,ahx,MV h1 (show rd 0 kL (k:Int)<16 from h2),MV (show (0:Int)<=i by omega) (show (i:Int)<256 by omega),cond_true,Qz k (by omega),ahy];rfl)
 refine e.trans ?_;rw[MN.q0];simp only[MN.b0,MO (show ¬((7:Nat):Int)<7 by decide),cond_false]
theorem aal:MN.l1 .lim (0,ok,key,dn,mu,sm,Oq,Oq,ahz 16 Oq,b,tw,())=some (ok,key,dn,mu,sm,Q_ 256,Vs 256,Oe 256,b,tw,()):=by
 have e:=NU (f:=MN.l1 .lim) (fun k=>((k:Int),ok,key,dn,mu,sm,Q_ k,Vs k,Oe k,b,tw,())) (n:=256) (fun k hk=>by
  rw[MN.q1];have ZG:B8 (k:Int):=⟨by omega,by omega⟩;have hs:=Zl ZG;have hm:=fun sb bk=>ads (ok:=ok) (key:=key) (dn:=dn) (mu:=mu) (sm:=sm) (sb:=sb) (bk:=bk) (yb:=Oe k) (b:=b) (tw:=tw) (t:=(k:Int))  k hk
  simp only[MN.b1,MK (show (k:Int)<256 by omega),R_ ZG,Y3 ZG,ahx,MV (show (0:Int)<=k by omega) (show (k:Int)<256 by omega),MV hs.1 hs.2,cond_true,show ((([1,2,3,9,11,13,14]:List Int).length:Nat):Int)=7 from rfl,Nh (show (7:Int)<9223372036854775808 by omega),hm,Qz k (by omega),Zh];rw[show (Q_ k).set ((k:Int)).toNat (VB k)=Q_ (k+1)from RD rfl];rfl)
 rw[show Q_ 0=Oq from Rl,WV,show Vs 0=Oq from rfl,show ((0:Nat):Int)=0 from rfl]at e;refine e.trans ?_;rw[MN.q1];simp only[MN.b1,MO (show ¬((256:Nat):Int)<256 by decide),cond_false]
theorem abt{q:Nat}(hk:kb.length=4*q)(hq:q<=100):MN.l2 .lim (0,nk,ok,4,key,dn,mu,sm,sb,bk,yb,b,tw,kb,[],())=some (nk,ok,key,dn,mu,sm,sb,bk,yb,b,tw,(ahQ q).map (word kb),()):=by
 have e:=NU (f:=MN.l2 .lim) (fun k=>(((4*k:Nat):Int),nk,ok,4,key,dn,mu,sm,sb,bk,yb,b,tw,kb,(ahQ k).map (word kb),())) (n:=q) (fun k hkq=>by
  rw[MN.q2];have w1:ahw.wrap (((4*k:Nat):Int)+4)=((4*k+4:Nat):Int):=by rw[wrap64 (by omega) (by omega)];omega
  have w2:mn 4 ((kb.length:Int)-((4*k:Nat):Int))=4:=by rw[OH];omega
  have w3:(cut kb ((4*k:Nat):Int) ((4*k+4:Nat):Int)).length=4:=by rw[QM,ahG,ahI];omega
  have w4:(ah_ 1 4&&ah_ 4 (cut kb ((4*k:Nat):Int) ((4*k+4:Nat):Int)).length)=true:=by rw[w3];rfl
  simp only[MN.b2,Nh (show (kb.length:Int)<9223372036854775808 by omega),MK (show ((4*k:Nat):Int)<(kb.length:Int) by omega),M_ (show (0:Int)<=((4*k:Nat):Int) by omega) (show ((4*k:Nat):Int)<=(kb.length:Int) by omega) (ahW _),Nh (show (kb.length:Int)-((4*k:Nat):Int)<9223372036854775808 by omega),w2,w1,M_ (show (0:Int)<=((4*k:Nat):Int) by omega) (show ((4*k:Nat):Int)<=((4*k+4:Nat):Int) by omega) (ahW _),MK (show ((4*k+4:Nat):Int)<=(kb.length:Int) by omega),ahL,w4,cond_true];rw[cond_pos (by simp;omega),Ya (by omega)];simp only[ah9,ah8,aip,aiu];rfl)
 refine e.trans ?_;rw[MN.q2];simp only[MN.b2,Nh (show (kb.length:Int)<9223372036854775808 by omega),MO (show ¬((4*q:Nat):Int)<(kb.length:Int) by omega),cond_true,cond_false]
theorem adt(hW:Words W){i nk:Nat}(h1:nk<=i)(h2:i<=W.length)(h3:0<nk)(h4:i<1000)(hT:T.length=4):MN.l3 .lim ((nk:Int),x,(i:Int),0,ok,T,key,dn,mu,sm,sb,bk,yb,b,tw,W,())=some ((nk:Int),x,(i:Int),ok,Xf T (rd z4 W ((i-nk:Nat):Int)),key,dn,mu,sm,sb,bk,yb,b,tw,W,()):=by
 have w:ahw.wrap ((i:Int)-(nk:Int))=((i-nk:Nat):Int):=by rw[wrap64 (by omega) (by omega)];omega
 have e:=PO (f:=MN.l3 .lim) (fun k T=>((nk:Int),x,(i:Int),(k:Int),ok,T,key,dn,mu,sm,sb,bk,yb,b,tw,W,())) (fun k v=>Hz .u8 v (rd 0 (rd z4 W ((i-nk:Nat):Int)) (k:Int))) T hT (fun k hk m' hm hj=>by
  rw[MN.q3];simp only[MN.b3,MK (show (k:Int)<4 by omega),MV (show (0:Int)<=k by omega) (show (k:Int)<4 by omega),w,MV (show (0:Int)<=((i-nk:Nat):Int) by omega) (show ((i-nk:Nat):Int)<(W.length:Int) by omega),cond_true,Qz k (by omega),hj k (ahO _),ahy])
 refine e.trans ?_;rw[MN.q3];simp only[MN.b3,MO (show ¬((4:Nat):Int)<4 by decide),cond_false];rfl
end
end Go.AM
end
section
namespace Go.AM
section
variable {ok:Bool} {n dn mu sm four x i t t1 t2 tp tq:Int} {key b tw ta out K was kb T sb bk:List Int} {yb W rn:List (List Int)} {last:Bool}
theorem acQ(a b c d:Int):((((ahz 4 (0:Int)).set 0 a).set 1 b).set 2 c).set 3 d=[a,b,c,d]:=rfl
theorem abu{nk:Nat}(hn:nk=4\/nk=8)(hk:4*nk<=kb.length)(hb: ∀x∈kb,B8 x):
  MN.l4 .lim ((nk:Int),1,(nk:Int),ok,key,dn,mu,sm,Q_ 256,bk,yb,b,tw,(ahQ nk).map (word kb),())=some (ok,key,dn,mu,sm,Q_ 256,bk,yb,b,tw,(sched nk kb (3*nk+28)).1,()):=by
 have e:=NU (f:=MN.l4 .lim) (fun k=>((nk:Int),(sched nk kb k).2,((nk+k:Nat):Int),ok,key,dn,mu,sm,Q_ 256,bk,yb,b,tw,(sched nk kb k).1,())) (n:=3*nk+28) (fun k hkq=>by
  rw[MN.q4];obtain⟨hW,hx⟩:=Ul nk kb hk hb k;have hl:=TJ nk kb k;have hs:sched nk kb (k+1)=stepW nk (sched nk kb k):=rfl;rw[hs];unfold stepW;generalize hq:sched nk kb k=q at hW hx hl;obtain⟨W,x⟩:=q;simp only at hW hx hl ⊢
  have hi0:nk+k<1000:=by omega
  generalize hi:nk+k=i at hl hi0;have hw:=hW.at (show i-1<W.length by omega);have hb0:=hW.byte (show i-1<W.length by omega) (j:=0) (by omega) (by omega);have hb1:=hW.byte (show i-1<W.length by omega) (j:=1) (by omega) (by omega);have hb2:=hW.byte (show i-1<W.length by omega) (j:=2) (by omega) (by omega);have hb3:=hW.byte (show i-1<W.length by omega) (j:=3) (by omega) (by omega);have w1:ahw.wrap (4*ahw.wrap ((nk:Int)+7))=((4*nk+28:Nat):Int):=by rw[wrap64 (n:=(nk:Int)+7) (by omega) (by omega),wrap64 (by omega) (by omega)];omega
  have w2:ahw.wrap ((i:Int)-1)=((i-1:Nat):Int):=by rw[wrap64 (by omega) (by omega)];omega
  have m1:((i:Int)).tmod (nk:Int)=((i%nk:Nat):Int):=by rw[ahA (ahB i)];simp
  have m2:((i:Int)).tmod 8=((i%8:Nat):Int):=by rw[ahA (ahB i)];simp
  have WH:=fun x T hT=>adt (ok:=ok) (key:=key) (dn:=dn) (mu:=mu) (sm:=sm) (sb:=Q_ 256) (bk:=bk) (yb:=yb) (b:=b) (tw:=tw) (x:=x) (T:=T)  hW (i:=i) (nk:=nk) (by omega) (by omega) (by omega) (by omega) hT
  have cap: ∀T:List Int,decide (W.length+([T]:List (List Int)).length<17592186044416)=true:=fun T=>MK (by simp;omega)
  simp only[MN.b4,w1,MK (show (i:Int)<((4*nk+28:Nat):Int) by omega),w2,MV (show (0:Int)<=((i-1:Nat):Int) by omega) (show ((i-1:Nat):Int)<(W.length:Int) by omega),MO (show ¬(nk:Int)=0 by omega),m1,m2,cond_true,ahF,MV hb0.1 hb0.2,MV hb1.1 hb1.2,MV hb2.1 hb2.2,MV hb3.1 hb3.2,Tt hb0,Tt hb1,Tt hb2,Tt hb3,acQ,ahK];rw[hl];unfold Zu;by_cases c1:i%nk=0
  ·rw[MK (show ((i%nk:Nat):Int)=0 by omega),if_pos c1,if_pos c1];simp only[cond_true,RV hx (show B8 2 from⟨by decide,by decide⟩),ahx];rw[WH _ _ rfl];simp only[ahx];rw[cond_pos (by simp;omega),Qz i (by omega)];rw[show i+1=nk+(k+1) by omega]
  ·rw[MO (show ¬((i%nk:Nat):Int)=0 by omega),if_neg c1,if_neg c1];simp only[cond_false];by_cases c2:nk=8/\i%8=4
   ·rw[MK (show (nk:Int)=8 by omega),MK (show ((i%8:Nat):Int)=4 by omega),if_pos c2];simp only[ahL,cond_true];rw[WH _ _ rfl];simp only[ahx];rw[cond_pos (by simp;omega),Qz i (by omega)];rw[show i+1=nk+(k+1) by omega]
   ·have:(decide ((nk:Int)=8)&&decide (((i%8:Nat):Int)=4))=false:=by
     by_cases c3:nk=8
     ·rw[MO (show ¬((i%8:Nat):Int)=4 by omega),ahR]
     ·rw[MO (show ¬(nk:Int)=8 by omega),ahY]
    rw[this,if_neg c2];simp only[cond_false];rw[WH _ _ hw.1];simp only[ahx];rw[cond_pos (by simp;omega),Qz i (by omega),<-list4 hw.1];rw[show i+1=nk+(k+1) by omega])
 refine(show _=_ from e).trans ?_;rw[MN.q4];have w1:ahw.wrap (4*ahw.wrap ((nk:Int)+7))=((4*nk+28:Nat):Int):=by rw[wrap64 (n:=(nk:Int)+7) (by omega) (by omega),wrap64 (by omega) (by omega)];omega
 simp only[MN.b4,w1,MO (show ¬((nk+(3*nk+28):Nat):Int)<((4*nk+28:Nat):Int) by omega),cond_false]
end
end Go.AM
end
section
namespace Go.AM
theorem XF{l:List (List Int)}{k:Nat}(h:k<l.length):(l.take (k+1)).flatten=(l.take k).flatten++rd [] l (k:Int):=by rw[Vk (d:=([]:List Int)) h,aiB];simp
theorem Vj(l:List (List Int))(k:Nat):(l.take k).flatten.length<=l.flatten.length:=by
 have:l.flatten=(l.take k).flatten++(l.drop k).flatten:=by rw[<-aiB,ahT]
 rw[this,ahE];omega
theorem Xr(l:List (List Int))(h:l.flatten.length<=1000000)(hl:l.length<=1000000):MX.run .lim (l,())=some l.flatten:=by
 have e:=NU (f:=MX.l0 .lim) (fun k=>(l,(((l.take k).flatten.length:Nat):Int),l,(l.length:Int),(k:Int),())) (n:=l.length) (fun k hk=>by
  rw[MX.q0];have h1:=XF hk;have h2:=Vj l (k+1);rw[h1,ahE]at h2;have w:ahw.wrap ((((l.take k).flatten.length:Nat):Int)+((rd ([]:List Int) l (k:Int)).length:Int))=(((l.take (k+1)).flatten.length:Nat):Int):=by rw[wrap64 (by omega) (by omega),h1,ahE];omega
  simp only[MX.b0,MK (show (k:Int)<(l.length:Int) by omega),MV (show (0:Int)<=k by omega) (show (k:Int)<(l.length:Int) by omega),MR (show (rd ([]:List Int) l (k:Int)).length<9223372036854775808 by omega),w,MO (show ¬((((l.take (k+1)).flatten.length:Nat):Int)<0) by omega),cond_true,cond_false,Qz k (by omega)])
 have e1:=fun N:Nat=>fun hN:N=l.flatten.length=>NU (f:=MX.l1 .lim) (fun k=>((((l.take k).flatten.length:Nat):Int),l,(l.length:Int),(k:Int),(l.take k).flatten++ahz (N-(l.take k).flatten.length) 0,())) (n:=l.length) (fun k hk=>by
  rw[MX.q1];have h1:=XF hk;have h2:=Vj l (k+1);rw[h1,ahE]at h2;simp only[MX.b1,MK (show (k:Int)<(l.length:Int) by omega),MV (show (0:Int)<=k by omega) (show (k:Int)<(l.length:Int) by omega),cond_true,Qz k (by omega),ahy];have hc:(decide (((l.take k).flatten++ahz (N-(l.take k).flatten.length) (0:Int)).length+(rd ([]:List Int) l (k:Int)).length<70368744177664)&&decide (0<=(((l.take k).flatten.length:Nat):Int)))=true:=by rw[ahE,ais,MK (by omega),MK (by omega)];rfl
  rw[cond_pos hc,h1,ahE];have e3:((((l.take k).flatten.length:Nat):Int)+((rd ([]:List Int) l (k:Int)).length:Int))=(((l.take k).flatten.length+(rd ([]:List Int) l (k:Int)).length:Nat):Int):=by omega
  rw[e3,List.take_append_of_le_length (ahO _),ahM,List.drop_append,List.drop_eq_nil_of_le (by omega),List.nil_append,List.drop_replicate,ah2];have e4:N-(l.take k).flatten.length-((l.take k).flatten.length+(rd ([]:List Int) l (k:Int)).length-(l.take k).flatten.length)=N-((l.take k).flatten.length+(rd ([]:List Int) l (k:Int)).length):=by omega
  rw[e4])
 rw[ahM,aiA,show ((([]:List (List Int)).flatten.length:Nat):Int)=0 from rfl,show ((0:Nat):Int)=0 from rfl]at e;have ee:MX.l0 .lim (l,((l.flatten.length:Nat):Int),l,(l.length:Int),(l.length:Int),())=some (l,((l.flatten.length:Nat):Int),()):=by
  rw[MX.q0];simp only[MX.b0,MO (show ¬(l.length:Int)<(l.length:Int) by omega),cond_false]
 have ee1: ∀m,MX.l1 .lim (((l.flatten.length:Nat):Int),l,(l.length:Int),(l.length:Int),m,())=some (((l.flatten.length:Nat):Int),m,()):=fun m=>by
  rw[MX.q1];simp only[MX.b1,MO (show ¬(l.length:Int)<(l.length:Int) by omega),cond_false]
 have e2:MX.l1 .lim (0,l,(l.length:Int),0,ahz l.flatten.length 0,())=some (((l.flatten.length:Nat):Int),l.flatten,()):=by
  have:=e1 _ rfl;rw[ahM,aiA,Nat.sub_self,aiC,aiJ]at this;exact this.trans (ee1 _)
 simp only[MX.run,MR (show l.length<9223372036854775808 by omega),cond_true,e,ee,ahx,aiS,MO (show ¬((l.flatten.length:Nat):Int)<0 by omega),cond_false,wrap64 (show-9223372036854775808<=((l.flatten.length:Nat):Int) by omega) (show ((l.flatten.length:Nat):Int)<9223372036854775808 by omega),ahy];by_cases h0:l.flatten.length=0
 ·rw[MO (show ¬((l.flatten.length:Nat):Int)>0 by omega)];rw[h0,aiC]at e2;simp only[cond_false];rw[e2];simp[ahX.1 h0]
 ·rw[MK (show ((l.flatten.length:Nat):Int)>0 by omega)];have hb:aiW l.flatten.length 70368744177664=true:=by rw[Nat.blt_eq];omega
  simp only[cond_true,MK (show (0:Int)<=((l.flatten.length:Nat):Int) by omega),hb,ahL,e2,ahx,ahZ,ahy,ahM];rw[cond_pos (M_ (ahW 0) (ahW 0) (ahB _))]
end Go.AM
end
section
namespace Go.AM
section
variable {ok:Bool} {n dn mu sm four x i t t1 t2 tp tq:Int} {key b tw ta out K was kb T sb bk:List Int} {yb W rn:List (List Int)} {last:Bool}
theorem aak{q:Nat}(hW:Words W)(hl:W.length=4*q)(hq:q<=100):MN.l5 .lim (0,ok,4,key,dn,mu,sm,sb,bk,yb,b,tw,W,[],())=some (ok,key,dn,mu,sm,sb,bk,yb,b,tw,Ph W,()):=by
 have e:=NU (f:=MN.l5 .lim) (fun k=>(((4*k:Nat):Int),ok,4,key,dn,mu,sm,sb,bk,yb,b,tw,W,(ahQ k).map (SH W),())) (n:=q) (fun k hkq=>by
  rw[MN.q5];have w1:ahw.wrap (((4*k:Nat):Int)+4)=((4*k+4:Nat):Int):=by rw[wrap64 (by omega) (by omega)];omega
  have w2:mn 4 ((W.length:Int)-((4*k:Nat):Int))=4:=by rw[OH];omega
  have w3:(cut W ((4*k:Nat):Int) ((4*k+4:Nat):Int)).length=4:=by rw[QM,ahG,ahI];omega
  have at_: ∀j:Nat,j<4->rd z4 (cut W ((4*k:Nat):Int) ((4*k+4:Nat):Int)) (j:Int)=rd z4 W ((4*k+j:Nat):Int):=fun j hj=>by
   rw[QM];unfold rd;rw[ahy,ahy,ahH,ahH,aij (by omega),aiD]
  have a0:rd z4 (cut W ((4*k:Nat):Int) ((4*k+4:Nat):Int)) 0=rd z4 W ((4*k:Nat):Int):=at_ 0 (by omega);have a1:rd z4 (cut W ((4*k:Nat):Int) ((4*k+4:Nat):Int)) 1=rd z4 W ((4*k+1:Nat):Int):=at_ 1 (by omega);have a2:rd z4 (cut W ((4*k:Nat):Int) ((4*k+4:Nat):Int)) 2=rd z4 W ((4*k+2:Nat):Int):=at_ 2 (by omega);have a3:rd z4 (cut W ((4*k:Nat):Int) ((4*k+4:Nat):Int)) 3=rd z4 W ((4*k+3:Nat):Int):=at_ 3 (by omega);have c4: ∀l:List Int,l.length=4->cut l 0 4=l:=fun l hl=>by
   have:=QM l 0 4;rw[show ((0:Nat):Int)=0 from rfl,show ((4:Nat):Int)=4 from rfl]at this;rw[this,ahZ,ahJ (by omega)]
  have l0:=(hW.at (show 4*k<W.length by omega)).1;have l1:=(hW.at (show 4*k+1<W.length by omega)).1;have l2:=(hW.at (show 4*k+2<W.length by omega)).1;have l3:=(hW.at (show 4*k+3<W.length by omega)).1;have hfl:[rd z4 W ((4*k:Nat):Int),rd z4 W ((4*k+1:Nat):Int),rd z4 W ((4*k+2:Nat):Int),rd z4 W ((4*k+3:Nat):Int)].flatten=SH W k:=by simp[SH]
  have hrl:=Vd hW (j:=k) (by omega);have qL:=Xr [rd z4 W ((4*k:Nat):Int),rd z4 W ((4*k+1:Nat):Int),rd z4 W ((4*k+2:Nat):Int),rd z4 W ((4*k+3:Nat):Int)] (by rw[hfl,hrl];omega) (by simp);rw[hfl]at qL;simp only[MN.b5,Nh (show (W.length:Int)<9223372036854775808 by omega),MK (show ((4*k:Nat):Int)<(W.length:Int) by omega),M_ (show (0:Int)<=((4*k:Nat):Int) by omega) (show ((4*k:Nat):Int)<=(W.length:Int) by omega) (ahW _),Nh (show (W.length:Int)-((4*k:Nat):Int)<9223372036854775808 by omega),w2,w1,M_ (show (0:Int)<=((4*k:Nat):Int) by omega) (show ((4*k:Nat):Int)<=((4*k+4:Nat):Int) by omega) (ahW _),MK (show ((4*k+4:Nat):Int)<=(W.length:Int) by omega),ahL,w3,cond_true,MV (show (0:Int)<=0 by omega) (show (0:Int)<((4:Nat):Int) by decide),MV (show (0:Int)<=1 by omega) (show (1:Int)<((4:Nat):Int) by decide),MV (show (0:Int)<=2 by omega) (show (2:Int)<((4:Nat):Int) by decide),MV (show (0:Int)<=3 by omega) (show (3:Int)<((4:Nat):Int) by decide),a0,a1,a2,a3,c4 _ l0,c4 _ l1,c4 _ l2,c4 _ l3,qL,ahx,hrl,ahJ (aiT hrl)];rw[show (ah_ 1 16&&ah_ 16 16)=true from rfl,cond_true,cond_pos (by simp;omega)];simp only[ah9,ah8,aip,aiu];rfl)
 refine(show _=_ from e).trans ?_;rw[MN.q5];simp only[MN.b5,Nh (show (W.length:Int)<9223372036854775808 by omega),MO (show ¬((4*q:Nat):Int)<(W.length:Int) by omega),cond_true,cond_false];unfold Ph;rw[hl,aiq _ (by omega)]
theorem abq(hk:key.length=16\/key.length=32)(hb: ∀x∈key,B8 x):MN.l6 .lim (key,0,0,sm,Oq,Oq,ahz 16 Oq,b,tw,())=some (b,tw,key,1,0,sm,Q_ 256,Vs 256,Oe 256,Ph (Qs key),()):=by
 have h0:MN.l6 .lim (key,0,0,sm,Oq,Oq,ahz 16 Oq,b,tw,())=MN.b6 .lim (MN.l6 .lim) (key,0,0,sm,Oq,Oq,ahz 16 Oq,b,tw,()):=MN.q6 _;rw[h0];have hd:(key.length:Int).tdiv 4=((key.length/4:Nat):Int):=by rw[ahP (ahB _)];simp
 have w1:ahw.wrap ((key.length:Int).tdiv 4)=((key.length/4:Nat):Int):=by rw[hd,wrap64 (by omega) (by omega)]
 have t:=aal (ok:=true) (key:=key) (dn:=0) (mu:=1) (sm:=sm) (b:=b) (tw:=tw);have s:=abt (kb:=key) (q:=key.length/4) (nk:=((key.length/4:Nat):Int)) (ok:=true) (key:=key) (dn:=0) (mu:=1) (sm:=sm) (sb:=Q_ 256) (bk:=Vs 256) (yb:=Oe 256) (b:=b) (tw:=tw)  (by omega) (by omega);have w:=abu (kb:=key) (nk:=key.length/4) (ok:=true) (key:=key) (dn:=0) (mu:=1) (sm:=sm) (bk:=Vs 256) (yb:=Oe 256) (b:=b) (tw:=tw)  (by omega) (by omega) hb;have r:=aak (W:=Qs key) (q:=key.length/4+7) (ok:=true) (key:=key) (dn:=0) (mu:=1) (sm:=sm) (sb:=Q_ 256) (bk:=Vs 256) (yb:=Oe 256) (b:=b) (tw:=tw)  (Ut key hb) (by rw[TA];omega) (by omega);have hs:PN.run .lim (true,())=some 1:=rfl;have hw:(sched (key.length/4) key (3*(key.length/4)+28)).1=Qs key:=rfl;simp only[MN.b6,decide_true,ahD,ahF,cond_true,t,ahx,Nh (show (key.length:Int)<9223372036854775808 by omega),w1];rw[s];simp only[ahx];rw[w];simp only[ahx];rw[hw,r];simp only[ahx,hs,show aiV.wrap (1+ -1)=0 from by decide,decide_true,ahD,cond_false]
end
end Go.AM
end
section
namespace Go.AM
section
variable {ok:Bool} {n dn mu sm four x i t t1 t2 tp tq:Int} {key b tw ta out K was kb T sb bk:List Int} {yb W rn:List (List Int)} {last:Bool}
theorem abp(hb:b.length=16):MN.l7 .lim (0,b,K,tw,key,dn,mu,sm,sb,bk,yb,rn,())=some (T_ b K,tw,key,dn,mu,sm,sb,bk,yb,rn,()):=by
 have e:=PO (f:=MN.l7 .lim) (fun k b=>((k:Int),b,K,tw,key,dn,mu,sm,sb,bk,yb,rn,())) (fun k v=>Hz .u8 v (rd 0 K (k:Int))) b hb (fun k hk m' hm hj=>by
  rw[MN.q7];simp only[MN.b7,MK (show (k:Int)<16 by omega),MV (show (0:Int)<=k by omega) (show (k:Int)<16 by omega),cond_true,Qz k (by omega),hj k (ahO _),ahy])
 refine(show _=_ from e).trans ?_;rw[MN.q7];simp only[MN.b7,MO (show ¬((16:Nat):Int)<16 by decide),cond_false];rfl
theorem aai(hb:VH b):MN.l8 .lim (0,last,tp,tq,t1,t2,b,key,dn,mu,sm,Q_ 256,bk,yb,K,rn,tw,())=some (last,tp,tq,t1,t2,tab 16 fun i=>VB (rd 0 b (i:Int)),K,rn,tw,key,dn,mu,sm,Q_ 256,bk,yb,()):=by
 have e:=PO (f:=MN.l8 .lim) (fun k b=>((k:Int),last,tp,tq,t1,t2,b,key,dn,mu,sm,Q_ 256,bk,yb,K,rn,tw,())) (fun k v=>VB v) b hb.1 (fun k hk m' hm hj=>by
  rw[MN.q8];have h:=hb.at hk;simp only[MN.b8,MK (show (k:Int)<16 by omega),MV (show (0:Int)<=k by omega) (show (k:Int)<16 by omega),cond_true,Qz k (by omega),hj k (ahO _),MV h.1 h.2,Tt h,ahy])
 refine(show _=_ from e).trans ?_;rw[MN.q8];simp only[MN.b8,MO (show ¬((16:Nat):Int)<16 by decide),cond_false]
theorem acS(hb:b.length=16):MN.l9 .lim (4,0,last,tp,tq,t1,t2,b,was,K,rn,tw,key,dn,mu,sm,sb,bk,yb,())=some (last,tp,tq,t1,t2,tab 16 fun i=>rd 0 was (((i+4*(i%4))%16:Nat):Int),K,rn,tw,key,dn,mu,sm,sb,bk,yb,()):=by
 have e:=PO (f:=MN.l9 .lim) (fun k b=>(4,(k:Int),last,tp,tq,t1,t2,b,was,K,rn,tw,key,dn,mu,sm,sb,bk,yb,())) (fun k v=>rd 0 was (((k+4*(k%4))%16:Nat):Int)) b hb (fun k hk m' hm hj=>by
  rw[MN.q9];have m1:((k:Int)).tmod 4=((k%4:Nat):Int):=by rw[ahA (ahB k)];simp
  have w1:ahw.wrap (4*(k:Int).tmod 4)=((4*(k%4):Nat):Int):=by rw[m1,wrap64 (by omega) (by omega)];omega
  have w2:ahw.wrap ((k:Int)+((4*(k%4):Nat):Int))=((k+4*(k%4):Nat):Int):=by rw[wrap64 (by omega) (by omega)];omega
  have w3:ahw.wrap (((k+4*(k%4):Nat):Int)+64)=((k+4*(k%4)+64:Nat):Int):=by rw[wrap64 (by omega) (by omega)];omega
  have m2:(((k+4*(k%4)+64:Nat):Int)).tmod 16=(((k+4*(k%4))%16:Nat):Int):=by rw[ahA (ahB _)];omega
  simp only[MN.b9,MK (show (k:Int)<16 by omega),MV (show (0:Int)<=k by omega) (show (k:Int)<16 by omega),cond_true,Qz k (by omega),w1,w2,w3,m2,MV (show (0:Int)<=(((k+4*(k%4))%16:Nat):Int) by omega) (show (((k+4*(k%4))%16:Nat):Int)<16 by omega),ahy])
 refine(show _=_ from e).trans ?_;rw[MN.q9];simp only[MN.b9,MO (show ¬((16:Nat):Int)<16 by decide),cond_false]
abbrev Si:List Int:=[2,3,1,1]
theorem acP(hw:VH was){i:Nat}(hi:i<16)(hb:b.length=16)(h0:rd 0 b (i:Int)=0):MN.l10 .lim ((i:Int),t,Si,0,tp,tq,t1,t2,key,dn,mu,sm,sb,bk,Oe 256,b,Si,was,K,rn,tw,())=some (t,tp,tq,t1,t2,key,dn,mu,sm,sb,bk,Oe 256,b.set i (rd 0 (Rx was) (i:Int)),Si,was,K,rn,tw,()):=by
 have h4: ∀j:Nat,j<4->ahw.wrap (ahw.wrap (ahw.wrap ((i:Int).tdiv 4)*4)+(ahw.wrap ((i:Int)+(j:Int))).tmod 4)=((i/4*4+(i+j)%4:Nat):Int):=by
  intro j hj;have d1:((i:Int)).tdiv 4=((i/4:Nat):Int):=by rw[ahP (ahB i)];simp
  have d2:ahw.wrap ((i:Int)+(j:Int))=((i+j:Nat):Int):=by rw[wrap64 (by omega) (by omega)];omega
  have d3:(((i+j:Nat):Int)).tmod 4=(((i+j)%4:Nat):Int):=by rw[ahA (ahB _)];simp
  rw[d1,d2,d3,wrap64 (n:=((i/4:Nat):Int)) (by omega) (by omega),wrap64 (n:=((i/4:Nat):Int)*4) (by omega) (by omega),wrap64 (by omega) (by omega)];omega
 have hB: ∀j:Nat,j<4->B8 (rd 0 was ((i/4*4+(i+j)%4:Nat):Int)):=fun j hj=>hw.at (by omega)
 have g0:=h4 0 (by omega);have g1:=h4 1 (by omega);have g2:=h4 2 (by omega);have g3:=h4 3 (by omega);have b0:=hB 0 (by omega);have b1:=hB 1 (by omega);have b2:=hB 2 (by omega);have b3:=hB 3 (by omega);rw[show ((0:Nat):Int)=0 from rfl]at g0;rw[show ((1:Nat):Int)=1 from rfl]at g1;rw[show ((2:Nat):Int)=2 from rfl]at g2;rw[show ((3:Nat):Int)=3 from rfl]at g3;have r0:=(Tf b0).2.1;have r1:=(Tf b1).2.2;have r2:=(Tf b2).1;have r3:=(Tf b3).1;have step: ∀(c:Int) (j j':Int) (q:Nat) (v:Int) (bb:List Int),bb.length=16->0<=j->j<4->rd 0 Si j=c->0<=c->c<16->ahw.wrap (j+1)=j'->ahw.wrap (ahw.wrap (ahw.wrap ((i:Int).tdiv 4)*4)+(ahw.wrap ((i:Int)+j)).tmod 4)=(q:Int)->q<16->rd 0 (rd Oq (Oe 256) c) (rd 0 was (q:Int))=v->B8 (rd 0 was (q:Int))->
   MN.l10 .lim ((i:Int),t,Si,j,tp,tq,t1,t2,key,dn,mu,sm,sb,bk,Oe 256,bb,Si,was,K,rn,tw,())=MN.l10 .lim ((i:Int),t,Si,j',tp,tq,t1,t2,key,dn,mu,sm,sb,bk,Oe 256,bb.set i (Hz .u8 (rd 0 bb (i:Int)) v),Si,was,K,rn,tw,()):=by
  intro c j j' q v bb hbb h1 h2 h3 h4 h5 h6 h7 h8 h9 h10;rw[MN.q10];simp only[MN.b10,MK h2,MV h1 h2,h3,MV h4 h5,h7,MV (show (0:Int)<=i by omega) (show (i:Int)<16 by omega),MV (show (0:Int)<=(q:Int) by omega) (show (q:Int)<16 by omega),MV h10.1 h10.2,h9,h6,cond_true,ahy]
 rw[step 2 0 1 _ _ b hb (by omega) (by omega) rfl (by omega) (by omega) rfl g0 (by omega) r0 b0];rw[step 3 1 2 _ _ _ (by simp[hb]) (by omega) (by omega) rfl (by omega) (by omega) rfl g1 (by omega) r1 b1];rw[step 1 2 3 _ _ _ (by simp[hb]) (by omega) (by omega) rfl (by omega) (by omega) rfl g2 (by omega) r2 b2];rw[step 1 3 4 _ _ _ (by simp[hb]) (by omega) (by omega) rfl (by omega) (by omega) rfl g3 (by omega) r3 b3];rw[MN.q10];simp only[MN.b10,MO (show ¬(4:Int)<4 by omega),cond_false];have hl: ∀v,i<(b.set i v).length:=fun v=>by simp[hb];omega
 simp only[TQ (show i<b.length by omega),TQ (hl _),aic,h0];unfold Rx;rw[QW hi];simp only[ah3]
theorem adr(hw:VH was)(hb:b.length=16):MN.l11 .lim (0,tp,tq,t1,t2,key,dn,mu,sm,sb,bk,Oe 256,b,Si,was,K,rn,tw,())=some (tp,tq,t1,t2,Rx was,K,rn,tw,key,dn,mu,sm,sb,bk,Oe 256,()):=by
 have e:=PO (f:=MN.l11 .lim) (fun k b=>((k:Int),tp,tq,t1,t2,key,dn,mu,sm,sb,bk,Oe 256,b,Si,was,K,rn,tw,())) (fun k v=>rd 0 (Rx was) (k:Int)) b hb (fun k hk m' hm hj=>by
  rw[MN.q11];have hm:=fun h0=>acP (tp:=tp) (tq:=tq) (t1:=t1) (t2:=t2) (key:=key) (dn:=dn) (mu:=mu) (sm:=sm) (sb:=sb) (bk:=bk) (K:=K) (rn:=rn) (tw:=tw) (t:=(k:Int))  hw (b:=m'.set k 0) hk (by simp[hm]) h0
  simp only[MN.b11,MK (show (k:Int)<16 by omega),MV (show (0:Int)<=k by omega) (show (k:Int)<16 by omega),cond_true,ahy];rw[hm (TQ (by omega))];simp only[ahx,Qz k (by omega),aic])
 refine(show _=_ from e).trans ?_;rw[MN.q11];simp only[MN.b11,MO (show ¬((16:Nat):Int)<16 by decide),cond_false];have:(tab 16 fun i=>rd 0 (Rx was) (i:Int))=Rx was:=(Xa PX).symm;rw[this]
theorem aaj(hb:b.length=16):MN.l12 .lim (0,tp,tq,t1,t2,b,K,rn,tw,key,dn,mu,sm,sb,bk,yb,())=some (tp,tq,t1,t2,rn,T_ b K,tw,key,dn,mu,sm,sb,bk,yb,()):=by
 have e:=PO (f:=MN.l12 .lim) (fun k b=>((k:Int),tp,tq,t1,t2,b,K,rn,tw,key,dn,mu,sm,sb,bk,yb,())) (fun k v=>Hz .u8 v (rd 0 K (k:Int))) b hb (fun k hk m' hm hj=>by
  rw[MN.q12];simp only[MN.b12,MK (show (k:Int)<16 by omega),MV (show (0:Int)<=k by omega) (show (k:Int)<16 by omega),cond_true,Qz k (by omega),hj k (ahO _),ahy])
 refine(show _=_ from e).trans ?_;rw[MN.q12];simp only[MN.b12,MO (show ¬((16:Nat):Int)<16 by decide),cond_false];rfl
theorem abr(b:List Int):(tab 16 fun i=>rd 0 (tab 16 fun i=>VB (rd 0 b (i:Int))) (((i+4*(i%4))%16:Nat):Int))=SL b:=P6 fun k hk=>by rw[QW (by omega)]
theorem Yz(hb:VH b):VH (SL b):=⟨PX,XE fun k hk=>Zl (hb.at (by omega))⟩
theorem adq{r:Nat}(hW:Words W)(hl:W.length=4*(r+1))(hr:r<=100)(hr0:0<r)(hb:b.length=16):
  MN.YH .lim (1,((r:Nat):Int),((r:Nat):Int),0,Ph W,SB W b 0,tw,key,dn,mu,sm,Q_ 256,bk,Oe 256,())=some (SB W b r,tw,key,dn,mu,sm,Q_ 256,bk,Oe 256,Ph W,()):=by
 have hn:(Ph W).length=r+1:=by unfold Ph;simp;omega
 have e:=NU (f:=MN.YH .lim) (fun k=>(1,(r:Int),(r:Int),(k:Int),Ph W,SB W b k,tw,key,dn,mu,sm,Q_ 256,bk,Oe 256,())) (n:=r) (fun k hk=>by
  rw[MN.q13];have hB:=V8 W b k;have hK:rd Wu (Ph W) (1+(k:Int))=SH W (k+1):=by
   rw[show (1+(k:Int))=((k+1:Nat):Int) by omega,Qm (by omega)];unfold Ph;simp
  have w1:ahw.wrap (((Ph W).length:Int)-2)=(r:Int)-1:=by rw[wrap64 (by omega) (by omega)];omega
  have hlast:decide ((k:Int)=(r:Int)-1)=decide (k+2=W.length/4):=by
   by_cases h:k+1=r
   ·rw[MK (by omega),MK (by omega)]
   ·rw[MO (by omega),MO (by omega)]
  simp only[MN.b13,MK (show (k:Int)<(r:Int) by omega),MV (show (0:Int)<=k by omega) (show (k:Int)<(r:Int) by omega),Nh (show ((Ph W).length:Int)<9223372036854775808 by omega),cond_true,hK,w1,hlast,aai hB,ahx];rw[acS PX];simp only[ahx,abr];have hs:=Yz hB;have hc:((((ahz 4 (0:Int)).set 0 2).set 1 3).set 2 1).set 3 1=Si:=rfl;show _=MN.YH .lim (1,(r:Int),(r:Int),((k+1:Nat):Int),Ph W,YO (decide (k+2=W.length/4)) (SB W b k) (SH W (k+1)),tw,key,dn,mu,sm,Q_ 256,bk,Oe 256,());unfold YO;cases decide (k+2=W.length/4)with
  |true=>
   simp only[ahD,cond_false,cond_true];rw[aaj hs.1];simp only[ahx,Qz k (by omega)]
  |false=>
   simp only[ahF,cond_false,cond_true,hc];rw[adr hs hs.1];simp only[ahx];have hml:(Rx (SL (SB W b k))).length=16:=PX;rw[aaj hml];simp only[ahx,Qz k (by omega)])
 refine(show _=_ from e).trans ?_;rw[MN.q13];simp only[MN.b13,MO (show ¬(r:Int)<(r:Int) by omega),cond_false]
end
end Go.AM
end
section
namespace Go.AM
section
variable {ok:Bool} {n dn mu sm four x i t t1 t2 tp tq:Int} {key b tw ta out K was kb T sb bk:List Int} {yb W rn:List (List Int)} {last:Bool}
theorem acR{r:Nat}(hW:Words W)(hl:W.length=4*(r+1))(hr:r<=100)(hr0:0<r)(hb:b.length=16){β:Type}{Q:_->Option β}:
  (bif inB 0 ((Ph W).length:Int)then
   ((MN.l7 .lim (0,b,rd Wu (Ph W) 0,tw,key,dn,mu,sm,Q_ 256,bk,Oe 256,Ph W,())).bind fun (b,tw,key,dn,mu,sm,sb,bk,yb,rn,())=>
    bif sV 1 (rn.length:Int) (rn.length:Int)then bif wB ((rn.length:Int)-1)then(MN.YH .lim (1,((rn.length:Int)-1),((rn.length:Int)-1),0,rn,b,tw,key,dn,mu,sm,sb,bk,yb,())).bind Q else none else none)else none)=Q (SB W b r,tw,key,dn,mu,sm,Q_ 256,bk,Oe 256,Ph W,()):=by
 have hn:(Ph W).length=r+1:=by unfold Ph;simp;omega
 have h0:rd Wu (Ph W) 0=SH W 0:=by
  have:=Qm (d:=Wu) (show 0<(Ph W).length by omega);rw[show ((0:Nat):Int)=0 from rfl]at this;rw[this];unfold Ph;simp
 rw[cond_pos (MV (by omega) (by omega)),h0,abp hb];simp only[ahx];rw[cond_pos (M_ (by omega) (by omega) (by omega)),cond_pos (Nh (by omega)),show ((Ph W).length:Int)-1=(r:Int) by omega];have:=adq (tw:=tw) (key:=key) (dn:=dn) (mu:=mu) (sm:=sm) (bk:=bk)  hW hl hr hr0 hb;rw[show SB W b 0=T_ b (SH W 0)from rfl]at this;rw[this];rfl
theorem abo(hk:key.length=16\/key.length=32)(hkb: ∀x∈key,B8 x)(hb:b.length=16):
  MN.Yg .lim (b,key,0,0,sm,Oq,Oq,ahz 16 Oq,())=some (encS key b,()):=by
 have h0:MN.Yg .lim (b,key,0,0,sm,Oq,Oq,ahz 16 Oq,())=MN.b14 .lim (MN.Yg .lim) (b,key,0,0,sm,Oq,Oq,ahz 16 Oq,()):=MN.q14 _;rw[h0];have hr:=abq (sm:=sm) (key:=key) (b:=b) (tw:=Wu)  hk hkb;have hW:=Ut key hkb;have hl:(Qs key).length=4*((key.length/4+6)+1):=by rw[TA];omega
 have hq:(Qs key).length/4-1=key.length/4+6:=by omega
 unfold MN.b14;simp only[hr,ahx];refine(acR (Q:=fun (b,tw,key,dn,mu,sm,sb,bk,yb,rn,())=>some (b,())) hW hl (by omega) (by omega) hb).trans ?_;unfold encS;rw[hq]
end
end Go.AM
end
section
namespace Go.AM
section
variable {ok:Bool} {n dn mu sm four nk x i t t1 t2 tp tq:Int} {key b tw ta out K was kb T sb bk:List Int} {yb W rn:List (List Int)} {last:Bool}
theorem adw(i:Nat)(hi:i<256):ML.l0 .lim ((i:Int),t,7,0,ok,n,key,dn,mu,sm,sb,bk,yb,kL,b,tw,ta,out,rn,())=some (t,ok,n,key,dn,mu,sm,sb,bk,VP i yb 7,b,tw,ta,out,rn,()):=by
 have e:=NU (f:=ML.l0 .lim) (fun k=>((i:Int),t,7,(k:Int),ok,n,key,dn,mu,sm,sb,bk,VP i yb k,kL,b,tw,ta,out,rn,())) (n:=7) (fun k hk=>by
  rw[ML.q0];obtain⟨h1,h2⟩:=acI k hk;have hB:B8 (rd 0 kL (k:Int)):=⟨h1,by omega⟩;have ZG:B8 (i:Int):=⟨by omega,by omega⟩;simp only[ML.b0,MK (show (k:Int)<7 by omega),MV (show (0:Int)<=k by omega) (show (k:Int)<(kL.length:Int)from show (k:Int)<7 by omega),R_ ZG,RV ZG hB,ahx,MV h1 (show rd 0 kL (k:Int)<16 from h2),MV (show (0:Int)<=i by omega) (show (i:Int)<256 by omega),cond_true,Qz k (by omega),ahy];rfl)
 refine e.trans ?_;rw[ML.q0];simp only[ML.b0,MO (show ¬((7:Nat):Int)<7 by decide),cond_false]
theorem aap:ML.l1 .lim (0,ok,n,key,dn,mu,sm,Oq,Oq,ahz 16 Oq,b,tw,ta,out,rn,())=some (ok,n,key,dn,mu,sm,Q_ 256,Vs 256,Oe 256,b,tw,ta,out,rn,()):=by
 have e:=NU (f:=ML.l1 .lim) (fun k=>((k:Int),ok,n,key,dn,mu,sm,Q_ k,Vs k,Oe k,b,tw,ta,out,rn,())) (n:=256) (fun k hk=>by
  rw[ML.q1];have ZG:B8 (k:Int):=⟨by omega,by omega⟩;have hs:=Zl ZG;have hm:=fun sb bk=>adw (ok:=ok) (key:=key) (dn:=dn) (mu:=mu) (sm:=sm) (sb:=sb) (bk:=bk) (yb:=Oe k) (b:=b) (tw:=tw) (t:=(k:Int)) (n:=n) (ta:=ta) (out:=out) (rn:=rn) k hk
  simp only[ML.b1,MK (show (k:Int)<256 by omega),R_ ZG,Y3 ZG,ahx,MV (show (0:Int)<=k by omega) (show (k:Int)<256 by omega),MV hs.1 hs.2,cond_true,show ((([1,2,3,9,11,13,14]:List Int).length:Nat):Int)=7 from rfl,Nh (show (7:Int)<9223372036854775808 by omega),hm,Qz k (by omega),Zh];rw[show (Q_ k).set ((k:Int)).toNat (VB k)=Q_ (k+1)from RD rfl];rfl)
 rw[show Q_ 0=Oq from Rl,WV,show Vs 0=Oq from rfl,show ((0:Nat):Int)=0 from rfl]at e;refine e.trans ?_;rw[ML.q1];simp only[ML.b1,MO (show ¬((256:Nat):Int)<256 by decide),cond_false]
theorem abA{q:Nat}(hk:kb.length=4*q)(hq:q<=100):ML.l2 .lim (0,nk,ok,n,4,key,dn,mu,sm,sb,bk,yb,b,tw,ta,out,kb,[],rn,())=some (nk,ok,n,key,dn,mu,sm,sb,bk,yb,b,tw,ta,out,(ahQ q).map (word kb),rn,()):=by
 have e:=NU (f:=ML.l2 .lim) (fun k=>(((4*k:Nat):Int),nk,ok,n,4,key,dn,mu,sm,sb,bk,yb,b,tw,ta,out,kb,(ahQ k).map (word kb),rn,())) (n:=q) (fun k hkq=>by
  rw[ML.q2];have w1:ahw.wrap (((4*k:Nat):Int)+4)=((4*k+4:Nat):Int):=by rw[wrap64 (by omega) (by omega)];omega
  have w2:mn 4 ((kb.length:Int)-((4*k:Nat):Int))=4:=by rw[OH];omega
  have w3:(cut kb ((4*k:Nat):Int) ((4*k+4:Nat):Int)).length=4:=by rw[QM,ahG,ahI];omega
  have w4:(ah_ 1 4&&ah_ 4 (cut kb ((4*k:Nat):Int) ((4*k+4:Nat):Int)).length)=true:=by rw[w3];rfl
  simp only[ML.b2,Nh (show (kb.length:Int)<9223372036854775808 by omega),MK (show ((4*k:Nat):Int)<(kb.length:Int) by omega),M_ (show (0:Int)<=((4*k:Nat):Int) by omega) (show ((4*k:Nat):Int)<=(kb.length:Int) by omega) (ahW _),Nh (show (kb.length:Int)-((4*k:Nat):Int)<9223372036854775808 by omega),w2,w1,M_ (show (0:Int)<=((4*k:Nat):Int) by omega) (show ((4*k:Nat):Int)<=((4*k+4:Nat):Int) by omega) (ahW _),MK (show ((4*k+4:Nat):Int)<=(kb.length:Int) by omega),ahL,w4,cond_true];rw[cond_pos (by simp;omega),Ya (by omega)];simp only[ah9,ah8,aip,aiu];rfl)
 refine e.trans ?_;rw[ML.q2];simp only[ML.b2,Nh (show (kb.length:Int)<9223372036854775808 by omega),MO (show ¬((4*q:Nat):Int)<(kb.length:Int) by omega),cond_true,cond_false]
theorem adx(hW:Words W){i nk:Nat}(h1:nk<=i)(h2:i<=W.length)(h3:0<nk)(h4:i<1000)(hT:T.length=4):ML.l3 .lim ((nk:Int),x,(i:Int),0,ok,n,T,key,dn,mu,sm,sb,bk,yb,b,tw,ta,out,W,rn,())=some ((nk:Int),x,(i:Int),ok,n,Xf T (rd z4 W ((i-nk:Nat):Int)),key,dn,mu,sm,sb,bk,yb,b,tw,ta,out,W,rn,()):=by
 have w:ahw.wrap ((i:Int)-(nk:Int))=((i-nk:Nat):Int):=by rw[wrap64 (by omega) (by omega)];omega
 have e:=PO (f:=ML.l3 .lim) (fun k T=>((nk:Int),x,(i:Int),(k:Int),ok,n,T,key,dn,mu,sm,sb,bk,yb,b,tw,ta,out,W,rn,())) (fun k v=>Hz .u8 v (rd 0 (rd z4 W ((i-nk:Nat):Int)) (k:Int))) T hT (fun k hk m' hm hj=>by
  rw[ML.q3];simp only[ML.b3,MK (show (k:Int)<4 by omega),MV (show (0:Int)<=k by omega) (show (k:Int)<4 by omega),w,MV (show (0:Int)<=((i-nk:Nat):Int) by omega) (show ((i-nk:Nat):Int)<(W.length:Int) by omega),cond_true,Qz k (by omega),hj k (ahO _),ahy])
 refine e.trans ?_;rw[ML.q3];simp only[ML.b3,MO (show ¬((4:Nat):Int)<4 by decide),cond_false];rfl
end
end Go.AM
end
section
namespace Go.AM
section
variable {ok:Bool} {n dn mu sm four x i t t1 t2 tp tq:Int} {key b tw ta out K was kb T sb bk:List Int} {yb W rn:List (List Int)} {last:Bool}
theorem acV(a b c d:Int):((((ahz 4 (0:Int)).set 0 a).set 1 b).set 2 c).set 3 d=[a,b,c,d]:=rfl
theorem abB{nk:Nat}(hn:nk=4\/nk=8)(hk:4*nk<=kb.length)(hb: ∀x∈kb,B8 x):
  ML.l4 .lim ((nk:Int),1,(nk:Int),ok,n,key,dn,mu,sm,Q_ 256,bk,yb,b,tw,ta,out,(ahQ nk).map (word kb),rn,())=some (ok,n,key,dn,mu,sm,Q_ 256,bk,yb,b,tw,ta,out,(sched nk kb (3*nk+28)).1,rn,()):=by
 have e:=NU (f:=ML.l4 .lim) (fun k=>((nk:Int),(sched nk kb k).2,((nk+k:Nat):Int),ok,n,key,dn,mu,sm,Q_ 256,bk,yb,b,tw,ta,out,(sched nk kb k).1,rn,())) (n:=3*nk+28) (fun k hkq=>by
  rw[ML.q4];obtain⟨hW,hx⟩:=Ul nk kb hk hb k;have hl:=TJ nk kb k;have hs:sched nk kb (k+1)=stepW nk (sched nk kb k):=rfl;rw[hs];unfold stepW;generalize hq:sched nk kb k=q at hW hx hl;obtain⟨W,x⟩:=q;simp only at hW hx hl ⊢
  have hi0:nk+k<1000:=by omega
  generalize hi:nk+k=i at hl hi0;have hw:=hW.at (show i-1<W.length by omega);have hb0:=hW.byte (show i-1<W.length by omega) (j:=0) (by omega) (by omega);have hb1:=hW.byte (show i-1<W.length by omega) (j:=1) (by omega) (by omega);have hb2:=hW.byte (show i-1<W.length by omega) (j:=2) (by omega) (by omega);have hb3:=hW.byte (show i-1<W.length by omega) (j:=3) (by omega) (by omega);have w1:ahw.wrap (4*ahw.wrap ((nk:Int)+7))=((4*nk+28:Nat):Int):=by rw[wrap64 (n:=(nk:Int)+7) (by omega) (by omega),wrap64 (by omega) (by omega)];omega
  have w2:ahw.wrap ((i:Int)-1)=((i-1:Nat):Int):=by rw[wrap64 (by omega) (by omega)];omega
  have m1:((i:Int)).tmod (nk:Int)=((i%nk:Nat):Int):=by rw[ahA (ahB i)];simp
  have m2:((i:Int)).tmod 8=((i%8:Nat):Int):=by rw[ahA (ahB i)];simp
  have WH:=fun x T hT=>adx (ok:=ok) (key:=key) (dn:=dn) (mu:=mu) (sm:=sm) (sb:=Q_ 256) (bk:=bk) (yb:=yb) (b:=b) (tw:=tw) (x:=x) (T:=T) (n:=n) (ta:=ta) (out:=out) (rn:=rn) hW (i:=i) (nk:=nk) (by omega) (by omega) (by omega) (by omega) hT
  have cap: ∀T:List Int,decide (W.length+([T]:List (List Int)).length<17592186044416)=true:=fun T=>MK (by simp;omega)
  simp only[ML.b4,w1,MK (show (i:Int)<((4*nk+28:Nat):Int) by omega),w2,MV (show (0:Int)<=((i-1:Nat):Int) by omega) (show ((i-1:Nat):Int)<(W.length:Int) by omega),MO (show ¬(nk:Int)=0 by omega),m1,m2,cond_true,ahF,MV hb0.1 hb0.2,MV hb1.1 hb1.2,MV hb2.1 hb2.2,MV hb3.1 hb3.2,Tt hb0,Tt hb1,Tt hb2,Tt hb3,acV,ahK];rw[hl];unfold Zu;by_cases c1:i%nk=0
  ·rw[MK (show ((i%nk:Nat):Int)=0 by omega),if_pos c1,if_pos c1];simp only[cond_true,RV hx (show B8 2 from⟨by decide,by decide⟩),ahx];rw[WH _ _ rfl];simp only[ahx];rw[cond_pos (by simp;omega),Qz i (by omega)];rw[show i+1=nk+(k+1) by omega]
  ·rw[MO (show ¬((i%nk:Nat):Int)=0 by omega),if_neg c1,if_neg c1];simp only[cond_false];by_cases c2:nk=8/\i%8=4
   ·rw[MK (show (nk:Int)=8 by omega),MK (show ((i%8:Nat):Int)=4 by omega),if_pos c2];simp only[ahL,cond_true];rw[WH _ _ rfl];simp only[ahx];rw[cond_pos (by simp;omega),Qz i (by omega)];rw[show i+1=nk+(k+1) by omega]
   ·have:(decide ((nk:Int)=8)&&decide (((i%8:Nat):Int)=4))=false:=by
     by_cases c3:nk=8
     ·rw[MO (show ¬((i%8:Nat):Int)=4 by omega),ahR]
     ·rw[MO (show ¬(nk:Int)=8 by omega),ahY]
    rw[this,if_neg c2];simp only[cond_false];rw[WH _ _ hw.1];simp only[ahx];rw[cond_pos (by simp;omega),Qz i (by omega),<-list4 hw.1];rw[show i+1=nk+(k+1) by omega])
 refine(show _=_ from e).trans ?_;rw[ML.q4];have w1:ahw.wrap (4*ahw.wrap ((nk:Int)+7))=((4*nk+28:Nat):Int):=by rw[wrap64 (n:=(nk:Int)+7) (by omega) (by omega),wrap64 (by omega) (by omega)];omega
 simp only[ML.b4,w1,MO (show ¬((nk+(3*nk+28):Nat):Int)<((4*nk+28:Nat):Int) by omega),cond_false]
end
end Go.AM
end
section
namespace Go.AM
section
variable {ok:Bool} {n dn mu sm four x i t t1 t2 tp tq:Int} {key b tw ta out K was kb T sb bk:List Int} {yb W rn:List (List Int)} {last:Bool}
theorem aao{q:Nat}(hW:Words W)(hl:W.length=4*q)(hq:q<=100):ML.l5 .lim (0,ok,n,4,key,dn,mu,sm,sb,bk,yb,b,tw,ta,out,W,[],())=some (ok,n,key,dn,mu,sm,sb,bk,yb,b,tw,ta,out,Ph W,()):=by
 have e:=NU (f:=ML.l5 .lim) (fun k=>(((4*k:Nat):Int),ok,n,4,key,dn,mu,sm,sb,bk,yb,b,tw,ta,out,W,(ahQ k).map (SH W),())) (n:=q) (fun k hkq=>by
  rw[ML.q5];have w1:ahw.wrap (((4*k:Nat):Int)+4)=((4*k+4:Nat):Int):=by rw[wrap64 (by omega) (by omega)];omega
  have w2:mn 4 ((W.length:Int)-((4*k:Nat):Int))=4:=by rw[OH];omega
  have w3:(cut W ((4*k:Nat):Int) ((4*k+4:Nat):Int)).length=4:=by rw[QM,ahG,ahI];omega
  have at_: ∀j:Nat,j<4->rd z4 (cut W ((4*k:Nat):Int) ((4*k+4:Nat):Int)) (j:Int)=rd z4 W ((4*k+j:Nat):Int):=fun j hj=>by
   rw[QM];unfold rd;rw[ahy,ahy,ahH,ahH,aij (by omega),aiD]
  have a0:rd z4 (cut W ((4*k:Nat):Int) ((4*k+4:Nat):Int)) 0=rd z4 W ((4*k:Nat):Int):=at_ 0 (by omega);have a1:rd z4 (cut W ((4*k:Nat):Int) ((4*k+4:Nat):Int)) 1=rd z4 W ((4*k+1:Nat):Int):=at_ 1 (by omega);have a2:rd z4 (cut W ((4*k:Nat):Int) ((4*k+4:Nat):Int)) 2=rd z4 W ((4*k+2:Nat):Int):=at_ 2 (by omega);have a3:rd z4 (cut W ((4*k:Nat):Int) ((4*k+4:Nat):Int)) 3=rd z4 W ((4*k+3:Nat):Int):=at_ 3 (by omega);have c4: ∀l:List Int,l.length=4->cut l 0 4=l:=fun l hl=>by
   have:=QM l 0 4;rw[show ((0:Nat):Int)=0 from rfl,show ((4:Nat):Int)=4 from rfl]at this;rw[this,ahZ,ahJ (by omega)]
  have l0:=(hW.at (show 4*k<W.length by omega)).1;have l1:=(hW.at (show 4*k+1<W.length by omega)).1;have l2:=(hW.at (show 4*k+2<W.length by omega)).1;have l3:=(hW.at (show 4*k+3<W.length by omega)).1;have hfl:[rd z4 W ((4*k:Nat):Int),rd z4 W ((4*k+1:Nat):Int),rd z4 W ((4*k+2:Nat):Int),rd z4 W ((4*k+3:Nat):Int)].flatten=SH W k:=by simp[SH]
  have hrl:=Vd hW (j:=k) (by omega);have qL:=Xr [rd z4 W ((4*k:Nat):Int),rd z4 W ((4*k+1:Nat):Int),rd z4 W ((4*k+2:Nat):Int),rd z4 W ((4*k+3:Nat):Int)] (by rw[hfl,hrl];omega) (by simp);rw[hfl]at qL;simp only[ML.b5,Nh (show (W.length:Int)<9223372036854775808 by omega),MK (show ((4*k:Nat):Int)<(W.length:Int) by omega),M_ (show (0:Int)<=((4*k:Nat):Int) by omega) (show ((4*k:Nat):Int)<=(W.length:Int) by omega) (ahW _),Nh (show (W.length:Int)-((4*k:Nat):Int)<9223372036854775808 by omega),w2,w1,M_ (show (0:Int)<=((4*k:Nat):Int) by omega) (show ((4*k:Nat):Int)<=((4*k+4:Nat):Int) by omega) (ahW _),MK (show ((4*k+4:Nat):Int)<=(W.length:Int) by omega),ahL,w3,cond_true,MV (show (0:Int)<=0 by omega) (show (0:Int)<((4:Nat):Int) by decide),MV (show (0:Int)<=1 by omega) (show (1:Int)<((4:Nat):Int) by decide),MV (show (0:Int)<=2 by omega) (show (2:Int)<((4:Nat):Int) by decide),MV (show (0:Int)<=3 by omega) (show (3:Int)<((4:Nat):Int) by decide),a0,a1,a2,a3,c4 _ l0,c4 _ l1,c4 _ l2,c4 _ l3,qL,ahx,hrl,ahJ (aiT hrl)];rw[show (ah_ 1 16&&ah_ 16 16)=true from rfl,cond_true,cond_pos (by simp;omega)];simp only[ah9,ah8,aip,aiu];rfl)
 refine(show _=_ from e).trans ?_;rw[ML.q5];simp only[ML.b5,Nh (show (W.length:Int)<9223372036854775808 by omega),MO (show ¬((4*q:Nat):Int)<(W.length:Int) by omega),cond_true,cond_false];unfold Ph;rw[hl,aiq _ (by omega)]
theorem aby(hk:key.length=16\/key.length=32)(hb: ∀x∈key,B8 x):ML.l6 .lim (n,key,0,0,sm,Oq,Oq,ahz 16 Oq,b,tw,ta,out,[],())=some (n,b,tw,key,1,0,sm,Q_ 256,Vs 256,Oe 256,ta,out,Ph (Qs key),()):=by
 have h0:ML.l6 .lim (n,key,0,0,sm,Oq,Oq,ahz 16 Oq,b,tw,ta,out,[],())=ML.b6 .lim (ML.l6 .lim) (n,key,0,0,sm,Oq,Oq,ahz 16 Oq,b,tw,ta,out,[],()):=ML.q6 _;rw[h0];have hd:(key.length:Int).tdiv 4=((key.length/4:Nat):Int):=by rw[ahP (ahB _)];simp
 have w1:ahw.wrap ((key.length:Int).tdiv 4)=((key.length/4:Nat):Int):=by rw[hd,wrap64 (by omega) (by omega)]
 have t:=aap (ok:=true) (key:=key) (dn:=0) (mu:=1) (sm:=sm) (b:=b) (tw:=tw) (n:=n) (ta:=ta) (out:=out) (rn:=[]);have s:=abA (kb:=key) (q:=key.length/4) (nk:=((key.length/4:Nat):Int)) (ok:=true) (key:=key) (dn:=0) (mu:=1) (sm:=sm) (sb:=Q_ 256) (bk:=Vs 256) (yb:=Oe 256) (b:=b) (tw:=tw) (n:=n) (ta:=ta) (out:=out) (rn:=[]) (by omega) (by omega);have w:=abB (kb:=key) (nk:=key.length/4) (ok:=true) (key:=key) (dn:=0) (mu:=1) (sm:=sm) (bk:=Vs 256) (yb:=Oe 256) (b:=b) (tw:=tw) (n:=n) (ta:=ta) (out:=out) (rn:=[]) (by omega) (by omega) hb;have r:=aao (W:=Qs key) (q:=key.length/4+7) (ok:=true) (key:=key) (dn:=0) (mu:=1) (sm:=sm) (sb:=Q_ 256) (bk:=Vs 256) (yb:=Oe 256) (b:=b) (tw:=tw) (n:=n) (ta:=ta) (out:=out) (Ut key hb) (by rw[TA];omega) (by omega);have hs:PN.run .lim (true,())=some 1:=rfl;have hw:(sched (key.length/4) key (3*(key.length/4)+28)).1=Qs key:=rfl;simp only[ML.b6,decide_true,ahD,ahF,cond_true,t,ahx,Nh (show (key.length:Int)<9223372036854775808 by omega),w1];rw[s];simp only[ahx];rw[w];simp only[ahx];rw[hw,r];simp only[ahx,hs,show aiV.wrap (1+ -1)=0 from by decide,decide_true,ahD,cond_false]
end
end Go.AM
end
section
namespace Go.AM
section
variable {ok:Bool} {n dn mu sm four x i t t1 t2 tp tq:Int} {key b tw ta out K was kb T sb bk:List Int} {yb W rn:List (List Int)} {last:Bool}
theorem abx(hb:b.length=16):ML.l7 .lim (0,n,b,K,tw,key,dn,mu,sm,sb,bk,yb,ta,out,rn,())=some (n,T_ b K,tw,key,dn,mu,sm,sb,bk,yb,ta,out,rn,()):=by
 have e:=PO (f:=ML.l7 .lim) (fun k b=>((k:Int),n,b,K,tw,key,dn,mu,sm,sb,bk,yb,ta,out,rn,())) (fun k v=>Hz .u8 v (rd 0 K (k:Int))) b hb (fun k hk m' hm hj=>by
  rw[ML.q7];simp only[ML.b7,MK (show (k:Int)<16 by omega),MV (show (0:Int)<=k by omega) (show (k:Int)<16 by omega),cond_true,Qz k (by omega),hj k (ahO _),ahy])
 refine(show _=_ from e).trans ?_;rw[ML.q7];simp only[ML.b7,MO (show ¬((16:Nat):Int)<16 by decide),cond_false];rfl
theorem aam(hb:VH b):ML.l8 .lim (0,last,tp,tq,t1,t2,n,b,key,dn,mu,sm,Q_ 256,bk,yb,K,rn,tw,ta,out,())=some (last,tp,tq,t1,t2,n,tab 16 fun i=>VB (rd 0 b (i:Int)),K,rn,tw,key,dn,mu,sm,Q_ 256,bk,yb,ta,out,()):=by
 have e:=PO (f:=ML.l8 .lim) (fun k b=>((k:Int),last,tp,tq,t1,t2,n,b,key,dn,mu,sm,Q_ 256,bk,yb,K,rn,tw,ta,out,())) (fun k v=>VB v) b hb.1 (fun k hk m' hm hj=>by
  rw[ML.q8];have h:=hb.at hk;simp only[ML.b8,MK (show (k:Int)<16 by omega),MV (show (0:Int)<=k by omega) (show (k:Int)<16 by omega),cond_true,Qz k (by omega),hj k (ahO _),MV h.1 h.2,Tt h,ahy])
 refine(show _=_ from e).trans ?_;rw[ML.q8];simp only[ML.b8,MO (show ¬((16:Nat):Int)<16 by decide),cond_false]
theorem acW(hb:b.length=16):ML.l9 .lim (4,0,last,tp,tq,t1,t2,n,b,was,K,rn,tw,key,dn,mu,sm,sb,bk,yb,ta,out,())=some (last,tp,tq,t1,t2,n,tab 16 fun i=>rd 0 was (((i+4*(i%4))%16:Nat):Int),K,rn,tw,key,dn,mu,sm,sb,bk,yb,ta,out,()):=by
 have e:=PO (f:=ML.l9 .lim) (fun k b=>(4,(k:Int),last,tp,tq,t1,t2,n,b,was,K,rn,tw,key,dn,mu,sm,sb,bk,yb,ta,out,())) (fun k v=>rd 0 was (((k+4*(k%4))%16:Nat):Int)) b hb (fun k hk m' hm hj=>by
  rw[ML.q9];have m1:((k:Int)).tmod 4=((k%4:Nat):Int):=by rw[ahA (ahB k)];simp
  have w1:ahw.wrap (4*(k:Int).tmod 4)=((4*(k%4):Nat):Int):=by rw[m1,wrap64 (by omega) (by omega)];omega
  have w2:ahw.wrap ((k:Int)+((4*(k%4):Nat):Int))=((k+4*(k%4):Nat):Int):=by rw[wrap64 (by omega) (by omega)];omega
  have w3:ahw.wrap (((k+4*(k%4):Nat):Int)+64)=((k+4*(k%4)+64:Nat):Int):=by rw[wrap64 (by omega) (by omega)];omega
  have m2:(((k+4*(k%4)+64:Nat):Int)).tmod 16=(((k+4*(k%4))%16:Nat):Int):=by rw[ahA (ahB _)];omega
  simp only[ML.b9,MK (show (k:Int)<16 by omega),MV (show (0:Int)<=k by omega) (show (k:Int)<16 by omega),cond_true,Qz k (by omega),w1,w2,w3,m2,MV (show (0:Int)<=(((k+4*(k%4))%16:Nat):Int) by omega) (show (((k+4*(k%4))%16:Nat):Int)<16 by omega),ahy])
 refine(show _=_ from e).trans ?_;rw[ML.q9];simp only[ML.b9,MO (show ¬((16:Nat):Int)<16 by decide),cond_false]
abbrev Sj:List Int:=[2,3,1,1]
theorem acU(hw:VH was){i:Nat}(hi:i<16)(hb:b.length=16)(h0:rd 0 b (i:Int)=0):ML.l10 .lim ((i:Int),t,Sj,0,tp,tq,t1,t2,n,key,dn,mu,sm,sb,bk,Oe 256,b,Sj,was,K,rn,tw,ta,out,())=some (t,tp,tq,t1,t2,n,key,dn,mu,sm,sb,bk,Oe 256,b.set i (rd 0 (Rx was) (i:Int)),Sj,was,K,rn,tw,ta,out,()):=by
 have h4: ∀j:Nat,j<4->ahw.wrap (ahw.wrap (ahw.wrap ((i:Int).tdiv 4)*4)+(ahw.wrap ((i:Int)+(j:Int))).tmod 4)=((i/4*4+(i+j)%4:Nat):Int):=by
  intro j hj;have d1:((i:Int)).tdiv 4=((i/4:Nat):Int):=by rw[ahP (ahB i)];simp
  have d2:ahw.wrap ((i:Int)+(j:Int))=((i+j:Nat):Int):=by rw[wrap64 (by omega) (by omega)];omega
  have d3:(((i+j:Nat):Int)).tmod 4=(((i+j)%4:Nat):Int):=by rw[ahA (ahB _)];simp
  rw[d1,d2,d3,wrap64 (n:=((i/4:Nat):Int)) (by omega) (by omega),wrap64 (n:=((i/4:Nat):Int)*4) (by omega) (by omega),wrap64 (by omega) (by omega)];omega
 have hB: ∀j:Nat,j<4->B8 (rd 0 was ((i/4*4+(i+j)%4:Nat):Int)):=fun j hj=>hw.at (by omega)
 have g0:=h4 0 (by omega);have g1:=h4 1 (by omega);have g2:=h4 2 (by omega);have g3:=h4 3 (by omega);have b0:=hB 0 (by omega);have b1:=hB 1 (by omega);have b2:=hB 2 (by omega);have b3:=hB 3 (by omega);rw[show ((0:Nat):Int)=0 from rfl]at g0;rw[show ((1:Nat):Int)=1 from rfl]at g1;rw[show ((2:Nat):Int)=2 from rfl]at g2;rw[show ((3:Nat):Int)=3 from rfl]at g3;have r0:=(Tf b0).2.1;have r1:=(Tf b1).2.2;have r2:=(Tf b2).1;have r3:=(Tf b3).1;have step: ∀(c:Int) (j j':Int) (q:Nat) (v:Int) (bb:List Int),bb.length=16->0<=j->j<4->rd 0 Sj j=c->0<=c->c<16->ahw.wrap (j+1)=j'->ahw.wrap (ahw.wrap (ahw.wrap ((i:Int).tdiv 4)*4)+(ahw.wrap ((i:Int)+j)).tmod 4)=(q:Int)->q<16->rd 0 (rd Oq (Oe 256) c) (rd 0 was (q:Int))=v->B8 (rd 0 was (q:Int))->
   ML.l10 .lim ((i:Int),t,Sj,j,tp,tq,t1,t2,n,key,dn,mu,sm,sb,bk,Oe 256,bb,Sj,was,K,rn,tw,ta,out,())=ML.l10 .lim ((i:Int),t,Sj,j',tp,tq,t1,t2,n,key,dn,mu,sm,sb,bk,Oe 256,bb.set i (Hz .u8 (rd 0 bb (i:Int)) v),Sj,was,K,rn,tw,ta,out,()):=by
  intro c j j' q v bb hbb h1 h2 h3 h4 h5 h6 h7 h8 h9 h10;rw[ML.q10];simp only[ML.b10,MK h2,MV h1 h2,h3,MV h4 h5,h7,MV (show (0:Int)<=i by omega) (show (i:Int)<16 by omega),MV (show (0:Int)<=(q:Int) by omega) (show (q:Int)<16 by omega),MV h10.1 h10.2,h9,h6,cond_true,ahy]
 rw[step 2 0 1 _ _ b hb (by omega) (by omega) rfl (by omega) (by omega) rfl g0 (by omega) r0 b0];rw[step 3 1 2 _ _ _ (by simp[hb]) (by omega) (by omega) rfl (by omega) (by omega) rfl g1 (by omega) r1 b1];rw[step 1 2 3 _ _ _ (by simp[hb]) (by omega) (by omega) rfl (by omega) (by omega) rfl g2 (by omega) r2 b2];rw[step 1 3 4 _ _ _ (by simp[hb]) (by omega) (by omega) rfl (by omega) (by omega) rfl g3 (by omega) r3 b3];rw[ML.q10];simp only[ML.b10,MO (show ¬(4:Int)<4 by omega),cond_false];have hl: ∀v,i<(b.set i v).length:=fun v=>by simp[hb];omega
 simp only[TQ (show i<b.length by omega),TQ (hl _),aic,h0];unfold Rx;rw[QW hi];simp only[ah3]
theorem adv(hw:VH was)(hb:b.length=16):ML.l11 .lim (0,tp,tq,t1,t2,n,key,dn,mu,sm,sb,bk,Oe 256,b,Sj,was,K,rn,tw,ta,out,())=some (tp,tq,t1,t2,n,Rx was,K,rn,tw,key,dn,mu,sm,sb,bk,Oe 256,ta,out,()):=by
 have e:=PO (f:=ML.l11 .lim) (fun k b=>((k:Int),tp,tq,t1,t2,n,key,dn,mu,sm,sb,bk,Oe 256,b,Sj,was,K,rn,tw,ta,out,())) (fun k v=>rd 0 (Rx was) (k:Int)) b hb (fun k hk m' hm hj=>by
  rw[ML.q11];have hm:=fun h0=>acU (tp:=tp) (tq:=tq) (t1:=t1) (t2:=t2) (key:=key) (dn:=dn) (mu:=mu) (sm:=sm) (sb:=sb) (bk:=bk) (K:=K) (rn:=rn) (tw:=tw) (t:=(k:Int)) (n:=n) (ta:=ta) (out:=out) hw (b:=m'.set k 0) hk (by simp[hm]) h0
  simp only[ML.b11,MK (show (k:Int)<16 by omega),MV (show (0:Int)<=k by omega) (show (k:Int)<16 by omega),cond_true,ahy];rw[hm (TQ (by omega))];simp only[ahx,Qz k (by omega),aic])
 refine(show _=_ from e).trans ?_;rw[ML.q11];simp only[ML.b11,MO (show ¬((16:Nat):Int)<16 by decide),cond_false];have:(tab 16 fun i=>rd 0 (Rx was) (i:Int))=Rx was:=(Xa PX).symm;rw[this]
theorem aan(hb:b.length=16):ML.l12 .lim (0,tp,tq,t1,t2,n,b,K,rn,tw,key,dn,mu,sm,sb,bk,yb,ta,out,())=some (tp,tq,t1,t2,n,rn,T_ b K,tw,key,dn,mu,sm,sb,bk,yb,ta,out,()):=by
 have e:=PO (f:=ML.l12 .lim) (fun k b=>((k:Int),tp,tq,t1,t2,n,b,K,rn,tw,key,dn,mu,sm,sb,bk,yb,ta,out,())) (fun k v=>Hz .u8 v (rd 0 K (k:Int))) b hb (fun k hk m' hm hj=>by
  rw[ML.q12];simp only[ML.b12,MK (show (k:Int)<16 by omega),MV (show (0:Int)<=k by omega) (show (k:Int)<16 by omega),cond_true,Qz k (by omega),hj k (ahO _),ahy])
 refine(show _=_ from e).trans ?_;rw[ML.q12];simp only[ML.b12,MO (show ¬((16:Nat):Int)<16 by decide),cond_false];rfl
theorem abz(b:List Int):(tab 16 fun i=>rd 0 (tab 16 fun i=>VB (rd 0 b (i:Int))) (((i+4*(i%4))%16:Nat):Int))=SL b:=P6 fun k hk=>by rw[QW (by omega)]
theorem YA(hb:VH b):VH (SL b):=⟨PX,XE fun k hk=>Zl (hb.at (by omega))⟩
theorem adu{r:Nat}(hW:Words W)(hl:W.length=4*(r+1))(hr:r<=100)(hr0:0<r)(hb:b.length=16):
  ML.YH .lim (1,((r:Nat):Int),((r:Nat):Int),0,n,Ph W,SB W b 0,tw,key,dn,mu,sm,Q_ 256,bk,Oe 256,ta,out,())=some (n,SB W b r,tw,key,dn,mu,sm,Q_ 256,bk,Oe 256,ta,out,Ph W,()):=by
 have hn:(Ph W).length=r+1:=by unfold Ph;simp;omega
 have e:=NU (f:=ML.YH .lim) (fun k=>(1,(r:Int),(r:Int),(k:Int),n,Ph W,SB W b k,tw,key,dn,mu,sm,Q_ 256,bk,Oe 256,ta,out,())) (n:=r) (fun k hk=>by
  rw[ML.q13];have hB:=V8 W b k;have hK:rd Wu (Ph W) (1+(k:Int))=SH W (k+1):=by
   rw[show (1+(k:Int))=((k+1:Nat):Int) by omega,Qm (by omega)];unfold Ph;simp
  have w1:ahw.wrap (((Ph W).length:Int)-2)=(r:Int)-1:=by rw[wrap64 (by omega) (by omega)];omega
  have hlast:decide ((k:Int)=(r:Int)-1)=decide (k+2=W.length/4):=by
   by_cases h:k+1=r
   ·rw[MK (by omega),MK (by omega)]
   ·rw[MO (by omega),MO (by omega)]
  simp only[ML.b13,MK (show (k:Int)<(r:Int) by omega),MV (show (0:Int)<=k by omega) (show (k:Int)<(r:Int) by omega),Nh (show ((Ph W).length:Int)<9223372036854775808 by omega),cond_true,hK,w1,hlast,aam hB,ahx];rw[acW PX];simp only[ahx,abz];have hs:=YA hB;have hc:((((ahz 4 (0:Int)).set 0 2).set 1 3).set 2 1).set 3 1=Sj:=rfl;show _=ML.YH .lim (1,(r:Int),(r:Int),((k+1:Nat):Int),n,Ph W,YO (decide (k+2=W.length/4)) (SB W b k) (SH W (k+1)),tw,key,dn,mu,sm,Q_ 256,bk,Oe 256,ta,out,());unfold YO;cases decide (k+2=W.length/4)with
  |true=>
   simp only[ahD,cond_false,cond_true];rw[aan hs.1];simp only[ahx,Qz k (by omega)]
  |false=>
   simp only[ahF,cond_false,cond_true,hc];rw[adv hs hs.1];simp only[ahx];have hml:(Rx (SL (SB W b k))).length=16:=PX;rw[aan hml];simp only[ahx,Qz k (by omega)])
 refine(show _=_ from e).trans ?_;rw[ML.q13];simp only[ML.b13,MO (show ¬(r:Int)<(r:Int) by omega),cond_false]
end
end Go.AM
end
section
namespace Go.AM
section
variable {ok:Bool} {n dn mu sm four x i t t1 t2 tp tq:Int} {key b tw ta out K was kb T sb bk:List Int} {yb W rn:List (List Int)} {last:Bool}
theorem aaq{r:Nat}(hW:Words W)(hl:W.length=4*(r+1))(hr:r<=100)(hr0:0<r)(hb:b.length=16){β:Type}{Q:_->Option β}:
  (bif inB 0 ((Ph W).length:Int)then
   ((ML.l7 .lim (0,n,b,rd Wu (Ph W) 0,tw,key,dn,mu,sm,Q_ 256,bk,Oe 256,ta,out,Ph W,())).bind fun (n,b,tw,key,dn,mu,sm,sb,bk,yb,ta,out,rn,())=>
    bif sV 1 (rn.length:Int) (rn.length:Int)then bif wB ((rn.length:Int)-1)then(ML.YH .lim (1,((rn.length:Int)-1),((rn.length:Int)-1),0,n,rn,b,tw,key,dn,mu,sm,sb,bk,yb,ta,out,())).bind Q else none else none)else none)=Q (n,SB W b r,tw,key,dn,mu,sm,Q_ 256,bk,Oe 256,ta,out,Ph W,()):=by
 have hn:(Ph W).length=r+1:=by unfold Ph;simp;omega
 have h0:rd Wu (Ph W) 0=SH W 0:=by
  have:=Qm (d:=Wu) (show 0<(Ph W).length by omega);rw[show ((0:Nat):Int)=0 from rfl]at this;rw[this];unfold Ph;simp
 rw[cond_pos (MV (by omega) (by omega)),h0,abx hb];simp only[ahx];rw[cond_pos (M_ (by omega) (by omega) (by omega)),cond_pos (Nh (by omega)),show ((Ph W).length:Int)-1=(r:Int) by omega];have:=adu (tw:=tw) (key:=key) (dn:=dn) (mu:=mu) (sm:=sm) (bk:=bk) (n:=n) (ta:=ta) (out:=out) hW hl hr hr0 hb;rw[show SB W b 0=T_ b (SH W 0)from rfl]at this;rw[this];rfl
theorem abw(hk:key.length=16\/key.length=32)(hkb: ∀x∈key,B8 x)(hb:b.length=16):
  ML.Yg .lim (b,n,key,0,0,sm,Oq,Oq,ahz 16 Oq,ta,out,[],())=some (n,encS key b,key,1,0,sm,Q_ 256,Vs 256,Oe 256,ta,out,Ph (Qs key),()):=by
 have h0:ML.Yg .lim (b,n,key,0,0,sm,Oq,Oq,ahz 16 Oq,ta,out,[],())=ML.b14 .lim (ML.Yg .lim) (b,n,key,0,0,sm,Oq,Oq,ahz 16 Oq,ta,out,[],()):=ML.q14 _;rw[h0];have hr:=aby (sm:=sm) (key:=key) (b:=b) (tw:=Wu) (n:=n) (ta:=ta) (out:=out) hk hkb;have hW:=Ut key hkb;have hl:(Qs key).length=4*((key.length/4+6)+1):=by rw[TA];omega
 have hq:(Qs key).length/4-1=key.length/4+6:=by omega
 unfold ML.b14;simp only[hr,ahx];refine(aaq (Q:=fun (n,b,tw,key,dn,mu,sm,sb,bk,yb,ta,out,rn,())=>some (n,b,key,dn,mu,sm,sb,bk,yb,ta,out,rn,())) hW hl (by omega) (by omega) hb).trans ?_;unfold encS;rw[hq]
theorem abv(hk:key.length=16\/key.length=32)(hkb: ∀x∈key,B8 x)(hb:b.length=16):
  ML.Yg .lim (b,n,key,1,0,sm,Q_ 256,Vs 256,Oe 256,ta,out,Ph (Qs key),())=some (n,encS key b,key,1,0,sm,Q_ 256,Vs 256,Oe 256,ta,out,Ph (Qs key),()):=by
 have h0:ML.Yg .lim (b,n,key,1,0,sm,Q_ 256,Vs 256,Oe 256,ta,out,Ph (Qs key),())=ML.b14 .lim (ML.Yg .lim) (b,n,key,1,0,sm,Q_ 256,Vs 256,Oe 256,ta,out,Ph (Qs key),()):=ML.q14 _;rw[h0];have hr:ML.l6 .lim (n,key,1,0,sm,Q_ 256,Vs 256,Oe 256,b,Wu,ta,out,Ph (Qs key),())=some (n,b,Wu,key,1,0,sm,Q_ 256,Vs 256,Oe 256,ta,out,Ph (Qs key),()):=by
  rw[ML.q6];simp only[ML.b6,MO (show ¬(1:Int)=0 by omega),ahF,ahD,cond_false]
 have hW:=Ut key hkb;have hl:(Qs key).length=4*((key.length/4+6)+1):=by rw[TA];omega
 have hq:(Qs key).length/4-1=key.length/4+6:=by omega
 unfold ML.b14;simp only[hr,ahx];refine(aaq (Q:=fun (n,b,tw,key,dn,mu,sm,sb,bk,yb,ta,out,rn,())=>some (n,b,key,dn,mu,sm,sb,bk,yb,ta,out,rn,())) hW hl (by omega) (by omega) hb).trans ?_;unfold encS;rw[hq]
end
end Go.AM
end
section
namespace Go.AM
abbrev Bs(s:List Int):Prop:= ∀x∈s,B8 x
abbrev NC:Nat:=9223372036854775808
def keyE(key:List Int):Bool:=decide (key.length=16\/key.length=32)
noncomputable def encR(key b:List Int):List Int×Int:=if key.length=16\/key.length=32 then(if b.length=16 then(encS key b,0)else([],10))else([],13)
theorem abh{b:List Int}(h:b.length=16):(b.drop 0).take 16=b:=by rw[ahZ,ahJ (by omega)]
theorem Ud{key b:List Int}(hk:key.length<NC)(hb:b.length<NC)(hkb:Bs key):MN.run .lim (key,b,())=some ((encR key b).1,(encR key b).2,()):=by
 unfold encR;simp only[MN.run,MR hk,MR hb,cond_true,ahK];by_cases h1:key.length=16\/key.length=32
 ·have:(!decide ((key.length:Int)=16)&& !decide ((key.length:Int)=32))=false:=by
   rcases h1 with h|h
   ·rw[MK (show (key.length:Int)=16 by omega)];rfl
   ·rw[MK (show (key.length:Int)=32 by omega),ahD,ahR]
  rw[this,if_pos h1];simp only[cond_false];by_cases h2:b.length=16
  ·rw[MK (show (b.length:Int)=16 by omega),if_pos h2];simp only[ahD,cond_false,h2];rw[show (ah_ 1 16&&ah_ 16 16)=true from rfl,cond_true,ahJ (by omega),abo h1 hkb h2];simp only[ahx];rw[abh (RJ _ _).1]
  ·rw[MO (show ¬(b.length:Int)=16 by omega),if_neg h2];rfl
 ·rw[MO (show ¬(key.length:Int)=16 by omega),MO (show ¬(key.length:Int)=32 by omega),if_neg h1];rfl
theorem ZV{key:List Int}(hk:key.length<NC):PS.run .lim (key,())=some (keyE key):=by
 simp only[PS.run,MR hk,cond_true,ahK,Ol];unfold keyE;congr 1;exact decide_eq_decide.2 (by omega)
theorem WW{key b:List Int}(hk:key.length<NC)(hb:b.length<NC):OD.run .lim (key,b,())=some (if key.length=16\/key.length=32 then(if b.length=16 then 0 else 10)else 13):=by
 simp only[OD.run,ZV hk,ahx,MR hb];unfold keyE;by_cases h1:key.length=16\/key.length=32
 ·rw[MK h1,if_pos h1];by_cases h2:b.length=16
  ·rw[MK (show (b.length:Int)=16 by omega),if_pos h2];rfl
  ·rw[MO (show ¬(b.length:Int)=16 by omega),if_neg h2];rfl
 ·rw[MO h1,if_neg h1];rfl
theorem TR{key b:List Int}(hk:key.length<NC)(hb:b.length<NC)(hkb:Bs key):Om.run .lim (key,b,())=some ((encR key b).1,(encR key b).2,()):=by
 simp only[Om.run,WW hk hb,ahx];unfold encR;by_cases h1:key.length=16\/key.length=32
 ·rw[if_pos h1,if_pos h1];by_cases h2:b.length=16
  ·rw[if_pos h2,if_pos h2,XB h1 hkb];simp only[ahx,Zc h1 hkb h2];rfl
  ·rw[if_neg h2,if_neg h2];rfl
 ·rw[if_neg h1,if_neg h1];rfl
def Ye:Nat->List Int->List Int
 |0,m=>m
 |i+1,m=>bif !decide (rd 0 (m.set i (ahN.wrap (rd 0 m (i:Int)+1))) (i:Int)=0)then m.set i (ahN.wrap (rd 0 m (i:Int)+1))else Ye i (m.set i (ahN.wrap (rd 0 m (i:Int)+1)))
theorem Yf: ∀i m,(Ye i m).length=m.length
 |0,_=>rfl
 |i+1,m=>by
  rw[Ye];cases decide (rd 0 (m.set i (ahN.wrap (rd 0 m (i:Int)+1))) (i:Int)=0)
  ·simp
  ·simp[Yf i]
noncomputable def P5(key at_:List Int):Nat->List Int×List Int
 |0=>([],at_)
 |k+1=>((P5 key at_ k).1++encS key (P5 key at_ k).2,Ye 16 (P5 key at_ k).2)
theorem Rq(key at_:List Int): ∀k,(P5 key at_ k).1.length=16*k/\(P5 key at_ k).2.length=at_.length
 |0=>⟨rfl,rfl⟩
 |k+1=>by
  obtain⟨h1,h2⟩:=Rq key at_ k;exact⟨by rw[P5,ahE,h1,(RJ _ _).1];omega,by rw[P5,Yf,h2]⟩
noncomputable def YU(key at_:List Int)(n:Nat):List Int:=(P5 key at_ ((n+15)/16)).1.take n
theorem Vh(key at_:List Int)(n:Nat):(YU key at_ n).length=n:=by unfold YU;rw[ahG,(Rq _ _ _).1];omega
section
variable {n dn mu sm:Int} {key ta out sb bk w:List Int} {yb rn:List (List Int)}
theorem acD: ∀(i:Nat),i<=16-> ∀(ta:List Int),ta.length=16->ML.l15 .lim (n,(i:Int)-1,key,dn,mu,sm,sb,bk,yb,ta,out,rn,())=some (n,key,dn,mu,sm,sb,bk,yb,Ye i ta,out,rn,())
 |0,_,ta,ht=>by
  rw[ML.q15];simp only[ML.b15,MO (show ¬(((0:Nat):Int)-1>=0) by omega),cond_false];rfl
 |i+1,hi,ta,ht=>by
  have w1:ahw.wrap ((i:Int)-1)=(i:Int)-1:=wrap64 (by omega) (by omega);have ih:=acD i (by omega) (ta.set i (ahN.wrap (rd 0 ta (i:Int)+1))) (by simpa using ht);rw[show ((i+1:Nat):Int)-1=(i:Int) by omega,ML.q15,Ye];simp only[ML.b15,MK (show (i:Int)>=0 by omega),MV (show (0:Int)<=i by omega) (show (i:Int)<16 by omega),cond_true,ahy,w1,ih];cases decide (rd 0 (ta.set i (ahN.wrap (rd 0 ta (i:Int)+1))) (i:Int)=0)<;>rfl
theorem acC: ∀(i:Nat),i<=16-> ∀(ta:List Int),ta.length=16->Ns.l0 .lim (n,out,(i:Int)-1,w,ta,())=some (n,out,w,Ye i ta,())
 |0,_,ta,ht=>by
  rw[Ns.q0];simp only[Ns.b0,MO (show ¬(((0:Nat):Int)-1>=0) by omega),cond_false];rfl
 |i+1,hi,ta,ht=>by
  have w1:ahw.wrap ((i:Int)-1)=(i:Int)-1:=wrap64 (by omega) (by omega);have ih:=acC i (by omega) (ta.set i (ahN.wrap (rd 0 ta (i:Int)+1))) (by simpa using ht);rw[show ((i+1:Nat):Int)-1=(i:Int) by omega,Ns.q0,Ye];simp only[Ns.b0,MK (show (i:Int)>=0 by omega),ait,ht,MV (show (0:Int)<=i by omega) (show (i:Int)<((16:Nat):Int) by omega),cond_true,ahy,w1,ih];cases decide (rd 0 (ta.set i (ahN.wrap (rd 0 ta (i:Int)+1))) (i:Int)=0)<;>rfl
end
def Z9(key at_:List Int)(n:Int):Int:=if n<0\/n>65536 then 13 else if key.length=16\/key.length=32 then(if at_.length=16 then 0 else 10)else 13
noncomputable def Z_(key at_:List Int)(n:Int):List Int:=if Z9 key at_ n=0 then YU key at_ n.toNat else []
theorem acT{key at_:List Int}{q:Nat}(hk:key.length=16\/key.length=32)(hkb:Bs key)(ha:at_.length=16)(hq:q<=65536):
  ML.l16 .lim ((q:Int),key,0,0,0,Oq,Oq,ahz 16 Oq,at_,[],[],())=some ((q:Int),(P5 key at_ ((q+15)/16)).1,()):=by
 have step: ∀(k:Nat) (dn mu:Int) (sb bk:List Int) (yb rn:List (List Int)),k<(q+15)/16->ML.Yg .lim ((P5 key at_ k).2,(q:Int),key,dn,mu,0,sb,bk,yb,(P5 key at_ k).2,(P5 key at_ k).1,rn,())=some ((q:Int),encS key (P5 key at_ k).2,key,1,0,0,Q_ 256,Vs 256,Oe 256,(P5 key at_ k).2,(P5 key at_ k).1,Ph (Qs key),())->
   ML.l16 .lim ((q:Int),key,dn,mu,0,sb,bk,yb,(P5 key at_ k).2,(P5 key at_ k).1,rn,())=ML.l16 .lim ((q:Int),key,1,0,0,Q_ 256,Vs 256,Oe 256,(P5 key at_ (k+1)).2,(P5 key at_ (k+1)).1,Ph (Qs key),()):=by
  intro k dn mu sb bk yb rn hk e;obtain⟨h1,h2⟩:=Rq key at_ k;have hi:=acD (n:=(q:Int)) (dn:=1) (mu:=0) (sm:=0) (key:=key) (sb:=Q_ 256) (bk:=Vs 256) (yb:=Oe 256) (rn:=Ph (Qs key)) (out:=(P5 key at_ k).1++encS key (P5 key at_ k).2) 16 (by omega) (P5 key at_ k).2 (by omega);rw[show ((16:Nat):Int)-1=15 from rfl]at hi;rw[ML.q16];simp only[ML.b16,MR (show (P5 key at_ k).1.length<9223372036854775808 by omega),MK (show (((P5 key at_ k).1.length:Nat):Int)<(q:Int) by omega),cond_true,e,ahx,abh (RJ key (P5 key at_ k).2).1,(RJ key (P5 key at_ k).2).1,hi];rw[cond_pos (MK (by omega))];rfl
 have fin: ∀dn mu sb bk yb rn,ML.l16 .lim ((q:Int),key,dn,mu,0,sb,bk,yb,(P5 key at_ ((q+15)/16)).2,(P5 key at_ ((q+15)/16)).1,rn,())=some ((q:Int),(P5 key at_ ((q+15)/16)).1,()):=by
  intro dn mu sb bk yb rn;obtain⟨h1,h2⟩:=Rq key at_ ((q+15)/16);rw[ML.q16];simp only[ML.b16,MR (show (P5 key at_ ((q+15)/16)).1.length<9223372036854775808 by omega),MO (show ¬(((P5 key at_ ((q+15)/16)).1.length:Nat):Int)<(q:Int) by omega),cond_true,cond_false]
 by_cases h0:q=0
 ·subst h0;exact fin 0 0 Oq Oq (ahz 16 Oq) []
 ·obtain⟨p,hp⟩: ∃p,(q+15)/16=p+1:=⟨(q+15)/16-1,by omega⟩;have e0:=step 0 0 0 Oq Oq (ahz 16 Oq) [] (by omega) (abw (n:=(q:Int)) (sm:=0) (ta:=at_) (out:=[]) hk hkb ha);have e1:=NU (f:=ML.l16 .lim) (fun k=>((q:Int),key,1,0,0,Q_ 256,Vs 256,Oe 256,(P5 key at_ (k+1)).2,(P5 key at_ (k+1)).1,Ph (Qs key),())) (n:=p) (fun k hkp=>step (k+1) 1 0 (Q_ 256) (Vs 256) (Oe 256) (Ph (Qs key)) (by omega) (abv (n:=(q:Int)) (sm:=0) (ta:=(P5 key at_ (k+1)).2) (out:=(P5 key at_ (k+1)).1) hk hkb (by rw[(Rq _ _ _).2];exact ha)));refine e0.trans (e1.trans ?_);rw[<-hp];exact fin _ _ _ _ _ _
theorem YD{key at_:List Int}{n:Int}(hk:key.length<NC)(ha:at_.length<NC)(hkb:Bs key):ML.run .lim (key,at_,n,())=some (Z_ key at_ n,Z9 key at_ n,()):=by
 unfold Z_ Z9;simp only[ML.run,MR hk,MR ha,cond_true,ahK,Ol];by_cases h0:n<0\/n>65536
 ·rw[MK h0,if_pos h0,if_neg (by decide)];rfl
 ·rw[MO h0,if_neg h0];simp only[cond_false];by_cases h1:key.length=16\/key.length=32
  ·have:(!decide ((key.length:Int)=16)&& !decide ((key.length:Int)=32))=false:=by
    rcases h1 with h|h
    ·rw[MK (show (key.length:Int)=16 by omega)];rfl
    ·rw[MK (show (key.length:Int)=32 by omega),ahD,ahR]
   rw[this,if_pos h1];simp only[cond_false];by_cases h2:at_.length=16
   ·rw[MK (show (at_.length:Int)=16 by omega),if_pos h2,if_pos rfl];simp only[ahD,cond_false,h2];have hn:n=((n.toNat:Nat):Int):=by omega
    have hl:=acT (q:=n.toNat) h1 hkb h2 (by omega);rw[<-hn]at hl;rw[show (ah_ 1 16&&ah_ 16 16)=true from rfl,cond_true,ahJ (by omega),hl];simp only[ahx];have:=(Rq key at_ ((n.toNat+15)/16)).1;rw[cond_pos (M_ (by omega) (by omega) (by omega)),ahZ,aiS];rfl
   ·rw[MO (show ¬(at_.length:Int)=16 by omega),if_neg h2,if_neg (by decide)];rfl
  ·rw[MO (show ¬(key.length:Int)=16 by omega),MO (show ¬(key.length:Int)=32 by omega),if_neg h1,if_neg (by decide)];rfl
theorem YR{key at_:List Int}{n:Int}(hk:key.length<NC)(ha:at_.length<NC)(hkb:Bs key):Ns.run .lim (key,at_,n,())=some (Z_ key at_ n,Z9 key at_ n,()):=by
 unfold Z_ Z9;simp only[Ns.run,Ol,WW hk ha,ahx];by_cases h0:n<0\/n>65536
 ·rw[MK h0,if_pos h0,if_neg (show ¬(13:Int)=0 by decide)];rfl
 ·rw[MO h0,if_neg h0];simp only[cond_false];by_cases h1:key.length=16\/key.length=32
  ·rw[if_pos h1];by_cases h2:at_.length=16
   ·rw[if_pos h2,XB h1 hkb];simp only[ahx,decide_true,ahD,cond_false];have hn:n=((n.toNat:Nat):Int):=by omega
    generalize hq:n.toNat=q at hn;subst hn;have e:=NU (f:=Ns.l1 .lim) (fun k=>((q:Int),(P5 key at_ k).1,(Qs key).flatten,(P5 key at_ k).2,())) (n:=(q+15)/16) (fun k hk=>by
     obtain⟨g1,g2⟩:=Rq key at_ k;have hi:=acC (n:=(q:Int)) (w:=(Qs key).flatten) (out:=(P5 key at_ k).1++encS key (P5 key at_ k).2) 16 (by omega) (P5 key at_ k).2 (by omega);rw[show ((16:Nat):Int)-1=15 from rfl]at hi;rw[Ns.q1];simp only[Ns.b1,MR (show (P5 key at_ k).1.length<9223372036854775808 by omega),MK (show (((P5 key at_ k).1.length:Nat):Int)<(q:Int) by omega),cond_true,Zc h1 hkb (show (P5 key at_ k).2.length=16 by omega),ahx,(RJ key (P5 key at_ k).2).1,hi];rw[cond_pos (MK (by unfold maxStr;omega))];rfl)
    rw[show (P5 key at_ 0).1=[]from rfl,show (P5 key at_ 0).2=at_ from rfl]at e;obtain⟨g1,g2⟩:=Rq key at_ ((q+15)/16);rw[e,Ns.q1];simp only[Ns.b1,MR (show (P5 key at_ ((q+15)/16)).1.length<9223372036854775808 by omega),MO (show ¬(((P5 key at_ ((q+15)/16)).1.length:Nat):Int)<(q:Int) by omega),cond_true,cond_false,ahx];rw[cond_pos (M_ (by omega) (by omega) (by omega)),if_pos trivial];congr 2
   ·rw[if_neg h2,if_neg (show ¬(10:Int)=0 by decide)];rfl
  ·rw[if_neg h1,if_neg (show ¬(13:Int)=0 by decide)];rfl
end Go.AM
end
section
namespace Go.AM
theorem acA(n:Int):ah1.wrap n=n%4294967296:=by unfold aiQ;simp[aiO,aiP]
theorem Tq(n:Int):ahC.wrap n=n%18446744073709551616:=by unfold aiQ;simp[aiO,aiP]
theorem aaW{w x y:Nat}(hx:x<2^w)(hy:y<2^w):(ahV w (x:Int) ||| ahV w (y:Int)).toNat=x ||| y:=by
 rw[BitVec.toNat_or,aia,aia];have e: ∀z:Nat,z<2^w->((z:Int)%((2^w:Nat):Int)).toNat=z:=fun z hz=>by rw[<-Int.natCast_emod,ahy,Nat.mod_eq_of_lt hz]
 rw[e x hx,e y hy]
theorem aaV{a b m:Nat}(h:b<2^m):2^m*a ||| b=2^m*a+b:=(Nat.two_pow_add_eq_or_of_lt h a).symm
theorem adK{a b:Nat}(m:Nat)(h:b<2^m)(hm:2^m*a+b<9223372036854775808):KL .i64 ((2^m*a:Nat):Int) (b:Int)=((2^m*a+b:Nat):Int):=by
 show ahw.wrap ((ahV 64 ((2^m*a:Nat):Int) ||| ahV 64 (b:Int)).toNat:Int)=_;have h1:2^m*a<2^64:=ah0 (aiI _ b) (aiF hm (by decide));have h2:b<2^64:=ah0 (aiM _ (2^m*a)) (aiF hm (by decide));rw[aaW h1 h2,aaV h,wrap64 (by omega) (by omega)]
theorem YE{a:Int}(h:B8 a): ∃n:Nat,a=(n:Int)/\n<256:=⟨a.toNat,by have:=h.1;omega,by have:=h.1;have:=h.2;omega⟩
theorem adO{a b:Int}(ha:B8 a)(hb:B8 b):KL .i64 (I_ .i64 (ahw.wrap a) 8) (ahw.wrap b)=a*256+b:=by
 obtain⟨x,rfl,hx⟩:=YE ha;obtain⟨y,rfl,hy⟩:=YE hb;rw[wrap64 (by omega) (by omega),wrap64 (by omega) (by omega)];have e:I_ .i64 (x:Int) 8=((2^8*x:Nat):Int):=by
  show ahw.wrap ((x:Int)*2^8)=_;rw[wrap64 (by omega) (by omega)];omega
 rw[e,adK 8 (by omega) (by omega)];omega
theorem acJ{a b:Int}(ha:B8 a)(hb:B8 b):ahw.wrap (ahw.wrap (ahw.wrap a*256)+ahw.wrap b)=a*256+b:=by
 unfold B8 at ha hb;rw[wrap64 (n:=a) (by omega) (by omega),wrap64 (n:=b) (by omega) (by omega),wrap64 (n:=a*256) (by omega) (by omega),wrap64 (by omega) (by omega)]
theorem Qo(x:Int)(k m:Nat)(K:IntKind)(hm:m<=K.bits):Ja K x (m:Int)=x/2^m:=by
 show x.fdiv (2^min ((m:Int).toNat) K.bits)=_;rw[ahy,aiN hm,Int.fdiv_eq_ediv_of_nonneg _ (by exact Int.le_of_lt (Int.pow_pos (by decide)))]
end Go.AM
end
section
namespace Go.AM
abbrev FF:=Int×List Int
abbrev f0:FF:=((0:Int),([]:List Int))
def OQ(s:List Int):Int:=s.foldl (fun n c=>n*256+c) 0
theorem XG(s:List Int)(c:Int):OQ (s++[c])=OQ s*256+c:=by unfold OQ;rw[List.foldl_append];rfl
theorem Wq{s:List Int}(hs:Bs s): ∀k,k<=s.length->0<=OQ (s.take k)/\OQ (s.take k)<256^k:=by
 intro k
 induction k with
 |zero=>intro _;simp[OQ]
 |succ k ih=>
  intro hk;have h:=ih (by omega);rw[Vk (d:=(0:Int)) (by omega),XG,aiR];have hc:=hs _ (OB (d:=(0:Int)) (i:=(k:Int)) (by omega) (by omega));omega
theorem ade{k:Nat}(h:k<=7):(256:Int)^k<=72057594037927936:=by
 have h1:=aix (n:=256) (by decide) h;have h2:((256^k:Nat):Int)=(256:Int)^k:=by rw[Int.natCast_pow];rfl
 omega
theorem ac_{a b:Nat}(m:Nat)(h:b<2^m)(hm:2^m*a+b<18446744073709551616):KL .u64 ((2^m*a:Nat):Int) (b:Int)=((2^m*a+b:Nat):Int):=by
 show ahC.wrap ((ahV 64 ((2^m*a:Nat):Int) ||| ahV 64 (b:Int)).toNat:Int)=_;rw[aaW (ah0 (aiI _ b) hm) (ah0 (aiM _ (2^m*a)) hm),aaV h,Tq];omega
theorem adk{n c:Int}(h0:0<=n)(h1:n<72057594037927936)(hc:B8 c):KL .u64 (I_ .u64 n 8) (ahC.wrap c)=n*256+c:=by
 obtain⟨x,rfl⟩:=aio h0;obtain⟨y,rfl,hy⟩:=YE hc;have e:I_ .u64 (x:Int) 8=((2^8*x:Nat):Int):=by
  show ahC.wrap ((x:Int)*2^8)=_;rw[Tq];omega
 have e2:ahC.wrap (y:Int)=(y:Int):=by rw[Tq];omega
 rw[e,e2,ac_ 8 (by omega) (by omega)];omega
theorem Yt{s:List Int}(hs:Bs s)(hl:s.length<=8){k:Nat}(hk:k<s.length):KL .u64 (I_ .u64 (OQ (s.take k)) 8) (ahC.wrap (rd 0 s (k:Int)))=OQ (s.take (k+1)):=by
 have hb:=Wq hs k (by omega);have hp:=ade (k:=k) (by omega);rw[adk hb.1 (by omega) (hs _ (OB (by omega) (by omega))),Vk (d:=(0:Int)) hk,XG]
theorem Xb{s:List Int}(hs:Bs s)(hl:s.length<=8):Oc.run .lim (s,())=some (OQ s):=by
 have e:=NU (f:=Oc.l0 .lim) (fun k=>(s,OQ (s.take k),(s.length:Int),(k:Int),())) (n:=s.length) (fun k hk=>by
  rw[Oc.q0];simp only[Oc.b0,MK (show (k:Int)<(s.length:Int) by omega),MV (show (0:Int)<=(k:Int) by omega) (show (k:Int)<(s.length:Int) by omega),cond_true,Qz k (by omega),Yt hs hl hk])
 have e0:Oc.l0 .lim (s,0,(s.length:Int),0,())=Oc.l0 .lim (s,OQ (s.take s.length),(s.length:Int),(s.length:Int),()):=e;simp only[Oc.run,MR (show s.length<9223372036854775808 by omega),cond_true,e0,ahM];rw[Oc.q0];simp only[Oc.b0,MO (show ¬(s.length:Int)<(s.length:Int) by omega),cond_false,ahx]
theorem VA{s:List Int}(hs:Bs s)(hl:s.length<=8):Na.run .lim (s,())=some (OQ s):=by
 have e:=NU (f:=Na.l0 .lim) (fun k=>(s,OQ (s.take k),(k:Int),())) (n:=s.length) (fun k hk=>by
  rw[Na.q0];simp only[Na.b0,MR (show s.length<9223372036854775808 by omega),MK (show (k:Int)<(s.length:Int) by omega),MV (show (0:Int)<=(k:Int) by omega) (show (k:Int)<(s.length:Int) by omega),cond_true,Qz k (by omega),Yt hs hl hk])
 have e0:Na.l0 .lim (s,0,0,())=Na.l0 .lim (s,OQ (s.take s.length),(s.length:Int),()):=e;simp only[Na.run,e0,ahM];rw[Na.q0];simp only[Na.b0,MR (show s.length<9223372036854775808 by omega),MO (show ¬(s.length:Int)<(s.length:Int) by omega),cond_true,cond_false,ahx]
theorem Qe{α:Type}{s:List α}{a b:Nat}{i j:Int}(hi:i=(a:Int))(hj:j=(b:Int)):cut s i j=(s.take b).drop a:=by subst hi;subst hj;rfl
theorem RI{α:Type}{s:List α}{a:Nat}{i:Int}(hi:i=(a:Int)):cut s i (s.length:Int)=s.drop a:=by subst hi;unfold cut;rw[ahy,ahy,ahM]
theorem Bs.take{s:List Int}(h:Bs s)(n:Nat):Bs (s.take n):=fun x hx=>h x (aiw hx)
theorem Bs.drop{s:List Int}(h:Bs s)(n:Nat):Bs (s.drop n):=fun x hx=>h x (aiv hx)
theorem Bs.cut{s:List Int}(h:Bs s)(i j:Int):Bs (cut s i j):=fun x hx=>h x (aiw (aiv hx))
theorem Bs.app{s t:List Int}(h:Bs s)(k:Bs t):Bs (s++t):=fun x hx=>(aiL.1 hx).elim (h x) (k x)
theorem ady{n:Int}(h0:0<=n)(h1:n<9223372036854775808):I9 .i64 n 3=n%4:=by
 obtain⟨x,rfl⟩:=aio h0;show ahw.wrap ((ahV 64 (x:Int) &&& ahV 64 3).toNat:Int)=_;rw[BitVec.toNat_and,aia,show (ahV 64 3).toNat=2^2-1 from rfl,Nat.and_two_pow_sub_one_eq_mod];have e:((x:Int)%((2^64:Nat):Int)).toNat=x:=by omega
 rw[e,wrap64 (by omega) (by omega)];omega
def OC(s:List Int):Nat:=(OQ ((s.take 4).drop 2)).toNat
def Vu(s:List Int):Prop:=s.length<4\/OC s<16\/OC s%4≠0\/OC s>s.length
instance (s:List Int):Decidable (Vu s):=by unfold Vu;exact inferInstance
def fOf(s:List Int):FF:=(OQ (s.take 2),(s.take (OC s)).drop 4)
def UD:Nat->List Int->List FF->List FF×Int
 |0,_,acc=>(acc,0)
 |n+1,s,acc=>if s=[]then(acc,0)else if Vu s then([],10)else if acc.length=16 then([],18)else UD n (s.drop (OC s)) (acc++[fOf s])
theorem XJ{s:List Int}(hs:Bs s)(h:4<=s.length):OQ ((s.take 4).drop 2)=(OC s:Int)/\OC s<65536:=by
 have hb:Bs ((s.take 4).drop 2):=(hs.take 4).drop 2;have hl:((s.take 4).drop 2).length=2:=by rw[ahI,ahG];omega
 have:=Wq hb 2 (by omega);rw[ahJ (by omega)]at this;unfold OC;omega
theorem XZ{s:List Int}(hs:Bs s)(h:2<=s.length):0<=OQ (s.take 2)/\OQ (s.take 2)<65536:=by
 have:=Wq hs 2 (by omega);omega
theorem acs: ∀(n:Nat) (s:List Int) (acc:List FF),s.length<=n->Bs s->s.length<9223372036854775808->acc.length<=16->
  ((Oo.l0 .lim (s,0,acc,())).bind fun g_=>match g_ with
   | .inl (m,m1,())=>some (([]:List FF),m,())
   | .inr (.inl (m2,m3,()))=>some (([]:List FF),m2,())
   | .inr (.inr (m4,m5,()))=>some (m5,0,()))=some ((UD n s acc).1,(UD n s acc).2,()):=by
 intro n
 induction n with
 |zero=>
  intro s acc hn _ _ _;obtain rfl:s=[]:=ahX.1 (by omega);rw[Oo.q0];simp only[Oo.b0,decide_true,ahD,cond_false,ahx,UD]
 |succ n ih=>
  intro s acc hn hs hl ha;rw[Oo.q0];by_cases h0:s=[]
  ·subst h0;simp only[Oo.b0,decide_true,ahD,cond_false,ahx,UD,if_true]
  simp only[Oo.b0,MO h0,ahF,cond_true,MR hl,UD,if_neg h0];by_cases h4:s.length<4
  ·simp only[MO (show ¬(s.length:Int)>=4 by omega),cond_false,ahx];rw[if_pos (show Vu s from .inl h4)]
  ·obtain⟨e1,e2⟩:=XJ hs (by omega);have hc:cut s 2 4=(s.take 4).drop 2:=Qe (a:=2) (b:=4) rfl rfl;have hlen:((s.take 4).drop 2).length<=8:=by rw[ahI,ahG];omega
   have w:ahw.wrap (OC s:Int)=(OC s:Int):=wrap64 (by omega) (by omega);simp only[MK (show (s.length:Int)>=4 by omega),cond_true,M_ (show (0:Int)<=2 by omega) (show (2:Int)<=4 by omega) (show (4:Int)<=(s.length:Int) by omega),hc,Xb ((hs.take 4).drop 2) hlen,ahx,e1,w,ahK];have h3:I9 .i64 (OC s:Int) 3=((OC s%4:Nat):Int):=by rw[ady (by omega) (by omega)];omega
   by_cases hb:Vu s
   ·rw[if_pos hb];have hq:(((decide ((OC s:Int)<16))||(!(decide ((I9 .i64 (OC s:Int) 3)=0))))||(decide ((OC s:Int)>(s.length:Int))))=true:=by
     rw[h3];rcases hb with hb|hb|hb|hb
     ·exact absurd hb h4
     ·simp only[MK (show (OC s:Int)<16 by omega),ahS]
     ·simp only[MO (show ¬((OC s%4:Nat):Int)=0 by omega),ahF,ahK,ahS]
     ·simp only[MK (show (OC s:Int)>(s.length:Int) by omega),ahK]
    simp only[hq,cond_true,ahx]
   ·rw[if_neg hb];unfold Vu at hb;have hq:(((decide ((OC s:Int)<16))||(!(decide ((I9 .i64 (OC s:Int) 3)=0))))||(decide ((OC s:Int)>(s.length:Int))))=false:=by rw[h3,MO (show ¬(OC s:Int)<16 by omega),MK (show ((OC s%4:Nat):Int)=0 by omega),MO (show ¬(OC s:Int)>(s.length:Int) by omega)];rfl
    have hc2:cut s 0 2=s.take 2:=Qe (a:=0) (b:=2) rfl rfl;have hv:=XZ hs (by omega);have w2:ahw.wrap (OQ (s.take 2))=OQ (s.take 2):=wrap64 (by omega) (by omega);have hc3:cut s 4 (OC s:Int)=(s.take (OC s)).drop 4:=Qe (a:=4) (b:=OC s) rfl rfl;have hc4:cut s (OC s:Int) (s.length:Int)=s.drop (OC s):=RI rfl;simp only[hq,cond_false,M_ (show (0:Int)<=0 by omega) (show (0:Int)<=2 by omega) (show (2:Int)<=(s.length:Int) by omega),cond_true,hc2,Xb (hs.take 2) (show (s.take 2).length<=8 by rw[ahG];omega),ahx,w2,
     M_ (show (0:Int)<=4 by omega) (show (4:Int)<=(OC s:Int) by omega) (show (OC s:Int)<=(s.length:Int) by omega),M_ (show (0:Int)<=(OC s:Int) by omega) (show (OC s:Int)<=(s.length:Int) by omega) (show (s.length:Int)<=(s.length:Int) by omega),MR (show acc.length<9223372036854775808 by omega),hc3,hc4]
    by_cases h16:acc.length=16
    ·rw[MK (show (acc.length:Int)=16 by omega),if_pos h16];rfl
    ·rw[MO (show ¬(acc.length:Int)=16 by omega),if_neg h16];simp only[cond_false];rw[cond_pos (MK (by simp;omega))];exact ih (s.drop (OC s)) (acc++[fOf s]) (by rw[ahI];omega) (hs.drop _) (by rw[ahI];omega) (by simp;omega)
theorem abj{s:List Int}(hs:Bs s)(hl:s.length<9223372036854775808):Oo.run .lim (s,())=some ((UD s.length s []).1,(UD s.length s []).2,()):=by
 simp only[Oo.run];exact acs s.length s [] (ahO _) hs hl (by simp)
theorem aa_: ∀(n:Nat) (s:List Int) (acc:List FF),s.length<=n->Bs s->s.length<9223372036854775808->acc.length<=16->
  ((Nu.l0 .lim (s,acc,())).bind fun g_=>match g_ with
   | .inl (t,())=>some (([]:List FF),t,())
   | .inr (.inl (t1,()))=>some (([]:List FF),t1,())
   | .inr (.inr (.inl (t2,())))=>some (([]:List FF),t2,())
   | .inr (.inr (.inr (m,())))=>some (m,0,()))=some ((UD n s acc).1,(UD n s acc).2,()):=by
 intro n
 induction n with
 |zero=>
  intro s acc hn _ _ _;obtain rfl:s=[]:=ahX.1 (by omega);rw[Nu.q0];simp only[Nu.b0,decide_true,ahD,cond_false,ahx,UD]
 |succ n ih=>
  intro s acc hn hs hl ha;rw[Nu.q0];by_cases h0:s=[]
  ·subst h0;simp only[Nu.b0,decide_true,ahD,cond_false,ahx,UD,if_true]
  simp only[Nu.b0,MO h0,ahF,cond_true,MR hl,UD,if_neg h0];by_cases h4:s.length<4
  ·simp only[MK (show (s.length:Int)<4 by omega),cond_true,ahx];rw[if_pos (show Vu s from .inl h4)]
  ·obtain⟨e1,e2⟩:=XJ hs (by omega);have hc:cut s 2 4=(s.take 4).drop 2:=Qe (a:=2) (b:=4) rfl rfl;have hlen:((s.take 4).drop 2).length<=8:=by rw[ahI,ahG];omega
   have w:ahw.wrap (OC s:Int)=(OC s:Int):=wrap64 (by omega) (by omega);simp only[MO (show ¬(s.length:Int)<4 by omega),cond_true,cond_false,M_ (show (0:Int)<=2 by omega) (show (2:Int)<=4 by omega) (show (4:Int)<=(s.length:Int) by omega),hc,VA ((hs.take 4).drop 2) hlen,ahx,e1,w,ahK];have h3:(OC s:Int).tmod 4=((OC s%4:Nat):Int):=by rw[ahA (by omega)];omega
   by_cases hb:Vu s
   ·rw[if_pos hb];have hq:(((decide ((OC s:Int)<16))||(!(decide (((OC s:Int).tmod 4)=0))))||(decide ((OC s:Int)>(s.length:Int))))=true:=by
     rw[h3];rcases hb with hb|hb|hb|hb
     ·exact absurd hb h4
     ·simp only[MK (show (OC s:Int)<16 by omega),ahS]
     ·simp only[MO (show ¬((OC s%4:Nat):Int)=0 by omega),ahF,ahK,ahS]
     ·simp only[MK (show (OC s:Int)>(s.length:Int) by omega),ahK]
    simp only[hq,cond_true,ahx]
   ·rw[if_neg hb];unfold Vu at hb;have hq:(((decide ((OC s:Int)<16))||(!(decide (((OC s:Int).tmod 4)=0))))||(decide ((OC s:Int)>(s.length:Int))))=false:=by rw[h3,MO (show ¬(OC s:Int)<16 by omega),MK (show ((OC s%4:Nat):Int)=0 by omega),MO (show ¬(OC s:Int)>(s.length:Int) by omega)];rfl
    have hc2:cut s 0 2=s.take 2:=Qe (a:=0) (b:=2) rfl rfl;have hv:=XZ hs (by omega);have w2:ahw.wrap (OQ (s.take 2))=OQ (s.take 2):=wrap64 (by omega) (by omega);have hc3:cut s 4 (OC s:Int)=(s.take (OC s)).drop 4:=Qe (a:=4) (b:=OC s) rfl rfl;have hc4:cut s (OC s:Int) (s.length:Int)=s.drop (OC s):=RI rfl;simp only[hq,cond_false,MR (show acc.length<9223372036854775808 by omega),cond_true];by_cases h16:acc.length=16
    ·rw[MK (show (acc.length:Int)=16 by omega),if_pos h16];rfl
    ·rw[MO (show ¬(acc.length:Int)=16 by omega),if_neg h16];simp only[cond_false,cond_true,M_ (show (0:Int)<=0 by omega) (show (0:Int)<=2 by omega) (show (2:Int)<=(s.length:Int) by omega),hc2,VA (hs.take 2) (show (s.take 2).length<=8 by rw[ahG];omega),ahx,w2,
      M_ (show (0:Int)<=4 by omega) (show (4:Int)<=(OC s:Int) by omega) (show (OC s:Int)<=(s.length:Int) by omega),M_ (show (0:Int)<=(OC s:Int) by omega) (show (OC s:Int)<=(s.length:Int) by omega) (show (s.length:Int)<=(s.length:Int) by omega),hc3,hc4]
     rw[cond_pos (MK (by simp;omega))];exact ih (s.drop (OC s)) (acc++[fOf s]) (by rw[ahI];omega) (hs.drop _) (by rw[ahI];omega) (by simp;omega)
theorem aa9{s:List Int}(hs:Bs s)(hl:s.length<9223372036854775808):Nu.run .lim (s,())=some ((UD s.length s []).1,(UD s.length s []).2,()):=by
 simp only[Nu.run];exact aa_ s.length s [] (ahO _) hs hl (by simp)
end Go.AM
end
section
namespace Go.AM
theorem adg{n:Int}:Ja .i64 n 8=n/256:=by
 have:=Qo n 0 8 .i64 (by decide);exact this
def twoS(n:Int):List Int:=[ahN.wrap (Ja .i64 n 8),ahN.wrap n]
theorem OI(n:Int):(twoS n).length=2:=rfl
theorem abk(n:Int):Bs (twoS n):=fun x hx=>by
 unfold twoS at hx;simp only[ah7,ah4,or_false]at hx;rcases hx with rfl|rfl<;>exact Vm _
theorem Zv{t:List Int}(hb:Bs t)(hl:t.length=2):twoS (OQ t)=t:=by
 match t,hl with
 |[a,b],_=>
  have ha:=hb a (.head _);have hb:=hb b (.tail _ (.head _));have e:OQ [a,b]=a*256+b:=by simp[OQ]
  unfold twoS;rw[e,adg,QK,QK];congr 1
  ·omega
  ·congr 1;omega
def U1(f:FF):List Int:=twoS f.1++twoS ((f.2.length:Int)+4)++f.2
def Nl(l:List FF):List Int:=(l.map U1).flatten
theorem Sv(f:FF):(U1 f).length=4+f.2.length:=by simp[U1,twoS];omega
theorem Vt(a b:List FF):Nl (a++b)=Nl a++Nl b:=by simp[Nl]
theorem ZC(f:FF):Nl [f]=U1 f:=by simp[Nl]
theorem SA{l:List FF}{k:Nat}(h:k<l.length):Nl (l.take (k+1))=Nl (l.take k)++U1 (rd f0 l (k:Int)):=by rw[Vk (d:=f0) h,Vt,ZC]
theorem WB(l:List FF)(k:Nat):(Nl (l.take k)).length<=(Nl l).length:=by
 have:Nl l=Nl (l.take k)++Nl (l.drop k):=by rw[<-Vt,ahT]
 rw[this,ahE];omega
structure FOk(f:FF):Prop where
 k0:0<=f.1
 k1:f.1<65536
 l0:12<=f.2.length
 l4:f.2.length%4=0
 l1:f.2.length<65532
 b:Bs f.2
theorem abN{s:List Int}(hs:Bs s)(hb: ¬Vu s):s.take (OC s)=U1 (fOf s)/\FOk (fOf s):=by
 unfold Vu at hb;obtain⟨e1,e2⟩:=XJ hs (by omega);have hv:=XZ hs (by omega);have hlen:((s.take (OC s)).drop 4).length=OC s-4:=by rw[ahI,ahG];omega
 refine⟨?_,⟨hv.1,hv.2,by show 12<=((s.take (OC s)).drop 4).length;omega,by show ((s.take (OC s)).drop 4).length%4=0;omega,by show ((s.take (OC s)).drop 4).length<65532;omega,(hs.take _).drop _⟩⟩;unfold U1 fOf;have h2:twoS ((((s.take (OC s)).drop 4).length:Int)+4)=(s.take 4).drop 2:=by
  rw[hlen,show ((OC s-4:Nat):Int)+4=(OC s:Int) by omega,<-e1];exact Zv ((hs.take 4).drop 2) (by rw[ahI,ahG];omega)
 have h1:twoS (OQ (s.take 2))=s.take 2:=Zv (hs.take 2) (by rw[ahG];omega);show s.take (OC s)=twoS (OQ (s.take 2))++twoS ((((s.take (OC s)).drop 4).length:Int)+4)++(s.take (OC s)).drop 4;rw[h1,h2];have h3:s.take 2++(s.take 4).drop 2=s.take 4:=by
  have:s.take 2=(s.take 4).take 2:=by rw[aiz];rfl
  rw[this,ahT]
 have h4:s.take 4=(s.take (OC s)).take 4:=by rw[aiz,aiN (by omega)]
 rw[h3,h4,ahT]
theorem Zt: ∀(n:Nat) (s:List Int) (acc:List FF),s.length<=n->Bs s->(UD n s acc).2=0-> ∃l,(UD n s acc).1=acc++l/\s=Nl l/\(∀f∈l,FOk f)/\(acc.length<=16->(acc++l).length<=16):=by
 intro n
 induction n with
 |zero=>
  intro s acc hn _ _;obtain rfl:s=[]:=ahX.1 (by omega);exact⟨[],by simp[UD],rfl,fun f hf=>(by cases hf),fun h=>by simpa using h⟩
 |succ n ih=>
  intro s acc hn hs he;by_cases h0:s=[]
  ·subst h0;exact⟨[],by simp[UD],rfl,fun f hf=>(by cases hf),fun h=>by simpa using h⟩
  ·simp only[UD,if_neg h0]at he ⊢
   by_cases hb:Vu s
   ·rw[if_pos hb]at he;exact absurd he (by decide)
   ·rw[if_neg hb]at he ⊢
    by_cases h16:acc.length=16
    ·rw[if_pos h16]at he;exact absurd he (by decide)
    ·rw[if_neg h16]at he ⊢
     obtain⟨e1,e2⟩:=abN hs hb;have hb':=hb;unfold Vu at hb';obtain⟨l,k1,k2,k3,k4⟩:=ih (s.drop (OC s)) (acc++[fOf s]) (by rw[ahI];omega) (hs.drop _) he;refine⟨fOf s::l,by rw[k1,ah2];rfl,?_,fun f hf=> ?_,fun h=> ?_⟩
     ·have:Nl (fOf s::l)=U1 (fOf s)++Nl l:=by simp[Nl]
      rw[this,<-k2,<-e1,ahT]
     ·rcases ah7.1 hf with rfl|hf
      ·exact e2
      ·exact k3 f hf
     ·have:=k4 (by simp;omega);simpa[ah2]using this
def fE(f:FF):Int:=if f.1<0\/f.1>=65536 then 13 else if f.2.length<12\/f.2.length%4≠0 then 10 else 0
def QZ(l:List FF):Int:=if l.length>16 then 18 else match (ahQ l.length).find? (fun k:Nat=> !decide (fE (rd f0 l (k:Int))=0))with
 |some k=>fE (rd f0 l (k:Int))
 |none=>if(Nl l).length>1232 then 12 else 0
def QN(l:List FF):List Int:=if QZ l=0 then Nl l else []
theorem adI{f:FF}(h:FOk f):fE f=0:=by
 unfold fE;rw[if_neg (by have:=h.k0;have:=h.k1;omega),if_neg (by have:=h.l0;have:=h.l4;omega)]
theorem XL{l:List FF}(h: ∀f∈l,FOk f)(h16:l.length<=16)(hl:(Nl l).length<=1232):QZ l=0:=by
 unfold QZ;rw[if_neg (by omega)];have:(ahQ l.length).find? (fun k:Nat=> !decide (fE (rd f0 l (k:Int))=0))=none:=List.find?_eq_none.2 fun k hk=>by
  have hk:=aif.1 hk;rw[MK (adI (h _ (OB (by omega) (by omega))))];simp
 rw[this];simp only;rw[if_neg (by omega)]
def RN(l:List FF):Nat->List Int
 |0=>[]
 |k+1=>if(Nl (l.take (k+1))).length>1232 then RN l k else RN l k++U1 (rd f0 l (k:Int))
theorem Wi{l:List FF}: ∀k,k<=l.length->(Nl (l.take k)).length<=1232->RN l k=Nl (l.take k):=by
 intro k
 induction k with
 |zero=>intro _ _;rfl
 |succ k ih=>
  intro hk h;have e:=SA (l:=l) (k:=k) (by omega);unfold RN;rw[if_neg (by omega),e];rw[ih (by omega) (by rw[e,ahE]at h;omega)]
theorem acB(n:Int):Us.run .lim (n,())=some (twoS n):=rfl
def FL(l:List FF):Prop:=l.length<9223372036854775808/\ ∀f∈l,f.2.length<=140737488351232
theorem Xt{l:List FF}(hl:FL l):OM.run .lim (l,())=some (QN l,QZ l,()):=by
 obtain⟨h1,h2⟩:=hl;simp only[OM.run,MR h1,cond_true];by_cases h16:l.length>16
 ·rw[MK (show (l.length:Int)>16 by omega)];have:QZ l=18:=by unfold QZ;rw[if_pos h16]
  unfold QN;rw[this];rfl
 rw[MO (show ¬(l.length:Int)>16 by omega)];have e:=Qn (f:=OM.l0 .lim) (fun k=>(decide ((Nl (l.take k)).length>1232),l,(l.length:Int),(k:Int),RN l k,())) l.length (fun k:Nat=> !decide (fE (rd f0 l (k:Int))=0))
  (fun k=>if fE (rd f0 l (k:Int))=13 then some (.inl (([]:List Int),13,()))else some (.inr (.inl (([]:List Int),10,())))) (fun k hk=>by
  have hm:=OB (d:=f0) (xs:=l) (i:=(k:Int)) (by omega) (by omega);have hb:=h2 _ hm;rw[OM.q0];generalize hg:rd f0 l (k:Int)=f at hm hb;simp only[OM.b0,MK (show (k:Int)<(l.length:Int) by omega),MV (show (0:Int)<=(k:Int) by omega) (show (k:Int)<(l.length:Int) by omega),cond_true,hg,MR (show f.2.length<9223372036854775808 by omega),ahK];unfold fE;by_cases hk1:f.1<0\/f.1>=65536
  ·rw[if_pos hk1];have:((decide (f.1<0))||(decide (f.1>=65536)))=true:=by rcases hk1 with q|q<;>simp only[MK q,ahS,ahK]
   simp only[this,cond_true];rfl
  ·rw[if_neg hk1];have:((decide (f.1<0))||(decide (f.1>=65536)))=false:=by rw[MO (show ¬f.1<0 by omega),MO (show ¬f.1>=65536 by omega)];rfl
   simp only[this,cond_false];have h3:I9 .i64 (f.2.length:Int) 3=((f.2.length%4:Nat):Int):=by rw[ady (by omega) (by omega)];omega
   by_cases hk2:f.2.length<12\/f.2.length%4≠0
   ·rw[if_pos hk2];have:((decide ((f.2.length:Int)<12))||(!(decide ((I9 .i64 (f.2.length:Int) 3)=0))))=true:=by
     rw[h3];rcases hk2 with q|q
     ·rw[MK (show (f.2.length:Int)<12 by omega)];rfl
     ·rw[MO (show ¬((f.2.length%4:Nat):Int)=0 by omega)];simp
    simp only[this,cond_true];rfl
   ·rw[if_neg hk2];have:((decide ((f.2.length:Int)<12))||(!(decide ((I9 .i64 (f.2.length:Int) 3)=0))))=false:=by rw[h3,MO (show ¬(f.2.length:Int)<12 by omega),MK (show ((f.2.length%4:Nat):Int)=0 by omega)];rfl
    simp only[this,cond_false,decide_true,ahD,cond_false];have es:=SA hk;have el:(Nl (l.take (k+1))).length=(Nl (l.take k)).length+(4+f.2.length):=by rw[es,ahE,Sv,hg]
    have hu: ∀b:Bool,(bif b then some ()else some ())=some ():=fun b=>by cases b<;>rfl
    simp only[hu,ahx,acB];by_cases hlong:(Nl (l.take k)).length>1232
    ·have e1:decide ((Nl (l.take k)).length>1232)=true:=MK hlong;have e2:decide ((Nl (l.take (k+1))).length>1232)=true:=MK (show (Nl (l.take (k+1))).length>1232 by omega);have e3:RN l (k+1)=RN l k:=by rw[RN,if_pos (show (Nl (l.take (k+1))).length>1232 by omega)]
     simp only[e1,e2,e3,ahS,ahD,cond_false,Qz k (by omega)]
    ·have e1:decide ((Nl (l.take k)).length>1232)=false:=MO hlong;have eo:=Wi (l:=l) k (by omega) (by omega);have ew:ahw.wrap ((ahw.wrap (((RN l k).length:Int)+4))+(f.2.length:Int))=((Nl (l.take (k+1))).length:Int):=by rw[eo,wrap64 (n:=((Nl (l.take k)).length:Int)+4) (by omega) (by omega),wrap64 (by omega) (by omega)];omega
     have ed:decide (((Nl (l.take (k+1))).length:Int)>1232)=decide ((Nl (l.take (k+1))).length>1232):=by
      by_cases q:(Nl (l.take (k+1))).length>1232
      ·rw[MK q,MK (show ((Nl (l.take (k+1))).length:Int)>1232 by omega)]
      ·rw[MO q,MO (show ¬((Nl (l.take (k+1))).length:Int)>1232 by omega)]
     simp only[e1,ew,ed,ah6];by_cases hl2:(Nl (l.take (k+1))).length>1232
     ·have e2:decide ((Nl (l.take (k+1))).length>1232)=true:=MK hl2;have e3:RN l (k+1)=RN l k:=by rw[RN,if_pos hl2]
      simp only[e2,e3,ahD,cond_false,Qz k (by omega)]
     ·have e2:decide ((Nl (l.take (k+1))).length>1232)=false:=MO hl2;have e3:RN l (k+1)=RN l k++U1 f:=by rw[RN,if_neg hl2,hg]
      have e4:ahw.wrap ((f.2.length:Int)+4)=(f.2.length:Int)+4:=wrap64 (by omega) (by omega);have e5:GH ((RN l k).length+(twoS f.1++twoS ((f.2.length:Int)+4)++f.2).length)=some ():=by
       have:(twoS f.1++twoS ((f.2.length:Int)+4)++f.2).length=4+f.2.length:=Sv f;rw[this,eo];unfold GH;rw[Nat.ble_eq_true_of_le (show (Nl (l.take k)).length+(4+f.2.length)<=140737488355328 by omega)];rfl
      simp only[e2,e3,e4,ahF,cond_true,Qz k (by omega)];rw[cond_pos (MK (by rw[OI,OI];decide)),cond_pos (MK (by rw[ahE,OI,OI];unfold maxStr;omega)),e5];rfl)
 have e0:OM.l0 .lim (false,l,(l.length:Int),0,([]:List Int),())=_:=e;rw[e0];unfold QN QZ;rw[if_neg h16];cases hq:(ahQ l.length).find? (fun k:Nat=> !decide (fE (rd f0 l (k:Int))=0))with
 |some k=>
  have hk:=aiK hq;simp only[aiG,decide_eq_false_iff_not]at hk;simp only;have:fE (rd f0 l (k:Int))=13\/fE (rd f0 l (k:Int))=10:=by
   unfold fE at hk ⊢
   split
   ·exact .inl rfl
   ·split
    ·exact .inr rfl
    ·rename_i q1 q2;rw[if_neg q1,if_neg q2]at hk;exact absurd rfl hk
  rw[if_neg hk];rcases this with q|q
  ·rw[if_pos q,q];rfl
  ·rw[if_neg (by omega),q];rfl
 |none=>
  simp only[ahM];rw[OM.q0];simp only[OM.b0,MO (show ¬(l.length:Int)<(l.length:Int) by omega),cond_false,ahx];by_cases hl:(Nl l).length>1232
  ·rw[MK hl,if_pos hl];rfl
  ·rw[MO hl,if_neg hl,Wi l.length (ahO _) (by rw[ahM];omega),ahM];rfl
end Go.AM
end
section
namespace Go.AM
abbrev PK:=Int×Int×Int×Int×Int×Int×Int×Int×Int×Int×Int×Int×Int×List FF
abbrev p0:PK:=((0:Int),(0,(0,(0,(0,(0,(0,(0,(0,(0,(0,(0,(0,([]:List FF))))))))))))))
abbrev PK.fs(p:PK):List FF:=p.2.2.2.2.2.2.2.2.2.2.2.2.2
abbrev PK.cut(p:PK)(l:List FF):PK:=(p.1,p.2.1,p.2.2.1,p.2.2.2.1,p.2.2.2.2.1,p.2.2.2.2.2.1,p.2.2.2.2.2.2.1,p.2.2.2.2.2.2.2.1,p.2.2.2.2.2.2.2.2.1,p.2.2.2.2.2.2.2.2.2.1,p.2.2.2.2.2.2.2.2.2.2.1,p.2.2.2.2.2.2.2.2.2.2.2.1,p.2.2.2.2.2.2.2.2.2.2.2.2.1,l)
def Yd(n low high:Int):Bool:=decide (low<=n)&&decide (n<=high)
def XO(p:PK):Bool:=Yd p.1 0 3&&Yd p.2.1 0 7&&Yd p.2.2.1 0 7&&Yd p.2.2.2.1 0 255&&Yd p.2.2.2.2.1 (-128) 127&&Yd p.2.2.2.2.2.1 (-128) 127
def TY(n:Int)(k:Nat):Int:=ahN.wrap (Ja .u64 n (k:Int))
def by4(n:Int):List Int:=[TY n 24,TY n 16,TY n 8,TY n 0]
def by8(n:Int):List Int:=[TY n 56,TY n 48,TY n 40,TY n 32,TY n 24,TY n 16,TY n 8,TY n 0]
def b0S(a b c:Int):Int:=ahN.wrap (KL .i64 (KL .i64 (I_ .i64 a 6) (I_ .i64 b 3)) c)
def ZF(p:PK):List Int:=[b0S p.1 p.2.1 p.2.2.1,ahN.wrap p.2.2.2.1,ahN.wrap p.2.2.2.2.1,ahN.wrap p.2.2.2.2.2.1]++
 (by4 (ahC.wrap p.2.2.2.2.2.2.1)++(by4 (ahC.wrap p.2.2.2.2.2.2.2.1)++(by4 (ahC.wrap p.2.2.2.2.2.2.2.2.1)++(by8 p.2.2.2.2.2.2.2.2.2.1++(by8 p.2.2.2.2.2.2.2.2.2.2.1++(by8 p.2.2.2.2.2.2.2.2.2.2.2.1++by8 p.2.2.2.2.2.2.2.2.2.2.2.2.1))))))
theorem XP(p:PK):(ZF p).length=48:=rfl
def Xc(p:PK):Int:=if XO p=true then QZ p.fs else 13
def VF(p:PK):List Int:=if Xc p=0 then ZF p++Nl p.fs else []
def PY(m:List Int)(bp:Nat)(g:Nat->Int):Nat->List Int
 |0=>m
 |i+1=>(PY m bp g i).set (bp+i) (g i)
theorem QL(m:List Int)(bp:Nat)(g:Nat->Int): ∀i,(PY m bp g i).length=m.length
 |0=>rfl
 |i+1=>by rw[PY,ait,QL m bp g i]
theorem af6{bp bq:Nat}(hb:bp<=48)(hq:bq<=8)(hq0:1<=bq)(n:Int)(f:List Int)(t:List Int)(t3:Int)(m:List Int)(m1 m2 m3 m4 m5 m6 m7 m8 m9 m10 m11 m12 m13:Int)(m14:List FF):
  Nj.l0 .lim ((bp:Int),(bq:Int),n,(bq:Int),0,f,t,t3,m,m1,m2,m3,m4,m5,m6,m7,m8,m9,m10,m11,m12,m13,m14,())=
   some (f,t,t3,m1,m2,m3,m4,m5,m6,m7,m8,m9,m10,m11,m12,m13,m14,PY m bp (fun i=>TY n (8*(bq-1-i))) bq,()):=by
 have e:=NU (f:=Nj.l0 .lim) (fun i=>((bp:Int),(bq:Int),n,(bq:Int),(i:Int),f,t,t3,PY m bp (fun i=>TY n (8*(bq-1-i))) i,m1,m2,m3,m4,m5,m6,m7,m8,m9,m10,m11,m12,m13,m14,())) (n:=bq) (fun i hi=>by
  rw[Nj.q0];have w1:ahw.wrap (8*(ahw.wrap ((ahw.wrap ((bq:Int)-1))-(i:Int))))=((8*(bq-1-i):Nat):Int):=by rw[wrap64 (n:=(bq:Int)-1) (by omega) (by omega),wrap64 (n:=(bq:Int)-1-(i:Int)) (by omega) (by omega),wrap64 (by omega) (by omega)];omega
  have w2:((bp:Int)+(i:Int)).toNat=bp+i:=by omega
  simp only[Nj.b0,MK (show (i:Int)<(bq:Int) by omega),MR (show bq<9223372036854775808 by omega),w1,MK (show (0:Int)<=((8*(bq-1-i):Nat):Int) by omega),MV (show (0:Int)<=(i:Int) by omega) (show (i:Int)<(bq:Int) by omega),cond_true,Qz i (by omega),w2];rfl)
 have e0:Nj.l0 .lim ((bp:Int),(bq:Int),n,(bq:Int),0,f,t,t3,m,m1,m2,m3,m4,m5,m6,m7,m8,m9,m10,m11,m12,m13,m14,())=_:=e;rw[e0,Nj.q0];simp only[Nj.b0,MO (show ¬(bq:Int)<(bq:Int) by omega),cond_false]
theorem af8{bp bq:Nat}(hb:bp<=48)(hq:bq<=8)(hq0:1<=bq)(n:Int)(f:List Int)(t:List Int)(t3:Int)(m:List Int):
  Nj.l2 .lim ((bp:Int),(bq:Int),n,(bq:Int),0,f,t,t3,m,())=some (f,t,t3,PY m bp (fun i=>TY n (8*(bq-1-i))) bq,()):=by
 have e:=NU (f:=Nj.l2 .lim) (fun i=>((bp:Int),(bq:Int),n,(bq:Int),(i:Int),f,t,t3,PY m bp (fun i=>TY n (8*(bq-1-i))) i,())) (n:=bq) (fun i hi=>by
  rw[Nj.q2];have w1:ahw.wrap (8*(ahw.wrap ((ahw.wrap ((bq:Int)-1))-(i:Int))))=((8*(bq-1-i):Nat):Int):=by rw[wrap64 (n:=(bq:Int)-1) (by omega) (by omega),wrap64 (n:=(bq:Int)-1-(i:Int)) (by omega) (by omega),wrap64 (by omega) (by omega)];omega
  have w2:((bp:Int)+(i:Int)).toNat=bp+i:=by omega
  simp only[Nj.b2,MK (show (i:Int)<(bq:Int) by omega),MR (show bq<9223372036854775808 by omega),w1,MK (show (0:Int)<=((8*(bq-1-i):Nat):Int) by omega),MV (show (0:Int)<=(i:Int) by omega) (show (i:Int)<(bq:Int) by omega),cond_true,Qz i (by omega),w2];rfl)
 have e0:Nj.l2 .lim ((bp:Int),(bq:Int),n,(bq:Int),0,f,t,t3,m,())=_:=e;rw[e0,Nj.q2];simp only[Nj.b2,MO (show ¬(bq:Int)<(bq:Int) by omega),cond_false]
theorem abQ(n low high:Int):Qy.run .lim (n,low,high,())=some (Yd n low high):=rfl
theorem af7(f a:List Int)(x0 x1 x2:Int)(ha:a=[x0,x1,x2])(m:List Int)(m1 m2 m3 m4 m5 m6 m7 m8 m9 m10 m11 m12 m13:Int)(m14:List FF):
  Nj.l1 .lim (f,a,0,m1,m2,m3,m4,m5,m6,m7,m8,m9,m10,m11,m12,m13,m14,m,())=
   some (f,m1,m2,m3,m4,m5,m6,m7,m8,m9,m10,m11,m12,m13,m14,
    PY (PY (PY m 4 (fun i=>TY (ahC.wrap x0) (8*(4-1-i))) 4) 8 (fun i=>TY (ahC.wrap x1) (8*(4-1-i))) 4) 12 (fun i=>TY (ahC.wrap x2) (8*(4-1-i))) 4,()):=by
 subst ha;have step: ∀(k:Nat) (hk:k<3) (x:Int) (_:rd 0 [x0,x1,x2] (k:Int)=x) (q:List Int),Nj.l1 .lim (f,[x0,x1,x2],(k:Int),m1,m2,m3,m4,m5,m6,m7,m8,m9,m10,m11,m12,m13,m14,q,())=
   Nj.l1 .lim (f,[x0,x1,x2],((k+1:Nat):Int),m1,m2,m3,m4,m5,m6,m7,m8,m9,m10,m11,m12,m13,m14,PY q (4+4*k) (fun i=>TY (ahC.wrap x) (8*(4-1-i))) 4,()):=by
  intro k hk x hx q;rw[Nj.q1];have w1:ahw.wrap (4+ahw.wrap (4*(k:Int)))=((4+4*k:Nat):Int):=by rw[wrap64 (n:=4*(k:Int)) (by omega) (by omega),wrap64 (by omega) (by omega)];omega
  have w2:ahw.wrap (8+ahw.wrap (4*(k:Int)))=((8+4*k:Nat):Int):=by rw[wrap64 (n:=4*(k:Int)) (by omega) (by omega),wrap64 (by omega) (by omega)];omega
  have w3:((8+4*k:Nat):Int)-((4+4*k:Nat):Int)=((4:Nat):Int):=by omega
  have h:=af6 (bp:=4+4*k) (bq:=4) (by omega) (by omega) (by omega) (ahC.wrap x) f [x0,x1,x2] (k:Int) q m1 m2 m3 m4 m5 m6 m7 m8 m9 m10 m11 m12 m13 m14;simp only[Nj.b1,MK (show (k:Int)<3 by omega),MV (show (0:Int)<=(k:Int) by omega) (show (k:Int)<3 by omega),w1,w2,w3,M_ (show (0:Int)<=((4+4*k:Nat):Int) by omega) (show ((4+4*k:Nat):Int)<=((8+4*k:Nat):Int) by omega) (show ((8+4*k:Nat):Int)<=48 by omega),MR (show 4<9223372036854775808 by decide),cond_true,hx,h,ahx,Qz k (by omega)]
 have s0:=step 0 (by decide) x0 rfl m;have s1:=step 1 (by decide) x1 rfl (PY m 4 (fun i=>TY (ahC.wrap x0) (8*(4-1-i))) 4);have s2:=step 2 (by decide) x2 rfl (PY (PY m 4 (fun i=>TY (ahC.wrap x0) (8*(4-1-i))) 4) 8 (fun i=>TY (ahC.wrap x1) (8*(4-1-i))) 4);refine(s0.trans (s1.trans s2)).trans ?_;rw[Nj.q1];simp only[Nj.b1,MO (show ¬((2+1:Nat):Int)<3 by decide),cond_false]
theorem af9(f a:List Int)(x0 x1 x2 x3:Int)(ha:a=[x0,x1,x2,x3])(m:List Int):
  Nj.l3 .lim (f,a,0,m,())=
   some (f,PY (PY (PY (PY m 16 (fun i=>TY x0 (8*(8-1-i))) 8) 24 (fun i=>TY x1 (8*(8-1-i))) 8) 32 (fun i=>TY x2 (8*(8-1-i))) 8) 40 (fun i=>TY x3 (8*(8-1-i))) 8,()):=by
 subst ha;have step: ∀(k:Nat) (hk:k<4) (x:Int) (_:rd 0 [x0,x1,x2,x3] (k:Int)=x) (q:List Int),Nj.l3 .lim (f,[x0,x1,x2,x3],(k:Int),q,())=
   Nj.l3 .lim (f,[x0,x1,x2,x3],((k+1:Nat):Int),PY q (16+8*k) (fun i=>TY x (8*(8-1-i))) 8,()):=by
  intro k hk x hx q;rw[Nj.q3];have w1:ahw.wrap (16+ahw.wrap (8*(k:Int)))=((16+8*k:Nat):Int):=by rw[wrap64 (n:=8*(k:Int)) (by omega) (by omega),wrap64 (by omega) (by omega)];omega
  have w2:ahw.wrap (24+ahw.wrap (8*(k:Int)))=((24+8*k:Nat):Int):=by rw[wrap64 (n:=8*(k:Int)) (by omega) (by omega),wrap64 (by omega) (by omega)];omega
  have w3:((24+8*k:Nat):Int)-((16+8*k:Nat):Int)=((8:Nat):Int):=by omega
  have h:=af8 (bp:=16+8*k) (bq:=8) (by omega) (by omega) (by omega) x f [x0,x1,x2,x3] (k:Int) q;simp only[Nj.b3,MK (show (k:Int)<4 by omega),MV (show (0:Int)<=(k:Int) by omega) (show (k:Int)<4 by omega),w1,w2,w3,M_ (show (0:Int)<=((16+8*k:Nat):Int) by omega) (show ((16+8*k:Nat):Int)<=((24+8*k:Nat):Int) by omega) (show ((24+8*k:Nat):Int)<=48 by omega),MR (show 8<9223372036854775808 by decide),cond_true,hx,h,ahx,Qz k (by omega)]
 have s0:=step 0 (by decide) x0 rfl m;have s1:=step 1 (by decide) x1 rfl (PY m 16 (fun i=>TY x0 (8*(8-1-i))) 8);have s2:=step 2 (by decide) x2 rfl (PY (PY m 16 (fun i=>TY x0 (8*(8-1-i))) 8) 24 (fun i=>TY x1 (8*(8-1-i))) 8);have s3:=step 3 (by decide) x3 rfl (PY (PY (PY m 16 (fun i=>TY x0 (8*(8-1-i))) 8) 24 (fun i=>TY x1 (8*(8-1-i))) 8) 32 (fun i=>TY x2 (8*(8-1-i))) 8);refine(s0.trans (s1.trans (s2.trans s3))).trans ?_;rw[Nj.q3];simp only[Nj.b3,MO (show ¬((3+1:Nat):Int)<4 by decide),cond_false]
theorem SC{l:List FF}:(QN l).length<=1232:=by
 unfold QN;split
 ·rename_i h;unfold QZ at h;split at h
  ·cases h
  ·split at h
   ·rename_i k hq;have hk:=aiK hq;simp only[aiG,decide_eq_false_iff_not]at hk;exact absurd h hk
   ·split at h
    ·cases h
    ·omega
 ·simp
theorem abd(x0 x1 x2 x3:Int)(a b c d e f g:Nat->Int):
  ((PY (PY (PY (PY (PY (PY (PY (((((ahz 48 (0:Int)).set 0 x0).set 1 x1).set 2 x2).set 3 x3) 4 a 4) 8 b 4) 12 c 4) 16 d 8) 24 e 8) 32 f 8) 40 g 8).drop 0).take 48=
   [x0,x1,x2,x3]++([a 0,a 1,a 2,a 3]++([b 0,b 1,b 2,b 3]++([c 0,c 1,c 2,c 3]++([d 0,d 1,d 2,d 3,d 4,d 5,d 6,d 7]++([e 0,e 1,e 2,e 3,e 4,e 5,e 6,e 7]++([f 0,f 1,f 2,f 3,f 4,f 5,f 6,f 7]++[g 0,g 1,g 2,g 3,g 4,g 5,g 6,g 7])))))):=by kernel_rfl
theorem Xe{p:PK}(hl:FL p.fs):Nj.run .lim (p,())=some (VF p,Xc p,()):=by
 obtain⟨a,b,c,d,e,g,r1,r2,r3,q1,q2,q3,q4,l⟩:=p;simp only[Nj.run,abQ,ahx];unfold VF Xc XO;generalize Yd a 0 3=c1;generalize Yd b 0 7=c2;generalize Yd c 0 7=c3;generalize Yd d 0 255=c4;generalize Yd e (-128) 127=c5;generalize Yd g (-128) 127=c6;cases c1
 ·rfl
 cases c2
 ·rfl
 cases c3
 ·rfl
 cases c4
 ·rfl
 cases c5
 ·rfl
 cases c6
 ·rfl
 simp only[ahD,ahF,cond_true,cond_false,ahx,aib,ahL,if_true];rw[Xt hl];simp only[ahx];have hfl:(QN (PK.fs (a,b,c,d,e,g,r1,r2,r3,q1,q2,q3,q4,l))).length<=1232:=SC;show (bif !decide (QZ l=0)then some (([]:List Int),QZ l,())else _)=some (if QZ l=0 then _ else [],QZ l,());by_cases h0:QZ l=0
 ·rw[MK h0,if_pos h0];simp only[ahD,cond_false];rw[af7 _ ((((ahz 3 (0:Int)).set 0 r1).set 1 r2).set 2 r3) r1 r2 r3 rfl];simp only[ahx];rw[af9 _ (((((ahz 4 (0:Int)).set 0 q1).set 1 q2).set 2 q3).set 3 q4) q1 q2 q3 q4 rfl];simp only[ahx];have hf:QN l=Nl l:=by unfold QN;rw[if_pos h0]
  rw[cond_pos (MK (show _<=maxStr by rw[ahG,ahZ,QL,QL,QL,QL,QL,QL,QL];simp only[ait,ais];unfold maxStr;omega)),h0,abd];have hf:QN (PK.fs (a,b,c,d,e,g,r1,r2,r3,q1,q2,q3,q4,l))=Nl (PK.fs (a,b,c,d,e,g,r1,r2,r3,q1,q2,q3,q4,l)):=hf;rw[hf];rfl
 ·rw[MO h0,if_neg h0];rfl
end Go.AM
end
