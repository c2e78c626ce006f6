import Derived.Test.YtbpfiolmmdmapaaGreatAm2
import Derived.OpenShut
import Derived.ChangeArms
import Derived.WideShapes
import Derived.ChangeSlices
import Derived.SizedLaws
import Derived.Carry
import Derived.JoinedOf
import Derived.ProofKit
import Derived.Laws.LoneSync

/-! An abstract machine over plain data, shown to be sound for the given program model: what it tells is what the call does. -/
set_option linter.unusedSimpArgs false
set_option linter.unusedVariables false
set_option linter.unusedSectionVars false

open Array renaming getElem?_toList->MS,getElem?_eq_some_iff->Nl,getElem?_eq_getElem->NV,ext'->O5
open Bool renaming and_eq_true->ML,false_eq_true->NU,not_eq_true'->Ov,or_eq_true->OG
open Classical renaming choose->Oz
open Go.ChangeShapes renaming trodAll_cons->Nq,trodVars_none->OX,trodAll_mk1->O6
open Go.DataW renaming weightsEach->Nb,TrodAll->Nz,weights->NQ,trod->Oj,weightsAll->OA,trod_lt->O7,Whole->Po
open Go.Extern.Atomic renaming storeT->Pm,update->Pn,loadT->Pq,casT->PD
open Go.Fn.func renaming inj->Pv
open Go.Fn.yield renaming inj->O_
open Go.Frame renaming enter->N_,raise->OH,round->OI
open Go.FrameMode.panicking renaming injEq->NW
open Go.Instr renaming enterLoop->NC,beginRound->OB,yield->OJ,endLoop->O8
open Go.MemPlace renaming cell->NR,row->Pg
open Go.Region renaming wanted->ND
open Go.Result renaming andThen_ok->MZ
open Go.Sem renaming run_bind->Nj,run_pure->Oc
open Go.Value renaming okWide->Nu,func->NZ
open Go.World renaming cells?_some->NJ,cell?_setCells_out->N7,cell?->Px
open Go.stepG renaming apply->Ol,exec->PE
open List renaming mem_append->MN,all_eq_true->MP,flatMap_cons->MQ,length_eq_zero_iff->MV,getElem?_eq_getElem->MX,mem_singleton->Na,length_append->Nc,mem_flatMap->Nh,map_cons->Np,all_cons->Nr,mem_cons->Ns,mem_of_getElem?->Nw,range'->Ny,append_nil->NG,length_map->NH,length->NK,mem_map->NM,any_eq_true->NP,getElem?_eq_some_iff->NY,append_assoc->N8,cons_append->Oa,getElem?_eq_none->Oe,take_append_drop->Og,map_eq_nil_iff->Om,mem_map_of_mem->Oo,getElem?_take->Oq,zip_cons_cons->Ot,getElem?_map->Ox,range->Oy,getElem_mem->OC,length_cons->OD,length_nil->OL,nil_append->OM,drop_take->OY,mem_range->OZ,nodup_nil->O1,take_take->O4
open List.cons renaming injEq->Nv,inj->NS
open Nat renaming eq_of_beq_eq_true->MO,le_refl->MW,beq->M_,blt_eq->N9,div_lt_iff_lt_mul->Oh,le_of_ble_eq_true->Oi,lt_of_lt_of_le->Ou,div_add_mod->OQ,min_eq_left->OU,zero_le->OV,add_zero->Ph,mul_comm->Pj,blt->Py
open Ne renaming symm->Pz
open Option renaming bind_eq_some_iff->NI,map_eq_some_iff->Ob,getD_none->OE,map_some->OW
open Option.some renaming inj->MK,injEq->Nk
open Prod.mk renaming inj->MR,injEq->O9
section
namespace Go.AM
variable [Tabs]
open Go.RowKit
section
variable {P:Program} {S0:Base} {w0:World} {cs0:List Frame} {f:FuncId} {C:Cx} {st:St} {fr:Frame} {cs:List Frame} {a:aA} {aZ:List aA}
theorem bn.push{f:FuncId}{x:aA}{aZ:List aA}(h:bn f aZ):bn f (x::aZ):=by
 cases aZ with
 |nil=>exact h.elim
 |cons b r=>exact h
theorem rO(S:jU P S0 w0 cs0 f C st fr cs)(hs:st.frames=a::aZ){callee:aA}{g:FuncId}{args:List AV}{vs:List Value}(e:aW P g args=some callee)(hv:bg C args vs)
  (hstep:step P (lone fr (cs++cs0) C.w)= .next (lone (N_ P g vs.toArray .normal) (fr::(cs++cs0)) C.w)):
  bI P S0 w0 cs0 f C fr cs (.go {st with frames:=callee::a::aZ}):=by
 obtain⟨ha,has⟩:=S.top hs;have hl:=S.last;rw[hs]at hl;exact⟨C,_,fr::cs,.one hstep,.cons (iU e hv).1 (.cons ha has),S.inv,S.names,hl.push⟩
theorem run_yield{w:World}{c:Nat}{lp:Loop}{vs:List Value}(h:w.heap[c]?=some (.loop lp))(hn:vs.length=lp.params.size):
  (OJ c vs.toArray).run P w= .ok (.round c lp.fn ((lp.params.zip vs.toArray).foldl (fun tmps (t,a)=>tmps.setIfInBounds t a) lp.tmps) lp.assign lp.body) w:=by
 unfold OJ;rw[Nj,run_getLoop h,MZ];have: ¬vs.toArray.size≠lp.params.size:=by simpa using hn
 simp only[this,if_false];rfl
theorem wJ(S:jU P S0 w0 cs0 f C st fr cs)(hs:st.frames=a::aZ){l c:Nat}{args:List AV}{vs:List Value}{out:Out}(e:(zN st a aZ l args).Ev out)(hv:bg C args vs)(hc:eX C l c)
  (hstep: ∀lp tmps,C.w.heap[c]?=some (.loop lp)->(OJ c vs.toArray).run P C.w= .ok (.round c lp.fn tmps lp.assign lp.body) C.w->step P (lone fr (cs++cs0) C.w)= .next (lone (OI c lp.fn tmps lp.assign lp.body .normal) (fr::(cs++cs0)) C.w)):
  bI P S0 w0 cs0 f C fr cs out:=by
 obtain⟨ha,has⟩:=S.top hs;have hl:=S.last;rw[hs]at hl;unfold zN at e;split at e
 ·rename_i s0 pend fn env ps p d hget;split at e
  ·rename_i e' hb;obtain rfl:=F.au e;obtain⟨c',lp,g1,g2,g3,g4,g5,g6,g7,g8,g9,g10,g11,g12,g13⟩:=S.inv.pX hget;obtain rfl:=hc.uniq g1;obtain⟨k1,k2,k3⟩:=zW hb hv g9 g10;have hfold:(lp.params.zip vs.toArray).foldl (fun tmps (t,a)=>tmps.setIfInBounds t a) lp.tmps=(ps.zip vs).foldl (fun tmps (x:Nat×Value)=>tmps.setIfInBounds x.1 x.2) lp.tmps:=by
    rw[g6,<-Array.foldl_toList];simp
   have hrun:=run_yield (P:=P) g2 (vs:=vs) (by rw[g6];simpa using k1.symm);rw[hfold]at hrun;refine⟨C,_,fr::cs,.one (hstep lp _ g2 hrun),.cons ⟨g5,?_,⟨k2,fun m hm=>by simp at hm⟩,?_,.nil,rfl,rfl,⟨c,rfl,hc⟩⟩ (.cons ha has),S.inv,S.names,hl.push⟩
   ·show uj P fn _;simp only[OI];rw[k3];exact g11
   ·simp only[OI,g7,g8];exact .cons .code (.cons .beginRound (.cons .code .nil))
  ·exact(F.ah e).elim
 ·exact(F.ah e).elim
theorem uH(S:jU P S0 w0 cs0 f C st fr cs)(hs:st.frames=a::aZ)(hu:a.un=none){k:List aP}{l:Nat}{pend:Option Jump}{fn:FuncId}{env:Env}{ps:List Nat}{p:Path}{d:Nat}(hit:a.items= .beginRound::k)(hr:a.round=some l)
  (hget:st.hp.get l=some (.loop .ready pend fn env ps p d)):
  bI P S0 w0 cs0 f C fr cs (.go {st with frames:= {a with items:=k}::aZ,hp:=(l,.loop .busy pend fn env ps p d)::st.hp}):=by
 obtain⟨ha,has⟩:=S.top hs;have hl:=S.last;rw[hs]at hl;obtain⟨c',lp,g1,g2,g3,g4,g5,g6,g7,g8,g9,g10,g11,g12,g13⟩:=S.inv.pX hget;have dF:=ha.round;rw[hr]at dF;obtain⟨c,hrc,hname⟩:=dF;obtain rfl:=hname.uniq g1;obtain⟨C1,c1,le1,I1,hn1⟩:=g13 .busy pend;have ht:=ha.todo;rw[hit]at ht;generalize htd:fr.todo=td at ht;cases ht with
 | @cons _ _ _ bs hi hk=>
  cases hi;have hrun:(OB c).run P C.w= .ok () C1.w:=by
   unfold OB;rw[Nj,run_getLoop g2,MZ,Nj,lW g2,MZ,c1,g3];simp only[Oc];rw[<-g4]
  refine⟨C1,{fr with todo:=bs},cs,.one (wY (ha.mode hu) hrc htd hrun),.cons ?_ (has.mono le1),I1,fun y hy=>S.names y (hn1 y hy),hl.head rfl rfl⟩;have hb:=ha.mono le1;exact⟨hb.fn,hb.ok,hb.tmps,hk.mono le1,hb.defers,hb.dh,hb.kind,hb.round⟩
theorem yR(S:jU P S0 w0 cs0 f C st fr cs)(hs:st.frames=a::aZ)(hu:a.un=none){k:List aP}{l:Nat}{s0:LoopState}{pend:Option Jump}{fn:FuncId}{env:Env}{ps:List Nat}{p:Path}{d:Nat}(hit:a.items= .bF l::k)(hnb:s0≠ .busy)
  (hget:st.hp.get l=some (.loop s0 pend fn env ps p d)):
  bI P S0 w0 cs0 f C fr cs (.go {st with frames:= {a with items:=(match (generalizing:=false) pend with|some j=> .jmp j::k|none=>k)}::aZ,hp:=(l,.loop .exhausted pend fn env ps p d)::st.hp}):=by
 obtain⟨ha,has⟩:=S.top hs;have hl:=S.last;rw[hs]at hl;obtain⟨c',lp,g1,g2,g3,g4,g5,g6,g7,g8,g9,g10,g11,g12,g13⟩:=S.inv.pX hget;have ht:=ha.todo;rw[hit]at ht;generalize htd:fr.todo=td at ht;cases ht with
 | @cons _ _ _ bs hi hk=>
  cases hi with
  | @bF _ c hname=>
   obtain rfl:=hname.uniq g1;obtain⟨C1,c1,le1,I1,hn1⟩:=g13 .exhausted pend;have hrun:(O8 c).run P C.w= .ok (pend.map je) C1.w:=by
    unfold O8;rw[Nj,run_getLoop g2,MZ];have:(lp.state== .busy)=false:=by rw[g3];cases s0<;>first|rfl|exact(hnb rfl).elim
    simp only[this,NU,if_false];rw[Nj,lW g2,MZ,c1,<-g4];rfl
   refine⟨C1,_,cs,.one (AB (ha.mode hu) htd hrun),.cons ?_ (has.mono le1),I1,fun y hy=>S.names y (hn1 y hy),hl.head rfl rfl⟩;have hb:=ha.mono le1;refine⟨hb.fn,hb.ok,hb.tmps,?_,hb.defers,hb.dh,hb.kind,hb.round⟩;cases pend with
   |none=>exact hk.mono le1
   |some j=>exact .cons .jmp (hk.mono le1)
end
end Go.AM
end
section
namespace Go.AM
variable [Tabs]
open Go.RowKit
section
variable {P:Program}
theorem EH(fr:Frame)(t:List Item)(d:List Deferred):({fr with todo:=t,defers:=d}:Frame).eval=fr.eval:=by
 funext x;cases x<;>rfl
theorem AP{fr:Frame}{k:List Item}{cs:List Frame}{w w1:World}{f:Operand}{ps:Array Tmp}{KZ body:Code}{l:Nat}{mark:List Deferred}{g:FuncId}{vs:Array Value}
  (hm:fr.mode= .run) (ht:fr.todo= .code (.rangeFunc f ps KZ body)::k)
  (h1:(NC fr.fn fr.tmps ps KZ body fr.roundOf).run P w= .ok (l,mark) w1)
  (h2:(do let d <-resolve fr.eval {callee:= .value f,args:= #[.const (.func (.yield l) #[] #[])],argTypes:= #[]} 0;invoke d.target d.args:Sem Next).run P w1= .ok (.enter g vs) w1):
  step P (lone fr cs w)= .next (lone (N_ P g vs .normal) ({fr with todo:= .inRangeFunc l::k,defers:=mark++fr.defers}::cs) w1):=by
 have he:=EH fr (.inRangeFunc l::k) (mark++fr.defers);rw[<-he]at h2;obtain⟨fn,tmps,todo,defers,mode,kind,ro⟩:=fr;obtain rfl:mode= .run:=hm;obtain rfl:todo=_:=ht;refine step_lone_go ?_;dsimp only at h1 h2;simp[stepG,PE,Ol,h1,h2]
theorem bG{g:FuncId}{args:List AV}{callee:aA}(e:aW P g args=some callee)(vs:Array Value)(w:World):(callFunc g vs).run P w= .ok (.enter g vs) w:=by
 unfold aW at e;split at e
 ·rename_i fn hfn;simp only[cond_eq_ite]at e;split at e
  ·rename_i c hc;split at e
   ·rename_i hok;simp only[ML,Ov,beq_eq_false_iff_ne,ne_eq]at hok;unfold callFunc;have hp:(program:Sem Program).run P w= .ok P w:=rfl;rw[Nj,hp,MZ,hfn];simp only[hc,Option.isNone_some,NU,if_false];rw[if_neg (by simpa using hok.2)];rfl
   ·simp at e
  ·simp at e
 ·simp at e
theorem run_newObj(o:Obj)(w:World):(newObj o).run P w= .ok w.heap.size {w with heap:=w.heap.push o}:=rfl
theorem rZ{ρ:Operand->Value}{f:Operand}{l:Nat}{g:FuncId}{first cap:List Value}(hf:ρ f= .func (.func g) first.toArray cap.toArray):
  (do let d <-resolve ρ {callee:= .value f,args:= #[.const (.func (.yield l) #[] #[])],argTypes:= #[]} 0;invoke d.target d.args:Sem Next)=
   callFunc g (first++[ρ (.const (.func (.yield l) #[] #[]))]++cap).toArray:=by
 have:(first++[ρ (.const (.func (.yield l) #[] #[]))]++cap).toArray=first.toArray++ #[ρ (.const (.func (.yield l) #[] #[]))]++cap.toArray:=by apply O5;simp
 rw[this];have hm: ∀x,Array.map ρ #[x]= #[ρ x]:=fun x=>by simp
 simp only[resolve,hf,hm];rfl
end
section
variable {P:Program} {S0:Base} {w0:World} {cs0:List Frame} {f:FuncId} {C:Cx} {st:St} {fr:Frame} {cs:List Frame} {a:aA} {aZ:List aA}
theorem pG{w:World}{o:Obj}{k:Nat}(h:k<w.heap.size):(w.heap.push o)[k]?=w.heap[k]?:=by rw[Array.getElem?_push,if_neg (by omega)]
theorem Inv.newObj{h:Hp}(I:Inv P S0 w0 C h){b:Nat}{ao:gI}{o:Obj}(hM:C.M b=none)
  (sZ:C.Le ⟨{C.w with heap:=C.w.heap.push o},C.RO,fun x=>if x=b then some ⟨0,some C.w.heap.size,0,true⟩else C.M x⟩->
   kV P ⟨{C.w with heap:=C.w.heap.push o},C.RO,fun x=>if x=b then some ⟨0,some C.w.heap.size,0,true⟩else C.M x⟩ ⟨0,some C.w.heap.size,0,true⟩ ao)
  (hao: ∀T e xs,ao≠ .iZ T e xs:=by intro _ _ _ h;cases h):
  ∃C',C'.w= {C.w with heap:=C.w.heap.push o}/\C.Le C'/\Inv P S0 w0 C' ((b,ao)::h)/\eX C' b C.w.heap.size/\ ∀y,C'.M y≠none->C.M y≠none\/y=b:=by
 have T:=I.make (b:=b) (e':=⟨0,some C.w.heap.size,0,true⟩) (ao:=ao) (w':= {C.w with heap:=C.w.heap.push o}) hM
  (I.below.trans ⟨rfl,rfl,rfl,by simp,fun k hk=>pG (by have:=I.below.size;omega)⟩) (by simp)
  (fun k hk=>pG hk) (fun c hc=>by simp only[Nk]at hc;subst hc;simp) sZ hao
 refine⟨_,rfl,T.1,T.2,⟨⟨0,some C.w.heap.size,0,true⟩,by simp,rfl,rfl⟩,fun y hy=> ?_⟩;by_cases hyb:y=b
 ·exact .inr hyb
 ·exact .inl (by simpa[hyb]using hy)
theorem Dc(S:jU P S0 w0 cs0 f C st fr cs)(hs:st.frames=a::aZ)(hu:a.un=none){p:Path}{fo:Operand}{ps:Array Tmp}{cA cB:Code}{k:List aP}(hit:a.items= .code p::k)(hc:aU P a.fn p= .rangeFunc fo ps cA cB){out:Out}
  (e:(C_ P st a aZ p fo ps.toList k).Ev out):bI P S0 w0 cs0 f C fr cs out:=by
 obtain⟨ha,has⟩:=S.top hs;have hl:=S.last;rw[hs]at hl;have ht:=ha.todo;rw[hit]at ht;generalize htd:fr.todo=td at ht;cases ht with
 | @cons _ _ _ bs hi hk=>
 cases hi;rw[hc]at htd;have hA:aU P a.fn (p++[.l])=cA:=by rw[eY,hc];rfl
 have hB:aU P a.fn (p++[.r])=cB:=by rw[eY,hc];rfl
 have hps: ∀t∈ps.toList,t<fr.tmps.size:=by
  obtain⟨m,hm1,hm2⟩:=qR ha.ok p;rw[hc]at hm2;simp only[bZ,ML,MP,N9]at hm2;exact fun t ht=>Ou (hm2.1.1 t ht) hm1
 have hv:=rH S.inv.tabs ha.tmps.env fr rfl fo;have dF:=ha.round;unfold C_ at e;split at e
 ·rename_i g first cap hfo hr
  rw[hfo]at hv;rw[hr]at dF;have dF:fr.roundOf=none:=dF;generalize hval:fr.eval fo=val at hv;cases hv with
  | @fn _ f' _ _ fs us q h1 h2=>
  cases q;split at e
  ·rename_i callee hen;obtain rfl:=F.au e;have hM1:C.M st.nx=none:=by
    cases hq:C.M st.nx with
    |none=>rfl
    |some en=>exact absurd (S.names st.nx (by rw[hq];simp)) (by omega)
   obtain⟨C1,c1,le1,I1,N1,hn1⟩:=S.inv.newObj (b:=st.nx) (ao:= .deferred false) (o:= .deferred (some [])) hM1 (fun _=>⟨rfl,C.w.heap.size,rfl,by simp⟩);have hM2:C1.M (st.nx+1)=none:=by
    cases hq:C1.M (st.nx+1)with
    |none=>rfl
    |some en=>
     rcases hn1 (st.nx+1) (by rw[hq];simp)with q|q
     ·exact absurd (S.names _ q) (by omega)
     ·omega
   have hsz1:C1.w.heap.size=C.w.heap.size+1:=by rw[c1];simp
   let lp:Loop:= {state:= .ready,pending:=none,fn:=fr.fn,tmps:=fr.tmps,params:=ps,assign:=cA,body:=cB,defers:=C.w.heap.size}
   obtain⟨C2,c2,G7,I2,N2,hn2⟩:=I1.newObj (b:=st.nx+1) (ao:= .loop .ready none a.fn a.env ps.toList p st.nx) (o:= .loop lp) hM2
    (fun le=>⟨rfl,C1.w.heap.size,rfl,lp,by simp,rfl,rfl,ha.fn,by simp[lp],hA.symm,hB.symm,(ha.tmps.env.mono le1).mono le,⟨hps,ha.ok⟩,N1.mono le⟩)
   have hrun1:(NC fr.fn fr.tmps ps cA cB fr.roundOf).run P C.w= .ok (C1.w.heap.size,[{target:= .collected C.w.heap.size,args:= #[]}]) C2.w:=by
    rw[dF,c2,hsz1,c1];unfold NC;simp only[Nj,run_newObj,MZ,Oc];simp[lp]
   have hev: ∀l,fr.eval (.const (.func (.yield l) #[] #[]))=NZ (.yield l) #[] #[]:=fun _=>rfl
   have hrun2:(do let d <-resolve fr.eval {callee:= .value fo,args:= #[.const (.func (.yield C1.w.heap.size) #[] #[])],argTypes:= #[]} 0;invoke d.target d.args:Sem Next).run P C2.w=
     .ok (.enter g (fs++[NZ (.yield C1.w.heap.size) #[] #[]]++us).toArray) C2.w:=by
    rw[rZ hval,hev];exact bG hen _ _
   have le:=le1.trans G7;have hargs:bg C2 (first++[.fn (.yield (st.nx+1)) [] []]++cap) (fs++[NZ (.yield C1.w.heap.size) #[] #[]]++us):=
    ((h1.mono le).append (.cons (.fn (f':= .yield C1.w.heap.size) (aZ:=[]) (bs:=[]) (by obtain⟨en,q1,q2,q3⟩:=N2;exact⟨en,_,q1,q2,q3,rfl⟩) .nil .nil) .nil)).append (h2.mono le)
   have hb:=ha.mono le;refine⟨C2,_,{fr with todo:= .inRangeFunc C1.w.heap.size::bs,defers:= {target:= .collected C.w.heap.size,args:= #[]}::fr.defers}::cs,.one (AP (ha.mode hu) htd hrun1 hrun2),
    .cons (iU hen hargs).1 (.cons ⟨hb.fn,hb.ok,hb.tmps,.cons (.inRange N2) (hk.mono le),.cons (N1.mono G7) hb.defers,hb.dh,hb.kind,hb.round⟩ (has.mono le)),I2,fun y hy=> ?_,(hl.head (a':= {a with items:= .inRange (st.nx+1)::k,marks:= .mark st.nx::a.marks}) rfl rfl).push⟩
   rcases hn2 y hy with q|rfl
   ·rcases hn1 y q with q|rfl
    ·have:=S.names y q;show y<st.nx+2;omega
    ·show st.nx<st.nx+2;omega
   ·show st.nx+1<st.nx+2;omega
  ·exact(F.ah e).elim
 ·rename_i g first cap l hfo hr
  rw[hfo]at hv;rw[hr]at dF;obtain⟨cr,dF,hname⟩:=dF;generalize hval:fr.eval fo=val at hv;cases hv with
  | @fn _ f' _ _ fs us q h1 h2=>
  cases q;split at e
  ·rename_i s0 pend fn env ps0 p0 d hget;split at e
   ·rename_i callee hen;obtain rfl:=F.au e;obtain⟨c',LX,g1,g2,g3,g4,g5,g6,g7,g8,g9,g10,g11,g12,g13⟩:=S.inv.pX hget;obtain rfl:=hname.uniq g1;have hM2:C.M st.nx=none:=by
     cases hq:C.M st.nx with
     |none=>rfl
     |some en=>exact absurd (S.names st.nx (by rw[hq];simp)) (by omega)
    let lp:Loop:= {state:= .ready,pending:=none,fn:=fr.fn,tmps:=fr.tmps,params:=ps,assign:=cA,body:=cB,defers:=LX.defers}
    obtain⟨C2,c2,le,I2,N2,hn2⟩:=S.inv.newObj (b:=st.nx) (ao:= .loop .ready none a.fn a.env ps.toList p d) (o:= .loop lp) hM2
     (fun le=>⟨rfl,C.w.heap.size,rfl,lp,by simp,rfl,rfl,ha.fn,by simp[lp],hA.symm,hB.symm,ha.tmps.env.mono le,⟨hps,ha.ok⟩,g12.mono le⟩)
    have hrun1:(NC fr.fn fr.tmps ps cA cB fr.roundOf).run P C.w= .ok (C.w.heap.size,[]) C2.w:=by
     rw[dF,c2];unfold NC;simp only[Nj,run_getLoop g2,run_newObj,MZ,Oc];simp[lp]
    have hev: ∀l,fr.eval (.const (.func (.yield l) #[] #[]))=NZ (.yield l) #[] #[]:=fun _=>rfl
    have hrun2:(do let d <-resolve fr.eval {callee:= .value fo,args:= #[.const (.func (.yield C.w.heap.size) #[] #[])],argTypes:= #[]} 0;invoke d.target d.args:Sem Next).run P C2.w=
      .ok (.enter g (fs++[NZ (.yield C.w.heap.size) #[] #[]]++us).toArray) C2.w:=by
     rw[rZ hval,hev];exact bG hen _ _
    have hargs:bg C2 (first++[.fn (.yield st.nx) [] []]++cap) (fs++[NZ (.yield C.w.heap.size) #[] #[]]++us):=
     ((h1.mono le).append (.cons (.fn (f':= .yield C.w.heap.size) (aZ:=[]) (bs:=[]) (by obtain⟨en,q1,q2,q3⟩:=N2;exact⟨en,_,q1,q2,q3,rfl⟩) .nil .nil) .nil)).append (h2.mono le)
    have hb:=ha.mono le;refine⟨C2,_,{fr with todo:= .inRangeFunc C.w.heap.size::bs,defers:=[]++fr.defers}::cs,.one (AP (ha.mode hu) htd hrun1 hrun2),
     .cons (iU hen hargs).1 (.cons ⟨hb.fn,hb.ok,hb.tmps,.cons (.inRange N2) (hk.mono le),hb.defers,hb.dh,hb.kind,hb.round⟩ (has.mono le)),I2,fun y hy=> ?_,(hl.head (a':= {a with items:= .inRange st.nx::k}) rfl rfl).push⟩
    rcases hn2 y hy with q|rfl
    ·have:=S.names y q;show y<st.nx+1;omega
    ·show st.nx<st.nx+1;omega
   ·exact(F.ah e).elim
  ·exact(F.ah e).elim
 ·exact(F.ah e).elim
end
end Go.AM
end
section
namespace Go.AM
variable [Tabs]
open Go.RowKit
section
variable {P:Program} {S0:Base} {w0:World} {cs0:List Frame} {f:FuncId} {C:Cx} {st:St} {fr:Frame} {cs:List Frame} {a:aA} {aZ:List aA}
theorem kJ.leaves{u:List (AV×Bool)}{m:FrameMode}(h:kJ C (some u) m):m= .returning\/ ∃es,m= .panicking es:=by
 cases u with
 |nil=>exact .inl h
 |cons x l=>obtain⟨es,h,_⟩:=h;exact .inr ⟨es,h⟩
theorem oJ.Gp: ∀ {l:List (AV×Bool)} {es:List PanicEntry},oJ C l es->es.dropWhile (!·.goexit)=[]
 |_,_,.nil=>rfl
 |_,_,.cons _ h=>by simpa using h.Gp
theorem kJ.raise{b:Frame}{x:List (AV×Bool)}{es:List PanicEntry}(hx:oJ C x es)(hne:x≠[]):
  ∀ {u:Option (List (AV×Bool))},kJ C u b.mode->kJ C (some (x++u.getD [])) (b.raise es).mode:=by
 obtain⟨y,l,rfl⟩:=List.exists_cons_of_ne_nil hne;intro u;unfold OH;generalize hm:b.mode=m;intro h;rcases u with _|_|⟨z,r⟩
 ·have h:m= .run:=h;rw[h];exact⟨es,rfl,by simpa using hx⟩
 ·have h:m= .returning:=h;rw[h];exact⟨es,rfl,by simpa using hx⟩
 ·obtain⟨es',h,k⟩:=h;rw[h];exact⟨es++es',rfl,hx.append k⟩
theorem Gy(b:Frame)(es:List PanicEntry):b.raise es= {b with mode:=(b.raise es).mode}:=by
 unfold OH;split<;>rfl
theorem Dp(S:jU P S0 w0 cs0 f C st fr cs)(hs:st.frames=a::aZ){ch:List (AV×Bool)}(hu:a.un=some ch){out:Out}(e:(zJ P st a aZ ch).Ev out):bI P S0 w0 cs0 f C fr cs out:=by
 obtain⟨ha,has⟩:=S.top hs;have hl:=S.last;rw[hs]at hl;have hm:=ha.dh;rw[hu]at hm;have hm':=hm.leaves;unfold zJ at e;have hd:=ha.defers;split at e
 ·rename_i b ds hmk;rw[hmk]at hd;split at e
  ·rename_i hb;obtain rfl:=F.au e;generalize hq:fr.defers=df at hd;cases hd with
   | @cons _ c _ Ky h1 h2=>
    obtain⟨e1,k1,k2,k3⟩:=h1;obtain⟨e',q1,q2⟩:=S.inv.obj _ _ hb;rw[k1]at q1;obtain rfl:=MK q1;obtain⟨_,c',q3,k4⟩:=q2;rw[k3]at q3;obtain rfl:=MK q3;have k4:C.w.heap[c]?=some (.deferred (some [])):=k4;obtain⟨C1,c1,le,I1,hn⟩:=S.inv.putObj (ao:= .deferred true) (o:= .deferred none) k1 k2 k3 (fun v ro ps q=>by rw[hb]at q;simp at q) (kZ k4 (fun _ _ _ q=>by simp at q))
     (fun _=>⟨k2,c,k3,zk (Nl.1 k4).1⟩)
    have st1:=D8 (P:=P) (cs:=cs++cs0) hm' hq (run_takeDeferred k4);have hbm:=ha.mono le;refine⟨C1,{fr with defers:=Ky},cs,?_,.cons ⟨hbm.fn,hbm.ok,hbm.tmps,hbm.todo,h2.mono le,?_,hbm.kind,hbm.round⟩ (has.mono le),I1,fun y hy=>S.names y (hn y hy),hl.head rfl rfl⟩
    ·rw[c1];exact .one st1
    ·exact hbm.dh
  ·exact(F.ah e).elim
 ·rename_i g args ds hmk;rw[hmk]at hd;split at e
  ·rename_i callee hen;obtain rfl:=F.au e;generalize hq:fr.defers=df at hd;cases hd with
   | @call _ _ vs bs _ Ky h1 h2=>
    have h1':bg C args (vs++bs):=h1;have hrun:=bG hen (vs.toArray++bs.toArray) C.w;have st1:=Gj (P:=P) (cs:=cs++cs0) hm' hq hrun;have harr:vs.toArray++bs.toArray=(vs++bs).toArray:=by apply O5;simp
    rw[harr]at st1;refine⟨C,_,{fr with defers:=Ky}::cs,.one st1,.cons (BX hen h1') (.cons ⟨ha.fn,ha.ok,ha.tmps,ha.todo,h2,ha.dh,ha.kind,ha.round⟩ has),S.inv,S.names,?_⟩;have:=(hl.head (a':= {a with marks:=ds}) rfl rfl);exact this
  ·exact(F.ah e).elim
 ·rename_i hmk;rw[hmk]at hd;have hd0:fr.defers=[]:=by
   generalize fr.defers=df at hd;cases hd;rfl
  split at e
  ·-- a return
   have hm0:fr.mode= .returning:=hm;obtain⟨v,hv,e⟩:=F.bV e;obtain⟨fn,val,hfn,hres,hval⟩:=lS S.inv ha.tmps.env hv;rw[cond_eq_ite]at e;split at e
   ·rename_i hdk;have hkind:fr.kind= .deferred:=by rw[ha.kind,hdk];rfl
    cases has with
    |nil=>exact(F.ah e).elim
    | @cons b bf bs BI hb hbs=>
     simp only at e;split at e
     ·rename_i c' hc';obtain rfl:=F.au e;have st1:=EO (P:=P) (cs:=BI++cs0) (c:=bf) hm0 hkind hd0 (by rw[ha.fn];exact hfn) hres;have hbr:zQ P C c' (xu bf)/\c'.fn=b.fn/\c'.round=b.round/\c'.dk=b.dk:=by
       have hmb:=hb.dh;unfold Iq at hc';split at hc'
       ·rename_i v0 older hbu;obtain rfl:=MK hc';rw[hbu]at hmb;obtain⟨es,h1,h2⟩:=hmb;generalize hes:es=es' at h2;cases h2 with
        | @cons _ _ L9 _ es1 k1 k2=>
         subst hes;have:xu bf= {bf with mode:= .returning}:=by
          unfold xu;rw[h1];simp only[k2.Gp]
         rw[this];exact⟨⟨hb.fn,hb.ok,hb.tmps,hb.todo,hb.defers,rfl,hb.kind,hb.round⟩,rfl,rfl,rfl⟩
       ·rename_i u hnr hbu;obtain rfl:=MK hc';have:xu bf=bf:=by
         unfold xu;split
         ·rename_i v1 gx older h1
          exfalso
          rw[hbu]at hmb;cases u with
          |nil=>rw[show bf.mode= .returning from hmb]at h1;simp at h1
          |cons x l=>
           obtain⟨es,h2,h3⟩:=hmb;rw[h2]at h1;simp only[NW]at h1;subst h1;cases h3;exact hnr _ _ rfl
         ·rfl
        rw[this];exact⟨hb,rfl,rfl,rfl⟩
       ·simp at hc'
      obtain⟨k1,k2,k3,k4⟩:=hbr;exact⟨C,_,BI,.one st1,.cons k1 hbs,S.inv,S.names,bn.head (a:=b) hl k2 k3 k4⟩
     ·exact(F.ah e).elim
   ·rename_i hdk;have hkind:fr.kind= .normal:=by rw[ha.kind];simp only[Bool.not_eq_true]at hdk;rw[hdk];rfl
    have hleave:fr.leaving P C.w (.returned val):=⟨hm0,hd0,hkind,fn,by rw[ha.fn];exact hfn,hres⟩;unfold uG at e;cases has with
    |nil=>
     obtain rfl:=F.au e;exact⟨C,fr,val,.refl P _,ha.fn.trans hl.1,hleave,hval,S.inv⟩
    | @cons b bf bs BI hb hbs=>
     simp only at e;split at e
     ·rename_i b' hb';obtain rfl:=F.au e;obtain⟨k1,k2,k3,k4,k5⟩:=gQ hb hval hb';exact⟨C,bf.finish val,BI,.one (step_leave_returned hleave),.cons k1 hbs,S.inv,S.names,bn.head (a:=b) hl k2 k3 k4⟩
     ·exact(F.ah e).elim
  ·-- panics
   rename_i x l hne;obtain⟨es,h1,h2⟩:=hm;obtain⟨fn,c,hfn,_⟩:=ha.ok;cases has with
   |nil=>exact(F.ah e).elim
   | @cons b bf bs BI hb hbs=>
    simp only at e;obtain rfl:=F.au e;have st1:=step_leave_panicked (P:=P) (fr:=fr) (c:=bf) (cs:=BI++cs0) (w:=C.w) (chain:=es) ⟨h1,hd0,fn,by rw[ha.fn];exact hfn⟩;have hr:=Gy bf es;refine⟨C,bf.raise es,BI,.one st1,.cons ?_ hbs,S.inv,S.names,bn.head (a:=b) hl rfl rfl⟩;have hmr:=kJ.raise (b:=bf) h2 (by simp) hb.dh;have hq:(match b.un with|some l=>l|none=>[])=b.un.getD []:=by cases b.un<;>rfl
    rw[hr];refine⟨hb.fn,hb.ok,hb.tmps,hb.todo,hb.defers,?_,hb.kind,hb.round⟩;show kJ C (some (_++(match b.un with|some l=>l|none=>[]))) _;rw[hq];exact hmr
theorem EZ(t:TypeId)(v:Value)(w:World):(Instr.panic (.iface t v)).run P w= .halt (.panic (.iface t v)) w:=rfl
theorem CY{fr:Frame}{ops:Array Oper}{i:Nat}{rest:List Nat}{k:List Item}{o:Oper}{cs:List Frame}{w:World}{x:Operand}{t:TypeId}{v:Value}(hm:fr.mode= .run)(ht:fr.todo= .inRegion ops (i::rest)::k)
  (ho:ops[i]?=some o) (hw:ND o (yielded ops fr.tmps)=true) (hop:o.op= .panic x) (hx:fr.eval x= .iface t v):
  step P (lone fr cs w)= .next (lone {fr with mode:= .panicking [{v:= .iface t v,recovered:=false}]} cs w):=by
 refine step_lone_go ?_;rw[stepG_op' hm ht ho hw (fun c q=>by rw[hop]at q;simp at q)];have hr:(execOp fr.eval o).run P w= .halt (.panic (.iface t v)) w:=by
  unfold execOp;rw[hop];simp only[hx,Nj,EZ];rfl
 simp[Ol,hr,OH,hm]
theorem BO{fr:Frame}{ops:Array Oper}{i:Nat}{rest:List Nat}{k:List Item}{o:Oper}{cs:List Frame}{w:World}{c:Call}{d:Deferred}(hm:fr.mode= .run)(hro:fr.roundOf=none)(ht:fr.todo= .inRegion ops (i::rest)::k)
  (ho:ops[i]?=some o) (hw:ND o (yielded ops fr.tmps)=true) (hop:o.op= .defer c) (hx:(resolve fr.eval c o.type).run P w= .ok d w):
  step P (lone fr cs w)= .next (lone ({fr with defers:=d::fr.defers}.finish undef) cs w):=by
 have hr:(execOp fr.eval o).run P w= .ok (.defer d) w:=by
  unfold execOp;rw[hop];simp only[Nj,hx,MZ];rfl
 obtain⟨fn,tmps,todo,defers,mode,kind,ro⟩:=fr;obtain rfl:mode= .run:=hm;obtain rfl:todo=_:=ht;obtain rfl:ro=none:=hro;refine step_lone_go ?_;simp only at hw hr;simp only[stepG,PE,stepG.oper,Frame.oper?,ho,hw,OW,Option.getD_some,if_true];simp[Ol,hr]
theorem qc{fr:Frame}{ops:Array Oper}{i:Nat}{rest:List Nat}{k:List Item}{o:Oper}{cs cs':List Frame}{w:World}{c:Call}{v:Value}(hm:fr.mode= .run)(hro:fr.roundOf=none)(ht:fr.todo= .inRegion ops (i::rest)::k)
  (ho:ops[i]?=some o) (hw:ND o (yielded ops fr.tmps)=true) (hop:o.op= .call c) (hc:c.callee= .builtin .recover)
  (hx:tryRecover fr cs=some (v,cs')\/(tryRecover fr cs=none/\v= .nilIface/\cs'=cs)):
  step P (lone fr cs w)= .next (lone (fr.finish v) cs' w):=by
 refine step_lone_go ?_;rw[stepG_op' hm ht ho hw (fun c q=>by rw[hop]at q;simp at q)];have hr:(execOp fr.eval o).run P w= .ok .recover w:=by
  unfold execOp;rw[hop];simp only[resolve,hc,Nj,Oc,MZ];rfl
 simp only[Ol,Sem.runT_eq,hr,if_true,hro];rcases hx with hx|⟨hx,rfl,rfl⟩
 ·rw[hx];rfl
 ·rw[hx];rfl
theorem GY(S:jU P S0 w0 cs0 f C st fr cs)(hs:st.frames=a::aZ)(hu:a.un=none){p:Path}{i:Nat}{r:List Nat}{k:List aP}(hit:a.items= .inRegion p (i::r)::k){id:Nat}{ops:Array Oper}{d:Bool}(hc:aU P a.fn p= .region id ops d)(hbar:(!d||kQ ops i)=true)
  {o:Oper} (ho:ops[i]?=some o) (hg:o.guard=none) {out:Out} (e:(GX P st a aZ o.op).Ev out):bI P S0 w0 cs0 f C fr cs out:=by
 obtain⟨ha,has⟩:=S.top hs;have hl:=S.last;rw[hs]at hl;have ht:=ha.todo;rw[hit]at ht;generalize htd:fr.todo=td at ht;cases ht with
 | @cons _ _ _ bs hi hk=>
 obtain⟨l0,rfl,hi'⟩:=hi.head hc hbar;have hm:=ha.mode hu;have hw:ND o (yielded ops fr.tmps)=true:=jH hg;have hev: ∀x,VR C (aS a.env a.aI none x) (fr.eval x):=fun x=>jZ S.inv.tabs ha.tmps fr rfl x
 unfold GX at e;rw[cond_eq_ite]at e;split at e
 ·exact(F.ah e).elim
 rename_i dF;have har:a.round=none:=by cases hq:a.round with|none=>rfl|some _=>rw[hq]at dF;simp at dF
 have hro:fr.roundOf=none:=by have:=ha.round;rw[har]at this;exact this
 split at e
 ·rename_i x hop;have hx:=hev x;split at e
  ·rename_i t v hq;rw[hq]at hx;obtain rfl:=F.au e;generalize hval:fr.eval x=val at hx;cases hx with
   |iface hv=>
    refine⟨C,_,cs,.one (CY hm htd ho hw hop hval),.cons ⟨ha.fn,ha.ok,ha.tmps,ha.todo,ha.defers,⟨_,rfl,.cons (.iface hv) .nil⟩,ha.kind,ha.round⟩ has,S.inv,S.names,hl.head rfl rfl⟩
  ·exact(F.ah e).elim
 ·rename_i c hop;split at e
  ·rename_i fo sW;have hx:=hev fo;split at e
   ·rename_i g first cap hq
    rw[hq]at hx;split at e
    ·rename_i fr' hfin;obtain rfl:=F.au e;generalize hval:fr.eval fo=val at hx;cases hx with
     | @fn _ f' _ _ Fv bs' q h1 h2=>
      cases q;have hres:(resolve fr.eval c o.type).run P C.w= .ok {target:= .fn (.func g) bs'.toArray,args:=(Fv++c.args.toList.map fr.eval).toArray} C.w:=by
       have hq2:(Fv++c.args.toList.map fr.eval).toArray=Fv.toArray++c.args.map fr.eval:=by apply O5;simp
       rw[hq2];simp only[resolve,sW,hval];rfl
      have st1:=BO (P:=P) (cs:=cs++cs0) hm hro htd ho hw hop hres;have hmarks:bg C (first++c.args.toList.map (aS a.env a.aI none)++cap) ((Fv++c.args.toList.map fr.eval)++bs'):=(h1.append (bg.map hev _)).append h2;have hF:zQ P C {a with marks:= .call g (first++c.args.toList.map (aS a.env a.aI none)++cap)::a.marks} {fr with defers:= {target:= .fn (.func g) bs'.toArray,args:=(Fv++c.args.toList.map fr.eval).toArray}::fr.defers}:=
       ⟨ha.fn,ha.ok,ha.tmps,ha.todo,.call hmarks ha.defers,ha.dh,ha.kind,ha.round⟩
      obtain⟨k1,k2,k3,k4,k5⟩:=gQ hF (VR.junk undef) hfin;exact⟨C,_,cs,.one st1,.cons k1 has,S.inv,S.names,bn.head (a:=a) hl k2 k3 k4⟩
    ·exact(F.ah e).elim
   ·exact(F.ah e).elim
  ·exact(F.ah e).elim
 ·rename_i c hop;split at e
  ·rename_i sW;have nil: ∀ {fr':aA},jw P a .nilIface=some fr'->tryRecover fr (cs++cs0)=none->bI P S0 w0 cs0 f C fr cs (.go {st with frames:=fr'::aZ}):=by
    intro fr' hfin hn;obtain⟨k1,k2,k3,k4,k5⟩:=gQ ha (VR.nilIface (C:=C)) hfin;exact⟨C,_,cs,.one (qc hm hro htd ho hw hop sW (.inr ⟨hn,rfl,rfl⟩)),.cons k1 has,S.inv,S.names,bn.head (a:=a) hl k2 k3 k4⟩
   split at e
   ·rename_i g gs hdk;have hkind:fr.kind= .deferred:=by rw[ha.kind,hdk];rfl
    cases has with
    | @cons _ bf _ BI hb hbs=>
    have hmb:=hb.dh;split at e
    ·rename_i v older hun;rw[hun]at hmb;obtain⟨es,h1,h2⟩:=hmb;split at e
     ·rename_i fr' hfin;obtain rfl:=F.au e;cases h2 with
      | @cons _ _ val _ es1 q1 q2=>
       obtain⟨k1,k2,k3,k4,k5⟩:=gQ ha q1 hfin;have hrec:tryRecover fr ((bf::BI)++cs0)=some (val,({bf with mode:= .panicking ({v:=val,recovered:=true}::es1)}::BI)++cs0):=by
        unfold tryRecover;rw[hkind];simp only[Oa,h1]
       refine⟨C,_,{bf with mode:= .panicking ({v:=val,recovered:=true}::es1)}::BI,.one (qc hm hro htd ho hw hop sW (.inl hrec)),.cons k1 (.cons ⟨hb.fn,hb.ok,hb.tmps,hb.todo,hb.defers,⟨_,rfl,.cons q1 q2⟩,hb.kind,hb.round⟩ hbs),S.inv,S.names,?_⟩;have h0:bn f (fr'::g::gs):=bn.head (a:=a) hl k2 k3 k4;have h3:bn f (g::gs):=h0;show bn f ({g with un:=some ((v,true)::older)}::gs);exact bn.head (a:=g) h3 rfl rfl
     ·exact(F.ah e).elim
    ·rename_i hno;split at e
     ·rename_i fr' hfin;obtain rfl:=F.au e;refine nil hfin ?_;unfold tryRecover;rw[hkind];simp only[Oa];split
      ·rename_i v0 older h1
       exfalso
       cases hbu:g.un with
       |none=>rw[hbu]at hmb;rw[show bf.mode= .run from hmb]at h1;simp at h1
       |some u=>
        rw[hbu]at hmb;cases u with
        |nil=>rw[show bf.mode= .returning from hmb]at h1;simp at h1
        |cons x l=>
         obtain⟨es,h2,h3⟩:=hmb;rw[h2]at h1;simp only[NW]at h1;subst h1;cases h3;exact hno _ _ hbu
      ·rfl
     ·exact(F.ah e).elim
   ·rename_i fF _ _ hno;split at e
    ·rename_i fr' hfin;obtain rfl:=F.au e;refine nil hfin ?_;cases hdk:a.dk with
     |false=>
      have hkind:fr.kind= .normal:=by rw[ha.kind,hdk];rfl
      unfold tryRecover;rw[hkind]
     |true=>
      exfalso
      cases JB:fF with
      |nil=>rw[JB]at hl;rw[hl.2.2]at hdk;simp at hdk
      |cons g gs=>exact hno g gs hdk JB
    ·exact(F.ah e).elim
  ·exact(F.ah e).elim
 ·exact(F.ah e).elim
end
end Go.AM
end
section
namespace Go.AM
variable [Tabs]
open Go.RowKit
section
variable {P:Program} {S0:Base} {w0:World} {cs0:List Frame} {f:FuncId} {C:Cx} {st:St} {fr:Frame} {cs:List Frame} {a:aA} {aZ:List aA} {Φ:iL} {inl:FuncId->Bool}
theorem bP.self(h:Hp):bP h h:=fun _ _ q=>q
theorem uj.op{n:Nat}(h:uj P f n){p:Path}{id:Nat}{ops:Array Oper}{d:Bool}(hc:aU P f p= .region id ops d){i:Nat}{o:Oper}(ho:ops[i]?=some o):
  (∀t,o.dst=some t->t<n)/\ ∀j want oj tg,o.guard=some (j,want)->ops.toList[j]?=some oj->oj.dst=some tg->o.dst≠some tg:=by
 obtain⟨m,hm1,hm2⟩:=qR h p;rw[hc]at hm2;have hb:=MP.1 hm2 o (by rw[<-MS]at ho;exact Nw ho);simp only[ML,Ov]at hb;refine⟨fun t hd=> ?_,fun j want oj tg hg hj ht hd=> ?_⟩
 ·have:=hb.1;rw[hd]at this;simp only[N9]at this;exact Ou this hm1
 ·have:=hb.2;simp only[fO,hg,hj,ht,hd,OW,hits]at this;simp at this
theorem ER(O:bW P S0 w0 Φ)(S:jU P S0 w0 cs0 f C st fr cs)(hs:st.frames=a::aZ)(hu:a.un=none){p:Path}{i:Nat}{r:List Nat}{k:List aP}(hit:a.items= .inRegion p (i::r)::k){id:Nat}{ops:Array Oper}{d:Bool}(hc:aU P a.fn p= .region id ops d)(hbar:(!d||kQ ops i)=true)
  {o:Oper} (ho:ops[i]?=some o) {s:RS} (e:(Ec P Φ ops.toList o st.nx ⟨a.env,a.aI,st.hp⟩).Ev s):
  bI P S0 w0 cs0 f C fr cs (.go {frames:= {a with env:=s.env,aI:=s.aI,items:= .inRegion p r::k}::aZ,hp:=s.hp,nx:=st.nx+1}):=by
 obtain⟨ha,has⟩:=S.top hs;have hl:=S.last;rw[hs]at hl;have ht:=ha.todo;rw[hit]at ht;generalize htd:fr.todo=td at ht;cases ht with
 | @cons _ _ _ bs hi hk=>
 obtain⟨l,rfl,hi'⟩:=hi.head hc hbar;unfold Ec at e;obtain⟨x,hx,e⟩:=F.bV e;obtain rfl:=F.au e;have hM:C.M st.nx=none:=by
  cases hq:C.M st.nx with
  |none=>rfl
  |some en=>exact absurd (S.names st.nx (by rw[hq];simp)) (by omega)
 obtain⟨k1,k2⟩:=ha.ok.op hc ho;obtain⟨C1,Et,st1,le,hsz,hT,I1,hn⟩:=uV (cs:=cs++cs0) S.inv hM (bP.self _) O ha.tmps (ha.mode hu) ha.F8 htd ho k1 k2 hx;have hb:=ha.mono le;exact⟨C1,_,cs,st1,.cons ⟨hb.fn,by show uj P a.fn Et.size;rw[hsz];exact hb.ok,hT,.cons (hi'.mono le) (hk.mono le),hb.defers,hb.dh,hb.kind,hb.round⟩ (has.mono le),I1,fun y hy=>by
  rcases hn y hy with q|rfl
  ·have:=S.names y q;show y<st.nx+1;omega
  ·show st.nx<st.nx+1;omega,hl.head rfl rfl⟩
theorem Bj(S:jU P S0 w0 cs0 f C st fr cs)(hs:st.frames=a::aZ)(hu:a.un=none){p:Path}{i:Nat}{r:List Nat}{k:List aP}(hit:a.items= .inRegion p (i::r)::k){id:Nat}{ops:Array Oper}{d:Bool}(hc:aU P a.fn p= .region id ops d)(hbar:(!d||kQ ops i)=true)
  {o:Oper} (ho:ops[i]?=some o) {j:Nat} {want:Bool} {oj:Oper} {tg:Nat} (hg:o.guard=some (j,want)) (hj:ops.toList[j]?=some oj) (vF:oj.dst=some tg) (hgo:guardOf a.env a.aI tg want=some false) {out:Out}
  (e:(Ej P st a aZ o tg want false (.inRegion p r::k)).Ev out):bI P S0 w0 cs0 f C fr cs out:=by
 obtain⟨ha,has⟩:=S.top hs;have hl:=S.last;rw[hs]at hl;have ht:=ha.todo;rw[hit]at ht;generalize htd:fr.todo=td at ht;cases ht with
 | @cons _ _ _ bs hi hk=>
 obtain⟨l,rfl,hi'⟩:=hi.head hc hbar;unfold Ej at e;obtain rfl:=F.au e;obtain⟨k1,k2⟩:=ha.ok.op hc ho;have hiff:=iy ha.tmps hgo;have hwant:=jI (ops:=ops) (tmps:=fr.tmps) hg hj vF;have hh:ND o (yielded ops fr.tmps)=false:=by
  cases hx:ND o (yielded ops fr.tmps)with
  |false=>rfl
  |true=>exact(Bool.false_ne_true (hiff.2 (hwant.1 hx))).elim
 have st1:Steps P (lone fr (cs++cs0) C.w) (lone (fr.finish undef) (cs++cs0) C.w):= .one (lZ (ha.mode hu) htd ho hh);rw[jL (v:=undef) htd ho]at st1;cases hdst:o.dst with
 |none=>
  rw[hdst]at st1;exact⟨C,_,cs,st1,.cons ⟨ha.fn,ha.ok,ha.tmps,.cons hi' hk,ha.defers,ha.dh,ha.kind,ha.round⟩ has,S.inv,fun y hy=>by have:=S.names y hy;show y<st.nx+1;omega,hl.head rfl rfl⟩
 |some d=>
  rw[hdst]at st1;exact⟨C,_,cs,st1,.cons ⟨ha.fn,by show uj P a.fn _;simpa using ha.ok,ha.tmps.gq (k1 d hdst) (fun q=>k2 _ _ _ _ hg hj vF (by rw[hdst,q])) hiff (fun q=>by simp at q) (fun _=>rfl),.cons hi' hk,ha.defers,ha.dh,ha.kind,ha.round⟩ has,S.inv,fun y hy=>by have:=S.names y hy;show y<st.nx+1;omega,hl.head rfl rfl⟩
theorem xq{ops:Array Oper}(h:IC ops=true):Kv ops:=fun i o e ho he hb=>by
 have hi:=(Nl.1 ho).1;have:=MP.1 h i (OZ.2 hi);rw[ho]at this;have:=MP.1 this e.on (kY.2 ⟨e,he,hb,rfl⟩);simpa using this
theorem Aw{ops:Array Oper}{nx k n:Nat}{s0:RS}{T:Tr}(R:Runs P Φ ops.toList nx k s0 T)(hn:T.length<=n)(h:CB ops (Ny k n) s0.aI=true):uh s0 T:=by
 intro x hx d hd m hm hq;have hi:x.1.i∈Ny k n:=by
  rw[List.mem_range'_1];have:=R.ge x hx;have:=R.lt x hx;omega
 have:=MP.1 h _ hi;obtain⟨B,hB,_,_,_⟩:=R.part x hx;cases hB with
 | @cons B o e hB a bb c dd=>
  rw[MS]at a;have this:(match ops[k+B.length]? with|some o=>s0.aI.all fun m=> !hits o.dst (some m.tg)|none=>true)=true:=this;rw[a]at this;have:=MP.1 this m hm;have hd:o.dst=some d:=hd;rw[hd,hq]at this;simp[hits]at this
theorem nD{ops:List Oper}{nx k m:Nat}{s0 s':RS}(e:(iQ P Φ ops k (Ny k m) nx [] s0).Ev s'): ∃T,Runs P Φ ops nx k s0 T/\T.length=m/\s'=aV s0 T:=by
 obtain⟨T,R,hl,hs⟩:=oU (T:=[]) m .nil e;exact⟨T,R,by simpa using hl,hs⟩
theorem EG(O:bW P S0 w0 Φ)(S:jU P S0 w0 cs0 f C st fr cs)(hs:st.frames=a::aZ)(hu:a.un=none){p:Path}{k:List aP}(hit:a.items= .code p::k){id:Nat}{ops:Array Oper}(hc:aU P a.fn p= .region id ops true)
  (vC:nX P ops=true) {s:RS} (e:(iQ P Φ ops.toList 0 (Ny 0 (ops.size-0)) st.nx [] ⟨a.env,[],st.hp⟩).Ev s):
  bI P S0 w0 cs0 f C fr cs (.go {frames:= {a with env:=s.env,aI:=[],items:=k}::aZ,hp:=s.hp,nx:=st.nx+ops.size}):=by
 obtain⟨ha,has⟩:=S.top hs;have hl:=S.last;rw[hs]at hl;have ht:=ha.todo;rw[hit]at ht;generalize htd:fr.todo=td at ht;cases ht with
 | @cons _ _ _ bs hi hk=>
 cases hi;rw[hc]at htd;obtain⟨T,R,hlen,rfl⟩:=nD e;have hlen:T.length=ops.size:=by simpa using hlen
 have hK:uh (⟨a.env,[],st.hp⟩:RS) T:=fun x _ d _ m hm=>by simp at hm
 have hU:UM (⟨a.env,[],st.hp⟩:RS).aI:=fun m hm=>by simp at hm
 have qK:Kv ops:=fun i o e ho he hb=>R.acyclic i o e (OV _) (by
  have:=(Nl.1 ho).1;omega) (by rwa [MS]) he hb
 have zH:=nK (t:=C.w.tape C.w.drawn (.order fr.fn id)) vC qK;obtain⟨le0,I0⟩:=S.inv.still (w':= {C.w with drawn:=C.w.drawn+1}) rfl (S.inv.below.trans ⟨rfl,rfl,rfl,MW _,fun _ _=>rfl⟩);obtain⟨C2,Bq,pre2,l2,st2,GV,hp2,G7,hsz2,hE,I2,hn2⟩:=Ad (fr:= {fr with todo:= .inRegion ops (Region.schedule (P.follows .mixedOrders) ops (C.w.tape C.w.drawn (.order fr.fn id)))::bs}) (k:=bs) (cs:=cs++cs0) (C:=⟨{C.w with drawn:=C.w.drawn+1},C.RO,C.M⟩) (n:=fr.tmps.size) (b:=ops.size)
  R (by omega) (MW _) hK hU O (fun i o d ho hd=>(ha.ok.op hc ho).1 d hd) (fun i o ho=>(ha.ok.op hc ho).2) (.inl rfl) zH (pd:=[]) (D:=[])
  ⟨rfl,fun x hx=>by simp at hx,O1,fun x hx=>by simp at hx,.nil⟩ (fun i=>by simp) (fun i hi=>by simp at hi) ⟨(ha.tmps.mono le0).env,fun m hm=>by simp[aV]at hm⟩ I0 (MW _) (ha.mode hu) ha.F8 rfl
  (fun y hy=> .inl (S.names y hy))
 have le:=le0.trans G7;have hb:=ha.mono le;have hnil:l2=[]:=by
  cases GV with
  |nil=>rfl
  | @cons _ j l hj hn _ _=>exact(hn ((hp2 j).2 hj)).elim
 subst hnil;refine⟨C2,_,cs,.head (D6 (ha.mode hu) htd) (st2.trans (.one (jS (ha.mode hu) rfl))),.cons ⟨hb.fn,by show uj P a.fn Bq.size;rw[hsz2];exact hb.ok,⟨hE.env,fun m hm=>by simp at hm⟩,hk.mono le,hb.defers,hb.dh,hb.kind,hb.round⟩ (has.mono le),I2,hn2,hl.head rfl rfl⟩
theorem wR(S:jU P S0 w0 cs0 f C st fr cs)(hs:st.frames=a::aZ)(hu:a.un=none){p:Path}{k:List aP}(hit:a.items= .code p::k){id:Nat}{ops:Array Oper}(hc:aU P a.fn p= .region id ops true)
  (vC:nX P ops=true) (qK:IC ops=true):
  bI P S0 w0 cs0 f C fr cs (.go {st with frames:= {a with aI:=[],items:= .inRegion p (Ny 0 (ops.size-0))::k}::aZ}):=by
 obtain⟨ha,has⟩:=S.top hs;have hl:=S.last;rw[hs]at hl;have ht:=ha.todo;rw[hit]at ht;generalize htd:fr.todo=td at ht;cases ht with
 | @cons _ _ _ bs hi hk=>
 cases hi;rw[hc]at htd;have zH:=nK (t:=C.w.tape C.w.drawn (.order fr.fn id)) vC (xq qK);obtain⟨le,I0⟩:=S.inv.still (w':= {C.w with drawn:=C.w.drawn+1}) rfl (S.inv.below.trans ⟨rfl,rfl,rfl,MW _,fun _ _=>rfl⟩);have hb:=ha.mono le;exact⟨⟨{C.w with drawn:=C.w.drawn+1},C.RO,C.M⟩,_,cs,.one (D6 (ha.mode hu) htd),.cons ⟨hb.fn,hb.ok,⟨hb.tmps.env,fun m hm=>by simp at hm⟩,.cons (.iM hc rfl zH (fun i=>by simp) (xq qK) (OV _)) (hk.mono le),hb.defers,hb.dh,hb.kind,hb.round⟩ (has.mono le),I0,S.names,hl.head rfl rfl⟩
theorem yQ(O:bW P S0 w0 Φ)(S:jU P S0 w0 cs0 f C st fr cs)(hs:st.frames=a::aZ)(hu:a.un=none){p:Path}{i:Nat}{r:List Nat}{k:List aP}(hit:a.items= .inRegion p (i::r)::k){id:Nat}{ops:Array Oper}(hc:aU P a.fn p= .region id ops true)
  {b:Nat} (hib:i<b) (hb:b=ops.size\/kQ ops b=true) (hK:CB ops (Ny i (b-i)) (uniq a.aI)=true) {s:RS} (e:(iQ P Φ ops.toList i (Ny i (b-i)) st.nx [] ⟨a.env,uniq a.aI,st.hp⟩).Ev s):
  bI P S0 w0 cs0 f C fr cs (.go {frames:= {a with env:=s.env,aI:=s.aI,items:= .inRegion p (Ny b (ops.size-b))::k}::aZ,hp:=s.hp,nx:=st.nx+ops.size}):=by
 obtain⟨ha,has⟩:=S.top hs;have hl:=S.last;rw[hs]at hl;have ht:=ha.todo;rw[hit]at ht;generalize htd:fr.todo=td at ht;cases ht with
 | @cons _ _ _ bs hi hk=>
 cases hi with
 | @inRegion _ _ _ _ hc'=>rw[hc]at hc';simp at hc'
 | @iM _ _ k0 id' ops' pre l hc' h1 h2 h3 h4 h5=>
 rw[hc]at hc';obtain⟨rfl,rfl,_⟩:=Code.region.inj hc';have hpos:ops.size-k0=(ops.size-(k0+1))+1:=by
  cases hn:ops.size-k0 with
  |zero=>rw[hn]at h1;simp at h1
  |succ m=>omega
 rw[hpos,List.range'_succ]at h1;obtain⟨rfl,rfl⟩:=NS h1;have hbs:b<=ops.size:=by
  rcases hb with q|q
  ·omega
  ·have:=(oq q).1;omega
 obtain⟨T,R,hlen,rfl⟩:=nD e;have LJ:uh (⟨a.env,uniq a.aI,st.hp⟩:RS) T:=Aw R (by omega) hK;have hs':Shut ops.toList pre:=fun j hj o e ho he hbd=>(h3 _).2 (by
  have:=h4 j o e (by rwa [MS]at ho) he hbd;have:=(h3 j).1 hj;omega)
 obtain⟨C2,Bq,pre2,l2,st2,GV,hp2,le,hsz2,hE,I2,hn2⟩:=Ad (fr:=fr) (k:=bs) (cs:=cs++cs0) (C:=C) (n:=fr.tmps.size) (b:=b)
  R (by omega) hbs LJ Eu O (fun i o d ho hd=>(ha.ok.op hc ho).1 d hd) (fun i o ho=>(ha.ok.op hc ho).2) hb h2 (pd:=[]) (D:=[])
  ⟨rfl,fun x hx=>by simp at hx,O1,fun x hx=>by simp at hx,.nil⟩ (fun j=>by rw[h3];simp) hs' ⟨ha.tmps.env,fun m hm=>ha.tmps.may m (Bv hm)⟩ S.inv (MW _) (ha.mode hu) ha.F8 htd
  (fun y hy=> .inl (S.names y hy))
 have hbm:=ha.mono le;exact⟨C2,_,cs,st2,.cons ⟨hbm.fn,by show uj P a.fn Bq.size;rw[hsz2];exact hbm.ok,hE,.cons (.iM hc rfl GV hp2 h4 hbs) (hk.mono le),hbm.defers,hbm.dh,hbm.kind,hbm.round⟩ (has.mono le),I2,hn2,hl.head rfl rfl⟩
end
end Go.AM
end
section
namespace Go.AM
variable [Tabs]
open Go.RowKit
section
variable {P:Program} {S0:Base} {w0:World} {cs0:List Frame} {f:FuncId} {C:Cx} {st:St} {fr:Frame} {cs:List Frame} {Φ:iL} {inl:FuncId->Bool}
theorem jf{a:aA}{aZ:List aA}(S:jU P S0 w0 cs0 f C st fr cs)(hs:st.frames=a::aZ)(hu:a.un=none){out:Out}(j:Option Jump)(e:(lG P st a aZ j).Ev out)
  (ht:(fr.todo=[]/\j=none)\/(∃k,fr.todo= .code .ret::k/\j=some .ret)\/(∃i k,fr.todo= .code (.exit i)::k/\exitTo i k=none/\j=some (.exit i))):
  bI P S0 w0 cs0 f C fr cs out:=by
 obtain⟨ha,has⟩:=S.top hs;refine EL S hs e (fun hr hj=> ?_) (fun c v w' b cs' hr hk he=>AQ (ha.mode hu) hk hr ?_ he)
 ·rcases ht with⟨h1,h2⟩|⟨k,h1,h2⟩|⟨i,k,h1,_,h2⟩
  ·exact AL (ha.mode hu) hr h1
  ·exact AO (ha.mode hu) hr h1
  ·rw[h2]at hj;simp at hj
 ·rcases ht with⟨h1,h2⟩|⟨k,h1,h2⟩|⟨i,k,h1,h3,h2⟩
  ·exact .inl ⟨h1,by rw[h2];rfl⟩
  ·exact .inr (.inl ⟨k,h1,by rw[h2];rfl⟩)
  ·exact .inr (.inr ⟨i,k,h1,h3,by rw[h2];rfl⟩)
theorem Bl(O:bW P S0 w0 Φ)(S:jU P S0 w0 cs0 f C st fr cs){out:Out}(e:(Es P Φ inl st).Ev out):bI P S0 w0 cs0 f C fr cs out:=by
 unfold Es at e;split at e
 ·exact(F.ah e).elim
 ·rename_i a aZ hs;obtain⟨ha,has⟩:=S.top hs;have ht:=ha.todo;simp only at e;split at e
  ·rename_i ch hu;exact Dp S hs hu e
  rename_i hu;split at e
  ·rename_i hit;rw[hit]at ht;refine jf S hs hu none e (.inl ⟨?_,rfl⟩);generalize fr.todo=td at ht;cases ht;rfl
  ·rename_i k hit;rw[hit]at ht;refine jf S hs hu (some .ret) e (.inr (.inl ?_));generalize fr.todo=td at ht;cases ht with
   |cons hi hk=>cases hi;exact⟨_,rfl,rfl⟩
  ·rename_i id k hit;rw[hit]at ht;generalize htd:fr.todo=td at ht;cases ht with
   | @cons _ _ _ bs hi hk=>
   cases hi;split at e
   ·rename_i k' hx;obtain rfl:=F.au e;obtain⟨t,h1,h2⟩:=kC hk hx;exact bI.to S hs h2 (D7 (ha.mode hu) htd h1)
   ·rename_i hx;exact jf S hs hu (some (.exit id)) e (.inr (.inr ⟨id,bs,htd,ku hk hx,rfl⟩))
  ·rename_i id k hit;rw[hit]at ht;generalize htd:fr.todo=td at ht;cases ht with
   |cons hi hk=>
   cases hi;obtain rfl:=F.au e;exact bI.to S hs hk (CP (ha.mode hu) htd)
  ·rename_i p k hit;rw[hit]at ht;generalize htd:fr.todo=td at ht;cases ht with
   |cons hi hk=>
   cases hi;obtain rfl:=F.au e;exact bI.to S hs hk (CQ (ha.mode hu) htd)
  ·rename_i p k hit;rw[hit]at ht;generalize htd:fr.todo=td at ht;cases ht with
   |cons hi hk=>
   cases hi;obtain rfl:=F.au e;exact bI.to S hs (.cons .code (.cons .inLoop hk)) (EN (ha.mode hu) htd)
  ·rename_i p k hit;have ht0:=ht;rw[hit]at ht;generalize htd:fr.todo=td at ht;cases ht with
   | @cons _ _ _ bs hi hk=>
   cases hi;have hL: ∀ {d:Dir},eG P C a.fn (.code (p++[d])) (.code (child (aU P a.fn p) d)):=fun {d}=>by rw[<-eY];exact .code
   split at e
   ·rename_i hc;rw[hc]at htd;obtain rfl:=F.au e;exact bI.to S hs hk (Ia (ha.mode hu) htd)
   ·rename_i l hc;rw[hc]at htd;obtain rfl:=F.au e;exact bI.to S hs hk (Gl (ha.mode hu) htd)
   ·rename_i x y hc;rw[hc]at htd;obtain rfl:=F.au e;refine bI.to S hs (.cons ?_ (.cons ?_ hk)) (Je (ha.mode hu) htd)
    ·have:= @hL .l;rwa [hc]at this
    ·have:= @hL .r;rwa [hc]at this
   ·rename_i c x y hc;rw[hc]at htd;have hv:=rH S.inv.tabs ha.tmps.env fr rfl c;split at e
    ·rename_i b hb;rw[hb]at hv;generalize hval:fr.eval c=val at hv;cases hv;cases b with
     |true=>
      cases e with
      |vJ e=>
       obtain rfl:=F.au e;refine bI.to S hs (.cons ?_ hk) (D5 (ha.mode hu) htd hval);have:= @hL .l;rwa [hc]at this
     |false=>
      cases e with
      |vI e=>
       obtain rfl:=F.au e;refine bI.to S hs (.cons ?_ hk) (D5 (ha.mode hu) htd hval);have:= @hL .r;rwa [hc]at this
    ·exact(F.ah e).elim
   ·rename_i id c hc;rw[hc]at htd;obtain rfl:=F.au e;refine bI.to S hs (.cons ?_ (.cons .inBlock hk)) (Gi (ha.mode hu) htd);have:= @hL .l;rwa [hc]at this
   ·rename_i c hc;rw[hc]at htd;obtain rfl:=F.au e;have h1:aU P a.fn (p++[.l])=c:=by rw[eY,hc];rfl
    refine bI.to S hs (.cons ?_ (.cons ?_ hk)) (H_ (ha.mode hu) htd)
    ·have:= @hL .l;rwa [hc]at this
    ·have:= @eG.inLoop P C a.fn (p++[.l]);rwa [h1]at this
   ·rename_i c hc;rw[hc]at htd;obtain rfl:=F.au e;have h1:aU P a.fn (p++[.l])=c:=by rw[eY,hc];rfl
    refine bI.to S hs (.cons ?_ (.cons ?_ hk)) (Gm (ha.mode hu) htd)
    ·have:= @hL .l;rwa [hc]at this
    ·have:= @eG.inScope P C a.fn (p++[.l]);rwa [h1]at this
   ·rename_i id hc;rw[hc]at htd;split at e
    ·rename_i k' hx;obtain rfl:=F.au e;obtain⟨t,h1,h2⟩:=kC hk hx;exact bI.to S hs h2 (D7 (ha.mode hu) htd h1)
    ·rename_i hx;exact jf S hs hu (some (.exit id)) e (.inr (.inr ⟨id,bs,htd,ku hk hx,rfl⟩))
   ·rename_i hc;rw[hc]at htd;exact jf S hs hu (some .ret) e (.inr (.inl ⟨_,htd,rfl⟩))
   ·rename_i fo ps cA cB hc;exact Dc S hs hu hit hc e
   ·rename_i id ops d hc;rw[hc]at htd;cases d with
    |true=>
     simp only[cond_true]at e;simp only[cond_eq_ite]at e;split at e
     ·exact(F.ah e).elim
     ·rename_i vC;have vC:nX P ops=true:=by cases hq:nX P ops with|true=>rfl|false=>rw[hq]at vC;exact(vC rfl).elim
      split at e
      ·split at e
       ·rename_i qK;obtain rfl:=F.au e;exact wR S hs hu hit hc vC qK
       ·exact(F.ah e).elim
      ·obtain⟨s,h1,e⟩:=F.bV e;obtain rfl:=F.au e;exact EG O S hs hu hit hc vC h1
    |false=>
     simp only[cond_false]at e;obtain rfl:=F.au e;exact bI.to S hs (.cons (.inRegion hc) hk) (EP (ha.mode hu) htd)
   ·exact(F.ah e).elim
  ·rename_i p k hit;rw[hit]at ht;generalize htd:fr.todo=td at ht;cases ht with
   | @cons _ _ _ bs hi hk=>
   obtain⟨ops,rfl⟩:=hi.none;obtain rfl:=F.au e;have hl:=S.last;rw[hs]at hl;exact⟨C,{fr with todo:=bs},cs,.one (jS (ha.mode hu) htd),.cons ⟨ha.fn,ha.ok,⟨ha.tmps.env,fun m hm=>by simp at hm⟩,hk,ha.defers,ha.dh,ha.kind,ha.round⟩ has,S.inv,S.names,hl.head rfl rfl⟩
  ·rename_i p i r k hit;split at e
   ·rename_i id ops d hc;rw[cond_eq_ite]at e;split at e
    ·rename_i hdi;simp only[ML,N9]at hdi;obtain⟨rfl,hib⟩:=hdi;rw[cond_eq_ite]at e;split at e
     ·rename_i hK;obtain⟨s,h1,e⟩:=F.bV e;obtain rfl:=F.au e;refine yQ O S hs hu hit hc hib ?_ hK h1;unfold Ea;simp only;split
      ·rename_i b hb;have:=List.find?_some hb;simp only[ML]at this;exact .inr this.2
      ·exact .inl rfl
     ·exact(F.ah e).elim
    ·rw[cond_eq_ite]at e;split at e
     rotate_left
     ·exact(F.ah e).elim
     rename_i hbar;split at e
     ·rename_i o ho;rw[hit]at ht;generalize htd:fr.todo=td at ht;cases ht with
      | @cons _ _ _ bs hi hk=>
      obtain⟨l0,rfl,hi'⟩:=hi.head hc hbar;have hloc: ∀ {out:Out},((Ec P Φ ops.toList o st.nx ⟨a.env,a.aI,st.hp⟩).bind fun s=>F.ret (Out.go {frames:= {a with env:=s.env,aI:=s.aI,items:= .inRegion p r::k}::aZ,hp:=s.hp,nx:=st.nx+1})).Ev out->bI P S0 w0 cs0 f C fr cs out:=by
       intro out e;obtain⟨s,h1,e⟩:=F.bV e;obtain rfl:=F.au e;exact ER O S hs hu hit hc hbar ho h1
      split at e
      ·rename_i hg;rw[cond_eq_ite]at e;split at e
       ·exact GY S hs hu hit hc hbar ho hg e
       split at e
       ·rename_i g args sW;simp only[cond_eq_ite]at e;split at e
        ·split at e
         ·rename_i callee hen;obtain rfl:=F.au e;obtain⟨c,vs,h1,h2,h3⟩:=iw (fun x=>jZ S.inv.tabs ha.tmps fr rfl x) sW;rcases h3 with⟨g',hg',h3⟩|⟨l,b,hl',_⟩
          ·obtain rfl:=Pv hg';refine rO S hs hen h2 (uY (ha.mode hu) htd ho (jH hg) (fun c' q=>by rw[h1]at q;simp at q) ?_);rw[h3];exact bG hen _ _
          ·simp at hl'
         ·exact(F.ah e).elim
        ·exact hloc e
       ·rename_i l args sW;obtain⟨c,vs,h1,h2,h3⟩:=iw (fun x=>jZ S.inv.tabs ha.tmps fr rfl x) sW;rcases h3 with⟨g',hg',_⟩|⟨l',b,hl',hn,h3⟩
        ·simp at hg'
        ·obtain rfl:=O_ hl';refine wJ S hs e h2 hn (fun lp tmps hlp hrun=>wK (ha.mode hu) htd ho (jH hg) (fun c' q=>by rw[h1]at q;simp at q) ?_);rw[h3];exact hrun
       ·exact hloc e
      ·rename_i j want hg;split at e
       ·rename_i tg hgt;obtain⟨oj,hj,vF⟩: ∃oj,ops.toList[j]?=some oj/\oj.dst=some tg:=by
         unfold DR at hgt;split at hgt
         ·rename_i oj hj;exact⟨oj,by rw[MS];exact hj,hgt⟩
         ·simp at hgt
        split at e
        ·rename_i g args sW;simp only[cond_eq_ite]at e;split at e
         ·split at e
          ·rename_i q hgo;have hiff:=iy ha.tmps hgo;have hwant:=jI (ops:=ops) (tmps:=fr.tmps) hg hj vF;cases q with
           |true=>
            cases e with
            |vJ e=>
             split at e
             ·rename_i callee hen;obtain rfl:=F.au e;have hh:=hiff.1 rfl;obtain⟨c,vs,h1,h2,h3⟩:=iw (fun x=>j_ S.inv.tabs ha.tmps fr rfl hh x) sW;rcases h3 with⟨g',hg',h3⟩|⟨l,b,hl',_⟩
              ·obtain rfl:=Pv hg';refine rO S hs hen h2 (uY (ha.mode hu) htd ho (hwant.2 hh) (fun c' q=>by rw[h1]at q;simp at q) ?_);rw[h3];exact bG hen _ _
              ·simp at hl'
             ·exact(F.ah e).elim
           |false=>
            cases e with
            |vI e=>exact Bj S hs hu hit hc hbar ho hg hj vF hgo e
          ·exact(F.ah e).elim
         ·exact hloc e
        ·rename_i l args sW;split at e
         ·rename_i q hgo;have hiff:=iy ha.tmps hgo;have hwant:=jI (ops:=ops) (tmps:=fr.tmps) hg hj vF;cases q with
          |true=>
           cases e with
           |vJ e=>
            have hh:=hiff.1 rfl;obtain⟨c,vs,h1,h2,h3⟩:=iw (fun x=>j_ S.inv.tabs ha.tmps fr rfl hh x) sW;rcases h3 with⟨g',hg',_⟩|⟨l',b,hl',hn,h3⟩
            ·simp at hg'
            ·obtain rfl:=O_ hl';refine wJ S hs e h2 hn (fun lp tmps hlp hrun=>wK (ha.mode hu) htd ho (hwant.2 hh) (fun c' q=>by rw[h1]at q;simp at q) ?_);rw[h3];exact hrun
          |false=>
           cases e with
           |vI e=>exact Bj S hs hu hit hc hbar ho hg hj vF hgo e
         ·exact(F.ah e).elim
        ·exact hloc e
       ·exact hloc e
     ·exact(F.ah e).elim
   ·exact(F.ah e).elim
  ·rename_i k hit;split at e
   ·rename_i l hr;split at e
    ·rename_i pend fn env ps p d hget;obtain rfl:=F.au e;exact uH S hs hu hit hr hget
    ·exact(F.ah e).elim
   ·exact(F.ah e).elim
  ·rename_i l k hit;split at e
   ·exact(F.ah e).elim
   ·rename_i s0 pend fn env ps p d hnb hget;obtain rfl:=F.au e;exact yR S hs hu hit hnb hget
   ·exact(F.ah e).elim
  ·exact(F.ah e).elim
end
end Go.AM
end
section
namespace Go.AM
def sK(a b n:Nat):Nat:=bif M_ n a then b else bif M_ n b then a else n
mutual
def AV.sw(f:Nat->Nat):AV->AV
 | .ptr b v o p=> .ptr (f b) v o p
 | .own b v t=> .own (f b) v t
 | .slc b v o m t i n=> .slc (f b) v o m t i n
 | .kP b v n=> .kP (f b) v n
 | .fn (.yield l) x y=> .fn (.yield (f l)) (fU f x) (fU f y)
 | .fn g x y=> .fn g (fU f x) (fU f y)
 | .iface t v=> .iface t (v.sw f)
 | .agg ps=> .agg (fU f ps)
 | .gG vs=> .gG (fU f vs)
 |v=>v
def fU(f:Nat->Nat):List AV->List AV
 |[]=>[]
 |v::r=>v.sw f::fU f r
end
def Env.sw(f:Nat->Nat)(e:Env):Env:=e.map fun x=>(x.1,x.2.sw f)
def gI.sw(f:Nat->Nat):gI->gI
 | .cells v ro ps=> .cells v ro (fU f ps)
 | .loop st pend fn env ps p d=> .loop st pend fn (Env.sw f env) ps p (f d)
 | .deferred b=> .deferred b
 | .iZ T e xs=> .iZ T e xs
def Hp.sw(f:Nat->Nat)(h:Hp):Hp:=h.map fun x=>(f x.1,x.2.sw f)
def aP.sw(f:Nat->Nat):aP->aP
 | .inRange l=> .inRange (f l)
 | .bF l=> .bF (f l)
 |it=>it
def dP.sw(f:Nat->Nat):dP->dP
 | .mark b=> .mark (f b)
 | .call g args=> .call g (fU f args)
def aA.sw(f:Nat->Nat)(a:aA):aA:=
 ⟨a.fn,Env.sw f a.env,[],a.items.map (aP.sw f),a.round.map f,a.marks.map (dP.sw f),a.un,a.dk⟩
def St.swap(a b:Nat)(st:St):St:=⟨st.frames.map (aA.sw (sK a b)),Hp.sw (sK a b) st.hp,max st.nx (max a b+1)⟩
def Caps.see:(l:List Ty)->List AV->Option (Caps l)
 |[],vs=>match vs with
  |[]=>some ()
  |_::_=>none
 |t::r,vs=>match vs with
  |[]=>none
  |v::vs=>match v with
   | .rp t' x 0=>if h:t'=t then(match Caps.see r vs with|some y=>some ((h▸x),y)|none=>none)else none
   |_=>none
inductive Sl where
 | dat (t : Ty)            -- a part of plain data
 | ag (t : Ty)             -- a struct of plain data
 | row (t : Ty)            -- (in memory) the elements of a row
 |own (b:Nat) (t:Ty)
 |slc (b o:Nat) (m:Option Nat) (t:Ty)
 | pre (b : Nat) (t : Ty)   -- a slice from its row's beginning
 |ptr (b o:Nat)
 |fn (f:Fn) (cap:List Nat)
 |CW|CV|CS|CU|any
 | lit (k : IntKind) (n : Int)   -- a number that is known
 | Hw (f : FuncId) (cap : List Nat)   -- a function that is bound to pointers
 | G6 (t : TypeId) (s : Sl)   -- an interface value
 |kP (b n:Nat)
 | clo (f : FuncId) (l : List Ty)   -- a function that holds plain data
def Sl.cons(δ:Type):Sl->Type
 | .dat t| .ag t=>t.den×δ
 | .row t=>List t.den×δ
 | .slc .. =>Int×Int×δ
 | .pre .. =>Int×δ
 | .G6 _ s=>s.cons δ
 | .clo _ l=>Caps l×δ
 |_=>δ
def Known:List Sl->Type
 |[]=>Unit
 |s::r=>s.cons (Known r)
def uF:List AV->AV
 |[v]=>v
 |_=> .junk
def Sl.mk{δ:Type}:(s:Sl)->s.cons δ->AV×δ
 | .dat t,x=>(uF (inj t x.1),x.2)
 | .ag t,x=>(.agg (inj t x.1),x.2)
 | .row t,x=>(.row t x.1,x.2)
 | .own b t,x=>(.own b 0 t,x)
 | .slc b o m t,x=>(.slc b 0 o m t x.1 x.2.1,x.2.2)
 | .pre b t,x=>(.slc b 0 0 none t 0 x.1,x.2)
 | .ptr b o,x=>(.ptr b 0 o [],x)
 | .fn g cap,x=>(.fn g [] (cap.map fun b=> .ptr b 0 0 []),x)
 | .CW,x=>(.aC,x)
 | .CV,x=>(.nilPtr,x)
 | .CS,x=>(.nilFn,x)
 | .CU,x=>(.nilIface,x)
 | .lit k n,x=>(.int k n,x)
 | .Hw f cap,x=>(.fn (.func f) (cap.map fun b=> .ptr b 0 0 []) [],x)
 | .any,x=>(.junk,x)
 | .G6 t s,x=>(.iface t (s.mk x).1,(s.mk x).2)
 | .kP b n,x=>(.kP b 0 n,x)
 | .clo f l,x=>(.fn (.func f) [] (Caps.enc l x.1),x.2)
def tV:(l:List Sl)->Known l->List AV
 |[],_=>[]
 |s::r,v=>(s.mk v).1::tV r (s.mk v).2
inductive bH where
 |mark (b:Nat)
 |call (f:FuncId) (args:List Sl)
def bH.key:bH->Bool×Nat×Nat
 | .mark b=>(false,b,0)
 | .call f args=>(true,f,args.length)
def bH.dH:bH->List Sl
 | .mark _=>[]
 | .call _ args=>args
structure gB where
 fn:FuncId
 items:List aP
 slots:List (Nat×Sl)
 round:Option Nat:=none
 marks:List bH:=[]
 dk:Bool:=false
def gB.dH(f:gB):List Sl:=f.slots.map (·.2)++f.marks.flatMap bH.dH
inductive dJ where
 |cells (ro:Bool) (ps:List Sl)
 |loop (st:LoopState) (pend:Option Jump) (fn:FuncId) (slots:List (Nat×Sl)) (params:List Nat) (p:Path) (defs:Nat)
 |deferred (taken:Bool)
 |iZ (T e:Nat)
def dJ.dH:dJ->List Sl
 | .cells _ ps=>ps
 | .loop _ _ _ sl _ _ _=>sl.map (·.2)
 | .deferred _=>[]
 | .iZ _ _=>[.dat .str]
structure Spec where
 frames:List gB
 blocks:List (Nat×dJ)
 nx:Nat
def Spec.dH(s:Spec):List Sl:=s.frames.flatMap gB.dH++s.blocks.flatMap fun b=>b.2.dH
structure iE where
 hp:Hp
 names:List Nat
def iE.cur(y:iE)(b:Nat):Option Nat:=match y.hp.get b with|some (.cells v _ _)=>some v|some (.iZ _ _ _)=>some 0|_=>none
def iE.len(y:iE)(b:Nat):Option Int:=match y.hp.get b with|some (.cells _ _ [.row _ xs])=>some xs.length|_=>none
def iE.born(y:iE)(b:Nat):Bool:=match y.hp.get b with|some _=>false|none=>y.names.any (M_ b)
def iE.gone(y:iE)(l:List Nat):Bool:=l.all fun b=> !(y.names.any (M_ b))
def iE.Gw(y:iE)(v:AV):Option AV:=bif y.gone (gu v)then jh y.hp v else none
def iE.ET(y:iE):List AV->Option (List AV)
 |[]=>some []
 |v::r=>match y.Gw v,y.ET r with
  |some w,some l=>some (w::l)
  |_,_=>none
def kK(y:iE):List Nat->List AV->Bool
 |[],[]=>true
 |b::r,.ptr b' v 0 []::vs=>M_ b' b&&decide (y.cur b=some v)&&kK y r vs
 |_,_=>false
def zu(y:iE)(b o:Nat)(m:Option Nat)(t:Ty)(v:AV):Option (Int×Int):=
 match v with
 | .slc b' v o' m' t' i n=>if b'=b/\o'=o/\m'=m/\t'=t/\y.cur b=some v then some (i,n)else none
 | .own b' v t'=>if b'=b/\o=0/\m=none/\t'=t/\y.cur b=some v then(match y.len b with|some n=>some (0,n)|none=>none)else none
 | .aC=>if y.born b=true/\m=none then some (0,0)else none
 |_=>none
def Sl.see(y:iE){δ:Type}(s:Sl)(v:AV)(d:δ):Option (s.cons δ):=
 match s with
 | .dat t=>(match y.Gw v with
  |some w=>(match ay t [w]with|some x=>some (x,d)|none=>none)
  |none=>none)
 | .ag t=>(match v with
  | .agg ps=>(match y.ET ps with
   |some qs=>(match ay t qs with|some x=>some (x,d)|none=>none)
   |none=>none)
  |_=>none)
 | .row t=>(match v with| .row t' xs=>if h:t'=t then some ((h▸xs),d)else none|_=>none)
 | .own b t=>(match v with
  | .own b' v t'=>if b'=b/\t'=t/\y.cur b=some v then some d else none
  | .aC=>if y.born b=true then some d else none
  |_=>none)
 | .slc b o m t=>(match zu y b o m t v with|some x=>some (x.1,x.2,d)|none=>none)
 | .pre b t=>(match zu y b 0 none t v with|some x=>if x.1=0 then some (x.2,d)else none|none=>none)
 | .ptr b o=>(match v with| .ptr b' v o' []=>if b'=b/\o'=o/\y.cur b=some v then some d else none|_=>none)
 | .fn g cap=>(match v with| .fn g' [] cap'=>if g'=g/\kK y cap cap'=true then some d else none|_=>none)
 | .CW=>(match v with| .aC=>some d|_=>none)
 | .CV=>(match v with| .nilPtr=>some d|_=>none)
 | .CS=>(match v with| .nilFn=>some d|_=>none)
 | .CU=>(match v with| .nilIface=>some d|_=>none)
 | .Hw f cap=>(match v with| .fn (.func g) cap' []=>if g=f/\kK y cap cap'=true then some d else none|_=>none)
 | .lit k n=>(match v with| .int k' n'=>if k'=k/\n'=n then some d else none|_=>none)
 | .any=>some d
 | .G6 t s=>(match v with| .iface t' v'=>if t'=t then s.see y v' d else none|_=>none)
 | .kP b n=>(match v with| .kP b' v n'=>if b'=b/\n'=n/\y.cur b=some v then some d else none|_=>none)
 | .clo f l=>(match v with| .fn (.func g) [] caps=>if g=f then(match Caps.see l caps with|some x=>some (x,d)|none=>none)else none|_=>none)
def wu(y:iE):(l:List Sl)->List AV->Option (Known l)
 |[],_=>some ()
 |s::r,vs=>match vs with
  |[]=>none
  |v::vs=>match wu y r vs with
   |some d=>s.see y v d
   |none=>none
def lookO(o:dJ)(x:Option gI):List AV:=
 match o,x with
 | .cells _ _,some (.cells _ _ ps)=>ps
 | .cells _ [.row t],none=>[.row t []]
 | .loop _ _ _ sl _ _ _,some (.loop _ _ _ env _ _ _)=>sl.map fun x=>env.get x.1
 | .iZ _ _,some (.iZ _ _ xs)=>[.str xs]
 |_,_=>[]
def xX(f:gB)(g:aA):List AV:=(f.slots.map fun x=>g.env.get x.1)++g.marks.flatMap dP.vals
def looks(s:Spec)(st:St):List AV:=
 ((s.frames.zip st.frames).flatMap fun fg=>xX fg.1 fg.2)++
 s.blocks.flatMap fun b=>lookO b.2 (st.hp.get b.1)
def jQ:List bH->List AV->List dP
 |[],_=>[]
 | .mark b::r,vs=> .mark b::jQ r vs
 | .call f l::r,vs=> .call f (vs.take l.length)::jQ r (vs.drop l.length)
def kM:List gB->List AV->List aA×List AV
 |[],vs=>([],vs)
 |f::r,vs=>(⟨f.fn,(f.slots.map (·.1)).zip (vs.take f.slots.length),[],f.items,f.round,jQ f.marks (vs.drop f.slots.length),none,f.dk⟩::(kM r (vs.drop f.dH.length)).1,(kM r (vs.drop f.dH.length)).2)
def xJ(o:dJ)(vs:List AV):gI:=
 match o with
 | .cells ro _=> .cells 0 ro vs
 | .loop st pend fn sl ps p d=> .loop st pend fn ((sl.map (·.1)).zip vs) ps p d
 | .deferred b=> .deferred b
 | .iZ T e=> .iZ T e (match vs with|[.str xs]=>xs|_=>[])
def rJ:List (Nat×dJ)->List AV->Hp
 |[],_=>[]
 |b::r,vs=>(b.1,xJ b.2 (vs.take b.2.dH.length))::rJ r (vs.drop b.2.dH.length)
def Spec.fill(s:Spec)(vs:List AV):St:=⟨(kM s.frames vs).1,rJ s.blocks (kM s.frames vs).2,s.nx⟩
def Spec.mk'(s:Spec)(v:Known s.dH):St:=s.fill (tV s.dH v)
def Spec.names(s:Spec):List Nat:=s.blocks.map (·.1)
def su(s:Spec)(st:St):Option (Known s.dH):=wu ⟨st.hp,s.names⟩ s.dH (looks s st)
structure Cut(α:Type) where
 spec:Spec
 f:Known spec.dH->Option α
def fZ(s:dJ)(o:Option gI):Bool:=
 match s,o with
 | .cells ro sl,some (.cells _ ro' ps)=>(!ro'||ro)&&M_ ps.length sl.length
 | .cells _ [.row _],none=>true
 | .loop st pend fn _ ps p d,some (.loop st' yx fn' _ ps' p' d')=>decide (st=st'/\pend=yx/\fn=fn'/\ps=ps'/\p=p'/\d=d')
 | .deferred b,some (.deferred b')=>b==b'
 | .iZ T e,some (.iZ T' e' _)=>M_ T T'&&M_ e e'
 |_,_=>false
def FB:List aP->List aP->Bool
 | .code p::_,.code q::_=>decide (p=q)
 |[],[]=>true
 |_,_=>false
def wX(g:aA):FuncId×List aP×Option Nat×Bool:=(g.fn,g.items,g.round,g.dk)
def HY(f:gB):FuncId×List aP×Option Nat×Bool:=(f.fn,f.items,f.round,f.dk)
def F6(g:aA):List (Bool×Nat×Nat):=g.marks.map dP.key
def F7(f:gB):List (Bool×Nat×Nat):=f.marks.map bH.key
def kX(s:Spec)(st:St):Bool:=
 match st.frames,s.frames with
 |g::_,f::_=>bif(FB g.items f.items&&M_ g.fn f.fn)&&((st.hp.get aX).isNone||s.names.any (M_ aX))then
    decide (st.frames.map wX=s.frames.map HY)&&decide (st.frames.map F6=s.frames.map F7)&&st.frames.all (fun g=>g.un.isNone)&&s.blocks.all fun b=>fZ b.2 (st.hp.get b.1)
   else false
 |_,_=>false
def dK(b b':Nat):Option (Nat×Nat):=bif M_ b b' then none else some (b',b)
def yN:List Nat->List AV->Option (Nat×Nat)
 |b::r,.ptr b' _ _ _::vs=>bif M_ b b' then yN r vs else some (b',b)
 |_,_=>none
def uJ(h:Hp)(nx b:Nat):Option (Nat×Nat):=match h.get b with|some _=>some (b,nx)|none=>none
def IV:Fn->Fn->Option (Nat×Nat)
 | .yield b,.yield b'=>dK b b'
 |_,_=>none
def Sl.turn(h:Hp)(nx:Nat)(s:Sl)(v:AV):Option (Nat×Nat):=
 match s with
 | .own b _=>(match v with| .own b' _ _=>dK b b'| .aC=>uJ h nx b|_=>none)
 | .slc b _ _ _=>(match v with| .slc b' _ _ _ _ _ _=>dK b b'| .own b' _ _=>dK b b'| .aC=>uJ h nx b|_=>none)
 | .pre b _=>(match v with| .slc b' _ _ _ _ _ _=>dK b b'| .own b' _ _=>dK b b'| .aC=>uJ h nx b|_=>none)
 | .ptr b _=>(match v with| .ptr b' _ _ _=>dK b b'|_=>none)
 | .kP b _=>(match v with| .kP b' _ _=>dK b b'|_=>none)
 | .Hw _ cap=>(match v with| .fn _ cap' _=>yN cap cap'|_=>none)
 | .fn g cap=>(match v with
  | .fn g' _ cap'=>(match IV g g' with|some q=>some q|none=>yN cap cap')
  |_=>none)
 | .G6 _ s=>(match v with| .iface _ v'=>s.turn h nx v'|_=>none)
 |_=>none
def zA(h:Hp)(nx:Nat):List Sl->List AV->Option (Nat×Nat)
 |[],_=>none
 |s::r,vs=>match vs with
  |[]=>none
  |v::vs=>match s.turn h nx v with
   |some x=>some x
   |none=>zA h nx r vs
def pI:List aP->List aP->Option (Nat×Nat)
 | .inRange b::r,.inRange b'::s=>(match dK b b' with|some q=>some q|none=>pI r s)
 | .bF b::r,.bF b'::s=>(match dK b b' with|some q=>some q|none=>pI r s)
 |_::r,_::s=>pI r s
 |_,_=>none
def EX:Option Nat->Option Nat->Option (Nat×Nat)
 |some b,some b'=>dK b b'
 |_,_=>none
def vO:List bH->List dP->Option (Nat×Nat)
 | .mark b::r,.mark b'::s=>(match dK b b' with|some q=>some q|none=>vO r s)
 |_::r,_::s=>vO r s
 |_,_=>none
def xQ(h:Hp)(nx:Nat):List gB->List aA->Option (Nat×Nat)
 |f::r,g::s=>(match pI f.items g.items with
  |some q=>some q
  |none=>(match EX f.round g.round with
   |some q=>some q
   |none=>(match vO f.marks g.marks with
    |some q=>some q
    |none=>(match zA h nx f.dH (xX f g)with
     |some q=>some q
     |none=>xQ h nx r s))))
 |_,_=>none
def xw(h:Hp)(nx:Nat):List (Nat×dJ)->Option (Nat×Nat)
 |[]=>none
 |b::r=>match zA h nx b.2.dH (lookO b.2 (h.get b.1))with
  |some q=>some q
  |none=>xw h nx r
def wG(s:Spec):Nat->St->St
 |0,st=>st
 |n+1,st=>match (match xQ st.hp st.nx s.frames st.frames with|some q=>some q|none=>xw st.hp st.nx s.blocks)with
  |none=>st
  |some (a,b)=>bif M_ a aX||M_ b aX then st else wG s n (st.swap a b)
def turned(s:Spec)(st:St):St:=
 match st.frames,s.frames with
 |g::_,f::_=>bif(FB g.items f.items&&M_ g.fn f.fn)&&st.frames.all (fun g=>g.un.isNone)then wG s (s.blocks.length+s.blocks.length) st else st
 |_,_=>st
def gK{α:Type}:List (Cut α)->St->Option (Option α)
 |[],_=>none
 |c::r,st=>bif kX c.spec (turned c.spec st)then(match su c.spec (turned c.spec st)with|some v=>some (c.f v)|none=>gK r st)else gK r st
def Exits:List Spec->Type
 |[]=>Empty
 |e::es=>match es with
  |[]=>Known e.dH
  |_::_=>Known e.dH ⊕ Exits es
def uS{α:Type}:(es:List Spec)->Exits es->(St->Option α)->Option α
 |[],g,_=>nomatch g
 |[e],g,K=>K (e.mk' g)
 |e::e'::es,g,K=>match g with
  | .inl v=>K (e.mk' v)
  | .inr g=>uS (e'::es) g K
structure Seg where
 entry:Spec
 exits:List Spec
 f:Known entry.dH->Option (Exits exits)
def kH{α:Type}(K K0:St->Option α):List Seg->St->Option α
 |[],st=>K0 st
 |s::r,st=>bif kX s.entry (turned s.entry st)
  then(match su s.entry (turned s.entry st)with|some v=>(s.f v).bind fun g=>uS s.exits g K|none=>kH K K0 r st)
  else kH K K0 r st
section
variable [Tabs]
def dA{α:Type}(P:Program)(Φ:iL)(inl:FuncId->Bool)(cuts:List (Cut α))(aK:List Seg)(fin:AV->Hp->Option α):Nat->Bool->St->Option α
 |0,_,_=>none
 |n+1,look,st=>bif look
  then(match gK cuts st with
   |some r=>r
   |none=>kH (dA P Φ inl cuts aK fin n true) (dA P Φ inl cuts aK fin n false) aK st)
  else(Es P Φ inl st).run fun o=>match o with
   | .done v h=>fin v h
   | .go st'=>dA P Φ inl cuts aK fin n true st'
end
def fB{β:Type}:(es:List Spec)->(Exits es->β)->List (Cut β)
 |[],_=>[]
 |[e],k=>[⟨e,fun v=>some (k v)⟩]
 |e::e'::es,k=>⟨e,fun v=>some (k (.inl v))⟩::fB (e'::es) fun g=>k (.inr g)
open Classical in
noncomputable def H8{α β:Type}(seq:Nat->α->Option β)(a:α):Option β:=
 if h: ∃k,(seq k a).isSome=true then seq (Oz h) a else none
def iter{α β:Type}(b:(α->Option β)->α->Option β):Nat->α->Option β
 |0=>fun _=>none
 |k+1=>b (iter b k)
noncomputable def lfp{α β:Type}(b:(α->Option β)->α->Option β):α->Option β:=H8 (iter b)
inductive Dq where
 |lim
 |fuel (k:Nat)
noncomputable def loop{α β:Type}(m:Dq)(b:(α->Option β)->α->Option β):α->Option β:=
 match m with
 | .lim=>lfp b
 | .fuel k=>iter b k
abbrev aP.c:=aP.code
abbrev aP.p:=aP.inLoop
abbrev aP.g:=aP.inRegion
abbrev aP.b:=aP.inBlock
abbrev Sl.w:Sl:= .dat (.int .i64)
abbrev Sl.s:Sl:= .dat .str
abbrev Sl.b:Sl:= .dat .bool
abbrev Sl.y:Sl:= .dat (.int .u8)
abbrev Sl.t:Sl:= .dat (.lst .str)
abbrev Sl.u:Sl:= .dat (.int .u64)
abbrev dJ.c:=dJ.cells false
abbrev dJ.d:=dJ.cells true
abbrev LI:Type:=List Int
abbrev LL:Type:=List (List Int)
end Go.AM
end
section
namespace Go.AM
variable [Tabs]
open Go.RowKit
theorem jg: ∀ {t:Ty} {ps r:List AV} {x:t.den},pack t ps=some (x,r)->(inj t x).length+r.length=ps.length
 | .int k,ps,r,x,e=>by
  cases ps with
  |nil=>simp[AM.pack]at e
  |cons p ps=>
   cases p<;>simp[AM.pack]at e
   obtain⟨e0,e⟩:=e;obtain⟨e1,e2⟩:=MR e;subst e2;simp[inj];omega
 | .bool,ps,r,x,e=>by
  cases ps with
  |nil=>simp[AM.pack]at e
  |cons p ps=>
   cases p<;>simp[AM.pack]at e
   obtain⟨e1,e2⟩:=MR e;subst e2;simp[inj];omega
 | .str,ps,r,x,e=>by
  cases ps with
  |nil=>simp[AM.pack]at e
  |cons p ps=>
   cases p<;>simp[AM.pack]at e
   obtain⟨e1,e2⟩:=MR e;subst e2;simp[inj];omega
 | .lst t,ps,r,x,e=>by
  cases ps with
  |nil=>simp[AM.pack]at e
  |cons p ps=>
   cases p<;>simp[AM.pack]at e
   case lst t' xs=>
    obtain⟨e0,e⟩:=e;obtain⟨e1,e2⟩:=MR e;subst e2;simp[inj];omega
   case aC=>
    obtain⟨e1,e2⟩:=MR e;subst e2;simp[inj];omega
 | .arr n t,ps,r,x,e=>by
  cases ps with
  |nil=>simp[AM.pack]at e
  |cons p ps=>
   cases p<;>simp[AM.pack]at e
   obtain⟨e0,e9,e⟩:=e;obtain⟨e1,e2⟩:=MR e;subst e2;simp[inj];omega
 | .unit,ps,r,x,e=>by
  have e:some ((),ps)=some (x,r):=by rw[<-e];cases ps<;>rfl
  obtain⟨e1,e2⟩:=MR (MK e);subst e2;simp[inj]
 | .pair a b,ps,r,x,e=>by
  have e:(match AM.pack a ps with
   |some (x,r')=>(match AM.pack b r' with|some (y,r'')=>some ((x,y),r'')|none=>none)
   |none=>none)=some (x,r):=by rw[<-e];cases ps<;>rfl
  split at e
  ·rename_i x1 r1 e1;split at e
   ·rename_i y1 r2 e2;obtain⟨e3,e4⟩:=MR (MK e);subst e3;subst e4;have k1:=jg e1;have k2:=jg e2;simp only[inj,Nc];omega
   ·simp at e
  ·simp at e
theorem rV{t:Ty}{v:AV}{x:t.den}(e:ay t [v]=some x): ∃v',inj t x=[v']:=by
 unfold ay at e;split at e
 ·rename_i y h;obtain rfl:=MK e;have:=jg h;simp at this
  match hq:inj t y,this with
  |[a],_=>exact⟨a,rfl⟩
 ·simp at e
inductive jY (y:iE) (b o:Nat) (m:Option Nat) (t:Ty):AV->AV->Prop
 |slc {v i n}:y.cur b=some v->jY y b o m t (.slc b v o m t i n) (.slc b 0 o m t i n)
 |own {v n}:o=0->m=none->y.cur b=some v->y.len b=some n->jY y b o m t (.own b v t) (.slc b 0 o m t 0 n)
 |nil:m=none->y.born b=true->jY y b o m t .aC (.slc b 0 o m t 0 0)
inductive Weak (y:iE):Sl->AV->AV->Prop
 |dat {t v w x v'}:y.Gw v=some w->ay t [w]=some x->inj t x=[v']->Weak y (.dat t) v v'
 |ag {t ps qs x}:y.ET ps=some qs->ay t qs=some x->Weak y (.ag t) (.agg ps) (.agg (inj t x))
 |row {t xs}:Weak y (.row t) (.row t xs) (.row t xs)
 |own {b v t}:y.cur b=some v->Weak y (.own b t) (.own b v t) (.own b 0 t)
 |Gv {b t}:y.born b=true->Weak y (.own b t) .aC (.own b 0 t)
 |slc {b o m t v w}:jY y b o m t v w->Weak y (.slc b o m t) v w
 |pre {b t v n}:jY y b 0 none t v (.slc b 0 0 none t 0 n)->Weak y (.pre b t) v (.slc b 0 0 none t 0 n)
 |ptr {b o v}:y.cur b=some v->Weak y (.ptr b o) (.ptr b v o []) (.ptr b 0 o [])
 |fn {g cap cap'}:kK y cap cap'=true->Weak y (.fn g cap) (.fn g [] cap') (.fn g [] (cap.map fun b=> .ptr b 0 0 []))
 |kP {b n v}:y.cur b=some v->Weak y (.kP b n) (.kP b v n) (.kP b 0 n)
 |clo {f l x}:Weak y (.clo f l) (.fn (.func f) [] (Caps.enc l x)) (.fn (.func f) [] (Caps.enc l x))
 |CW:Weak y .CW .aC .aC
 |CV:Weak y .CV .nilPtr .nilPtr
 |CS:Weak y .CS .nilFn .nilFn
 |CU:Weak y .CU .nilIface .nilIface
 |lit {k n}:Weak y (.lit k n) (.int k n) (.int k n)
 |Hw {f cap cap'}:kK y cap cap'=true->Weak y (.Hw f cap) (.fn (.func f) cap' []) (.fn (.func f) (cap.map fun b=> .ptr b 0 0 []) [])
 |any {v}:Weak y .any v .junk
 |G6 {t s v w}:Weak y s v w->Weak y (.G6 t s) (.iface t v) (.iface t w)
inductive bJ (y:iE):List Sl->List AV->List AV->Prop
 |nil {vs}:bJ y [] vs []
 |cons {s l v vs w ws}:Weak y s v w->bJ y l vs ws->bJ y (s::l) (v::vs) (w::ws)
theorem r_{y:iE}{b o:Nat}{m:Option Nat}{t:Ty}{v:AV}{x:Int×Int}(h:zu y b o m t v=some x):jY y b o m t v (.slc b 0 o m t x.1 x.2):=by
 unfold zu at h;split at h
 ·split at h
  ·rename_i hq;obtain⟨rfl,rfl,rfl,rfl,hq⟩:=hq;obtain rfl:=MK h;exact .slc hq
  ·simp at h
 ·split at h
  ·rename_i hq;obtain⟨rfl,rfl,rfl,rfl,hq⟩:=hq;split at h
   ·rename_i n hn;obtain rfl:=MK h;exact .own rfl rfl hq hn
   ·simp at h
  ·simp at h
 ·split at h
  ·rename_i hq;obtain⟨hq,rfl⟩:=hq;obtain rfl:=MK h;exact .nil rfl hq
  ·simp at h
 ·simp at h
theorem Caps.Bh: ∀ {l:List Ty} {vs:List AV} {x:Caps l},Caps.see l vs=some x->vs=Caps.enc l x
 |[],[],_,_=>rfl
 |[],_::_,_,h=>by simp[Caps.see]at h
 |t::r,[],_,h=>by simp[Caps.see]at h
 |t::r,v::vs,x,h=>by
  simp only[Caps.see]at h;split at h
  ·split at h
   ·rename_i q;subst q;split at h
    ·rename_i y hy;obtain rfl:=MK h;rw[Caps.Bh hy];rfl
    ·simp at h
   ·simp at h
  ·simp at h
theorem GI{y:iE}{δ:Type}: ∀ {s:Sl} {v:AV} {d:δ} {q:s.cons δ},s.see y v d=some q->Weak y s v (s.mk q).1/\(s.mk q).2=d:=by
 intro s
 induction s with
 |dat t=>
  intro v d q h;simp only[Sl.see]at h;split at h
  ·rename_i w hw;split at h
   ·rename_i x hx;obtain rfl:=MK h;obtain⟨v',hv'⟩:=rV hx;refine⟨?_,rfl⟩;show Weak y (.dat t) v (uF (inj t x));rw[hv'];exact .dat hw hx hv'
   ·simp at h
  ·simp at h
 |ag t=>
  intro v d q h;simp only[Sl.see]at h;split at h
  ·rename_i ps;split at h
   ·rename_i qs LQ;split at h
    ·rename_i x hx;obtain rfl:=MK h;exact⟨.ag LQ hx,rfl⟩
    ·simp at h
   ·simp at h
  ·simp at h
 |row t=>
  intro v d q h;simp only[Sl.see]at h;split at h
  ·rename_i t' xs;split at h
   ·rename_i hq;subst hq;obtain rfl:=MK h;exact⟨.row,rfl⟩
   ·simp at h
  ·simp at h
 |own b t=>
  intro v d q h;simp only[Sl.see]at h;split at h
  ·split at h
   ·rename_i hq;obtain⟨rfl,rfl,hq⟩:=hq;obtain rfl:=MK h;exact⟨.own hq,rfl⟩
   ·simp at h
  ·split at h
   ·rename_i hq;obtain rfl:=MK h;exact⟨.Gv hq,rfl⟩
   ·simp at h
  ·simp at h
 |slc b o m t=>
  intro v d q h;simp only[Sl.see]at h;split at h
  ·rename_i x hx;obtain rfl:=MK h;exact⟨.slc (r_ hx),rfl⟩
  ·simp at h
 |pre b t=>
  intro v d q h;simp only[Sl.see]at h;split at h
  ·rename_i x hx;split at h
   ·rename_i h0;obtain rfl:=MK h;have:=r_ hx;rw[h0]at this;exact⟨.pre this,rfl⟩
   ·simp at h
  ·simp at h
 |ptr b o=>
  intro v d q h;simp only[Sl.see]at h;split at h
  ·split at h
   ·rename_i hq;obtain⟨rfl,rfl,hq⟩:=hq;obtain rfl:=MK h;exact⟨.ptr hq,rfl⟩
   ·simp at h
  ·simp at h
 |kP b n=>
  intro v d q h;simp only[Sl.see]at h;split at h
  ·split at h
   ·rename_i hq;obtain⟨rfl,rfl,hq⟩:=hq;obtain rfl:=MK h;exact⟨.kP hq,rfl⟩
   ·simp at h
  ·simp at h
 |clo f l=>
  intro v d q h;simp only[Sl.see]at h;split at h
  ·split at h
   ·rename_i hq;subst hq;split at h
    ·rename_i x hx;obtain rfl:=MK h;rw[Caps.Bh hx];exact⟨.clo,rfl⟩
    ·simp at h
   ·simp at h
  ·simp at h
 |fn g' cap=>
  intro v d q h;simp only[Sl.see]at h;split at h
  ·split at h
   ·rename_i hq;obtain⟨rfl,hq⟩:=hq;obtain rfl:=MK h;exact⟨.fn hq,rfl⟩
   ·simp at h
  ·simp at h
 |CW=>
  intro v d q h;simp only[Sl.see]at h;split at h
  ·obtain rfl:=MK h;exact⟨.CW,rfl⟩
  ·simp at h
 |CV=>
  intro v d q h;simp only[Sl.see]at h;split at h
  ·obtain rfl:=MK h;exact⟨.CV,rfl⟩
  ·simp at h
 |CS=>
  intro v d q h;simp only[Sl.see]at h;split at h
  ·obtain rfl:=MK h;exact⟨.CS,rfl⟩
  ·simp at h
 |CU=>
  intro v d q h;simp only[Sl.see]at h;split at h
  ·obtain rfl:=MK h;exact⟨.CU,rfl⟩
  ·simp at h
 |Hw f cap=>
  intro v d q h;simp only[Sl.see]at h;split at h
  ·split at h
   ·rename_i hq;obtain⟨rfl,hq⟩:=hq;obtain rfl:=MK h;exact⟨.Hw hq,rfl⟩
   ·simp at h
  ·simp at h
 |lit k n=>
  intro v d q h;simp only[Sl.see]at h;split at h
  ·split at h
   ·rename_i hk;obtain⟨rfl,rfl⟩:=hk;obtain rfl:=MK h;exact⟨.lit,rfl⟩
   ·simp at h
  ·simp at h
 |any=>intro v d q h;obtain rfl:=MK h;exact⟨.any,rfl⟩
 |G6 t s ih=>
  intro v d q h;cases v with
  |iface t' v'=>
   have h:(if t'=t then s.see y v' d else(none:Option (s.cons δ)))=some q:=h;split at h
   ·rename_i hq;subst hq;exact⟨.G6 (ih h).1,(ih h).2⟩
   ·simp at h
  |_=>exact absurd h (by intro h;have h:(none:Option (s.cons δ))=some q:=h;simp at h)
theorem jD{y:iE}: ∀ {l:List Sl} {vs:List AV} {q:Known l},wu y l vs=some q->bJ y l vs (tV l q)
 |[],vs,q,h=> .nil
 |s::l,[],q,h=>by simp[wu]at h
 |s::l,v::vs,q,h=>by
  simp only[wu]at h;split at h
  ·rename_i d hd;have k:=jD hd;obtain⟨h1,h2⟩:=GI h;show bJ y (s::l) (v::vs) ((s.mk q).1::tV l (s.mk q).2);rw[h2];exact .cons h1 k
  ·simp at h
theorem bJ.split{y:iE}: ∀ {a b:List Sl} {u v ws:List AV},a.length=u.length->bJ y (a++b) (u++v) ws->bJ y a u (ws.take a.length)/\bJ y b v (ws.drop a.length)
 |[],b,u,v,ws,hl,h=>by
  have:u=[]:=MV.1 hl.symm;subst this;exact⟨by simpa using bJ.nil,by simpa using h⟩
 |s::a,b,[],v,ws,hl,h=>by simp at hl
 |s::a,b,x::u,v,ws,hl,h=>by
  cases h with
  |cons h1 h2=>
   obtain⟨k1,k2⟩:=bJ.split (by simpa using hl) h2;exact⟨.cons h1 k1,k2⟩
theorem bJ.len{y:iE}: ∀ {a:List Sl} {u ws:List AV},bJ y a u ws->ws.length=a.length
 |_,_,_,.nil=>rfl
 |_,_,_,.cons _ h=>by simp[h.len]
end Go.AM
end
section
namespace Go.AM
variable [Tabs]
open Go.RowKit
theorem qV: ∀ {t:Ty} {v p:AV} {x:t.den},pack t [v]=some (x,[p])->p=v
 | .int k,v,p,x,e=>by
  cases v<;>simp[pack]at e
  have:=(MR e.2).2;simp at this
 | .bool,v,p,x,e=>by
  cases v<;>simp[pack]at e
  have:=(MR e).2;simp at this
 | .str,v,p,x,e=>by
  cases v<;>simp[pack]at e
  have:=(MR e).2;simp at this
 | .lst t,v,p,x,e=>by
  cases v<;>simp[pack]at e
  ·obtain⟨_,e⟩:=e;have:=(MR e).2;simp at this
  ·have:=(MR e).2;simp at this
 | .arr n t,v,p,x,e=>by
  cases v<;>simp[pack]at e
  obtain⟨_,_,e⟩:=e;have:=(MR e).2;simp at this
 | .unit,v,p,x,e=>by
  have e:some ((),[v])=some (x,[p]):=e;have:=(MR (MK e)).2;simp at this;exact this.symm
 | .pair a b,v,p,x,e=>by
  have e:(match pack a [v]with
   |some (x,r')=>(match pack b r' with|some (y,r'')=>some ((x,y),r'')|none=>none)
   |none=>none)=some (x,[p]):=e
  split at e
  ·rename_i y r1 e1;split at e
   ·rename_i z r2 e2;obtain⟨e3,e4⟩:=MR (MK e);subst e4;have l1:=jg e1;have l2:=jg e2;simp only[OD,OL]at l1 l2;cases r1 with
    |nil=>simp at l2
    |cons q r=>
     have hr:r=[]:=MV.1 (by simp at l1;omega);subst hr;have:=qV e1;subst this;exact qV e2
   ·simp at e
  ·simp at e
theorem qW: ∀ {t:Ty} {v w:AV} {x:t.den},pack t [v]=some (x,[])->inj t x=[w]->w=v\/(v= .aC/\ ∃t',w= .lst t' [])
 | .int k,v,w,x,e,h=>by
  cases v<;>simp[pack]at e
  obtain⟨e1,e2⟩:=e;have e2:=(MR e2).1;subst e1;subst e2;exact .inl (by simpa[inj]using h.symm)
 | .bool,v,w,x,e,h=>by
  cases v<;>simp[pack]at e
  have e2:=(MR e).1;subst e2;exact .inl (by simpa[inj]using h.symm)
 | .str,v,w,x,e,h=>by
  cases v<;>simp[pack]at e
  have e2:=(MR e).1;subst e2;exact .inl (by simpa[inj]using h.symm)
 | .lst t,v,w,x,e,h=>by
  cases v<;>simp[pack]at e
  case lst t' xs=>
   obtain⟨e1,e2⟩:=e;subst e1;have e2:=(MR e2).1;subst e2;exact .inl (by simpa[inj]using h.symm)
  case aC=>
   have e2:=(MR e).1;subst e2;exact .inr ⟨rfl,t,by simpa[inj]using h.symm⟩
 | .arr n t,v,w,x,e,h=>by
  cases v<;>simp[pack]at e
  obtain⟨e0,e1,e2⟩:=e;subst e0;subst e1;have e2:=(MR e2).1;subst e2;exact .inl (by simpa[inj]using h.symm)
 | .unit,v,w,x,e,h=>by
  have e:some ((),[v])=some (x,[]):=e;have:=(MR (MK e)).2;simp at this
 | .pair a b,v,w,x,e,h=>by
  have e:(match pack a [v]with
   |some (x,r')=>(match pack b r' with|some (y,r'')=>some ((x,y),r'')|none=>none)
   |none=>none)=some (x,[]):=e
  split at e
  ·rename_i y r1 e1;split at e
   ·rename_i z r2 e2;obtain⟨e3,e4⟩:=MR (MK e);subst e3;subst e4;have l1:=jg e1;have l2:=jg e2;simp only[inj]at h;simp only[OD,OL]at l1 l2;cases r1 with
    |nil=>
     have:inj b z=[]:=MV.1 (by simpa using l2);rw[this,NG]at h;exact qW e1 h
    |cons p r=>
     have hr:r=[]:=MV.1 (by simp at l1;omega);have hi:inj a y=[]:=MV.1 (by simp at l1;omega);subst hr;rw[hi,OM]at h;have:p=v:=qV e1;subst this;exact qW e2 h
   ·simp at e
  ·simp at e
theorem eF{t:Ty}{v w:AV}{x:t.den}(e:ay t [v]=some x)(h:inj t x=[w]):aT v=true/\(w=v\/(v= .aC/\ ∃t',w= .lst t' [])):=by
 refine⟨?_,?_⟩
 ·cases hp:aT v with
  |true=>rfl
  |false=>exact(pW hp e).elim
 ·unfold ay at e;split at e
  ·rename_i y hy;obtain rfl:=MK e;exact qW hy h
  ·simp at e
structure jo(C C':Cx)(y:iE):Prop where
 w:C'.w=C.w
 ro: ∀c j,C.RO c j->C'.RO c j
 IW: ∀b,y.names.any (M_ b)=false-> ∀e c v ro ps j,C.M b=some e->e.cb=some c->y.hp.get b=some (.cells v ro ps)->j<aH ps->C'.RO c j
 ent: ∀b∈y.names,∀e,C.M b=some e->C'.M b=some {e with ver:=0}
 born: ∀b∈y.names,C.M b=none->C'.M b=some ⟨0,none,0,false⟩
theorem jo.wid{C C':Cx}{y:iE}(A:jo C C' y):ni C C':=⟨A.w,A.ro⟩
theorem any_beq{l:List Nat}{b:Nat}(h:l.any (M_ b)=true):b∈l:=by
 obtain⟨x,h1,h2⟩:=NP.1 h;have:=MO h2;subst this;exact h1
section
variable {P:Program} {S0:Base} {w0:World} {C C':Cx} {y:iE}
theorem jo.holds(A:jo C C' y){l:List Nat}(h:y.gone l=true):Holds C C' y.hp l:=by
 intro b hb e c v ro ps j q1 q2 q3 q4;have:=MP.1 h b hb;exact A.IW b (by simpa using this) e c v ro ps j q1 q2 q3 q4
def Sl.names:Sl->List Nat
 | .own b _=>[b]
 | .slc b _ _ _=>[b]
 | .pre b _=>[b]
 | .ptr b _=>[b]
 | .fn (.yield l) cap=>l::cap
 | .fn _ cap=>cap
 | .Hw _ cap=>cap
 | .G6 _ s=>s.names
 | .kP b _=>[b]
 |_=>[]
theorem Ey.anew(A:jo C C' y){c n:Nat}(h:Ey C c n):Ey C' c n:=fun j hj=>by rw[A.w];exact h j hj
theorem dO.anew(A:jo C C' y){e:tC}{t:Ty}{v:Value}(h:dO C e t v):dO C' {e with ver:=0} t v:=by
 unfold dO at*;split<;>simp_all
 obtain⟨cap,h1,h2,h3⟩:=h;exact⟨cap,h1,h2,h3.anew A⟩
theorem iW.anew(A:jo C C' y){e o m t i n v}(h:iW C e o m t i n v):iW C' {e with ver:=0} o m t i n v:=by
 unfold iW at*;obtain⟨h1,h2,h3,h4⟩:=h;refine⟨h1,h2,h3,?_⟩;cases hcb:e.cb with
 |none=>rw[hcb]at h4;exact h4
 |some c=>
  rw[hcb]at h4;obtain⟨a,cap,k1,k2,k3,k4⟩:=h4;exact⟨a,cap,k1,k2,k3,k4.anew A⟩
theorem iE.mO(I:Inv P S0 w0 C y.hp){b v:Nat}(h:y.cur b=some v): ∃e,C.M b=some e/\e.ver=v:=by
 unfold iE.cur at h;split at h
 ·rename_i v' ro ps hg;obtain rfl:=MK h;obtain⟨e,k1,k2⟩:=I.obj _ _ hg;exact⟨e,k1,k2.1⟩
 ·rename_i hg;obtain rfl:=MK h;obtain⟨e,k1,k2⟩:=I.obj _ _ hg;exact⟨e,k1,k2.2.1⟩
 ·simp at h
theorem iE.H7(I:Inv P S0 w0 C y.hp){b:Nat}{n:Int}(h:y.len b=some n){e:tC}(he:C.M b=some e):(e.len:Int)=n:=by
 unfold iE.len at h;split at h
 ·rename_i v' ro t xs hg;obtain rfl:=MK h;obtain⟨e',k1,k2⟩:=I.obj _ _ hg;rw[he]at k1;obtain rfl:=MK k1;rw[k2.2.2.1 t xs (.head _)]
 ·simp at h
theorem iE.zY(I:Inv P S0 w0 C y.hp)(A:jo C C' y){b:Nat}(h:y.born b=true):C'.M b=some ⟨0,none,0,false⟩:=by
 unfold iE.born at h;split at h
 ·simp at h
 ·rename_i hg;refine A.born b (any_beq h) ?_;cases hq:C.M b with
  |none=>rfl
  |some e=>obtain⟨o,ho⟩:=I.dom b e hq;rw[hg]at ho;simp at ho
theorem uP(I:Inv P S0 w0 C y.hp)(A:jo C C' y): ∀ {cap:List Nat} {vs:List AV} {us:List Value},kK y cap vs=true->(∀b∈cap,b∈y.names)->bg C vs us->bg C' (cap.map fun b=>AV.ptr b 0 0 []) us
 |[],[],_,_,_,.nil=> .nil
 |[],_::_,_,h,_,_=>by simp[kK]at h
 |_::_,[],_,h,_,_=>by simp[kK]at h
 |b::cap,v::vs,_,h,hN,.cons h1 h2=>by
  cases v with
  |ptr b' v o path=>
   cases o with
   |succ o=>simp[kK]at h
   |zero=>
    cases path with
    |cons _ _=>simp[kK]at h
    |nil=>
     simp[kK]at h;obtain⟨⟨h3,h4⟩,h5⟩:=h;subst h3;refine .cons ?_ (uP I A h5 (fun b hb=>hN b (.tail _ hb)) h2);obtain⟨e,g1,g2⟩:=iE.mO I h4;cases h1 with
     |ptr k1 k2 k3 k4=>
      rw[g1]at k1;obtain rfl:=MK k1;obtain⟨c,q1,q2,q3⟩:=k3 g2.symm;exact .ptr (A.ent _ (hN _ (.head _)) _ g1) (MW _) (fun _=>⟨c,q1,q2,q3⟩) k4
  |_=>simp[kK]at h
theorem CZ(I:Inv P S0 w0 C y.hp)(A:jo C C' y){v w:AV}{val:Value}(e:y.Gw v=some w)(hv:VR C v val):VR C' w val/\aT w=true/\(v.fV=true->w.fV=true):=by
 unfold iE.Gw at e;simp only[cond_eq_ite]at e;split at e
 ·rename_i hg;exact lM I (bP.self _) A.wid e hv (A.holds hg)
 ·simp at e
theorem zi(I:Inv P S0 w0 C y.hp)(A:jo C C' y): ∀ {ps qs:List AV} {cs:List Value},y.ET ps=some qs->PR C ps cs->PR C' qs cs
 |[],qs,cs,e,hp=>by
  simp only[iE.ET,Nk]at e;subst e;cases hp;exact .nil
 |p::ps,qs,cs,e,hp=>by
  simp only[iE.ET]at e;split at e
  ·rename_i q l h1 h2;obtain rfl:=MK e;cases hp with
   |sc k1 k2 k3 k4=>
    obtain⟨g1,_,g3⟩:=CZ I A h1 k1;exact .sc g1 (g3 k2) k3 (zi I A h2 k4)
   |arr k1 k2=>
    unfold iE.Gw at h1;simp only[cond_eq_ite]at h1;split at h1
    ·simp only[jh,Nk]at h1;subst h1;exact .arr (k1.wid A.wid) (zi I A h2 k2)
    ·simp at h1
   |row k1 k2=>
    unfold iE.Gw at h1;simp only[cond_eq_ite]at h1;split at h1
    ·simp[jh]at h1
    ·simp at h1
  ·simp at e
theorem wI(I:Inv P S0 w0 C y.hp)(A:jo C C' y){b o:Nat}{m:Option Nat}{t:Ty}{v w:AV}{val:Value}(h:jY y b o m t v w)(hN:b∈y.names)(hv:VR C v val):VR C' w val:=by
 cases h with
 |slc h1=>
  obtain⟨e,g1,g2⟩:=iE.mO I h1;cases hv with
  |slc k1 k2 k3 k4=>
   rw[g1]at k1;obtain rfl:=MK k1;refine .slc (A.ent _ hN _ g1) (MW _) (fun _=> ?_) k4;exact(k3 g2.symm).anew A
 |own h0 hm h1 h2=>
  subst h0;subst hm;obtain⟨e,g1,g2⟩:=iE.mO I h1;have hlen:=iE.H7 I h2 g1;cases hv with
  |own k1 k2 k3 k4=>
   rw[g1]at k1;obtain rfl:=MK k1;refine .slc (A.ent _ hN _ g1) (MW _) (fun _=> ?_) k4;have:=k3 g2.symm;unfold dO at this;unfold iW;subst hlen;refine⟨by omega,by omega,by simp,?_⟩;show match e.cb with|none=>_|some c=>_
   cases hcb:e.cb with
   |none=>rw[hcb]at this;exact⟨rfl,this⟩
   |some c=>
    rw[hcb]at this;obtain⟨cap,q1,q2,q3⟩:=this;exact⟨⟨c,0,none⟩,cap,by simpa using q1,fun _=>by simp,by simpa using q2,by simpa using q3.anew A⟩
 |nil hm h1=>
  subst hm;cases hv;exact .slc (iE.zY I A h1) (MW _) (fun _=>⟨by omega,by omega,by simp,rfl,rfl,rfl⟩) ⟨_,_,_,rfl⟩
theorem zM(I:Inv P S0 w0 C y.hp)(A:jo C C' y){s:Sl}{v w:AV}{val:Value}(h:Weak y s v w)(hN: ∀b∈s.names,b∈y.names)(hv:VR C v val):VR C' w val:=by
 induction h generalizing val with
 |dat h0 h1 h2=>
  obtain⟨k1,k2,_⟩:=CZ I A h0 hv;obtain⟨hp,h3⟩:=eF h1 h2;rcases h3 with rfl|⟨rfl,t',rfl⟩
  ·exact k1
  ·cases k1;exact .lst ⟨none,0,0,rfl,rfl,by omega,.inl ⟨rfl,fun _=>rfl⟩⟩
 |ag h0 h1=>
  cases hv with
  |agg h=>exact .agg (PR.lH ((zi I A h0 h).ay h1))
 |row=>cases hv
 |own h1=>
  obtain⟨e,g1,g2⟩:=iE.mO I h1;cases hv with
  |own k1 k2 k3 k4=>
   rw[g1]at k1;obtain rfl:=MK k1;refine .own (A.ent _ (hN _ (.head _)) _ g1) (MW _) (fun _=> ?_) k4;exact(k3 g2.symm).anew A
 |Gv h1=>
  cases hv;exact .own (iE.zY I A h1) (MW _) (fun _=>⟨rfl,rfl⟩) ⟨_,_,_,rfl⟩
 |slc h1=>exact wI I A h1 (hN _ (.head _)) hv
 |pre h1=>exact wI I A h1 (hN _ (.head _)) hv
 |ptr h1=>
  obtain⟨e,g1,g2⟩:=iE.mO I h1;cases hv with
  |ptr k1 k2 k3 k4=>
   rw[g1]at k1;obtain rfl:=MK k1;obtain⟨c,q1,q2,q3⟩:=k3 g2.symm;exact .ptr (A.ent _ (hN _ (.head _)) _ g1) (MW _) (fun _=>⟨c,q1,q2,q3⟩) k4
 | @fn g cap cap' h1=>
  cases hv with
  | @fn _ f' _ _ aZ bs k1 k2 k3=>
   cases k2;have hcap: ∀b∈cap,b∈y.names:=fun b hb=>hN b (by cases g<;>first|exact hb|exact .tail _ hb)
   refine .fn ?_ .nil (uP I A h1 hcap k3);cases g with
   |yield l=>
    obtain⟨e,c,q1,q2,q3,q4⟩:=k1;exact⟨_,c,A.ent _ (hN _ (.head _)) _ q1,q2,q3,q4⟩
   |_=>exact k1
 |Hw h1=>
  cases hv with
  |fn k1 k2 k3=>
   cases k3;exact .fn k1 (uP I A h1 hN k2) .nil
 |kP h1=>
  obtain⟨e,g1,g2⟩:=iE.mO I h1;cases hv with
  |kP k1 k2 k3 k4=>
   rw[g1]at k1;obtain rfl:=MK k1;exact .kP (A.ent _ (hN _ (.head _)) _ g1) (MW _) (fun _=>k3 g2.symm) k4
 |clo=>exact yP A.wid hv
 |CW=>cases hv;exact .aC
 |CV=>cases hv;exact .nilPtr
 |CS=>cases hv;exact .nilFn
 |CU=>cases hv;exact .nilIface
 |lit=>cases hv with|int hr=>exact .int hr
 |any=>exact .junk _
 |G6 _ ih=>cases hv with|iface h=>exact .iface (ih hN h)
def Sl.isAny:Sl->Bool
 | .any=>true
 |_=>false
theorem Sl.qN:Sl.any.isAny=true:=rfl
theorem zL(I:Inv P S0 w0 C y.hp)(A:jo C C' y): ∀ {sl:List Sl} {vs ws:List AV} {cs:List Value},bJ y sl vs ws->vs.length=sl.length->(∀s∈sl,s.isAny=false)->(∀s∈sl,∀b∈s.names,b∈y.names)->PR C vs cs->PR C' ws cs
 |[],vs,_,cs,.nil,hlen,_,_,h=>by
  have:vs=[]:=MV.1 hlen;subst this;cases h;exact .nil
 |s::sl,v::vs,w::ws,cs,.cons h1 h2,hlen,hn,hN,h=>by
  have hlen:vs.length=sl.length:=by simpa using hlen
  have ih:=fun {cs}=>zL I A (cs:=cs) h2 hlen (fun s hs=>hn s (.tail _ hs)) (fun s hs=>hN s (.tail _ hs))
  cases h with
  |sc k1 k2 k3 k4=>
   have k:=zM I A h1 (hN _ (.head _)) k1;refine .sc k ?_ k3 (ih k4);cases h1 with
   |dat q0 q1 q2=>
    rcases (eF q1 q2).2 with rfl|⟨rfl,_,rfl⟩
    ·exact(CZ I A q0 k1).2.2 k2
    ·rfl
   |ag=>simp[AV.fV]at k2
   |row=>simp[AV.fV]at k2
   |slc h=>cases h<;>rfl
   |_=>rfl
  |arr k1 k2=>
   cases h1 with
   |dat q0 q1 q2=>
    unfold iE.Gw at q0;simp only[cond_eq_ite]at q0;split at q0
    ·simp only[jh,Nk]at q0;subst q0;rcases (eF q1 q2).2 with rfl|⟨q,_,_⟩
     ·exact .arr (k1.wid A.wid) (ih k2)
     ·simp at q
    ·simp at q0
   |slc h=>cases h
   |pre h=>cases h
   |any=>have:=hn _ (.head _);simp[Sl.qN]at this
  |row k1 k2=>
   cases h1 with
   |dat q0 q1 q2=>
    unfold iE.Gw at q0;simp only[cond_eq_ite]at q0;split at q0
    ·simp[jh]at q0
    ·simp at q0
   |row=>exact .row (k1.mono fun _ _=>Rep.wid A.wid) (ih k2)
   |slc h=>cases h
   |pre h=>cases h
   |any=>have:=hn _ (.head _);simp[Sl.qN]at this
end
end Go.AM
end
section
namespace Go.AM
variable [Tabs]
open Go.RowKit
def aP.names:aP->List Nat
 | .inRange l=>[l]
 | .bF l=>[l]
 |_=>[]
def bH.names:bH->List Nat
 | .mark b=>[b]
 | .call _ l=>l.flatMap Sl.names
def gB.names(f:gB):List Nat:=f.slots.flatMap (fun x=>x.2.names)++(f.items.flatMap aP.names++(f.round.toList++f.marks.flatMap bH.names))
def dJ.names:dJ->List Nat
 | .cells _ ps=>ps.flatMap Sl.names
 | .loop _ _ _ sl _ _ d=>d::sl.flatMap (fun x=>x.2.names)
 | .deferred _=>[]
 | .iZ _ _=>[]
def dJ.Gn:dJ->Bool
 | .cells _ ps=>ps.all fun s=> !s.isAny
 |_=>true
def Spec.ok(s:Spec):Bool:=
 (s.frames.all fun f=>f.names.all fun b=>(s.blocks.map (·.1)).any (M_ b))&&
 s.blocks.all fun b=>(b.2.names.all fun c=>(s.blocks.map (·.1)).any (M_ c))&&Py b.1 s.nx&&b.2.Gn
section
variable {P:Program} {S0:Base} {w0:World} {cs0:List Frame} {f:FuncId} {C C':Cx} {y:iE}
theorem eX.anew(A:jo C C' y){a c:Nat}(hN:a∈y.names)(h:eX C a c):eX C' a c:=by
 obtain⟨e,h1,h2,h3⟩:=h;exact⟨_,A.ent _ hN _ h1,h2,h3⟩
theorem dB.anew(A:jo C C' y){fn:FuncId}: ∀ {aZ bs},(∀b∈aZ.flatMap aP.names,b∈y.names)->dB P C fn aZ bs->dB P C' fn aZ bs
 |_,_,_,.nil=> .nil
 |_,_,hN,.cons h k=>by
  refine .cons ?_ (k.anew A fun b hb=>hN b (by rw[MQ];exact MN.2 (.inr hb)));have hN: ∀b∈aP.names _,b∈y.names:=fun b hb=>hN b (by rw[MQ];exact MN.2 (.inl hb))
  cases h with
  |code=>exact .code
  |inBlock=>exact .inBlock
  |inLoop=>exact .inLoop
  |inScope=>exact .inScope
  |inRegion h=>exact .inRegion h
  |iM h1 h2 h3 h4 h5 h6=>exact .iM h1 h2 h3 h4 h5 h6
  |inRange h=>exact .inRange (h.anew A (hN _ (.head _)))
  |bF h=>exact .bF (h.anew A (hN _ (.head _)))
  |beginRound=>exact .beginRound
  |jmp=>exact .jmp
theorem yH(I:Inv P S0 w0 C y.hp)(A:jo C C' y): ∀ {sl:List Sl} {vs ws:List AV} {us:List Value},vs.length=sl.length->(∀b∈sl.flatMap Sl.names,b∈y.names)->bJ y sl vs ws->bg C vs us->bg C' ws us
 |[],[],_,_,_,_,.nil,.nil=> .nil
 |_::_,_,_,_,hl,hN,.cons h1 h2,.cons k1 k2=>
  .cons (zM I A h1 (fun b hb=>hN b (by rw[MQ];exact MN.2 (.inl hb))) k1) (yH I A (by simpa using hl) (fun b hb=>hN b (by rw[MQ];exact MN.2 (.inr hb))) h2 k2)
theorem qH(I:Inv P S0 w0 C y.hp)(A:jo C C' y): ∀ {ds:List bH} {ms:List dP} {us:List Deferred} {ws:List AV},ms.map dP.key=ds.map bH.key->(∀b∈ds.flatMap bH.names,b∈y.names)->bJ y (ds.flatMap bH.dH) (ms.flatMap dP.vals) ws->fG C ms us->fG C' (jQ ds ws) us/\(jQ ds ws).map dP.key=ds.map bH.key
 |[],_,_,_,hk,_,_,h=>by
  have:_=[]:=Om.1 hk;subst this;cases h;exact⟨.nil,rfl⟩
 |d::ds,[],_,_,hk,_,_,_=>by simp at hk
 | .mark b::ds,.mark b'::ms,_,ws,hk,hN,hw,.cons h1 h2=>by
  simp only[Np,Nv]at hk;obtain⟨hk1,hk2⟩:=hk;simp only[dP.key,bH.key,O9,true_and,and_true]at hk1;subst hk1;obtain⟨k1,k2⟩:=qH I A hk2 (fun b hb=>hN b (by rw[MQ];exact MN.2 (.inr hb))) hw h2;exact⟨.cons (h1.anew A (hN _ (by rw[MQ];exact MN.2 (.inl (.head _))))) k1,by simp only[jQ,Np,k2];rfl⟩
 | .call g l::ds,.call g' args::ms,_,ws,hk,hN,hw,.call h1 h2=>by
  simp only[Np,Nv]at hk;obtain⟨hk1,hk2⟩:=hk;simp only[dP.key,bH.key,O9,true_and]at hk1;obtain⟨hg,hl⟩:=hk1;subst hg;simp only[MQ,bH.dH,dP.vals]at hw;obtain⟨w1,w2⟩:=bJ.split hl.symm hw;obtain⟨k1,k2⟩:=qH I A hk2 (fun b hb=>hN b (by rw[MQ];exact MN.2 (.inr hb))) w2 h2;refine⟨.call (yH I A hl (fun b hb=>hN b (by rw[MQ];exact MN.2 (.inl hb))) w1 h1) k1,?_⟩;simp only[jQ,Np,k2,dP.key,bH.key,w1.len]
 | .mark _::_,.call _ _::_,_,_,hk,_,_,_=>by simp[dP.key,bH.key]at hk
 | .call _ _::_,.mark _::_,_,_,hk,_,_,_=>by simp[dP.key,bH.key]at hk
theorem zO(I:Inv P S0 w0 C y.hp)(A:jo C C' y){env:Env}{tmps:Array Value}(hE:jV C env tmps):
  ∀ {sl:List (Nat×Sl)} {ws:List AV},(∀b∈sl.flatMap (fun x=>x.2.names),b∈y.names)->bJ y (sl.map (·.2)) (sl.map fun x=>env.get x.1) ws->jV C' ((sl.map (·.1)).zip ws) tmps
 |[],ws,_,h=>fun t=> .junk _
 |(i,s)::sl,ws,hN,h=>by
  cases h with
  |cons h1 h2=>
   intro t;rw[Np,Ot,Env.aB];split
   ·rename_i hq;simp only at hq;subst hq;exact zM I A h1 (fun b hb=>hN b (by rw[MQ];exact MN.2 (.inl hb))) (hE i)
   ·exact zO I A hE (fun b hb=>hN b (by rw[MQ];exact MN.2 (.inr hb))) h2 t
theorem Bz: ∀ {ds:List bH} {ms:List dP},ms.map dP.key=ds.map bH.key->(ds.flatMap bH.dH).length=(ms.flatMap dP.vals).length
 |[],ms,h=>by
  have:ms=[]:=Om.1 h;subst this;rfl
 |d::ds,[],h=>by simp at h
 |d::ds,m::ms,h=>by
  simp only[Np,Nv]at h;have:=Bz h.2;simp only[MQ,Nc,this];congr 1;have h1:=h.1;cases d<;>cases m<;>simp_all [dP.key,bH.key,bH.dH,dP.vals]
theorem xI(I:Inv P S0 w0 C y.hp)(A:jo C C' y):
  ∀ {fs:List gB} {aZ:List aA} {fF:List Frame} {sl:List Sl} {vs ws:List AV},aZ.map wX=fs.map HY->aZ.map F6=fs.map F7->(∀a∈aZ,a.un=none)->(∀g∈fs,∀b∈g.names,b∈y.names)->oI P C aZ fF->
   bJ y (fs.flatMap gB.dH++sl) (((fs.zip aZ).flatMap fun fg=>xX fg.1 fg.2)++vs) ws->
   oI P C' (kM fs ws).1 fF/\bJ y sl vs (kM fs ws).2/\(kM fs ws).1.map wX=fs.map HY
 |[],[],_,sl,vs,ws,_,_,_,_,.nil,h=>⟨.nil,by simpa[kM]using h,rfl⟩
 |[],_::_,_,sl,vs,ws,hk,_,_,_,_,h=>by simp at hk
 |_::_,[],_,sl,vs,ws,hk,_,_,_,_,h=>by simp at hk
 |g::fs,a::aZ,_,sl,vs,ws,hk,hkd,hun,hN,.cons hf hfs,h=>by
  simp only[Np,Nv]at hk hkd;obtain⟨hk1,hk2⟩:=hk;obtain⟨hd1,hd2⟩:=hkd;have hd1:a.marks.map dP.key=g.marks.map bH.key:=hd1;have e1:a.fn=g.fn:=congrArg (·.1) hk1;have e2:a.items=g.items:=congrArg (·.2.1) hk1;have e3:a.round=g.round:=congrArg (·.2.2.1) hk1;have e4:a.dk=g.dk:=congrArg (·.2.2.2) hk1;simp only[Ot,MQ,N8]at h;have hlen:g.dH.length=(xX g a).length:=by
   unfold gB.dH xX;rw[Nc,Nc,Bz hd1,NH,NH]
  obtain⟨h1,h2⟩:=bJ.split hlen h;obtain⟨k1,k2,k3⟩:=xI I A hk2 hd2 (fun x hx=>hun x (.tail _ hx)) (fun g hg=>hN g (.tail _ hg)) hfs h2;have h1:bJ y (g.slots.map (·.2)++g.marks.flatMap bH.dH) ((g.slots.map fun x=>a.env.get x.1)++a.marks.flatMap dP.vals) (ws.take g.dH.length):=h1;obtain⟨h1a,h1b⟩:=bJ.split (by simp) h1;simp only[NH]at h1a h1b;have Jz:=hN g (.head _);unfold gB.names at Jz;have Lm:g.dH.length=g.slots.length+(g.marks.flatMap bH.dH).length:=by unfold gB.dH;rw[Nc,NH]
  have t1:(ws.take g.dH.length).take g.slots.length=ws.take g.slots.length:=by rw[O4,OU (by omega)]
  have t2: ∀ {ds:List bH} {u:List AV} {n:Nat},(ds.flatMap bH.dH).length<=n->jQ ds (u.take n)=jQ ds u:=by
   intro ds
   induction ds with
   |nil=>intro u n _;rfl
   |cons d ds ih=>
    intro u n hn;cases d with
    |mark b=>simp only[jQ];rw[ih (by simpa[bH.dH]using hn)]
    |call f l=>
     simp only[MQ,bH.dH,Nc]at hn;simp only[jQ];rw[O4,OU (by omega),OY,ih (by omega)]
  have t3:jQ g.marks ((ws.take g.dH.length).drop g.slots.length)=jQ g.marks (ws.drop g.slots.length):=by rw[OY,t2 (by omega)]
  rw[t1]at h1a;obtain⟨d1,d2⟩:=qH I A hd1 (fun b hb=>Jz b (MN.2 (.inr (MN.2 (.inr (MN.2 (.inr hb))))))) h1b hf.defers;rw[t3]at d1;refine⟨.cons ⟨hf.fn.trans e1,by rw[<-e1];exact hf.ok,⟨zO I A hf.tmps.env (fun b hb=>Jz b (MN.2 (.inl hb))) h1a,fun m hm=>by simp at hm⟩,?_,d1,?_,?_,?_⟩ k1,k2,?_⟩
  ·have:=hf.todo;rw[e1,e2]at this;exact this.anew A fun b hb=>Jz b (MN.2 (.inr (MN.2 (.inl hb))))
  ·have:=hf.dh;rw[hun a (.head _)]at this;exact this
  ·have:=hf.kind;rw[e4]at this;exact this
  ·have:=hf.round;rw[e3]at this;show nR C' g.round _;cases hr:g.round with
   |none=>rw[hr]at this;exact this
   |some l=>
    rw[hr]at this;obtain⟨c,q1,q2⟩:=this;exact⟨c,q1,q2.anew A (Jz l (MN.2 (.inr (MN.2 (.inr (MN.2 (.inl (by rw[hr];simp))))))))⟩
  ·simp only[kM,Np,k3];rfl
theorem qO{o:dJ}{x:Option gI}(h:fZ o x=true):o.dH.length=(lookO o x).length:=by
 unfold fZ at h;split at h
 ·simp only[ML]at h;exact(MO h.2).symm
 ·rfl
 ·simp[dJ.dH,lookO]
 ·rfl
 ·rfl
 ·simp at h
theorem qG{h:Hp}: ∀ {bs:List (Nat×dJ)} {ws:List AV},(∀b∈bs,fZ b.2 (h.get b.1)=true)->bJ y (bs.flatMap fun b=>b.2.dH) (bs.flatMap fun b=>lookO b.2 (h.get b.1)) ws->
  ∀ {b:Nat} {o:gI},(rJ bs ws).get b=some o-> ∃sp wo,(b,sp)∈bs/\o=xJ sp wo/\bJ y sp.dH (lookO sp (h.get b)) wo
 |[],ws,_,_,b,o,e=>by simp[rJ,Hp.get]at e
 |(i,sp)::bs,ws,hf,hw,b,o,e=>by
  simp only[MQ]at hw;obtain⟨h1,h2⟩:=bJ.split (qO (hf _ (.head _))) hw;simp only[rJ]at e;rw[Hp.aB]at e;split at e
  ·rename_i hq;subst hq;exact⟨sp,_,.head _,(MK e).symm,h1⟩
  ·obtain⟨sp',wo,k1,k2⟩:=qG (fun b hb=>hf b (.tail _ hb)) h2 e;exact⟨sp',wo,.tail _ k1,k2⟩
theorem BA{xs:List Int}{wo:List AV}(h:bJ y [.dat .str] [.str xs] wo):wo=[.str xs]:=by
 cases h with
 |cons h1 h2=>
  cases h2;cases h1 with
  |dat q0 q1 q2=>
   unfold iE.Gw at q0;simp only[cond_eq_ite]at q0;split at q0
   ·simp only[jh,Nk]at q0;subst q0;obtain⟨_,q3⟩:=eF q1 q2;rcases q3 with rfl|⟨q,_⟩
    ·rfl
    ·cases q
   ·simp at q0
theorem EI{sp:dJ}{x:Option gI}{wo:List AV}{T e:Nat}{xs:List Int}(h:fZ sp x=true)(hw:bJ y sp.dH (lookO sp x) wo)(ho: .iZ T e xs=xJ sp wo):x=some (.iZ T e xs):=by
 cases sp with
 |iZ T' e'=>
  cases x with
  |none=>simp[fZ]at h
  |some x=>
   cases x with
   |iZ T2 e2 ys=>
    simp only[fZ,ML]at h;have h1:=MO h.1;have h2:=MO h.2;have:=BA hw;subst this;simp only[xJ]at ho;cases ho;rw[h1,h2]
   |_=>simp[fZ]at h
 |_=>simp[xJ]at ho
theorem qF: ∀ {bs:List (Nat×dJ)} {ws:List AV} {b:Nat},b∈bs.map (·.1)-> ∃o,(rJ bs ws).get b=some o
 |[],_,_,h=>by simp at h
 |(i,sp)::bs,ws,b,h=>by
  simp only[rJ];rw[Hp.aB];split
  ·exact⟨_,rfl⟩
  ·rename_i hq;refine qF ?_;rcases Ns.1 h with rfl|h
   ·exact(hq rfl).elim
   ·exact h
theorem Fg{sl:List Sl}{vs ws:List AV}(h:bJ y sl vs ws){t:Ty}{xs:List t.den}(hm:AV.row t xs∈ws):AV.row t xs∈vs:=by
 induction h with
 |nil=>simp at hm
 |cons h1 h2 ih=>
  rcases Ns.1 hm with hq|hq
  ·subst hq;cases h1 with
   |dat q0 q1 q2=>
    obtain⟨hp,q3⟩:=eF q1 q2;rcases q3 with q|⟨_,_,q⟩
    ·subst q;simp[aT]at hp
    ·simp at q
   |slc h=>cases h
   |row=>exact .head _
  ·exact .tail _ (ih hq)
theorem kV.anew(I:Inv P S0 w0 C y.hp)(A:jo C C' y){sp:dJ}{wo:List AV}{x:gI}{e:tC}(hf:fZ sp (some x)=true)
  (hN: ∀b∈sp.names,b∈y.names) (hna:sp.Gn=true) (hw:bJ y sp.dH (lookO sp (some x)) wo) (h:kV P C e x):kV P C' {e with ver:=0} (xJ sp wo):=by
 have hlen:=qO hf;cases sp with
 |cells ro sl=>
  cases x with
  |cells v ro' ps=>
   obtain⟨h1,h2,h3,h4⟩:=h;have hpr:=fun {cs}=>zL (cs:=cs) I A hw hlen.symm (fun s hs=>by
    have:=MP.1 hna s hs;simpa using this) (fun s hs b hb=>hN b (Nh.2 ⟨s,hs,hb⟩))
   refine⟨rfl,h2,fun t xs hm=>h3 t xs (Fg hw hm),?_⟩;revert h4;show (match e.cb with|none=>_|some c=>_)->match e.cb with|none=>_|some c=>_
   cases hcb:e.cb with
   |none=>
    rintro⟨t,rfl⟩
    generalize hs:dJ.dH (.cells ro sl)=dH at hw;cases hw with
    |nil=>rw[hs]at hlen;simp[lookO]at hlen
    |cons q1 q2=>
     cases q2;cases q1 with
     |dat q0 q1 q2=>simp[iE.Gw,jh]at q0
     |slc h=>cases h
     |pre h=>cases h
     |row=>exact⟨t,rfl⟩
     |any=>
      simp only[dJ.dH]at hs;simp[dJ.Gn,hs,Sl.qN]at hna
   |some c=>
    rintro⟨pre,k1,k2,k3⟩
    exact⟨pre,hpr k1,by rw[A.w];exact k2,by rw[A.w];exact k3⟩
  |_=>simp[fZ]at hf
 |loop st pend fn sl ps p d=>
  cases x with
  |loop st' yx fn' env ps' p' d'=>
   simp only[fZ,decide_eq_true_eq]at hf;obtain⟨rfl,rfl,rfl,rfl,rfl,rfl⟩:=hf;obtain⟨h1,c,hcb,lp,g1,g2,g3,g4,g5,g6,g7,g8,g9,ed,g10,g11,g12⟩:=h;exact⟨h1,c,hcb,lp,by rw[A.w];exact g1,g2,g3,g4,g5,g6,g7,zO I A g8 (fun b hb=>hN b (.tail _ hb)) hw,g9,_,A.ent _ (hN _ (.head _)) _ g10,g11,g12⟩
  |_=>simp[fZ]at hf
 |deferred b=>
  cases x with
  |deferred b'=>
   have:b=b':=by simpa[fZ]using hf
   subst this;obtain⟨h1,c,hcb,g⟩:=h;exact⟨h1,c,hcb,by rw[A.w];exact g⟩
  |_=>simp[fZ]at hf
 |iZ T t=>
  cases x with
  |iZ T' t' xs=>
   have:=BA hw;subst this;exact⟨h.1,rfl,h.2.2⟩
  |_=>simp[fZ]at hf
theorem bn.key: ∀ {aZ bs:List aA},aZ.map wX=bs.map wX->bn f aZ->bn f bs
 |[],_,_,h=>h.elim
 |[a],[b],e,h=>by
  simp only[Np,List.map_nil,Nv,and_true]at e;have e1:a.fn=b.fn:=congrArg (·.1) e;have e3:a.round=b.round:=congrArg (·.2.2.1) e;have e4:a.dk=b.dk:=congrArg (·.2.2.2) e;exact⟨e1▸h.1,e3▸h.2.1,e4▸h.2.2⟩
 |[a],[],e,h=>by simp at e
 |[a],_::_::_,e,h=>by simp at e
 |_::_::_,[],e,h=>by simp at e
 |_::_::_,[_],e,h=>by simp at e
 |a::b::r,c::d::q,e,h=>by
  have e:(b::r).map wX=(d::q).map wX:=(NS e).2;exact bn.key (aZ:=b::r) (bs:=d::q) e h
theorem vg{s:Spec}{st:St}{fr:Frame}{cs:List Frame}{ws:List AV}(S:jU P S0 w0 cs0 f C st fr cs)(hat:kX s st=true)(hok:s.ok=true)(hw:bJ ⟨st.hp,s.names⟩ s.dH (looks s st) ws):
  ∃C',C'.w=C.w/\jU P S0 w0 cs0 f C' (s.fill ws) fr cs:=by
 obtain⟨⟨⟨⟨hkey,JC⟩,hun⟩,hfit⟩,KD⟩:(((st.frames.map wX=s.frames.map HY/\st.frames.map F6=s.frames.map F7)/\ ∀a∈st.frames,a.un.isNone=true)/\ ∀b∈s.blocks,fZ b.2 (st.hp.get b.1)=true)/\ ∀o,st.hp.get aX=some o->aX∈s.names:=by
  unfold kX at hat;split at hat
  ·simp only[cond_eq_ite]at hat;split at hat
   ·rename_i hq;simp only[ML,decide_eq_true_eq,MP]at hat;refine⟨hat,fun o ho=> ?_⟩;simp only[ML,OG]at hq;rcases hq.2 with h1|h1
    ·rw[ho]at h1;simp at h1
    ·obtain⟨x,hx,he⟩:=NP.1 h1;rw[MO he];exact hx
   ·simp at hat
  ·simp at hat
 simp only[Spec.ok,ML,MP,N9]at hok;obtain⟨hF,hB⟩:=hok
 let y:iE:=⟨st.hp,s.names⟩
 let J8:Nat->Nat->Prop:=fun c j=>C.RO c j\/ ∃b e v ro ps,y.names.any (M_ b)=false/\C.M b=some e/\e.cb=some c/\st.hp.get b=some (.cells v ro ps)/\j<aH ps
 let C':Cx:=⟨C.w,J8,fun b=>if b∈y.names then some (match C.M b with|some e=> {e with ver:=0}|none=>⟨0,none,0,false⟩)else none⟩
 have A:jo C C' y:=⟨rfl,fun _ _ q=> .inl q,fun b hb e c v ro ps j q1 q2 q3 q4=> .inr ⟨b,e,v,ro,ps,hb,q1,q2,q3,q4⟩,fun b hb e he=>by simp[C',hb,he],fun b hb he=>by simp[C',hb,he]⟩;have uX: ∀b e',C'.M b=some e'->b∈y.names/\((∃e,C.M b=some e/\e'= {e with ver:=0})\/(C.M b=none/\e'=⟨0,none,0,false⟩)):=by
  intro b e' he;by_cases hb:b∈y.names
  ·refine⟨hb,?_⟩;simp only[C',hb,if_true]at he;have he:=MK he;cases hq:C.M b with
   |none=>rw[hq]at he;exact .inr ⟨rfl,he.symm⟩
   |some e=>rw[hq]at he;exact .inl ⟨e,rfl,he.symm⟩
  ·simp[C',hb]at he
 have I:Inv P S0 w0 C y.hp:=S.inv;have hw':bJ y (s.frames.flatMap gB.dH++s.blocks.flatMap fun b=>b.2.dH) (((s.frames.zip st.frames).flatMap fun fg=>xX fg.1 fg.2)++s.blocks.flatMap fun b=>lookO b.2 (st.hp.get b.1)) ws:=hw;obtain⟨k1,k2,k3⟩:=xI (P:=P) I A (sl:=s.blocks.flatMap fun b=>b.2.dH) (vs:=s.blocks.flatMap fun b=>lookO b.2 (st.hp.get b.1)) hkey JC (fun a ha=>by have:=hun a ha;simpa using this) (fun g hg b hb=>any_beq (hF g hg b hb)) S.fF hw';refine⟨C',rfl,k1,?_,?_,?_⟩
 ·have sZ: ∀b o,(rJ s.blocks (kM s.frames ws).2).get b=some o-> ∃sp e',C'.M b=some e'/\kV P C' e' o/\(b,sp)∈s.blocks/\
    (∀e v ro ps c,C.M b=some e->e.cb=some c->st.hp.get b=some (.cells v true ps)->ro=true-> ∃ps',o= .cells 0 true ps'/\aH ps'=aH ps):=by
   intro b o ho;obtain⟨sp,wo,q1,q2,q3⟩:=qG (y:=y) hfit k2 ho;have hfb:=hfit _ q1;simp only at hfb;have hbN:b∈y.names:=NM.2 ⟨_,q1,rfl⟩;have hb:=hB _ q1;cases hx:st.hp.get b with
   |some x=>
    rw[hx]at hfb q3;obtain⟨e,g1,g2⟩:=S.inv.obj _ _ hx;have JG:=g2.anew I A hfb (fun c hcn=>any_beq (hb.1.1 c hcn)) hb.2 q3;refine⟨sp,_,A.ent _ hbN _ g1,by rw[q2];exact JG,q1,fun e2 v ro ps c r1 r2 r3 _=> ?_⟩;obtain rfl:=MK r3;cases sp with
    |cells ro' sl=>
     have hro:ro'=true:=by
      simp only[fZ,ML]at hfb;simpa using hfb.1
     subst hro;refine⟨wo,q2,?_⟩;obtain⟨_,_,_,t1⟩:=g2;rw[g1]at r1;obtain rfl:=MK r1;rw[r2]at t1;obtain⟨pre,u1,_,_⟩:=t1;have hlen:=qO hfb;have hpr:=zL I A q3 hlen.symm (fun s hs=>by
      have:=MP.1 hb.2 s hs;simpa using this) (fun s hs b' hb'=>any_beq (hb.1.1 b' (Nh.2 ⟨s,hs,hb'⟩))) u1
     rw[<-hpr.length,u1.length]
    |_=>simp[fZ]at hfb
   |none=>
    rw[hx]at hfb q3;have hM:C.M b=none:=by
     cases hq:C.M b with
     |none=>rfl
     |some e=>obtain⟨o,ho⟩:=S.inv.dom b e hq;rw[hx]at ho;simp at ho
    refine⟨sp,_,A.born _ hbN hM,?_,q1,fun e2 v ro ps c r1 r2 r3 _=>by simp at r3⟩;unfold fZ at hfb;split at hfb
    ·rename_i hq;simp at hq
    ·rename_i ro t _;have q3:bJ y [.row t] [.row t []] wo:=q3;cases q3 with
     |cons z1 z2=>
      cases z2;cases z1 with
      |row=>
       rw[q2];exact⟨rfl,rfl,fun t' xs hm=>by
        simp only[Na]at hm;cases hm;rfl,t,rfl⟩
    ·rename_i hq;simp at hq
    ·rename_i hq;simp at hq
    ·rename_i hq;simp at hq
    ·simp at hfb
  refine⟨S.inv.below,?_,?_,?_,?_,?_,?_,?pin,?hid,S.inv.tabs.wid A.wid,S.inv.good⟩
  ·intro b o ho;obtain⟨sp,e',q1,q2,_⟩:=sZ b o ho;exact⟨e',q1,q2⟩
  ·intro b e' he;exact qF (uX b e' he).1
  ·intro b e' c he hcb;rcases (uX b e' he).2 with⟨e,q1,rfl⟩|⟨q1,rfl⟩
   ·exact S.inv.loc b e c q1 hcb
   ·simp at hcb
  ·intro b e1 b' e2 c he1 hc1 he2 hc2;rcases (uX b e1 he1).2 with⟨e,q1,rfl⟩|⟨q1,rfl⟩
   ·rcases (uX b' e2 he2).2 with⟨e',q2,rfl⟩|⟨q2,rfl⟩
    ·exact S.inv.inj b e b' e' c q1 hc1 q2 hc2
    ·simp at hc2
   ·simp at hc1
  ·rintro c j (q|⟨b,e,v,ro,ps,q0,q1,q2,q3,q4⟩)
   ·exact S.inv.ro c j q
   ·have:=S.inv.loc b e c q1 q2;exact⟨this.2,.inr this.1⟩
  ·intro b e' c j he hcb hr;obtain⟨hbN,hcase⟩:=uX b e' he;rcases hcase with⟨e,q1,rfl⟩|⟨q1,rfl⟩
   ·have hr0:C.RO c j:=by
     rcases hr with q|⟨b',e2,v,ro,ps,r0,r1,r2,r3,r4⟩
     ·exact q
     ·obtain rfl:=S.inv.inj _ _ _ _ _ q1 hcb r1 r2
      exfalso
      have:y.names.any (M_ b)=true:=NP.2 ⟨b,hbN,by simp⟩;rw[r0]at this;simp at this
    obtain⟨v,ps,g1,g2⟩:=S.inv.w_ b e c j q1 hcb hr0;obtain⟨o,ho⟩:=qF (ws:=(kM s.frames ws).2) hbN;obtain⟨sp,e2,r1,r2,r3,r4⟩:=sZ b o ho;obtain⟨ps',z1,z2⟩:=r4 e v true ps c q1 hcb g1 rfl;exact⟨0,ps',by rw[z1]at ho;exact ho,by rw[z2];exact g2⟩
   ·simp at hcb
  ·intro c hc;obtain⟨⟨e,h1,h2⟩,h3⟩:=S.inv.pin c hc;obtain⟨o,ho⟩:=S.inv.dom _ e h1;have hm:aX∈y.names:=KD o ho;exact⟨⟨{e with ver:=0},by simp[C',hm,h1],h2⟩,h3⟩
  ·obtain⟨H,hH⟩:=S.inv.hid;refine⟨H,fun b T e xs q=> ?_,hH.old,fun b g x en q hx hxc=> ?_,hH.one,fun b g j q hr=> ?_⟩
   ·obtain⟨sp,wo,q1,q2,q3⟩:=qG (y:=y) hfit k2 q;have hg:=EI (hfit _ q1) q3 q2;obtain⟨en,c,v,z1,z2,z3,z4,z5⟩:=hH.iZ b T e xs hg;exact⟨_,c,v,A.ent _ (NM.2 ⟨_,q1,rfl⟩) _ z1,z2,z3,z4,z5⟩
   ·rcases (uX x en hx).2 with⟨e,q1,rfl⟩|⟨q1,rfl⟩
    ·exact hH.cb b g x e q q1 hxc
    ·cases hxc
   ·rcases hr with z|⟨b',e,v,ro,ps,q0,q1,q2,q3,q4⟩
    ·exact hH.ro b g j q z
    ·exact hH.cb b g b' e q q1 q2
 ·intro z hz;cases hq:C'.M z with
  |none=>exact(hz hq).elim
  |some e'=>
   obtain⟨LW,_⟩:=uX z e' hq;obtain⟨b,hb1,hb2⟩:=NM.1 LW;have:=(hB _ hb1).1.2;rw[hb2]at this;exact this
 ·exact bn.key (by show st.frames.map wX=(kM s.frames ws).1.map wX;rw[k3,hkey]) S.last
end
end Go.AM
end
section
namespace Go.AM
variable [Tabs]
open Go.RowKit
theorem qo(a b n:Nat):sK a b n=if n=a then b else if n=b then a else n:=by
 have e: ∀x y:Nat,M_ x y=decide (x=y):=fun x y=>by
  by_cases h:x=y
  ·subst h;simp
  ·rw[decide_eq_false h];cases hq:M_ x y with
   |false=>rfl
   |true=>exact(h (MO hq)).elim
 unfold sK;rw[e,e];by_cases h1:n=a<;>by_cases h2:n=b<;>simp[h1,h2]
theorem mD(a b n:Nat):sK a b (sK a b n)=n:=by
 rw[qo,qo]
 grind
def Cx.sw(C:Cx)(g:Nat->Nat):Cx:=⟨C.w,C.RO,fun n=>C.M (g n)⟩
section
variable {C:Cx} {f g:Nat->Nat}
theorem Rep.sw: ∀ {t:Ty} {x:t.den} {cs:List Value},Rep C t x cs->Rep (C.sw g) t x cs
 | .int _,_,_,h=>h
 | .bool,_,_,h=>h
 | .str,_,_,h=>h
 | .lst t,_,_,⟨a,n,c,e,e1,e2,h⟩=>⟨a,n,c,e,e1,e2,h.imp id fun ⟨b,o,ds,e3,h1,h2⟩=>⟨b,o,ds,e3,h1.mono fun _ _=>Rep.sw,h2⟩⟩
 | .arr _ t,_,_,⟨e,h⟩=>⟨e,h.mono fun _ _=>Rep.sw⟩
 | .unit,_,_,h=>h
 | .pair _ _,_,_,⟨c1,c2,e,h1,h2⟩=>⟨c1,c2,e,h1.sw,h2.sw⟩
theorem dO.sw{e:tC}{t:Ty}{v:Value}(h:dO C e t v):dO (C.sw g) e t v:=h
theorem iW.sw{e o m t i n v}(h:iW C e o m t i n v):iW (C.sw g) e o m t i n v:=h
mutual
theorem VR.sw(hg: ∀n,g (f n)=n): ∀ {a v},VR C a v->VR (C.sw g) (a.sw f) v
 |_,_,.junk v=> .junk v
 |_,_,.int h=> .int h
 |_,_,.bool=> .bool
 |_,_,.str h=> .str h
 |_,_,.lst h=> .lst h.sw
 |_,_,.iO h k=> .iO h.sw k
 |_,_,.arr h=> .arr h.sw
 |_,_,.rp h1 h2=> .rp h1.sw h2
 |_,_,.ptr (b:=b) h1 h2 h3 h4=> .ptr (show C.M (g (f b))=_ by rw[hg];exact h1) h2 h3 h4
 |_,_,.own (b:=b) h1 h2 h3 h4=> .own (show C.M (g (f b))=_ by rw[hg];exact h1) h2 h3 h4
 |_,_,.slc (b:=b) h1 h2 h3 h4=> .slc (show C.M (g (f b))=_ by rw[hg];exact h1) h2 h3 h4
 |_,_,.kP (b:=b) h1 h2 h3 h4=> .kP (show C.M (g (f b))=_ by rw[hg];exact h1) h2 h3 h4
 |_,_,.aC=> .aC
 |_,_,.nilPtr=> .nilPtr
 |_,_,.nilFn=> .nilFn
 |_,_,.nilIface=> .nilIface
 |_,_,.fn (f:=fn) h1 h2 h3=>by
  cases fn with
  |yield l=>
   obtain⟨e,c,q1,q2,q3,q4⟩:=h1;exact .fn (show Jw (C.sw g) (.yield (f l)) _ from⟨e,c,by show C.M (g (f l))=_;rw[hg];exact q1,q2,q3,q4⟩) (bg.sw hg h2) (bg.sw hg h3)
  |func _=>exact .fn h1 (bg.sw hg h2) (bg.sw hg h3)
  |method _=>exact .fn h1 (bg.sw hg h2) (bg.sw hg h3)
  |methodOf _ _=>exact .fn h1 (bg.sw hg h2) (bg.sw hg h3)
  |via _ _ _ _=>exact .fn h1 (bg.sw hg h2) (bg.sw hg h3)
 |_,_,.iface h=> .iface (VR.sw hg h)
 |_,_,.agg h=> .agg (PR.sw hg h)
 |_,_,.gG h=> .gG (bg.sw hg h)
theorem bg.sw(hg: ∀n,g (f n)=n): ∀ {a v},bg C a v->bg (C.sw g) (fU f a) v
 |_,_,.nil=> .nil
 |_,_,.cons h1 h2=> .cons (VR.sw hg h1) (bg.sw hg h2)
theorem PR.sw(hg: ∀n,g (f n)=n): ∀ {a v},PR C a v->PR (C.sw g) (fU f a) v
 |_,_,.nil=> .nil
 |p::_,_,.sc h1 h2 h3 h4=> .sc (VR.sw hg h1) (by cases p<;>first|exact h2|(rename_i fn _ _;cases fn<;>exact h2)) h3 (PR.sw hg h4)
 |_,_,.arr h1 h2=> .arr h1.sw (PR.sw hg h2)
 |_,_,.row h1 h2=> .row (h1.mono fun _ _=>Rep.sw) (PR.sw hg h2)
end
theorem Env.mg: ∀(e:Env) (t:Nat),(Env.sw f e).get t=(e.get t).sw f
 |[],t=>rfl
 |(i,v)::r,t=>by
  have ih:=Env.mg r t;show Env.get ((i,v.sw f)::Env.sw f r) t=_;rw[Env.aB,Env.aB,ih];split<;>rfl
theorem Hp.mg(hg: ∀n,g (f n)=n)(hf: ∀n,f (g n)=n): ∀(h:Hp) (n:Nat),(Hp.sw f h).get n=(h.get (g n)).map (gI.sw f)
 |[],n=>rfl
 |(b,o)::r,n=>by
  have ih:=Hp.mg hg hf r n;show Hp.get ((f b,o.sw f)::Hp.sw f r) n=_;rw[Hp.aB,Hp.aB,ih];by_cases h1:f b=n
  ·rw[if_pos h1,if_pos (by rw[<-h1,hg])];rfl
  ·rw[if_neg h1,if_neg (fun q=>h1 (by rw[q,hf]))]
theorem jV.sw(hg: ∀n,g (f n)=n){e:Env}{tmps:Array Value}(h:jV C e tmps):jV (C.sw g) (Env.sw f e) tmps:=fun t=>by rw[Env.mg];exact(h t).sw hg
theorem Fb{f:Nat->Nat}(t:Ty)(xs:List t.den)(ps:List AV)(h:AV.row t xs∈fU f ps):AV.row t xs∈ps:=by
 induction ps with
 |nil=>simp[fU]at h
 |cons p ps ih=>
  rcases Ns.1 h with h|h
  ·cases p with
   |row=>rw[h];exact .head _
   |fn fn x y=>cases fn<;>exact absurd h (by simp[AV.sw])
   |_=>exact absurd h (by simp[AV.sw])
  ·exact .tail _ (ih h)
theorem Ik(f:Nat->Nat)(p:AV):(p.sw f).size=p.size:=by cases p<;>first|rfl|(rename_i fn _ _;cases fn<;>rfl)
theorem wF(f:Nat->Nat): ∀ps:List AV,aH (fU f ps)=aH ps
 |[]=>rfl
 |p::ps=>by rw[fU,lK,lK,wF f ps,Ik]
theorem kV.sw{P:Program}(hg: ∀n,g (f n)=n){e:tC}{o:gI}(h:kV P C e o):kV P (C.sw g) e (o.sw f):=by
 cases o with
 |cells ver ro ps=>
  obtain⟨h1,h2,h3,h4⟩:=h;refine⟨h1,h2,fun t xs hm=>h3 t xs (Fb t xs ps hm),?_⟩;cases hc:e.cb with
  |none=>rw[hc]at h4;obtain⟨t,rfl⟩:=h4;exact⟨t,rfl⟩
  |some c=>rw[hc]at h4;obtain⟨pre,k1,k2,k3⟩:=h4;exact⟨pre,k1.sw hg,k2,k3⟩
 |loop st pend fn env ps p d=>
  obtain⟨h1,c,h2,l,h3,h4,h5,h6,h7,h8,h9,h10,h11,ed,h12,h13,LG⟩:=h;exact⟨h1,c,h2,l,h3,h4,h5,h6,h7,h8,h9,h10.sw hg,h11,ed,by show C.M (g (f d))=_;rw[hg];exact h12,h13,LG⟩
 |deferred b=>exact h
 |iZ=>exact h
theorem Inv.sw{P:Program}{S0:Base}{w0:World}{h:Hp}(hg: ∀n,g (f n)=n)(hf: ∀n,f (g n)=n)(KD:g aX=aX)(I:Inv P S0 w0 C h):Inv P S0 w0 (C.sw g) (Hp.sw f h) where
 tabs:=I.tabs.wid ⟨rfl,fun _ _ q=>q⟩
 good:=I.good
 hid:=by
  obtain⟨H,hH⟩:=I.hid;refine⟨fun n=>H (g n),fun b T e xs q=> ?_,fun b c q=>hH.old (g b) c q,fun b c x en q hx=>hH.cb (g b) c (g x) en q hx,fun b b' c q q'=> ?_,fun b c j q=>hH.ro (g b) c j q⟩
  ·rw[Hp.mg hg hf]at q;obtain⟨o',h1,h2⟩:=Ob.1 q;cases o' with
   |iZ=>cases h2;exact hH.iZ _ _ _ _ h1
   |_=>cases h2
  ·have:=congrArg f (hH.one (g b) (g b') c q q')
   rwa [hf,hf]at this
 below:=I.below
 obj b o ho:=by
  rw[Hp.mg hg hf]at ho;obtain⟨o',h1,rfl⟩:=Ob.1 ho;obtain⟨e,k1,k2⟩:=I.obj _ _ h1;exact⟨e,k1,k2.sw hg⟩
 dom b e he:=by
  obtain⟨o,ho⟩:=I.dom _ _ he;exact⟨_,by rw[Hp.mg hg hf,ho];rfl⟩
 loc b e c h1 h2:=I.loc _ _ _ h1 h2
 inj b e b' e' c h1 h2 h3 h4:=by
  have:=I.inj _ _ _ _ _ h1 h2 h3 h4;rw[<-hf b,<-hf b',this]
 ro:=I.ro
 w_ b e c j h1 h2 h3:=by
  obtain⟨v,ps,k1,k2⟩:=I.w_ _ _ _ _ h1 h2 h3;exact⟨v,fU f ps,by rw[Hp.mg hg hf,k1];rfl,by rw[wF];exact k2⟩
 pin c hc:=by
  obtain⟨⟨e,h1,h2⟩,h3⟩:=I.pin c hc;exact⟨⟨e,by show C.M (g aX)=_;rw[KD];exact h1,h2⟩,h3⟩
theorem eX.sw(hg: ∀n,g (f n)=n){l c:Nat}(h:eX C l c):eX (C.sw g) (f l) c:=by
 obtain⟨e,h1,h2,h3⟩:=h;exact⟨e,by show C.M (g (f l))=_;rw[hg];exact h1,h2,h3⟩
theorem dB.sw{P:Program}(hg: ∀n,g (f n)=n){fn:FuncId}: ∀ {aZ bs},dB P C fn aZ bs->dB P (C.sw g) fn (aZ.map (aP.sw f)) bs
 |_,_,.nil=> .nil
 |_,_,.cons h k=>by
  refine .cons ?_ (dB.sw hg k);cases h with
  |code=>exact .code
  |inBlock=>exact .inBlock
  |inLoop=>exact .inLoop
  |inScope=>exact .inScope
  |inRegion h=>exact .inRegion h
  |iM h1 h2 h3 h4 h5 h6=>exact .iM h1 h2 h3 h4 h5 h6
  |inRange h=>exact .inRange (h.sw hg)
  |bF h=>exact .bF (h.sw hg)
  |beginRound=>exact .beginRound
  |jmp=>exact .jmp
theorem zG(f:Nat->Nat): ∀a b:List AV,fU f (a++b)=fU f a++fU f b
 |[],_=>rfl
 |x::a,b=>by simp[fU,zG f a b]
theorem fG.sw(hg: ∀n,g (f n)=n): ∀ {aZ bs},fG C aZ bs->fG (C.sw g) (aZ.map (dP.sw f)) bs
 |_,_,.nil=> .nil
 |_,_,.cons h k=> .cons (h.sw hg) (k.sw hg)
 |_,_,.call h k=> .call (h.sw hg) (k.sw hg)
theorem zQ.sw{P:Program}(hg: ∀n,g (f n)=n){a:aA}{fr:Frame}(hu:a.un=none)(h:zQ P C a fr):zQ P (C.sw g) (a.sw f) fr:=by
 refine⟨h.fn,h.ok,⟨h.tmps.env.sw hg,fun m hm=>by simp[aA.sw]at hm⟩,h.todo.sw hg,h.defers.sw hg,?_,h.kind,?_⟩
 ·have:=h.dh;rw[hu]at this;show kJ _ a.un _;rw[hu];exact this
 ·have:=h.round;cases hr:a.round with
  |none=>rw[hr]at this;show nR _ (a.round.map f) _;rw[hr];exact this
  |some l=>rw[hr]at this;obtain⟨c,q1,q2⟩:=this;show nR _ (a.round.map f) _;rw[hr];exact⟨c,q1,q2.sw hg⟩
theorem oI.sw{P:Program}(hg: ∀n,g (f n)=n): ∀ {aZ:List aA} {fF:List Frame},(∀a∈aZ,a.un=none)->oI P C aZ fF->oI P (C.sw g) (aZ.map (aA.sw f)) fF
 |_,_,_,.nil=> .nil
 |_,_,hu,.cons h k=> .cons (h.sw hg (hu _ (.head _))) (oI.sw hg (fun a ha=>hu a (.tail _ ha)) k)
theorem bn.sw{fn:FuncId}{f:Nat->Nat}: ∀ {aZ:List aA},bn fn aZ->bn fn (aZ.map (aA.sw f))
 |[],h=>h
 |[a],⟨h1,h2,h3⟩=>⟨h1,by show a.round.map f=none;rw[h2];rfl,h3⟩
 |_::b::r,h=>bn.sw (aZ:=b::r) h
theorem jU.swap{P:Program}{S0:Base}{w0:World}{cs0:List Frame}{fn:FuncId}{st:St}{fr:Frame}{cs:List Frame}(S:jU P S0 w0 cs0 fn C st fr cs){a b:Nat}(ha:a≠aX)(hb:b≠aX)(hu: ∀x∈st.frames,x.un=none):
  jU P S0 w0 cs0 fn (C.sw (sK a b)) (st.swap a b) fr cs where
 fF:=S.fF.sw (mD a b) hu
 inv:=S.inv.sw (mD a b) (mD a b) (by rw[qo,if_neg (Pz ha),if_neg (Pz hb)])
 names y hy:=by
  have h1:sK a b y<st.nx:=S.names _ hy;show y<max st.nx (max a b+1);rw[qo]at h1;split at h1
  ·omega
  ·split at h1<;>omega
 last:=S.last.sw
theorem J4{f:Nat->Nat}{st:St}{a b:Nat}(hu: ∀x∈st.frames,x.un=none): ∀x∈(st.swap a b).frames,x.un=none:=by
 intro x hx;obtain⟨y,h1,rfl⟩:=NM.1 hx;exact hu y h1
theorem jU.wG{P:Program}{S0:Base}{w0:World}{cs0:List Frame}{fn:FuncId}{fr:Frame}{cs:List Frame}(s:Spec): ∀(n:Nat) {C:Cx} {st:St},jU P S0 w0 cs0 fn C st fr cs->(∀x∈st.frames,x.un=none)->
  ∃C',C'.w=C.w/\jU P S0 w0 cs0 fn C' (AM.wG s n st) fr cs
 |0,C,st,S,_=>⟨C,rfl,S⟩
 |n+1,C,st,S,hu=>by
  unfold AM.wG;split
  ·exact⟨C,rfl,S⟩
  ·rename_i a b _;rw[cond_eq_ite];split
   ·exact⟨C,rfl,S⟩
   ·rename_i hne;simp only[OG,not_or]at hne;obtain⟨C',h1,h2⟩:=jU.wG s n (S.swap (a:=a) (b:=b) (fun e=>hne.1 (by rw[e];simp)) (fun e=>hne.2 (by rw[e];simp)) hu) (J4 (f:=id) hu);exact⟨C',h1,h2⟩
theorem jU.turned{P:Program}{S0:Base}{w0:World}{cs0:List Frame}{fn:FuncId}{fr:Frame}{cs:List Frame}{C:Cx}{st:St}(S:jU P S0 w0 cs0 fn C st fr cs)(s:Spec): ∃C',C'.w=C.w/\jU P S0 w0 cs0 fn C' (AM.turned s st) fr cs:=by
 unfold AM.turned;split
 ·rw[cond_eq_ite];split
  ·rename_i h;simp only[ML]at h;refine S.wG s _ fun x hx=> ?_
   have:=MP.1 h.2 x hx;simpa using this
  ·exact⟨C,rfl,S⟩
 ·exact⟨C,rfl,S⟩
end
end Go.AM
end
section
namespace Go.AM
variable [Tabs]
open Go.RowKit
section
variable {α:Type} (P:Program) (S0:Base) (w0:World) (cs0:List Frame) (f:FuncId) (fin:AV->Hp->Option α)
structure Goal(α:Type)(P:Program)(cs0:List Frame) where
 at':α->World->Frame->List Frame->Prop
 back: ∀ {r w fr cs w1 Lc cs1},Steps P (lone fr (cs++cs0) w) (lone Lc (cs1++cs0) w1)->at' r w1 Lc cs1->at' r w fr cs
def Reaches(r:α)(w:World)(fr:Frame)(cs:List Frame):Prop:=
 ∃C' fr' val v h,Steps P (lone fr (cs++cs0) w) (lone fr' cs0 C'.w)/\fr'.fn=f/\fr'.leaving P C'.w (.returned val)/\VR C' v val/\Inv P S0 w0 C' h/\fin v h=some r
def toEnd:Goal α P cs0 where
 at':=Reaches P S0 w0 cs0 f fin
 back:=fun s ⟨C',fr',val,v,h,q,g⟩=>⟨C',fr',val,v,h,s.trans q,g⟩
def Leaves(es:List Spec)(g:Exits es)(w:World)(fr:Frame)(cs:List Frame):Prop:=
 ∃C' st' fr' cs',Steps P (lone fr (cs++cs0) w) (lone fr' (cs'++cs0) C'.w)/\jU P S0 w0 cs0 f C' st' fr' cs'/\ ∀ {β:Type} (K:St->Option β),uS es g K=K st'
def Dk(es:List Spec):Goal (Exits es) P cs0 where
 at':=Leaves P S0 w0 cs0 f es
 back:=fun s ⟨C',st',fr',cs',q,g⟩=>⟨C',st',fr',cs',s.trans q,g⟩
variable {P}
def kU(G:Goal α P cs0)(c:Cut α):Prop:= ∀(C:Cx) (st:St) (fr:Frame) (cs:List Frame) (v:Known c.spec.dH) (r:α),jU P S0 w0 cs0 f C st fr cs->kX c.spec st=true->su c.spec st=some v->c.f v=some r->G.at' r C.w fr cs
variable (P)
def bM(s:Seg):Prop:= ∀(C:Cx) (st:St) (fr:Frame) (cs:List Frame) (v:Known s.entry.dH) (g:Exits s.exits),jU P S0 w0 cs0 f C st fr cs->kX s.entry st=true->su s.entry st=some v->s.f v=some g->Leaves P S0 w0 cs0 f s.exits g C.w fr cs
variable {P S0 w0 cs0 f fin} {G:Goal α P cs0}
theorem nU: ∀ {cuts:List (Cut α)} {st:St} {q:Option α} {r:α},gK cuts st=some q->q=some r-> ∃c∈cuts,kX c.spec (turned c.spec st)=true/\ ∃v,su c.spec (turned c.spec st)=some v/\c.f v=some r
 |[],st,q,_,h,_=>by simp[gK]at h
 |c::cs,st,q,r,h,hr=>by
  simp only[gK,cond_eq_ite]at h;split at h
  ·rename_i ha;split at h
   ·rename_i v hv;have h:=MK h;subst hr;exact⟨c,.head _,ha,v,hv,h⟩
   ·obtain⟨c',h1,h2⟩:=nU h hr;exact⟨c',.tail _ h1,h2⟩
  ·obtain⟨c',h1,h2⟩:=nU h hr;exact⟨c',.tail _ h1,h2⟩
theorem oG{K K0:St->Option α}: ∀ {aK:List Seg} {st:St} {r:α},kH K K0 aK st=some r->K0 st=some r\/ ∃s∈aK,kX s.entry (turned s.entry st)=true/\ ∃v g,su s.entry (turned s.entry st)=some v/\s.f v=some g/\uS s.exits g K=some r
 |[],st,r,h=> .inl h
 |s::aK,st,r,h=>by
  simp only[kH,cond_eq_ite]at h;split at h
  ·rename_i ha;split at h
   ·rename_i v hv;rw[NI]at h;obtain⟨g,h1,h2⟩:=h;exact .inr ⟨s,.head _,ha,v,g,hv,h1,h2⟩
   ·rcases oG h with k|⟨s',k1,k2⟩
    ·exact .inl k
    ·exact .inr ⟨s',.tail _ k1,k2⟩
  ·rcases oG h with k|⟨s',k1,k2⟩
   ·exact .inl k
   ·exact .inr ⟨s',.tail _ k1,k2⟩
theorem iV{Φ:iL}{inl:FuncId->Bool}{cuts:List (Cut α)}{aK:List Seg}(O:bW P S0 w0 Φ)(hend: ∀r w fr cs,Reaches P S0 w0 cs0 f fin r w fr cs->G.at' r w fr cs)
  (hc: ∀c∈cuts,kU S0 w0 cs0 f G c) (hs: ∀s∈aK,bM P S0 w0 cs0 f s): ∀(n:Nat) {look:Bool} {C:Cx} {st:St} {fr:Frame} {cs:List Frame} {r:α},
  jU P S0 w0 cs0 f C st fr cs->dA P Φ inl cuts aK fin n look st=some r->G.at' r C.w fr cs
 |0,look,C,st,fr,cs,r,S,h=>by simp[dA]at h
 |n+1,true,C,st,fr,cs,r,S,h=>by
  simp only[dA,cond_true]at h;split at h
  ·rename_i q hq;obtain⟨c,g1,g2,v,g3,g4⟩:=nU hq h;obtain⟨C1,w1,S1⟩:=S.turned c.spec;rw[<-w1];exact hc c g1 C1 _ fr cs v r S1 g2 g3 g4
  ·rcases oG h with k|⟨s,k1,k2,v,g,k3,k4,k5⟩
   ·exact iV O hend hc hs n S k
   ·obtain⟨C1,w1,S1⟩:=S.turned s.entry;obtain⟨C2,st2,Md,cs2,z1,z2,z3⟩:=hs s k1 C1 _ fr cs v g S1 k2 k3 k4;rw[w1]at z1;rw[z3]at k5;exact G.back z1 (iV O hend hc hs n z2 k5)
 |n+1,false,C,st,fr,cs,r,S,h=>by
  simp only[dA,cond_false]at h;obtain⟨out,h1,h2⟩:=F.qZ h;have k:=Bl O S h1;cases out with
  |done v hp=>
   obtain⟨C',fr',val,q1,q2,q3,q4,q5⟩:=k;exact hend _ _ _ _ ⟨C',fr',val,v,hp,q1,q2,q3,q4,q5,h2⟩
  |go st'=>
   obtain⟨C',fr',cs',q1,q2⟩:=k;exact G.back q1 (iV O hend hc hs n q2 h2)
theorem lD{Φ:iL}{inl:FuncId->Bool}{cuts:List (Cut α)}{aK:List Seg}{n:Nat}{look:Bool}{s:Spec}{g:Known s.dH->Option α}(O:bW P S0 w0 Φ)(hend: ∀r w fr cs,Reaches P S0 w0 cs0 f fin r w fr cs->G.at' r w fr cs)
  (hc: ∀c∈cuts,kU S0 w0 cs0 f G c) (hs: ∀s∈aK,bM P S0 w0 cs0 f s) (hok:s.ok=true) (h: ∀v,dA P Φ inl cuts aK fin n look (s.mk' v)=g v):kU S0 w0 cs0 f G ⟨s,g⟩:=by
 intro C st fr cs v r S hat hv hr;have hr:g v=some r:=hr;rw[<-h]at hr;obtain⟨C',hw,S'⟩:=vg S hat hok (jD hv);have:=iV O hend hc hs n S' hr;rw[hw]at this;exact this
theorem mP: ∀ {es:List Spec} {β:Type} {G:Goal β P cs0} {k:Exits es->β},(∀e∈es,e.ok=true)->(∀g w fr cs,Leaves P S0 w0 cs0 f es g w fr cs->G.at' (k g) w fr cs)-> ∀c∈fB es k,kU S0 w0 cs0 f G c
 |[],β,G,k,_,_,c,hc=>by simp[fB]at hc
 |[e],β,G,k,hok,hk,c,hc=>by
  simp only[fB,Na]at hc;subst hc;intro C st fr cs v r S hat hv hr;obtain rfl:=MK hr;obtain⟨C',hw,S'⟩:=vg S hat (hok e (.head _)) (jD hv);refine hk _ _ _ _ ⟨C',_,fr,cs,by rw[hw];exact .refl P _,S',fun K=>rfl⟩
 |e::e'::es,β,G,k,hok,hk,c,hc=>by
  simp only[fB,Ns]at hc;rcases hc with rfl|hc
  ·intro C st fr cs v r S hat hv hr;obtain rfl:=MK hr;obtain⟨C',hw,S'⟩:=vg S hat (hok e (.head _)) (jD hv);refine hk _ _ _ _ ⟨C',_,fr,cs,by rw[hw];exact .refl P _,S',fun K=>rfl⟩
  ·refine mP (es:=e'::es) (G:=G) (k:=fun g=>k (.inr g)) (fun x hx=>hok x (.tail _ hx)) (fun g w fr cs ⟨C',st',fr',cs',q1,q2,q3⟩=>hk _ _ _ _ ⟨C',st',fr',cs',q1,q2,fun K=> ?_⟩) c ?_
   ·exact q3 K
   ·exact hc
theorem xW{β γ:Type}{seq:Nat->β->Option γ}{a:β}{r:γ}(h:H8 seq a=some r): ∃k,seq k a=some r:=by
 unfold H8 at h;split at h
 ·exact⟨_,h⟩
 ·simp at h
theorem FU{s:Spec}{b:(Known s.dH->Option α)->Known s.dH->Option α}(h: ∀g,kU S0 w0 cs0 f G ⟨s,g⟩->kU S0 w0 cs0 f G ⟨s,b g⟩):kU S0 w0 cs0 f G ⟨s,lfp b⟩:=by
 have key: ∀k,kU S0 w0 cs0 f G ⟨s,iter b k⟩:=by
  intro k
  induction k with
  |zero=>intro C st fr cs v r _ _ _ hr;simp[iter]at hr
  |succ k ih=>exact h _ ih
 intro C st fr cs v r S hat hv hr;obtain⟨k,hk⟩:=xW hr;exact key k C st fr cs v r S hat hv hk
theorem Ih{Φ:iL}{inl:FuncId->Bool}{aK:List Seg}{n:Nat}{look:Bool}{s:Spec}{es:List Spec}{b:(Known s.dH->Option (Exits es))->Known s.dH->Option (Exits es)}(O:bW P S0 w0 Φ)
  (hs: ∀s∈aK,bM P S0 w0 cs0 f s) (hok:s.ok=true) (hes: ∀e∈es,e.ok=true) (h: ∀self v,dA P Φ inl (⟨s,self⟩::fB es id) aK (fun _ _=>none) n look (s.mk' v)=b self v):bM P S0 w0 cs0 f ⟨s,es,lfp b⟩:=by
 have key:kU S0 w0 cs0 f (Dk P S0 w0 cs0 f es) ⟨s,lfp b⟩:=by
  refine FU fun g hg=> ?_
  refine lD (fin:=fun _ _=>none) O (fun r w fr cs ⟨C',fr',val,v,h,_,_,_,_,_,q⟩=>by simp at q) ?_ hs hok (h g);intro c hc;rcases Ns.1 hc with rfl|hc
  ·exact hg
  ·exact mP (k:=id) hes (fun g w fr cs q=>q) c hc
 exact fun C st fr cs v g S hat hv hr=>key C st fr cs v g S hat hv hr
theorem GK{Φ:iL}{inl:FuncId->Bool}{aK:List Seg}{n:Nat}{look:Bool}{s:Spec}{es:List Spec}{b:(Known s.dH->Option (Exits es))->Known s.dH->Option (Exits es)}(O:bW P S0 w0 Φ)
  (hs: ∀s∈aK,bM P S0 w0 cs0 f s) (hok:s.ok=true) (hes: ∀e∈es,e.ok=true) (h: ∀self v,dA P Φ inl (⟨s,self⟩::fB es id) aK (fun _ _=>none) n look (s.mk' v)=b self v) (k:Nat):bM P S0 w0 cs0 f ⟨s,es,iter b k⟩:=by
 have key: ∀k,kU S0 w0 cs0 f (Dk P S0 w0 cs0 f es) ⟨s,iter b k⟩:=by
  intro k
  induction k with
  |zero=>intro C st fr cs v r _ _ _ hr;simp[iter]at hr
  |succ k ih=>
   refine lD (fin:=fun _ _=>none) O (fun r w fr cs ⟨C',fr',val,v,h,_,_,_,_,_,q⟩=>by simp at q) ?_ hs hok (h (iter b k));intro c hc;rcases Ns.1 hc with rfl|hc
   ·exact ih
   ·exact mP (k:=id) hes (fun g w fr cs q=>q) c hc
 exact fun C st fr cs v g S hat hv hr=>key k C st fr cs v g S hat hv hr
theorem GL{Φ:iL}{inl:FuncId->Bool}{aK:List Seg}{n:Nat}{look:Bool}{s:Spec}{es:List Spec}{b:(Known s.dH->Option (Exits es))->Known s.dH->Option (Exits es)}(m:Dq)(O:bW P S0 w0 Φ)
  (hs: ∀s∈aK,bM P S0 w0 cs0 f s) (hok:s.ok=true) (hes: ∀e∈es,e.ok=true) (h: ∀self v,dA P Φ inl (⟨s,self⟩::fB es id) aK (fun _ _=>none) n look (s.mk' v)=b self v):bM P S0 w0 cs0 f ⟨s,es,loop m b⟩:=by
 cases m with
 |lim=>exact Ih O hs hok hes h
 |fuel k=>exact GK O hs hok hes h k
theorem Kt{Φ:iL}{inl:FuncId->Bool}{aK:List Seg}{n:Nat}{look:Bool}{s:Spec}{es:List Spec}{b:Known s.dH->Option (Exits es)}(O:bW P S0 w0 Φ)
  (hs: ∀s∈aK,bM P S0 w0 cs0 f s) (hok:s.ok=true) (hes: ∀e∈es,e.ok=true) (h: ∀v,dA P Φ inl (fB es id) aK (fun _ _=>none) n look (s.mk' v)=b v):bM P S0 w0 cs0 f ⟨s,es,b⟩:=by
 have key:kU S0 w0 cs0 f (Dk P S0 w0 cs0 f es) ⟨s,b⟩:=
  lD (fin:=fun _ _=>none) O (fun r w fr cs ⟨C',fr',val,v,h,_,_,_,_,_,q⟩=>by simp at q) (mP (k:=id) hes (fun g w fr cs q=>q)) hs hok h
 exact fun C st fr cs v g S hat hv hr=>key C st fr cs v g S hat hv hr
end
end Go.AM
end
section
namespace Go.AM
variable [Tabs]
open Go.RowKit
theorem F.Cc{β α:Type}{K:β->Option α}{r:α}{x:F β}{b:β}(h:x.Ev b)(hk:K b=some r):x.run K=some r:=by
 induction h with
 |ret=>exact hk
 |guard _ ih=>exact ih hk
 |vJ _ ih=>exact ih hk
 |vI _ ih=>exact ih hk
 |call e _ ih=>subst e;exact ih hk
def Cont{α β:Type}(b:(α->Option β)->α->Option β):Prop:=
 ∀g v r,b g v=some r->(∀g',b g' v=some r)\/ ∃u,g u=some r/\ ∀g',g' u=some r->b g' v=some r
section
variable {α β:Type} {b:(α->Option β)->α->Option β}
theorem DW(h:Cont b): ∀k v r,iter b k v=some r->iter b (k+1) v=some r
 |0,v,r,e=>by simp[iter]at e
 |k+1,v,r,e=>by
  have e:b (iter b k) v=some r:=e;show b (iter b (k+1)) v=some r;rcases h _ _ _ e with q|⟨u,q1,q2⟩
  ·exact q _
  ·exact q2 _ (DW h k u r q1)
theorem DV(h:Cont b){k m:Nat}(hkm:k<=m){v:α}{r:β}(e:iter b k v=some r):iter b m v=some r:=by
 induction hkm with
 |refl=>exact e
 |step _ ih=>exact DW h _ _ _ ih
theorem yY(h:Cont b)(v:α)(r:β):lfp b v=some r ↔ ∃k,iter b k v=some r:=by
 constructor
 ·exact xW
 ·rintro⟨k,hk⟩
  have hex: ∃k,(iter b k v).isSome=true:=⟨k,by rw[hk];rfl⟩;unfold lfp H8;rw[dif_pos hex];have hs:=Classical.choose_spec hex;obtain⟨r',hr'⟩:=Option.isSome_iff_exists.1 hs;rw[hr'];rcases Nat.le_total k (Oz hex)with hle|hle
  ·rw[DV h hle hk]at hr';exact hr'.symm
  ·rw[DV h hle hr']at hk;exact hk
theorem Jd(h:Cont b)(v:α):lfp b v=b (lfp b) v:=by
 have key: ∀r,lfp b v=some r ↔ b (lfp b) v=some r:=by
  intro r;rw[yY h];constructor
  ·rintro⟨k,hk⟩
   cases k with
   |zero=>simp[iter]at hk
   |succ k=>
    have hk:b (iter b k) v=some r:=hk;rcases h _ _ _ hk with q|⟨u,q1,q2⟩
    ·exact q _
    ·exact q2 _ ((yY h u r).2 ⟨k,q1⟩)
  ·intro e;rcases h _ _ _ e with q|⟨u,q1,q2⟩
   ·exact⟨1,q _⟩
   ·obtain⟨k,hk⟩:=(yY h u r).1 q1;exact⟨k+1,q2 _ hk⟩
 cases h1:lfp b v with
 |some r=>exact((key r).1 h1).symm
 |none=>
  cases h2:b (lfp b) v with
  |none=>rfl
  |some r=>rw[(key r).2 h2]at h1;simp at h1
end
theorem EF{α:Type}{es:List Spec}{g:Exits es}{K:St->Option α}: ∃st,∀ {β:Type} (K':St->Option β),uS es g K'=K' st:=by
 induction es with
 |nil=>exact nomatch g
 |cons e es ih=>
  cases es with
  |nil=>exact⟨e.mk' g,fun K'=>rfl⟩
  |cons e' es=>
   cases g with
   |inl v=>exact⟨e.mk' v,fun K'=>rfl⟩
   |inr g=>obtain⟨st,h⟩:=ih (g:=g);exact⟨st,fun K'=>h K'⟩
theorem tY{α:Type}{P:Program}{Φ:iL}{inl:FuncId->Bool}{cuts:List (Cut α)}{aK:List Seg}{fin:AV->Hp->Option α}{s:Spec}{g:Known s.dH->Option α}: ∀(n:Nat) {look:Bool} {st:St} {r:α},
  dA P Φ inl (⟨s,g⟩::cuts) aK fin n look st=some r->(∀g',dA P Φ inl (⟨s,g'⟩::cuts) aK fin n look st=some r)\/ ∃u,g u=some r/\ ∀g',g' u=some r->dA P Φ inl (⟨s,g'⟩::cuts) aK fin n look st=some r
 |0,look,st,r,h=>by simp[dA]at h
 |n+1,false,st,r,h=>by
  simp only[dA,cond_false]at h;obtain⟨out,h1,h2⟩:=F.qZ h;cases out with
  |done v hp=>exact .inl fun g'=>by simp only[dA,cond_false];exact F.Cc h1 h2
  |go st'=>
   rcases tY n h2 with q|⟨u,q1,q2⟩
   ·exact .inl fun g'=>by simp only[dA,cond_false];exact F.Cc h1 (q g')
   ·exact .inr ⟨u,q1,fun g' hg'=>by simp only[dA,cond_false];exact F.Cc h1 (q2 g' hg')⟩
 |n+1,true,st,r,h=>by
  simp only[dA,cond_true]at h;have alt:(∃u,kX s (turned s st)=true/\su s (turned s st)=some u)\/ ∀g':Known s.dH->Option α,gK (⟨s,g'⟩::cuts) st=gK cuts st:=by
   by_cases hc:kX s (turned s st)=true
   ·cases hv:su s (turned s st)with
    |none=>exact .inr fun g'=>by simp[gK,hc,hv]
    |some u=>exact .inl ⟨u,hc,rfl⟩
   ·have hc:kX s (turned s st)=false:=by simpa using hc
    exact .inr fun g'=>by simp[gK,hc]
  rcases alt with⟨u,hc,hv⟩|DT
  ·have h2:g u=some r:=by simpa[gK,hc,hv]using h
   exact .inr ⟨u,h2,fun g' hg'=>by simp only[dA,cond_true];simp[gK,hc,hv,hg']⟩
  ·rw[DT]at h;cases hq:gK cuts st with
   |some q=>
    rw[hq]at h;exact .inl fun g'=>by simp only[dA,cond_true];simp only[DT,hq];exact h
   |none=>
    rw[hq]at h;have key: ∀ {yD:List Seg},kH (dA P Φ inl (⟨s,g⟩::cuts) aK fin n true) (dA P Φ inl (⟨s,g⟩::cuts) aK fin n false) yD st=some r->
      (∀g',kH (dA P Φ inl (⟨s,g'⟩::cuts) aK fin n true) (dA P Φ inl (⟨s,g'⟩::cuts) aK fin n false) yD st=some r)\/
      ∃u,g u=some r/\ ∀g',g' u=some r->kH (dA P Φ inl (⟨s,g'⟩::cuts) aK fin n true) (dA P Φ inl (⟨s,g'⟩::cuts) aK fin n false) yD st=some r:=by
     intro yD
     induction yD with
     |nil=>intro e;exact tY n e
     |cons sg yD ih=>
      intro e;simp only[kH,cond_eq_ite]at e ⊢
      split at e
      ·rename_i ha;simp only[ha,if_true];split at e
       ·rename_i v hv;rw[NI]at e;obtain⟨x,e1,e2⟩:=e;obtain⟨st2,hst⟩:=EF (g:=x) (K:=dA P Φ inl (⟨s,g⟩::cuts) aK fin n true);rw[hst]at e2;rcases tY n e2 with q|⟨u,q1,q2⟩
        ·exact .inl fun g'=>by rw[e1];show uS _ _ _=_;rw[hst];exact q g'
        ·exact .inr ⟨u,q1,fun g' hg'=>by rw[e1];show uS _ _ _=_;rw[hst];exact q2 g' hg'⟩
       ·exact ih e
      ·rename_i ha;simp only[ha];exact ih e
    rcases key h with q|⟨u,q1,q2⟩
    ·exact .inl fun g'=>by simp only[dA,cond_true];simp only[DT,hq];exact q g'
    ·exact .inr ⟨u,q1,fun g' hg'=>by simp only[dA,cond_true];simp only[DT,hq];exact q2 g' hg'⟩
abbrev KS(P:Program)(Φ:iL)(inl:FuncId->Bool)(e:Spec)(x:List Spec)(aK:List Seg)(b:(Known e.dH->Option (Exits x))->Known e.dH->Option (Exits x)):Prop:=
 ∀(self:Known e.dH->Option (Exits x)) (v:Known e.dH),dA P Φ inl (⟨e,self⟩::fB x id) aK (fun _ _=>none) 20000 false (e.mk' v)=b self v
theorem Jk{P:Program}{S0:Base}{w0:World}{cs0:List Frame}{f:FuncId}{Φ:iL}{inl:FuncId->Bool}{aK:List Seg}{s:Spec}{es:List Spec}{b:(Known s.dH->Option (Exits es))->Known s.dH->Option (Exits es)}(m:Dq)(O:bW P S0 w0 Φ)
  (hs: ∀s∈aK,bM P S0 w0 cs0 f s) (hok:s.ok=true) (hes:es.all Spec.ok=true) (h:KS P Φ inl s es aK b):bM P S0 w0 cs0 f ⟨s,es,loop m b⟩:=
 GL m O hs hok (fun e he=>MP.1 hes e he) h
theorem Aa{α:Type}{P:Program}{Φ:iL}{inl:FuncId->Bool}{cuts:List (Cut α)}{aK:List Seg}{fin:AV->Hp->Option α}{n:Nat}{look:Bool}{s:Spec}{b:(Known s.dH->Option α)->Known s.dH->Option α}
  (h: ∀self v,dA P Φ inl (⟨s,self⟩::cuts) aK fin n look (s.mk' v)=b self v):Cont b:=by
 intro g v r e;rw[<-h]at e;rcases tY n e with q|⟨u,q1,q2⟩
 ·exact .inl fun g'=>by rw[<-h];exact q g'
 ·exact .inr ⟨u,q1,fun g' hg'=>by rw[<-h];exact q2 g' hg'⟩
theorem KS.q{P:Program}{Φ:iL}{inl:FuncId->Bool}{e:Spec}{x:List Spec}{aK:List Seg}{b:(Known e.dH->Option (Exits x))->Known e.dH->Option (Exits x)}(h:KS P Φ inl e x aK b)(v:Known e.dH):loop .lim b v=b (loop .lim b) v:=Jd (Aa h) v
end Go.AM
end
section
namespace Go.AM
inductive Sh where
 |one (t:Ty)
 |ag (t:Ty)
def Sh.ty:Sh->Ty
 | .one t=>t
 | .ag t=>t
def Sh.enc(s:Sh)(x:s.ty.den):AV:=
 match s,x with
 | .one t,x=>uF (inj t x)
 | .ag t,x=> .agg (inj t x)
def Sh.dec(s:Sh)(v:AV):Option s.ty.den:=
 match s with
 | .one t=>ay t [v]
 | .ag t=>match v with
  | .agg ps=>ay t ps
  |_=>none
def wM:List Sh->Type
 |[]=>Unit
 |s::r=>s.ty.den×wM r
def encs:(l:List Sh)->wM l->List AV
 |[],_=>[]
 |s::r,x=>s.enc x.1::encs r x.2
def decs:(l:List Sh)->List AV->Option (wM l)
 |[],vs=>match vs with
  |[]=>some ()
  |_::_=>none
 |s::r,vs=>match vs with
  |[]=>none
  |v::vs=>match s.dec v with
   |some x=>(match decs r vs with|some y=>some (x,y)|none=>none)
   |none=>none
def zeros:(l:List Sh)->wM l
 |[]=>()
 |s::r=>(s.ty.zero,zeros r)
def FD(h:Hp)(t:Ty)(v:AV):Option t.den:=
 match v with
 | .ptr b ver 0 []=>(match h.cells b ver with
  |some (_,ps)=>ay t ps
  |none=>none)
 |_=>none
def Caps.of(h:Hp):(l:List Ty)->List AV->Option (Caps l)
 |[],vs=>match vs with
  |[]=>some ()
  |_::_=>none
 |t::r,vs=>match vs with
  |[]=>none
  |v::vs=>match FD h t v with
   |some x=>(match Caps.of h r vs with|some y=>some (x,y)|none=>none)
   |none=>none
inductive Rk where
 |sh (s:Sh)
 |own (t:Ty)
 |clo (f:FuncId) (l:List Ty)
 |wZ
def Rk.den:Rk->Type
 | .sh s=>s.ty.den
 | .own t=>List t.den
 | .clo _ l=>Caps l
 | .wZ=>Unit
def bY:List Rk->Type
 |[]=>Unit
 |k::r=>k.den×bY r
inductive qA where
 |one (k:Rk)
 |gG (l:List Rk)
def qA.den:qA->Type
 | .one k=>k.den
 | .gG l=>bY l
def Rk.zero:(k:Rk)->k.den
 | .sh s=>s.ty.zero
 | .own t=>([]:List t.den)
 | .clo _ l=>Caps.zero l
 | .wZ=>()
def bY.zero:(l:List Rk)->bY l
 |[]=>()
 |k::r=>(k.zero,bY.zero r)
def qA.zero:(r:qA)->r.den
 | .one k=>k.zero
 | .gG l=>bY.zero l
def Rk.enc(nx:Nat):(k:Rk)->k.den->AV
 | .sh s,x=>s.enc x
 | .own t,_=> .own nx 0 t
 | .clo f l,x=> .fn (.func f) [] (Caps.enc l x)
 | .wZ,_=> .nilIface
def Rk.upd(nx:Nat):(k:Rk)->k.den->h_
 | .sh _,_=>[]
 | .own t,x=>[(nx,.cells 0 false [.row t x])]
 | .clo _ _,_=>[]
 | .wZ,_=>[]
def bY.enc(nx:Nat):(l:List Rk)->bY l->List AV
 |[],_=>[]
 |k::r,x=>k.enc nx x.1::bY.enc nx r x.2
def bY.upd(nx:Nat):(l:List Rk)->bY l->h_
 |[],_=>[]
 |k::r,x=>k.upd nx x.1++bY.upd nx r x.2
def qA.enc(nx:Nat):(r:qA)->r.den->AV
 | .one k,x=>k.enc nx x
 | .gG l,x=> .gG (bY.enc nx l x)
def qA.upd(nx:Nat):(r:qA)->r.den->h_
 | .one k,x=>k.upd nx x
 | .gG l,x=>bY.upd nx l x
def Rk.blk:Rk->AV->Option Nat
 | .own _,.own b _ _=>some b
 | .own _,.slc b _ _ _ _ _ _=>some b
 |_,_=>none
def bY.blk:List Rk->List AV->Option Nat
 |k::r,v::vs=>(match k.blk v with|some b=>some b|none=>bY.blk r vs)
 |_,_=>none
def ownRow(h:Hp)(t:Ty)(v:AV):Option (List t.den):=
 match v with
 | .own b ver t0=>(match h.row b ver with
  |some (true,u)=>bif M_ t0.size t.size then rD t u else none
  |_=>none)
 | .slc b ver 0 none t0 i n=>(match h.row b ver with
  |some (true,u)=>bif M_ t0.size t.size&&decide (i=0)&&decide (0<u.xs.length)then(match rD t u with|some xs=>some (List.take n.toNat xs)|none=>none)else none
  |_=>none)
 | .aC=>some []
 |_=>none
def away(o:Option Nat)(l:List Nat):Bool:=match o with|some b=> !(l.any (M_ b))|none=>true
def FK(h:Hp)(o:Option Nat)(f:FuncId)(l:List Ty)(v:AV):Option (Caps l):=
 match v with
 | .fn (.func g) [] caps=>bif M_ g f&&away o (caps.flatMap gu)then Caps.of h l caps else none
 |_=>none
def yh:AV->Option Unit
 | .nilIface=>some ()
 |_=>none
def Rk.fin(h:Hp)(o:Option Nat)(k:Rk)(v:AV):Option k.den:=
 match k with
 | .sh s=>bif away o (jB v)then(match yB h v with|some w=>s.dec w|none=>none)else none
 | .own t=>ownRow h t v
 | .clo f l=>FK h o f l v
 | .wZ=>yh v
def bY.fin(h:Hp)(o:Option Nat):(l:List Rk)->List AV->Option (bY l)
 |[],vs=>match vs with
  |[]=>some ()
  |_::_=>none
 |k::r,vs=>match vs with
  |[]=>none
  |v::vs=>match k.fin h o v with
   |some x=>(match bY.fin h o r vs with|some y=>some (x,y)|none=>none)
   |none=>none
def Rk.bK:Rk->Bool
 | .own _=>true
 |_=>false
def qA.pU:qA->Bool
 | .one _=>true
 | .gG l=>Nat.ble (l.filter Rk.bK).length 1
def qA.fin(r:qA)(v:AV)(h:Hp):Option r.den:=
 match r with
 | .one k=>k.fin h (k.blk v) v
 | .gG l=>(match v with
  | .gG vs=>bY.fin h (bY.blk l vs) l vs
  |_=>none)
def Rk.flat:Rk->Bool
 | .sh s=>s.ty.flat
 | .own t=>t.flat
 | .clo _ _=>false
 | .wZ=>true
def qA.flat:qA->Bool
 | .one k=>k.flat
 | .gG l=>l.all Rk.flat
structure Callee where
 f:FuncId
 args:List Sh
 res:qA
 F:wM args->Option res.den
def Callee.lI(k:Callee)(vs:List AV)(h:Hp)(nx:Nat):Option He:=
 match iD h vs with
 |some ws=>(match decs k.args ws with
  |some x=>some ⟨k.res.den,k.res.zero,k.F x,fun g=>(k.res.enc nx g,List.append (k.res.upd nx g) (bif k.res.flat then []else freeze h (vs.flatMap jB)))⟩
  |none=>none)
 |none=>none
def Gu:List Callee->iL
 |[],_,_,_,_=>none
 |k::r,f,vs,h,nx=>bif M_ k.f f then k.lI vs h nx else Gu r f vs h nx
def start(f:FuncId)(args:List AV):St:=⟨[{fn:=f,env:=(Oy args.length).zip args,aI:=[],items:=[.code []]}],[],0⟩
end Go.AM
end
section
namespace Go.AM
variable [Tabs]
open Go.RowKit
theorem ni.self(C:Cx):ni C C:=⟨rfl,fun _ _ h=>h⟩
section
variable {C C':Cx}
theorem Sh.BN(W:ni C C'){s:Sh}{v:AV}{val:Value}{x:s.ty.den}(e:s.dec v=some x)(h:VR C v val):VR C' (s.enc x) val:=by
 cases s with
 |one t=>
  have e:ay t [v]=some x:=e;obtain⟨w,hw⟩:=rV e;obtain⟨hp,h3⟩:=eF e hw;show VR C' (uF (inj t x)) val;rw[hw];show VR C' w val;rcases h3 with rfl|⟨rfl,t',rfl⟩
  ·exact h.wid W hp
  ·cases h;exact .lst ⟨none,0,0,rfl,rfl,by omega,.inl ⟨rfl,fun _=>rfl⟩⟩
 |ag t=>
  cases h with
  | @agg ps cs h=>
   have e:ay t ps=some x:=e;exact .agg (PR.lH ((h.ay e).wid W))
  |_=>
   have e:(none:Option t.den)=some x:=e;simp at e
theorem DC(W:ni C C')(l:List Sh): ∀ {vs:List AV} {us:List Value} {x:wM l},decs l vs=some x->bg C vs us->bg C' (encs l x) us:=by
 induction l with
 |nil=>
  intro vs us x e h;cases h with
  |nil=>exact .nil
  |cons=>exact nomatch e
 |cons s r ih=>
  intro vs us x e h;cases h with
  |nil=>exact nomatch e
  | @cons v _ vs _ h k=>
   have e:(match s.dec v with
    |some x=>(match decs r vs with|some y=>some (x,y)|none=>none)
    |none=>none)=some x:=e
   split at e
   ·rename_i y h1;split at e
    ·rename_i z h2;obtain rfl:=MK e;exact .cons (Sh.BN W h1 h) (ih h2 k)
    ·simp at e
   ·simp at e
theorem Rep.flat: ∀ {t:Ty} {x:t.den} {cs:List Value},t.flat=true->Rep C t x cs->Rep C' t x cs
 | .int _,_,_,_,h=>h
 | .bool,_,_,_,h=>h
 | .str,_,_,_,h=>h
 | .lst t,_,_,hf,_=>by simp[Ty.flat]at hf
 | .arr _ t,_,_,hf,⟨e,h⟩=>⟨e,h.mono fun _ _=>Rep.flat (t:=t) (by simpa[Ty.flat]using hf)⟩
 | .unit,_,_,_,h=>h
 | .pair _ _,_,_,hf,⟨c1,c2,e,h1,h2⟩=>by
  simp only[Ty.flat,ML]at hf;exact⟨c1,c2,e,h1.flat hf.1,h2.flat hf.2⟩
theorem pack_inj: ∀(t:Ty) (x:t.den) (r:List AV),pack t (inj t x++r)=some (x,r)
 | .int _,_,_=>by simp[inj,pack]
 | .bool,_,_=>by simp[inj,pack]
 | .str,_,_=>by simp[inj,pack]
 | .lst _,_,_=>by simp[inj,pack]
 | .arr _ _,_,_=>by simp[inj,pack]
 | .unit,x,r=>by
  show pack .unit r=_;cases r<;>rfl
 | .pair a b,x,r=>by
  have e:pack (.pair a b) (inj (.pair a b) x++r)=(match AM.pack a (inj a x.1++(inj b x.2++r))with
   |some (x,r')=>(match AM.pack b r' with|some (y,r'')=>some ((x,y),r'')|none=>none)
   |none=>none):=by
   simp only[inj,N8];generalize inj a x.1++(inj b x.2++r)=q;cases q<;>rfl
  rw[e,pack_inj a];simp only;rw[pack_inj b];rfl
theorem Iz(t:Ty)(x:t.den):ay t (inj t x)=some x:=by
 have:=pack_inj t x [];rw[NG]at this;unfold ay;rw[this]
def kN:AV->Bool
 | .int .. | .bool _| .str _=>true
 | .arr _ t _=>t.flat
 |_=>false
theorem pz: ∀ {t:Ty} {x:t.den},t.flat=true-> ∀v∈inj t x,kN v=true
 | .int _,_,_,v,h=>by simp only[inj,Na]at h;subst h;rfl
 | .bool,_,_,v,h=>by simp only[inj,Na]at h;subst h;rfl
 | .str,_,_,v,h=>by simp only[inj,Na]at h;subst h;rfl
 | .lst _,_,hf,v,h=>by simp[Ty.flat]at hf
 | .arr _ _,_,hf,v,h=>by simp only[inj,Na]at h;subst h;exact hf
 | .unit,_,_,v,h=>by simp[inj]at h
 | .pair a b,_,hf,v,h=>by
  simp only[Ty.flat,ML]at hf;simp only[inj,MN]at h;rcases h with h|h
  ·exact pz hf.1 v h
  ·exact pz hf.2 v h
theorem VR.kN{v:AV}{val:Value}(hf:AM.kN v=true)(h:VR C v val):VR C' v val:=by
 cases h with
 |int h=>exact .int h
 |bool=>exact .bool
 |str h=>exact .str h
 |arr h=>exact .arr (h.flat hf)
 |_=>simp[AM.kN]at hf
theorem PR.kN: ∀ {ps:List AV} {cs:List Value},(∀v∈ps,AM.kN v=true)->PR C ps cs->PR C' ps cs
 |_,_,_,.nil=> .nil
 |_,_,hf,.sc h1 h2 h3 h4=> .sc (h1.kN (hf _ (.head _))) h2 h3 (PR.kN (fun v hv=>hf v (.tail _ hv)) h4)
 |_,_,hf,.arr h1 h2=> .arr (h1.flat (hf _ (.head _))) (PR.kN (fun v hv=>hf v (.tail _ hv)) h2)
 |_,_,hf,.row h1 h2=>by have:=hf _ (.head _);simp[AM.kN]at this
theorem Sh.flat{s:Sh}{x:s.ty.den}{val:Value}(hf:s.ty.flat=true)(h:VR C (s.enc x) val):VR C' (s.enc x) val:=by
 cases s with
 |one t=>
  have hs:Sh.enc (.one t) x=uF (inj t x):=rfl;rw[hs]at h ⊢
  generalize hq:inj t x=l at h
  match l,hq with
  |[v],hq=>exact h.kN (pz (t:=t) (x:=x) hf v (by rw[hq];simp))
  |[],hq=>exact .junk _
  |_::_::_,hq=>exact .junk _
 |ag t=>
  cases h with
  |agg h=>exact .agg (h.kN fun v hv=>pz (t:=t) (x:=x) hf v hv)
end
end Go.AM
end
section
namespace Go.AM
variable [Tabs]
open Go.RowKit
def zS(C:Cx)(oc:Option Nat)(k:Rk)(x:k.den)(v:Value):Prop:=
 match k,x with
 | .sh s,x=>VR C (s.enc x) v
 | .clo f l,x=>VR C (.fn (.func f) [] (Caps.enc l x)) v
 | .wZ,_=>VR C .nilIface v
 | .own t,x=>match oc with
  |none=>(x:List t.den)=[]/\v= .slice none 0 0
  |some c=> ∃cap pre,v= .slice (some ⟨c,0,none⟩) (NK (α:=t.den) x) cap/\NK (α:=t.den) x<=cap/\Ey C c (cap*t.size)/\Cat (Rep C t) x pre/\C.w.rangeAt c 0 pre/\
   ∀j,(C.w.cell? ⟨c,j,none⟩).isSome=true->C.w.frozen? ⟨c,j,none⟩=false
def ng(C:Cx)(oc:Option Nat):(l:List Rk)->bY l->List Value->Prop
 |[],_,vs=>vs=[]
 |k::r,x,vs=> ∃v us,vs=v::us/\zS C oc k x.1 v/\ng C oc r x.2 us
def oK(C:Cx)(oc:Option Nat):(r:qA)->r.den->Value->Prop
 | .one k,x,v=>zS C oc k x v
 | .gG l,x,v=> ∃vs:List Value,v= .tuple vs.toArray/\ng C oc l x vs
theorem pO{C C':Cx}{v:Value}(h:VR C .nilIface v):VR C' .nilIface v:=by cases h;exact .nilIface
structure Callee.OK(P:Program)(k:Callee):Prop where
 enter: ∀(vs:Array Value) (w:World),(callFunc k.f vs).run P w= .ok (.enter k.f vs) w
 own:k.res.pU=true
 ends: ∀(RO:Nat->Nat->Prop) (w:World) (x:wM k.args) (vs:List Value) (r:k.res.den),(∀c j,RO c j->c<w.heap.size)->J7 ⟨w,RO,fun _=>none⟩->bg ⟨w,RO,fun _=>none⟩ (encs k.args x) vs->k.F x=some r->
  ∀cs,∃fr w' val oc,Steps P (lone (N_ P k.f vs.toArray .normal) cs w) (lone fr cs w')/\fr.fn=k.f/\fr.leaving P w' (.returned val)/\Below w.heap.size w w'/\
   (∀c,oc=some c->w.heap.size<=c/\c<w'.heap.size)/\oK ⟨w',fun c j=>(RO c j\/(w.heap.size<=c/\c<w'.heap.size))/\oc≠some c,fun _=>none⟩ oc k.res r val
section
variable {P:Program} {S0:Base} {w0:World} {C C':Cx} {h h':Hp}
theorem xG: ∀ {l:List Sh} {x:wM l} {us:List Value},(l.all fun s=>s.ty.flat)=true->bg C (encs l x) us->bg C' (encs l x) us
 |[],_,_,_,.nil=> .nil
 |s::r,x,_,hf,.cons h k=>by
  simp only[Nr,ML]at hf;exact .cons (Sh.flat hf.1 h) (xG hf.2 k)
theorem zS.flat{oc:Option Nat}{k:Rk}{x:k.den}{v:Value}(hw:C'.w=C.w)(hf:k.flat=true)(h:zS C oc k x v):zS C' oc k x v:=by
 cases k with
 |sh s=>exact Sh.flat (s:=s) hf h
 |clo f l=>simp[Rk.flat]at hf
 |wZ=>exact pO h
 |own t=>
  cases oc with
  |none=>exact h
  |some c=>
   obtain⟨cap,pre,h1,h2,h3,h4,h5,h6⟩:=h;exact⟨cap,pre,h1,h2,fun j hj=>by rw[hw];exact h3 j hj,h4.mono fun _ _=>Rep.flat hf,by rw[hw];exact h5,by rw[hw];exact h6⟩
theorem ng.flat{oc:Option Nat}(hw:C'.w=C.w): ∀ {l:List Rk} {x:bY l} {vs:List Value},l.all Rk.flat=true->ng C oc l x vs->ng C' oc l x vs
 |[],_,_,_,h=>h
 |k::r,x,_,hf,⟨v,us,e,h1,h2⟩=>by
  simp only[Nr,ML]at hf;exact⟨v,us,e,h1.flat hw hf.1,ng.flat hw hf.2 h2⟩
theorem oK.flat{oc:Option Nat}{r:qA}{x:r.den}{v:Value}(hw:C'.w=C.w)(hf:r.flat=true)(h:oK C oc r x v):oK C' oc r x v:=by
 cases r with
 |one k=>exact zS.flat (k:=k) hw hf h
 |gG l=>
  obtain⟨vs,e,h⟩:=h;exact⟨vs,e,ng.flat hw hf h⟩
def La:AV->Bool
 | .agg ps=>ps.all aT
 |v=>aT v
theorem lJ{Ca Cb:Cx}(W:ni Ca Cb): ∀ {ps:List AV} {cs:List Value},ps.all aT=true->PR Ca ps cs->PR Cb ps cs
 |_,_,_,.nil=> .nil
 |_,_,hp,.sc h1 h2 h3 h4=>by
  simp only[Nr,ML]at hp;exact .sc (h1.wid W hp.1) h2 h3 (lJ W hp.2 h4)
 |_,_,hp,.arr h1 h2=>by
  simp only[Nr,ML]at hp;exact .arr (h1.wid W) (lJ W hp.2 h2)
 |_,_,hp,.row h1 h2=>by
  simp only[Nr,ML]at hp;simp[aT]at hp
theorem Sh.wid{Ca Cb:Cx}(W:ni Ca Cb){s:Sh}{x:s.ty.den}{val:Value}(h:VR Ca (s.enc x) val):VR Cb (s.enc x) val:=by
 cases s with
 |one t=>
  have hs:Sh.enc (.one t) x=uF (inj t x):=rfl;rw[hs]at h ⊢
  generalize hq:inj t x=l at h
  match l,hq with
  |[v],hq=>exact h.wid W (iT (t:=t) (x:=x) v (by rw[hq];simp))
  |[],hq=>exact .junk _
  |_::_::_,hq=>exact .junk _
 |ag t=>
  cases h with
  |agg h=>exact .agg (lJ W (MP.2 fun v hv=>iT (t:=t) (x:=x) v hv) h)
theorem FN{Ca Cb:Cx}(W:ni Ca Cb): ∀ {l:List Sh} {x:wM l} {us:List Value},bg Ca (encs l x) us->bg Cb (encs l x) us
 |[],_,_,.nil=> .nil
 |_::_,_,_,.cons h k=> .cons (Sh.wid W h) (FN W k)
theorem zS.wid{Ca Cb:Cx}(W:ni Ca Cb){oc:Option Nat}{k:Rk}{x:k.den}{v:Value}(h:zS Ca oc k x v):zS Cb oc k x v:=by
 cases k with
 |sh s=>exact Sh.wid (s:=s) W h
 |clo f l=>exact yP W h
 |wZ=>exact pO h
 |own t=>
  cases oc with
  |none=>exact h
  |some c=>
   obtain⟨cap,pre,h1,h2,h3,h4,h5,h6⟩:=h;exact⟨cap,pre,h1,h2,fun j hj=>by rw[W.w];exact h3 j hj,h4.mono fun _ _=>Rep.wid W,by rw[W.w];exact h5,by rw[W.w];exact h6⟩
theorem ng.wid{Ca Cb:Cx}(W:ni Ca Cb){oc:Option Nat}: ∀ {l:List Rk} {x:bY l} {vs:List Value},ng Ca oc l x vs->ng Cb oc l x vs
 |[],_,_,h=>h
 |k::r,x,_,⟨v,us,e,h1,h2⟩=>⟨v,us,e,h1.wid W,ng.wid W h2⟩
theorem oK.wid{Ca Cb:Cx}(W:ni Ca Cb){oc:Option Nat}{r:qA}{x:r.den}{v:Value}(h:oK Ca oc r x v):oK Cb oc r x v:=by
 cases r with
 |one k=>exact zS.wid (k:=k) W h
 |gG l=>obtain⟨vs,e,h⟩:=h;exact⟨vs,e,ng.wid W h⟩
theorem Inv.adopt(I:Inv P S0 w0 C h){nx:Nat}{oc:Option Nat}{t:Ty}{x:List t.den}{v:Value}(hM:C.M nx=none)(hoc: ∀c,oc=some c->w0.heap.size<=c/\c<C.w.heap.size/\(∀b e,C.M b=some e->e.cb≠some c)/\ ∀j,¬C.RO c j)
  (hx:zS C oc (.own t) x v) (hH: ∃H,Hid w0 C h H/\ ∀b c,H b=some c->oc≠some c):C.Le ⟨C.w,C.RO,fun y=>if y=nx then some ⟨0,oc,x.length,false⟩else C.M y⟩/\Inv P S0 w0 ⟨C.w,C.RO,fun y=>if y=nx then some ⟨0,oc,x.length,false⟩else C.M y⟩ ((nx,.cells 0 false [.row t x])::h)/\
   VR ⟨C.w,C.RO,fun y=>if y=nx then some ⟨0,oc,x.length,false⟩else C.M y⟩ (.own nx 0 t) v:=by
 have ne: ∀y e,C.M y=some e->y≠nx:=fun y e hy hq=>by subst hq;rw[hM]at hy;simp at hy
 have le:C.Le ⟨C.w,C.RO,fun y=>if y=nx then some ⟨0,oc,x.length,false⟩else C.M y⟩:=
  ⟨fun _ _ q=>q,fun _ _ _=>rfl,fun y e hy=>⟨e,by simp[ne _ _ hy,hy],MW _,fun _=>rfl,fun _=>rfl⟩,fun _ _ q=>q⟩
 have hent: ∀y e,(if y=nx then some (⟨0,oc,x.length,false⟩:tC)else C.M y)=some e->(y=nx/\e=⟨0,oc,x.length,false⟩)\/(y≠nx/\C.M y=some e):=by
  intro y e hy;by_cases hq:y=nx
  ·rw[if_pos hq]at hy;exact .inl ⟨hq,(MK hy).symm⟩
  ·rw[if_neg hq]at hy;exact .inr ⟨hq,hy⟩
 refine⟨le,⟨I.below,?_,?_,?_,?_,I.ro,?_,fun c hc=>by
  obtain⟨⟨e,h1,h2⟩,h3⟩:=I.pin c hc;exact⟨⟨e,by simp[ne _ _ h1,h1],h2⟩,h3⟩,by
  obtain⟨H,hI,hn⟩:=hH;refine⟨H,fun b T e xs q=> ?_,hI.old,fun b g y e q hy hc=> ?_,hI.one,hI.ro⟩
  ·rw[Hp.aB]at q;split at q
   ·cases MK q
   ·obtain⟨en,c,v,k1,k2,k3,k4,k5⟩:=hI.iZ b T e xs q;exact⟨en,c,v,by simp[ne _ _ k1,k1],k2,k3,k4,k5⟩
  ·rcases hent y e hy with⟨_,rfl⟩|⟨_,k⟩
   ·exact hn b g q hc
   ·exact hI.cb b g y e q k hc,I.tabs.mono le,I.good⟩,?_⟩
 ·intro b o ho;rw[Hp.aB]at ho;by_cases hq:nx=b
  ·subst hq;rw[if_pos rfl]at ho;obtain rfl:=MK ho;refine⟨_,by simp;rfl,rfl,rfl,fun t' xs hm=> ?_,?_⟩
   ·simp only[Na]at hm;cases hm;rfl
   ·cases oc with
    |none=>
     obtain⟨h1,h2⟩:=hx;have h1:x=[]:=h1;subst h1;exact⟨t,rfl⟩
    |some c=>
     obtain⟨cap,pre,h1,h2,h3,h4,h5,h6⟩:=hx;exact⟨pre,PR.lU (h4.mono fun _ _=>Rep.mono le),h5,h6⟩
  ·rw[if_neg hq]at ho;obtain⟨e,h1,h2⟩:=I.obj b o ho;exact⟨e,by simp[Pz hq,h1],h2.carry le fun c _=>rfl⟩
 ·intro b e he;rw[Hp.aB];by_cases hq:nx=b
  ·exact⟨_,by rw[if_pos hq]⟩
  ·rw[if_neg hq];rcases hent b e he with⟨q,_⟩|⟨_,q⟩
   ·exact(hq q.symm).elim
   ·exact I.dom b e q
 ·intro b e c he hc;rcases hent b e he with⟨_,rfl⟩|⟨_,q⟩
  ·have:=hoc c hc;exact⟨.inr this.1,this.2.1⟩
  ·exact I.loc b e c q hc
 ·intro b e b' e' c he hc he' hc';rcases hent b e he with⟨q1,rfl⟩|⟨q1,q⟩<;>rcases hent b' e' he' with⟨q2,rfl⟩|⟨q2,q'⟩
  ·rw[q1,q2]
  ·exact((hoc c hc).2.2.1 b' e' q' hc').elim
  ·exact((hoc c hc').2.2.1 b e q hc).elim
  ·exact I.inj b e b' e' c q hc q' hc'
 ·intro b e c j he hc hr;rw[Hp.aB];rcases hent b e he with⟨_,rfl⟩|⟨q1,q⟩
  ·exact((hoc c hc).2.2.2 j hr).elim
  ·rw[if_neg (Pz q1)];exact I.w_ b e c j q hc hr
 ·refine .own (e:=⟨0,oc,x.length,false⟩) (by simp) (MW _) (fun _=> ?_) ?_
  ·cases oc with
   |none=>
    obtain⟨h1,h2⟩:=hx;have h1:x=[]:=h1;exact⟨by rw[h1];rfl,h2⟩
   |some c=>
    obtain⟨cap,pre,h1,h2,h3,h4,h5,h6⟩:=hx;exact⟨cap,h1,h2,h3⟩
  ·cases oc with
   |none=>obtain⟨_,rfl⟩:=hx;exact⟨_,_,_,rfl⟩
   |some c=>obtain⟨cap,pre,rfl,_⟩:=hx;exact⟨_,_,_,rfl⟩
theorem AU{oc:Option Nat}{nx:Nat}: ∀ {l:List Rk} {x:bY l} {vs:List Value},(l.filter Rk.bK).length=0->ng C oc l x vs->bY.upd nx l x=[]/\bg C (bY.enc nx l x) vs
 |[],_,_,_,h=>by have h:_=[]:=h;subst h;exact⟨rfl,.nil⟩
 | .sh s::r,x,_,hn,⟨v,us,e,h1,h2⟩=>by
  subst e;obtain⟨k1,k2⟩:=AU (nx:=nx) (l:=r) (by simpa[Rk.bK]using hn) h2;refine⟨?_,.cons h1 k2⟩;show []++bY.upd nx r x.2=[];rw[k1];rfl
 | .own t::r,x,_,hn,_=>by simp[Rk.bK]at hn
 | .clo f l::r,x,_,hn,⟨v,us,e,h1,h2⟩=>by
  subst e;obtain⟨k1,k2⟩:=AU (nx:=nx) (l:=r) (by simpa[Rk.bK]using hn) h2;refine⟨?_,.cons h1 k2⟩;show []++bY.upd nx r x.2=[];rw[k1];rfl
 | .wZ::r,x,_,hn,⟨v,us,e,h1,h2⟩=>by
  subst e;obtain⟨k1,k2⟩:=AU (nx:=nx) (l:=r) (by simpa[Rk.bK]using hn) h2;refine⟨?_,.cons h1 k2⟩;show []++bY.upd nx r x.2=[];rw[k1];rfl
theorem zh{oc:Option Nat}{nx:Nat}: ∀ {l:List Rk} {x:bY l} {vs:List Value},(l.filter Rk.bK).length<=1->ng C oc l x vs->
  (bY.upd nx l x=[]/\bg C (bY.enc nx l x) vs)\/ ∃(t:Ty) (y:List t.den) (v:Value),bY.upd nx l x=[(nx,.cells 0 false [.row t y])]/\zS C oc (.own t) y v/\ ∀C',ni C C'->VR C' (.own nx 0 t) v->bg C' (bY.enc nx l x) vs
 |[],_,_,_,h=>by have h:_=[]:=h;subst h;exact .inl ⟨rfl,.nil⟩
 | .sh s::r,x,_,hn,⟨v,us,e,h1,h2⟩=>by
  subst e;rcases zh (nx:=nx) (l:=r) (by simpa[Rk.bK]using hn) h2 with⟨k1,k2⟩|⟨t,y,v',k1,k2,k3⟩
  ·refine .inl ⟨?_,.cons h1 k2⟩;show []++bY.upd nx r x.2=[];rw[k1];rfl
  ·refine .inr ⟨t,y,v',?_,k2,fun C' W hv=> .cons (Sh.wid W h1) (k3 C' W hv)⟩;show []++bY.upd nx r x.2=_;rw[k1];rfl
 | .clo f l::r,x,_,hn,⟨v,us,e,h1,h2⟩=>by
  subst e;rcases zh (nx:=nx) (l:=r) (by simpa[Rk.bK]using hn) h2 with⟨k1,k2⟩|⟨t,y,v',k1,k2,k3⟩
  ·refine .inl ⟨?_,.cons h1 k2⟩;show []++bY.upd nx r x.2=[];rw[k1];rfl
  ·refine .inr ⟨t,y,v',?_,k2,fun C' W hv=> .cons (yP W h1) (k3 C' W hv)⟩;show []++bY.upd nx r x.2=_;rw[k1];rfl
 | .wZ::r,x,_,hn,⟨v,us,e,h1,h2⟩=>by
  subst e;rcases zh (nx:=nx) (l:=r) (by simpa[Rk.bK]using hn) h2 with⟨k1,k2⟩|⟨t,y,v',k1,k2,k3⟩
  ·refine .inl ⟨?_,.cons h1 k2⟩;show []++bY.upd nx r x.2=[];rw[k1];rfl
  ·refine .inr ⟨t,y,v',?_,k2,fun C' W hv=> .cons (pO h1) (k3 C' W hv)⟩;show []++bY.upd nx r x.2=_;rw[k1];rfl
 | .own t::r,x,_,hn,⟨v,us,e,h1,h2⟩=>by
  subst e;have hn0:(r.filter Rk.bK).length=0:=by
   have:((Rk.own t::r).filter Rk.bK).length=(r.filter Rk.bK).length+1:=rfl;omega
  obtain⟨k1,k2⟩:=AU (nx:=nx) hn0 h2;refine .inr ⟨t,x.1,v,?_,h1,fun C' W hv=> .cons hv (AU (nx:=nx) hn0 (ng.wid W h2)).2⟩;show [(nx,_)]++bY.upd nx r x.2=_;rw[k1];rfl
theorem oK.land{oc:Option Nat}{nx:Nat}{r:qA}{x:r.den}{v:Value}(hok:r.pU=true)(h:oK C oc r x v):
  (r.upd nx x=[]/\VR C (r.enc nx x) v)\/ ∃(t:Ty) (y:List t.den) (u:Value),r.upd nx x=[(nx,.cells 0 false [.row t y])]/\zS C oc (.own t) y u/\ ∀C',ni C C'->VR C' (.own nx 0 t) u->VR C' (r.enc nx x) v:=by
 cases r with
 |one k=>
  cases k with
  |sh s=>exact .inl ⟨rfl,h⟩
  |clo f l=>exact .inl ⟨rfl,h⟩
  |wZ=>exact .inl ⟨rfl,h⟩
  |own t=>exact .inr ⟨t,x,v,rfl,h,fun C' _ hv=>hv⟩
 |gG l=>
  obtain⟨vs,rfl,h⟩:=h;rcases zh (nx:=nx) (Oi hok) h with⟨k1,k2⟩|⟨t,y,u,k1,k2,k3⟩
  ·exact .inl ⟨k1,.gG k2⟩
  ·exact .inr ⟨t,y,u,k1,k2,fun C' W hv=> .gG (k3 C' W hv)⟩
theorem Ji{k:Callee}(K:k.OK P){args:List AV}{o:He}{g:o.γ}{nx:Nat}(e:k.lI args h' nx=some o)(hg:o.x=some g)(cs:List Frame)(I:Inv P S0 w0 C h)(hs:bP h' h)(hM:C.M nx=none){vs:List Value}(hv:bg C args vs):
  Does P S0 w0 cs C h nx ((callFunc k.f vs.toArray).run P C.w) (o.enc g):=by
 unfold Callee.lI at e;split at e
 ·rename_i ws hws;split at e
  ·rename_i x hx;obtain rfl:=MK e;have hg:k.F x=some g:=hg
   let refs:=args.flatMap jB
   let Du:Nat->Nat->Prop:=fun c j=>C.RO c j\/ ∃b∈refs,∃e v ro ps,C.M b=some e/\e.cb=some c/\h.get b=some (.cells v ro ps)/\j<aH ps
   let C1:Cx:=⟨C.w,Du,fun _=>none⟩
   have W1:ni C C1:=⟨rfl,fun _ _ q=> .inl q⟩;have H1:Holds C C1 h refs:=fun b hb e c v ro ps j q1 q2 q3 q4=> .inr ⟨b,hb,e,v,ro,ps,q1,q2,q3,q4⟩
   have hlt: ∀c j,Du c j->c<C.w.heap.size:=by
    rintro c j (q|⟨b,_,e,v,ro,ps,q1,q2,q3,q4⟩)
    ·exact(I.ro c j q).1
    ·exact(I.loc b e c q1 q2).2
   obtain⟨fr,w',val,oc,s1,s2,s3,s4,s5,s6⟩:=K.ends Du C.w x vs g hlt ⟨I.tabs.wid W1,I.DN⟩ (DC (ni.self _) _ hx (jM I hs W1 hws hv H1)) hg cs;have DU:xk P cs ((callFunc k.f vs.toArray).run P C.w) val w':= .inr (.inr ⟨k.f,vs.toArray,C.w,K.enter _ _,fr,s1,s2,s3⟩);show Does P S0 w0 cs C h nx _ (k.res.enc nx g,k.res.upd nx g++(bif k.res.flat then []else freeze h' refs))
   -- what was there, behind the call
   obtain⟨Jp,hR2,h2,hh2,le,I'⟩: ∃Jp:Nat->Nat->Prop,oK ⟨w',Jp,C.M⟩ oc k.res g val/\ ∃h2,h2=(bif k.res.flat then []else freeze h' refs)++h/\C.Le ⟨w',Jp,C.M⟩/\(Inv P S0 w0 ⟨w',Jp,C.M⟩ h2/\(∃H,Hid w0 ⟨w',Jp,C.M⟩ h2 H/\ ∀b g,H b=some g->g<C.w.heap.size)/\ ∀c,oc=some c-> ∀j,¬Jp c j):=by
    cases hf:k.res.flat with
    |true=>
     obtain⟨le,I'⟩:=I.called (RO:=fun c j=>C.RO c j) (h2:=h) s4 (fun _ _ q=>q) (fun c j q=> .inl q) (fun b=> .inl rfl);refine⟨_,oK.flat (C:=⟨w',fun c j=>(Du c j\/(C.w.heap.size<=c/\c<w'.heap.size))/\oc≠some c,fun _=>none⟩) rfl hf s6,h,rfl,le,I',I.Dy s4 (fun c j q=> .inl q) (fun b=> .inl rfl),fun c hc j hr=> ?_⟩;have:=(s5 c hc).1;have:=(I.ro c j hr).1;omega
    |false=>
     have hfz:=fun b=>vw refs h' h b hs
     have KE: ∀c j,((Du c j\/(C.w.heap.size<=c/\c<w'.heap.size))/\oc≠some c)->C.RO c j\/(∃b e v ps,C.M b=some e/\e.cb=some c/\(freeze h' refs++h).get b=some (.cells v true ps)/\j<aH ps)\/(C.w.heap.size<=c/\c<w'.heap.size):=fun c j q=>by
      rcases q.1 with (q|⟨b,hb,e,v,ro,ps,q1,q2,q3,q4⟩)|q
      ·exact .inl q
      ·obtain⟨v',ro',ps',g1⟩:=jA hws b hb;have g2:=hs _ _ g1;rw[q3]at g2;cases g2;exact .inr (.inl ⟨b,e,v,ps,q1,q2,(hfz b).2 hb _ _ _ g1,q4⟩)
      ·exact .inr (.inr q)
     have KC:=I.Dy (RO:=fun c j=>(Du c j\/(C.w.heap.size<=c/\c<w'.heap.size))/\oc≠some c) (h2:=freeze h' refs++h) s4 KE (fun b=>(hfz b).1);obtain⟨le,I'⟩:=I.called (RO:=fun c j=>(Du c j\/(C.w.heap.size<=c/\c<w'.heap.size))/\oc≠some c) (h2:=freeze h' refs++h) s4 (fun c j q=>⟨.inl (.inl q),fun hq=>by
      have:=(s5 c hq).1;have:=(I.ro c j q).1;omega⟩) (fun c j q=>by
      rcases q.1 with (q|⟨b,hb,e,v,ro,ps,q1,q2,q3,q4⟩)|q
      ·exact .inl q
      ·obtain⟨v',ro',ps',g1⟩:=jA hws b hb;have g2:=hs _ _ g1;rw[q3]at g2;cases g2;exact .inr (.inl ⟨b,e,v,ps,q1,q2,(hfz b).2 hb _ _ _ g1,q4⟩)
      ·exact .inr (.inr q)) (fun b=>(hfz b).1)
     have hres:=oK.wid (Ca:=⟨w',fun c j=>(Du c j\/(C.w.heap.size<=c/\c<w'.heap.size))/\oc≠some c,fun _=>none⟩) (Cb:=⟨w',fun c j=>(Du c j\/(C.w.heap.size<=c/\c<w'.heap.size))/\oc≠some c,C.M⟩) ⟨rfl,fun _ _ q=>q⟩ s6;exact⟨_,hres,_,rfl,le,I',KC,fun c hc j hr=>hr.2 hc⟩
   obtain⟨I',⟨HH,hH1,hH2⟩,hno⟩:=I';rcases hR2.land (nx:=nx) K.own with⟨k1,k2⟩|⟨t,y,u,k1,k2,k3⟩
   ·refine⟨val,_,DU,?_,le,k2,fun y hy=> .inl hy⟩;show Inv P S0 w0 _ ((k.res.upd nx g++_)++h);rw[k1,OM,<-hh2];exact I'
   ·obtain⟨G7,I2,v2⟩:=I'.adopt (nx:=nx) hM (fun c hc=>by
     have h1:=s5 c hc;have h2:=I.below.size;refine⟨by omega,h1.2,fun b e hb he=> ?_,fun j=>hno c hc j⟩;have:=(I.loc b e c hb he).2;omega) k2 ⟨HH,hH1,fun b c q hc=>by have:=hH2 b c q;have:=(s5 c hc).1;omega⟩
    refine⟨val,_,DU,?_,le.trans G7,k3 _ ⟨rfl,fun _ _ q=>q⟩ v2,fun z hz=> ?_⟩
    ·show Inv P S0 w0 _ ((k.res.upd nx g++_)++h);rw[k1,N8,<-hh2];exact I2
    ·by_cases hzn:z=nx
     ·exact .inr hzn
     ·exact .inl (by simpa[hzn]using hz)
  ·simp at e
 ·simp at e
theorem Ed: ∀ {ks:List Callee},(∀k∈ks,k.OK P)->bW P S0 w0 (Gu ks)
 |[],_=>fun f args h' nx o g e=>by simp[Gu]at e
 |k::ks,K=>fun f args h' nx o g e hg cs C h I hs hM vs hv=>by
  simp only[Gu,cond_eq_ite]at e;split at e
  ·rename_i hf;have:=MO hf;subst this;exact Ji (K k (.head _)) e hg cs I hs hM hv
  ·exact Ed (fun k hk=>K k (.tail _ hk)) f args h' nx o g e hg cs C h I hs hM vs hv
end
end Go.AM
end
section
namespace Go.AM
variable [Tabs]
open Go.RowKit
theorem fM{P:Program}{f:FuncId}{a:List AV}(h:(aW P f a).isSome=true)(b:List AV): ∃g,aW P f b=some g:=by
 unfold aW at h ⊢
 split
 ·rename_i fn hfn;simp only[hfn,cond_eq_ite]at h ⊢
  split at h
  ·split at h
   ·rename_i hq;exact⟨_,by rw[if_pos hq]⟩
   ·simp at h
  ·simp at h
 ·rename_i hfn;rw[hfn]at h;simp at h
section
variable {P:Program}
theorem Fa{f:FuncId}{args:List AV}{g:aA}{w:World}{RO:Nat->Nat->Prop}{cs0:List Frame}{vs:List Value}(hen:aW P f args=some g)(Fj: ∀c j,RO c j->c<w.heap.size)(hT:J7 ⟨w,RO,fun _=>none⟩)(hv:bg ⟨w,RO,fun _=>none⟩ args vs):
  jU P ⟨RO,fun _=>False⟩ w cs0 f ⟨w,RO,fun _=>none⟩ (start f args) (N_ P f vs.toArray .normal) []:=by
 have hg:g= {fn:=f,env:=(Oy args.length).zip args,aI:=[],items:=[.code []]}:=by
  unfold aW at hen;split at hen
  ·simp only[cond_eq_ite]at hen;split at hen
   ·split at hen
    ·exact(MK hen).symm
    ·simp at hen
   ·simp at hen
  ·simp at hen
 subst hg;refine⟨.cons (iU hen hv).1 .nil,⟨⟨rfl,rfl,rfl,MW _,fun _ _ _=>rfl⟩,fun b o hb=>by simp[start,Hp.get]at hb,fun b e hb=>by simp at hb,fun b e c hb=>by simp at hb,fun b e b' e' c hb=>by simp at hb,fun c j r=>⟨Fj c j r,.inl r⟩,fun b e c j hb=>by simp at hb,fun _ h=>h.elim,⟨fun _=>none,fun b T e xs q=>(by simp[start,Hp.get]at q),fun _ _ q=>(by cases q),fun _ _ _ _ q=>(by cases q),fun _ _ _ q=>(by cases q),fun _ _ _ q=>(by cases q)⟩,hT.1,hT.2,fun _ _ q=>q⟩,fun y hy=>by simp at hy,⟨rfl,rfl,rfl⟩⟩
theorem Inv.JO{RO:Nat->Nat->Prop}{w:World}{C:Cx}{h:Hp}(I:Inv P ⟨RO,fun _=>False⟩ w C h): ∀b e c,C.M b=some e->e.cb=some c->w.heap.size<=c/\c<C.w.heap.size:=fun b e c h1 h2=>by
 have:=I.loc b e c h1 h2;rcases this.1 with q|q
 ·exact q.elim
 ·exact⟨q,this.2⟩
theorem Inv.LY{RO:Nat->Nat->Prop}{w:World}{C:Cx}{h:Hp}(I:Inv P ⟨RO,fun _=>False⟩ w C h): ∀c j,C.RO c j->c<C.w.heap.size/\(RO c j\/w.heap.size<=c):=fun c j h1=>by
 have:=I.ro c j h1;rcases this.2 with q|q|q
 ·exact⟨this.1,.inl q⟩
 ·exact q.elim
 ·exact⟨this.1,.inr q⟩
theorem Inv.IG{RO:Nat->Nat->Prop}{w:World}{C:Cx}{h:Hp}(I:Inv P ⟨RO,fun _=>False⟩ w C h):Below w.heap.size w C.w:=I.below.below fun _ _ q=>q.elim
def bQ(C:Cx):Option Nat->Option Nat
 |none=>none
 |some b=>(match C.M b with|some e=>e.cb|none=>none)
theorem vY{RO:Nat->Nat->Prop}{w:World}{C:Cx}{h:Hp}(I:Inv P ⟨RO,fun _=>False⟩ w C h){t:Ty}{v:AV}{val:Value}{x:List t.den}(e:ownRow h t v=some x)(hv:VR C v val):
  zS C (bQ C ((Rk.own t).blk v)) (.own t) x val/\ ∀b,(Rk.own t).blk v=some b-> ∃ver ps,h.get b=some (.cells ver false ps):=by
 unfold ownRow at e;split at e
 ·rename_i b ver t0;split at e
  ·rename_i u hr;simp only[cond_eq_ite]at e;split at e
   ·rename_i hz;have hz:=MO hz;obtain⟨ht,hx⟩:=iJ e;obtain⟨ro,en,g1,g2,g3,g4,g5,g6,g7⟩:=I.rowLen (bP.self h) hr;have hro:ro=false:=by simpa using g2
    subst hro;refine⟨?_,fun b' hb'=>by cases hb';exact⟨_,_,g1⟩⟩;cases hv with
    |own k1 k2 k3 k4=>
     rw[g3]at k1;obtain rfl:=MK k1;have k3:=k3 g4.symm;obtain⟨ut,L8⟩:=u;simp only at ht hx g6 g7;subst ht;subst hx;unfold dO at k3;have hb:bQ C ((Rk.own ut).blk (.own b ver t0))=en.cb:=by
      show (match C.M b with|some e=>e.cb|none=>none)=_;rw[g3]
     rw[hb];cases hcb:en.cb with
     |none=>
      rw[hcb]at k3 g7;exact⟨g7,k3.2⟩
     |some c=>
      rw[hcb]at k3 g7;obtain⟨cap,q1,q2,q3⟩:=k3;obtain⟨pre,p1,p2,p3⟩:=g7;have g6:en.len=x.length:=g6;exact⟨cap,pre,by rw[<-g6];exact q1,by rw[<-g6];exact q2,by rw[<-hz];exact q3,p1,p2,p3⟩
   ·simp at e
  ·simp at e
 ·rename_i b ver t0 i n;split at e
  ·rename_i u hr;simp only[cond_eq_ite]at e;split at e
   ·rename_i hz;simp only[ML,decide_eq_true_eq]at hz;obtain⟨⟨hz,hi⟩,hpos⟩:=hz;have hz:=MO hz;split at e
    ·rename_i xs hxs;obtain rfl:=MK e;obtain⟨ht,hx⟩:=iJ hxs;obtain⟨ro,en,g1,g2,g3,g4,g5,g6,g7⟩:=I.rowLen (bP.self h) hr;have hro:ro=false:=by simpa using g2
     subst hro;refine⟨?_,fun b' hb'=>by cases hb';exact⟨_,_,g1⟩⟩;cases hv with
     |slc k1 k2 k3 k4=>
      rw[g3]at k1;obtain rfl:=MK k1;obtain⟨q1,q2,q3,q4⟩:=k3 g4.symm;obtain⟨ut,L8⟩:=u;simp only at ht hx g6 g7 hpos;subst ht;subst hx;have g6:en.len=xs.length:=g6;subst hi;simp only[OE]at q3;have hn:n.toNat<=xs.length:=by omega
      have hb:bQ C ((Rk.own ut).blk (.slc b ver 0 none t0 0 n))=en.cb:=by
       show (match C.M b with|some e=>e.cb|none=>none)=_;rw[g3]
      rw[hb];cases hcb:en.cb with
      |none=>
       rw[hcb]at g7;rw[g7]at hpos;simp at hpos
      |some c=>
       rw[hcb]at q4 g7;obtain⟨a,cap,rfl,z2,z3,z4⟩:=q4;obtain⟨pre,p1,p2,p3⟩:=g7;simp only[OE]at z3;have hlen:(xs.take n.toNat).length=n.toNat:=by simp;omega
       have z3:en.len<=cap:=by omega
       have ha:=z2 (by omega);subst ha;have hsp:=(Cat.split (fun _ _ h=>Rep.length h) n.toNat p1).1;refine⟨cap,_,?_,?_,?_,hsp,fun j v hj=> ?_,p3⟩
       ·show _=Value.slice _ (xs.take n.toNat).length cap;rw[hlen];simp
       ·show (xs.take n.toNat).length<=cap;rw[hlen];omega
       ·rw[<-hz];have:0+((0:Int).toNat+cap)*t0.size=cap*t0.size:=by simp
        rw[<-this];exact z4
       ·rw[Oq]at hj;split at hj
        ·exact p2 j v hj
        ·simp at hj
    ·simp at e
   ·simp at e
  ·simp at e
 ·obtain rfl:=MK e;cases hv;exact⟨⟨rfl,rfl⟩,fun b hb=>by simp[Rk.blk]at hb⟩
 ·simp at e
def Fq(RO:Nat->Nat->Prop)(w w':World)(oc:Option Nat):Nat->Nat->Prop:=fun c j=>(RO c j\/(w.heap.size<=c/\c<w'.heap.size))/\oc≠some c
theorem Hu{RO:Nat->Nat->Prop}{w:World}{C:Cx}{h:Hp}(I:Inv P ⟨RO,fun _=>False⟩ w C h){o:Option Nat}(ho: ∀b,o=some b-> ∃ver ps,h.get b=some (.cells ver false ps)):
  ni C ⟨C.w,Fq RO w C.w (bQ C o),fun _=>none⟩/\ ∀l,away o l=true->Holds C ⟨C.w,Fq RO w C.w (bQ C o),fun _=>none⟩ h l:=by
 refine⟨⟨rfl,fun c j q=>⟨?_,fun hq=> ?_⟩⟩,fun l hl b hb e c v ro ps j q1 q2 q3 q4=>⟨.inr (I.JO b e c q1 q2),fun hq=> ?_⟩⟩
 ·have:=I.LY c j q;rcases this.2 with k|k
  ·exact .inl k
  ·exact .inr ⟨k,this.1⟩
 ·cases o with
  |none=>simp[bQ]at hq
  |some b=>
   obtain⟨ver,ps,g1⟩:=ho b rfl;unfold bQ at hq;simp only at hq;split at hq
   ·rename_i e he;obtain⟨v,ps',g2,_⟩:=I.w_ b e c j he hq q;rw[g1]at g2;cases g2
   ·simp at hq
 ·cases o with
  |none=>simp[bQ]at hq
  |some b'=>
   unfold bQ at hq;simp only at hq;split at hq
   ·rename_i e' he';have:=I.inj b e b' e' c q1 q2 he' hq;subst this;have:l.any (M_ b)=true:=NP.2 ⟨b,hb,by simp⟩;simp[away,this]at hl
   ·simp at hq
theorem Ho{RO:Nat->Nat->Prop}{w:World}{C C':Cx}{h:Hp}(I:Inv P ⟨RO,fun _=>False⟩ w C h)(W:ni C C'){t:Ty}{v:AV}{val:Value}{x:t.den}(e:FD h t v=some x)(hv:VR C v val)(H:Holds C C' h (gu v)):VR C' (.rp t x 0) val:=by
 unfold FD at e;split at e
 ·rename_i b ver;split at e
  ·rename_i ro ps hc;obtain⟨ro',en,g1,g2,g3,g4,g5,g6,g7⟩:=I.block (bP.self h) hc;cases hv with
   |ptr k1 k2 k3 k4=>
    rw[g3]at k1;obtain rfl:=MK k1;obtain⟨c,q1,rfl,_⟩:=k3 g4.symm;rw[q1]at g7;obtain⟨pre,p1,p2,p3⟩:=g7;have hr:=p1.ay e;refine .rp (p:=0) (ds:=pre) (hr.wid W) fun j u hj=>⟨?_,?_⟩
    ·rw[W.w];exact p2 j u hj
    ·refine H b (.head _) en c ver ro' ps _ g3 q1 g1 ?_;have hl:pre.length=aH ps:=p1.length;have:j<pre.length:=by rw[NY]at hj;exact hj.1
     omega
  ·simp at e
 ·simp at e
theorem Fp{RO:Nat->Nat->Prop}{w:World}{C C':Cx}{h:Hp}(I:Inv P ⟨RO,fun _=>False⟩ w C h)(W:ni C C'): ∀ {l:List Ty} {vs:List AV} {us:List Value} {x:Caps l},Caps.of h l vs=some x->bg C vs us->Holds C C' h (vs.flatMap gu)->bg C' (Caps.enc l x) us
 |[],[],_,_,_,.nil,_=> .nil
 |[],_::_,_,_,e,_,_=>by simp[Caps.of]at e
 |_::_,[],_,_,e,_,_=>by simp[Caps.of]at e
 |t::r,v::vs,_,x,e,.cons h1 h2,H=>by
  simp only[Caps.of]at e;split at e
  ·rename_i y hy;split at e
   ·rename_i z hz;obtain rfl:=MK e;exact .cons (Ho I W hy h1 fun b hb=>H b (Nh.2 ⟨v,.head _,hb⟩)) (Fp I W hz h2 fun b hb=>by
     obtain⟨u,q1,q2⟩:=Nh.1 hb;exact H b (Nh.2 ⟨u,.tail _ q1,q2⟩))
   ·simp at e
  ·simp at e
theorem Rk.vk{RO:Nat->Nat->Prop}{w:World}{C:Cx}{h:Hp}(I:Inv P ⟨RO,fun _=>False⟩ w C h){o:Option Nat}(ho: ∀b,o=some b-> ∃ver ps,h.get b=some (.cells ver false ps)){k:Rk}{v:AV}{val:Value}{x:k.den}(e:k.fin h o v=some x)(hv:VR C v val)
  (hk: ∀t,k= .own t->k.blk v=o\/(k.blk v=none/\v= .aC/\bQ C o=none)):zS ⟨C.w,Fq RO w C.w (bQ C o),fun _=>none⟩ (bQ C o) k x val:=by
 obtain⟨W,H⟩:=Hu I ho;cases k with
 |sh s=>
  have e:(bif away o (jB v)then(match yB h v with|some w=>s.dec w|none=>none)else none)=some x:=e;simp only[cond_eq_ite]at e;split at e
  ·rename_i ha;split at e
   ·rename_i u hu;exact Sh.BN (s:=s) (ni.self _) e (rW I (bP.self h) W hu hv (H _ ha))
   ·simp at e
  ·simp at e
 |clo f l=>
  have e:FK h o f l v=some x:=e;unfold FK at e;split at e
  ·rename_i g caps;simp only[cond_eq_ite]at e;split at e
   ·rename_i hc;simp only[ML]at hc;obtain rfl:=MO hc.1;cases hv with
    |fn h1 h2 h3=>
     cases h2;exact .fn h1 .nil (Fp I W e h3 (H _ hc.2))
   ·simp at e
  ·simp at e
 |wZ=>
  have e:yh v=some x:=e;unfold yh at e;split at e
  ·exact pO hv
  ·simp at e
 |own t=>
  have e:ownRow h t v=some x:=e;have:=(vY I e hv).1;rcases hk t rfl with q|⟨q,rfl,q2⟩
  ·rw[q]at this;exact zS.wid (k:= .own t) W this
  ·rw[q]at this;rw[q2];exact zS.wid (k:= .own t) W this
end
section
variable {P:Program}
theorem bY.FC{RO:Nat->Nat->Prop}{w:World}{C:Cx}{h:Hp}(I:Inv P ⟨RO,fun _=>False⟩ w C h){o:Option Nat}: ∀ {l:List Rk} {vs:List AV} {us:List Value} {x:bY l},bY.fin h o l vs=some x->bg C vs us-> ∀b,bY.blk l vs=some b-> ∃ver ps,h.get b=some (.cells ver false ps)
 |[],vs,_,_,_,_,b,hb=>by cases vs<;>simp[bY.blk]at hb
 |k::r,[],_,_,e,_,b,hb=>by simp[bY.blk]at hb
 |k::r,v::vs,_,x,e,.cons h1 h2,b,hb=>by
  simp only[bY.fin]at e;split at e
  ·rename_i y hy;split at e
   ·rename_i z hz;simp only[bY.blk]at hb;split at hb
    ·rename_i b' hb';obtain rfl:=MK hb;cases k with
     |sh s=>simp[Rk.blk]at hb'
     |clo f l=>simp[Rk.blk]at hb'
     |wZ=>simp[Rk.blk]at hb'
     |own t=>
      have hy:ownRow h t v=some y:=hy;exact(vY I hy h1).2 _ hb'
    ·exact bY.FC I hz h2 b hb
   ·simp at e
  ·simp at e
theorem Hl{k:Rk}{t:Ty}{v:AV}{h:Hp}{x:List t.den}(e:ownRow h t v=some x)(hb:(Rk.own t).blk v=none):v= .aC:=by
 unfold ownRow at e;split at e
 ·simp[Rk.blk]at hb
 ·simp[Rk.blk]at hb
 ·rfl
 ·simp at e
theorem bY.vk{RO:Nat->Nat->Prop}{w:World}{C:Cx}{h:Hp}(I:Inv P ⟨RO,fun _=>False⟩ w C h){o:Option Nat}(ho: ∀b,o=some b-> ∃ver ps,h.get b=some (.cells ver false ps)): ∀ {l:List Rk} {vs:List AV} {us:List Value} {x:bY l},bY.fin h o l vs=some x->bg C vs us->(l.filter Rk.bK).length<=1->
  (o=bY.blk l vs\/(l.filter Rk.bK).length=0)->ng ⟨C.w,Fq RO w C.w (bQ C o),fun _=>none⟩ (bQ C o) l x us
 |[],[],_,_,_,.nil,_,_=>rfl
 |[],_::_,_,_,e,_,_,_=>by simp[bY.fin]at e
 |k::r,[],_,_,e,_,_,_=>by simp[bY.fin]at e
 |k::r,v::vs,_,x,e,.cons h1 h2,hn,hor=>by
  simp only[bY.fin]at e;split at e
  ·rename_i y hy;split at e
   ·rename_i z hz;obtain rfl:=MK e;refine⟨_,_,rfl,Rk.vk I ho hy h1 ?_,?_⟩
    ·rintro t rfl
     have hlen:((Rk.own t::r).filter Rk.bK).length=(r.filter Rk.bK).length+1:=rfl;have hor:o=bY.blk (Rk.own t::r) (v::vs):=by
      rcases hor with q|q
      ·exact q
      ·omega
     have hr0:(r.filter Rk.bK).length=0:=by omega
     have hblk: ∀ {r:List Rk} {vs:List AV},(r.filter Rk.bK).length=0->bY.blk r vs=none:=by
      intro r
      induction r with
      |nil=>intro vs _;cases vs<;>rfl
      |cons k r ih=>
       intro vs hk;cases vs with
       |nil=>rfl
       |cons v vs=>
        cases k with
        |sh s=>
         have:bY.blk (.sh s::r) (v::vs)=bY.blk r vs:=rfl;rw[this];exact ih (by simpa[Rk.bK]using hk)
        |clo f l=>
         have:bY.blk (.clo f l::r) (v::vs)=bY.blk r vs:=rfl;rw[this];exact ih (by simpa[Rk.bK]using hk)
        |wZ=>
         have:bY.blk (.wZ::r) (v::vs)=bY.blk r vs:=rfl;rw[this];exact ih (by simpa[Rk.bK]using hk)
        |own t=>simp[Rk.bK]at hk
     cases hb:(Rk.own t).blk v with
     |some b=>
      left
      rw[hor];simp only[bY.blk,hb]
     |none=>
      right
      have hov:ownRow h t v=some y:=hy;refine⟨rfl,Hl (k:= .own t) hov hb,?_⟩;have:bY.blk (Rk.own t::r) (v::vs)=none:=by
       simp only[bY.blk,hb];exact hblk hr0
      rw[hor,this];rfl
    ·refine bY.vk I ho hz h2 ?_ ?_
     ·cases k with
      |sh s=>simpa[Rk.bK]using hn
      |clo f l=>simpa[Rk.bK]using hn
      |wZ=>simpa[Rk.bK]using hn
      |own t=>
       have hlen:((Rk.own t::r).filter Rk.bK).length=(r.filter Rk.bK).length+1:=rfl;omega
     ·cases k with
      |sh s=>
       rcases hor with q|q
       ·exact .inl q
       ·exact .inr (by simpa[Rk.bK]using q)
      |clo f l=>
       rcases hor with q|q
       ·exact .inl q
       ·exact .inr (by simpa[Rk.bK]using q)
      |wZ=>
       rcases hor with q|q
       ·exact .inl q
       ·exact .inr (by simpa[Rk.bK]using q)
      |own t=>
       have hlen:((Rk.own t::r).filter Rk.bK).length=(r.filter Rk.bK).length+1:=rfl;exact .inr (by omega)
   ·simp at e
  ·simp at e
theorem vk{RO:Nat->Nat->Prop}{w:World}{C:Cx}{h:Hp}(I:Inv P ⟨RO,fun _=>False⟩ w C h){r:qA}{v:AV}{val:Value}{x:r.den}(hok:r.pU=true)(e:r.fin v h=some x)(hv:VR C v val):
  ∃oc,(∀c,oc=some c->w.heap.size<=c/\c<C.w.heap.size)/\oK ⟨C.w,Fq RO w C.w oc,fun _=>none⟩ oc r x val:=by
 have hloc: ∀o c,bQ C o=some c->w.heap.size<=c/\c<C.w.heap.size:=by
  intro o c hc;cases o with
  |none=>simp[bQ]at hc
  |some b=>
   unfold bQ at hc;simp only at hc;split at hc
   ·rename_i e he;exact I.JO b e c he hc
   ·simp at hc
 cases r with
 |one k=>
  have e:k.fin h (k.blk v) v=some x:=e;refine⟨bQ C (k.blk v),hloc _,Rk.vk I (fun b hb=> ?_) e hv (fun t ht=> .inl rfl)⟩;cases k with
  |sh s=>simp[Rk.blk]at hb
  |clo f l=>simp[Rk.blk]at hb
  |wZ=>simp[Rk.blk]at hb
  |own t=>
   have e:ownRow h t v=some x:=e;exact(vY I e hv).2 b hb
 |gG l=>
  cases hv with
  | @gG vs cs hv=>
   have e:bY.fin h (bY.blk l vs) l vs=some x:=e;exact⟨bQ C (bY.blk l vs),hloc _,cs,rfl,bY.vk I (bY.FC I e hv) e hv (Oi hok) (.inl rfl)⟩
  |_=>
   have e:(none:Option (bY l))=some x:=e;simp at e
theorem Callee.Eb{k:Callee}{Φ:iL}{inl:FuncId->Bool}(hO: ∀S0 w0,bW P S0 w0 Φ)(hen:(aW P k.f []).isSome=true)(hok:k.res.pU=true)
  (hrun: ∀RO w x vs r,bg ⟨w,RO,fun _=>none⟩ (encs k.args x) vs->k.F x=some r-> ∃(args:List AV) (n:Nat) (aK:List Seg),bg ⟨w,RO,fun _=>none⟩ args vs/\(∀S0 w0 cs0,∀s∈aK,bM P S0 w0 cs0 k.f s)/\dA P Φ inl [] aK k.res.fin n false (start k.f args)=some r):k.OK P:=by
 refine⟨fun vs w=> ?_,hok,fun RO w x vs r Fj hT hv hF cs=> ?_⟩
 ·obtain⟨g,hg⟩:=fM hen [];exact bG hg vs w
 ·obtain⟨args,n,aK,hv2,hG,hr⟩:=hrun RO w x vs r hv hF;obtain⟨g,hg⟩:=fM hen args;obtain⟨C',fr,val,v,h,s1,s2,s3,s4,s5,s6⟩:=iV (G:=toEnd P ⟨RO,fun _=>False⟩ w cs k.f k.res.fin) (cuts:=[]) (hO _ w) (fun r w fr cs q=>q) (fun c hc=>by simp at hc) (fun s hs=>hG _ w cs s hs) n (Fa (cs0:=cs) hg Fj hT hv2) hr;obtain⟨oc,z1,z2⟩:=vk s5 hok s6 s4;exact⟨fr,C'.w,val,oc,s1,s2,s3,s5.IG,z1,z2⟩
theorem Callee.of_run{k:Callee}{Φ:iL}{inl:FuncId->Bool}{aK:List Seg}{n:Nat}(hO: ∀S0 w0,bW P S0 w0 Φ)(hen:(aW P k.f []).isSome=true)(hok:k.res.pU=true)(hs: ∀S0 w0 cs0,∀s∈aK,bM P S0 w0 cs0 k.f s)
  (hrun: ∀x r,k.F x=some r->dA P Φ inl [] aK k.res.fin n false (start k.f (encs k.args x))=some r):k.OK P:=
 Callee.Eb hO hen hok fun RO w x vs r hv hF=>⟨_,n,aK,hv,hs,hrun x r hF⟩
abbrev KR(P:Program)(Φ:iL)(inl:FuncId->Bool)(aK:List Seg)(c:Callee):Prop:= ∀v:wM c.args,dA P Φ inl [] aK c.res.fin 20000 false (start c.f (encs c.args v))=c.F v
theorem KR.ok{c:Callee}{Φ:iL}{inl:FuncId->Bool}{aK:List Seg}(hO: ∀S0 w0,bW P S0 w0 Φ)(hen:(aW P c.f []).isSome=true)(hok:c.res.pU=true)(hs: ∀S0 w0 cs0,∀s∈aK,bM P S0 w0 cs0 c.f s)(h:KR P Φ inl aK c):c.OK P:=
 Callee.of_run hO hen hok hs fun x r e=>(h x).trans e
theorem Callee.Dl{f:FuncId}{l:List Sh}{F:wM l->Option Bool}(K:Callee.OK P ⟨f,l,.one (.sh (.one .bool)),F⟩){W:World}{RO:Nat->Nat->Prop}{x:wM l}{vs:List Value}(Fj: ∀c j,RO c j->c<W.heap.size)(hT:J7 ⟨W,RO,fun _=>none⟩)(hv:bg ⟨W,RO,fun _=>none⟩ (encs l x) vs)
  (hF:F x=some true):Calls P f vs.toArray W fun e w'=>e= .returned (.bool true)/\Below W.heap.size W w':=by
 intro cs;obtain⟨fr,w',val,oc,s1,s2,s3,s4,s5,s6⟩:=K.ends RO W x vs true Fj hT hv hF cs;have s6:VR _ (.bool true) val:=s6;cases s6;exact⟨_,w',fr,⟨rfl,s4⟩,s1,s2,s3⟩
end
end Go.AM
namespace Go.AM
variable [Tabs]
open Go.RowKit
theorem Callee.of_nil{P:Program}{f:FuncId}{t:Ty}{res:qA}{F:wM [.one (.lst t)]->Option res.den}{Φ:iL}{inl:FuncId->Bool}{aK:List Seg}{n:Nat}(hO: ∀S0 w0,bW P S0 w0 Φ)(hen:(aW P f []).isSome=true)(hok:res.pU=true)(hs: ∀S0 w0 cs0,∀s∈aK,bM P S0 w0 cs0 f s)
  (hnil: ∀r,F (([]:List t.den),())=some r->dA P Φ inl [] aK res.fin n false (start f [.aC])=some r)
  (hsome: ∀(xs:List t.den) r,F (xs,())=some r->dA P Φ inl [] aK res.fin n false (start f [.iO t xs])=some r):Callee.OK P ⟨f,[.one (.lst t)],res,F⟩:=by
 refine Callee.Eb (inl:=inl) hO hen hok fun RO w x vs r hv hF=> ?_
 obtain⟨xs,⟨⟩⟩:=x;have hv:bg ⟨w,RO,fun _=>none⟩ [.lst t xs] vs:=hv;cases hv with
 |cons h1 h2=>
  cases h2;cases h1 with
  |lst q=>
   obtain⟨a,m,c,q1,q2,q3,q4⟩:=q;simp only[Nv,and_true]at q1;subst q1;cases a with
   |none=>
    rcases q4 with⟨q4,q5⟩|⟨b,o,ds,q4,_⟩
    ·have q4:xs=([]:List t.den):=q4;subst q4;have hm:m=0:=q2;have hc:c=0:=q5 rfl;subst hm;subst hc;exact⟨[.aC],n,aK,.cons .aC .nil,hs,hnil r hF⟩
    ·simp at q4
   |some a=>exact⟨[.iO t xs],n,aK,.cons (.iO ⟨some a,m,c,rfl,q2,q3,q4⟩ ⟨a,m,c,rfl⟩) .nil,hs,hsome xs r hF⟩
end Go.AM
end
section
namespace Go.AM
variable [Tabs]
open Go.RowKit
def Gt(k:IntKind)(n:Int):Prop:=k.min<=n/\n<=k.max
def JW(s:List Int):Prop:=s.length<=140737488351232/\ ∀b∈s,0<=b/\b<256
def Iy{α:Type}(p:α->Prop)(xs:List α):Prop:= ∀y∈xs,p y
def JV{α:Type}(p:α->Prop)(xs:List α):Prop:=xs.length<=140737488351232/\Iy p xs
def JU{α:Type}(n:Nat)(p:α->Prop)(xs:List α):Prop:=xs.length=n/\Iy p xs
def Ty.ok:(t:Ty)->t.den->Prop
 | .int k,x=>Gt k x
 | .bool,_=>True
 | .str,s=>JW s
 | .lst t,xs=>JV (α:=t.den) t.ok xs
 | .arr n t,xs=>JU (α:=t.den) n t.ok xs
 | .unit,_=>True
 | .pair a b,x=>a.ok x.1/\b.ok x.2
def Ty.pos:Ty->Bool
 | .lst t=>Py 0 t.size&&t.pos
 | .arr _ t=>t.pos
 | .pair a b=>a.pos&&b.pos
 |_=>true
def fJ(P:Program):Nat->TypeId->Bool
 |0,_=>false
 |n+1,t=>match P.underlying t with
  |some (.slice e)=>Py 0 (P.bytesOf e)&&fJ P n e
  |some (.array _ e)=>fJ P n e
  |some (.struct fs)=>fs.toList.all fun f=>fJ P n f.type
  |_=>true
theorem reach_eq:reachBytes=140737488351232:=by decide
theorem mJ{H:Type}{P:Program}{e:TypeId}: ∀ {ds:List (DataW H)} {d:DataW H},d∈ds-> ∀n∈d.weights P e,n∈OA P e ds
 |d0::ds,d,h,n,hn=>by
  simp only[OA,MN];rcases Ns.1 h with rfl|h
  ·exact .inl hn
  ·exact .inr (mJ h n hn)
 |[],_,h,_,_=>nomatch h
section
variable {H:Type} {enc:TypeId×Value->H} {P:Program} {W:World} {spare:Nat->Bool} {held:Bool} {RO:Nat->Nat->Prop} {M:Nat->Option tC}
theorem wW{k:IntKind}{n:Int}(h:(Lit.int k n).wf=true):ak k n=true:=by
 unfold Lit.wf at h;unfold ak;simpa using h
theorem FI(s:ByteArray): ∀b∈bytesOf s,0<=b/\b<256:=by
 intro b hb;unfold bytesOf at hb;obtain⟨u,_,rfl⟩:=NM.1 hb;have:=u.toNat_lt;omega
theorem u_{cs:List Value}{xs:List (DataW H×List MemPlace)}{m:Nat}
  (rec: ∀ {t ty cs} {r:DataW H×List MemPlace},bU P m t=some ty->ty.pos=true->fJ P m t=true->(∀n∈r.1.weights P t,n<=reachBytes)->(∃fuel,Oj enc P W 0 spare held fuel t cs=some r)->(∀b j,NR b j∈r.2->RO b j)-> ∃x:ty.den,Rep ⟨W,RO,M⟩ ty x cs/\ty.ok x):
  ∀ {fs:List Field} {l:List Ty} {i o:Nat},ig (fun f=>bU P m f.type) fs=some l->qQ fs l o=true->(Ty.st l).pos=true->cs.length=o+(Ty.st l).size->
   (∀(j:Nat) (f:Field),fs[j]?=some f-> ∃r fuel,xs[i+j]?=some r/\Oj enc P W 0 spare held fuel f.type ((cs.drop f.offset).take (P.cellsOf f.type))=some r/\fJ P m f.type=true/\ ∀n∈r.1.weights P f.type,n<=reachBytes)->
   (∀r∈xs,∀b j,NR b j∈r.2->RO b j)-> ∃x:(Ty.st l).den,Rep ⟨W,RO,M⟩ (Ty.st l) x (cs.drop o)/\(Ty.st l).ok x
 |[],l,i,o,ha,ho,hp,hl,hx,hro=>by
  simp only[ig,Nk]at ha;subst ha;refine⟨(),?_,trivial⟩;show cs.drop o=[];have:(Ty.st []).size=0:=rfl;rw[this]at hl;exact List.drop_eq_nil_of_le (by omega)
 |f::fs,l,i,o,ha,ho,hp,hl,hx,hro=>by
  simp only[ig]at ha;split at ha
  ·rename_i ty hty;split at ha
   ·rename_i tys KG;obtain rfl:=MK ha;simp only[qQ,ML]at ho;obtain⟨ho1,ho2⟩:=ho;have ho1:=MO ho1;obtain⟨r,fuel,h1,h2,hb1,hb2⟩:=hx 0 f rfl;have hsz:P.cellsOf f.type=ty.size:=b_ hty;rw[hsz,ho1]at h2;have JK:=hro r (Nw h1);cases tys with
    |nil=>
     have hp1:ty.pos=true:=hp;obtain⟨x,k1,k2⟩:=rec hty hp1 hb1 hb2 ⟨fuel,h2⟩ JK;refine⟨x,?_,k2⟩;have hl:cs.length=o+ty.size:=hl;rw[List.take_of_length_le (by rw[List.length_drop];omega)]at k1;exact k1
    |cons b tys=>
     have hp':(ty.pos&&(Ty.st (b::tys)).pos)=true:=hp;simp only[ML]at hp';have hl:cs.length=o+(ty.size+(Ty.st (b::tys)).size):=hl;obtain⟨x,k1,k2⟩:=rec hty hp'.1 hb1 hb2 ⟨fuel,h2⟩ JK;obtain⟨y,k3,k4⟩:=u_ (cs:=cs) (xs:=xs) rec (i:=i+1) (o:=o+ty.size) KG ho2 hp'.2 (by omega) (fun j f' hf=>by
      obtain⟨r,fuel,q1,q2⟩:=hx (j+1) f' (by simpa using hf);exact⟨r,fuel,by rw[<-q1];congr 1;omega,q2⟩) hro
     exact⟨(x,y),⟨(cs.drop o).take ty.size,cs.drop (o+ty.size),by rw[<-List.drop_drop,Og],k1,k3⟩,k2,k4⟩
   ·simp at ha
  ·simp at ha
theorem xE{t:Ty}{z:Nat}{get:Nat->List Value}(n:Nat)(hz: ∀i,i<n->(get i).length=z)(h: ∀i,i<n-> ∃x:t.den,Rep ⟨W,RO,M⟩ t x (get i)/\t.ok x):
  ∃(xs:List t.den) (ds:List Value),xs.length=n/\Cat (Rep ⟨W,RO,M⟩ t) xs ds/\(∀y∈xs,t.ok y)/\ds.length=n*z/\ ∀i j,i<n->j<z->ds[i*z+j]?=(get i)[j]?:=by
 induction n with
 |zero=>exact⟨[],[],rfl,rfl,fun y hy=>by simp at hy,by simp,fun i j hi=>by omega⟩
 |succ n ih=>
  obtain⟨xs,ds,h1,h2,h3,h4,h5⟩:=ih (fun i hi=>hz i (by omega)) (fun i hi=>h i (by omega));obtain⟨x,k1,k2⟩:=h n (by omega);have hzn:=hz n (by omega);refine⟨xs++[x],ds++get n,by simp[h1],h2.append ⟨get n,[],by simp,k1,rfl⟩,fun y hy=> ?_,by rw[Nc,h4,hzn,Nat.add_mul];omega,fun i j hi hj=> ?_⟩
  ·rcases MN.1 hy with q|q
   ·exact h3 y q
   ·simp at q;subst q;exact k2
  ·by_cases hin:i<n
   ·have:i*z+j<ds.length:=by
     rw[h4];have:i*z+z<=n*z:=bC hin;omega
    rw[List.getElem?_append_left this];exact h5 i j hin hj
   ·obtain rfl:i=n:=by omega
    rw[List.getElem?_append_right (by omega),h4];congr 1;omega
theorem mem_row{a:Addr}{n j:Nat}(h:j<n):NR a.block (a.off+j)∈Pg a n:=by
 unfold Pg;exact NM.2 ⟨j,OZ.2 h,rfl⟩
theorem yI{a:Addr}(i j:Nat)(h:a.spot=none):(a.add i).add j=⟨a.block,a.off+(i+j),none⟩:=by
 obtain⟨b,o,s⟩:=a;simp only at h;subst h;unfold Addr.add;by_cases hi:i=0<;>by_cases hj:j=0<;>simp[hi,hj]
 omega
theorem qp: ∀(m:Nat) {t:TypeId} {ty:Ty} {cs:List Value} {r:DataW H×List MemPlace},bU P m t=some ty->ty.pos=true->fJ P m t=true->(∀n∈r.1.weights P t,n<=reachBytes)->(∃fuel,Oj enc P W 0 spare held fuel t cs=some r)->(∀b j,NR b j∈r.2->RO b j)->
  ∃x:ty.den,Rep ⟨W,RO,M⟩ ty x cs/\ty.ok x
 |0,t,ty,cs,r,ht,_,_,_,_,_=>by simp[bU]at ht
 |m+1,t,ty,cs,r,ht,hp,hbb,hwt,⟨fuel,hr⟩,hro=>by
  have hsz:=b_ ht;unfold bU at ht;split at ht
  ·rename_i hu;obtain rfl:=aN ht;obtain⟨b,rfl,rfl⟩:=DataW.trod_bool hu hr;exact⟨b,rfl,trivial⟩
  ·rename_i k hu;obtain rfl:=aN ht;obtain⟨n,rfl,rfl,hw⟩:=DataW.trod_int hu hr;have:=wW hw;refine⟨n,⟨rfl,this⟩,?_⟩;show Gt k n;simpa[ak,Gt]using this
  ·rename_i hu;obtain rfl:=aN ht;obtain⟨s,rfl,rfl,hw⟩:=DataW.trod_string hu hr;refine⟨bytesOf s,⟨s,rfl,rfl⟩,?_,FI s⟩;have:=hwt s.data.toList.length (by simp[NQ]);rw[reach_eq]at this;unfold bytesOf;simpa using this
  ·rename_i e hu;split at ht
   ·rename_i ty' hty;obtain rfl:=aN ht;have hp:(Py 0 ty'.size&&ty'.pos)=true:=hp;simp only[ML,N9]at hp;have hze:P.cellsOf e=ty'.size:=b_ hty;rcases DataW.trod_slice hu hr with⟨rfl,rfl⟩|⟨a,len,cap,elems,rest,n,rfl,rfl,rfl,hb,hl,hm,hlen,hel,_,_⟩
    ·exact⟨[],⟨none,0,0,rfl,rfl,by omega,.inl ⟨rfl,fun _=>rfl⟩⟩,OV _,fun y hy=>nomatch hy⟩
    ·have hbe:0<P.bytesOf e/\fJ P m e=true:=by
      unfold fJ at hbb;rw[hu]at hbb;simpa[N9]using hbb
     have hwe: ∀yi∈elems,∀n∈yi.1.weights P e,n<=reachBytes:=fun yi hy n hn=>hwt n (by
      simp only[NQ,hu,Ns,MN];exact .inr (.inl (mJ (Oo hy) n hn)))
     have LM:len<=140737488351232:=by
      have:=hwt (((elems.map (·.1)).length+(rest.map (·.1)).length)*P.bytesOf e) (by simp[NQ,hu]);rw[reach_eq]at this;have h2:((elems.map (·.1)).length+(rest.map (·.1)).length)*1<=((elems.map (·.1)).length+(rest.map (·.1)).length)*P.bytesOf e:=Nat.mul_le_mul_left _ hbe.1;simp only[NH]at this h2;omega
     have hcell: ∀i,i<len-> ∃ci yi,W.cells? 0 (a.add (i*ty'.size)) ty'.size=some ci/\Oj enc P W 0 spare held n e ci=some yi/\elems[i]?=some yi:=by
      intro i hi;have h1:=hel i hi;rw[hze,MX (by omega),NI]at h1;obtain⟨ci,q1,q2⟩:=h1;exact⟨ci,_,q1,q2,MX (by omega)⟩
     let get:Nat->List Value:=fun i=>(W.cells? 0 (a.add (i*ty'.size)) ty'.size).getD []
     have hget: ∀i,i<len-> ∃ci yi,get i=ci/\W.cells? 0 (a.add (i*ty'.size)) ty'.size=some ci/\Oj enc P W 0 spare held n e ci=some yi/\yi∈elems:=by
      intro i hi;obtain⟨ci,yi,q1,q2,q3⟩:=hcell i hi;exact⟨ci,yi,by simp[get,q1],q1,q2,Nw q3⟩
     obtain⟨xs,ds,k1,k2,k3,k4,k5⟩:=xE (t:=ty') (z:=ty'.size) (get:=get) (W:=W) (RO:=RO) (M:=M) len
      (fun i hi=>by obtain⟨ci,yi,q1,q2,_⟩:=hget i hi;rw[q1];exact(NJ q2).2.1)
      (fun i hi=>by
       obtain⟨ci,yi,q1,q2,q3,q4⟩:=hget i hi;rw[q1];exact qp m hty hp.2 hbe.2 (hwe _ q4) ⟨n,q3⟩ fun b j hbj=>hro b j (MN.2 (.inr (Nh.2 ⟨yi,MN.2 (.inl q4),hbj⟩))))
     refine⟨xs,⟨some a,len,cap,rfl,k1.symm,hl,?_⟩,by rw[k1];exact LM,k3⟩;by_cases h0:len=0
     ·left;exact⟨MV.1 (by rw[k1,h0]),fun q=>by simp at q⟩
     ·right
      have hspot:a.spot=none:=by
       obtain⟨ci,yi,_,q2,_⟩:=hget 0 (by omega);have h1:=(NJ q2).2.2 0 (by omega);have h2:=(NJ q2).2.1;have:(a.add (0*ty'.size)).add 0=a:=by simp[Addr.add]
       rw[this,MX (by omega)]at h1;unfold Px at h1;split at h1
       ·split at h1
        ·simp at h1
        ·rename_i hq;simpa using hq
       ·simp at h1
      refine⟨a.block,a.off,ds,by rw[<-hspot],k2,fun j v hj=> ?_⟩;have hlt:=(NY.1 hj).1;rw[k4]at hlt;have hdm:=OQ j ty'.size;have hml:=Nat.mod_lt j hp.1;have hdl:j/ty'.size<len:=by rw[Oh hp.1];exact hlt
      have h5:=k5 (j/ty'.size) (j%ty'.size) hdl hml;have hj':j/ty'.size*ty'.size+j%ty'.size=j:=by rw[Pj];exact hdm
      rw[hj',hj]at h5;obtain⟨ci,yi,q1,q2,_⟩:=hget (j/ty'.size) hdl;rw[q1]at h5;have h6:=(NJ q2).2.2 (j%ty'.size) hml;rw[yI _ _ hspot,hj',<-h5]at h6;refine⟨h6,hro _ _ (MN.2 (.inl (mem_row ?_)))⟩;rw[hlen,hze];have:len*ty'.size<=(len+rest.length)*ty'.size:=Nat.mul_le_mul_right _ (by omega);omega
   ·simp at ht
  ·rename_i k e hu;split at ht
   ·rename_i ty' hty;obtain rfl:=aN ht;have hp:ty'.pos=true:=hp;have hze:P.cellsOf e=ty'.size:=b_ hty;obtain⟨xs,n,rfl,rfl,h1,h2,h3⟩:=DataW.trod_array hu hr;have hbe:fJ P m e=true:=by
     unfold fJ at hbb;rw[hu]at hbb;exact hbb
    have hwe: ∀yi∈xs,∀n∈yi.1.weights P e,n<=reachBytes:=fun yi hy n hn=>hwt n (by
     simp only[NQ,hu];exact mJ (Oo hy) n hn)
    rw[hsz]at h1;have h1:cs.length=k*ty'.size:=h1;obtain⟨ys,ds,k1,k2,k3,k4,k5⟩:=xE (t:=ty') (z:=ty'.size) (get:=fun i=>(cs.drop (i*ty'.size)).take ty'.size) (W:=W) (RO:=RO) (M:=M) k
     (fun i hi=>by
      have:i*ty'.size+ty'.size<=k*ty'.size:=bC hi;simp;omega)
     (fun i hi=>by
      have h4:=h3 i hi;rw[hze,MX (by omega)]at h4;exact qp m hty hp hbe (hwe _ (OC _)) ⟨n,h4⟩ fun b j hbj=>hro b j (Nh.2 ⟨_,OC _,hbj⟩))
    have:ds=cs:=by
     by_cases hz0:ty'.size=0
     ·rw[hz0,Nat.mul_zero]at k4 h1;rw[MV.1 k4,MV.1 h1]
     ·refine List.ext_getElem? fun j=> ?_
      by_cases hj:j<k*ty'.size
      ·have hpos:0<ty'.size:=by omega
       have hml:=Nat.mod_lt j hpos;have hdl:j/ty'.size<k:=by rw[Oh hpos];exact hj
       have h5:=k5 (j/ty'.size) (j%ty'.size) hdl hml;have hj':j/ty'.size*ty'.size+j%ty'.size=j:=by rw[Pj];exact OQ j ty'.size
       rw[hj',Oq,if_pos hml,List.getElem?_drop,hj']at h5;exact h5
      ·rw[Oe (by omega),Oe (by omega)]
    subst this;exact⟨ys,⟨k1,k2⟩,k1,k3⟩
   ·simp at ht
  ·rename_i fs hu;split at ht
   ·rename_i l hl;simp only[cond_eq_ite]at ht;split at ht
    ·rename_i ho;obtain rfl:=aN ht;obtain⟨xs,n,rfl,rfl,h1,h2,h3⟩:=DataW.trod_struct hu hr;rw[hsz]at h1;obtain⟨x,k1,k2⟩:=u_ (cs:=cs) (xs:=xs) (m:=m) (fun ht hp hb hw hr hro=>qp m ht hp hb hw hr hro) (i:=0) (o:=0) hl ho hp (by omega) (fun j f hf=>by
      rw[MS]at hf;have hj:=(Nl.1 hf).1;have h4:=h3 j f hf;rw[MX (by omega)]at h4;refine⟨_,n,by rw[Nat.zero_add];exact MX (by omega),h4,?_,fun q hq=>hwt q ?_⟩
      ·unfold fJ at hbb;rw[hu]at hbb;exact MP.1 hbb f (Nw (by rw[MS];exact hf))
      ·simp only[NQ,hu];exact DataW.weights_mem_each (j:=j) (by rw[Ox,MS,hf];rfl) (by rw[Ox,MX (by omega)];rfl) q hq)
      (fun r hr b j hbj=>hro b j (Nh.2 ⟨r,hr,hbj⟩))
     exact⟨x,by simpa using k1,k2⟩
    ·simp at ht
   ·simp at ht
  ·simp at ht
end
end Go.AM
end
section
namespace Go.AM
variable [Tabs]
open Go.RowKit
def Sh.ok(s:Sh)(x:s.ty.den):Prop:=s.ty.ok x
def oks:(l:List Sh)->wM l->Prop
 |[],_=>True
 |s::r,x=>s.ok x.1/\oks r x.2
def Ij(P:Program)(t:TypeId):Option Sh:=
 match bU P ug t with
 |some ty=>(match P.underlying t with
  |some (.struct _)=>some (.ag ty)
  |_=>some (.one ty))
 |none=>none
def yE(P:Program):List TypeId->Option (List Sh)
 |[]=>some []
 |t::r=>match Ij P t,yE P r with
  |some s,some l=>some (s::l)
  |_,_=>none
theorem Kr{P:Program}: ∀ {n:Nat} {t:TypeId} {ty:Ty},bU P n t=some ty->(∀fs,P.underlying t≠some (.struct fs))-> ∀x:ty.den,∃v,inj ty x=[v]
 |0,t,ty,h,_,x=>by simp[bU]at h
 |n+1,t,ty,h,hn,x=>by
  unfold bU at h;split at h
  ·obtain rfl:=aN h;exact⟨_,rfl⟩
  ·obtain rfl:=aN h;exact⟨_,rfl⟩
  ·obtain rfl:=aN h;exact⟨_,rfl⟩
  ·split at h
   ·obtain rfl:=aN h;exact⟨_,rfl⟩
   ·simp at h
  ·split at h
   ·obtain rfl:=aN h;exact⟨_,rfl⟩
   ·simp at h
  ·rename_i fs hu;exact(hn _ hu).elim
  ·simp at h
section
variable {H:Type} {enc:TypeId×Value->H} {P:Program} {W:World} {spare:Nat->Bool} {held:Bool} {RO:Nat->Nat->Prop}
theorem y7{r:Reach}{base:Nat}{t:TypeId}{d:TypeDesc}{v:Value}(hu:P.underlying t=some d)(h1: ∀fs,d≠ .struct fs)(h2: ∀n e,d≠ .array n e)(h:Nu P W r base t v):v.cells.toList=[v]:=by
 cases v with
 |agg cs=>
  exfalso
  unfold Nu at h;rw[hu]at h;cases d<;>first|exact h1 _ rfl|exact h2 _ _ rfl|skip
  all_goals (simp only at h;unfold Cell.okWide at h;rw[hu]at h;simp only at h;first|exact h|(unfold Cell.ok at h;rw[hu]at h;simp at h))
 |_=>rfl
theorem IE{C:Cx}{r:Reach}{base:Nat}{t:TypeId}{s:Sh}{x:s.ty.den}{v:Value}(hs:Ij P t=some s)(hok:Nu P W r base t v)(hr:Rep C s.ty x v.cells.toList):VR C (s.enc x) v:=by
 unfold Ij at hs;split at hs
 ·rename_i ty hty;split at hs
  ·rename_i fs hu;obtain rfl:=MK hs;unfold Nu at hok;rw[hu]at hok;obtain⟨cs,rfl,_,_⟩:=hok;have:=VR.agg (C:=C) (PR.lH (t:=ty) (x:=x) hr);show VR C (.agg (inj ty x)) (.agg cs);exact this
  ·rename_i hn;obtain rfl:=MK hs;show VR C (uF (inj ty x)) v;have hty':=hty;unfold ug bU at hty;split at hty
   ·rename_i hu;obtain rfl:=aN hty;rw[y7 hu (by simp) (by simp) hok]at hr;have hr:[v]=[.bool x]:=hr;obtain rfl:=(NS hr).1;exact .bool
   ·rename_i k hu;obtain rfl:=aN hty;rw[y7 hu (by simp) (by simp) hok]at hr;obtain⟨hr,hb⟩:=hr;obtain rfl:=(NS hr).1;exact .int hb
   ·rename_i hu;obtain rfl:=aN hty;rw[y7 hu (by simp) (by simp) hok]at hr;obtain⟨z,hr,hb⟩:=hr;obtain rfl:=(NS hr).1;exact .str hb
   ·rename_i e hu;split at hty
    ·obtain rfl:=aN hty;rw[y7 hu (by simp) (by simp) hok]at hr;exact .lst hr
    ·simp at hty
   ·rename_i m e hu;split at hty
    ·obtain rfl:=aN hty;unfold Nu at hok;rw[hu]at hok;obtain⟨cs,rfl,_,_⟩:=hok;exact .arr hr
    ·simp at hty
   ·rename_i fs hu;exact(hn _ hu).elim
   ·simp at hty
 ·simp at hs
theorem Dv{C:Cx}{r:Reach}{base:Nat}(hC:C.w=W): ∀ {ts:List TypeId} {l:List Sh} {vs:List Value} {ds:List (DataW H)} {ps:List MemPlace},yE P ts=some l->(l.all fun s=>s.ty.pos)=true->(ts.all fun t=>fJ P ug t)=true->(∀n∈Nb P ts ds,n<=reachBytes)->
  Nz enc P W 0 spare held ts vs ds ps->(∀(j:Nat) t v,ts[j]?=some t->vs[j]?=some v->Nu P W r base t v)->(∀b j,NR b j∈ps->C.RO b j)-> ∃x:wM l,bg C (encs l x) vs/\oks l x
 |[],l,vs,ds,ps,hs,hp,hbb,hwt,hA,hok,hro=>by
  simp only[yE,Nk]at hs;subst hs;cases vs with
  |nil=>exact⟨(),.nil,trivial⟩
  |cons=>cases ds<;>exact hA.elim
 |t::ts,l,vs,ds,ps,hs,hp,hbb,hwt,hA,hok,hro=>by
  simp only[yE]at hs;split at hs
  ·rename_i s l' h1 h2;obtain rfl:=MK hs;obtain⟨v,vs',d,ds',p,q,rfl,rfl,rfl,hd,hrest⟩:=Nq hA;simp only[Nr,ML]at hp hbb;simp only[Nb,MN]at hwt;obtain⟨y,k1,k2⟩:=Dv hC h2 hp.2 hbb.2 (fun n hn=>hwt n (.inr hn)) hrest (fun j t v h h'=>hok (j+1) t v (by simpa using h) (by simpa using h')) (fun b j hb=>hro b j (MN.2 (.inr hb)));have hok0:=hok 0 t v rfl rfl;have hty:bU P ug t=some s.ty:=by
    unfold Ij at h1;split at h1
    ·rename_i ty hty;split at h1
     ·obtain rfl:=MK h1;exact hty
     ·obtain rfl:=MK h1;exact hty
    ·simp at h1
   obtain⟨fuel,hd⟩:=hd;subst hC;obtain⟨x,g1,g2⟩:=qp (M:=C.M) (RO:=C.RO) ug hty hp.1 hbb.1 (fun n hn=>hwt n (.inl hn)) ⟨fuel,hd⟩ (fun b j hb=>hro b j (MN.2 (.inl hb)));exact⟨(x,y),.cons (IE h1 hok0 g1) k1,g2,k2⟩
  ·simp at hs
theorem nO(hl:laidOutB P=true){W W':World}(hb:Below W.heap.size W W'): ∀ {ts:List TypeId} {vs:List Value} {ds:List (DataW H)} {ps:List MemPlace},(ts.all fun t=>P.readableRec t&&decide (t<P.types.size))=true->
  Nz enc P W 0 (fun _=>true) true ts vs ds ps->Nz enc P W' 0 (fun b=>decide (b<W.heap.size)) true ts vs ds ps
 |[],[],[],_,_,h=>h
 |[],[],_::_,_,_,h=>h.elim
 |[],_::_,_,_,_,h=>h.elim
 |t::ts,[],_,_,_,h=>h.elim
 |t::ts,_::_,[],_,_,h=>h.elim
 |t::ts,v::vs,d::ds,ps,hp,⟨p,q,h1,h2,h3⟩=>by
  simp only[Nr,ML,decide_eq_true_eq]at hp;have hlt: ∀x∈p,x.block<W.heap.size:=by
   obtain⟨m,hm⟩:=h1;exact fun x hx=>O7 m _ _ _ hm x hx
  exact⟨p,q,Below.trod hl hp.1.1 hp.1.2 h1 hb hlt,nO hl hb (by simpa using hp.2) h2,h3⟩
end
abbrev KN(W:World):Cx:=⟨W,fun c _=>c<W.heap.size,fun _=>none⟩
theorem cZ.none{C:Cx}(h: ∀g,Tabs.tab g=none):cZ C:=fun g t x e=>by rw[h]at e;cases e
theorem vM{H:Type}{enc:TypeId×Value->H}{P:Program}(hl:laidOutB P=true){fn:Func}{s:ChangeSpec}{f:FuncId}{l:List Sh}{F:wM l->Option Bool}(K:Callee.OK P ⟨f,l,.one (.sh (.one .bool)),F⟩)
  (hsh:yE P fn.params.toList=some l) (hpos:(l.all fun s=>s.ty.pos)=true) (hpar:(fn.params.toList.all fun t=>P.readableRec t&&decide (t<P.types.size)&&fJ P ug t)=true) {rt:TypeId} (hrt:fn.resultTypes= #[rt]) (hrb:P.underlying rt=some .bool)
  (hvars:s.vars=[]) (hs: ∀ds:List (DataW H),ds.length=fn.params.toList.length->s.fn H ds= {results:=[.lit (.bool true)],args:=ds}) (hF: ∀x,oks l x->F x=some true):
  ∀(W:World) (base:Nat) (args:Array Value) (ds gs:List (DataW H)) (before:List MemPlace),J7 (KN W)->(∀(j:Nat) t v,fn.params[j]?=some t->args[j]?=some v->Nu P W .any base t v)->
   Po enc P fn.params.toList s.vars false W args.toList ds gs before->(Nb P (fn.params.toList++s.plain.varTypes P) (ds++gs)).all (· <=reachBytes)=true->Calls P f args W fun e W'=> ∃v,e= .returned v/\s.post enc P fn false true false false W args v W':=by
 intro W base args ds gs before hT hval hW hwt;have JH:(fn.params.toList.all fun t=>P.readableRec t&&decide (t<P.types.size))=true:=MP.2 fun t ht=>by have:=MP.1 hpar t ht;simp only[ML]at this ⊢;exact this.1
 have JI:(fn.params.toList.all fun t=>fJ P ug t)=true:=MP.2 fun t ht=>by have:=MP.1 hpar t ht;simp only[ML]at this;exact this.2
 have hW':=hW;rw[hvars]at hW;obtain⟨p,q,hA,hV,rfl,hfz,hnd⟩:=hW;obtain⟨rfl,rfl⟩:=OX hV
 let RO:Nat->Nat->Prop:=fun c _=>c<W.heap.size
 have hlt: ∀x∈p,x.block<W.heap.size:=by
  have key: ∀ {ts:List TypeId} {vs:List Value} {ds:List (DataW H)} {ps:List MemPlace},Nz enc P W 0 (fun _=>true) true ts vs ds ps-> ∀x∈ps,x.block<W.heap.size:=by
   intro ts
   induction ts with
   |nil=>
    intro vs ds ps h x hx;cases vs<;>cases ds<;>first|exact h.elim|skip
    have h:ps=[]:=h;subst h;simp at hx
   |cons t ts ih=>
    intro vs ds ps h x hx;obtain⟨v,vs',d,ds',p,q,rfl,rfl,rfl,⟨m,hm⟩,hrest⟩:=Nq h;rcases MN.1 hx with hx|hx
    ·exact O7 m _ _ _ hm x hx
    ·exact ih hrest x hx
  exact key hA
 have hlen0:ds.length=fn.params.toList.length:=by
  have key: ∀ {ts:List TypeId} {vs:List Value} {ds:List (DataW H)} {ps:List MemPlace},Nz enc P W 0 (fun _=>true) true ts vs ds ps->ds.length=ts.length:=by
   intro ts
   induction ts with
   |nil=>
    intro vs ds ps h;cases vs<;>cases ds<;>first|exact h.elim|rfl
   |cons t ts ih=>
    intro vs ds ps h;obtain⟨v,vs',d,ds',p,q,rfl,rfl,rfl,_,hrest⟩:=Nq h;simp[ih hrest]
  exact key hA
 have KH: ∀n∈Nb P fn.params.toList ds,n<=reachBytes:=fun n hn=>by
  have key: ∀ {ts us:List TypeId} {xs ys:List (DataW H)},xs.length=ts.length-> ∀n∈Nb P ts xs,n∈Nb P (ts++us) (xs++ys):=by
   intro ts
   induction ts with
   |nil=>intro us xs ys hl n hn;cases xs<;>simp[Nb]at hn
   |cons t ts ih=>
    intro us xs ys hl n hn;cases xs with
    |nil=>simp at hl
    |cons x xs=>
     simp only[Oa,Nb,MN]at hn ⊢
     rcases hn with hn|hn
     ·exact .inl hn
     ·exact .inr (ih (by simpa using hl) n hn)
  have:=MP.1 hwt n (key hlen0 n hn);simpa using this
 obtain⟨x,h1,h2⟩:=Dv (C:=⟨W,RO,fun _=>none⟩) rfl hsh hpos JI KH hA (fun j t v h h'=>hval j t v (by rw[<-MS];exact h) (by rw[<-MS];exact h')) (fun b j hb=>hlt (.cell b j) hb);have hlen:ds.length=fn.params.toList.length:=by
  have key: ∀ {ts:List TypeId} {vs:List Value} {ds:List (DataW H)} {ps:List MemPlace},Nz enc P W 0 (fun _=>true) true ts vs ds ps->ds.length=ts.length:=by
   intro ts
   induction ts with
   |nil=>
    intro vs ds ps h;cases vs<;>cases ds<;>first|exact h.elim|rfl
   |cons t ts ih=>
    intro vs ds ps h;obtain⟨v,vs',d,ds',p,q,rfl,rfl,rfl,_,hrest⟩:=Nq h;simp[ih hrest]
  exact key hA
 have IY:=Callee.Dl (W:=W) (RO:=RO) K (fun c j hc=>hc) hT h1 (hF x h2);refine IY.mono fun e W' ⟨he,hb⟩=> ?_
 subst he;refine⟨_,rfl,ds,[],_,[],p,[],hW',?_,?_,?_,hb.frame _,fun h=>by cases h⟩
 ·rw[NG,hs ds hlen,hrt];exact O6 (shut_bool hrb true)
 ·rw[NG,hs ds hlen];exact nO hl hb JH hA
 ·rw[hvars,NG,hs ds hlen];rfl
theorem H6{H:Type}{enc:TypeId×Value->H}{P:Program}(hl:laidOutB P=true){fn:Func}{s:ChangeSpec}{f:FuncId}{l:List Sh}{F:wM l->Option Bool}(K:Callee.OK P ⟨f,l,.one (.sh (.one .bool)),F⟩)
  (hsh:yE P fn.params.toList=some l) (hpos:(l.all fun s=>s.ty.pos)=true) (hpar:(fn.params.toList.all fun t=>P.readableRec t&&decide (t<P.types.size)&&fJ P ug t)=true) {rt:TypeId} (hrt:fn.resultTypes= #[rt]) (hrb:P.underlying rt=some .bool)
  (hvars:s.vars=[]) (hs: ∀ds:List (DataW H),ds.length=fn.params.toList.length->s.fn H ds= {results:=[.lit (.bool true)],args:=ds}) (hF: ∀x,oks l x->F x=some true) (hno: ∀g,Tabs.tab g=none:=by intro;rfl) (hgd: ∀w,Tabs.good w:=by intro;trivial):
  ∀(W:World) (base:Nat) (args:Array Value) (ds gs:List (DataW H)) (before:List MemPlace),(∀(j:Nat) t v,fn.params[j]?=some t->args[j]?=some v->Nu P W .any base t v)->
   Po enc P fn.params.toList s.vars false W args.toList ds gs before->(Nb P (fn.params.toList++s.plain.varTypes P) (ds++gs)).all (· <=reachBytes)=true->Calls P f args W fun e W'=> ∃v,e= .returned v/\s.post enc P fn false true false false W args v W':=
 fun W base args ds gs before hval hW hwt=>vM hl K hsh hpos hpar hrt hrb hvars hs hF W base args ds gs before ⟨cZ.none hno,hgd _⟩ hval hW hwt
end Go.AM
end
section
namespace Go.AM
variable [Tabs]
open Go.RowKit
def Rk.read(k:Rk)(v:AV):Option k.den:=
 match k with
 | .sh s=>s.dec v
 | .own _=>none
 | .clo _ _=>none
 | .wZ=>yh v
def bY.read:(l:List Rk)->List AV->Option (bY l)
 |[],vs=>match vs with
  |[]=>some ()
  |_::_=>none
 |k::r,vs=>match vs with
  |[]=>none
  |v::vs=>match k.read v with
   |some x=>(match bY.read r vs with|some y=>some (x,y)|none=>none)
   |none=>none
def qA.read(r:qA)(v:AV):Option r.den:=
 match r with
 | .one k=>k.read v
 | .gG l=>(match v with
  | .gG vs=>bY.read l vs
  |_=>none)
structure Proc where
 f:FuncId
 t:Ty
 args:List Sh
 cb:List FuncId
 res:qA
 F:List t.den->wM args->Option (res.den×List t.den)
def DX{α γ:Type}(xs:List α)(o:Option (γ×List α)):Option (γ×List α):=
 match o with
 |some g=>bif M_ g.2.length xs.length then some g else none
 |none=>none
def DK(l:List FuncId):List AV:=l.map fun g=> .fn (.func g) [] []
def FQ:List FuncId->List AV->Bool
 |[],vs=>vs.isEmpty
 |g::r,vs=>match vs with
  | .fn (.func g') [] []::vs=>M_ g g'&&FQ r vs
  |_=>false
def Proc.argv(k:Proc)(x:wM k.args):List AV:= .own aX 0 k.t::(encs k.args x++DK k.cb)
def Proc.start(k:Proc)(xs:List k.t.den)(x:wM k.args):St:=
 ⟨[{fn:=k.f,env:=(Oy (k.argv x).length).zip (k.argv x),aI:=[],items:=[.code []]}],[(aX,.cells 0 false [.row k.t xs])],1000001⟩
def Proc.fin(k:Proc)(v:AV)(h:Hp):Option (k.res.den×List k.t.den):=
 match k.res.read v with
 |some r=>(match h.row aX 0 with
  |some (true,u)=>(match rD k.t u with|some xs=>some (r,xs)|none=>none)
  |_=>none)
 |none=>none
def Proc.lI(k:Proc)(vs:List AV)(h:Hp)(nx:Nat):Option He:=
 match vs with
 | .own b v t0::r=>(match h.row b v with
  |some (true,u)=>bif M_ t0.size k.t.size&&FQ k.cb (r.drop k.args.length)then
    (match rD k.t u with
    |some xs=>(match decs k.args (r.take k.args.length)with
     |some x=>some ⟨k.res.den×List k.t.den,(k.res.zero,[]),DX (α:=k.t.den) xs (k.F xs x),
       fun g=>(k.res.enc nx g.1,[(b,.cells v false [.row k.t g.2])])⟩
     |none=>none)
    |none=>none)
   else none
  |_=>none)
 |_=>none
def procs:List Proc->iL
 |[],_,_,_,_=>none
 |k::r,f,vs,h,nx=>bif M_ k.f f then k.lI vs h nx else procs r f vs h nx
def both(a b:iL):iL:=fun f vs h nx=>match a f vs h nx with|some o=>some o|none=>b f vs h nx
section
variable {P:Program} {S0:Base} {w0:World} {C C':Cx} {h h':Hp}
theorem xM: ∀ {l:List FuncId} {vs:List AV},FQ l vs=true->vs=DK l
 |[],vs,h=>by
  simp only[FQ,List.isEmpty_iff]at h;exact h
 |g::r,vs,h=>by
  unfold FQ at h;split at h
  ·simp only[ML]at h;rw[MO h.1,xM h.2];rfl
  ·simp at h
theorem FT: ∀ {l:List FuncId} {us:List Value},bg C (DK l) us->bg C' (DK l) us
 |[],_,.nil=> .nil
 |g::r,_,.cons h k=>by
  refine .cons ?_ (FT k);cases h with
  |fn h1 h2 h3=>
   cases h2;cases h3;exact .fn h1 .nil .nil
theorem bg.app: ∀ {a b:List AV} {us vs:List Value},bg C a us->bg C b vs->bg C (a++b) (us++vs)
 |[],_,_,_,.nil,k=>k
 |_::_,_,_,_,.cons h1 h2,k=> .cons h1 (bg.app h2 k)
theorem bg.parts: ∀ {n:Nat} {a:List AV} {us:List Value},bg C a us->bg C (a.take n) (us.take n)/\bg C (a.drop n) (us.drop n)
 |0,a,us,h=>⟨by simp only[List.take_zero];exact .nil,by simpa using h⟩
 |n+1,[],_,.nil=>⟨.nil,.nil⟩
 |n+1,_::_,_,.cons h1 h2=>⟨.cons h1 (bg.parts h2).1,(bg.parts h2).2⟩
theorem Rk.kE{k:Rk}{nx:Nat}{v:AV}{val:Value}{x:k.den}(hf:k.flat=true)(e:k.read v=some x)(hv:VR C v val):VR C' (k.enc nx x) val:=by
 cases k with
 |sh s=>
  have e:s.dec v=some x:=e;exact Sh.flat (s:=s) hf (Sh.BN (s:=s) (ni.self C) e hv)
 |own t=>simp[Rk.read]at e
 |clo f l=>simp[Rk.read]at e
 |wZ=>
  have e:yh v=some x:=e;unfold yh at e;split at e
  ·exact pO hv
  ·simp at e
theorem bY.kE{nx:Nat}: ∀ {l:List Rk} {vs:List AV} {us:List Value} {x:bY l},l.all Rk.flat=true->bY.read l vs=some x->bg C vs us->bg C' (bY.enc nx l x) us
 |[],vs,us,x,hf,e,hv=>by
  cases hv with
  |nil=>exact .nil
  |cons=>simp[bY.read]at e
 |k::r,vs,us,x,hf,e,hv=>by
  cases hv with
  |nil=>simp[bY.read]at e
  |cons h1 h2=>
   simp only[Nr,ML]at hf;simp only[bY.read]at e;split at e
   ·rename_i y hy;split at e
    ·rename_i z hz;obtain rfl:=MK e;exact .cons (Rk.kE hf.1 hy h1) (bY.kE hf.2 hz h2)
    ·simp at e
   ·simp at e
theorem qA.kE{r:qA}{nx:Nat}{v:AV}{val:Value}{x:r.den}(hf:r.flat=true)(e:r.read v=some x)(hv:VR C v val):VR C' (r.enc nx x) val:=by
 cases r with
 |one k=>exact Rk.kE (k:=k) hf e hv
 |gG l=>
  cases hv with
  | @gG vs cs hv=>
   have e:bY.read l vs=some x:=e;exact .gG (bY.kE hf e hv)
  |_=>
   have e:(none:Option (bY l))=some x:=e;simp at e
end
end Go.AM
end
section
namespace Go.AM
variable [Tabs]
open Go.RowKit
section
variable {P:Program}
def Proc.OK(P:Program)(k:Proc):Prop:=
 ∀(S0:Base) (w0:World) (args:List AV) (h':Hp) (nx:Nat) (o:He) (g:o.γ),k.lI args h' nx=some o->o.x=some g-> ∀(cs:List Frame) (C:Cx) (h:Hp),Inv P S0 w0 C h->bP h' h->C.M nx=none->
  ∀vs:List Value,bg C args vs->Does P S0 w0 cs C h nx ((callFunc k.f vs.toArray).run P C.w) (o.enc g)
theorem A_{S0:Base}{w0:World}: ∀ {ks:List Proc},(∀k∈ks,k.OK P)->bW P S0 w0 (procs ks)
 |[],_=>fun f args h' nx o g e=>by simp[procs]at e
 |k::ks,K=>fun f args h' nx o g e hg cs C h I hs hM vs hv=>by
  simp only[procs,cond_eq_ite]at e;split at e
  ·rename_i hf;have:=MO hf;subst this;exact K k (.head _) S0 w0 args h' nx o g e hg cs C h I hs hM vs hv
  ·exact A_ (fun k hk=>K k (.tail _ hk)) f args h' nx o g e hg cs C h I hs hM vs hv
theorem both_ok{S0:Base}{w0:World}{a b:iL}(ha:bW P S0 w0 a)(hb:bW P S0 w0 b):bW P S0 w0 (both a b):=
 fun f args h' nx o g e hg cs C h I hs hM vs hv=>by
  unfold both at e;split at e
  ·rename_i q;obtain rfl:=MK e;exact ha f args h' nx _ g q hg cs C h I hs hM vs hv
  ·exact hb f args h' nx o g e hg cs C h I hs hM vs hv
def F5{α β γ:Type}(B:(α->β->Option γ)->α->β->Option γ):Nat->α->β->Option γ
 |0=>fun _ _=>none
 |n+1=>B (F5 B n)
theorem Proc.Hy{f:FuncId}{t:Ty}{args:List Sh}{cb:List FuncId}{res:qA}{B:(List t.den->wM args->Option (res.den×List t.den))->List t.den->wM args->Option (res.den×List t.den)}
  (h: ∀S,Proc.OK P ⟨f,t,args,cb,res,S⟩->Proc.OK P ⟨f,t,args,cb,res,B S⟩): ∀n,Proc.OK P ⟨f,t,args,cb,res,F5 B n⟩
 |0=>by
  intro S0 w0 vs h' nx o g e hg;unfold Proc.lI at e;split at e
  ·split at e
   ·simp only[cond_eq_ite]at e;split at e
    ·split at e
     ·split at e
      ·obtain rfl:=MK e;simp[F5,DX]at hg
      ·simp at e
     ·simp at e
    ·simp at e
   ·simp at e
  ·simp at e
 |n+1=>h _ (Proc.Hy h n)
theorem Proc.of_run{k:Proc}{Φ:iL}{inl:FuncId->Bool}{aK:List Seg}{n:Nat}(hO: ∀S0 w0,bW P S0 w0 Φ)(hen:(aW P k.f []).isSome=true)(hfr:k.res.flat=true)(hfa:(k.args.all fun s=>s.ty.flat)=true)(hft:k.t.flat=true)
  (hs: ∀S0 w0 cs0,∀s∈aK,bM P S0 w0 cs0 k.f s) (hrun: ∀xs x r,k.F xs x=some r->dA P Φ inl [] aK k.fin n false (k.start xs x)=some r):k.OK P:=by
 intro S0 w0 args h' nx o g e hg cs C h I hsub hM vs hv;unfold Proc.lI at e;split at e
 ·rename_i b v t0 r;split at e
  ·rename_i u hr;simp only[cond_eq_ite]at e;split at e
   ·rename_i hz;simp only[ML]at hz;have hsz:=MO hz.1;split at e
    ·rename_i xs hxs;split at e
     ·rename_i x hx;obtain rfl:=MK e;obtain⟨hF,hlen⟩:k.F xs x=some g/\NK (α:=k.t.den) g.2=NK (α:=k.t.den) xs:=by
       have hg:DX (α:=k.t.den) xs (k.F xs x)=some g:=hg;unfold DX at hg;simp only[cond_eq_ite]at hg;split at hg
       ·rename_i g' hg';split at hg
        ·rename_i hl;obtain rfl:=MK hg;exact⟨hg',MO hl⟩
        ·simp at hg
       ·simp at hg
      obtain rfl:=iY hxs;obtain⟨ro,en,g1,g2,g3,g4,g5,g6,g7⟩:=I.rowLen hsub hr;have hro:ro=false:=by simpa using g2
      subst hro;cases hv with
      | @cons _ v0 _ us hv0 LV=>
       cases hv0 with
       |own k1 k2 k3 k4=>
        rw[g3]at k1;obtain rfl:=MK k1;have k3:=k3 g4.symm;have y5: ∀c j,en.cb=some c->C.RO c j->False:=fun c j hc hr=>by
         obtain⟨v',ps,q,_⟩:=I.w_ b en c j g3 hc hr;rw[g1]at q;cases q
        let e1:tC:= {en with ver:=0}
        let C1:Cx:=⟨C.w,C.RO,fun y=>if y=aX then some e1 else none⟩
        let B:Base:=⟨C.RO,fun c=>en.cb=some c⟩
        have hargs:bg C1 (k.argv x) (v0::us):=by
         refine .cons (.own (e:=e1) (by simp[C1]) (MW _) (fun _=> ?_) k4) ?_
         ·unfold dO at k3 ⊢
          show match en.cb with|some c=>_|none=>_
          cases hcb:en.cb with
          |none=>rw[hcb]at k3;exact k3
          |some c=>
           rw[hcb]at k3;obtain⟨cap,q1,q2,q3⟩:=k3;exact⟨cap,q1,q2,by rw[<-hsz];exact q3⟩
         ·have hp:=bg.parts (n:=k.args.length) LV;rw[<-Og k.args.length us];refine bg.app (xG hfa (DC (ni.self C) _ hx hp.1)) ?_;have:=hp.2;rw[xM hz.2]at this;exact FT this
        obtain⟨LD,wV⟩:=fM hen (k.argv x);have hg0:LD= {fn:=k.f,env:=(Oy (k.argv x).length).zip (k.argv x),aI:=[],items:=[.code []]}:=by
         unfold aW at wV;split at wV
         ·simp only[cond_eq_ite]at wV;split at wV
          ·split at wV
           ·exact(MK wV).symm
           ·simp at wV
          ·simp at wV
         ·simp at wV
        subst hg0;have S:jU P B C.w cs k.f C1 (k.start xs x) (N_ P k.f (v0::us).toArray .normal) []:=by
         have hM1: ∀y e',C1.M y=some e'->y=aX/\e'=e1:=fun y e' hy=>by
          by_cases hq:y=aX
          ·simp[C1,hq]at hy;exact⟨hq,hy.symm⟩
          ·simp[C1,hq]at hy
         refine⟨.cons (iU wV hargs).1 .nil,⟨⟨rfl,rfl,rfl,MW _,fun _ _ _=>rfl⟩,?_,?_,?_,?_,?_,?_,?_,⟨fun _=>none,fun b T e zs q=>(by
          have q:Hp.get [(aX,gI.cells 0 false [.row k.t xs])] b=some (.iZ T e zs):=q;rw[Hp.aB]at q;split at q
          ·cases MK q
          ·cases q),fun _ _ q=>(by cases q),fun _ _ _ _ q=>(by cases q),fun _ _ _ q=>(by cases q),fun _ _ _ q=>(by cases q)⟩,I.tabs.wid ⟨rfl,fun _ _ q=>q⟩,I.DN,fun g hg q=>(by
          rcases (I.loc b en g g3 q).1 with z|z
          ·exact I.good.2 g hg z
          ·have:=Tabs.lt _ I.good.1 g hg;omega)⟩,?_,⟨rfl,rfl,rfl⟩⟩
         ·intro y ob hy;have hy:(Hp.get [(aX,gI.cells 0 false [.row k.t xs])] y)=some ob:=hy;rw[Hp.aB]at hy;split at hy
          ·rename_i hq;obtain rfl:=MK hy;refine⟨e1,by simp[C1,<-hq],rfl,g5,fun t' xs' hm=> ?_,?_⟩
           ·simp only[Na]at hm;cases hm;exact g6
           ·show match en.cb with|none=>_|some c=>_
            cases hcb:en.cb with
            |none=>
             rw[hcb]at g7;have g7:xs=[]:=g7;exact⟨k.t,by rw[g7]⟩
            |some c=>
             rw[hcb]at g7;obtain⟨pre,p1,p2,p3⟩:=g7;exact⟨pre,PR.lU (p1.mono fun _ _=>Rep.flat hft),p2,p3⟩
          ·simp[Hp.get]at hy
         ·intro y e' hy;obtain⟨rfl,rfl⟩:=hM1 y e' hy;exact⟨_,by show Hp.get [(aX,_)] aX=_;rw[Hp.aB,if_pos rfl]⟩
         ·intro y e' c hy hc;obtain⟨rfl,rfl⟩:=hM1 y e' hy;exact⟨.inl hc,(I.loc b en c g3 hc).2⟩
         ·intro y e' y' e'' c hy hc hy' hc';rw[(hM1 y e' hy).1,(hM1 y' e'' hy').1]
         ·intro c j q;exact⟨(I.ro c j q).1,.inl q⟩
         ·intro y e' c j hy hc q;obtain⟨rfl,rfl⟩:=hM1 y e' hy;exact(y5 c j hc q).elim
         ·intro c hc;exact⟨⟨e1,by simp[C1],hc⟩,fun j hj=>hj⟩
         ·intro y hy;by_cases hq:y=aX
          ·rw[hq];show aX<1000001;decide
          ·simp[C1,hq]at hy
        obtain⟨C',fr,val,av,hh,s1,s2,s3,s4,s5,s6⟩:=iV (G:=toEnd P B C.w cs k.f k.fin) (cuts:=[]) (hO _ _) (fun r w fr cs q=>q) (fun c hc=>by simp at hc) (fun s hs'=>hs _ _ cs s hs') n S (hrun xs x g hF);unfold Proc.fin at s6;split at s6
        ·rename_i rr hread;split at s6
         ·rename_i u2 hrow;split at s6
          ·rename_i xs2 KI;obtain rfl:=MK s6;obtain rfl:=iY KI;obtain⟨MJ,J_,q1,q2,q3,q4,q5,q6,q7⟩:=s5.rowLen (bP.self hh) hrow;have hcb2: ∀c,en.cb=some c->J_.cb=some c:=fun c hc=>by
            obtain⟨⟨e',z1,z2⟩,_⟩:=s5.pin c hc;rw[q3]at z1;obtain rfl:=MK z1;exact z2
           have hlen:NK (α:=k.t.den) xs2=NK (α:=k.t.den) xs:=hlen;have g6:en.len=NK (α:=k.t.den) xs:=g6;have bel:Keep S0.io w0 C'.w:=by
            have z:=s5.below;refine⟨z.os.trans I.below.os,z.tape.trans I.below.tape,z.output.trans I.below.output,Nat.le_trans I.below.size z.size,fun i hi hx=> ?_⟩;have hi2:=I.below.size;refine(z.block i (by omega) fun hc=> ?_).trans (I.below.block i hi hx);rcases (I.loc b en i g3 hc).1 with q|q
            ·exact hx q
            ·omega
           have T:=I.turn (b:=b) (e:=en) (e':=en) (ao:= .cells v false [.row k.t xs2]) (w':=C'.w) g3 (MW _) (fun _=>rfl) (fun _=>rfl) bel s5.below.size
            (fun i hi hne=>s5.below.block i hi hne) (fun c j hc hr=>(y5 c j hc hr).elim) (fun c j hc hj=>(s5.pin c hc).2 j hj) (fun c hc=> .inl hc) (fun c j hc _ hr=>(y5 c j hc hr).elim)
            (fun le=>⟨g4,g5,fun t' xs' hm=>by
             simp only[Na]at hm;cases hm;rw[g6,hlen],by
             cases hcb:en.cb with
             |none=>
              rw[hcb]at g7;have g7:xs=[]:=g7;have:xs2=[]:=List.eq_nil_of_length_eq_zero (by rw[hlen,g7];rfl);exact⟨k.t,by rw[this]⟩
             |some c=>
              rw[hcb2 c hcb]at q7;obtain⟨pre,p1,p2,p3⟩:=q7;exact⟨pre,PR.lU (p1.mono fun _ _=>Rep.flat hft),p2,p3⟩⟩)
           have DU:xk P cs ((callFunc k.f (v0::us).toArray).run P C.w) val C'.w:=by
            obtain⟨ga,hga⟩:=fM hen [];exact .inr (.inr ⟨k.f,_,C.w,bG hga _ _,fr,s1,s2,s3⟩)
           refine⟨val,⟨C'.w,C.RO,fun y=>if y=b then some en else C.M y⟩,DU,T.2,T.1,qA.kE hfr hread s4,fun y hy=> .inl ?_⟩;by_cases hq:y=b
           ·subst hq;rw[g3];simp
           ·simpa[hq]using hy
          ·simp at s6
         ·simp at s6
        ·simp at s6
       |_=>skip
     ·simp at e
    ·simp at e
   ·simp at e
  ·simp at e
 ·simp at e
end
end Go.AM
end
section
namespace Go.AM
variable [Tabs]
open Go.RowKit
inductive XK where
 |Gf (m:Mark)
 |Gg (m:Addr->Mark)
 |load (k:IntKind)|store|cas (k:IntKind)|add (k:IntKind)
def XK.ext:XK->Array Value->Sem Value
 | .Gf m=>fun _=>do mark m;pure Extern.Race.none_
 | .Gg m=>Extern.Race.marked m
 | .load k=>Pq (.int k)
 | .store=>Pm
 | .cas k=>PD (.int k)
 | .add k=>Pn (Op.intArith .add) k true
def XK.OK(P:Program)(f:FuncId)(x:XK):Prop:=
 ∃fn,P.funcs[f]?=some fn/\(fn.name== "runtime.NumGoroutine")=false/\fn.body.isNone=true/\Extern.findNext fn=none/\Extern.find fn=some x.ext
def vG(h:Hp)(k:IntKind):AV->Option (Bool×List AV×Int)
 | .ptr b v o path=>(match h.cells b v with
  |some (w,ps)=>(match iP ps o path 1 with
   |some [.int k' n]=>bif decide (k'=k)then some (w,ps,n)else none
   |_=>none)
  |none=>none)
 |_=>none
def yG(v:AV)(u:h_):Option He:=some ⟨Unit,(),some (),fun _=>(v,u)⟩
def setInt(h:Hp)(k:IntKind)(a:AV)(y:Int)(res:AV):Option He:=
 match a,vG h k a with
 | .ptr b v o path,some (true,ps,_)=>(match f_ ps o path [.int k y] 1 with
  |some l=>yG res [(b,.cells v false l)]
  |none=>none)
 |_,_=>none
def XK.lI(h:Hp):XK->List AV->Option He
 | .Gf _,[]=>yG (.gG []) []
 | .Gg _,[.ptr _ _ _ _]=>yG (.gG []) []
 | .load k,[a]=>(match vG h k a with|some x=>yG (.int k x.2.2) []|none=>none)
 | .store,[a,.int k y]=>setInt h k a y (.gG [])
 | .cas k,[a,.int k1 x,.int k2 y]=>bif decide (k1=k)&&decide (k2=k)then(match vG h k a with
  |some z=>setInt h k a (bif decide (z.2.2=x)then y else z.2.2) (.bool (decide (z.2.2=x)))
  |none=>none)else none
 | .add k,[a,.int k1 y]=>bif decide (k1=k)then(match vG h k a with
  |some z=>setInt h k a (k.wrap (z.2.2+y)) (.int k (k.wrap (z.2.2+y)))
  |none=>none)else none
 |_,_=>none
def exts:List (FuncId×XK)->iL
 |[],_,_,_,_=>none
 |x::r,f,vs,h,nx=>bif M_ x.1 f then x.2.lI h vs else exts r f vs h nx
section
variable {P:Program} {S0:Base} {w0:World} {C:Cx} {h h':Hp}
theorem lF(I:Inv P S0 w0 C h)(hs:bP h' h){k:IntKind}{a:AV}{v:Value}{x:Bool×List AV×Int}(e:vG h' k a=some x)(hv:VR C a v):
  ∃b ver o path c,a= .ptr b ver o path/\v= .pointer (some ⟨c,o+aG path,none⟩)/\h'.cells b ver=some (x.1,x.2.1)/\C.w.cell? ⟨c,o+aG path,none⟩=some (.int k x.2.2)/\C.w.frozen? ⟨c,o+aG path,none⟩=false/\ak k x.2.2=true/\
   ∀y,ak k y=true-> ∀l,x.1=true->f_ x.2.1 o path [.int k y] 1=some l->
    ∃C',C'.w=C.w.setCell ⟨c,o+aG path,none⟩ (.int k y)/\C.Le C'/\Inv P S0 w0 C' ((b,.cells ver false l)::h)/\ ∀z,C'.M z≠none->C.M z≠none:=by
 unfold vG at e;split at e
 ·rename_i b ver o path;split at e
  ·rename_i w ps hc;split at e
   ·rename_i k' n hl;simp only[cond_eq_ite]at e;split at e
    ·rename_i hk;have hk:k'=k:=by simpa using hk
     subst hk;obtain rfl:=MK e;obtain⟨ro,en,g1,g2,g3,g4,g5,g6,g7⟩:=I.block hs hc;cases hv with
     |ptr k1 k2 k3 k4=>
      rw[g3]at k1;obtain rfl:=MK k1;obtain⟨c,q1,q2,q3⟩:=k3 g4.symm;rw[q1]at g7;obtain⟨pre,p1,p2,p3⟩:=g7;obtain⟨s1,s2⟩:=p1.iP g6 hl q3;have s2:=s2 (by decide);have hcell:(pre.drop (o+aG path)).take 1=[.int k' n]/\ak k' n=true:=by
       generalize (pre.drop (o+aG path)).take 1=cs at s1;cases s1 with
       |sc h1 _ _ h4=>cases h4;cases h1 with|int hr=>exact⟨rfl,hr⟩
      have hget:pre[o+aG path]?=some (.int k' n):=by
       have:=congrArg (fun l=>l[0]?) hcell.1;simpa using this
      have hcl:C.w.cell? ⟨c,o+aG path,none⟩=some (.int k' n):=by
       have:=p2 _ _ hget;simpa using this
      subst q2;refine⟨b,ver,o,path,c,rfl,rfl,hc,hcl,p3 _ (by rw[hcl];rfl),hcell.2,fun y hy l hw hp=> ?_⟩;have hw:w=true:=hw;subst hw;have hro:ro=false:=by cases ro<;>simp_all
      subst hro;have pu:PR C [.int k' y] [.int k' y]:= .sc (.int hy) rfl rfl .nil;obtain⟨s3,s4⟩:=p1.f_ g6 hp q3 pu rfl;have hex: ∀j,j<1->(C.w.cell? ⟨c,(o+aG path)+j,none⟩).isSome=true:=fun j hj=>by
       have:j=0:=by omega
       subst this;rw[Ph,hcl];rfl
      have Ap: ∀j,C.RO c j->False:=fun j hj=>by
       obtain⟨v',ps',r1,_⟩:=I.w_ _ _ _ _ g3 q1 hj;rw[g1]at r1;simp at r1
      have loc:=I.loc _ _ _ g3 q1;have T:=I.turn (b:=b) (e:=en) (e':=en) (ao:= .cells ver false l) (w':=C.w.setCells c (o+aG path) [.int k' y]) g3 (MW _) (fun _=>rfl) (fun _=>rfl)
       (Keep.setCells loc.1 _ _ I.below) (by rw[size_setCells];omega)
       (fun k _ hk=>fC _ _ _ _ (fun q=>hk (by rw[q];exact q1)))
       (fun c' j hc' hr=>by rw[q1]at hc';obtain rfl:=MK hc';exact(Ap j hr).elim)
       (fun c' j hc' hr=>by
        rw[q1]at hc';obtain rfl:=MK hc';by_cases hin:j=o+aG path
        ·subst hin;have:=World.cell?_setCells_in c [.int k' y] (o+aG path) C.w hex 0 (Nat.lt_succ_self 0);rw[Ph]at this;rw[this];rfl
        ·rw[N7 c _ _ _ _ (fun _ _=>by show j<o+aG path\/o+aG path+1<=j;omega)];exact hr)
       (fun c' hc'=> .inl hc')
       (fun c' j hc' _ hr=>by rw[q1]at hc';obtain rfl:=MK hc';exact(Ap j hr).elim)
       (fun le=>by
        refine⟨g4,g5,jK g6 hp,?_⟩;rw[q1];refine⟨_,s3.mono le,rX p2 (ds:=[.int k' y]) (by show o+aG path+1<=_;omega),fun j hj=> ?_⟩;rw[World.frozen?_setCells];refine p3 j ?_;by_cases hin:j=o+aG path
        ·subst hin;rw[hcl];rfl
        ·have hj:((C.w.setCells c (o+aG path) [.int k' y]).cell? ⟨c,j,none⟩).isSome=true:=hj
         rwa [N7 c _ _ _ _ (fun _ _=>by show j<o+aG path\/o+aG path+1<=j;omega)]at hj)
      exact⟨_,rfl,T.1,T.2,fun y hy=>by
       by_cases hyb:y=b
       ·subst hyb;rw[g3];simp
       ·simpa[hyb]using hy⟩
    ·simp at e
   ·simp at e
  ·simp at e
 ·simp at e
theorem zx{w:World}{a:Addr}{v:Value}(hc:w.cell? a=some v):w.setCell a v=w:=by
 have hb:=hc;unfold Px at hb;split at hb
 ·rename_i c e fr hg;split at hb
  ·cases hb
  ·rename_i hs;have hs:a.spot.isSome=false:=by simpa using hs
   unfold World.setCell;obtain⟨heap,tape,drawn,os,output⟩:=w;congr 1;apply Array.ext
   ·simp
   ·intro i h1 h2;rw[Array.getElem_modify];split
    ·rename_i hi;subst hi;have:heap[a.block]= .cells c e fr:=by rw[NV h2]at hg;exact MK hg
     rw[this];simp only[hs,NU,if_false];congr 1;apply Array.ext
     ·simp
     ·intro j h3 h4;rw[Array.getElem_setIfInBounds h4];split
      ·rename_i hj;subst hj;rw[NV h4]at hb;exact(MK hb).symm
      ·rfl
    ·rfl
 ·cases hb
theorem zo{k:IntKind}{x y:Int}{w:World}:(Op.intArith .add k x y).run P w= .ok (.int k (k.wrap (x+y))) w:=rfl
theorem IU{f:FuncId}{x:XK}(K:x.OK P f){args:List AV}{o:He}{g:o.γ}{nx:Nat}(e:x.lI h' args=some o)(hg:o.x=some g)(cs:List Frame)(I:Inv P S0 w0 C h)(hs:bP h' h)(hM:C.M nx=none){vs:List Value}(hv:bg C args vs):
  Does P S0 w0 cs C h nx ((callFunc f vs.toArray).run P C.w) (o.enc g):=by
 obtain⟨fn,hf,hname,hb,hn,he⟩:=K
 -- a number in place of a number
 have put: ∀ {k:IntKind} {a:AV} {y:Int} {res:AV} {v r:Value},ak k y=true->setInt h' k a y res=some o->VR C a v->(∀C',C.Le C'->VR C' res r)->
   (∀ad u,C.w.cell? ad=some u->C.w.frozen? ad=false->v= .pointer (some ad)->(∀x,vG h' k a=some x->u= .int k x.2.2)->(callFunc f vs.toArray).run P C.w= .ok (.value r) (C.w.setCell ad (.int k y)))->Does P S0 w0 cs C h nx ((callFunc f vs.toArray).run P C.w) (o.enc g):=by
  intro k a y res v r hy e hva hres hrun;unfold setInt at e;split at e
  ·rename_i b ver oo path ps n hi;split at e
   ·rename_i l hl;obtain rfl:=MK e;obtain⟨b',ru,o',path',c,e1,e2,e3,e4,e5,e6,e7⟩:=lF I hs hi hva;cases e1;obtain⟨C',c1,c2,c3,c4⟩:=e7 y hy l rfl hl;refine⟨r,C',.inl ?_,c3,c2,hres C' c2,fun z hz=> .inl (c4 z hz)⟩;rw[c1];exact hrun _ _ e4 e5 e2 (fun x hx=>by rw[hi]at hx;obtain rfl:=MK hx;rfl)
   ·simp at e
  ·simp at e
 cases x with
 |Gf m=>
  cases hv with
  |nil=>
   obtain rfl:=MK e;exact⟨.tuple #[],C,.inl (run_call_mark0 hf hname hb hn m he C.w),I,.refl C,.gG .nil,fun z hz=> .inl hz⟩
  |cons h1 h2=>simp[XK.lI]at e
 |Gg m=>
  cases hv with
  |nil=>simp[XK.lI]at e
  |cons h1 h2=>
   cases h2 with
   |cons=>simp[XK.lI]at e
   |nil=>
    rename_i a v;cases a with
    |ptr b ver oo path=>
     obtain rfl:=MK e;cases h1 with
     |ptr _ _ _ k4=>
      obtain⟨ad,rfl⟩:=k4;exact⟨.tuple #[],C,.inl (run_call_marked hf hname hb hn m he ad C.w),I,.refl C,.gG .nil,fun z hz=> .inl hz⟩
    |_=>simp[XK.lI]at e
 |load k=>
  cases hv with
  |nil=>simp[XK.lI]at e
  |cons h1 h2=>
   cases h2 with
   |cons=>simp[XK.lI]at e
   |nil=>
    simp only[XK.lI]at e;split at e
    ·rename_i z hi;obtain rfl:=MK e;obtain⟨b',ru,o',path',c,e1,e2,e3,e4,e5,e6,_⟩:=lF I hs hi h1;subst e2;exact⟨_,C,.inl (run_call_load hf hname hb hn k he e4),I,.refl C,.int e6,fun z hz=> .inl hz⟩
    ·simp at e
 |store=>
  cases hv with
  |nil=>simp[XK.lI]at e
  |cons h1 h2=>
   cases h2 with
   |nil=>simp[XK.lI]at e
   |cons h2 h3=>
    cases h3 with
    |cons=>simp only[XK.lI]at e;simp at e
    |nil=>
     rename_i a v y u;cases y with
     |int k y=>
      cases h2 with
      |int hy=>
       refine put (r:= .tuple #[]) hy e h1 (fun _ _=> .gG .nil) fun ad u hc hz ha _=> ?_
       subst ha;exact run_call_store hf hname hb hn he hc hz
     |_=>simp[XK.lI]at e
 |cas k=>
  cases hv with
  |nil=>simp[XK.lI]at e
  |cons h1 h2=>
   cases h2 with
   |nil=>simp[XK.lI]at e
   |cons h2 h3=>
    cases h3 with
    |nil=>simp only[XK.lI]at e;simp at e
    |cons h3 h4=>
     cases h4 with
     |cons=>simp only[XK.lI]at e;simp at e
     |nil=>
      rename_i a v x u y u2;cases x with
      |int k1 x=>
       cases y with
       |int k2 y=>
        simp only[XK.lI]at e;rw[cond_eq_ite]at e;split at e
        ·rename_i hk;simp only[ML,decide_eq_true_eq]at hk;obtain⟨rfl,rfl⟩:=hk;split at e
         ·rename_i z hi;obtain⟨_,_,_,_,_,_,_,_,_,_,hr,_⟩:=lF I hs hi h1;cases h2 with
          |int hx=>
           cases h3 with
           |int hy=>
            by_cases hq:z.2.2=x
            ·subst hq;have hd:decide (z.2.2=z.2.2)=true:=by simp
             rw[hd]at e;refine put (r:= .bool true) hy e h1 (fun _ _=> .bool) fun ad u hc hz ha hu=> ?_
             subst ha;have:=hu _ hi;subst this;exact run_call_cas_hit hf hname hb hn _ he hc hz
            ·have hd:decide (z.2.2=x)=false:=by simp[hq]
             rw[hd]at e;refine put (r:= .bool false) hr e h1 (fun _ _=> .bool) fun ad u hc hz ha hu=> ?_
             subst ha;have:=hu _ hi;subst this;rw[zx hc];exact run_call_cas_miss hf hname hb hn _ he hc hz hq
         ·simp at e
        ·simp at e
       |_=>simp[XK.lI]at e
      |_=>simp[XK.lI]at e
 |add k=>
  cases hv with
  |nil=>simp[XK.lI]at e
  |cons h1 h2=>
   cases h2 with
   |nil=>simp[XK.lI]at e
   |cons h2 h3=>
    cases h3 with
    |cons=>simp only[XK.lI]at e;simp at e
    |nil=>
     rename_i a v y u;cases y with
     |int k1 y=>
      simp only[XK.lI]at e;rw[cond_eq_ite]at e;split at e
      ·rename_i hk;have hk:k1=k:=by simpa using hk
       subst hk;split at e
       ·rename_i z hi;cases h2 with
        |int hy=>
         refine put (r:= .int k1 (k1.wrap (z.2.2+y))) (wrap_in k1 _) e h1 (fun _ _=> .int (wrap_in k1 _)) fun ad u hc hz ha hu=> ?_
         subst ha;have:=hu _ hi;subst this;exact run_call_add hf hname hb hn _ he hc hz zo
       ·simp at e
      ·simp at e
     |_=>simp[XK.lI]at e
theorem DJ: ∀ {l:List (FuncId×XK)},(∀x∈l,x.2.OK P x.1)->bW P S0 w0 (exts l)
 |[],_=>fun f args h' nx o g e=>by simp[exts]at e
 |x::l,K=>fun f args h' nx o g e hg cs C h I hs hM vs hv=>by
  simp only[exts,cond_eq_ite]at e;split at e
  ·rename_i hf;have:=MO hf;subst this;exact IU (K x (.head _)) e hg cs I hs hM hv
  ·exact DJ (fun y hy=>K y (.tail _ hy)) f args h' nx o g e hg cs C h I hs hM vs hv
end
end Go.AM
end
