import Derived.Test.YtbpfiolmmdmapaaGreatAm1
import Derived.Laws.LoneSync
import Derived.Great.FillDense
import Derived.Orders

/-! An abstract machine over plain data, shown to be sound for the given program model: what it tells is what the call does. -/
set_option linter.unusedSimpArgs false
set_option linter.unusedVariables false
set_option linter.unusedSectionVars false

open Array renaming getElem?_toList->Na,mem_toList_iff->Nb,eq_empty_of_size_eq_zero->Nv,toList_map->ND,getElem?_eq_some_iff->NM,getElem?_append_left->Oi,getElem?_push->Ou,length_toList->Ov,size_setIfInBounds->Oz,empty_append->OB,ext'->OJ,getElem?_setIfInBounds_ne->OL,range->OM,getD_eq_getD_getElem?->O4,mapM_eq_mapM_toList->Pj,getD->Pq,toList_append->Qc,getElem_push->Qi,size_append->Qr,toList_push->Qs,replicate->QI
open Bool renaming and_eq_true->MS,not_eq_true'->Nj,false_eq_true->Nr,or_eq_true->N7,not_eq_true->PL,or_eq_false_iff->P8,false_ne_true->Qj,not_false->QX,false_or->Q_,not_true->Rf
open ByteArray renaming size_data->Qd,push->QY
open Classical renaming byContradiction->NW
open Go.Addr renaming add_mid->Qx
open Go.Builtin renaming zeroCells->MR,nextslicecap->NI,append_->NJ,firstCells->Oe,lenOf->Pz,len_->PU,clear_->QZ,growBy->Q5,copy_->Rh
open Go.Call renaming operands->Qk
open Go.Code.region renaming inj->QJ
open Go.Conv renaming bytesToString->O_
open Go.Frame renaming enter->NG,finish->Qy
open Go.Instr renaming buildSlice->Oo,typeAssert->Oq,takeDeferred->Pg,endRound->Pm,fill->P7,build->Qe,arrayAt->Ql,loadAt->Qz,makeSlice->QK,sureAddr->Q7,getLoop->Ri,yield->Rx
open Go.IntKind renaming signed->Pn,bits->PV,i64->QL,max->QM,min->QN
open Go.Made renaming depth->Qu
open Go.Op renaming operands->PD
open Go.Operand renaming tmp->Ry
open Go.Question renaming appendCap->Nk
open Go.Region renaming binds->Nc,wanted->Nl,ready->NS,Mode->Ox,schedule->PW,linearise->QC
open Go.Region.linearise renaming go->O5
open Go.Result renaming andThen_ok->MK,ok->OV,andThen->Q8
open Go.Sem renaming run_bind->MO,run_pure->MQ,run->Qv
open Go.Value renaming slice->NK,iface->O6
open Go.World renaming cell?_setCells_out->N8,cell?_of_block->OY,cell?_setCells_in->PE,frozen?_setCells->PO,cell?->Rz
open Go.stepG renaming exec->Nh,apply->OQ
open Int renaming toNat->OC,toNat_of_nonneg->O7,le_refl->PG,natCast_mul->QO
open List renaming length->ML,mem_cons->MV,replicate->MX,eq_nil_of_length_eq_zero->M_,getElem?_take->Nq,filter_cons->Ns,flatMap_cons->Nu,contains_iff_mem->Nw,length_replicate->Ny,getElem?_drop->Nz,mem_singleton->NC,length_take->NH,getD_eq_getElem?_getD->NP,all_eq_true->NQ,any_eq_true->NR,getElem?_append_left->NY,getElem?_eq_some_iff->NZ,mem_append->N9,length_cons->Ob,take_of_length_le->Oc,mem_map->Og,getElem?_append_right->Oj,mem_of_find?_eq_some->Om,cons_append->Ot,filterMap_cons->Oy,getElem?_eq_getElem->OA,append_nil->OD,length_append->OE,mem_filter->OG,nil_append->OH,range'_succ->OW,find?_cons->O8,map_congr_left->O9,pairwise_cons->Ph,mem_range->Po,append_assoc->Pv,range->Px,map_cons->PI,drop_eq_nil_of_le->PS,find?_some->PX,foldl_cons->PY,getElem?_toArray->PZ,map_append->P5,mem_append_right->P6,getElem?_append->P9,mem_of_getElem?->P_,mapM_cons->Qa,flatten_append->Qg,find?_eq_none->Qm,mem_filterMap->Qn,zip_cons_cons->Qo,ext_getElem?->Qw,length_drop->QD,take_length->QE,append->QS,length_nil->QT,range'->QU,take_drop->Q9,take_nil->Rl,map_map->Rt,map_nil->Ru
open List.cons renaming inj->Rj
open Nat renaming eq_of_beq_eq_true->MP,le_refl->MZ,mul_le_mul_right->Np,le_of_ble_eq_true->NU,zero_add->NV,lt_trichotomy->N_,add_mul->Oa,beq->Oh,le_add_right->OX,blt_eq->O1,mod_eq_of_lt->PN,testBit_or->Qb,mul_le_mul_left->Qh,lt_of_lt_of_le->Qp,beq_refl->QA,le_of_eq->QB,lt_succ_self->QF,min_eq_left->QV,mul_one->QW,add_assoc->Rn,mul_assoc->Ro,le_trans->Rw
open Ne renaming symm->Rq
open Option renaming none_beq_some->Ol,map_some->OI,isSome_iff_exists->Py,bind_some->QG,getD_some->QH
open Option.some renaming inj->MN,injEq->MW
open Prod.mk renaming injEq->OZ
open UInt8 renaming ofNat->OU,toNat_ofNat'->Qq
section
namespace Go.AM
variable [Tabs]
open Go.RowKit
section
variable {P:Program} {S0:Base} {w0:World} {cs:List Frame} {C:Cx} {h h':Hp} {nx:Nat}
def Src(P:Program)(w:World)(z n:Nat)(x:Value)(ds:List Value):Prop:=
 ds.length=n*z/\ ∀w':World,w'.heap=w.heap->(Pz x).run P w'= .ok n w'/\ ∀k,k<=n->(Oe z k x).run P w'= .ok (ds.take (k*z)).toArray w'
theorem Src.full{w:World}{z n:Nat}{x:Value}{ds:List Value}(h:Src P w z n x ds)(w':World)(e:w'.heap=w.heap):
  (Pz x).run P w'= .ok n w'/\(Oe z n x).run P w'= .ok ds.toArray w':=by
 obtain⟨h1,h2⟩:=h;refine⟨(h2 w' e).1,?_⟩;have:=(h2 w' e).2 n (MZ _)
 rwa [Oc (by omega)]at this
theorem Src.slice{w:World}{z n c:Nat}{a:Option Addr}{ds:List Value}(hl:ds.length=n*z)(ha:n=0\/ ∃b o,a=some ⟨b,o,none⟩/\ ∀j v,ds[j]?=some v->w.cell? ⟨b,o+j,none⟩=some v):
  Src P w z n (.slice a n c) ds:=by
 refine⟨hl,fun w' hw=>⟨rfl,fun k hk=> ?_⟩⟩;have hkz:k*z<=n*z:=Np _ hk;cases a with
 |none=>
  rcases ha with rfl|⟨_,_,h,_⟩
  ·have:ds=[]:=by cases ds with|nil=>rfl|cons=>simp at hl
   subst this;rw[Rl];rfl
  ·simp at h
 |some a=>
  show (loadCells a (k*z)).run P w'=_;have hl2:(ds.take (k*z)).length=k*z:=by rw[NH,hl];omega
  have:=run_loadCells_list (P:=P) w' a (ds.take (k*z)) fun j v hv=> ?_
  ·rwa [hl2]at this
  rw[Nq]at hv;split at hv
  ·rcases ha with rfl|⟨b,o,h,hc⟩
   ·have:ds=[]:=by cases ds with|nil=>rfl|cons=>simp at hl
    subst this;simp at hv
   ·cases h;rw[Qx,OY (w:=w) (w':=w') (by rw[hw])];exact hc j v hv
  ·simp at hv
theorem Inv.zD(I:Inv P S0 w0 C h)(hs:bP h' h){b v o:Nat}{m:Option Nat}{x:Bool×List AV×Sub AV}(e:h'.sub b v o m=some x):
  ∃ro en,h.get b=some (.cells v ro x.2.1)/\x.1= !ro/\C.M b=some en/\en.ver=v/\en.perm=false/\dR en.len x.2.1/\cO x.2.1 o=some x.2.2/\x.2.2.xs.length=m.getD en.len/\match en.cb with
   |none=>x.2.2.xs=[]/\m=none
   |some c=> ∃pre,PR C x.2.1 pre/\C.w.rangeAt c 0 pre/\(∀j,(C.w.cell? ⟨c,j,none⟩).isSome=true->C.w.frozen? ⟨c,j,none⟩=false)/\
     o+x.2.2.xs.length*x.2.2.t.size<=pre.length/\Cat (Rep C x.2.2.t) x.2.2.xs ((pre.drop o).take (x.2.2.xs.length*x.2.2.t.size)):=by
 obtain⟨w,ps,u⟩:=x;obtain⟨hcell,hs',hsm⟩:=Hp.qm e;obtain⟨ro,en,g1,g2,g3,g4,g5,g6,g7⟩:=I.block hs hcell;have g6:dR en.len ps:=g6;have hs':cO ps o=some u:=hs';have hsm:eP u.n m=true:=hsm;cases hcb:en.cb with
 |none=>
  rw[hcb]at g7;obtain⟨t,g7⟩:=g7;have g7:ps=[.row t []]:=g7;subst g7;have hnn:u.n=none/\u.xs=[]:=by
   unfold AM.cO AM.aJ at hs';split at hs'
   ·rename_i p tl hp;cases hb0:Oh o 0 with
    |true=>simp[hb0]at hp;obtain⟨rfl,_⟩:=hp;simp[jG]at hs';subst hs';exact⟨rfl,rfl⟩
    |false=>
     simp only[hb0,cond_false]at hp;cases hb1:Nat.blt o (AV.row t []).size<;>simp[hb1,AM.aJ]at hp
   ·simp at hs'
  have hl:=g6.sub hs' hnn.1;rw[hnn.1]at hsm;cases m with
  |some k=>simp[eP]at hsm
  |none=>exact⟨ro,en,g1,g2,g3,g4,g5,g6,hs',by simp[hl],by rw[hcb];exact⟨hnn.2,rfl⟩⟩
 |some c=>
  rw[hcb]at g7;obtain⟨pre,p1,p2,p3⟩:=g7;obtain⟨s1,s2,s3,s4⟩:=p1.cO hs';refine⟨ro,en,g1,g2,g3,g4,g5,g6,hs',?_,by rw[hcb];exact⟨pre,p1,p2,p3,s2,s3⟩⟩;show u.xs.length=_;rcases s1 with s1|s1
  ·rw[s1]at hsm;obtain rfl:=dW hsm;rfl
  ·have hl:=g6.sub hs' s1;rw[s1]at hsm;cases m with
   |none=>simp[hl]
   |some k=>simp[eP]at hsm
theorem yU(I:Inv P S0 w0 C h)(hs:bP h' h){x:AV}{u:Held}{v:Value}(e:dM h' x=some u)(hv:VR C x v):
  ∃ds,Cat (Rep C u.t) u.xs ds/\Src P C.w u.t.size u.xs.length v ds:=by
 cases hv with
 |lst q=>
  simp only[dM,MW]at e;subst e;obtain⟨a,n,c,q1,q2,q3,q4⟩:=q;simp at q1;subst q1;rcases q4 with⟨q4,_⟩|⟨b,p,ds,rfl,q5,q6⟩
  ·have hn:n=0:=by rw[q2,q4];rfl
   subst hn;refine⟨[],by rw[q4];rfl,?_⟩;show Src P C.w _ (ML _) _ _;rw[<-q2];exact Src.slice (by simp) (.inl rfl)
  ·refine⟨ds,q5,?_⟩;show Src P C.w _ (ML _) _ _;rw[<-q2];exact Src.slice (by rw[Cat.length (fun _ _ h=>Rep.length h) q5,q2]) (.inr ⟨b,p,rfl,fun j v hj=>(q6 j v hj).1⟩)
 |iO q _=>
  simp only[dM,MW]at e;subst e;obtain⟨a,n,c,q1,q2,q3,q4⟩:=q;simp at q1;subst q1;rcases q4 with⟨q4,_⟩|⟨b,p,ds,rfl,q5,q6⟩
  ·have hn:n=0:=by rw[q2,q4];rfl
   subst hn;refine⟨[],by rw[q4];rfl,?_⟩;show Src P C.w _ (ML _) _ _;rw[<-q2];exact Src.slice (by simp) (.inl rfl)
  ·refine⟨ds,q5,?_⟩;show Src P C.w _ (ML _) _ _;rw[<-q2];exact Src.slice (by rw[Cat.length (fun _ _ h=>Rep.length h) q5,q2]) (.inr ⟨b,p,rfl,fun j v hj=>(q6 j v hj).1⟩)
 |own k1 k2 k3 k4=>
  simp only[dM]at e;split at e
  ·rename_i w y hr;obtain rfl:=MN e;obtain⟨ro,en,g1,g2,g3,g4,g5,g6,g7⟩:=I.rowLen hs hr;have g6:en.len=y.xs.length:=g6;rw[g3]at k1;obtain rfl:=MN k1;have k3:=k3 g4.symm;unfold dO at k3;split at k3
   ·rename_i c hc;obtain⟨cap,rfl,k5,k6⟩:=k3;rw[hc]at g7;obtain⟨pre,p1,p2,_⟩:=g7;refine⟨pre,p1,?_⟩;rw[<-g6];exact Src.slice (by rw[Cat.length (fun _ _ h=>Rep.length h) p1,g6]) (.inr ⟨c,0,rfl,fun j v hj=>p2 j v hj⟩)
   ·rename_i hc;obtain⟨k5,rfl⟩:=k3;rw[hc]at g7;have g7:y.xs=[]:=g7;refine⟨[],by rw[g7];rfl,?_⟩;rw[g7];exact Src.slice (by simp) (.inl rfl)
  ·simp at e
 | @slc b ver o m ty i n en0 val k1 k2 k3 k4=>
  simp only[dM]at e;split at e
  ·rename_i w ps sb hsb;simp only[cond_eq_ite]at e;split at e
   ·rename_i hz;have hz:=MP hz;obtain rfl:=MN e;obtain⟨ro,en,g1,g2,g3,g4,g5,g6,g7,g8,g9⟩:=I.zD hs hsb;have g8:sb.xs.length=_:=g8;rw[g3]at k1;obtain rfl:=MN k1;obtain⟨q1,q2,q3,q4⟩:=k3 g4.symm;split at q4
    ·rename_i hcb;rw[hcb]at g9;obtain⟨g9,rfl⟩:=g9;have g9:sb.xs=[]:=g9;obtain⟨_,_,rfl⟩:=q4;refine⟨[],by rw[g9];simp[Cat],?_⟩;rw[g9];simp only[List.drop_nil,Rl,QT];exact Src.slice (by simp) (.inl rfl)
    ·rename_i c hcb;rw[hcb]at g9;obtain⟨pre,p1,p2,p3,p4,p5⟩:=g9;have p4:o+sb.xs.length*sb.t.size<=pre.length:=p4;have p5:Cat (Rep C sb.t) sb.xs ((pre.drop o).take (sb.xs.length*sb.t.size)):=p5;obtain⟨a,cap,rfl,q5,q6,q7⟩:=q4;have hlen:((sb.xs.drop i.toNat).take n.toNat).length=n.toNat:=by simp;omega
     have hcut:=Cat.cut (fun _ _ h=>Rep.length h) p5 i.toNat (i.toNat+n.toNat);rw[<-Q9]at hcut;refine⟨_,hcut,?_⟩;show Src P C.w sb.t.size _ _ _;rw[hlen];have hl:=Cat.length (fun _ _ h=>Rep.length h) hcut;rw[hlen]at hl;refine Src.slice hl ?_;by_cases hn:n.toNat=0
     ·exact .inl hn
     ·right
      obtain rfl:=q5 (by omega);refine⟨c,_,rfl,fun j v hj=> ?_⟩;rw[Nz,Nq]at hj;split at hj
      ·rw[Nq]at hj;split at hj
       ·rw[Nz]at hj;have:=p2 _ _ hj;rw[hz]at this;simp only[NV]at this;rw[Rn];exact this
       ·simp at hj
      ·simp at hj
   ·simp at e
  ·simp at e
 |_=>simp[dM]at e
theorem iJ{ty t:Ty}{xs:List t.den}{ys:List ty.den}(e:ay (.lst ty) [.lst t xs]=some ys): ∃h:t=ty,ys=h▸xs:=by
 by_cases h:t=ty
 ·subst h;refine⟨rfl,?_⟩;simp[ay,pack]at e;exact(MN e).symm
 ·simp[ay,pack,h]at e
def wO(P:Program)(C:Cx)(v:Value)(ty:Ty)(ys:List ty.den):Prop:= ∃ds,Cat (Rep C ty) ys ds/\Src P C.w ty.size ys.length v ds
theorem wO.pack{v:Value}{ty t:Ty}{xs:List t.den}{ys:List ty.den}(e:ay (.lst ty) [.lst t xs]=some ys)(hp:wO P C v t xs):wO P C v ty ys:=by
 obtain⟨ht,e⟩:=iJ e;subst ht;subst e;exact hp
theorem t_(I:Inv P S0 w0 C h)(hs:bP h' h){ty:Ty}{x:AV}{ys:List ty.den}{v:Value}
  (e:(match dM h' x with|some u=>ay (.lst ty) [.lst u.t u.xs]|none=>none)=some ys) (hv:VR C x v):wO P C v ty ys:=by
 cases hu:dM h' x with
 |none=>rw[hu]at e;simp at e
 |some u=>rw[hu]at e;exact wO.pack e (yU I hs hu hv)
theorem jE(I:Inv P S0 w0 C h)(hs:bP h' h){ty:Ty}{x:AV}{ys:List ty.den}{v:Value}(e:wC h' ty x=some ys)(hv:VR C x v):wO P C v ty ys:=by
 cases hv with
 |aC=>
  have e:some ([]:List ty.den)=some ys:=e;obtain rfl:=MN e;exact⟨[],rfl,Src.slice (by simp) (.inl rfl)⟩
 | @str s _ q=>
  subst q;have e:ay (.lst ty) [.lst (.int .u8) (bytesOf s)]=some ys:=e;refine wO.pack e ?_;refine⟨s.data.toList.map fun b=> .int .u8 b.toNat,?_,?_,fun w' _=>⟨?_,fun k hk=> ?_⟩⟩
  ·have: ∀l:List UInt8,Cat (Rep C (.int .u8)) (l.map fun b=>(b.toNat:Int)) (l.map fun b=> .int .u8 b.toNat):=by
    intro l
    induction l with
    |nil=>rfl
    |cons b r ih=>exact⟨[_],_,rfl,⟨rfl,u8_in b⟩,ih⟩
   exact this _
  ·show _=ML (bytesOf s)*1;rw[bytesOf_length];simp
  ·show _=OV (ML (bytesOf s)) w';rw[bytesOf_length];rfl
  ·show (Oe 1 k (.string s)).run P w'=_;simp only[Oe,MQ];congr 1;apply OJ
   show ((s.extract 0 k).data.map _).toList=((_:List Value).take (k*1));rw[QW,<-List.map_take,ND];congr 1;simp
 | @lst t xs v q=>exact t_ (x:= .lst t xs) I hs e (.lst q)
 | @iO t xs v q k=>exact t_ (x:= .iO t xs) I hs e (.iO q k)
 | @own b ver t en val k1 k2 k3 k4=>exact t_ (x:= .own b ver t) I hs e (.own k1 k2 k3 k4)
 | @slc b ver o m t i n en val k1 k2 k3 k4=>exact t_ (x:= .slc b ver o m t i n) I hs e (.slc k1 k2 k3 k4)
 |_=>exact nomatch e
theorem xR(n:Nat): ∀(r c:Nat),c<=n+(n+768)/4->Q5 n r c<=n+(n+768)/4
 |0,c,h=>h
 |r+1,c,h=>by
  unfold Q5;split
  ·exact h
  ·exact xR n r _ (by omega)
theorem vX{n c:Nat}(h:c<n):NI n c<=3*n:=by
 unfold NI;split
 ·omega
 ·split
  ·omega
  ·have:=xR n 4 c (by omega);omega
theorem nZ{e:TypeId}(hg:Aj P e=true): ∃i v,P.info? e=some i/\i.zero=some v/\v.cells.size=i.size/\i.bytes≠0:=by
 unfold Aj at hg;split at hg
 ·rename_i i hi;simp only[MS,Nj]at hg;obtain⟨h1,h2⟩:=hg;split at h2
  ·rename_i v hv;exact⟨i,v,hi,hv,MP h2,fun q=>by rw[q]at h1;simp at h1⟩
  ·simp at h2
 ·simp at hg
theorem lT{e:TypeId}{i:TypeInfo}{n:Nat}(hi:P.info? e=some i)(hb:i.bytes≠0)(h:n<roomOf P e):n*i.bytes<70368744177664:=by
 unfold roomOf at h;rw[hi]at h;have:Oh i.bytes 0=false:=by
  cases hq:Oh i.bytes 0 with
  |true=>exact absurd (MP hq) hb
  |false=>rfl
 simp only[this,cond_false]at h;have h1:=Nat.div_mul_le_self 70368744177664 i.bytes;have h2:(n+1)*i.bytes<=70368744177664/i.bytes*i.bytes:=Np _ h;rw[Oa]at h2;omega
theorem Au{t:TypeId}(h:vH P t=false): ∃d,P.underlying t=some d/\ ∀k,d≠ .int k:=by
 unfold vH at h;split at h
 ·simp at h
 ·rename_i d hd hu;exact⟨d,hu,fun k q=>hd k q⟩
 ·simp at h
theorem Df{w:World}{t t2 e:TypeId}(hu:P.underlying t=some (.slice e))(h2:vH P t2=false){i:TypeInfo}(hi:P.info? e=some i){zv:Value}(hz:i.zero=some zv){base:Option Addr}{sLen sCap n:Nat}{x:Value}{od dn:List Value}
  (hx:Src P w i.size n x dn) (hbase:Src P w i.size sLen (.slice base sLen sCap) od) (hb:i.bytes≠0) (hr:(sLen+n)*i.bytes<70368744177664) {ts:Array TypeId} (e0:ts[0]?=some t) (e1:ts[1]?=some t2) {ty:TypeId}:
  (sLen+n<=sCap/\(NJ ts ty #[.slice base sLen sCap,x]).run P w=(do
    if let some a:=base then storeCells (a.add (sLen*i.size)) dn
    pure (.slice base (sLen+n) sCap):Sem Value).run P w)\/
  (¬sLen+n<=sCap/\ ∃newCap,sLen+n<=newCap/\(NJ ts ty #[.slice base sLen sCap,x]).run P w=
   .ok (.slice (some ⟨w.heap.size,0,none⟩) (sLen+n) newCap) (w.drew.alloc (.cells (od.toArray++dn.toArray++MR zv.cells (newCap-(sLen+n))) e))):=by
 obtain⟨d,hd,hk⟩:=Au h2;have hsz:(sizeOf e).run P w= .ok i.size w:=by rw[run_sizeOf w hi,eu hi]
 have hti: ∀w,(typeInfo e).run P w= .ok i w:=fun w=>by simp[typeInfo,hi]
 have hnz:(do pure ((<-underlying t2) matches .int _):Sem Bool).run P w= .ok false w:=by
  rw[MO,run_underlying hd w];cases d<;>first|rfl|exact absurd rfl (hk _)
 have hroom: ¬(NI (sLen+n) sCap*i.bytes>2^48/\sCap<sLen+n):=by
  rintro⟨q1,q2⟩
  have:=vX q2;have h3:NI (sLen+n) sCap*i.bytes<=3*(sLen+n)*i.bytes:=Np _ this;rw[Ro]at h3;omega
 have hx1:=(hx.full w rfl).1;have hx2:=(hx.full w rfl).2;by_cases hc:sLen+n<=sCap
 ·left
  refine⟨hc,?_⟩;unfold NJ;simp only[e0,e1,show (#[NK base sLen sCap,x]:Array Value)[0]?=some (.slice base sLen sCap)from rfl,show (#[NK base sLen sCap,x]:Array Value)[1]?=some x from rfl];simp only[MO,run_underlying hu,MK,hsz,run_underlying hd];simp only[MQ,MK,Nr,if_false,QX,if_true,false_or];rw[MO,hx1,MK];simp only[if_pos hc,MO,hx2,MK];cases base<;>rfl
 ·right
  refine⟨hc,(Nk (sLen+n) sCap e).cut (w.tape w.drawn (Nk (sLen+n) sCap e)),OX _ _,?_⟩;unfold NJ;simp only[e0,e1,show (#[NK base sLen sCap,x]:Array Value)[0]?=some (.slice base sLen sCap)from rfl,show (#[NK base sLen sCap,x]:Array Value)[1]?=some x from rfl];simp only[MO,run_underlying hu,MK,hsz,run_underlying hd];simp only[MQ,MK,Nr,if_false,QX,if_true,false_or];rw[MO,hx1,MK];simp only[if_neg hc,MO,hti,MK,hb,and_false,if_false,MQ];rw[if_neg (fun q=>hroom ⟨q,by omega⟩)];have hf:(Nk (sLen+n) sCap e).forced=false:=rfl;simp only[run_choose,hf,Nr,if_false,MQ,MK,MO,hti,run_askRoom];have q1:=(hbase.full w.drew rfl).2;have q2:=(hx.full w.drew rfl).2;simp only[World.drew]at q1 q2;simp only[q1,q2,MK,zeroValue,MO,hti,hz,MQ,newRow,run_newObj];rfl
end
end Go.AM
end
section
namespace Go.AM
variable [Tabs]
open Go.RowKit
section
variable {P:Program} {S0:Base} {w0:World} {cs:List Frame} {C:Cx} {h h':Hp} {nx:Nat}
theorem Inv.D_(I:Inv P S0 w0 C h)(hM:C.M nx=none){t:Ty}{w':World}(hw:w'.heap=C.w.heap)(bel:Keep S0.io w0 w'):
  ∃C',C'.w=w'/\C.Le C'/\Inv P S0 w0 C' ((nx,.cells 0 false [.row t []])::h)/\C'.M nx=some ⟨0,none,0,false⟩/\(∀y,C'.M y≠none->C.M y≠none\/y=nx):=by
 have T:=I.make (b:=nx) (e':=⟨0,none,0,false⟩) (ao:= .cells 0 false [.row t []]) (w':=w') hM bel (by rw[hw];exact MZ _) (fun k _=>by rw[hw]) (fun c hc=>by simp at hc)
  (fun le=>⟨rfl,rfl,fun t' xs hm=>by simp at hm;obtain⟨rfl,hm⟩:=hm;cases hm;rfl,t,rfl⟩)
 refine⟨_,rfl,T.1,T.2,by simp,fun y hy=> ?_⟩;by_cases hyn:y=nx
 ·exact .inr hyn
 ·left;simpa[hyn]using hy
theorem mY{t:Ty}{xs:List t.den}:dR xs.length [.row t xs]:=fun t' xs' hm=>by simp at hm;obtain⟨rfl,hm⟩:=hm;cases hm;rfl
theorem PR.lU{t:Ty}{xs:List t.den}{ds:List Value}(hc:Cat (Rep C t) xs ds):PR C [.row t xs] ds:=by have:=PR.row hc (PR.nil (C:=C));rwa [OD]at this
theorem jm(z:Array Value)(n:Nat):(MR z n).size=n*z.size:=by simp[MR]
theorem Inv.newRow(I:Inv P S0 w0 C h)(hM:C.M nx=none){t:Ty}{xs:List t.den}{ds:List Value}(hc:Cat (Rep C t) xs ds){arr:Array Value}{e:TypeId}{w':World}{fz:Nat×Nat}{cap:Nat}
  (hw:w'.heap=C.w.heap.push (.cells arr e fz)) (hos:w'.os=C.w.os) (htp:w'.tape=C.w.tape) (hout:w'.output=C.w.output) (hpre: ∃post,arr.toList=ds++post) (hfz: ∀j,j<arr.size-> ¬(fz.1<=j/\j<fz.2))
  (hcap:cap*t.size<=arr.size) (hle:xs.length<=cap):
  ∃C',C'.w=w'/\C.Le C'/\Inv P S0 w0 C' ((nx,.cells 0 false [.row t xs])::h)/\VR C' (.own nx 0 t) (.slice (some ⟨C.w.heap.size,0,none⟩) xs.length cap)/\(∀y,C'.M y≠none->C.M y≠none\/y=nx):=by
 obtain⟨C',h1,h2,h3,h4,h5,h6⟩:=I.vV hM (PR.lU hc) mY hw hos htp hout hpre hfz;refine⟨C',h1,h2,h3,.own h4 (MZ _) (fun _=> ?_) ⟨_,_,_,rfl⟩,h5⟩;exact⟨cap,rfl,hle,fun j hj=>by rw[h1];exact h6 j (by omega)⟩
theorem nI{w:World}{c o:Nat}{pre ds:List Value}(hp:w.rangeAt c 0 pre)(ho:o<=pre.length)(hex: ∀j,j<ds.length->(w.cell? ⟨c,o+j,none⟩).isSome=true):
  (w.setCells c o ds).rangeAt c 0 (pre.take o++(ds++pre.drop (o+ds.length))):=by
 intro j v hv;simp only[NV];by_cases h1:j<o
 ·rw[N8 c ds o w _ (fun _ _=> .inl h1)];rw[NY (by simp;omega),List.getElem?_take_of_lt h1]at hv;have:=hp j v hv;simpa using this
 ·have e:j-(pre.take o).length=j-o:=by simp;omega
  rw[Oj (by simp;omega),e]at hv;by_cases h2:j<o+ds.length
  ·rw[NY (by omega)]at hv;have:=PE c ds o w hex (j-o) (by omega);rw[show o+(j-o)=j by omega]at this;rw[this,<-hv,OA]
  ·rw[N8 c ds o w _ (fun _ _=> .inr (by show o+ds.length<=j;omega))];rw[Oj (by omega),Nz]at hv;rw[show o+ds.length+(j-o-ds.length)=j by omega]at hv;have:=hp j v hv;simpa using this
theorem isSome_setCells{w:World}{c o:Nat}{ds:List Value}(hex: ∀j,j<ds.length->(w.cell? ⟨c,o+j,none⟩).isSome=true)(j:Nat):((w.setCells c o ds).cell? ⟨c,j,none⟩).isSome=(w.cell? ⟨c,j,none⟩).isSome:=by
 by_cases hin:o<=j/\j<o+ds.length
 ·have:=PE c ds o w hex (j-o) (by omega);rw[show o+(j-o)=j by omega]at this;have h2:=hex (j-o) (by omega);rw[show o+(j-o)=j by omega]at h2;rw[this,h2];rfl
 ·rw[N8 c _ _ _ _ (fun _ _=>by show j<o\/_<=j;omega)]
theorem Inv.IB(I:Inv P S0 w0 C h){b ver:Nat}{en:tC}{c:Nat}{ro:Bool}{t:Ty}{xs zs:List t.den}{pre dn:List Value}{o ru:Nat}(hg:h.get b=some (.cells ver ro [.row t xs]))(hM:C.M b=some en)(hv:en.ver=ver)(hp:en.perm=false)
  (hc:en.cb=some c) (p1:Cat (Rep C t) xs pre) (p2:C.w.rangeAt c 0 pre) (p3: ∀j,(C.w.cell? ⟨c,j,none⟩).isSome=true->C.w.frozen? ⟨c,j,none⟩=false) (ho:o<=pre.length)
  (hex: ∀j,j<dn.length->(C.w.cell? ⟨c,o+j,none⟩).isSome=true) (hz:Cat (Rep C t) zs (pre.take o++(dn++pre.drop (o+dn.length)))) (hro:ro=false\/pre.length<=o) (I5:ver<ru\/(ru=ver/\zs.length=en.len)):
  ∃C',C'.w=C.w.setCells c o dn/\C.Le C'/\Inv P S0 w0 C' ((b,.cells ru ro [.row t zs])::h)/\C'.M b=some ⟨ru,some c,zs.length,false⟩/\(∀y,C'.M y≠none->C.M y≠none)/\(∀n,Ey C c n->Ey C' c n):=by
 have loc:=I.loc _ _ _ hM hc;have Fj: ∀j,C.RO c j->ro=true/\j<pre.length:=fun j hj=>by
  obtain⟨v',ps',r1,r2⟩:=I.w_ _ _ _ _ hM hc hj;rw[hg]at r1;simp at r1;obtain⟨rfl,rfl,rfl⟩:=r1;refine⟨rfl,?_⟩;simp[AV.size]at r2;rw[Cat.length (fun _ _ h=>Rep.length h) p1];exact r2
 have T:=I.turn (b:=b) (e:=en) (e':=⟨ru,some c,zs.length,false⟩) (ao:= .cells ru ro [.row t zs]) (w':=C.w.setCells c o dn) hM (by show en.ver<=ru;omega)
  (fun q=>by
   have q:en.ver=ru:=q;rcases I5 with I5|⟨_,I5⟩
   ·omega
   ·cases en;simp_all)
  (JJ:=fun c' _ q=>by rw[hc]at q;exact q) (fun q=>by simp[hp]at q)
  (Keep.setCells loc.1 _ _ I.below) (by rw[size_setCells];exact MZ _) (fun k _ hk=>fC _ _ _ _ (fun q=>hk (by rw[q];exact hc)))
  (fun c' j hc' hr=>by
   rw[hc]at hc';obtain rfl:=MN hc';obtain⟨r1,r2⟩:=Fj j hr;rcases hro with hro|hro
   ·simp[r1]at hro
   ·exact N8 c _ _ _ _ (fun _ _=> .inl (by show j<o;omega)))
  (fun c' j hc' hr=>by rw[hc]at hc';obtain rfl:=MN hc';rw[isSome_setCells hex];exact hr)
  (fun c' hc'=> .inl (by rw[hc];exact hc'))
  (fun c' j hc' hc2 hr=>by
   rw[hc]at hc';obtain rfl:=MN hc';obtain⟨r1,r2⟩:=Fj j hr;refine⟨ru,[.row t zs],by rw[r1],?_⟩;have hl:=Cat.length (fun _ _ h=>Rep.length h) hz;simp[AV.size];rw[<-hl];simp;rcases hro with hro|hro
   ·simp[r1]at hro
   ·omega)
  (fun le=>⟨rfl,rfl,mY,_,PR.lU (hz.mono fun _ _=>Rep.mono le),nI p2 ho hex,fun j hj=>by
   rw[PO];have hj:((C.w.setCells c o dn).cell? ⟨c,j,none⟩).isSome=true:=hj;rw[isSome_setCells hex]at hj;exact p3 j hj⟩)
 refine⟨_,rfl,T.1,T.2,by simp,fun y hy=> ?_,fun n hn j hj=> ?_⟩
 ·by_cases hyb:y=b
  ·subst hyb;rw[hM];simp
  ·simpa[hyb]using hy
 ·show ((C.w.setCells c o dn).cell? _).isSome=true;rw[isSome_setCells hex];exact hn j hj
theorem Inv.zn(I:Inv P S0 w0 C h){b ver:Nat}{en:tC}{t:Ty}{zs:List t.den}{ds:List Value}(hM:C.M b=some en)(hv:en.ver=ver)(hp:en.perm=false)(ro:Bool)
  (hz:Cat (Rep C t) zs ds) {arr:Array Value} {e:TypeId} {w':World} (hw:w'.heap=C.w.heap.push (.cells arr e)) (hos:w'.os=C.w.os) (htp:w'.tape=C.w.tape) (hout:w'.output=C.w.output) (hpre: ∃post,arr.toList=ds++post) (hbn:b≠aX):
  ∃C',C'.w=w'/\C.Le C'/\Inv P S0 w0 C' ((b,.cells (ver+1) ro [.row t zs])::h)/\C'.M b=some ⟨ver+1,some C.w.heap.size,zs.length,false⟩/\(∀y,C'.M y≠none->C.M y≠none)/\Ey C' C.w.heap.size arr.size:=by
 have hcell: ∀j,w'.cell? ⟨C.w.heap.size,j,none⟩=arr[j]?:=fun j=>by simp[Rz,hw]
 have hsz:=I.below.size;have T:=I.turn (b:=b) (e:=en) (e':=⟨ver+1,some C.w.heap.size,zs.length,false⟩) (ao:= .cells (ver+1) ro [.row t zs]) (w':=w') hM (by show en.ver<=ver+1;omega)
  (fun q=>by have q:en.ver=ver+1:=q;omega) (fun q=>by simp[hp]at q)
  (I.below.trans ⟨hos,htp,hout,by rw[hw];simp,fun k hk=>by rw[hw,Ou,if_neg (by omega)]⟩)
  (by rw[hw];simp) (fun k hk _=>by rw[hw,Ou,if_neg (by omega)])
  (fun c j hc hr=>OY (a:=⟨c,j,none⟩) (by have:=(I.ro _ _ hr).1;rw[hw,Ou,if_neg (by show c≠_;omega)]))
  (fun c j hc hr=>by rw[OY (a:=⟨c,j,none⟩) (w:=C.w) (w':=w') (by have:=iq hr;rw[hw,Ou,if_neg (by show c≠_;omega)])];exact hr)
  (fun c hc=>by simp at hc;subst hc;right;rw[hw];simp)
  (fun c j hc hc2 hr=>by simp at hc2;subst hc2;have:=(I.ro _ _ hr).1;omega)
  (fun le=>⟨rfl,rfl,mY,ds,PR.lU (hz.mono fun _ _=>Rep.mono le),fun j v hv=>by
   obtain⟨post,hpost⟩:=hpre;simp only[NV];show w'.cell? _=_;rw[hcell,<-Na,hpost,NY (NZ.1 hv).1];exact hv,fun j hj=>by
   show w'.frozen? _=false;simp[World.frozen?,hw]⟩)
  (fun _ q _=>absurd q hbn)
 refine⟨_,rfl,T.1,T.2,by simp,fun y hy=> ?_,fun j hj=> ?_⟩
 ·by_cases hyb:y=b
  ·subst hyb;rw[hM];simp
  ·simpa[hyb]using hy
 ·show (w'.cell? _).isSome=true;rw[hcell];simp[hj]
end
end Go.AM
end
section
namespace Go.AM
variable [Tabs]
open Go.RowKit
section
variable {P:Program} {S0:Base} {w0:World} {cs:List Frame} {C:Cx} {h h':Hp} {nx:Nat}
theorem Does.val{s:Sem Value}{v:Value}{C':Cx}{x:AV×h_}(hr:s.run P C.w= .ok v C'.w)(I':Inv P S0 w0 C' (x.2++h))(le:C.Le C')(hv:VR C' x.1 v)(hn: ∀y,C'.M y≠none->C.M y≠none\/y=nx):
  Does P S0 w0 cs C h nx ((do pure (.value (<-s)):Sem Next).run P C.w) x:=by
 refine⟨v,C',.inl ?_,I',le,hv,hn⟩;rw[MO,hr];rfl
theorem Inv.Ei(I:Inv P S0 w0 C h){b ver:Nat}{en:tC}{t:Ty}(hM:C.M b=some en)(hv:en.ver=ver)(hp:en.perm=false)(hc:en.cb=none)(ro:Bool):
  ∃C',C'.w=C.w/\C.Le C'/\Inv P S0 w0 C' ((b,.cells (ver+1) ro [.row t []])::h)/\C'.M b=some ⟨ver+1,none,0,false⟩/\(∀y,C'.M y≠none->C.M y≠none):=by
 have T:=I.turn (b:=b) (e:=en) (e':=⟨ver+1,none,0,false⟩) (ao:= .cells (ver+1) ro [.row t []]) (w':=C.w) hM (by show en.ver<=ver+1;omega)
  (fun q=>by have q:en.ver=ver+1:=q;omega) (fun q=>by simp[hp]at q) I.below (MZ _) (fun _ _ _=>rfl) (fun _ _ _ _=>rfl) (fun _ _ _ q=>q)
  (fun c q=>by simp at q) (fun c j _ q _=>by simp at q) (fun le=>⟨rfl,rfl,mY,t,rfl⟩) (fun c _ q=>by rw[hc]at q;simp at q)
 refine⟨⟨C.w,C.RO,fun x=>if x=b then some ⟨ver+1,none,0,false⟩else C.M x⟩,rfl,T.1,T.2,by simp,fun y hy=> ?_⟩;by_cases hyb:y=b
 ·subst hyb;rw[hM];simp
 ·simpa[hyb]using hy
theorem xU(od dn:List Value)(z:Array Value): ∃post,(od.toArray++dn.toArray++z).toList=(od++dn)++post:=⟨z.toList,by simp⟩
theorem n_(dn:List Value)(z:Array Value): ∃post,(([]:List Value).toArray++dn.toArray++z).toList=dn++post:=⟨z.toList,by simp⟩
theorem kG{c o:Nat}{a:Addr}{dn:List Value}{w:World}(ha:dn=[]\/a=⟨c,o,none⟩)(hex: ∀j,j<dn.length->(w.cell? ⟨c,o+j,none⟩).isSome=true)
  (hf: ∀j,(w.cell? ⟨c,j,none⟩).isSome=true->w.frozen? ⟨c,j,none⟩=false) (h1: ∀v∈dn,v.oneCell'=true):(storeCells a dn).run P w= .ok () (w.setCells c o dn):=by
 rcases ha with rfl|rfl
 ·rfl
 ·have:=run_storeCells_cells (P:=P) c o dn 0 w (fun j hj=>by simpa using hex j hj) (fun j hj=>by simpa using hf _ (hex j hj)) h1;simpa using this
theorem Cat.one{t:Ty}{xs:List t.den}{ds:List Value}(hc:Cat (Rep C t) xs ds): ∀v∈ds,v.oneCell'=true:=fun v hv=>xC ((PR.lU hc).cellV v hv)
theorem iY{ty:Ty}{hd:Held}{xs:List ty.den}(e:rD ty hd=some xs):hd=⟨ty,xs⟩:=by
 cases hd with
 |mk td xs'=>
  obtain⟨h1,h2⟩:=iJ e;cases h1;cases h2;rfl
theorem jd{od dn:List Value}{zv:Value}{z a b nc:Nat}(h1:od.length=a*z)(h2:dn.length=b*z)(h3:zv.cells.size=z)(h4:a+b<=nc):
  (od.toArray++dn.toArray++MR zv.cells (nc-(a+b))).size=nc*z:=by
 simp only[Qr,List.size_toArray,jm,h1,h2,h3];rw[<-Oa,<-Oa];congr 1;omega
theorem wP(I:Inv P S0 w0 C h)(hM:C.M nx=none)(hs:bP h' h){t t2:TypeId}{s x:AV}{v u:Value}{r:AV×h_}{ts:Array TypeId}(e0:ts[0]?=some t)(e1:ts[1]?=some t2){ty':TypeId}
  (e:(yK P h' nx t t2 s x).Ev r) (hv:VR C s v) (hu:VR C x u):
  Does P S0 w0 cs C h nx ((do pure (.value (<-NJ ts ty' #[v,u])):Sem Next).run P C.w) r:=by
 unfold yK at e;split at e
 ·rename_i el G5;simp only[cond_eq_ite]at e;split at e
  ·exact(F.ah e).elim
  ·rename_i hz;simp only[N7,Nj,not_or,PL,Bool.not_eq_false]at hz;obtain⟨h2,hg⟩:=hz;obtain⟨i,zv,hi,hzv,hzs,hb⟩:=nZ hg;split at e
   ·rename_i ty hty;have hsz:i.size=ty.size:=by rw[<-eu hi];exact b_ hty
    split at e
    ·exact(F.ah e).elim
    ·rename_i ys hys;obtain⟨dn,hdn,hsrc⟩:=jE I hs hys hu;have hdl:dn.length=ML ys*ty.size:=Cat.length (fun _ _ h=>Rep.length h) hdn;have RA:=fun (base:Option Addr) (sLen sCap:Nat) (od:List Value) (hbase:Src P C.w ty.size sLen (.slice base sLen sCap) od) (hr:sLen+ML ys<roomOf P el)=>
      Df (P:=P) (w:=C.w) (ty:=ty') (base:=base) (sLen:=sLen) (sCap:=sCap) (od:=od) G5 h2 hi hzv (by rw[hsz];exact hsrc) (by rw[hsz];exact hbase) hb (lT hi hb hr) e0 e1
     split at e
     ·obtain⟨hroom,e⟩:=F.aF e;obtain rfl:=F.au e;have hroom:=of_decide_eq_true hroom;cases hv;rcases RA none 0 0 [] (Src.slice (by simp) (.inl rfl)) (by omega)with⟨q1,q2⟩|⟨q1,nc,q2,q3⟩
      ·have hn:ML ys=0:=by omega
       have hy0:=M_ hn;obtain⟨C',c1,c2,c3,c4,c5⟩:=I.D_ hM (t:=ty) (w':=C.w) rfl I.below;refine Does.val (C':=C') (v:= .slice none 0 0) ?_ ?_ c2 (.own c4 (MZ _) (fun _=>⟨rfl,rfl⟩) ⟨_,_,_,rfl⟩) c5
       ·rw[q2,c1,hn];rfl
       ·rw[hy0];exact c3
      ·obtain⟨C',c1,c2,c3,c4,c5⟩:=I.newRow hM hdn (e:=el) (fz:=(0,0)) (cap:=nc) (arr:=[].toArray++dn.toArray++MR zv.cells (nc-(0+ML ys)))
        (w':=C.w.drew.alloc (.cells ([].toArray++dn.toArray++MR zv.cells (nc-(0+ML ys))) el)) rfl rfl rfl rfl (n_ _ _) (fun j _=>by simp)
        (by rw[jd (z:=ty.size) (a:=0) (b:=ML ys) (by simp) hdl (by rw[hzs,hsz]) q2];exact MZ _) (by omega)
       refine Does.val (C':=C') ?_ c3 c2 c4 c5;rw[q3,c1,NV]
     ·rename_i b ver t0;split at e
      ·rename_i w hd hr;split at e
       ·rename_i xs hxs;obtain⟨hroom,e⟩:=F.aF e;obtain rfl:=F.au e;have hroom:=of_decide_eq_true hroom;split at hxs
        ·rename_i ht0;simp only[MS,Nj]at ht0;have hbn:b≠aX:=fun q=>by rw[q,QA]at ht0;exact absurd ht0.2 (by decide)
         have ht0:=MP ht0.1;obtain rfl:=iY hxs;obtain⟨ro,en,g1,g2,g3,g4,g5,g6,g7⟩:=I.rowLen hs hr;have g6:en.len=ML xs:=g6;have g2:w= !ro:=g2;subst g2;rw[Bool.not_not];cases hv with
         |own k1 k2 k3 k4=>
          rw[g3]at k1;obtain rfl:=MN k1;have k3:=k3 g4.symm;unfold dO at k3;split at k3
          ·rename_i c hc;rw[hc]at g7;obtain⟨pre,p1,p2,p3⟩:=g7;obtain⟨cap,rfl,k5,k6⟩:=k3;have hpl:pre.length=ML xs*ty.size:=Cat.length (fun _ _ h=>Rep.length h) p1;have hl2:ML (xs++ys)=ML xs+ML ys:=OE;rcases RA (some ⟨c,0,none⟩) en.len cap pre (by rw[g6];exact Src.slice hpl (.inr ⟨c,0,rfl,fun j v hj=>p2 j v hj⟩)) (by rw[g6];exact hroom)with⟨q1,q2⟩|⟨q1,nc,q2,q3⟩
           ·have hex: ∀j,j<dn.length->(C.w.cell? ⟨c,pre.length+j,none⟩).isSome=true:=fun j hj=>k6 _ (by
             rw[ht0];have:(ML xs+ML ys)*ty.size<=cap*ty.size:=Np _ (by omega);rw[Oa]at this;omega)
            obtain⟨C',c1,c2,c3,c4,c5,c6⟩:=I.IB (zs:=xs++ys) (dn:=dn) (o:=pre.length) (ru:=ver+1) g1 g3 g4 g5 hc p1 p2 p3 (MZ _) hex
             (by rw[QE,PS (by omega),OD];exact Cat.append p1 hdn) (.inr (MZ _)) (.inl (QF _))
            refine Does.val (C':=C') (v:= .slice (some ⟨c,0,none⟩) (en.len+ML ys) cap) ?_ c3 c2 (.own c4 (MZ _) (fun _=>⟨cap,?_,?_,?_⟩) ⟨_,_,_,rfl⟩) (fun y hy=> .inl (c5 y hy))
            ·rw[q2,c1];have hst:=kG (P:=P) (a:=(⟨c,0,none⟩:Addr).add (en.len*i.size)) (o:=pre.length) (w:=C.w) (dn:=dn) (.inr (by rw[Qx,hpl,g6,hsz,NV])) hex p3 hdn.one;simp only[MO,hst,MK,MQ]
            ·show NK _ _ _= .slice _ (ML (xs++ys)) _;rw[hl2,g6]
            ·show ML (xs++ys)<=cap;omega
            ·exact c6 _ (by rw[<-ht0];exact k6)
           ·obtain⟨C',c1,c2,c3,c4,c5,c6⟩:=I.zn (zs:=xs++ys) (ds:=pre++dn) g3 g4 g5 ro (Cat.append p1 hdn) (e:=el)
             (arr:=pre.toArray++dn.toArray++MR zv.cells (nc-(en.len+ML ys)))
             (w':=C.w.drew.alloc (.cells (pre.toArray++dn.toArray++MR zv.cells (nc-(en.len+ML ys))) el)) rfl rfl rfl rfl (xU _ _ _) hbn
            refine Does.val (C':=C') (v:= .slice (some ⟨C.w.heap.size,0,none⟩) (en.len+ML ys) nc) ?_ c3 c2 (.own c4 (MZ _) (fun _=>⟨nc,?_,?_,?_⟩) ⟨_,_,_,rfl⟩) (fun y hy=> .inl (c5 y hy))
            ·rw[q3,c1]
            ·show NK _ _ _= .slice _ (ML (xs++ys)) _;rw[hl2,g6]
            ·show ML (xs++ys)<=nc;omega
            ·rw[jd (z:=ty.size) (by rw[g6];exact hpl) hdl (by rw[hzs,hsz]) q2]at c6;exact c6
          ·rename_i hc;obtain⟨k5,rfl⟩:=k3;rw[hc]at g7;have g7:xs=[]:=g7;subst g7;rcases RA none 0 0 [] (Src.slice (by simp) (.inl rfl)) hroom with⟨q1,q2⟩|⟨q1,nc,q2,q3⟩
           ·have hn:ML ys=0:=by omega
            have hy0:=M_ hn;obtain⟨C',c1,c2,c3,c4,c5⟩:=I.Ei (t:=ty) g3 g4 g5 hc ro;refine Does.val (C':=C') (v:= .slice none 0 0) ?_ ?_ c2 (.own c4 (MZ _) (fun _=>⟨rfl,rfl⟩) ⟨_,_,_,rfl⟩) (fun y hy=> .inl (c5 y hy))
            ·rw[q2,c1,hn];rfl
            ·rw[hy0];exact c3
           ·obtain⟨C',c1,c2,c3,c4,c5,c6⟩:=I.zn (zs:=ys) (ds:=dn) g3 g4 g5 ro hdn (e:=el)
             (arr:=[].toArray++dn.toArray++MR zv.cells (nc-(0+ML ys)))
             (w':=C.w.drew.alloc (.cells ([].toArray++dn.toArray++MR zv.cells (nc-(0+ML ys))) el)) rfl rfl rfl rfl (n_ _ _) hbn
            refine Does.val (C':=C') (v:= .slice (some ⟨C.w.heap.size,0,none⟩) (0+ML ys) nc) ?_ c3 c2 (.own c4 (MZ _) (fun _=>⟨nc,?_,?_,?_⟩) ⟨_,_,_,rfl⟩) (fun y hy=> .inl (c5 y hy))
            ·rw[q3,c1]
            ·rw[NV]
            ·show ML ys<=nc;omega
            ·rw[jd (z:=ty.size) (a:=0) (by simp) hdl (by rw[hzs,hsz]) q2]at c6;exact c6
        ·simp at hxs
       ·exact(F.ah e).elim
      ·exact(F.ah e).elim
     ·rename_i b ver t0 n;split at e
      ·rename_i hd hr;split at e
       ·rename_i xs hxs;obtain⟨hroom,e⟩:=F.aF e;obtain rfl:=F.au e;simp only[MS,decide_eq_true_eq]at hroom;obtain⟨hroom,hn0⟩:=hroom;split at hxs
        ·rename_i ht0;simp only[MS,Nj]at ht0;have hbn:b≠aX:=fun q=>by rw[q,QA]at ht0;exact absurd ht0.2 (by decide)
         have ht0:=MP ht0.1;obtain rfl:=iY hxs;obtain⟨ro,en,g1,g2,g3,g4,g5,g6,g7⟩:=I.rowLen hs hr;have g6:en.len=ML xs:=g6;have g2:true= !ro:=g2;have hro:ro=false:=by cases ro with|false=>rfl|true=>exact absurd g2 (by decide)
         subst hro;have hl2:n.toNat<=ML xs->ML (xs.take n.toNat++(ys++xs.drop (n.toNat+ML ys)))=max (ML xs) (n.toNat+ML ys):=by
          intro hle;show ML (xs.take n.toNat++(ys++xs.drop (n.toNat+ML ys)))=max _ _;rw[OE,OE,NH,QD];omega
         cases hv with
         |slc k1 k2 k3 k4=>
          rw[g3]at k1;obtain rfl:=MN k1;obtain⟨s1,s2,s3,s4⟩:=k3 g4.symm;have s3:0+n<=(en.len:Nat):=s3;split at s4
          ·rename_i hc;obtain⟨_,k5,rfl⟩:=s4;rw[hc]at g7;have g7:xs=[]:=g7;subst g7;have hnn:n=0:=by omega
           subst hnn;rcases RA none 0 0 [] (Src.slice (by simp) (.inl rfl)) hroom with⟨q1,q2⟩|⟨q1,nc,q2,q3⟩
           ·have hn:ML ys=0:=by omega
            have hy0:=M_ hn;subst hy0;obtain⟨C',c1,c2,c3,c4,c5⟩:=I.Ei (t:=ty) g3 g4 g5 hc false;refine Does.val (C':=C') (v:= .slice none 0 0) ?_ ?_ c2 (.slc c4 (MZ _) (fun _=>⟨PG _,by simp,by simp,rfl,rfl,rfl⟩) ⟨_,_,_,rfl⟩) (fun y hy=> .inl (c5 y hy))
            ·rw[q2,c1];rfl
            ·exact c3
           ·have FV:QS (α:=ty.den) (List.take (OC 0) []) (QS (α:=ty.den) ys (List.drop (α:=ty.den) (OC 0+ML ys) []))=ys:=by
             show ([]:List ty.den).take 0++(ys++([]:List ty.den).drop _)=ys;simp
            obtain⟨C',c1,c2,c3,c4,c5,c6⟩:=I.zn (zs:=ys) (ds:=dn) g3 g4 g5 false hdn (e:=el)
             (arr:=[].toArray++dn.toArray++MR zv.cells (nc-(0+ML ys)))
             (w':=C.w.drew.alloc (.cells ([].toArray++dn.toArray++MR zv.cells (nc-(0+ML ys))) el)) rfl rfl rfl rfl (n_ _ _) hbn
            refine Does.val (C':=C') (v:= .slice (some ⟨C.w.heap.size,0,none⟩) (0+ML ys) nc) ?_ ?_ c2 (.slc c4 (MZ _) (fun _=>⟨PG _,by simp,by simp,⟨C.w.heap.size,0,none⟩,nc,?_,fun _=>by simp,?_,?_⟩) ⟨_,_,_,rfl⟩) (fun y hy=> .inl (c5 y hy))
            ·rw[q3,c1]
            ·show Inv P S0 w0 C' ((b,.cells (ver+1) false [.row ty (QS (α:=ty.den) _ _)])::h);rw[FV];exact c3
            ·congr 1
            ·show ML ys<=0+nc;omega
            ·rw[jd (z:=ty.size) (a:=0) (by simp) hdl (by rw[hzs,hsz]) q2]at c6;simpa using c6
          ·rename_i c hc;obtain⟨a,cap,rfl,s5,s6,s7⟩:=s4;rw[hc]at g7;obtain⟨pre,p1,p2,p3⟩:=g7;have p1:Cat (Rep C ty) xs pre:=p1;have hpl:pre.length=ML xs*ty.size:=Cat.length (fun _ _ h=>Rep.length h) p1;have hnx:n.toNat<=ML xs:=by omega
           have s6:en.len<=0+cap:=s6;have s7:Ey C c (0+(0+cap)*t0.size):=s7;have s5:cap≠0->a=⟨c,0,none⟩:=fun q=>by rw[s5 q];simp
           have hl2:=hl2 hnx;have hmul:n.toNat*ty.size<=ML xs*ty.size:=Np _ hnx;have hcont:Cat (Rep C ty) (xs.take n.toNat++(ys++xs.drop (n.toNat+ML ys))) (pre.take (n.toNat*ty.size)++(dn++pre.drop ((n.toNat+ML ys)*ty.size))):=
            Cat.append (Cat.split (fun _ _ h=>Rep.length h) n.toNat p1).1 (Cat.append hdn (Cat.split (fun _ _ h=>Rep.length h) (n.toNat+ML ys) p1).2)
           have htl:(pre.take (n.toNat*ty.size)).length=n.toNat*ty.size:=by rw[NH,hpl];omega
           have hbz:Src P C.w ty.size n.toNat (.slice (some a) n.toNat cap) (pre.take (n.toNat*ty.size)):=Src.slice htl (by
            by_cases hn:n.toNat=0
            ·exact .inl hn
            ·right
             refine⟨c,0,by rw[s5 (by omega)],fun j v hj=> ?_⟩;rw[Nq]at hj;split at hj
             ·exact p2 j v hj
             ·simp at hj)
           rcases RA (some a) n.toNat cap _ hbz (by omega)with⟨q1,q2⟩|⟨q1,nc,q2,q3⟩
           ·have hex: ∀j,j<dn.length->(C.w.cell? ⟨c,n.toNat*ty.size+j,none⟩).isSome=true:=fun j hj=>s7 _ (by
             rw[ht0];have:(n.toNat+ML ys)*ty.size<=cap*ty.size:=Np _ (by omega);rw[Oa]at this;simp only[NV];omega)
            obtain⟨C',c1,c2,c3,c4,c5,c6⟩:=I.IB (zs:=xs.take n.toNat++(ys++xs.drop (n.toNat+ML ys))) (dn:=dn) (o:=n.toNat*ty.size) (ru:=ver+1) g1 g3 g4 g5 hc p1 p2 p3 (by omega) hex
             (by rw[hdl,<-Oa];exact hcont) (.inl rfl) (.inl (QF _))
            refine Does.val (C':=C') (v:= .slice (some a) (n.toNat+ML ys) cap) ?_ c3 c2 (.slc c4 (MZ _) (fun _=>⟨PG _,by omega,?_,a,cap,?_,?_,?_,?_⟩) ⟨_,_,_,rfl⟩) (fun y hy=> .inl (c5 y hy))
            ·rw[q2,c1];have hst:=kG (P:=P) (a:=a.add (n.toNat*i.size)) (o:=n.toNat*ty.size) (w:=C.w) (dn:=dn) (by
              by_cases hcap:cap=0
              ·left
               have:ML ys=0:=by omega
               rw[this,Nat.zero_mul]at hdl;exact M_ hdl
              ·right
               rw[s5 hcap,Qx,hsz,NV]) hex p3 hdn.one
             simp only[MO,hst,MK,MQ]
            ·show 0+(n+(ML ys:Int))<=((ML (xs.take n.toNat++(ys++xs.drop (n.toNat+ML ys))):Nat):Int);rw[hl2];omega
            ·congr 1;omega
            ·intro q;rw[s5 q];simp
            ·show ML (xs.take n.toNat++(ys++xs.drop (n.toNat+ML ys)))<=0+cap;rw[hl2];omega
            ·refine c6 _ ?_;rw[<-ht0];exact s7
           ·have hdrop:xs.drop (n.toNat+ML ys)=[]:=PS (by omega);obtain⟨C',c1,c2,c3,c4,c5,c6⟩:=I.zn (zs:=xs.take n.toNat++(ys++xs.drop (n.toNat+ML ys))) (ds:=pre.take (n.toNat*ty.size)++dn) g3 g4 g5 false
             (by rw[hdrop,OD];exact Cat.append (Cat.split (fun _ _ h=>Rep.length h) n.toNat p1).1 hdn) (e:=el)
             (arr:=(pre.take (n.toNat*ty.size)).toArray++dn.toArray++MR zv.cells (nc-(n.toNat+ML ys)))
             (w':=C.w.drew.alloc (.cells ((pre.take (n.toNat*ty.size)).toArray++dn.toArray++MR zv.cells (nc-(n.toNat+ML ys))) el)) rfl rfl rfl rfl (xU _ _ _) hbn
            refine Does.val (C':=C') (v:= .slice (some ⟨C.w.heap.size,0,none⟩) (n.toNat+ML ys) nc) ?_ c3 c2 (.slc c4 (MZ _) (fun _=>⟨PG _,by omega,?_,⟨C.w.heap.size,0,none⟩,nc,?_,fun _=>by simp,?_,?_⟩) ⟨_,_,_,rfl⟩) (fun y hy=> .inl (c5 y hy))
            ·rw[q3,c1]
            ·show 0+(n+(ML ys:Int))<=((ML (xs.take n.toNat++(ys++xs.drop (n.toNat+ML ys))):Nat):Int);rw[hl2];omega
            ·congr 1;omega
            ·show ML (xs.take n.toNat++(ys++xs.drop (n.toNat+ML ys)))<=0+nc;rw[hl2];omega
            ·rw[jd (z:=ty.size) htl hdl (by rw[hzs,hsz]) q2]at c6;simpa using c6
        ·simp at hxs
       ·exact(F.ah e).elim
      ·exact(F.ah e).elim
     ·exact(F.ah e).elim
   ·exact(F.ah e).elim
 ·exact(F.ah e).elim
end
end Go.AM
end
section
namespace Go.AM
variable [Tabs]
open Go.RowKit
section
variable {P:Program} {S0:Base} {w0:World} {cs:List Frame} {C:Cx} {h h':Hp} {nx:Nat}
theorem Dh{α:Type}(cs ds:List α){o a b:Nat}(hle:o+b<=cs.length)(hab:a+ds.length<=b):
  cs.take o++((((cs.drop o).take b).take a++(ds++((cs.drop o).take b).drop (a+ds.length)))++cs.drop (o+b))=
  cs.take (o+a)++(ds++cs.drop (o+a+ds.length)):=by
 apply Qw
 intro j;simp only[P9,Nq,Nz,NH,OE,QD]
 grind
theorem Inv.Io(I:Inv P S0 w0 C h){b ver off:Nat}{en:tC}{c:Nat}{ps l:List AV}{pre dn:List Value}(hg:h.get b=some (.cells ver false ps))(hM:C.M b=some en)(hv:en.ver=ver)(hp:en.perm=false)
  (hc:en.cb=some c) (p2:C.w.rangeAt c 0 pre) (p3: ∀j,(C.w.cell? ⟨c,j,none⟩).isSome=true->C.w.frozen? ⟨c,j,none⟩=false) (hle:off+dn.length<=pre.length)
  (hl:dR en.len l) (s1:PR C l (pre.take off++(dn++pre.drop (off+dn.length)))):
  ∃C',C'.w=C.w.setCells c off dn/\C.Le C'/\Inv P S0 w0 C' ((b,.cells ver false l)::h)/\(∀y,C'.M y≠none->C.M y≠none)/\(∀a,dn=[]\/a=⟨c,off,none⟩->(∀v∈dn,v.oneCell'=true)->(storeCells a dn).run P C.w= .ok () C'.w):=by
 have loc:=I.loc _ _ _ hM hc;have hex: ∀j,j<dn.length->(C.w.cell? ⟨c,off+j,none⟩).isSome=true:=fun j hj=>by
  have:=p2 (off+j) pre[off+j] (by rw[OA (by omega)]);simp only[NV]at this;rw[this];rfl
 have Fj: ∀j,C.RO c j->False:=fun j hj=>by
  obtain⟨v',ps',r1,r2⟩:=I.w_ _ _ _ _ hM hc hj;rw[hg]at r1;simp at r1
 have T:=I.turn (b:=b) (e:=en) (e':=en) (ao:= .cells ver false l) (w':=C.w.setCells c off dn) hM (MZ _) (fun _=>rfl) (fun _=>rfl)
  (Keep.setCells loc.1 _ _ I.below) (by rw[size_setCells];exact MZ _) (fun k _ hk=>fC _ _ _ _ (fun q=>hk (by rw[q];exact hc)))
  (fun c' j hc' hr=>by rw[hc]at hc';obtain rfl:=MN hc';exact(Fj j hr).elim)
  (fun c' j hc' hr=>by rw[hc]at hc';obtain rfl:=MN hc';rw[isSome_setCells hex];exact hr)
  (fun c' hc'=> .inl hc')
  (fun c' j hc' _ hr=>by rw[hc]at hc';obtain rfl:=MN hc';exact(Fj j hr).elim)
  (fun le=>by
   refine⟨hv,hp,hl,?_⟩;rw[hc];refine⟨_,s1.mono le,nI p2 (by omega) hex,fun j hj=> ?_⟩;rw[PO];have hj:((C.w.setCells c off dn).cell? ⟨c,j,none⟩).isSome=true:=hj;rw[isSome_setCells hex]at hj;exact p3 j hj)
 refine⟨⟨C.w.setCells c off dn,C.RO,fun x=>if x=b then some en else C.M x⟩,rfl,T.1,T.2,fun y hy=> ?_,fun a ha h1=>kG ha hex p3 h1⟩;by_cases hyb:y=b
 ·subst hyb;rw[hM];simp
 ·simpa[hyb]using hy
theorem Inv.again(I:Inv P S0 w0 C h){b:Nat}{o:gI}(hg:h.get b=some o):Inv P S0 w0 C ((b,o)::h):=by
 refine⟨I.below,fun x q hx=> ?_,fun x ex hx=> ?_,I.loc,I.inj,I.ro,fun x ex c j hx hc hr=> ?_,I.pin,let ⟨H,hH⟩:=I.hid;⟨H,hH.step (fun x T t xs q=>by
  rw[Hp.aB]at q;split at q
  ·rename_i hb;subst hb;rw[hg];exact q
  ·exact q) (fun _ _ q _=>q) (MZ _) (fun _ _ _ _ _ _ _ _ _ _=>rfl) (fun _ _ _ _=>rfl) (fun x en g q hc=> .inl ⟨x,en,q,hc⟩) (fun _ _ r=> .inl r)⟩,I.tabs,I.good⟩
 ·rw[Hp.aB]at hx;split at hx
  ·rename_i hb;subst hb;obtain rfl:=MN hx;exact I.obj _ _ hg
  ·exact I.obj _ _ hx
 ·rw[Hp.aB];split
  ·exact⟨_,rfl⟩
  ·exact I.dom _ _ hx
 ·rw[Hp.aB];split
  ·rename_i hb;subst hb;obtain⟨v,ps,q1,q2⟩:=I.w_ _ _ _ _ hx hc hr;rw[hg]at q1;exact⟨v,ps,q1,q2⟩
  ·exact I.w_ _ _ _ _ hx hc hr
theorem nN{α:Type}{xs l:List α}{i:Nat}(h:i+l.length<=xs.length):(splice xs i l).length=xs.length:=by simp[splice];omega
theorem Inv.ql(I:Inv P S0 w0 C h)(hs:bP h' h){b v o:Nat}{m:Option Nat}{ps:List AV}{u:Sub AV}(e:h'.sub b v o m=some (true,ps,u))(i:Nat){l:List u.t.den}{dn:List Value}
  (hd:Cat (Rep C u.t) l dn) (hil:i+l.length<=u.xs.length):
  ∃en C',C.M b=some en/\en.ver=v/\u.xs.length=m.getD en.len/\(en.cb=none->u.xs.length=0)/\C.Le C'/\Inv P S0 w0 C' ((b,.cells v false (putAt ps o (u.put (splice u.xs i l))))::h)/\(∀y,C'.M y≠none->C.M y≠none)/\
   (∀a,(dn=[]\/ ∃c,en.cb=some c/\a=⟨c,o+i*u.t.size,none⟩)->(storeCells a dn).run P C.w= .ok () C'.w)/\(dn=[]->C'.w=C.w):=by
 obtain⟨ro,en,g1,g2,g3,g4,g5,g6,g7,g8,g9⟩:=I.zD hs e;have g2:true= !ro:=g2;have hro:ro=false:=by cases ro with|false=>rfl|true=>exact absurd g2 (by decide)
 subst hro;have g6:dR en.len ps:=g6;have g7:cO ps o=some u:=g7;have g8:u.xs.length=_:=g8;have hdl:dn.length=ML l*u.t.size:=Cat.length (fun _ _ h=>Rep.length h) hd;cases hc:en.cb with
 |none=>
  rw[hc]at g9;obtain⟨g9,hm⟩:=g9;have g9:u.xs=[]:=g9;have hl0:l=[]:=by
   have:ML (α:=u.t.den) u.xs=0:=by rw[g9];rfl
   exact M_ (by omega)
  subst hl0;have hdn:dn=[]:=hd;subst hdn;have hsame:putAt ps o (u.put (splice u.xs i []))=ps:=by
   obtain⟨ro',en',b1,b2,b3,b4,b5,b6,b7⟩:=I.block hs (Hp.qm e).1;rw[b3]at g3;obtain rfl:=MN g3;rw[hc]at b7;obtain⟨t,b7⟩:=b7;have b7:ps=[.row t []]:=b7;subst b7;have hsp:splice u.xs i []=u.xs:=by rw[g9];simp[splice]
   rw[hsp];unfold AM.cO AM.aJ at g7;split at g7
   ·rename_i p tl hp;cases hb0:Oh o 0 with
    |true=>
     simp[hb0]at hp;obtain⟨rfl,_⟩:=hp;simp[jG]at g7;subst g7;simp[putAt,hb0]
    |false=>
     simp only[hb0,cond_false]at hp;cases hb1:Nat.blt o (AV.row t []).size<;>simp[hb1,AM.aJ]at hp
   ·simp at g7
  refine⟨en,C,g3,g4,g8,fun _=>by rw[g9];rfl,.refl C,?_,fun y hy=>hy,fun a _=>rfl,fun _=>rfl⟩;rw[hsame];exact I.again g1
 |some c=>
  rw[hc]at g9;obtain⟨pre,p1,p2,p3,p4,p5⟩:=g9;have p4:o+u.xs.length*u.t.size<=pre.length:=p4;have p5:Cat (Rep C u.t) u.xs ((pre.drop o).take (u.xs.length*u.t.size)):=p5;obtain⟨s1,s2,s3,s4⟩:=p1.cO g7;have hmul:(i+ML l)*u.t.size<=u.xs.length*u.t.size:=Np _ hil;rw[Oa]at hmul;have qL:Cat (Rep C u.t) (splice u.xs i l) (((pre.drop o).take (u.xs.length*u.t.size)).take (i*u.t.size)++(dn++((pre.drop o).take (u.xs.length*u.t.size)).drop (i*u.t.size+dn.length))):=by
   have k1:=(Cat.split (fun _ _ h=>Rep.length h) i p5).1;have k2:=(Cat.split (fun _ _ h=>Rep.length h) (i+ML l) p5).2;rw[Oa,<-hdl]at k2;exact Cat.append k1 (Cat.append hd k2)
  have hput:=s4 _ _ (nN hil) qL;rw[Dh _ _ p4 (by omega)]at hput;obtain⟨C',c1,c2,c3,c4,c5⟩:=I.Io (off:=o+i*u.t.size) (dn:=dn) g1 g3 g4 g5 hc p2 p3 (by omega) (jX g6 g7 _ (nN hil)) hput;refine⟨en,C',g3,g4,g8,fun q=>by rw[hc]at q;simp at q,c2,c3,c4,fun a ha=>c5 a ?_ hd.one,fun q=>by rw[c1,q];rfl⟩;rcases ha with ha|⟨c',q1,q2⟩
  ·exact .inl ha
  ·rw[hc]at q1;obtain rfl:=MN q1;exact .inr q2
end
end Go.AM
end
section
namespace Go.AM
variable [Tabs]
open Go.RowKit
section
variable {P:Program} {S0:Base} {w0:World} {cs:List Frame} {C:Cx} {h h':Hp} {nx:Nat}
def putRow(base:Option Addr)(dn:List Value):Sem Unit:=do
 if let some a:=base then storeCells a dn
theorem nM(I:Inv P S0 w0 C h)(hs:bP h' h){s:AV}{v:Value}{ys:(ty:Ty)->Int->Option (List ty.den)}{n:Int}{upd:h_}(e:tZ h' s ys=some (n,upd))(hv:VR C s v)
  (hys: ∀ty k l,ys ty k=some l->ML (α:=ty.den) l<=k.toNat) (hc: ∀ty k l,ys ty k=some l-> ∃dn,Cat (Rep C ty) l dn):
  ∃(ty:Ty) (l:List ty.den) (dLen:Nat) (base:Option Addr) (cap:Nat),ys ty dLen=some l/\n=ML l/\v= .slice base dLen cap/\(base=none->dLen=0)/\ ∀dn,Cat (Rep C ty) l dn->
   ∃C',Inv P S0 w0 C' (upd++h)/\C.Le C'/\(∀y,C'.M y≠none->C.M y≠none)/\(putRow base dn).run P C.w= .ok () C'.w:=by
 unfold tZ at e;split at e
 ·rename_i b ver t0;split at e
  ·rename_i u hr;split at e
   ·rename_i l hl;simp only[MW,OZ]at e;obtain⟨e1,e2⟩:=e;subst e2;obtain⟨ro,en,g1,g2,g3,g4,g5,g6,g7⟩:=I.rowLen hs hr;have g6:en.len=ML u.xs:=g6;have hsub:h'.sub b ver 0 none=some (true,[.row u.t u.xs],⟨none,u.t,u.xs,fun ys=> .row u.t ys⟩):=by
     have:=Hp.Bf hr;unfold Hp.sub;rw[this];rfl
    have hle:=hys _ _ _ hl;have hl':ML l<=ML u.xs:=by omega
    cases hv with
    |own k1 k2 k3 k4=>
     rw[g3]at k1;obtain rfl:=MN k1;have k3:=k3 g4.symm;unfold dO at k3;split at k3
     ·rename_i c hcb;obtain⟨cap,rfl,k5,k6⟩:=k3;refine⟨u.t,l,en.len,some ⟨c,0,none⟩,cap,by rw[g6];exact hl,e1.symm,rfl,fun q=>by simp at q,fun dn hdn=> ?_⟩;obtain⟨en',C',q1,q2,q3,q4,q5,q6,q7,q8,q9⟩:=I.ql hs hsub 0 (l:=l) (dn:=dn) hdn (by show 0+ML l<=ML u.xs;omega);rw[g3]at q1;obtain rfl:=MN q1;exact⟨C',q6,q5,q7,q8 _ (.inr ⟨c,hcb,by simp⟩)⟩
     ·rename_i hcb;obtain⟨k5,rfl⟩:=k3;refine⟨u.t,l,0,none,0,by rw[<-g6,k5]at hl;exact hl,e1.symm,rfl,fun _=>rfl,fun dn hdn=> ?_⟩;obtain⟨en',C',q1,q2,q3,q4,q5,q6,q7,q8,q9⟩:=I.ql hs hsub 0 (l:=l) (dn:=dn) hdn (by show 0+ML l<=ML u.xs;omega);have hl0:l=[]:=M_ (by omega);subst hl0;have hdn:dn=[]:=hdn;refine⟨C',q6,q5,q7,?_⟩;rw[q9 hdn];rfl
   ·simp at e
  ·simp at e
 ·rename_i b ver o m t0 i n0;split at e
  ·rename_i ps u hsub;simp only[cond_eq_ite]at e;split at e
   ·rename_i hz;have hz:=MP hz;split at e
    ·rename_i l hl;simp only[MW,OZ]at e;obtain⟨e1,e2⟩:=e;subst e2;have hle:=hys _ _ _ hl;obtain⟨ro,en,g1,g2,g3,g4,g5,g6,g7,g8,g9⟩:=I.zD hs hsub;have g8:ML u.xs=m.getD en.len:=g8;cases hv with
     |slc k1 k2 k3 k4=>
      rw[g3]at k1;obtain rfl:=MN k1;obtain⟨q1,q2,q3,q4⟩:=k3 g4.symm;have hbd:i.toNat+ML l<=ML u.xs:=by omega
      split at q4
      ·rename_i hcb;obtain⟨r1,r2,rfl⟩:=q4;have hn0:n0=0:=by rw[r1]at q3;simp at q3;omega
       subst hn0;refine⟨u.t,l,0,none,0,hl,e1.symm,rfl,fun _=>rfl,fun dn hdn=> ?_⟩;obtain⟨en',C',s1,s2,s3,s4,s5,s6,s7,s8,s9⟩:=I.ql hs hsub i.toNat (l:=l) (dn:=dn) hdn hbd;have hl0:l=[]:=M_ (by omega);subst hl0;have hdn:dn=[]:=hdn;refine⟨C',s6,s5,s7,?_⟩;rw[s9 hdn];rfl
      ·rename_i c hcb;obtain⟨a,cap,rfl,r1,r2,r3⟩:=q4;refine⟨u.t,l,n0.toNat,some a,cap,by rw[O7 q2];exact hl,e1.symm,rfl,fun q=>by simp at q,fun dn hdn=> ?_⟩;obtain⟨en',C',s1,s2,s3,s4,s5,s6,s7,s8,s9⟩:=I.ql hs hsub i.toNat (l:=l) (dn:=dn) hdn hbd;rw[g3]at s1;obtain rfl:=MN s1;refine⟨C',s6,s5,s7,s8 a ?_⟩;by_cases hcap:cap=0
       ·left
        have hl0:l=[]:=M_ (by omega);subst hl0;exact hdn
       ·right
        exact⟨c,hcb,by rw[r1 hcap,hz]⟩
    ·simp at e
   ·simp at e
  ·simp at e
 ·simp at e
theorem Does.Em{s:Sem Value}{v:Value}{C':Cx}{x:AV×h_}(hr:s.run P C.w= .ok v C'.w)(I':Inv P S0 w0 C' (x.2++h))(le:C.Le C')(hv:VR C' x.1 v)(hn: ∀y,C'.M y≠none->C.M y≠none):
  Does P S0 w0 cs C h nx ((do pure (.value (<-s)):Sem Next).run P C.w) x:=Does.val hr I' le hv (fun y hy=> .inl (hn y hy))
theorem EJ(n:Nat)(h:n<9223372036854775808):ak .i64 (n:Int)=true:=by
 rw[fP];simp[QN,QM,PV,Pn];omega
end
end Go.AM
end
section
namespace Go.AM
variable [Tabs]
open Go.RowKit
theorem yZ{z:Array Value}: ∀n,((OM (n*z.size)).map (z[· %z.size]!)).toList=(MX n z.toList).flatten
 |0=>by simp
 |n+1=>by
  have ih:=yZ (z:=z) n;rw[ND,Array.toList_range]at ih ⊢
  rw[Oa,Nat.one_mul,List.range_add,P5,ih,List.replicate_succ',Qg];congr 1;simp only[Rt,List.flatten_cons,List.flatten_nil,OD];apply List.ext_getElem
  ·simp
  ·intro i h1 h2;simp only[List.length_map,List.length_range]at h1;simp only[List.getElem_map,List.getElem_range,Function.comp,Array.getElem_toList];have:(n*z.size+i)%z.size=i:=by rw[Nat.mul_comm,Nat.mul_add_mod,PN h1]
   rw[this,getElem!_pos z i h1]
theorem Cat.rep{α β:Type}{R:α->List β->Prop}{x:α}{c:List β}(h:R x c): ∀n,Cat R (MX n x) (MX n c).flatten
 |0=>rfl
 |n+1=>⟨c,_,by simp[List.replicate_succ],h,Cat.rep h n⟩
section
variable {P:Program} {S0:Base} {w0:World} {cs:List Frame} {C:Cx} {h h':Hp} {nx:Nat}
theorem gY{e:TypeId}{ty:Ty}{z:ty.den}(hz:qy P e ty=some z): ∃i zv,P.info? e=some i/\i.zero=some zv/\Rep C ty z zv.cells.toList/\zv.cells.size=ty.size:=by
 unfold qy at hz;split at hz
 ·rename_i ps hp;obtain⟨i,v,h1,h2,h3⟩:=dY (C:=C) hp;have:=h3.ay hz;exact⟨i,v,h1,h2,this,by have:=this.length;simpa using this⟩
 ·simp at hz
theorem wU{t:TypeId}{z:Nat}(e:elemSize P t=some z): ∃el i,P.underlying t=some (.slice el)/\P.info? el=some i/\P.cellsOf el=z:=by
 unfold elemSize at e;split at e
 ·rename_i el hu;simp only[cond_eq_ite]at e;split at e
  ·rename_i hz;obtain⟨i,hi⟩:=fQ hz;exact⟨el,i,hu,hi,by simpa using e⟩
  ·simp at e
 ·simp at e
theorem sG{n:Nat}(h:wB n=true):ak .i64 (n:Int)=true:=EJ n (by unfold wB at h;rw[O1]at h;simpa using h)
theorem Ac(I:Inv P S0 w0 C h)(hs:bP h' h){t:TypeId}{d s:AV}{v u:Value}{r:AV×h_}{ts:Array TypeId}(e0:ts[0]?=some t){ty':TypeId}
  (e:(FM P h' t d s).Ev r) (hv:VR C d v) (hu:VR C s u):
  Does P S0 w0 cs C h nx ((do pure (.value (<-Rh ts ty' #[v,u])):Sem Next).run P C.w) r:=by
 unfold FM at e;split at e
 ·rename_i z hz;obtain⟨el,i,G5,hi,hzz⟩:=wU hz;split at e
  ·rename_i n upd hsp;obtain⟨hsm,e⟩:=F.aF e;obtain rfl:=F.au e;have hspec: ∀(ty:Ty) (k:Int) (l:List ty.den),(bif Oh ty.size z then(match wC h' ty s with|some l=>some (l.take k.toNat)|none=>none)else none)=some l->ty.size=z/\ ∃l0,wC h' ty s=some l0/\l=l0.take k.toNat:=by
    intro ty k l hl;simp only[cond_eq_ite]at hl;split at hl
    ·rename_i hb;split at hl
     ·rename_i l0 hl0;exact⟨MP hb,l0,hl0,by simpa using hl.symm⟩
     ·simp at hl
    ·simp at hl
   obtain⟨ty,l,dLen,base,cap,e1,e2,e3,e4,e5⟩:=nM I hs hsp hv
    (fun ty k l hl=>by obtain⟨_,l0,_,rfl⟩:=hspec ty k l hl;rw[NH];omega)
    (fun ty k l hl=>by
     obtain⟨_,l0,hl0,rfl⟩:=hspec ty k l hl;obtain⟨ds,hds,_⟩:=jE I hs hl0 hu;exact⟨_,(Cat.split (fun _ _ h=>Rep.length h) k.toNat hds).1⟩)
   obtain⟨hty,l0,hl0,hl⟩:=hspec ty dLen l e1;obtain⟨ds,hds,hsrc⟩:=jE I hs hl0 hu;obtain⟨hdl,hsrc⟩:=hsrc;have hlen:ML l=min (ML l0) dLen:=by rw[hl,NH];simp[Nat.min_comm]
   have hl':l=l0.take (min (ML l0) dLen):=by
    rw[hl];simp only[Int.toNat_natCast];rcases Nat.le_total (ML l0) dLen with q|q
    ·rw[QV q,Oc q,QE]
    ·rw[Nat.min_eq_right q]
   have hcut:=(Cat.split (fun _ _ h=>Rep.length h) (min (ML l0) dLen) hds).1;rw[<-hl']at hcut;obtain⟨C',c1,c2,c3,c4⟩:=e5 _ hcut;subst e3;refine Does.Em (v:= .int .i64 n) ?_ c1 c2 (.int (by rw[e2]at hsm ⊢;exact sG hsm)) c3;unfold Rh;simp only[e0,show (#[NK base dLen cap,u]:Array Value)[0]?=some (.slice base dLen cap)from rfl,show (#[NK base dLen cap,u]:Array Value)[1]?=some u from rfl];simp only[MO,run_underlying G5,MK,(hsrc C.w rfl).1,run_sizeOf C.w hi,MQ];have k2:=(hsrc C.w rfl).2 (min (ML l0) dLen) (Nat.min_le_left _ _);rw[hty]at k2 c4;rw[hzz,k2,MK];cases base with
   |none=>
    have c4:(OV () C.w:Result Unit)= .ok () C'.w:=c4;injection c4 with _ c4;rw[<-c4];simp only[MO,MQ,MK,goInt,e2,hlen]
   |some a=>
    have c4:(storeCells a _).run P C.w= .ok () C'.w:=c4;simp only[c4,MK,MQ,MO,goInt,e2,hlen]
  ·exact(F.ah e).elim
 ·exact(F.ah e).elim
end
end Go.AM
end
section
namespace Go.AM
variable [Tabs]
open Go.RowKit
section
variable {P:Program} {S0:Base} {w0:World} {cs:List Frame} {C:Cx} {h h':Hp} {nx:Nat}
theorem nP(z:Array Value)(n:Nat):(MR z n).toList=(MX n z.toList).flatten:=yZ n
theorem yO(I:Inv P S0 w0 C h)(hs:bP h' h){t:TypeId}{s:AV}{v:Value}{r:AV×h_}{ts:Array TypeId}(e0:ts[0]?=some t){ty':TypeId}
  (e:(BM P h' t s).Ev r) (hv:VR C s v):
  Does P S0 w0 cs C h nx ((do pure (.value (<-QZ ts ty' #[v])):Sem Next).run P C.w) r:=by
 unfold BM at e;split at e
 ·rename_i el G5;split at e
  ·rename_i n upd hsp;obtain rfl:=F.au e;have hspec: ∀(ty:Ty) (k:Int) (l:List ty.den),(match qy P el ty with|some z=>some (MX k.toNat z)|none=>none)=some l-> ∃z,qy P el ty=some z/\l=MX k.toNat z:=by
    intro ty k l hl;split at hl
    ·rename_i z hz;exact⟨z,hz,by simpa using hl.symm⟩
    ·simp at hl
   obtain⟨ty,l,dLen,base,cap,e1,e2,e3,e4,e5⟩:=nM I hs hsp hv
    (fun ty k l hl=>by obtain⟨z,_,rfl⟩:=hspec ty k l hl;rw[Ny];exact MZ _)
    (fun ty k l hl=>by
     obtain⟨z,hz,rfl⟩:=hspec ty k l hl;obtain⟨i,zv,_,_,h3,_⟩:=gY (C:=C) hz;exact⟨_,Cat.rep h3 _⟩)
   obtain⟨z,hz,hl⟩:=hspec ty dLen l e1;obtain⟨i,zv,h1,h2,h3,h4⟩:=gY (C:=C) hz;have qL:Cat (Rep C ty) l (MR zv.cells dLen).toList:=by rw[hl,nP];exact Cat.rep h3 _
   obtain⟨C',c1,c2,c3,c4⟩:=e5 _ qL;subst e3;refine Does.Em (v:= .tuple #[]) ?_ c1 c2 (.junk _) c3;unfold QZ;simp only[e0,show (#[NK base dLen cap]:Array Value)[0]?=some (.slice base dLen cap)from rfl];simp only[MO,run_underlying G5,MK];cases base with
   |none=>
    have c4:(OV () C.w:Result Unit)= .ok () C'.w:=c4;injection c4 with _ c4;rw[<-c4];cases dLen<;>simp only[MO,MQ,MK]
   |some a=>
    have c4:(storeCells a _).run P C.w= .ok () C'.w:=c4;cases dLen with
    |zero=>
     rw[show (MR zv.cells 0).toList=[] by rw[nP];rfl]at c4;have c4:(OV () C.w:Result Unit)= .ok () C'.w:=c4;injection c4 with _ c4;rw[<-c4];simp only[MO,MQ,MK]
    |succ d=>
     simp only[MO,zeroValue,typeInfo,MQ,run_program,h1,h2,c4,MK]
  ·exact(F.ah e).elim
 ·exact(F.ah e).elim
theorem wQ{l:List Int}{s:ByteArray}{ds:List Value}(h1:bytesOf s=l):Cat (Rep C (.int .u8)) l (s.data.toList.map fun b=> .int .u8 b.toNat):=by
 subst h1;have: ∀l:List UInt8,Cat (Rep C (.int .u8)) (l.map fun b=>(b.toNat:Int)) (l.map fun b=> .int .u8 b.toNat):=by
  intro l
  induction l with
  |nil=>rfl
  |cons b r ih=>exact⟨[_],_,rfl,⟨rfl,u8_in b⟩,ih⟩
 exact this _
theorem xg: ∀ {l:List Int} {ds:List Value} (w:World) (s0:ByteArray),Cat (Rep C (.int .u8)) l ds->
  ∃s,(ds.foldlM (fun (s:ByteArray) (c:Value)=>(match c with| .int .u8 n=>pure (s.push (OU n.toNat))|_=>stuck "bytesToString: byte expected" :Sem ByteArray)) s0).run P w= .ok s w/\bytesOf s=bytesOf s0++l
 |[],ds,w,s0,hc=>by
  obtain rfl:ds=[]:=hc;exact⟨s0,rfl,by simp⟩
 |x::l,ds,w,s0,hc=>by
  obtain⟨c1,c2,rfl,⟨rfl,hx⟩,hc⟩:=hc;obtain⟨s,k1,k2⟩:=xg w (s0.push (OU (OC x))) hc;refine⟨s,by simpa using k1,?_⟩;rw[k2];have hx:=fP.1 hx;simp[QN,QM,PV,Pn]at hx;have:(((OU (OC x)).toNat:Nat):Int)=x:=by
   rw[Qq];have:OC x%2^8=OC x:=PN (by omega);rw[this];omega
  show bytesOf (s0.push _)++l=bytesOf s0++x::l;unfold bytesOf;simp only[QY,Qs,P5,PI,Ru,Pv,Ot,OH,this]
end
end Go.AM
end
section
namespace Go.AM
variable [Tabs]
open Go.RowKit
section
variable {P:Program} {S0:Base} {w0:World} {cs:List Frame} {C:Cx} {h h':Hp} {nx:Nat}
theorem rY{f:Value->ByteArray->Sem (ForInStep ByteArray)}(hf: ∀(n:Int) s w,(f (.int .u8 n) s).run P w= .ok (.yield (s.push (OU n.toNat))) w): ∀ {l:List Int} {ds:List Value} (w:World) (s0:ByteArray),Cat (Rep C (.int .u8)) l ds->
  ∃s,(forIn ds s0 f).run P w= .ok s w/\bytesOf s=bytesOf s0++l
 |[],ds,w,s0,hc=>by
  obtain rfl:ds=[]:=hc;exact⟨s0,by simp,by simp⟩
 |x::l,ds,w,s0,hc=>by
  obtain⟨c1,c2,rfl,⟨rfl,hx⟩,hc⟩:=hc;obtain⟨s,k1,k2⟩:=rY hf w (s0.push (OU (OC x))) hc;refine⟨s,?_,?_⟩
  ·simp only[Ot,OH,List.forIn_cons,MO,hf,MK];exact k1
  rw[k2];have hx:=fP.1 hx;simp[QN,QM,PV,Pn]at hx;have:(((OU (OC x)).toNat:Nat):Int)=x:=by
   rw[Qq];have:OC x%2^8=OC x:=PN (by omega);rw[this];omega
  show bytesOf (s0.push _)++l=bytesOf s0++x::l;unfold bytesOf;simp only[QY,Qs,P5,PI,Ru,Pv,Ot,OH,this]
theorem run_bytesToString{l:List Int}{v:Value}(hv:wO P C v (.int .u8) l)(hstr: ∀s,v≠ .string s): ∃s,(O_ v).run P C.w= .ok (.string s) C.w/\bytesOf s=l:=by
 obtain⟨ds,hc,hl,hs⟩:=hv;have hs:=hs C.w rfl;cases v with
 |slice a n c=>
  have hn:n=ML l:=by
   have:=hs.1;have:(OV n C.w:Result Nat)= .ok (ML l) C.w:=this;injection this
  have h2:=hs.2 _ (MZ _);rw[Oc (by rw[hl];exact MZ _)]at h2;cases a with
  |none=>
   have h2:(OV #[] C.w:Result (Array Value))= .ok ds.toArray C.w:=h2;injection h2 with h2;have:ds=[]:=by cases ds with|nil=>rfl|cons=>simp at h2
   subst this;have hl0:l=[]:=by cases l with|nil=>rfl|cons=>obtain⟨c1,c2,q,⟨q2,_⟩,_⟩:=hc;subst q2;simp at q
   exact⟨.empty,rfl,by rw[hl0];rfl⟩
  |some a=>
   have h2:(loadCells a (ML l*1)).run P C.w= .ok ds.toArray C.w:=h2;rw[QW,<-hn]at h2;obtain⟨s,k1,k2⟩:=rY (P:=P) (f:=fun c s=>(match c with| .int .u8 n=>pure (.yield (s.push (OU n.toNat)))|_=>do (stuck "bytesToString: byte expected" :Sem PUnit);pure (.yield s):Sem (ForInStep ByteArray))) (fun n s w=>rfl) C.w .empty hc;refine⟨s,?_,by rw[k2];rfl⟩;simp only[O_,MO,h2,MK];rw[List.forIn_toArray]
   first
    |(rw[k1];rfl)
    |(erw[k1];rfl)
 |string s=>exact(hstr s rfl).elim
 |_=>
  have:=hs.1;simp[Pz]at this
theorem Ai{w:World}{arr:Array Value}{e:TypeId}:((w.alloc (.cells arr e)).freeze ⟨w.heap.size,arr.size,none⟩ 1).heap=w.heap.push (.cells arr e (arr.size,arr.size+1)):=by
 simp only[World.freeze,World.alloc];apply Array.ext
 ·simp
 ·intro i h1 h2;simp only[Nat.one_ne_zero,if_false]at h1 ⊢
  rw[Array.getElem_modify];simp only[Array.size_modify,Array.size_push]at h1;rw[Qi,Qi];by_cases hi:i<w.heap.size
  ·rw[dif_pos hi,dif_pos hi,if_neg (by omega)]
  ·rw[dif_neg hi,dif_neg hi,if_pos (by omega)];rfl
theorem wO.slice{v:Value}{ty:Ty}{l:List ty.den}(h:wO P C v ty l)(hstr: ∀s,v≠ .string s): ∃a n c,v= .slice a n c:=by
 obtain⟨ds,_,_,hs⟩:=h;have hs:=(hs C.w rfl).1;cases v with
 |slice a n c=>exact⟨a,n,c,rfl⟩
 |string s=>exact(hstr s rfl).elim
 |_=>simp[Pz]at hs
theorem Di{ty:Ty}{x:AV}{v:Value}{l:List ty.den}(hx: ∀s,x= .str s->False)(hl:wC h' ty x=some l)(hv:VR C x v): ∀s,v≠ .string s:=by
 intro s hq;cases hv with
 |junk=>exact nomatch (show (none:Option (List ty.den))=some l from hl)
 |str=>exact hx _ rfl
 |lst q=>obtain⟨a,n,c,q1,_⟩:=q;subst hq;simp at q1
 |iO q _=>obtain⟨a,n,c,q1,_⟩:=q;subst hq;simp at q1
 |own _ _ _ q=>obtain⟨_,_,_,q⟩:=q;subst hq;cases q
 |slc _ _ _ q=>obtain⟨_,_,_,q⟩:=q;subst hq;cases q
 |kP _ _ _ q=>obtain⟨_,_,_,q⟩:=q;subst hq;cases q
 |ptr _ _ _ q=>obtain⟨_,q⟩:=q;subst hq;cases q
 |_=>cases hq
theorem qY{a b el:TypeId}{v:Value}{r:Result Value}(h1:P.underlying a=some (.slice el))(h2:P.underlying b=some .string)(hu:P.underlying el=some (.int .u8))(hstr: ∃a n c,v= .slice a n c)
  (k:(O_ v).run P C.w=r):(convert a b v).run P C.w=r:=by
 simp only[convert,MO,run_underlying h1,run_underlying h2,MK];obtain⟨a,n,c,rfl⟩:=hstr;simp only[MO,run_underlying hu,MK];exact k
theorem uU(I:Inv P S0 w0 C h)(hM:C.M nx=none)(hs:bP h' h){a b:TypeId}{x:AV}{v:Value}{r:AV×h_}
  (e:(uT P h' nx a b x).Ev r) (hv:VR C x v):
  Does P S0 w0 cs C h nx ((do pure (.value (<-convert a b v)):Sem Next).run P C.w) r:=by
 unfold uT at e;split at e
 ·rename_i ds k kk n h1 h2;obtain rfl:=F.aj e;cases hv;refine Does.vals I ⟨_,?_,.int (wrap_in k n),rfl⟩;simp only[convert,MO,run_underlying h1,run_underlying h2,MK];cases ds<;>rfl
 ·rename_i ds s h1 h2;obtain rfl:=F.aj e;have hv':=hv;cases hv;refine Does.vals I ⟨_,?_,hv',rfl⟩;simp only[convert,MO,run_underlying h1,run_underlying h2,MK];cases ds<;>rfl
 ·rename_i el s h1 h2;split at e
  ·rename_i hu;obtain rfl:=F.au e;cases hv with
   | @str sb _ hb=>
    have hq:(Nk sb.size 0 el).forced=false:=rfl;have qL:=wQ (C:=C) (ds:=[]) hb;have hlen:ML s=sb.size:=by rw[<-hb,bytesOf_length]
    let cap:=(Nk sb.size 0 el).cut (C.w.tape C.w.drawn (Nk sb.size 0 el))
    have hcap:sb.size<=cap:=OX _ _
    let arr:Array Value:=sb.data.map (fun b=>Value.int .u8 b.toNat)++QI (cap-sb.size) (.int .u8 0)
    have harr:arr.size=cap:=by simp[arr,<-Qd];rw[Qd];omega
    have hheap:=Ai (w:=C.w.drew) (arr:=arr) (e:=el);obtain⟨C',c1,c2,c3,c4,c5⟩:=I.newRow hM (t:= .int .u8) (xs:=s) qL (arr:=arr) (e:=el) (fz:=(arr.size,arr.size+1)) (cap:=cap)
     (w':=(C.w.drew.alloc (.cells arr el)).freeze ⟨C.w.drew.heap.size,arr.size,none⟩ 1) hheap rfl rfl rfl ⟨(QI (cap-sb.size) (Value.int .u8 0)).toList,by simp only[arr,Qc,ND]⟩ (fun j hj q=>by have:=q.1;simp at this;omega)
     (by rw[harr];exact QB (QW _)) (Rw (QB hlen) hcap)
    refine Does.val (C':=C') (v:= .slice (some ⟨C.w.heap.size,0,none⟩) (ML s) cap) ?_ c3 c2 c4 c5;have hch:(choose (Nk sb.size 0 el)).run P C.w= .ok cap C.w.drew:=by rw[run_choose,hq];rfl
    have hno:(newObj (.cells arr el)).run P C.w.drew= .ok C.w.heap.size (C.w.drew.alloc (.cells arr el)):=rfl;have hsh:(C.w.drew.alloc (.cells arr el)).shape? C.w.heap.size=some (el,arr.size):=by
     have:(C.w.drew.alloc (.cells arr el)).heap[C.w.heap.size]?=some (.cells arr el):=by
      show (C.w.heap.push _)[C.w.heap.size]?=_;simp
     unfold World.shape?;rw[this]
    simp only[convert,MO,run_underlying h1,run_underlying h2,run_underlying hu,MK,Conv.stringToBytes,newRow,markStringish,run_shape,MQ];rw[c1,hch,MK];show Q8 (Q8 ((newObj (.cells arr el)).run P C.w.drew) _) _=_;rw[hno,MK,MK];simp only[hsh];show OV (NK (some ⟨C.w.heap.size,0,none⟩) sb.size cap) _=_;rw[<-hlen];rfl
  ·exact(F.ah e).elim
 ·rename_i el h1 h2 hx;split at e
  ·rename_i l hu hl;obtain rfl:=F.aj e;have hsrc:=jE I hs hl hv;have hstr:=Di hx hl hv;obtain⟨s,k1,k2⟩:=run_bytesToString hsrc hstr;refine Does.vals I ⟨.string s,?_,.str k2,rfl⟩;exact qY h1 h2 hu (hsrc.slice hstr) k1
  ·exact(F.ah e).elim
 ·rename_i t b ver o path h1 h2;split at e
  ·rename_i w ps hc;split at e
   ·rename_i pa hl hz;obtain rfl:=F.aj e;obtain⟨ro,en,g1,g2,g3,g4,g5,g6,g7⟩:=I.block hs hc;have hv':=hv;cases hv with
    |ptr k1 k2 k3 k4=>
     rw[g3]at k1;obtain rfl:=MN k1;obtain⟨c,q1,q2,q3⟩:=k3 g4.symm;rw[q1]at g7;obtain⟨pre,p1,p2,_⟩:=g7;obtain⟨s1,s2⟩:=p1.iP g6 hl q3;have s2:=s2 (by decide);have hcl:C.w.cell? ⟨c,o+aG path,none⟩=some pre[o+aG path]:=by
      have:=p2 _ _ (OA (show o+aG path<pre.length by omega));simpa using this
     subst q2;refine Does.vals I ⟨_,run_convert_to_unsafe h1 h2 hz hcl,hv',rfl⟩
   ·exact(F.ah e).elim
  ·exact(F.ah e).elim
 ·exact(F.ah e).elim
end
end Go.AM
end
section
namespace Go.AM
variable [Tabs]
open Go.RowKit
section
variable {P:Program} {S0:Base} {w0:World} {cs:List Frame} {C:Cx} {h h':Hp} {nx:Nat}
theorem wrap_i64{n:Int}(h0:0<=n)(h1:n<70368744177664):QL.wrap n=n:=by
 unfold IntKind.wrap;simp[PV,Pn];omega
theorem pJ{zc:Array Value}{k s:Nat}(hs:zc.size=s):((OM (k*s)).map ((if k*s=0 then #[]else zc)[· %(if k*s=0 then #[]else zc).size]!)).toList=(MX k zc.toList).flatten:=by
 subst hs;by_cases h:k*zc.size=0
 ·rw[h];rcases Nat.mul_eq_zero.1 h with h|h
  ·subst h;simp
  ·have:zc= #[]:=Nv h;subst this;simp
 ·simp only[if_neg h];exact yZ k
theorem qP(I:Inv P S0 w0 C h)(hM:C.M nx=none){t:TypeId}{len cap:AV}{v u:Value}{r:AV×h_}
  (e:(ou P nx t len cap).Ev r) (hv:VR C len v) (hu:VR C cap u):
  Does P S0 w0 cs C h nx ((do pure (.value (<-QK t v u)):Sem Next).run P C.w) r:=by
 unfold ou at e;split at e
 ·rename_i el k n k' c G5;split at e
  ·rename_i ty hty;split at e
   ·rename_i z hz;simp only[cond_eq_ite]at e;split at e
    ·rename_i hg;obtain⟨hb,e⟩:=F.aF e;obtain rfl:=F.au e;simp only[MS,decide_eq_true_eq,O1]at hb;obtain⟨⟨h0,h1⟩,h2⟩:=hb;obtain⟨i,zv,hi,hzv,hrep,hzs⟩:=gY (C:=C) hz;obtain⟨i',L_,hi',I8,hzs',hbt⟩:=nZ hg;rw[hi]at hi';obtain rfl:=MN hi';have hroom:=lT hi hbt h2;have hc63:c.toNat<70368744177664:=by
      have:c.toNat*1<=c.toNat*i.bytes:=Qh _ (by omega);omega
     cases hv;cases hu;have hsz:P.cellsOf el=ty.size:=b_ hty;have hw1:=wrap_i64 h0 (by omega);have hw2:=wrap_i64 (n:=c) (by omega) (by omega)
     let zc:Array Value:=if c.toNat*ty.size=0 then #[]else zv.cells
     let arr:Array Value:=(OM (c.toNat*ty.size)).map (zc[· %zc.size]!)
     have harr:arr.toList=(MX c.toNat zv.cells.toList).flatten:=pJ hzs;have qL:Cat (Rep C ty) (MX n.toNat z) (MX n.toNat zv.cells.toList).flatten:=Cat.rep hrep _;have hle:n.toNat<=c.toNat:=by omega
     obtain⟨C',c1,c2,c3,c4,c5⟩:=I.newRow hM qL (arr:=arr) (e:=el) (fz:=(0,0)) (cap:=c.toNat)
      (w':=C.w.alloc (.cells arr el)) rfl rfl rfl rfl ⟨(MX (c.toNat-n.toNat) zv.cells.toList).flatten,by
       rw[harr,<-Qg,List.replicate_append_replicate];congr 2;omega⟩ (fun j _=>by simp)
      (by have:arr.size=c.toNat*ty.size:=by simp[arr]
          omega) (by rw[Ny];exact hle)
     refine Does.val (C':=C') ?_ c3 c2 c4 c5;rw[c1,Ny];have htl: ∀q:Int,0<=q->q<=c-> ¬(q<0\/(i.bytes:Int)*q>2^48):=by
      rintro q q0 q1 (q2|q2)
      ·omega
      ·have:(i.bytes:Int)*q<=(i.bytes:Int)*c:=Int.mul_le_mul_of_nonneg_left q1 (by omega);have h3:((c.toNat*i.bytes:Nat):Int)=(i.bytes:Int)*c:=by rw[QO,O7 (by omega),Int.mul_comm]
       omega
     have hno:(decide (c<0)||decide ((i.bytes:Int)*c>2^48))=false:=by
      have:=htl c (by omega) (PG _);simpa[not_or]using this
     have hif:((decide (c<0)||decide ((i.bytes:Int)*c>2^48))||decide (n<0)||decide (n>c))=false:=by rw[hno];simp;omega
     have ha1: ∀w,(asInt (.int k n)).run P w= .ok n w:=fun _=>rfl
     have ha2: ∀w,(asInt (.int k' c)).run P w= .ok c w:=fun _=>rfl
     have hti: ∀w,(typeInfo el).run P w= .ok i w:=fun w=>by simp[typeInfo,hi]
     have I7: ∀w,(zeroValue el).run P w= .ok zv w:=fun w=>by simp[zeroValue,typeInfo,hi,hzv]
     simp only[QK,MO,run_underlying G5,MK,ha1,ha2,hti,hw1,hw2,hif,Nr,if_false,run_askRoom,run_sizeOf _ hi,hsz];by_cases hn0:c.toNat*ty.size=0
     ·simp only[hn0,if_true,MO,MQ,MK,newRow];show OV _ _=OV _ _;have:arr= #[]:=Nv (by simp[arr,hn0]);rw[this,show (Array.map (fun x=>(#[]:Array Value)[x%(#[]:Array Value).size]!) (OM 0))= #[]from by simp];rfl
     ·simp only[hn0,if_false,MO,MQ,MK,newRow,I7];have:arr=(OM (c.toNat*ty.size)).map (zv.cells[· %zv.cells.size]!):=by simp only[arr,zc,if_neg hn0]
      rw[this];rfl
    ·exact(F.ah e).elim
   ·exact(F.ah e).elim
  ·exact(F.ah e).elim
 ·exact(F.ah e).elim
theorem wL(z:Array Value)(n:Nat):(MR z n).toList=(MX n z.toList).flatten:=by
 by_cases h:n*z.size=0
 ·have h1:MR z n= #[]:=Nv (by simp[MR,h]);have h2:(MX n z.toList).flatten=[]:=M_ (by simp[h]);rw[h1,h2]
 ·have:=pJ (zc:=z) (k:=n) rfl;rw[if_neg h]at this;exact this
theorem uy(I:Inv P S0 w0 C h)(hM:C.M nx=none){t t2:TypeId}{s x:AV}{v u:Value}{r:AV×h_}{ts:Array TypeId}(e0:ts[0]?=some t)(e1:ts[1]?=some t2){ty':TypeId}
  (e:(uw P nx t t2 s x).Ev r) (hv:VR C s v) (hu:VR C x u):
  Does P S0 w0 cs C h nx ((do pure (.value (<-NJ ts ty' #[v,u])):Sem Next).run P C.w) r:=by
 unfold uw at e;split at e
 ·rename_i el k k' n G5 h2;split at e
  ·rename_i ty hty;split at e
   ·rename_i z hz;simp only[cond_eq_ite]at e;split at e
    ·rename_i hg;obtain⟨hb,e⟩:=F.aF e;obtain rfl:=F.au e;simp only[MS,decide_eq_true_eq,O1]at hb;obtain⟨h0,h1⟩:=hb;obtain⟨i,zv,hi,hzv,hrep,hzs⟩:=gY (C:=C) hz;obtain⟨i',L_,hi',I8,hzs',hbt⟩:=nZ hg;rw[hi]at hi';obtain rfl:=MN hi';rw[hzv]at I8;obtain rfl:=MN I8;have hroom:=lT hi hbt h1;have hn63:n.toNat<70368744177664:=by
      have:n.toNat*1<=n.toNat*i.bytes:=Qh _ (by omega);omega
     cases hv;cases hu;have hsz:P.cellsOf el=ty.size:=b_ hty;have hisz:i.size=ty.size:=by rw[<-eu hi];exact hsz
     have hw1:=wrap_i64 (n:=n) h0 (by omega);have hti: ∀w,(typeInfo el).run P w= .ok i w:=fun w=>by simp[typeInfo,hi]
     have I7: ∀w,(zeroValue el).run P w= .ok zv w:=fun w=>by simp[zeroValue,typeInfo,hi,hzv]
     have hso: ∀w,(sizeOf el).run P w= .ok i.size w:=fun w=>by rw[run_sizeOf w hi,eu hi]
     have ha1: ∀w,(asInt (.int k' n)).run P w= .ok n w:=fun _=>rfl
     have hl0: ¬QL.wrap n<0:=by rw[hw1];omega
     have hl1: ¬QL.wrap n*(i.bytes:Int)>2^48:=by
      rw[hw1];have h3:((n.toNat*i.bytes:Nat):Int)=n*(i.bytes:Int):=by rw[QO,O7 (by omega)]
      omega
     have hl0': ¬n<0:=by omega
     have JD: ¬(281474976710656:Int)<n*(i.bytes:Int):=by rw[hw1]at hl1;simpa using hl1
     by_cases hz0:n.toNat=0
     ·have hn0:n<=0:=by omega
      obtain⟨C',c1,c2,c3,c4,c5⟩:=I.D_ hM (t:=ty) (w':=C.w) rfl I.below;refine Does.val (C':=C') (v:= .slice none 0 0) ?_ ?_ c2 (.own c4 (MZ _) (fun _=>⟨rfl,rfl⟩) ⟨_,_,_,rfl⟩) c5
      ·rw[c1];unfold NJ;simp only[e0,e1,show ∀a b:Value,(#[a,b]:Array Value)[0]?=some a from fun _ _=>rfl,show ∀a b:Value,(#[a,b]:Array Value)[1]?=some b from fun _ _=>rfl];simp[run_underlying G5,run_underlying h2,hso,ha1,hti,hl0',JD,hw1,hz0,hn0]
      ·rw[hz0];exact c3
     ·have hn0: ¬n<=0:=by omega
      let nc:Nat:=(Nk n.toNat 0 el).cut (C.w.tape C.w.drawn (Nk n.toNat 0 el))
      have hnc:n.toNat<=nc:=OX _ _;have qL:Cat (Rep C ty) (MX n.toNat z) (MX n.toNat zv.cells.toList).flatten:=Cat.rep hrep _
      let arr:Array Value:=MR zv.cells n.toNat++MR zv.cells (nc-n.toNat)
      have harr:arr.toList=(MX n.toNat zv.cells.toList).flatten++(MX (nc-n.toNat) zv.cells.toList).flatten:=by simp only[arr,Qc,wL]
      obtain⟨C',c1,c2,c3,c4,c5⟩:=I.newRow hM qL (arr:=arr) (e:=el) (fz:=(0,0)) (cap:=nc)
       (w':=C.w.drew.alloc (.cells arr el)) rfl rfl rfl rfl ⟨_,harr⟩ (fun j _=>by simp)
       (by
        have:arr.size=nc*ty.size:=by
         simp only[arr,Qr,jm,hzs];rw[<-Oa];congr 1;omega
        omega) (by rw[Ny];exact hnc)
      refine Does.val (C':=C') ?_ c3 c2 c4 c5;rw[c1,Ny];have I4: ¬281474976710656<NI n.toNat 0*i.bytes:=by
       intro q;have h3:=vX (n:=n.toNat) (c:=0) (by omega);have h4:NI n.toNat 0*i.bytes<=3*n.toNat*i.bytes:=Np _ h3;rw[Ro]at h4;omega
      have hf:(Nk n.toNat 0 el).forced=false:=rfl;have hmx: ¬(9223372036854775807:Int)<max n 0:=by omega
      unfold NJ;simp only[e0,e1,show ∀a b:Value,(#[a,b]:Array Value)[0]?=some a from fun _ _=>rfl,show ∀a b:Value,(#[a,b]:Array Value)[1]?=some b from fun _ _=>rfl];simp[run_underlying G5,run_underlying h2,hso,ha1,hti,I7,hl0',JD,hw1,hz0,hn0,I4,hf,hmx,hbt,run_choose,run_askRoom];have hfc: ∀w,(Oe i.size 0 (NK none 0 0)).run P w= .ok #[] w:=fun w=>by
       have:=((Src.slice (by simp) (.inl rfl):Src P w i.size 0 (.slice none 0 0) []).full w rfl).2;exact this
      rw[hfc,MK];by_cases hz1:n.toNat*i.size=0
      ·have hzc:MR zv.cells n.toNat= #[]:=Nv (by rw[jm,hzs',hz1]);rw[if_pos hz1];simp only[arr,hzc,newRow,run_newObj,OB];rfl
      ·rw[if_neg hz1];simp only[arr,newRow,run_newObj,OB];rfl
    ·exact(F.ah e).elim
   ·exact(F.ah e).elim
  ·exact(F.ah e).elim
 ·exact(F.ah e).elim
end
end Go.AM
end
section
namespace Go.AM
variable [Tabs]
open Go.RowKit
section
variable {P:Program} {S0:Base} {w0:World} {cs:List Frame} {C:Cx} {h h':Hp} {nx:Nat}
theorem xK{place:Nat->Option (Nat×Nat)}{i off size:Nat}{v:Value}{cells:Array Value}{rest:List (Nat×Value)}(hp:place i=some (off,size))(h1:v.cells.size=size)(h2:off+size<=cells.size):
  ∃cells',P7 place cells ((i,v)::rest)=P7 place cells' rest/\cells'.toList=cells.toList.take off++(v.cells.toList++cells.toList.drop (off+size)):=by
 subst h1;obtain⟨g1,g2⟩:=Great.foldl_set off v.cells.toList 0 cells;refine⟨(v.cells.toList.zipIdx 0).foldl (fun cs (x:Value×Nat)=>cs.setIfInBounds (off+x.2) x.1) cells,?_,?_⟩
 ·rw[P7];simp only[hp];rw[if_neg (by simp;omega)];congr 1;rw[<-Array.foldl_toList,Array.toList_zipIdx]
 ·apply Qw
  intro k;rw[Na,g2 k];simp only[Nat.add_zero,Ov,P9,NH,Nq,Nz,Na];by_cases hA:off<=k/\k<off+v.cells.size
  ·rw[if_pos ⟨hA.1,hA.2,by omega⟩,if_neg (by omega),if_pos (by omega)];congr 1;omega
  ·rw[if_neg (by omega)];by_cases hB:k<off
   ·rw[if_pos (by omega),if_pos (by omega)]
   ·rw[if_neg (by omega),if_neg (by omega)];congr 1;omega
theorem VR.J6{a:AV}{v:Value}{ty:Ty}{x:ty.den}(h:VR C a v)(e:ay ty a.parts=some x):Rep C ty x v.cells.toList:=by
 obtain⟨cs,h1,h2⟩:=h.J5 e;rcases h2 with⟨_,rfl⟩|⟨_,rfl,hv⟩
 ·exact h1
 ·have:v.cells.toList=[v]:=by cases v<;>first|rfl|simp[AM.cellV]at hv
  rw[this];exact h1
inductive dQ (C:Cx):List (Nat×AV)->List (Nat×Value)->Prop
 |nil:dQ C [] []
 |cons {i a v l vs}:VR C a v->dQ C l vs->dQ C ((i,a)::l) ((i,v)::vs)
theorem dZ{place:Nat->Option (Nat×Nat)}: ∀ {l:List (Nat×AV)} {vs:List (Nat×Value)} {ps qs:List AV} {cells:Array Value},dU place l ps=some qs->dQ C l vs->PR C ps cells.toList->
  ∃r,P7 place cells vs=some r/\PR C qs r.toList
 |[],_,ps,qs,cells,e,.nil,hp=>by
  simp only[dU,MW]at e;subst e;exact⟨cells,rfl,hp⟩
 |(i,a)::l,(_,v)::vs,ps,qs,cells,e,.cons hv hl,hp=>by
  rw[dU]at e;split at e
  ·rename_i o n hpl;simp only[cond_eq_ite]at e;split at e
   ·rename_i hz;simp only[MS]at hz;obtain⟨hz1,hz2⟩:=hz;split at e
    ·rename_i rs hrs;have pv:PR C a.parts v.cells.toList:=VR.parts hv hz1;have hn:v.cells.toList.length=n:=by rw[pv.length];exact MP hz2
     obtain⟨k1,k2⟩:=hp.put hrs pv hn;obtain⟨cells',c1,c2⟩:=xK (rest:=vs) hpl (by simpa using hn) (by simpa using k2);rw[<-c2]at k1;obtain⟨r,r1,r2⟩:=dZ e hl k1;exact⟨r,by rw[c1,r1],r2⟩
    ·simp at e
   ·simp at e
  ·simp at e
theorem jc{ty:Ty}: ∀ {l:List (Nat×AV)} {vs:List (Nat×Value)} {xs ys:List ty.den} {cells:Array Value},jO ty l xs=some ys->dQ C l vs->Cat (Rep C ty) xs cells.toList->
  ∃r,P7 (fun i=>some (i*ty.size,ty.size)) cells vs=some r/\Cat (Rep C ty) ys r.toList/\ML ys=ML xs
 |[],_,xs,ys,cells,e,.nil,hp=>by
  simp only[jO,MW]at e;subst e;exact⟨cells,rfl,hp,rfl⟩
 |(i,a)::l,(_,v)::vs,xs,ys,cells,e,.cons hv hl,hp=>by
  rw[jO]at e;split at e
  ·rename_i x hx;simp only[cond_eq_ite,O1]at e;split at e
   ·rename_i hi;have hr:=VR.J6 hv hx;have hcl:=Cat.length (fun _ _ h=>Rep.length h) hp;have hset:=Cat.set (fun _ _ h=>Rep.length h) hp hi hr;have hml:=bC (z:=ty.size) hi;obtain⟨cells',c1,c2⟩:=xK (place:=fun i=>some (i*ty.size,ty.size)) (rest:=vs) (cells:=cells) (v:=v) (i:=i) rfl (by simpa using hr.length) (by rw[<-Ov,hcl];exact hml);rw[<-c2]at hset;obtain⟨r,r1,r2,r3⟩:=jc e hl hset;exact⟨r,by rw[c1,r1],r2,by rw[r3,List.length_set]⟩
   ·simp at e
  ·simp at e
theorem qg{α β:Type}{f:α->Sem β}{g:α->β}(w:World): ∀(l:List α),(∀x∈l,(f x).run P w= .ok (g x) w)->(l.mapM f).run P w= .ok (l.map g) w
 |[],_=>by simp
 |x::l,hx=>by
  have ih:=qg (f:=f) (g:=g) w l fun y hy=>hx y (List.mem_cons_of_mem _ hy)
  simp only[Qa,MO,hx x List.mem_cons_self,MK,ih,MQ,PI]
theorem zq{α β:Type}{f:α->Sem β}{g:α->β}(w:World)(l:Array α)(hx: ∀x∈l.toList,(f x).run P w= .ok (g x) w):(l.mapM f).run P w= .ok (l.map g) w:=by
 rw[Pj];show Qv P (List.mapM f l.toList >>= fun a=>pure a.toArray) w=_;rw[MO,qg (g:=g) w l.toList hx];simp only[MK,MQ];congr 1;apply OJ
 simp
end
end Go.AM
end
section
namespace Go.AM
variable [Tabs]
open Go.RowKit
section
variable {P:Program} {S0:Base} {w0:World} {cs:List Frame} {C:Cx} {h h':Hp} {nx:Nat}
theorem yM{t:TypeId}{l:List (Nat×AV)}{vs:Array (Nat×Value)}{r:AV×h_}(e:(BL P t l).Ev r)(hp:dQ C l vs.toList):qB P C (Qe t vs) r:=by
 unfold BL at e;split at e
 ·rename_i fs hu;split at e
  ·rename_i z hz;simp only[cond_eq_ite]at hz;split at hz
   ·rename_i hall;split at e
    ·rename_i ps hps;obtain rfl:=F.aj e;obtain⟨i,zv,h1,h2,h3⟩:=dY (C:=C) hz;have IZ:(fs.mapM fun f=>(do pure (f.offset,<-sizeOf f.type):Sem (Nat×Nat))).run P C.w= .ok (fs.map fun f=>(f.offset,P.cellsOf f.type)) C.w:=zq C.w fs fun f hf=>by
      obtain⟨i,hi⟩:=Py.1 (NQ.1 hall f hf);simp only[MO,run_sizeOf C.w hi,MK,MQ]
     have hps:dU (fun (i:Nat)=>(fs.map fun (f:Field)=>(f.offset,P.cellsOf f.type))[i]?) l z=some ps:=by
      rw[<-hps];congr 1
      funext i
      rw[Array.getElem?_map];cases fs[i]?<;>rfl
     obtain⟨cells,r1,r2⟩:=dZ hps hp h3;have:=VR.agg r2;refine⟨.agg cells,?_,by simpa using this,rfl⟩;simp only[Qe,MO,zeroValue,typeInfo,run_program,h1,h2,MQ,MK,run_underlying hu,IZ,r1]
    ·exact(F.ah e).elim
   ·simp at hz
  ·exact(F.ah e).elim
 ·rename_i m el hu;split at e
  ·rename_i ty hty;split at e
   ·rename_i z hz;split at e
    ·rename_i xs hxs;obtain rfl:=F.aj e;obtain⟨i,zv,h1,h2,h3,h4⟩:=gY (C:=C) hz;obtain⟨d,hd⟩:=mF hty;obtain⟨ie,hie⟩:=bD hd;have hsz:P.cellsOf el=ty.size:=b_ hty;obtain⟨LH,h3b⟩:=h3;obtain⟨cells,r1,r2,r3⟩:=jc hxs hp h3b;refine⟨.agg cells,?_,.arr ⟨r3.trans LH,r2⟩,rfl⟩;simp only[Qe,MO,zeroValue,typeInfo,run_program,h1,h2,MQ,MK,run_underlying hu,run_sizeOf _ hie,hsz,r1]
    ·exact(F.ah e).elim
   ·exact(F.ah e).elim
  ·split at e
   ·rename_i z hz;simp only[cond_eq_ite]at hz;split at hz
    ·rename_i hinfo;split at e
     ·rename_i ps hps;obtain rfl:=F.aj e;obtain⟨i,zv,h1,h2,h3⟩:=dY (C:=C) hz;obtain⟨ie,hie⟩:=Py.1 hinfo;obtain⟨cells,r1,r2⟩:=dZ hps hp h3;have:=VR.agg r2;refine⟨.agg cells,?_,by simpa using this,rfl⟩;simp only[Qe,MO,zeroValue,typeInfo,run_program,h1,h2,MQ,MK,run_underlying hu,run_sizeOf _ hie,r1]
     ·exact(F.ah e).elim
    ·simp at hz
   ·exact(F.ah e).elim
 ·exact(F.ah e).elim
theorem PR.rep{z:AV}{v:Value}(hz:VR C z v)(hs:z.fV=true)(hc:AM.cellV v=true): ∀n,PR C (MX n z) (MX n v)
 |0=> .nil
 |n+1=> .sc hz hs hc (PR.rep hz hs hc n)
theorem sQ(I:Inv P S0 w0 C h)(hM:C.M nx=none){t el:TypeId}(hu:P.underlying t=some (.slice el)){len:Nat}{l:List (Nat×AV)}{vs:Array (Nat×Value)}{r:AV×h_}(e:(qC P nx el len l).Ev r)(hp:dQ C l vs.toList):
  Does P S0 w0 cs C h nx ((do pure (.value (<-Oo t len vs)):Sem Next).run P C.w) r:=by
 unfold qC at e;split at e
 ·rename_i z hz;simp only[cond_eq_ite]at e;split at e
  ·rename_i hc;simp only[MS]at hc;obtain⟨⟨⟨⟨c1,c2⟩,c3⟩,c4⟩,c5⟩:=hc;have c3:=MP c3;have c4:=NU c4;have c5:=NU c5;split at e
   ·rename_i ps hps;split at e
    ·rename_i hnr;obtain rfl:=F.au e;obtain⟨i,zv,h1,h2,h3⟩:=dY (C:=C) hz;obtain⟨v,hv,hvs,LU⟩: ∃v,zv.cells.toList=[v]/\VR C z v/\cellV v=true:=by
      generalize hl:zv.cells.toList=cs at h3;cases h3 with
      |sc a1 a2 a3 a4=>cases a4;exact⟨_,rfl,a1,a3⟩
      |arr=>simp[AV.fV]at c1
      |row=>simp[AV.fV]at c1
     have hsz1:zv.cells.size=1:=by rw[<-Ov,hv];rfl
     have hne: ¬len*P.cellsOf el=0:=by rw[c3];omega
     let arr:Array Value:=(OM (len*P.cellsOf el)).map ((if len*P.cellsOf el=0 then #[]else zv.cells)[· %(if len*P.cellsOf el=0 then #[]else zv.cells).size]!)
     have harr:arr.toList=(MX len zv.cells.toList).flatten:=pJ (by rw[hsz1,c3]);have hpr:PR C (MX len z) arr.toList:=by
      rw[harr,hv];have:(MX len [v]).flatten=MX len v:=by simp
      rw[this];exact PR.rep hvs c1 LU len
     obtain⟨cells,r1,r2⟩:=dZ hps hp hpr;obtain⟨C',d1,d2,d3,d4,d5,_⟩:=I.vV (len:=0) hM r2 (jW hnr) (arr:=cells) (t:=el) (fz:=(0,0)) (w':=C.w.alloc (.cells cells el)) rfl rfl rfl rfl ⟨[],by simp⟩ (fun j _=>by simp);refine Does.val (C':=C') (v:= .slice (some ⟨C.w.heap.size,0,none⟩) len len) ?_ d3 d2 (.kP d4 (MZ _) (fun _=>⟨C.w.heap.size,rfl,rfl⟩) ⟨_,_,_,rfl⟩) d5;rw[d1];have I7: ∀w,(zeroValue el).run P w= .ok zv w:=fun w=>by simp[zeroValue,typeInfo,h1,h2]
     have hlim: ¬len*P.cellsOf el>2^24:=by rw[c3];omega
     simp only[Oo,MO,run_underlying hu,MK,run_sizeOf _ h1,hlim,if_false];simp only[arr,hne,if_false]at r1;simp only[hne,if_false,MO,MQ,MK,newRow,I7,r1];rfl
    ·exact(F.ah e).elim
   ·exact(F.ah e).elim
  ·exact(F.ah e).elim
 ·exact(F.ah e).elim
theorem jr(I:Inv P S0 w0 C h)(hM:C.M nx=none){t:TypeId}{len:Nat}{l:List (Nat×AV)}{vs:Array (Nat×Value)}{r:AV×h_}(e:(iG P nx t len l).Ev r)(hp:dQ C l vs.toList):
  Does P S0 w0 cs C h nx ((do pure (.value (<-Oo t len vs)):Sem Next).run P C.w) r:=by
 unfold iG at e;split at e
 ·rename_i el hu;split at e
  ·rename_i ty hty;split at e
   ·rename_i z hz;split at e
    ·rename_i xs hxs;simp only[cond_eq_ite]at e;split at e
     ·rename_i hle;have hle:=NU hle;obtain rfl:=F.au e;obtain⟨i,zv,h1,h2,h3,h4⟩:=gY (C:=C) hz;have hsz:P.cellsOf el=ty.size:=b_ hty
      let arr:Array Value:=(OM (len*ty.size)).map ((if len*ty.size=0 then #[]else zv.cells)[· %(if len*ty.size=0 then #[]else zv.cells).size]!)
      have harr:arr.toList=(MX len zv.cells.toList).flatten:=pJ h4;have qL:Cat (Rep C ty) (MX len z) arr.toList:=by rw[harr];exact Cat.rep h3 _
      obtain⟨cells,r1,r2,r3⟩:=jc hxs hp qL;rw[Ny]at r3;have hcl:=Cat.length (fun _ _ h=>Rep.length h) r2;obtain⟨C',c1,c2,c3,c4,c5⟩:=I.newRow hM r2 (arr:=cells) (e:=el) (fz:=(0,0)) (cap:=len) (w':=C.w.alloc (.cells cells el)) rfl rfl rfl rfl ⟨[],by simp⟩ (fun j _=>by simp)
       (by rw[<-Ov,hcl,r3];exact MZ _) (QB r3)
      refine Does.val (C':=C') ?_ c3 c2 c4 c5;rw[c1,r3];have I7: ∀w,(zeroValue el).run P w= .ok zv w:=fun w=>by simp[zeroValue,typeInfo,h1,h2]
      have hlim: ¬len*ty.size>2^24:=by omega
      simp only[Oo,MO,run_underlying hu,MK,run_sizeOf _ h1,hsz,hlim,if_false];by_cases hn0:len*ty.size=0
      ·simp only[arr,hn0,if_true]at r1;simp only[hn0,if_true,MO,MQ,MK,newRow,r1];rfl
      ·simp only[arr,hn0,if_false]at r1;simp only[hn0,if_false,MO,MQ,MK,newRow,I7,r1];rfl
     ·exact(F.ah e).elim
    ·exact(F.ah e).elim
   ·exact(F.ah e).elim
  ·exact sQ I hM hu e hp
 ·exact(F.ah e).elim
end
end Go.AM
end
section
namespace Go.AM
variable [Tabs]
open Go.RowKit
structure ni(C C':Cx):Prop where
 w:C'.w=C.w
 ro: ∀c j,C.RO c j->C'.RO c j
theorem Cells.wid{C C':Cx}(W:ni C C'){b o:Nat}{ds:List Value}(h:Cells C b o ds):Cells C' b o ds:=
 fun j v e=>let ⟨h1,h2⟩:=h j v e;⟨by rw[W.w];exact h1,W.ro _ _ h2⟩
theorem Rep.wid{C C':Cx}(W:ni C C'): ∀ {t:Ty} {x:t.den} {cs:List Value},Rep C t x cs->Rep C' t x cs
 | .int _,_,_,h=>h
 | .bool,_,_,h=>h
 | .str,_,_,h=>h
 | .lst t,_,_,⟨a,n,c,e,e1,e2,h⟩=>⟨a,n,c,e,e1,e2,h.imp id fun ⟨b,o,ds,e3,h1,h2⟩=>⟨b,o,ds,e3,h1.mono fun _ _=>Rep.wid W,h2.wid W⟩⟩
 | .arr _ t,_,_,⟨e,h⟩=>⟨e,h.mono fun _ _=>Rep.wid W⟩
 | .unit,_,_,h=>h
 | .pair _ _,_,_,⟨c1,c2,e,h1,h2⟩=>⟨c1,c2,e,h1.wid W,h2.wid W⟩
theorem cZ.wid{C C':Cx}(h:cZ C)(W:ni C C'):cZ C':=fun g t x e=>let ⟨ds,h1,h2⟩:=h g t x e;⟨ds,h1.wid W,h2.wid W⟩
theorem VR.wid{C C':Cx}(W:ni C C'){v:AV}{val:Value}(hp:aT v=true)(h:VR C v val):VR C' v val:=by
 cases h with
 |int h=>exact .int h
 |bool=>exact .bool
 |str h=>exact .str h
 |lst h=>exact .lst (h.wid W)
 |arr h=>exact .arr (h.wid W)
 |aC=>exact .aC
 |_=>simp[aT]at hp
theorem iT: ∀ {t:Ty} {x:t.den},∀v∈inj t x,aT v=true
 | .int _,_,v,h=>by simp only[inj,NC]at h;subst h;rfl
 | .bool,_,v,h=>by simp only[inj,NC]at h;subst h;rfl
 | .str,_,v,h=>by simp only[inj,NC]at h;subst h;rfl
 | .lst _,_,v,h=>by simp only[inj,NC]at h;subst h;rfl
 | .arr _ _,_,v,h=>by simp only[inj,NC]at h;subst h;rfl
 | .unit,_,v,h=>by simp[inj]at h
 | .pair a b,_,v,h=>by
  simp only[inj,N9]at h;rcases h with h|h
  ·exact iT v h
  ·exact iT v h
section
variable {P:Program} {S0:Base} {w0:World} {C C':Cx} {h h':Hp}
def Holds(C C':Cx)(h:Hp)(l:List Nat):Prop:= ∀b∈l,∀e c v ro ps j,C.M b=some e->e.cb=some c->h.get b=some (.cells v ro ps)->j<aH ps->C'.RO c j
theorem Am(I:Inv P S0 w0 C h)(hs:bP h' h)(W:ni C C'){x:AV}{u:Held}{v:Value}(e:dM h' x=some u)(hv:VR C x v)(hx:aT x=false)(H:Holds C C' h (gu x)):Rep C' (.lst u.t) u.xs [v]:=by
 cases hv with
 |own k1 k2 k3 k4=>
  simp only[dM]at e;split at e
  ·rename_i w y hr;obtain rfl:=MN e;obtain⟨ro,en,g1,g2,g3,g4,g5,g6,g7⟩:=I.rowLen hs hr;have g6:en.len=y.xs.length:=g6;rw[g3]at k1;obtain rfl:=MN k1;have k3:=k3 g4.symm;unfold dO at k3;split at k3
   ·rename_i c hc;obtain⟨cap,rfl,k5,k6⟩:=k3;rw[hc]at g7;obtain⟨pre,p1,p2,_⟩:=g7;refine⟨_,_,_,rfl,g6,k5,.inr ⟨c,0,pre,rfl,p1.mono fun _ _=>Rep.wid W,fun j v hj=>⟨by rw[W.w];exact p2 j v hj,H _ (.head _) _ _ _ _ _ _ g3 hc g1 ?_⟩⟩⟩;have:=(NZ.1 hj).1;rw[Cat.length (fun _ _ h=>Rep.length h) p1]at this;simpa[AV.size]using this
   ·rename_i hc;obtain⟨k5,rfl⟩:=k3;rw[hc]at g7;have g7:y.xs=[]:=g7;exact⟨none,0,0,rfl,by rw[g7];rfl,by omega,.inl ⟨g7,fun _=>rfl⟩⟩
  ·simp at e
 | @slc b ver o m ty i n en0 val k1 k2 k3 k4=>
  simp only[dM]at e;split at e
  ·rename_i w ps sb hsb;simp only[cond_eq_ite]at e;split at e
   ·rename_i hz;have hz:=MP hz;obtain rfl:=MN e;obtain⟨ro,en,g1,g2,g3,g4,g5,g6,g7,g8,g9⟩:=I.zD hs hsb;have g8:sb.xs.length=_:=g8;rw[g3]at k1;obtain rfl:=MN k1;obtain⟨q1,q2,q3,q4⟩:=k3 g4.symm;have hlen:((sb.xs.drop i.toNat).take n.toNat).length=n.toNat:=by simp;omega
    split at q4
    ·rename_i hcb;rw[hcb]at g9;obtain⟨g9,rfl⟩:=g9;have g9:sb.xs=[]:=g9;obtain⟨_,_,rfl⟩:=q4;have:(sb.xs.drop i.toNat).take n.toNat=[]:=by rw[g9];simp
     exact⟨none,0,0,rfl,by rw[this];rfl,by omega,.inl ⟨this,fun _=>rfl⟩⟩
    ·rename_i c hcb;rw[hcb]at g9;obtain⟨pre,p1,p2,p3,p4,p5⟩:=g9;have p4:o+sb.xs.length*sb.t.size<=pre.length:=p4;have p5:Cat (Rep C sb.t) sb.xs ((pre.drop o).take (sb.xs.length*sb.t.size)):=p5;obtain⟨a,cap,rfl,q5,q6,q7⟩:=q4;have hcut:=Cat.cut (fun _ _ h=>Rep.length h) p5 i.toNat (i.toNat+n.toNat);rw[<-Q9]at hcut;have hnc:n.toNat<=cap:=by omega
     refine⟨_,_,_,rfl,hlen.symm,hnc,?_⟩;by_cases hn:n.toNat=0
     ·left;exact⟨List.length_eq_zero_iff.1 (by rw[hlen,hn]),fun q=>by simp at q⟩
     ·right
      obtain rfl:=q5 (by omega);refine⟨c,_,_,rfl,hcut.mono fun _ _=>Rep.wid W,fun j v hj=> ?_⟩;rw[Nz,Nq]at hj;split at hj
      ·rw[Nq]at hj;split at hj
       ·rw[Nz]at hj;have hcell:=p2 _ _ hj;have hlt:=(NZ.1 hj).1;rw[hz]at hcell hlt;simp only[NV]at hcell;rw[Rn];refine⟨by rw[W.w];exact hcell,H _ (.head _) _ _ _ _ _ _ g3 hcb g1 ?_⟩;rw[<-p1.length];exact hlt
       ·simp at hj
      ·simp at hj
   ·simp at e
  ·simp at e
 |lst=>simp[aT]at hx
 |iO q _=>
  simp only[dM,MW]at e;subst e;exact q.wid W
 |_=>simp[dM]at e
theorem lM(I:Inv P S0 w0 C h)(hs:bP h' h)(W:ni C C'){v v':AV}{val:Value}(e:jh h' v=some v')(hv:VR C v val)(H:Holds C C' h (gu v)):VR C' v' val/\aT v'=true/\(v.fV=true->v'.fV=true):=by
 unfold jh at e;split at e
 ·split at e
  ·rename_i u hu;obtain rfl:=MN e;exact⟨.lst (Am I hs W hu hv rfl H),rfl,fun _=>rfl⟩
  ·simp at e
 ·split at e
  ·rename_i u hu;obtain rfl:=MN e;exact⟨.lst (Am I hs W hu hv rfl H),rfl,fun _=>rfl⟩
  ·simp at e
 all_goals first
  |(obtain rfl:=MN e;exact⟨hv.wid W rfl,rfl,fun _=>rfl⟩)
  |(obtain rfl:=MN e;exact⟨hv.wid W rfl,rfl,fun q=>q⟩)
  |(obtain rfl:=MN e;cases hv with|iO q _=>exact⟨.lst (q.wid W),rfl,fun _=>rfl⟩)
  |simp at e
theorem kR(I:Inv P S0 w0 C h)(hs:bP h' h)(W:ni C C'): ∀ {ps qs:List AV} {cs:List Value},gW h' ps=some qs->PR C ps cs->Holds C C' h (ps.flatMap gu)->PR C' qs cs
 |[],qs,cs,e,hp,_=>by
  simp only[gW,MW]at e;subst e;cases hp;exact .nil
 |p::ps,qs,cs,e,hp,H=>by
  simp only[gW]at e;split at e
  ·rename_i q l h1 h2;obtain rfl:=MN e;have H1:Holds C C' h (gu p):=fun b hb=>H b (by rw[Nu];exact N9.2 (.inl hb))
   have ih:=fun {cs} (k:PR C ps cs)=>kR I hs W h2 k (fun b hb=>H b (by rw[Nu];exact N9.2 (.inr hb)))
   cases hp with
   |sc k1 k2 k3 k4=>
    obtain⟨g1,_,g3⟩:=lM I hs W h1 k1 H1;exact .sc g1 (g3 k2) k3 (ih k4)
   |arr k1 k2=>
    simp only[jh,MW]at h1;subst h1;exact .arr (k1.wid W) (ih k2)
   |row k1 k2=>simp[jh]at h1
  ·simp at e
theorem rW(I:Inv P S0 w0 C h)(hs:bP h' h)(W:ni C C'){v v':AV}{val:Value}(e:yB h' v=some v')(hv:VR C v val)(H:Holds C C' h (jB v)):VR C' v' val:=by
 unfold yB at e;split at e
 ·split at e
  ·rename_i ps l hl;obtain rfl:=MN e;cases hv with
   |agg hp=>exact .agg (kR I hs W hl hp H)
  ·simp at e
 ·rename_i hn;have H:Holds C C' h (gu v):=by cases v<;>first|exact(hn _ rfl).elim|exact H
  exact(lM I hs W e hv H).1
theorem jM(I:Inv P S0 w0 C h)(hs:bP h' h)(W:ni C C'): ∀ {vs ws:List AV} {us:List Value},iD h' vs=some ws->bg C vs us->Holds C C' h (vs.flatMap jB)->bg C' ws us
 |[],ws,us,e,hv,_=>by
  simp only[iD,MW]at e;subst e;cases hv;exact .nil
 |v::vs,ws,us,e,hv,H=>by
  simp only[iD]at e;split at e
  ·rename_i q l h1 h2;obtain rfl:=MN e;cases hv with
   |cons k1 k2=>
    exact .cons (rW I hs W h1 k1 fun b hb=>H b (by rw[Nu];exact N9.2 (.inl hb)))
     (jM I hs W h2 k2 fun b hb=>H b (by rw[Nu];exact N9.2 (.inr hb)))
  ·simp at e
end
theorem Caps.wid{Ca Cb:Cx}(W:ni Ca Cb): ∀ {l:List Ty} {x:Caps l} {us:List Value},bg Ca (Caps.enc l x) us->bg Cb (Caps.enc l x) us
 |[],_,_,.nil=> .nil
 |t::r,x,_,.cons h k=>by
  refine .cons ?_ (Caps.wid W k);cases h with
  |rp h1 h2=>exact .rp (h1.wid W) (h2.wid W)
theorem yP{Ca Cb:Cx}(W:ni Ca Cb){f:FuncId}{l:List Ty}{x:Caps l}{v:Value}(h:VR Ca (.fn (.func f) [] (Caps.enc l x)) v):VR Cb (.fn (.func f) [] (Caps.enc l x)) v:=by
 cases h with
 |fn h1 h2 h3=>cases h2;exact .fn h1 .nil (Caps.wid W h3)
end Go.AM
end
section
namespace Go.AM
variable [Tabs]
open Go.RowKit
section
variable {P:Program} {S0:Base} {w0:World} {cs:List Frame} {C C':Cx} {h h':Hp} {nx:Nat}
theorem Inv.called(I:Inv P S0 w0 C h){w':World}{RO:Nat->Nat->Prop}{h2:Hp}(hb:Below C.w.heap.size C.w w')(hsub: ∀c j,C.RO c j->RO c j)
  (hro: ∀c j,RO c j->C.RO c j\/(∃b e v ps,C.M b=some e/\e.cb=some c/\h2.get b=some (.cells v true ps)/\j<aH ps)\/(C.w.heap.size<=c/\c<w'.heap.size))
  (hget: ∀b,h2.get b=h.get b\/ ∃v ro ps,h.get b=some (.cells v ro ps)/\h2.get b=some (.cells v true ps)):
  C.Le ⟨w',RO,C.M⟩/\Inv P S0 w0 ⟨w',RO,C.M⟩ h2:=by
 have le:C.Le ⟨w',RO,C.M⟩:=by
  refine⟨hsub,fun c j r=> ?_,fun b e he=>⟨e,he,MZ _,fun _=>rfl,fun _=>rfl⟩,fun c j r=> ?_⟩
  ·exact hb.cell (p:=⟨c,j,none⟩) (I.ro _ _ r).1
  ·have:=hb.cell (p:=⟨c,j,none⟩) (iq r);rw[this];exact r
 refine⟨le,I.below.trans (hb.mono I.below.size),?_,?_,?_,I.inj,?_,?_,fun c hc=>⟨(I.pin c hc).1,fun j hj=>le.sz _ _ ((I.pin c hc).2 j hj)⟩,?hid,I.tabs.mono le,I.good⟩
 ·intro b o ho;rcases hget b with q|⟨v,ro,ps,q1,q2⟩
  ·rw[q]at ho;obtain⟨e,k1,k2⟩:=I.obj b o ho;exact⟨e,k1,k2.carry le fun c hc=>hb.block c (I.loc _ _ _ k1 hc).2⟩
  ·rw[q2]at ho;obtain rfl:=MN ho;obtain⟨e,k1,k2⟩:=I.obj b _ q1;exact⟨e,k1,kV.carry (o:= .cells v true ps) le k2 fun c hc=>hb.block c (I.loc _ _ _ k1 hc).2⟩
 ·intro b e he;obtain⟨o,ho⟩:=I.dom b e he;rcases hget b with q|⟨v,ro,ps,q1,q2⟩
  ·exact⟨o,by rw[q];exact ho⟩
  ·exact⟨_,q2⟩
 ·intro b e c he hc;have:=I.loc b e c he hc;have:=hb.size;exact⟨(I.loc b e c he hc).1,by show c<w'.heap.size;omega⟩
 ·intro c j r;have hsz:=hb.size;rcases hro c j r with q|⟨b,e,v,ps,q1,q2,q3,q4⟩|q
  ·have:=I.ro c j q;exact⟨by show c<w'.heap.size;omega,this.2⟩
  ·have:=I.loc b e c q1 q2;exact⟨by show c<w'.heap.size;omega,.inr this.1⟩
  ·have:=I.below.size;exact⟨q.2,.inr (.inr (by omega))⟩
 ·intro b e c j he hc r;rcases hro c j r with q|⟨b',e',v,ps,q1,q2,q3,q4⟩|q
  ·obtain⟨v,ps,k1,k2⟩:=I.w_ b e c j he hc q;rcases hget b with z|⟨v',ro,ps',z1,z2⟩
   ·exact⟨v,ps,by rw[z];exact k1,k2⟩
   ·rw[k1]at z1;cases z1;exact⟨v,ps,z2,k2⟩
  ·obtain rfl:=I.inj _ _ _ _ _ he hc q1 q2;exact⟨v,ps,q3,q4⟩
  ·have:=I.loc b e c he hc;omega
 ·obtain⟨H,hH⟩:=I.hid;refine⟨H,hH.step (fun b T t xs q=> ?_) (fun _ _ q _=>q) hb.size (fun b en c T t xs q _ hc _=>hb.block c (I.loc _ _ _ q hc).2) (fun g h1 _ _=>hb.block g h1) (fun x en g q hc=> .inl ⟨x,en,q,hc⟩) (fun g j r=> ?_)⟩
  ·rcases hget b with z|⟨v,ro,ps,z1,z2⟩
   ·rw[<-z];exact q
   ·rw[z2]at q;cases q
  ·rcases hro g j r with k|⟨b,e,v,ps,k1,k2,_,_⟩|k
   ·exact .inl k
   ·exact .inr (.inl ⟨b,e,k1,k2⟩)
   ·exact .inr (.inr (.inl k.1))
theorem Inv.Dy(I:Inv P S0 w0 C h){w':World}{RO:Nat->Nat->Prop}{h2:Hp}(hb:Below C.w.heap.size C.w w')
  (hro: ∀c j,RO c j->C.RO c j\/(∃b e v ps,C.M b=some e/\e.cb=some c/\h2.get b=some (.cells v true ps)/\j<aH ps)\/(C.w.heap.size<=c/\c<w'.heap.size))
  (hget: ∀b,h2.get b=h.get b\/ ∃v ro ps,h.get b=some (.cells v ro ps)/\h2.get b=some (.cells v true ps)):
  ∃H,Hid w0 ⟨w',RO,C.M⟩ h2 H/\ ∀b g,H b=some g->g<C.w.heap.size:=by
 obtain⟨H,hH⟩:=I.hid;refine⟨H,hH.step (fun b T t xs q=> ?_) (fun _ _ q _=>q) hb.size (fun b en c T t xs q _ hc _=>hb.block c (I.loc _ _ _ q hc).2) (fun g h1 _ _=>hb.block g h1) (fun x en g q hc=> .inl ⟨x,en,q,hc⟩) (fun g j r=> ?_),fun b g q=>(hH.old b g q).2⟩
 ·rcases hget b with z|⟨v,ro,ps,z1,z2⟩
  ·rw[<-z];exact q
  ·rw[z2]at q;cases q
 ·rcases hro g j r with k|⟨b,e,v,ps,k1,k2,_,_⟩|k
  ·exact .inl k
  ·exact .inr (.inl ⟨b,e,k1,k2⟩)
  ·exact .inr (.inr (.inl k.1))
theorem vw(l:List Nat)(h' h:Hp)(b:Nat)(hs:bP h' h):((freeze h' l++h).get b=h.get b\/ ∃v ro ps,h.get b=some (.cells v ro ps)/\(freeze h' l++h).get b=some (.cells v true ps))/\
  (b∈l-> ∀v ro ps,h'.get b=some (.cells v ro ps)->(freeze h' l++h).get b=some (.cells v true ps)):=by
 induction l with
 |nil=>exact⟨.inl rfl,fun hb=>by simp at hb⟩
 |cons x l ih=>
  obtain⟨ih1,ih2⟩:=ih;have hcons:freeze h' (x::l)=(match h'.get x with|some (.cells v _ ps)=>[(x,gI.cells v true ps)]|_=>[])++freeze h' l:=by
   unfold freeze;rw[Oy];cases h'.get x with
   |none=>rfl
   |some o=>cases o<;>rfl
  rw[hcons];cases hx:h'.get x with
  |none=>
   refine⟨ih1,fun hb v ro ps hg=> ?_⟩;rcases MV.1 hb with rfl|hb
   ·rw[hx]at hg;simp at hg
   ·exact ih2 hb v ro ps hg
  |some o=>
   cases o with
   |cells v ro ps=>
    simp only[Ot,OH];rw[Hp.aB];by_cases hxb:x=b
    ·subst hxb;rw[if_pos rfl];refine⟨.inr ⟨v,ro,ps,hs _ _ hx,rfl⟩,fun _ v' ro' ps' hg=> ?_⟩;rw[hx]at hg;cases hg;rfl
    ·rw[if_neg hxb];refine⟨ih1,fun hb=>ih2 ?_⟩;rcases MV.1 hb with q|hb
     ·exact(hxb q.symm).elim
     ·exact hb
   |_=>
    refine⟨ih1,fun hb v ro ps hg=> ?_⟩;rcases MV.1 hb with rfl|hb
    ·rw[hx]at hg;simp at hg
    ·exact ih2 hb v ro ps hg
theorem Ak{x:AV}{u:Held}(e:dM h' x=some u)(hx:aT x=false): ∀b∈gu x,∃v ro ps,h'.get b=some (.cells v ro ps):=by
 have hcells: ∀ {b v:Nat} {q},h'.cells b v=some q-> ∃v ro ps,h'.get b=some (.cells v ro ps):=by
  intro b v q hq;unfold Hp.cells at hq;split at hq
  ·rename_i ver ro ps hg;exact⟨_,_,_,hg⟩
  ·simp at hq
 unfold dM at e;split at e
 ·simp at e
 ·simp[aT]at hx
 ·intro b hb;simp[gu]at hb
 ·split at e
  ·rename_i hr;intro b hb;simp only[gu,NC]at hb;subst hb;unfold Hp.row at hr;split at hr
   ·rename_i hq;exact hcells hq
   ·simp at hr
  ·simp at e
 ·split at e
  ·rename_i hr;intro b hb;simp only[gu,NC]at hb;subst hb;exact hcells (Hp.qm hr).1
  ·simp at e
 ·simp at e
theorem yA{v v':AV}(e:jh h' v=some v'): ∀b∈gu v,∃ver ro ps,h'.get b=some (.cells ver ro ps):=by
 unfold jh at e;split at e
 ·split at e
  ·rename_i hu;exact Ak hu rfl
  ·simp at e
 ·split at e
  ·rename_i hu;exact Ak hu rfl
  ·simp at e
 all_goals (intro b hb;simp[gu]at hb)
 all_goals simp at e
theorem nH: ∀ {ps qs:List AV},gW h' ps=some qs-> ∀b∈ps.flatMap gu,∃ver ro ps,h'.get b=some (.cells ver ro ps)
 |[],_,_,b,hb=>by simp at hb
 |p::ps,qs,e,b,hb=>by
  simp only[gW]at e;split at e
  ·rename_i q l h1 h2;rw[Nu]at hb;rcases N9.1 hb with hb|hb
   ·exact yA h1 b hb
   ·exact nH h2 b hb
  ·simp at e
theorem jA: ∀ {vs ws:List AV},iD h' vs=some ws-> ∀b∈vs.flatMap jB,∃ver ro ps,h'.get b=some (.cells ver ro ps)
 |[],_,_,b,hb=>by simp at hb
 |v::vs,ws,e,b,hb=>by
  simp only[iD]at e;split at e
  ·rename_i q l h1 h2;rw[Nu]at hb;rcases N9.1 hb with hb|hb
   ·unfold yB at h1;split at h1
    ·split at h1
     ·rename_i hl;exact nH hl b hb
     ·simp at h1
    ·rename_i hn;have hb:b∈gu v:=by cases v<;>first|exact(hn _ rfl).elim|exact hb
     exact yA h1 b hb
   ·exact jA h2 b hb
  ·simp at e
theorem C9(I:Inv P S0 w0 C h)(hs:bP h' h){vs ws:List AV}{us:List Value}(e:iD h' vs=some ws)(hv:bg C vs us):
  ∃C',C'.w=C.w/\C'.M=C.M/\C.Le C'/\Inv P S0 w0 C' (freeze h' (vs.flatMap jB)++h)/\bg C' ws us:=by
 let refs:=vs.flatMap jB
 let Du:Nat->Nat->Prop:=fun c j=>C.RO c j\/ ∃b∈refs,∃e v ro ps,C.M b=some e/\e.cb=some c/\h.get b=some (.cells v ro ps)/\j<aH ps
 have W1:ni C ⟨C.w,Du,C.M⟩:=⟨rfl,fun _ _ q=> .inl q⟩;have H1:Holds C ⟨C.w,Du,C.M⟩ h refs:=fun b hb e c v ro ps j q1 q2 q3 q4=> .inr ⟨b,hb,e,v,ro,ps,q1,q2,q3,q4⟩
 have hfz:=fun b=>vw refs h' h b hs
 obtain⟨le,I'⟩:=I.called (w':=C.w) (RO:=Du) (h2:=freeze h' refs++h) (Below.refl _ _) (fun c j q=> .inl q) (fun c j q=>by
  rcases q with q|⟨b,hb,e1,v,ro,ps,q1,q2,q3,q4⟩
  ·exact .inl q
  ·obtain⟨v',ro',ps',g1⟩:=jA e b hb;have g2:=hs _ _ g1;rw[q3]at g2;cases g2;exact .inr (.inl ⟨b,e1,v,ps,q1,q2,(hfz b).2 hb _ _ _ g1,q4⟩)) (fun b=>(hfz b).1)
 exact⟨⟨C.w,Du,C.M⟩,rfl,rfl,le,I',jM I hs W1 e hv H1⟩
theorem Does.Gx{C':Cx}{r:Result Next}{x:AV×h_}{z:h_}(hM:C'.M=C.M)(le:C.Le C')(d:Does P S0 w0 cs C' (z++h) nx r x):Does P S0 w0 cs C h nx r (x.1,x.2++z):=by
 obtain⟨v,C2,h1,h2,h3,h4,h5⟩:=d;exact⟨v,C2,h1,by rw[Pv];exact h2,le.trans h3,h4,fun y hy=>by rw[<-hM];exact h5 y hy⟩
theorem mM{h':Hp}{vs:List AV}{k:List AV->R1}{r:AV×h_}(e:(jT h' vs k).Ev r):
  ∃ws q,iD h' vs=some ws/\(k ws).Ev q/\r=(q.1,q.2++freeze h' (vs.flatMap jB)):=by
 unfold jT at e;split at e
 ·rename_i ws hws;obtain⟨q,h1,h2⟩:=F.bV e;exact⟨ws,q,hws,h1,F.au h2⟩
 ·exact(F.ah e).elim
end
end Go.AM
end
section
namespace Go.AM
variable [Tabs]
open Go.RowKit
section
variable {P:Program} {S0:Base} {w0:World} {cs:List Frame} {C:Cx} {h h':Hp} {nx:Nat}
def bW(P:Program)(S0:Base)(w0:World)(Φ:iL):Prop:=
 ∀f args h' nx o g,Φ f args h' nx=some o->o.x=some g-> ∀cs C h,Inv P S0 w0 C h->bP h' h->C.M nx=none-> ∀vs,bg C args vs->Does P S0 w0 cs C h nx ((callFunc f vs.toArray).run P C.w) (o.enc g)
theorem bg.map{ρA:Operand->AV}{ρV:Operand->Value}(hρ: ∀x,VR C (ρA x) (ρV x)): ∀l:List Operand,bg C (l.map ρA) (l.map ρV)
 |[]=> .nil
 |x::r=> .cons (hρ x) (bg.map hρ r)
theorem bg.append: ∀ {aZ:List AV} {vs:List Value} {bs:List AV} {us:List Value},bg C aZ vs->bg C bs us->bg C (aZ++bs) (vs++us)
 |_,_,_,_,.nil,h=>h
 |_,_,_,_,.cons a b,h=> .cons a (b.append h)
theorem bg.get: ∀ {aZ:List AV} {vs:List Value} {i:Nat} {a:AV},bg C aZ vs->aZ[i]?=some a-> ∃v,vs[i]?=some v/\VR C a v
 |_,_,i,_,.nil,h=>by simp at h
 |_,_,0,_,.cons a _,h=>by simp at h;subst h;exact⟨_,rfl,a⟩
 |_,_,i+1,_,.cons _ b,h=>by simpa using bg.get (i:=i) b (by simpa using h)
theorem dQ.map{ρA:Operand->AV}{ρV:Operand->Value}(hρ: ∀x,VR C (ρA x) (ρV x)): ∀l:List (Nat×Operand),dQ C (l.map fun (i,x)=>(i,ρA x)) (l.map fun (i,x)=>(i,ρV x))
 |[]=> .nil
 |x::r=> .cons (hρ x.2) (dQ.map hρ r)
theorem Fe{o:UnOp}{x:AV}{v:Value}{r:AV×h_}(e:(KX o x).Ev r)(hv:VR C x v):qB P C (Op.unary o v) r:=by
 unfold KX at e;split at e
 ·obtain rfl:=F.aj e;cases hv;exact⟨_,rfl,.bool,rfl⟩
 ·obtain rfl:=F.aj e;cases hv;exact⟨_,rfl,.int (wrap_in _ _),rfl⟩
 ·obtain rfl:=F.aj e;cases hv;exact⟨_,rfl,.int (wrap_in _ _),rfl⟩
 ·exact(F.ah e).elim
theorem jR{c:Int->Int->Int}{f:Value->Value->Sem Value}(hf: ∀k x y w,(f (.int k x) (.int k y)).run P w= .ok (.int k (c x y)) w)(hin: ∀k x y,ak k x=true->ak k y=true->ak k (c x y)=true){k:IntKind}:
  ∀ {l:List AV} {vs:List Value} {x:Int} {r:AV},ak k x=true->gU c k x l=some r->bg C l vs-> ∃v,(vs.foldlM f (.int k x)).run P C.w= .ok v C.w/\VR C r v
 |[],_,x,r,hx,e,.nil=>by
  simp only[gU,MW]at e;subst e;exact⟨_,rfl,.int hx⟩
 |a::l,_,x,r,hx,e,.cons ha hl=>by
  cases ha with
  | @int k' y hy=>
   simp only[gU,cond_eq_ite,decide_eq_true_eq]at e;split at e
   ·rename_i hk;subst hk;obtain⟨v,h1,h2⟩:=jR hf hin (hin _ _ _ hx hy) e hl;refine⟨v,?_,h2⟩;simp only[List.foldlM_cons,MO,hf,MK,h1]
   ·simp at e
  |_=>simp[gU]at e
theorem pK{c:Int->Int->Int}{f:Value->Value->Sem Value}(hf: ∀k x y w,(f (.int k x) (.int k y)).run P w= .ok (.int k (c x y)) w)(hin: ∀k x y,ak k x=true->ak k y=true->ak k (c x y)=true)
  {l:List AV} {vs:List Value} {r:AV} (e:vS c l=some r) (hl:bg C l vs): ∃x rest v,vs=x::rest/\(rest.foldlM f x).run P C.w= .ok v C.w/\VR C r v:=by
 cases hl with
 |nil=>simp[vS]at e
 |cons ha hl=>
  cases ha with
  |int hx=>
   obtain⟨v,h1,h2⟩:=jR hf hin hx e hl;exact⟨_,_,v,rfl,h1,h2⟩
  |_=>simp[vS]at e
theorem CX{o:Option AV}{r:AV×h_}(e:(okD o).Ev r): ∃a,o=some a/\r=(a,[]):=by
 cases o with
 |none=>exact(F.ah e).elim
 |some a=>exact⟨a,rfl,F.aj e⟩
theorem CJ(I:Inv P S0 w0 C h)(hs:bP h' h){t:TypeId}{x:AV}{v:Value}{n:Int}{ts:Array TypeId}(e0:ts[0]?=some t){ty':TypeId}(e:Jb P h' t x=some n)(hsm:wB n=true)(hv:VR C x v):
  ∃m:Nat,(PU ts ty' #[v]).run P C.w= .ok (.int .i64 n) C.w/\n=m:=by
 unfold Jb at e;split at e
 ·rename_i s hu;simp only[MW]at e;subst e;cases hv with
  |str q=>
   refine⟨_,?_,rfl⟩;simp only[PU,e0,show (#[Value.string _]:Array Value)[0]?=some _ from rfl,MO,run_underlying hu,MK,MQ,goInt];rw[<-q,bytesOf_length];rfl
 ·rename_i m el hu;simp only[MW]at e;subst e;refine⟨m,?_,rfl⟩;simp only[PU,e0,show (#[v]:Array Value)[0]?=some v from rfl,MO,run_underlying hu,MK,MQ,goInt]
 ·simp at e
 ·simp at e
 ·rename_i el hu hn1 hn2;rcases CG I hs hv e with⟨s,rfl,q⟩|⟨q,rfl⟩|⟨a,m,c,rfl,q⟩
  ·exfalso
   cases hv with
   |junk=>simp[kT]at e
   |str=>exact hn1 _ rfl
   |lst q=>obtain⟨a,n,c,q1,_⟩:=q;simp at q1
   |iO q _=>obtain⟨a,n,c,q1,_⟩:=q;simp at q1
   |own _ _ _ q=>obtain⟨_,_,_,q⟩:=q;cases q
   |slc _ _ _ q=>obtain⟨_,_,_,q⟩:=q;cases q
   |kP _ _ _ q=>obtain⟨_,_,_,q⟩:=q;cases q
   |ptr _ _ _ q=>obtain⟨_,q⟩:=q;cases q
  ·exfalso
   cases hv with
   |junk=>simp[kT]at e
   |arr=>exact hn2 _ _ _ rfl
   |lst q=>obtain⟨a,n,c,q1,_⟩:=q;simp at q1
   |iO q _=>obtain⟨a,n,c,q1,_⟩:=q;simp at q1
   |own _ _ _ q=>obtain⟨_,_,_,q⟩:=q;cases q
   |slc _ _ _ q=>obtain⟨_,_,_,q⟩:=q;cases q
   |kP _ _ _ q=>obtain⟨_,_,_,q⟩:=q;cases q
   |ptr _ _ _ q=>obtain⟨_,q⟩:=q;cases q
   |agg=>simp[kT]at e
  ·subst q;refine⟨m,?_,rfl⟩;simp only[PU,e0,show (#[NK a m c]:Array Value)[0]?=some _ from rfl,MO,run_underlying hu,MK,MQ,goInt];rfl
 ·simp at e
end
end Go.AM
end
section
namespace Go.AM
variable [Tabs]
open Go.RowKit
section
variable {P:Program} {S0:Base} {w0:World} {cs:List Frame} {C:Cx} {h h':Hp} {nx:Nat}
theorem dQ.zip: ∀ {l:List (Nat×Operand)} {ws:List AV} {ρV:Operand->Value},bg C ws (l.map fun p=>ρV p.2)->dQ C ((l.map (·.1)).zip ws) (l.map fun (i,x)=>(i,ρV x))
 |[],_,_,h=>by cases h;exact .nil
 |p::r,_,ρV,h=>by
  cases h with
  |cons h k=>exact .cons h (dQ.zip k)
theorem oN(I:Inv P S0 w0 C h)(hM:C.M nx=none)(hs:bP h' h){t:TypeId}{n:Nat}{ps:Array (Nat×Operand)}{ρA:Operand->AV}{ρV:Operand->Value}(hρ: ∀x,VR C (ρA x) (ρV x)){r:AV×h_}
  (e:(jT h' (ps.toList.map fun p=>ρA p.2) (fun ws=>iG P nx t n ((ps.toList.map (·.1)).zip ws))).Ev r):
  Does P S0 w0 cs C h nx ((do pure (.value (<-Oo t n (ps.map fun (i,x)=>(i,ρV x)))):Sem Next).run P C.w) r:=by
 obtain⟨ws,q,h1,h2,rfl⟩:=mM e;have hv:bg C (ps.toList.map fun p=>ρA p.2) (ps.toList.map fun p=>ρV p.2):=by
  have:=bg.map hρ (ps.toList.map (·.2));simpa[Rt,Function.comp_def]using this
 obtain⟨C',c1,c2,le,I',k⟩:=C9 I hs h1 hv;refine Does.Gx c2 le ?_;have:=jr (cs:=cs) I' (by rw[c2];exact hM) h2 (vs:=ps.map fun (i,x)=>(i,ρV x)) (by rw[ND];exact dQ.zip k);rw[c1]at this;exact this
theorem uD(I:Inv P S0 w0 C h)(hs:bP h' h){arr:TypeId}{x:AV}{v:Value}{r:AV×h_}(e:(uz P h' arr x).Ev r)(hv:VR C x v):
  Does P S0 w0 cs C h nx ((do pure (.value (<-Ql arr v)):Sem Next).run P C.w) r:=by
 unfold uz at e;split at e
 ·rename_i n el hu;split at e
  ·rename_i ty hty;obtain⟨ws,q,h1,h2,rfl⟩:=mM e;obtain⟨C',c1,c2,le,I',k⟩:=C9 I hs h1 (.cons hv .nil);refine Does.Gx c2 le ?_;split at h2
   ·rename_i t xs;split at h2
    ·rename_i ys hys;obtain⟨hg,h2⟩:=F.aF h2;obtain rfl:=F.aj h2;simp only[MS]at hg;have hn1:=NU hg.1;have hn2:=NU hg.2;obtain⟨rfl,rfl⟩:=iJ hys;cases k with
     |cons k _=>
      cases k with
      |lst k=>
       obtain⟨a,m,c,e1,e2,e3,e4⟩:=k;obtain rfl:=Rj e1 |>.1
       rcases e4 with⟨e4,_⟩|⟨b,o,ds,rfl,e5,e6⟩
       ·subst e4;simp at hn2;omega
       ·rw[<-c1];refine Does.vals (s:=Ql arr _) I' ⟨.pointer (some ⟨b,o,none⟩),?_,?_,rfl⟩
        ·simp only[Ql,MO,run_underlying hu,MK];rw[if_neg (by rw[e2];omega)];rfl
        ·have:=VR.rp (C:=C') (t:= .arr n t) (x:=List.take (α:=t.den) n ys) (o:=0) (b:=b) (p:=o) (ds:=ds.take (n*t.size)) ⟨(NH (α:=t.den) (i:=n) (l:=ys)).trans (QV hn2),(Cat.split (fun _ _ h=>Rep.length h) n e5).1⟩ (by
          intro j v hj;rw[Nq]at hj;split at hj
          ·exact e6 j v hj
          ·simp at hj)
         simpa using this
    ·exact(F.ah h2).elim
   ·exact(F.ah h2).elim
  ·exact(F.ah e).elim
 ·exact(F.ah e).elim
theorem lX{w:World}{t:TypeId}{ps:List AV}(h:zeroOf P t=some ps): ∃v,(zeroValue t).run P w= .ok v w:=by
 obtain⟨i,v,h1,h2,_⟩:=dY (C:=⟨w,fun _ _=>False,fun _=>none⟩) h;exact⟨v,by simp[zeroValue,typeInfo,h1,h2]⟩
theorem qx{x:AV}{v:Value}{xt t:TypeId}{ok:Bool}{r:AV×h_}(e:(mG P x t ok).Ev r)(hv:VR C x v):qB P C (Oq v xt t ok) r:=by
 unfold mG at e;split at e
 ·exact(F.ah e).elim
 ·rename_i d hd hu;split at e
  ·rename_i t' x';cases hv with
   |iface hx=>
    rename_i v';simp only[cond_eq_ite]at e;by_cases htt:t'=t
    ·subst htt;simp only[QA,if_true]at e;obtain rfl:=F.aj e;cases ok with
     |true=>
      refine⟨.tuple #[v',.bool true],?_,.gG (.cons hx (.cons .bool .nil)),rfl⟩;cases d<;>first|exact(hd _ rfl).elim|simp[Oq,run_underlying hu]
     |false=>
      refine⟨v',?_,hx,rfl⟩;cases d<;>first|exact(hd _ rfl).elim|simp[Oq,run_underlying hu]
    ·have:Oh t' t=false:=by
      cases hq:Oh t' t with
      |false=>rfl
      |true=>exact(htt (MP hq)).elim
     simp only[this,Nr,if_false]at e;split at e
     ·rename_i hok;subst hok;split at e
      ·rename_i ps hz;obtain rfl:=F.aj e;obtain⟨u,hz⟩:=lX (w:=C.w) hz;refine⟨.tuple #[u,.bool false],?_,.gG (.cons (.junk u) (.cons .bool .nil)),rfl⟩;cases d<;>first|exact(hd _ rfl).elim|simp[Oq,run_underlying hu,htt,hz]
      ·exact(F.ah e).elim
     ·exact(F.ah e).elim
  ·cases hv with
   |nilIface=>
    simp only[cond_eq_ite]at e;split at e
    ·rename_i hok;subst hok;split at e
     ·rename_i ps hz;obtain rfl:=F.aj e;obtain⟨u,hz⟩:=lX (w:=C.w) hz;refine⟨.tuple #[u,.bool false],?_,.gG (.cons (.junk u) (.cons .bool .nil)),rfl⟩;cases d<;>first|exact(hd _ rfl).elim|simp[Oq,run_underlying hu,hz]
     ·exact(F.ah e).elim
    ·exact(F.ah e).elim
  ·exact(F.ah e).elim
 ·exact(F.ah e).elim
theorem o_{α:Type}(x:α)(xs:Array α):(#[x]++xs).extract 1 (#[x]++xs).size=xs:=by
 apply OJ
 simp[Oc]
theorem lV{w:World}{t:TypeId}{v:Value}{name:String}{f:FuncId}(hm:tN P t name=some f)(args:Array Value):(callMethod (.iface t v) name args).run P w=(callFunc f (#[v]++args)).run P w:=by
 unfold tN at hm;split at hm
 ·rename_i i hi;split at hm
  ·rename_i m hfm;simp only[cond_eq_ite]at hm;split at hm
   ·rename_i hp;have JE:(method (P.types.size+Qu) t v name).run P w= .ok (f,v) w:=by
     have vC:P.types.size+Qu=(P.types.size+Qu-1)+1:=by unfold Qu;omega
     rw[vC];have hpe:m.path.toList=[]:=by
      have:m.path= #[]:=by simpa using hp
      rw[this]
     have hti:(typeInfo t).run P w= .ok i w:=by simp[typeInfo,hi]
     simp only[method,MO,hti,MK,hfm,hpe,follow,MQ];split at hm
     ·rename_i f' e hf hu;obtain rfl:=MN hm;simp only[hf,receiverAt,MO,run_underlying hu,MK,Place.get,MQ]
     ·simp at hm
     ·rename_i f' d hne hf hu;obtain rfl:=MN hm;simp only[hf,receiverAt,MO,run_underlying hu,MK,Place.get,MQ]
     ·simp at hm
    simp only[callMethod,MO,run_program,MK,JE]
   ·simp at hm
  ·simp at hm
 ·simp at hm
end
end Go.AM
end
section
namespace Go.AM
variable [Tabs]
open Go.RowKit
section
variable {P:Program} {S0:Base} {w0:World} {cs:List Frame} {C:Cx} {h h':Hp} {nx:Nat} {Φ:iL}
theorem rF(I:Inv P S0 w0 C h)(hM:C.M nx=none)(hs:bP h' h)(O:bW P S0 w0 Φ){f:FuncId}{args:List AV}{vs:List Value}{r:AV×h_}(e:(Dw Φ h' nx f args).Ev r)(ha:bg C args vs):
  Does P S0 w0 cs C h nx ((callFunc f vs.toArray).run P C.w) r:=by
 unfold Dw at e;split at e
 ·exact(F.ah e).elim
 ·rename_i o ho;generalize hk:(fun g=>F.ret (o.enc g))=k at e;cases e with
  |call hx he=>
   subst hk;obtain rfl:=F.au he;exact O _ _ _ _ _ _ ho hx _ _ _ I hs hM _ ha
theorem bg.opt{ρA:Operand->AV}{ρV:Operand->Value}(hρ: ∀x,VR C (ρA x) (ρV x)): ∀o:Option Operand,BF C (o.map ρA) (o.map ρV)
 |none=>trivial
 |some x=>hρ x
theorem JR(k:IntKind)(x y:Int)(hx:ak k x=true)(hy:ak k y=true):ak k (mx x y)=true:=by unfold mx;split<;>assumption
theorem JQ(k:IntKind)(x y:Int)(hx:ak k x=true)(hy:ak k y=true):ak k (mn x y)=true:=by unfold mn;split<;>assumption
theorem dL{α:Type}{a:Array α}{x:α}{r:List α}(h:a.toList=x::r):a[0]?=some x:=by rw[<-Na,h];rfl
theorem lC{α:Type}{a:Array α}{x y:α}{r:List α}(h:a.toList=x::y::r):a[1]?=some y:=by rw[<-Na,h];rfl
theorem GZ{α:Type}{a:Array α}{l:List α}(h:a.toList=l):a=l.toArray:=by subst h;simp
theorem uM(I:Inv P S0 w0 C h)(hM:C.M nx=none)(hs:bP h' h){b:Builtin}{ts:Array TypeId}{ty:TypeId}{consts:Array Bool}{args:List AV}{vs:List Value}{r:AV×h_}
  (e:(uK P h' nx b ts.toList args).Ev r) (ha:bg C args vs):Does P S0 w0 cs C h nx ((builtin b ts ty consts vs.toArray).run P C.w) r:=by
 unfold uK at e;split at e
 ·rename_i t r0 x hts;cases ha with
  |cons hx hn=>
   cases hn;split at e
   ·rename_i n hn;obtain⟨hsm,e⟩:=F.aF e;obtain rfl:=F.aj e;obtain⟨m,k1,k2⟩:=CJ (ty':=ty) I hs (dL hts) hn hsm hx;exact Does.vals I ⟨_,k1,.int (by rw[k2]at hsm ⊢;exact sG hsm),rfl⟩
   ·exact(F.ah e).elim
 ·rename_i t t2 r0 s x hts;cases ha with
  |cons hx hn=>
   cases hn with
   |cons hy hn=>
    cases hn;rw[cond_eq_ite]at e;split at e
    ·exact uy I hM (dL hts) (lC hts) e hx hy
    ·exact wP I hM hs (dL hts) (lC hts) e hx hy
 ·rename_i t r0 hts;cases ha with
  |cons hx hn=>
   cases hn;split at e
   ·rename_i el hu;obtain rfl:=F.aj e;cases hx;refine Does.vals I ⟨.int .i64 0,?_,.int rfl,rfl⟩;simp[Builtin.cap_,dL hts,run_underlying hu,goInt]
   ·exact(F.ah e).elim
 ·rename_i t r0 d s hts;cases ha with
  |cons hx hn=>
   cases hn with
   |cons hy hn=>
    cases hn;exact Ac I hs (dL hts) e hx hy
 ·rename_i t r0 s hts;cases ha with
  |cons hx hn=>
   cases hn;exact yO I hs (dL hts) e hx
 ·obtain⟨a,h1,rfl⟩:=CX e;obtain⟨x,rest,v,rfl,k1,k2⟩:=pK (P:=P) (f:=Builtin.max2) (fun _ _ _ _=>rfl) JR h1 ha;exact Does.vals I ⟨_,k1,k2,rfl⟩
 ·obtain⟨a,h1,rfl⟩:=CX e;obtain⟨x,rest,v,rfl,k1,k2⟩:=pK (P:=P) (f:=Builtin.min2) (fun _ _ _ _=>rfl) JQ h1 ha;exact Does.vals I ⟨_,k1,k2,rfl⟩
 ·exact(F.ah e).elim
theorem yt(I:Inv P S0 w0 C h)(hM:C.M nx=none)(hs:bP h' h)(O:bW P S0 w0 Φ){ρA:Operand->AV}{ρV:Operand->Value}(hρ: ∀x,VR C (ρA x) (ρV x)){o:Oper}{r:AV×h_}
  (e:(Jh P Φ o.op ρA h' nx).Ev r):Does P S0 w0 cs C h nx ((execOp ρV o).run P C.w) r:=by
 unfold execOp;unfold Jh at e;cases ho:o.op with
 |move x=>
  rw[ho]at e;obtain rfl:=F.aj e;exact Does.vals (s:=pure (ρV x)) I ⟨_,rfl,hρ x,rfl⟩
 |assign x=>
  rw[ho]at e;obtain rfl:=F.aj e;exact Does.vals (s:=pure (ρV x)) I ⟨_,rfl,hρ x,rfl⟩
 |alloc t=>
  rw[ho]at e;exact BH (ps:=[]) I hM e
 |box t x=>
  rw[ho]at e;simp only[cond_eq_ite]at e;split at e
  ·rename_i hz;simp only[MS]at hz;exact vU I hM e (VR.parts (hρ x) hz.1) hz.2
  ·exact(F.ah e).elim
 |build t l=>
  rw[ho]at e;exact Does.vals I (yM e (by rw[ND];exact dQ.map hρ _))
 |buildSlice t n l=>
  rw[ho]at e;simp only[cond_eq_ite]at e;split at e
  ·split at e
   ·exact oN I hM hs hρ e
   ·exact jr I hM e (by rw[ND];exact dQ.map hρ _)
  ·exact(F.ah e).elim
 |load t a=>
  rw[ho]at e;exact Does.vals I (rQ I hs e (hρ a))
 |store t a x=>
  rw[ho]at e;exact zB I hs e (hρ a) (hρ x)
 |nilCheck x=>
  rw[ho]at e;have hx:=hρ x;simp only at e ⊢
  generalize ρA x=a at e hx;generalize ρV x=v at hx ⊢
  split at e
  ·obtain rfl:=F.aj e;have hx':=hx;cases hx with
   |ptr _ _ _ q=>obtain⟨_,rfl⟩:=q;exact Does.vals (s:=pure _) I ⟨_,rfl,hx',rfl⟩
  ·obtain rfl:=F.aj e;have hx':=hx;cases hx with
   |rp _ _=>exact Does.vals (s:=pure _) I ⟨_,rfl,hx',rfl⟩
  ·obtain rfl:=F.aj e;have hx':=hx;cases hx with
   |fn q _ _=>cases q;exact Does.vals (s:=pure _) I ⟨_,rfl,hx',rfl⟩
  ·exact(F.ah e).elim
 |binOp op t x y _=>
  rw[ho]at e;exact Does.vals I (BJ e (hρ x) (hρ y) x y)
 |unOp op t x=>
  rw[ho]at e;exact Does.vals I (Fe e (hρ x))
 |convert a b x=>
  rw[ho]at e;exact uU I hM hs e (hρ x)
 |makeInterface t x=>
  rw[ho]at e;simp only at e;split at e
  ·exact(F.ah e).elim
  ·rename_i d hd hn;obtain rfl:=F.aj e;refine Does.vals I ⟨.iface t (ρV x),?_,.iface (hρ x),rfl⟩;simp only[Instr.makeInterface,MO,run_underlying hn,MK];cases d<;>first|rfl|exact(hd _ rfl).elim
  ·exact(F.ah e).elim
 |makeFunc f a c=>
  rw[ho]at e;cases f with
  |func g=>
   obtain rfl:=F.aj e;refine Does.vals I ⟨_,rfl,?_,rfl⟩;have:=VR.fn (C:=C) (f:= .func g) (f':= .func g) rfl (bg.map hρ a.toList) (bg.map hρ c.toList);simpa[<-ND]using this
  |_=>exact(F.ah e).elim
 |makeSlice t l c=>
  rw[ho]at e;exact qP I hM e (hρ l) (hρ c)
 |slice t x lo hi m=>
  rw[ho]at e;exact Does.vals I (qh I hs e (hρ x) (bg.opt hρ lo) (bg.opt hρ hi) (bg.opt hρ m))
 |fieldAddr t x f=>
  rw[ho]at e;exact Does.vals I (qE e (hρ x))
 |field t x f=>
  rw[ho]at e;exact Does.vals I (yS e (hρ x))
 |indexAddr t x i=>
  rw[ho]at e;have hi:=hρ i;simp only at e ⊢
  generalize ρA i=a at e hi;split at e
  ·generalize ρV i=u at hi ⊢
   cases hi;exact Does.vals I (qM I hs e (hρ x))
  ·exact(F.ah e).elim
 |index t x i=>
  rw[ho]at e;have hi:=hρ i;simp only at e ⊢
  generalize ρA i=a at e hi;split at e
  ·generalize ρV i=u at hi ⊢
   cases hi;exact Does.vals I (yX e (hρ x))
  ·exact(F.ah e).elim
 |extract x i=>
  rw[ho]at e;have hx:=hρ x;simp only at e ⊢
  generalize ρA x=a at e hx;generalize ρV x=v at hx ⊢
  split at e
  ·obtain⟨a,h1,rfl⟩:=CX e;cases hx with
   |gG q=>
    obtain⟨v,k1,k2⟩:=q.get h1;refine Does.vals I ⟨v,?_,k2,rfl⟩;simp only[Instr.extract];rw[PZ,k1];rfl
  ·exact(F.ah e).elim
 |call c=>
  rw[ho]at e;simp only at e ⊢
  unfold tK gJ at e;unfold resolve;cases hcl:c.callee with
  |builtin b=>
   simp only[hcl]at e;simp only[MO,MQ,MK,invoke];have:=uM (cs:=cs) (ty:=o.type) (consts:=c.args.map fun| .const _=>true|_=>false) I hM hs e (bg.map hρ c.args.toList);rw[<-ND,Array.toArray_toList]at this;exact this
  |value f=>
   simp only[hcl]at e;have hfr:=hρ f;simp only[MO,MQ,MK,invoke,Deferred.ofValue];generalize ρA f=a at e hfr;generalize ρV f=v at hfr ⊢
   unfold Dx at e;split at e
   ·cases hfr with
    |fn q h1 h2=>
     cases q;have:=rF (cs:=cs) I hM hs O e ((h1.append (bg.map hρ c.args.toList)).append h2);simp only[MQ,MK];have hq: ∀(a b:List Value) (m:Array Operand),(a++m.toList.map ρV++b).toArray=a.toArray++m.map ρV++b.toArray:=by
      intro a b m;apply OJ
      simp
     rw[hq]at this;exact this
   ·exact(F.ah e).elim
  |invoke x name=>
   simp only[hcl]at e;have hfr:=hρ x;simp only[MO,MQ,MK,invoke];generalize ρA x=a at e hfr;generalize ρV x=v at hfr ⊢
   unfold xB at e;split at e
   ·rename_i t y;split at e
    ·rename_i g hm;cases hfr with
     |iface hy=>
      rename_i u;have:=rF (cs:=cs) I hM hs O e (.cons hy (bg.map hρ c.args.toList));have h0:(#[O6 t u]++c.args.map ρV)[0]?=some (.iface t u):=by rw[Oi (by simp)];rfl
      have h1:(#[O6 t u]++c.args.map ρV).extract 1 (#[O6 t u]++c.args.map ρV).size=c.args.map ρV:=o_ _ _;simp only[h0,h1];rw[lV hm];have h2:(u::c.args.toList.map ρV).toArray= #[u]++c.args.map ρV:=by apply OJ;simp
      rw[h2]at this;exact this
    ·exact(F.ah e).elim
   ·exact(F.ah e).elim
 |sliceToArrayPointer arr x=>
  rw[ho]at e;exact uD I hs e (hρ x)
 |typeAssert x xt t ok=>
  rw[ho]at e;exact Does.vals I (qx e (hρ x))
 |_=>
  rw[ho]at e;exact(F.ah e).elim
end
end Go.AM
end
section
namespace Go.AM
variable [Tabs]
open Go.RowKit
structure dS(C:Cx)(e:Env)(ms:List May)(tmps:Array Value):Prop where
 env:jV C e tmps
 may: ∀m∈ms,(m.g=true ↔ tmps.getD m.tg undef= .bool m.want)/\(m.g=true->VR C m.v (tmps.getD m.t undef))/\(m.g=false->tmps.getD m.t undef=undef)
theorem dS.mono{C C':Cx}(l:C.Le C'){e ms tmps}(h:dS C e ms tmps):dS C' e ms tmps:=
 ⟨h.env.mono l,fun m hm=>⟨(h.may m hm).1,fun g=>((h.may m hm).2.1 g).mono l,(h.may m hm).2.2⟩⟩
theorem dV: ∀ {ms:List May} {t:Nat} {m:May},aQ ms t=some m->m∈ms/\m.t=t
 |m::r,t,m',h=>by
  simp only[aQ,cond_eq_ite]at h;split at h
  ·rename_i hb;obtain rfl:=MN h;exact⟨.head _,MP hb⟩
  ·exact⟨.tail _ (dV h).1,(dV h).2⟩
theorem pF{tmps:Array Value}{d t:Nat}{v:Value}(hd:d<tmps.size):(tmps.setIfInBounds d v).getD t undef=if d=t then v else tmps.getD t undef:=by
 by_cases h:d=t
 ·subst h;rw[if_pos rfl];simp[Pq,hd]
 ·rw[if_neg h];simp only[Pq,Oz];split
  ·rename_i ht;exact Array.getElem_setIfInBounds_ne ht h
  ·rfl
theorem ji{ms:List May}{d:Nat}{m:May}(h:m∈gq ms d):m∈ms/\m.t≠d/\m.tg≠d:=by
 unfold gq at h;obtain⟨h1,h2⟩:=OG.1 h;simp only[Nj,P8]at h2;refine⟨h1,fun q=> ?_,fun q=> ?_⟩
 ·subst q;simp at h2
 ·subst q;simp at h2
theorem dS.put{C:Cx}{e ms tmps}(h:dS C e ms tmps){d:Nat}(hd:d<tmps.size){x:AV}{v:Value}(hv:VR C x v):dS C ((d,x)::e) (gq ms d) (tmps.setIfInBounds d v):=by
 refine⟨fun t=> ?_,fun m hm=> ?_⟩
 ·rw[Env.aB,pF hd];split
  ·exact hv
  ·exact h.env t
 ·obtain⟨h1,h2,h3⟩:=ji hm;rw[pF hd,pF hd,if_neg (Rq h3),if_neg (Rq h2)];exact h.may m h1
theorem dS.gq{C:Cx}{e ms tmps}(h:dS C e ms tmps){d tg:Nat}(hd:d<tmps.size)(hne:tg≠d){want g:Bool}{x:AV}{v:Value}(hg:g=true ↔ tmps.getD tg undef= .bool want)(hv:g=true->VR C x v)(hu:g=false->v=undef):
  dS C ((d,.junk)::e) (⟨d,tg,want,g,x⟩::AM.gq ms d) (tmps.setIfInBounds d v):=by
 have k:=h.put hd (.junk v);refine⟨k.env,fun m hm=> ?_⟩;rcases MV.1 hm with rfl|hm
 ·simp only[pF hd];rw[if_neg (Rq hne)];simp only[if_true];exact⟨hg,hv,hu⟩
 ·exact k.may m hm
theorem iC{C:Cx}(v:Value):VR C (ofValue v) v:=by
 unfold ofValue;split
 ·exact .bool
 ·simp only[cond_eq_ite];split
  ·rename_i h;exact .int h
  ·exact .junk _
 ·exact .str rfl
 ·exact .nilPtr
 ·exact .aC
 ·exact .nilFn
 ·exact .nilIface
 ·rename_i f a b;simp only[cond_eq_ite];split
  ·rename_i h;simp only[MS,Array.isEmpty_iff]at h;obtain⟨rfl,rfl⟩:=h;exact .fn (f':= .func f) rfl .nil .nil
  ·exact .junk _
 ·exact .junk _
theorem kD{C:Cx}(T:cZ C)(g:Nat):VR C (match Tabs.tab g with|some x=> .rp x.1 x.2 0|none=> .junk) (.pointer (some ⟨g,0,none⟩)):=by
 cases e:Tabs.tab g with
 |none=>exact .junk _
 |some x=>
  obtain⟨t,x⟩:=x;obtain⟨ds,h1,h2⟩:=T g t x e;exact .rp (p:=0) (o:=0) h1 h2
theorem rH{C:Cx}(T:cZ C){e:Env}{tmps:Array Value}(h:jV C e tmps)(b:Frame)(hb:b.tmps=tmps)(x:Operand):VR C (Ag e x) (b.eval x):=by
 cases x with
 |tmp t=>subst hb;exact h t
 |const v=>exact iC v
 |global g=>exact kD T g
 |func f=>exact .fn (f':= .func f) rfl .nil .nil
theorem jZ{C:Cx}(T:cZ C){e:Env}{ms:List May}{tmps:Array Value}(h:dS C e ms tmps)(b:Frame)(hb:b.tmps=tmps)(x:Operand):VR C (aS e ms none x) (b.eval x):=by
 cases x with
 |tmp t=>
  simp only[aS];split
  ·subst hb;exact h.env t
  ·exact .junk _
 |const v=>exact iC v
 |global g=>exact kD T g
 |func f=>exact .fn (f':= .func f) rfl .nil .nil
theorem j_{C:Cx}(T:cZ C){e:Env}{ms:List May}{tmps:Array Value}(h:dS C e ms tmps)(b:Frame)(hb:b.tmps=tmps){tg:Nat}{want:Bool}(hg:tmps.getD tg undef= .bool want)(x:Operand):VR C (aS e ms (some (tg,want)) x) (b.eval x):=by
 cases x with
 |tmp t=>
  simp only[aS];split
  ·subst hb;exact h.env t
  ·rename_i m hm;obtain⟨h1,h2⟩:=dV hm;simp only[cond_eq_ite];split
   ·rename_i hc;simp only[MS,beq_iff_eq]at hc;have e1:=MP hc.1;have k:=h.may m h1;rw[e1,hc.2]at k;have:=k.2.1 (k.1.2 hg);rw[h2]at this;subst hb;exact this
   ·exact .junk _
 |const v=>exact iC v
 |global g=>exact kD T g
 |func f=>exact .fn (f':= .func f) rfl .nil .nil
theorem iy{C:Cx}{e:Env}{ms:List May}{tmps:Array Value}(h:dS C e ms tmps){tg:Nat}{want g:Bool}(hg:guardOf e ms tg want=some g):g=true ↔ tmps.getD tg undef= .bool want:=by
 unfold guardOf at hg;split at hg
 ·split at hg
  ·rename_i b hb;have:=h.env tg;rw[hb]at this;generalize tmps.getD tg undef=v at this;cases this;obtain rfl:=MN hg;cases b<;>cases want<;>simp
  ·simp at hg
 ·rename_i m hm;obtain⟨h1,h2⟩:=dV hm;have k:=h.may m h1;rw[h2]at k;split at hg
  ·rename_i b hb;obtain rfl:=MN hg;cases Ll:m.g with
   |true=>
    have:=k.2.1 Ll;rw[hb]at this;generalize tmps.getD tg undef=v at this;cases this;cases b<;>cases want<;>simp
   |false=>
    have:=k.2.2 Ll;rw[this];simp[undef]
  ·simp at hg
theorem fD{g:Bool}: ∀ {x:R1} {r:AV×h_},(dI g x).Ev r->r.2=[]/\(g=true->x.Ev r)
 | .ret (v,u),r,h=>by
  unfold dI at h;split at h
  ·obtain rfl:=F.au h;exact⟨rfl,fun _=> .ret⟩
  ·obtain⟨h1,h2⟩:=F.aF h;obtain rfl:=F.au h2;exact⟨rfl,fun q=>by simp[q]at h1⟩
 | .fail,r,h=>by
  obtain⟨h1,h2⟩:=F.aF h;obtain rfl:=F.au h2;exact⟨rfl,fun q=>by simp[q]at h1⟩
 | .guard c k,r,h=>by
  obtain⟨h1,h2⟩:=F.aF h;obtain⟨h3,h4⟩:=fD h2;refine⟨h3,fun q=> ?_⟩;simp[q]at h1;subst h1;exact .guard (h4 q)
 | .ite c a b,r,h=>by
  cases c with
  |true=>
   cases h with
   |vJ h=>obtain⟨h3,h4⟩:=fD h;exact⟨h3,fun q=> .vJ (h4 q)⟩
  |false=>
   cases h with
   |vI h=>obtain⟨h3,h4⟩:=fD h;exact⟨h3,fun q=> .vI (h4 q)⟩
 | .call d x k,r,h=>by
  unfold dI at h;generalize hk:(fun y=>dI g (k y))=k' at h;cases h with
  |call e h=>
   subst hk;obtain⟨h3,h4⟩:=fD h;refine⟨h3,fun q=> .call ?_ (h4 q)⟩;rw[q]at e;exact e
theorem AZ{P:Program}{C:Cx}(T:cZ C){e:Env}{ms:List May}{tmps:Array Value}(h:dS C e ms tmps)(b:Frame)(hb:b.tmps=tmps){g:Option (Nat×Bool)}(hρ: ∀x,VR C (aS e ms g x) (b.eval x)){c x y:Operand}{r:AV×h_}
  (he:(Ee e ms g c x y).Ev r):qB P C (do pure (if <-asBool (b.eval c)then b.eval x else b.eval y):Sem Value) r:=by
 unfold Ee at he;have hc:=hρ c;split at he
 ·rename_i cb hcb;rw[hcb]at hc;obtain rfl:=F.aj he;generalize hcv:b.eval c=vc at hc;cases hc;refine⟨if cb then b.eval x else b.eval y,by rw[MO];rfl,?_,rfl⟩
  -- the sides
  have side: ∀(z:Operand) (want:Bool),cb=want->VR C (wz e ms g c z want) (b.eval z):=by
   intro z want hw;unfold wz;split
   ·rename_i t;split
    ·rename_i m tc hm;simp only[cond_eq_ite];split
     ·rename_i hq;simp only[MS,beq_iff_eq]at hq;obtain⟨h1,h2⟩:=dV hm;have k:=h.may m h1;have e1:=MP hq.1;have:tmps.getD tc undef= .bool cb:=by subst hb;exact hcv
      rw[e1,hq.2,<-hw]at k;have k2:=k.2.1 (k.1.2 this);rw[h2]at k2;subst hb;exact k2
     ·exact hρ _
    ·exact hρ _
   ·cases z with
    |tmp t=>rename_i hn;exact(hn t rfl).elim
    |const v=>exact iC v
    |global g=>exact kD T g
    |func f=>exact .fn (f':= .func f) rfl .nil .nil
  simp only;split
  ·rename_i hyb;split
   ·rename_i u hu;cases cb with
    |true=>
     have:=side x true rfl;rw[hu]at this;simpa using this
    |false=>exact .bool
   ·exact .junk _
  ·split
   ·rename_i u hu;cases cb with
    |false=>
     have:=side y false rfl;rw[hu]at this;simpa using this
    |true=>exact .bool
   ·exact .junk _
  ·exact .junk _
 ·exact(F.ah he).elim
end Go.AM
end
section
namespace Go.AM
variable [Tabs]
open Go.RowKit
theorem stepG_op'{P:Program}{fr:Frame}{ops:Array Oper}{i:Nat}{rest:List Nat}{k:List Item}{o:Oper}{cs:List Frame}{w:World}(hm:fr.mode= .run)(ht:fr.todo= .inRegion ops (i::rest)::k)
  (ho:ops[i]?=some o) (hw:Nl o (yielded ops fr.tmps)=true) (hd: ∀c,o.op≠ .defer c):
  stepG P true {frame:=fr,callers:=cs,status:= .running,dying:=none} w=OQ P true fr cs none (execOp fr.eval o) w:=by
 obtain⟨fn,tmps,todo,defers,mode,kind,ro⟩:=fr;obtain rfl:mode= .run:=hm;obtain rfl:todo=_:=ht;simp only at hw;simp only[stepG,Nh,stepG.oper,Frame.oper?,ho,hw,OI,QH,if_true];split
 ·rename_i l c h1 h2;exact(hd _ h2).elim
 ·rfl
theorem lZ{P:Program}{fr:Frame}{ops:Array Oper}{i:Nat}{rest:List Nat}{k:List Item}{o:Oper}{cs:List Frame}{w:World}(hm:fr.mode= .run)(ht:fr.todo= .inRegion ops (i::rest)::k)
  (ho:ops[i]?=some o) (hw:Nl o (yielded ops fr.tmps)=false):
  step P (lone fr cs w)= .next (lone (fr.finish undef) cs w):=by
 obtain⟨fn,tmps,todo,defers,mode,kind,ro⟩:=fr;obtain rfl:mode= .run:=hm;obtain rfl:todo=_:=ht;simp only at hw;exact step_lone_go (by simp[stepG,Nh,ho,hw])
theorem rP{P:Program}{fr:Frame}{ops:Array Oper}{i:Nat}{rest:List Nat}{k:List Item}{o:Oper}{cs:List Frame}{w w':World}{v:Value}(hm:fr.mode= .run)(hk:fr.kind≠ .early)(ht:fr.todo= .inRegion ops (i::rest)::k)
  (ho:ops[i]?=some o) (hw:Nl o (yielded ops fr.tmps)=true) (hd: ∀c,o.op≠ .defer c) (L:xk P (fr::cs) ((execOp fr.eval o).run P w) v w'):
  Steps P (lone fr cs w) (lone (fr.finish v) cs w'):=by
 have hg:=stepG_op' (P:=P) (cs:=cs) (w:=w) hm ht ho hw hd;rcases L with hr|⟨hr,rfl⟩|⟨f,args,w1,hr,fr',h1,h2,h3⟩
 ·exact .one (step_lone_go (by rw[hg];simp[OQ,hr]))
 ·exact .one (step_lone_go (by rw[hg];simp[OQ,hr]))
 ·refine .head (m₁:=lone (NG P f args .normal) (fr::cs) w1) (step_lone_go ?_) (h1.trans (.one (step_leave_returned h3)));rw[hg];have:(match fr.todo with| .call _ true _ _::_=>CallKind.wrapped|_=>CallKind.normal)= .normal:=by rw[ht]
  simp only[OQ,Sem.runT_eq,hr,if_true];rw[ht];rfl
theorem jL{fr:Frame}{ops:Array Oper}{i:Nat}{rest:List Nat}{k:List Item}{o:Oper}(ht:fr.todo= .inRegion ops (i::rest)::k)(ho:ops[i]?=some o)(v:Value):
  fr.finish v= {fr with tmps:=(match o.dst with|some d=>fr.tmps.setIfInBounds d v|none=>fr.tmps),todo:= .inRegion ops rest::k}:=by
 unfold Qy;rw[ht];simp only[ho,QG];cases o.dst<;>rfl
def JZ(tmps:Array Value)(d:Option Nat)(v:Value):Array Value:=match d with|some d=>tmps.setIfInBounds d v|none=>tmps
theorem Ju(tmps:Array Value)(d:Option Nat)(v:Value):(JZ tmps d v).size=tmps.size:=by cases d<;>simp[JZ]
theorem pV{P:Program}{Φ:iL}{keep:Bool}{op:Op}{e:Env}{ms:List May}{g:Option (Nat×Bool)}{h:Hp}{nx:Nat}{r:AV×h_}(he:(G8 P Φ keep op e ms g h nx).Ev r): ∀c,op≠ .defer c:=by
 rintro c rfl
 exact(F.ah (show (F.fail:R1).Ev r from he)).elim
theorem jH{o:Oper}{y:Nat->Option Bool}(h:o.guard=none):Nl o y=true:=by simp[Nl,h]
theorem jI{o:Oper}{ops:Array Oper}{tmps:Array Value}{j tg:Nat}{want:Bool}{oj:Oper}(h:o.guard=some (j,want))(hj:ops.toList[j]?=some oj)(ht:oj.dst=some tg):
  Nl o (yielded ops tmps)=true ↔ tmps.getD tg undef= .bool want:=by
 have hj:ops[j]?=some oj:=by rwa [Na]at hj
 simp only[Nl,h,yielded,hj,QG,ht];have:tmps.getD tg undef=(tmps[tg]?).getD undef:=by simp[O4]
 rw[this];cases hx:tmps[tg]? with
 |none=>simp[undef]
 |some v=>
  cases v<;>simp
section
variable {P:Program} {S0:Base} {w0:World} {C:Cx} {h h':Hp} {nx:Nat} {Φ:iL}
theorem yw{cs:List Frame}(I:Inv P S0 w0 C h)(hM:C.M nx=none)(hs:bP h' h)(O:bW P S0 w0 Φ){e:Env}{ms:List May}{tmps:Array Value}(hT:dS C e ms tmps)(fr:Frame)(hf:fr.tmps=tmps){g:Option (Nat×Bool)}(hρ: ∀x,VR C (aS e ms g x) (fr.eval x)){o:Oper}{keep:Bool}{r:AV×h_}
  (he:(G8 P Φ keep o.op e ms g h' nx).Ev r):Does P S0 w0 cs C h nx ((execOp fr.eval o).run P C.w) r:=by
 unfold G8 at he;split at he
 ·rename_i c x y ho;have:=Does.vals (cs:=cs) (nx:=nx) I (AZ (P:=P) I.tabs hT fr hf hρ he);unfold execOp;rw[ho];simp only[MO,MQ]at this ⊢
  generalize (asBool (fr.eval c)).run P C.w=q at this ⊢
  cases q<;>exact this
 ·rename_i t x lo hi m ho;rw[cond_eq_ite]at he;split at he
  ·unfold En at he;obtain⟨ws,q,h1,h2,rfl⟩:=mM he;obtain⟨C',c1,c2,le,I',k⟩:=C9 I hs h1 (.cons (hρ x) .nil);refine Does.Gx c2 le ?_;split at h2
   ·cases k with
    |cons k _=>
     have KJ: ∀y,VR C' (aS e ms g y) (fr.eval y):=fun y=>(hρ y).mono le
     have:=Does.vals (cs:=cs) (nx:=nx) I' (qh I' (fun b o q=>by simp[Hp.get]at q) h2 k (bg.opt KJ lo) (bg.opt KJ hi) (bg.opt KJ (some m)));rw[c1]at this;unfold execOp;rw[ho];exact this
   ·exact(F.ah h2).elim
  ·rw[<-ho]at he;exact yt I hM hs O hρ he
 ·exact yt I hM hs O hρ he
theorem uV(I:Inv P S0 w0 C h)(hM:C.M nx=none)(hs:bP h' h)(O:bW P S0 w0 Φ){e:Env}{ms:List May}{fr:Frame}(hT:dS C e ms fr.tmps)(hm:fr.mode= .run)(hk:fr.kind≠ .early)
  {ops:Array Oper} {i:Nat} {rest:List Nat} {k:List Item} {cs:List Frame} (ht:fr.todo= .inRegion ops (i::rest)::k) {o:Oper} (ho:ops[i]?=some o) (hd: ∀d,o.dst=some d->d<fr.tmps.size) (Jr: ∀j want oj tg,o.guard=some (j,want)->ops.toList[j]?=some oj->oj.dst=some tg->o.dst≠some tg) {x:Eff}
  (he:(wS P Φ ops.toList o nx e ms h').Ev x):
  ∃C' jl,Steps P (lone fr cs C.w) (lone {fr with tmps:=jl,todo:= .inRegion ops rest::k} cs C'.w)/\C.Le C'/\jl.size=fr.tmps.size/\
   dS C' (RS.app ⟨e,ms,h⟩ x).env (RS.app ⟨e,ms,h⟩ x).aI jl/\Inv P S0 w0 C' (RS.app ⟨e,ms,h⟩ x).hp/\ ∀y,C'.M y≠none->C.M y≠none\/y=nx:=by
 have fin:=fun v=>jL (v:=v) ht ho
 have Iu: ∀ {g:Option (Nat×Bool)} {r:AV×h_},Nl o (yielded ops fr.tmps)=true->(∀x,VR C (aS e ms g x) (fr.eval x))->(G8 P Φ (zK ops.toList o.dst) o.op e ms g h' nx).Ev r->
   ∃C' jl,Steps P (lone fr cs C.w) (lone {fr with tmps:=jl,todo:= .inRegion ops rest::k} cs C'.w)/\C.Le C'/\jl.size=fr.tmps.size/\
   dS C' (RS.app ⟨e,ms,h⟩ (.put o.dst r.1 r.2)).env (RS.app ⟨e,ms,h⟩ (.put o.dst r.1 r.2)).aI jl/\Inv P S0 w0 C' (RS.app ⟨e,ms,h⟩ (.put o.dst r.1 r.2)).hp/\ ∀y,C'.M y≠none->C.M y≠none\/y=nx:=by
  intro g r hw hρ hr;obtain⟨v,C',L,I',le,hv,hn⟩:=yw (cs:=fr::cs) I hM hs O hT fr rfl hρ hr;have st:=rP hm hk ht ho hw (pV hr) L;rw[fin]at st;refine⟨C',_,st,le,?_,?_,?_,hn⟩
  ·cases o.dst<;>simp
  ·cases hdst:o.dst with
   |none=>simp only[RS.app];exact hT.mono le
   |some d=>simp only[RS.app];exact(hT.mono le).put (hd d hdst) hv
  ·cases hdst:o.dst with
   |none=>exact I'
   |some d=>exact I'
 unfold wS at he;split at he
 ·rename_i hg;obtain⟨r,hr,he⟩:=F.bV he;obtain rfl:=F.au he;exact Iu (jH hg) (fun x=>jZ I.tabs hT fr rfl x) hr
 ·rename_i j want hg;split at he
  ·rename_i oj hj;split at he
   ·rename_i tg vF;split at he
    ·rename_i g hgo;have hiff:=iy hT hgo;have hwant:=jI (ops:=ops) (tmps:=fr.tmps) hg hj vF;simp only[cond_eq_ite]at he;split at he
     ·rename_i hq;obtain⟨r,hr,he⟩:=F.bV he;obtain rfl:=F.au he;obtain⟨hr2,hr⟩:=fD hr;cases g with
      |true=>
       have hh:=hiff.1 rfl;obtain⟨v,C',L,I',le,hv,hn⟩:=yw (cs:=fr::cs) I hM hs O hT fr rfl (fun x=>j_ I.tabs hT fr rfl hh x) (hr rfl);have st:=rP hm hk ht ho (hwant.2 hh) (pV (hr rfl)) L;rw[fin]at st;rw[hr2]at I';refine⟨C',_,st,le,?_,?_,?_,hn⟩
       ·cases o.dst<;>simp
       ·cases hdst:o.dst with
        |none=>simp only[RS.app];exact hT.mono le
        |some d=>
         simp only[RS.app];exact(hT.mono le).gq (hd d hdst) (fun q=>Jr _ _ _ _ hg hj vF (by rw[hdst,q])) hiff (fun _=>hv) (fun q=>by simp at q)
       ·cases hdst:o.dst with
        |none=>exact I'
        |some d=>exact I'
      |false=>
       have hh:Nl o (yielded ops fr.tmps)=false:=by
        cases hx:Nl o (yielded ops fr.tmps)with
        |false=>rfl
        |true=>exact(Qj (hiff.2 (hwant.1 hx))).elim
       have st:Steps P (lone fr cs C.w) (lone (fr.finish undef) cs C.w):= .one (lZ hm ht ho hh);rw[fin]at st;refine⟨C,_,st,.refl C,?_,?_,?_,fun y hy=> .inl hy⟩
       ·cases o.dst<;>simp
       ·cases hdst:o.dst with
        |none=>simp only[RS.app];exact hT
        |some d=>
         simp only[RS.app];exact hT.gq (hd d hdst) (fun q=>Jr _ _ _ _ hg hj vF (by rw[hdst,q])) hiff (fun q=>by simp at q) (fun _=>rfl)
       ·cases hdst:o.dst with
        |none=>exact I
        |some d=>exact I
     ·cases g with
      |true=>
       cases he with
       |vJ he=>
        obtain⟨r,hr,he⟩:=F.bV he;obtain rfl:=F.au he;have hh:=hiff.1 rfl;exact Iu (hwant.2 hh) (fun x=>j_ I.tabs hT fr rfl hh x) hr
      |false=>
       cases he with
       |vI he=>
        obtain rfl:=F.au he;have hh:Nl o (yielded ops fr.tmps)=false:=by
         cases hx:Nl o (yielded ops fr.tmps)with
         |false=>rfl
         |true=>exact(Qj (hiff.2 (hwant.1 hx))).elim
        have st:Steps P (lone fr cs C.w) (lone (fr.finish undef) cs C.w):= .one (lZ hm ht ho hh);rw[fin]at st;refine⟨C,_,st,.refl C,?_,?_,?_,fun y hy=> .inl hy⟩
        ·cases o.dst<;>simp
        ·cases hdst:o.dst with
         |none=>simp only[RS.app];exact hT
         |some d=>simp only[RS.app];exact hT.put (hd d hdst) (.junk _)
        ·cases hdst:o.dst with
         |none=>exact I
         |some d=>exact I
    ·exact(F.ah he).elim
   ·exact(F.ah he).elim
  ·exact(F.ah he).elim
end
end Go.AM
end
section
namespace Go.AM
variable [Tabs]
open Go.RowKit
inductive sO (ops:Array Oper):List Nat->List Nat->Prop
 |nil {pre}:(∀i,i<ops.size->i∈pre)->sO ops pre []
 |cons {pre i l}:i<ops.size->i∉pre->(∀o e,ops[i]?=some o->e∈o.after->Nc .any e=true->e.on∈pre)->sO ops (i::pre) l->sO ops pre (i::l)
theorem filter_lt{α:Type}{p q:α->Bool}(hpq: ∀x,q x=true->p x=true): ∀ {l:List α} {x:α},x∈l->p x=true->q x=false->(l.filter q).length<(l.filter p).length
 |y::l,x,hx,hp,hq=>by
  have hle: ∀l:List α,(l.filter q).length<=(l.filter p).length:=by
   intro l
   induction l with
   |nil=>simp
   |cons z l ih=>
    rw[Ns,Ns];by_cases hqz:q z=true
    ·simp[hqz,hpq z hqz,ih]
    ·simp only[hqz,if_false,Nr];split
     ·simp;omega
     ·exact ih
  rcases MV.1 hx with rfl|hx
  ·rw[Ns,Ns];simp only[hp,hq,if_true,Nr,if_false,Ob];have:=hle l;omega
  ·have ih:=filter_lt hpq hx hp hq;rw[Ns,Ns];by_cases hqz:q y=true
   ·simp[hqz,hpq y hqz,ih]
   ·simp only[hqz,if_false,Nr];split
    ·simp;omega
    ·exact ih
theorem EC{m:Ox}{e:Edge}(h:Nc .any e=true):Nc m e=true:=by
 unfold Nc at h ⊢
 split<;>simp_all
theorem oC{m:Ox}{ops:Array Oper}{listed:Array Bool}{i:Nat}:i∈NS m ops listed ↔ listed.getD i true=false/\ ∃o,ops[i]?=some o/\ ∀e∈o.after,Nc m e=true->listed.getD e.on false=true:=mem_ready
def tH(m:Ox)(ops:Array Oper):Prop:= ∀(listed:Array Bool),listed.size=ops.size-> ∀j,j<ops.size->listed.getD j false=false-> ∃i,i∈NS m ops listed
theorem Bc{m:Ox}{ops:Array Oper}(qK: ∀(i:Nat) o e,ops[i]?=some o->e∈o.after->Nc m e=true->e.on<i):tH m ops:=by
 intro listed hs j
 induction j using Nat.strongRecOn with
 |_ j ih=>
  intro hj hl;by_cases hr:j∈NS m ops listed
  ·exact⟨j,hr⟩
  ·rw[oC]at hr;have h0:listed.getD j true=false:=by
    have:j<listed.size:=by omega
    simp only[Pq,this,dif_pos]at hl ⊢
    exact hl
   have hex: ∃e,e∈(ops[j]).after/\Nc m e=true/\ ¬listed.getD e.on false=true:=by
    apply NW
    intro hn;exact hr ⟨h0,ops[j],by simp[hj],fun e he hb=>NW fun q=>hn ⟨e,he,hb,q⟩⟩
   obtain⟨e,he,hb,hq⟩:=hex;have hlt:=qK j ops[j] e (by simp[hj]) he hb;exact ih e.on hlt (by omega) (by simpa using hq)
theorem zU{l:List Nat}{b:Nat}(h:l.any (Oh b)=true):b∈l:=by
 obtain⟨x,h1,h2⟩:=NR.1 h;have:=MP h2;subst this;exact h1
theorem pR{m:Ox}{ops:Array Oper}{listed:Array Bool}: ∀ {W pre:List Nat},zf m ops.toList pre W=true->(∀j∈pre,listed.getD j false=true)->(∃j∈W,listed.getD j false=false)->
  ∃i∈W,listed.getD i false=false/\ ∃o,ops[i]?=some o/\ ∀e∈o.after,Nc m e=true->listed.getD e.on false=true
 |[],pre,_,_,h=>by obtain⟨j,hj,_⟩:=h;simp at hj
 |i::r,pre,hok,hpre,h=>by
  simp only[zf,MS]at hok;obtain⟨h1,h2⟩:=hok;by_cases hi:listed.getD i false=false
  ·split at h1
   ·rename_i o ho;refine⟨i,.head _,hi,o,by rwa [Na]at ho,fun e he hb=> ?_⟩;have:=NQ.1 h1 e (Nb.2 he);simp only[hb,Rf,Q_]at this;exact hpre _ (zU this)
   ·simp at h1
  ·have hi:listed.getD i false=true:=by simpa using hi
   obtain⟨j,hj,hl⟩:=h;have hj':j∈r:=by
    rcases MV.1 hj with rfl|hj
    ·rw[hi]at hl;simp at hl
    ·exact hj
   obtain⟨k,k1,k2⟩:=pR h2 (fun x hx=>by
    rcases MV.1 hx with rfl|hx
    ·exact hi
    ·exact hpre x hx) ⟨j,hj',hl⟩
   exact⟨k,.tail _ k1,k2⟩
theorem nJ{m:Ox}{ops:Array Oper}{W:List Nat}(h:mX m ops W=true):tH m ops:=by
 intro listed hs j hj hl;simp only[mX,MS]at h;have LK:=zU (NQ.1 h.1 j (Po.2 hj));obtain⟨i,_,h2,o,h3,h4⟩:=pR (listed:=listed) h.2 (fun x hx=>by simp at hx) ⟨j,LK,hl⟩;refine⟨i,oC.2 ⟨?_,o,h3,h4⟩⟩;have:i<ops.size:=(NM.1 h3).1;have:i<listed.size:=by omega
 simp only[Pq,this,dif_pos]at h2 ⊢
 exact h2
theorem DL{m:Ox}{ops:Array Oper}(qK:tH m ops):
  ∀(fuel t:Nat) (listed:Array Bool) (pre:List Nat),listed.size=ops.size->(∀j,listed.getD j false=true ↔ j∈pre)->((Px ops.size).filter fun j=> !listed.getD j false).length<=fuel->
  sO ops pre (O5 m ops fuel t listed [])
 |0,t,listed,pre,hs,hl,hc=>by
  refine .nil fun i hi=> ?_
  rw[<-hl];apply NW
  intro hn;have:i∈(Px ops.size).filter fun j=> !listed.getD j false:=OG.2 ⟨Po.2 hi,by simpa using hn⟩
  have:=List.length_pos_of_mem this;omega
 |fuel+1,t,listed,pre,hs,hl,hc=>by
  simp only[O5]
  change sO ops pre (match (NS m ops listed)[t%(NS m ops listed).length]? with
   |some i=>O5 m ops fuel (t/(NS m ops listed).length) (listed.setIfInBounds i true) [i]
   |none=>[].reverse)
  cases hi:(NS m ops listed)[t%(NS m ops listed).length]? with
  |none=>
   have hnil:NS m ops listed=[]:=by
    cases hr:NS m ops listed with
    |nil=>rfl
    |cons x xs=>
     rw[hr]at hi;have hlt:t%(x::xs).length<(x::xs).length:=Nat.mod_lt _ (by simp);simp at hi;simp at hlt;omega
   refine .nil fun i hi=> ?_
   rw[<-hl];apply NW
   intro hn;obtain⟨k,hk⟩:=qK listed hs i hi (by simpa using hn);rw[hnil]at hk;simp at hk
  |some i=>
   simp only[];rw[linearise_go_acc,List.reverse_singleton,List.singleton_append];have hm:=oC.1 (P_ hi);obtain⟨h0,o,ho,hall⟩:=hm;have hlt:i<ops.size:=(NM.1 ho).1;have hif:listed.getD i false=false:=by
    have:i<listed.size:=by omega
    simp only[Pq,this,dif_pos]at h0 ⊢
    exact h0
   refine .cons hlt (fun q=>by rw[<-hl,hif]at q;simp at q) (fun o' e ho' he hb=>by rw[ho]at ho';obtain rfl:=MN ho';exact(hl _).1 (hall e he (EC hb))) ?_;refine DL qK fuel _ _ (i::pre) (by simp[hs]) (fun j=> ?_) ?_
   ·by_cases hj:i=j
    ·subst hj;have:i<listed.size:=by omega
     simp[this]
    ·rw[getD_set_ne false hj,hl];simp[Rq hj]
   ·have:=filter_lt (p:=fun j=> !listed.getD j false) (q:=fun j=> !(listed.setIfInBounds i true).getD j false) (l:=Px ops.size) (x:=i) (fun x hx=>by
     by_cases hx2:i=x
     ·subst hx2;have:i<listed.size:=by omega
      simp[this]at hx
     ·rw[getD_set_ne false hx2]at hx;exact hx) (Po.2 hlt) (by simp only[hif];rfl) (by
      have:i<listed.size:=by omega
      simp[this])
    omega
theorem vN{m:Ox}{ops:Array Oper}{t:Nat}(h:tH m ops):sO ops [] (QC m ops t):=by
 refine DL h _ _ _ _ (by simp) (fun j=> ?_) ?_
 ·simp only[List.not_mem_nil,iff_false,PL];by_cases hj:j<ops.size
  ·simp[hj]
  ·simp[Pq,hj]
 ·exact Rw (List.length_filter_le _ _) (by simp)
theorem nK{P:Program}{ops:Array Oper}{t:Nat}(hm:nX P ops=true)(qK: ∀(i:Nat) o e,ops[i]?=some o->e∈o.after->Nc .any e=true->e.on<i):
  sO ops [] (PW (P.follows .mixedOrders) ops t):=by
 unfold PW;split
 ·exact vN (Bc qK)
 ·rename_i hq;have h2:mX .text ops (Px ops.size)=true/\mX .gc ops (QC .gc ops 0)=true:=by
   unfold nX at hm;simp only[N7,MS]at hm hq;rcases hm with hm|hm
   ·exact(hq hm).elim
   ·exact hm
  split
  ·exact vN (nJ h2.1)
  ·exact vN (nJ h2.2)
end Go.AM
end
section
namespace Go.AM
variable [Tabs]
open Go.RowKit
theorem oz{α β:Type}{f g:α->β}: ∀ {l:List α},(∀x∈l,f x=g x)->l.map f=l.map g:=fun h=>O9 h
theorem yj{P:Program}{Φ:iL}{op:Op}{ρ ρ':Operand->AV}{h:Hp}{nx:Nat}(hc: ∀x∈op.operands,ρ x=ρ' x):Jh P Φ op ρ h nx=Jh P Φ op ρ' h nx:=by
 have pairs: ∀ps:Array (Nat×Operand),(∀x∈ps.map (·.2),ρ x=ρ' x)->(ps.toList.map fun (i,x)=>(i,ρ x))=(ps.toList.map fun (i,x)=>(i,ρ' x)):=fun ps hp=>
  O9 fun p hm=>by
   obtain⟨i,x⟩:=p;simp only[hp x (Array.mem_map.2 ⟨(i,x),Nb.1 hm,rfl⟩)]
 cases op<;>simp only[PD]at hc<;>unfold Jh
 case build t ps=>simp only[pairs ps fun x hx=>hc x (by simpa using hx)]
 case buildSlice t n ps=>
  have hp:(ps.toList.map fun p=>ρ p.2)=ps.toList.map fun p=>ρ' p.2:=O9 fun p hm=>hc p.2 (by simpa using ⟨p.1,Nb.1 hm⟩)
  simp only[pairs ps fun x hx=>hc x (by simpa using hx),hp]
 case makeFunc fn first captured=>
  cases fn<;>first
   |rfl
   |simp only[oz (l:=first.toList) fun x hx=>hc x (by simp[Nb.1 hx]),oz (l:=captured.toList) fun x hx=>hc x (by simp[Nb.1 hx])]
 case call c=>
  have hargs:c.args.toList.map ρ=c.args.toList.map ρ':=oz fun x hx=>hc x (by simp[Qk,Nb.1 hx])
  have hcv:gJ c ρ=gJ c ρ':=by
   unfold gJ;cases hcl:c.callee with
   |value f=>exact hc f (by simp[Qk,hcl])
   |invoke r m=>exact hc r (by simp[Qk,hcl])
   |builtin b=>rfl
  show tK P Φ h nx c (gJ c ρ) (c.args.toList.map ρ)=tK P Φ h nx c (gJ c ρ') (c.args.toList.map ρ');rw[hargs,hcv]
 case slice t x lo hi mx=>cases lo<;>cases hi<;>cases mx<;>simp_all
 all_goals (first|rfl|(simp_all;done))
def kW(e e':Env)(ms ms':List May)(t:Nat):Prop:=e.get t=e'.get t/\aQ ms t=aQ ms' t
theorem iH{e e':Env}{ms ms':List May}{g:Option (Nat×Bool)}{x:Operand}(h: ∀t,x= .tmp t->kW e e' ms ms' t):aS e ms g x=aS e' ms' g x:=by
 cases x with
 |tmp t=>
  obtain⟨h1,h2⟩:=h t rfl;simp only[aS,h1,h2]
 |_=>rfl
theorem sF{e e':Env}{ms ms':List May}{g:Option (Nat×Bool)}{c x:Operand}{w:Bool}(h: ∀t,x= .tmp t->kW e e' ms ms' t):wz e ms g c x w=wz e' ms' g c x w:=by
 cases x with
 |tmp t=>
  have h0:=h t rfl;obtain⟨h1,h2⟩:=h0;simp only[wz,h2];rw[iH h]
 |_=>rfl
theorem yc{ops:List Oper}{o:Oper}{t:Nat}(h:Ry t∈o.op.operands):t∈looksAt ops o:=
 List.mem_append_left _ (Qn.2 ⟨.tmp t,Nb.2 h,rfl⟩)
theorem yu{P:Program}{Φ:iL}{o:Oper}{ops:List Oper}{e e':Env}{ms ms':List May}{g:Option (Nat×Bool)}{h:Hp}{nx:Nat}(hc: ∀t∈looksAt ops o,kW e e' ms ms' t){keep:Bool}:G8 P Φ keep o.op e ms g h nx=G8 P Φ keep o.op e' ms' g h nx:=by
 have hx: ∀x∈o.op.operands,∀t,x= .tmp t->kW e e' ms ms' t:=fun x hx t q=>hc t (yc (q▸hx))
 unfold G8;split
 ·rename_i c a b ho;have hc': ∀x∈ #[c,a,b],∀t,x=Ry t->kW e e' ms ms' t:=fun x hxm=>hx x (by rw[ho];exact hxm)
  unfold Ee;rw[iH (hc' c (by simp)),sF (hc' a (by simp)),sF (hc' b (by simp))]
 ·rename_i t x lo hi m ho;have hm: ∀y∈(Op.slice t x lo hi (some m)).operands,aS e ms g y=aS e' ms' g y:=fun y hy=>iH (hx y (by rw[ho];exact hy))
  have h1:=hm x (by simp[PD]);have h2:=hm m (by simp[PD]);have h3:lo.map (aS e ms g)=lo.map (aS e' ms' g):=by cases lo with|none=>rfl|some y=>simp only[OI];rw[hm y (by simp[PD])]
  have h4:hi.map (aS e ms g)=hi.map (aS e' ms' g):=by cases hi with|none=>rfl|some y=>simp only[OI];rw[hm y (by simp[PD])]
  rw[h1,h2,h3,h4,yj hm]
 ·exact yj fun x hxm=>iH (hx x hxm)
theorem BR{P:Program}{Φ:iL}{o:Oper}{ops:List Oper}{e e':Env}{ms ms':List May}{h:Hp}{nx:Nat}(hc: ∀t∈looksAt ops o,kW e e' ms ms' t):wS P Φ ops o nx e ms h=wS P Φ ops o nx e' ms' h:=by
 unfold wS;split
 ·rw[yu hc]
 ·rename_i j want hg;split
  ·rename_i oj hj;split
   ·rename_i tg ht;have Jr:tg∈looksAt ops o:=P6 _ (by simp only[hg,hj,ht];simp);obtain⟨h1,h2⟩:=hc tg Jr;have:guardOf e ms tg want=guardOf e' ms' tg want:=by simp only[guardOf,h1,h2]
    rw[this,yu hc]
   ·rfl
  ·rfl
theorem Ah{o:Oper}{ops:List Oper}{e e':Env}{ms ms':List May}{g:Option (Nat×Bool)}(hc: ∀t∈looksAt ops o,kW e e' ms ms' t):nG o (aS e ms g)=nG o (aS e' ms' g):=by
 unfold nG;cases touches o.op with
 |false=>rfl
 |true=>
  simp only[cond_true];have: ∀l:List Operand,(∀x∈l,aS e ms g x=aS e' ms' g x)->(l.flatMap fun x=>jB (aS e ms g x))=l.flatMap fun x=>jB (aS e' ms' g x):=by
   intro l
   induction l with
   |nil=>intro _;rfl
   |cons x l ih=>intro h;rw[Nu,Nu,h x (.head _),ih fun y hy=>h y (.tail _ hy)]
  exact this _ fun x hx=>iH fun t q=>hc t (yc (q▸Nb.1 hx))
theorem vZ{h h':Hp}{l:List Nat}(hc: ∀b∈l,h.get b=h'.get b):restrict h l=restrict h' l:=by
 unfold restrict
 induction l with
 |nil=>rfl
 |cons b l ih=>
  rw[Oy,Oy,hc b (.head _),ih fun x hx=>hc x (.tail _ hx)]
theorem zl(h:Hp)(l:List Nat):bP (restrict h l) h:=by
 intro b o e;unfold restrict at e
 induction l with
 |nil=>simp[Hp.get]at e
 |cons x l ih=>
  rw[Oy]at e;cases hx:h.get x with
  |none=>rw[hx]at e;exact ih e
  |some y=>
   rw[hx]at e;simp only at e;rw[Hp.aB]at e;split at e
   ·rename_i q;subst q;rw[hx];exact e
   ·exact ih e
end Go.AM
end
section
namespace Go.AM
variable [Tabs]
open Go.RowKit
abbrev Tr:=List (kS×Eff)
def aV(s0:RS):Tr->RS
 |[]=>s0
 |x::T=>(aV s0 T).app x.2
def Eff.dst:Eff->Option Nat
 | .put d _ _=>d
 | .may d _ _ _ _=>d
def Eff.val:Eff->AV
 | .put _ v _=>v
 | .may .. => .junk
def Eff.upd:Eff->h_
 | .put _ _ u=>u
 | .may .. =>[]
def Eff.tg:Eff->Option Nat
 | .put .. =>none
 | .may _ t _ _ _=>some t
def Eff.Gh:Eff->Option May
 | .may (some d) tg want g v=>some ⟨d,tg,want,g,v⟩
 |_=>none
theorem uZ{s0:RS}: ∀ {D:Tr} (t:Nat),(∀x∈D,x.2.dst=x.1.dst)->(aV s0 D).env.get t=match D.find? (fun x=>x.1.dst==some t)with|some x=>x.2.val|none=>s0.env.get t
 |[],t,_=>rfl
 |x::D,t,h=>by
  have ih:=uZ (s0:=s0) (D:=D) t fun y hy=>h y (.tail _ hy)
  have hx:=h x (.head _);obtain⟨f,e⟩:=x;simp only[aV,O8];cases e with
  |put d v u=>
   have hx:d=f.dst:=hx;subst hx;cases hd:f.dst with
   |none=>simp only[RS.app,Ol];exact ih
   |some d=>
    simp only[RS.app];rw[Env.aB];by_cases hq:d=t
    ·subst hq;simp[Eff.val]
    ·rw[if_neg hq];have:(some d==some t)=false:=by simp[hq]
     rw[this];exact ih
  |may d tg want g v=>
   have hx:d=f.dst:=hx;subst hx;cases hd:f.dst with
   |none=>simp only[RS.app,Ol];exact ih
   |some d=>
    simp only[RS.app];rw[Env.aB];by_cases hq:d=t
    ·subst hq;simp[Eff.val]
    ·rw[if_neg hq];have:(some d==some t)=false:=by simp[hq]
     rw[this];exact ih
theorem lu{p:May->Bool}{t:Nat}: ∀ {ms:List May},(∀m∈ms,m.t=t->p m=true)->aQ (ms.filter p) t=aQ ms t
 |[],_=>rfl
 |m::ms,h=>by
  have ih:=lu (p:=p) (t:=t) (ms:=ms) fun x hx=>h x (.tail _ hx)
  rw[Ns];by_cases hp:p m=true
  ·rw[if_pos hp];simp only[aQ,ih]
  ·rw[if_neg hp,ih];have:Oh m.t t=false:=by
    cases hb:Oh m.t t with
    |false=>rfl
    |true=>exact(hp (h m (.head _) (MP hb))).elim
   simp only[aQ,this,cond_false]
theorem qI(ms:List May)(t:Nat):aQ (gq ms t) t=none:=by
 cases h:aQ (gq ms t) t with
 |none=>rfl
 |some m=>
  obtain⟨h1,h2⟩:=dV h;exact((ji h1).2.1 h2).elim
theorem rM{ms:List May}{d t:Nat}(hne:d≠t)(h: ∀m∈ms,m.tg≠d):aQ (gq ms d) t=aQ ms t:=by
 refine lu fun m hm ht=> ?_
 simp only[Nj,P8];constructor
 ·rw[ht];cases hb:Oh t d with
  |false=>rfl
  |true=>exact(hne (MP hb).symm).elim
 ·cases hb:Oh m.tg d with
  |false=>rfl
  |true=>exact(h m hm (MP hb)).elim
theorem AA{s0:RS}: ∀ {D:Tr} {m:May},m∈(aV s0 D).aI->(∃x∈D,x.2.tg=some m.tg)\/m∈s0.aI
 |[],m,h=> .inr h
 |x::D,m,h=>by
  obtain⟨f,e⟩:=x;have ih:m∈(aV s0 D).aI->(∃x∈(f,e)::D,x.2.tg=some m.tg)\/m∈s0.aI:=fun q=>(AA q).imp (fun ⟨y,h1,h2⟩=>⟨y,.tail _ h1,h2⟩) id
  simp only[aV]at h;cases e with
  |put d v u=>
   cases d with
   |none=>exact ih h
   |some d=>exact ih (ji h).1
  |may d tg want g v=>
   cases d with
   |none=>exact ih h
   |some d=>
    simp only[RS.app]at h;rcases MV.1 h with rfl|h
    ·exact .inl ⟨_,.head _,rfl⟩
    ·exact ih (ji h).1
def uh(s0:RS)(D:Tr):Prop:= ∀x∈D,∀d,x.1.dst=some d-> ∀m∈s0.aI,m.tg≠d
theorem vP{s0:RS}: ∀ {D:Tr} (t:Nat),uh s0 D->(∀x∈D,x.2.dst=x.1.dst)->D.Pairwise (fun y x=> ∀d,y.1.dst=some d->x.2.tg≠some d)->
  aQ (aV s0 D).aI t=match D.find? (fun x=>x.1.dst==some t)with|some x=>x.2.Gh|none=>aQ s0.aI t
 |[],t,_,_,_=>rfl
 |x::D,t,h0,h,hp=>by
  obtain⟨hp1,hp2⟩:=Ph.1 hp;have ih:=vP (D:=D) t (fun y hy=>h0 y (.tail _ hy)) (fun y hy=>h y (.tail _ hy)) hp2;have hx:=h x (.head _);have hk: ∀d,x.1.dst=some d-> ∀m∈(aV s0 D).aI,m.tg≠d:=fun d hd m hm q=>by
   rcases AA hm with⟨y,h1,h2⟩|h1
   ·exact hp1 y h1 d hd (by rw[h2,q])
   ·exact h0 x (.head _) d hd m h1 q
  obtain⟨f,e⟩:=x;simp only[aV,O8];cases e with
  |put d v u=>
   have hx:d=f.dst:=hx;subst hx;cases hd:f.dst with
   |none=>simp only[RS.app,Ol];exact ih
   |some d=>
    simp only[RS.app];by_cases hq:d=t
    ·subst hq;simp[qI,Eff.Gh]
    ·rw[rM hq (hk d hd)];have:(some d==some t)=false:=by simp[hq]
     rw[this];exact ih
  |may d tg want g v=>
   have hx:d=f.dst:=hx;subst hx;cases hd:f.dst with
   |none=>simp only[RS.app,Ol];exact ih
   |some d=>
    simp only[RS.app];by_cases hq:d=t
    ·subst hq;simp[aQ,Eff.Gh,hd]
    ·have hb:Oh d t=false:=by
      cases hb:Oh d t with
      |false=>rfl
      |true=>exact(hq (MP hb)).elim
     simp only[aQ,hb,cond_false];rw[rM hq (hk d hd)];have:(some d==some t)=false:=by simp[hq]
     rw[this];exact ih
def UM(ms:List May):Prop:= ∀m∈ms,aQ ms m.t=some m
theorem jv{p:May->Bool}{t:Nat}{m:May}: ∀ {ms:List May},aQ ms t=some m->p m=true->aQ (ms.filter p) t=some m
 |x::ms,h,hp=>by
  simp only[aQ,cond_eq_ite]at h;split at h
  ·rename_i hb;obtain rfl:=MN h;rw[Ns,if_pos hp];simp only[aQ,hb,cond_true]
  ·rename_i hb;have ih:=jv (ms:=ms) h hp;rw[Ns];split
   ·simp only[aQ,cond_eq_ite];rw[if_neg hb];exact ih
   ·exact ih
theorem UM.filter{p:May->Bool}{ms:List May}(h:UM ms):UM (ms.filter p):=fun m hm=>by
 obtain⟨h1,h2⟩:=OG.1 hm;exact jv (h m h1) h2
theorem UM.cons{m:May}{ms:List May}(h:UM ms)(hn: ∀x∈ms,x.t≠m.t):UM (m::ms):=fun x hx=>by
 rcases MV.1 hx with rfl|hx
 ·simp[aQ]
 ·have:Oh m.t x.t=false:=by
   cases hb:Oh m.t x.t with
   |false=>rfl
   |true=>exact(hn x hx (MP hb).symm).elim
  simp only[aQ,this,cond_false];exact h x hx
theorem Bv: ∀ {ms:List May} {m:May},m∈uniq ms->m∈ms
 |x::ms,m,h=>by
  rcases MV.1 h with rfl|h
  ·exact .head _
  ·exact .tail _ (Bv (OG.1 h).1)
theorem Eu: ∀ {ms:List May},UM (uniq ms)
 |[]=>fun m hm=>by simp[uniq]at hm
 |x::ms=>by
  refine UM.cons (UM.filter Eu) fun y hy q=> ?_
  have:=(OG.1 hy).2;rw[q]at this;simp at this
theorem UM.st{s0:RS}(h:UM s0.aI): ∀ {D:Tr},UM (aV s0 D).aI
 |[]=>h
 |(f,e)::D=>by
  have ih:=UM.st h (D:=D);simp only[aV];cases e with
  |put d v u=>
   cases d with
   |none=>exact ih
   |some d=>exact UM.filter ih
  |may d tg want g v=>
   cases d with
   |none=>exact ih
   |some d=>exact UM.cons (UM.filter ih) fun x hx=>(ji hx).2.1
theorem get_append(u h:Hp)(b:Nat):Hp.get (u++h) b=if b∈u.map (·.1)then u.get b else h.get b:=by
 induction u with
 |nil=>simp
 |cons x u ih=>
  obtain⟨y,o⟩:=x;rw[Ot,Hp.aB,Hp.aB,ih];by_cases hy:y=b
  ·simp[hy]
  ·rw[if_neg hy,if_neg hy];have:b∈List.map (fun x=>x.1) ((y,o)::u) ↔ b∈List.map (fun x=>x.1) u:=by simp[Rq hy]
   simp only[this]
theorem Aq{s0:RS}: ∀ {D:Tr} (b:Nat),(aV s0 D).hp.get b=match D.find? (fun x=>x.2.keys.contains b)with|some x=>x.2.upd.get b|none=>s0.hp.get b
 |[],b=>rfl
 |x::D,b=>by
  have ih:=Aq (s0:=s0) (D:=D) b;obtain⟨f,e⟩:=x;simp only[aV,O8];cases e with
  |put d v u=>
   have:(RS.app (aV s0 D) (.put d v u)).hp=u++(aV s0 D).hp:=by cases d<;>rfl
   rw[this,get_append];by_cases hb:b∈u.map (·.1)
   ·have hc:(Eff.keys (.put d v u)).contains b=true:=Nw.2 hb;rw[if_pos hb];simp only[hc];rfl
   ·have hc:(Eff.keys (.put d v u)).contains b=false:=by
     cases hq:(Eff.keys (.put d v u)).contains b with
     |false=>rfl
     |true=>exact(hb (Nw.1 hq)).elim
    rw[if_neg hb];simp only[hc];exact ih
  |may d tg want g v=>
   have:(RS.app (aV s0 D) (.may d tg want g v)).hp=(aV s0 D).hp:=by cases d<;>rfl
   rw[this];have hc:(Eff.keys (.may d tg want g v)).contains b=false:=rfl;simp only[hc];exact ih
theorem find_eq{p:kS×Eff->Bool}{D T:Tr}(hm: ∀x,p x=true->(x∈D ↔ x∈T))(hD:D.Pairwise (fun y x=>p y=true->p x=true->x.1.i<y.1.i))(hT:T.Pairwise (fun y x=>p y=true->p x=true->x.1.i<y.1.i)):
  D.find? p=T.find? p:=by
 have top: ∀ {L:Tr} {y:kS×Eff},L.Pairwise (fun y x=>p y=true->p x=true->x.1.i<y.1.i)->L.find? p=some y-> ∀x∈L,p x=true->x=y\/x.1.i<y.1.i:=by
  intro L
  induction L with
  |nil=>intro y _ h;simp at h
  |cons z L ih=>
   intro y hp h x hx hpx;obtain⟨hp1,hp2⟩:=Ph.1 hp;rw[O8]at h;cases hz:p z with
   |true=>
    rw[hz]at h;obtain rfl:=MN h;rcases MV.1 hx with rfl|hx
    ·exact .inl rfl
    ·exact .inr (hp1 x hx hz hpx)
   |false=>
    rw[hz]at h;rcases MV.1 hx with rfl|hx
    ·rw[hz]at hpx;simp at hpx
    ·exact ih hp2 h x hx hpx
 cases h1:D.find? p with
 |none=>
  cases h2:T.find? p with
  |none=>rfl
  |some y=>
   have hy:=Om h2;have hpy:=PX h2;have:=Qm.1 h1 y ((hm y hpy).2 hy);exact(this hpy).elim
 |some x=>
  have hx:=Om h1;have hpx:=PX h1;cases h2:T.find? p with
  |none=>
   have:=Qm.1 h2 x ((hm x hpx).1 hx);exact(this hpx).elim
  |some y=>
   have hy:=Om h2;have hpy:=PX h2;rcases top hD h1 y ((hm y hpy).2 hy) hpy with q|q
   ·rw[q]
   ·rcases top hT h2 x ((hm x hpx).1 hx) hpx with q2|q2
    ·rw[q2]
    ·omega
end Go.AM
end
section
namespace Go.AM
variable [Tabs]
open Go.RowKit
def yT(ops:List Oper)(k:Nat)(o:Oper)(T:Tr)(s:RS)(e:Eff):kS:=
 ⟨k+T.length,tJ o (T.map (·.1)),o.dst,looksAt ops o,nG o (aS s.env s.aI (fO ops o)),e.keys,(fO ops o).map (·.1)⟩
inductive Runs (P:Program) (Φ:iL) (ops:List Oper) (nx k:Nat) (s0:RS):Tr->Prop
 |nil:Runs P Φ ops nx k s0 []
 |cons {T o e}:Runs P Φ ops nx k s0 T->ops[k+T.length]?=some o->
   (wS P Φ ops o (nx+(k+T.length)) (aV s0 T).env (aV s0 T).aI (restrict (aV s0 T).hp (nG o (aS (aV s0 T).env (aV s0 T).aI (fO ops o))))).Ev e->
   inOrder k o (T.map (·.1))=true->(∀g∈T.map (·.1),(((yT ops k o T (aV s0 T) e).before.n.testBit g.i)=true\/uo g (yT ops k o T (aV s0 T) e)=true)/\hits o.dst g.tg=false)->
   Runs P Φ ops nx k s0 ((yT ops k o T (aV s0 T) e,e)::T)
section
variable {P:Program} {Φ:iL} {ops:List Oper} {nx k:Nat} {s0:RS}
theorem oU: ∀(m:Nat) {T:Tr} {s':RS},Runs P Φ ops nx k s0 T->(iQ P Φ ops k (QU (k+T.length) m) nx (T.map (·.1)) (aV s0 T)).Ev s'-> ∃T',Runs P Φ ops nx k s0 T'/\T'.length=T.length+m/\s'=aV s0 T'
 |0,T,s',h,e=>by
  simp only[List.range'_zero,iQ]at e;obtain rfl:=F.au e;exact⟨T,h,rfl,rfl⟩
 |m+1,T,s',h,e=>by
  rw[OW]at e;simp only[iQ]at e;split at e
  ·rename_i o ho;obtain⟨x,hx,e⟩:=F.bV e;simp only[cond_eq_ite]at e;split at e
   ·rename_i hc;simp only[MS,NQ,N7,Nj]at hc;obtain⟨h1,h2⟩:=hc;have hr:=Runs.cons h ho hx h1 h2;obtain⟨T',k1,k2,k3⟩:=oU m hr e;exact⟨T',k1,by rw[k2,Ob];omega,k3⟩
   ·exact(F.ah e).elim
  ·exact(F.ah e).elim
theorem Runs.lt: ∀ {T:Tr},Runs P Φ ops nx k s0 T-> ∀x∈T,x.1.i<k+T.length
 |_,.cons h _ _ _ _,x,hx=>by
  rcases MV.1 hx with rfl|hx
  ·show k+_<k+(ML _+1);omega
  ·have:=h.lt x hx;rw[Ob];omega
theorem Runs.ge: ∀ {T:Tr},Runs P Φ ops nx k s0 T-> ∀x∈T,k<=x.1.i
 |_,.cons h _ _ _ _,x,hx=>by
  rcases MV.1 hx with rfl|hx
  ·exact OX _ _
  ·exact h.ge x hx
theorem Runs.sorted: ∀ {T:Tr},Runs P Φ ops nx k s0 T->T.Pairwise (fun y x=>x.1.i<y.1.i)
 |_,.nil=> .nil
 |_,.cons h _ _ _ _=> .cons (fun x hx=>h.lt x hx) h.sorted
theorem Runs.has: ∀ {T:Tr},Runs P Φ ops nx k s0 T-> ∀i,k<=i->i<k+T.length-> ∃x∈T,x.1.i=i
 |_,.nil,i,hk,hi=>by rw[QT]at hi;omega
 |_,.cons (T:=T) h _ _ _ _,i,hk,hi=>by
  rw[Ob]at hi;by_cases hq:i=k+T.length
  ·exact⟨_,.head _,hq.symm⟩
  ·obtain⟨x,h1,h2⟩:=h.has i hk (by omega);exact⟨x,.tail _ h1,h2⟩
theorem lY: ∀ {T:Tr},T.Pairwise (fun y x=>x.1.i<y.1.i)-> ∀x∈T,∀y∈T,x.1.i=y.1.i->x=y
 |z::T,hp,x,hx,y,hy,e=>by
  obtain⟨h1,h2⟩:=Ph.1 hp;rcases MV.1 hx with hx'|hx'<;>rcases MV.1 hy with hy'|hy'
  ·rw[hx',hy']
  ·have:=h1 y hy';rw[hx']at e;omega
  ·have:=h1 x hx';rw[hy']at e;omega
  ·exact lY h2 x hx' y hy' e
theorem Runs.part: ∀ {T:Tr},Runs P Φ ops nx k s0 T-> ∀x∈T,∃B,Runs P Φ ops nx k s0 (x::B)/\x.1.i=k+B.length/\(∀y∈B,y∈T)/\ ∀y∈T,y.1.i<x.1.i->y∈B
 |_,.cons (T:=T) h a b c d,x,hx=>by
  rcases MV.1 hx with rfl|hx
  ·refine⟨T,.cons h a b c d,rfl,fun y hy=> .tail _ hy,fun y hy hlt=> ?_⟩;rcases MV.1 hy with rfl|hy
   ·omega
   ·exact hy
  ·obtain⟨B,k1,k2,k3,k4⟩:=h.part x hx;refine⟨B,k1,k2,fun y hy=> .tail _ (k3 y hy),fun y hy hlt=> ?_⟩;rcases MV.1 hy with rfl|hy
   ·have:=h.lt x hx;have:k+T.length<x.1.i:=hlt;omega
   ·exact k4 y hy hlt
theorem Runs.pairs: ∀ {T:Tr},Runs P Φ ops nx k s0 T-> ∀x∈T,∀y∈T,x.1.i<y.1.i->(x.1.i∈y.1.before\/uo x.1 y.1=true)/\hits y.1.dst x.1.tg=false
 |_,.cons (T:=T) h a b c d,x,hx,y,hy,hlt=>by
  rcases MV.1 hy with rfl|hy
  ·rcases MV.1 hx with rfl|hx
   ·omega
   ·obtain⟨h1,h2⟩:=d x.1 (Og.2 ⟨x,hx,rfl⟩);exact⟨h1.imp (fun q=>q) id,h2⟩
  ·rcases MV.1 hx with rfl|hx
   ·have:=h.lt y hy;have:k+T.length<y.1.i:=hlt;omega
   ·exact h.pairs x hx y hy hlt
theorem BU{o:Oper}{n:Nat}{e:Env}{ms:List May}{h:Hp}{x:Eff}(he:(wS P Φ ops o n e ms h).Ev x):x.dst=o.dst/\ ∀t,x.tg=some t->(fO ops o).map (·.1)=some t:=by
 unfold wS at he;split at he
 ·obtain⟨r,_,he⟩:=F.bV he;obtain rfl:=F.au he;exact⟨rfl,fun t q=>by simp[Eff.tg]at q⟩
 ·rename_i j want hg;split at he
  ·rename_i oj hj;split at he
   ·rename_i tg ht;split at he
    ·simp only[cond_eq_ite]at he;split at he
     ·obtain⟨r,_,he⟩:=F.bV he;obtain rfl:=F.au he;refine⟨rfl,fun t q=> ?_⟩;simp only[Eff.tg,MW]at q;subst q;simp only[fO,hg,hj,ht,OI]
     ·cases he with
      |vJ he=>
       obtain⟨r,_,he⟩:=F.bV he;obtain rfl:=F.au he;exact⟨rfl,fun t q=>by simp[Eff.tg]at q⟩
      |vI he=>
       obtain rfl:=F.au he;exact⟨rfl,fun t q=>by simp[Eff.tg]at q⟩
    ·exact(F.ah he).elim
   ·exact(F.ah he).elim
  ·exact(F.ah he).elim
theorem GU{o:Oper}{t:Nat}(h:(fO ops o).map (·.1)=some t):t∈looksAt ops o:=by
 unfold fO at h;unfold looksAt;refine P6 _ ?_;split at h
 ·rename_i j w hg;split at h
  ·rename_i oj hj;split at h
   ·rename_i t' ht;simp only[OI,MW]at h;subst h;simp only[hg,hj,ht];simp
   ·simp at h
  ·simp at h
 ·simp at h
theorem Runs.each: ∀ {T:Tr},Runs P Φ ops nx k s0 T-> ∀x∈T,x.2.dst=x.1.dst/\(∀t,x.2.tg=some t->x.1.tg=some t/\t∈x.1.looks)/\x.1.writes=x.2.keys
 |_,.cons h a b c d,x,hx=>by
  rcases MV.1 hx with rfl|hx
  ·obtain⟨k1,k2⟩:=BU b;exact⟨k1,fun t q=>⟨k2 t q,GU (k2 t q)⟩,rfl⟩
  ·exact h.each x hx
theorem oL{j q:Nat}: ∀ {fs:List kS},(iF j fs).testBit q=true-> ∃f∈fs,f.i=j/\q∈f.before
 |[],h=>by simp[iF]at h
 |f::r,h=>by
  rw[iF]at h;cases hb:Oh f.i j with
  |true=>rw[hb]at h;exact⟨f,.head _,MP hb,h⟩
  |false=>
   rw[hb]at h;obtain⟨g,hg,h1,h2⟩:=oL h;exact⟨g,.tail _ hg,h1,h2⟩
theorem um{fs:List kS}{q:Nat}: ∀(l:List Edge) (a:Nat),(l.foldl (fun a e=>bif Nc .any e then a ||| (1 <<< e.on ||| iF e.on fs)else a) a).testBit q=true->
  a.testBit q=true\/ ∃e∈l,Nc .any e=true/\(q=e.on\/(iF e.on fs).testBit q=true)
 |[],a,h=> .inl h
 |e::r,a,h=>by
  rw[PY]at h;rcases um r _ h with h|⟨e',he,h⟩
  ·cases hb:Nc .any e with
   |false=>rw[hb]at h;exact .inl h
   |true=>
    rw[hb]at h;simp only[cond_true,Qb,N7]at h;rcases h with h|h|h
    ·exact .inl h
    ·refine .inr ⟨e,.head _,hb,.inl ?_⟩;rw[Nat.testBit_shiftLeft]at h;simp only[MS,decide_eq_true_eq,Nat.testBit_one_eq_true_iff_self_eq_zero]at h;omega
    ·exact .inr ⟨e,.head _,hb,.inr h⟩
  ·exact .inr ⟨e',.tail _ he,h⟩
theorem zT{o:Oper}{T:Tr}{q:Nat}(hq:q∈tJ o (T.map (·.1))): ∃e,e∈o.after/\Nc .any e=true/\(q=e.on\/ ∃y∈T,y.1.i=e.on/\q∈y.1.before):=by
 rcases um _ _ (show (o.after.toList.foldl (fun a e=>bif Nc .any e then a ||| (1 <<< e.on ||| iF e.on (T.map (·.1)))else a) 0).testBit q=true from hq)with h|⟨e,he,hb,h⟩
 ·simp at h
 ·refine⟨e,Nb.1 he,hb,h.imp id fun h=> ?_⟩;obtain⟨f,hf,h1,h2⟩:=oL h;obtain⟨y,hy,rfl⟩:=Og.1 hf;exact⟨y,hy,h1,h2⟩
theorem Runs.closed{T:Tr}(hr:Runs P Φ ops nx k s0 T){pre:List Nat}(hpre: ∀i∈pre,∀o e,ops[i]?=some o->e∈o.after->Nc .any e=true->e.on∈pre):
  ∀x∈T,(∀o e,ops[x.1.i]?=some o->e∈o.after->Nc .any e=true->e.on∈pre)-> ∀b∈x.1.before,b∈pre:=by
 induction hr with
 |nil=>intro x hx;simp at hx
 | @cons T o e h a b c d ih=>
  intro x hx hxe q hq;rcases MV.1 hx with hx'|hx'
  ·subst hx';obtain⟨e',he,hb,hq⟩:=zT (show q∈tJ o (T.map (·.1))from hq);have hon:=hxe o e' a he hb;rcases hq with rfl|⟨y,hy,hye,hq⟩
   ·exact hon
   ·exact ih y hy (fun o' e'' ho'=>hpre _ (hye▸hon) o' e'' ho') q hq
  ·exact ih x hx' hxe q hq
theorem Runs.acyclic{T:Tr}(hr:Runs P Φ ops nx k s0 T): ∀(i:Nat) o e,k<=i->i<k+T.length->ops[i]?=some o->e∈o.after->Nc .any e=true->e.on<i:=by
 induction hr with
 |nil=>intro i o e h0 hi;simp at hi;omega
 | @cons T o e h a b c d ih=>
  intro i o' e' h0 hi ho he hb;rw[Ob]at hi;by_cases hq:i=k+T.length
  ·subst hq;rw[a]at ho;have ho:=MN ho;subst ho;have:=NQ.1 c e' (Nb.2 he);rw[hb]at this;simp only[Rf,Q_,N7,O1,NR]at this;rcases this with h1|⟨f,hf,hq⟩
   ·omega
   ·obtain⟨x,hx,hfx⟩:=Og.1 hf;have:=h.lt x hx;rw[hfx,MP hq]at this;exact this
  ·exact ih i o' e' h0 (by omega) ho he hb
end
end Go.AM
end
section
namespace Go.AM
variable [Tabs]
open Go.RowKit
theorem Hf{a b:Nat}:Oh a b=true ↔ a=b:=⟨MP,fun h=>by subst h;simp⟩
theorem EM{a b:List Nat}:meets a b=true ↔ ∃x∈a,x∈b:=by
 unfold meets;rw[NR];constructor
 ·rintro⟨x,hx,h⟩
  obtain⟨y,hy,h⟩:=NR.1 h;obtain rfl:=Hf.1 h;exact⟨_,hx,hy⟩
 ·rintro⟨x,hx,hy⟩
  exact⟨x,hx,NR.2 ⟨x,hy,Hf.2 rfl⟩⟩
theorem apart_spec{a b:kS}(h:uo a b=true):(∀d,a.dst=some d->d∉b.looks/\b.dst≠some d)/\(∀d,b.dst=some d->d∉a.looks)/\(∀x∈a.writes,x∉b.reads)/\(∀x∈a.writes,x∉b.writes)/\(∀x∈a.reads,x∉b.writes):=by
 unfold uo at h;simp only[MS,Nj]at h;obtain⟨⟨⟨⟨h1,h2⟩,h3⟩,h4⟩,h5⟩:=h;have nm: ∀ {x y:List Nat},meets x y=false-> ∀z∈x,z∉y:=fun h z hz hy=>by
  have:meets _ _=true:=EM.2 ⟨z,hz,hy⟩;rw[h]at this;simp at this
 refine⟨fun d hd=> ?_,fun d hd hq=> ?_,nm h3,nm h4,nm h5⟩
 ·rw[hd]at h1;simp only[MS,Nj]at h1;refine⟨fun q=> ?_,fun q=> ?_⟩
  ·have:=NR.2 ⟨d,q,Hf.2 rfl⟩;rw[h1.1]at this;simp at this
  ·rw[q]at h1;simp at h1
 ·rw[hd]at h2;simp only[Nj]at h2;have:=NR.2 ⟨d,hq,Hf.2 rfl⟩;rw[h2]at this;simp at this
structure Part(k:Nat)(T D:Tr)(pre:List Nat):Prop where
 idx:D.map (·.1.i)=pre
 sub: ∀x∈D,x∈T
 nodup:pre.Nodup
 below: ∀x∈D,∀b∈x.1.before,b<k\/b∈pre
 order:D.Pairwise (fun y x=>y.1.i∉x.1.before)
section
variable {P:Program} {Φ:iL} {ops:List Oper} {nx k:Nat} {s0:RS} {T D:Tr} {pre:List Nat}
theorem Part.ne(h:Part k T D pre):D.Pairwise (fun y x=>y.1.i≠x.1.i):=by
 have:=h.nodup;rw[<-h.idx]at this;exact List.pairwise_map.1 this
theorem Part.sorted(h:Part k T D pre){p:kS×Eff->Bool}(hp: ∀x∈T,∀y∈T,p x=true->p y=true->x.1.i<y.1.i->x.1.i∈y.1.before):
  D.Pairwise (fun y x=>p y=true->p x=true->x.1.i<y.1.i):=
 (h.order.and h.ne).imp_of_mem fun {y x} hy hx ⟨h1,h2⟩ py px=>by
  rcases N_ x.1.i y.1.i with q|q|q
  ·exact q
  ·exact(h2 q.symm).elim
  ·exact(h1 (hp y (h.sub y hy) x (h.sub x hx) py px q)).elim
theorem Part.kept(R:Runs P Φ ops nx k s0 T)(h:Part k T D pre):D.Pairwise (fun y x=> ∀d,y.1.dst=some d->x.2.tg≠some d):=
 (h.order.and h.ne).imp_of_mem fun {y x} hy hx ⟨h1,h2⟩ d hd q=>by
  obtain⟨k1,k2⟩:=(R.each x (h.sub x hx)).2.1 d q;rcases N_ x.1.i y.1.i with c|c|c
  ·have:=(R.pairs x (h.sub x hx) y (h.sub y hy) c).2;rw[hd,k1]at this;simp[hits]at this
  ·exact h2 c.symm
  ·rcases (R.pairs y (h.sub y hy) x (h.sub x hx) c).1 with a|a
   ·exact h1 a
   ·exact((apart_spec a).1 d hd).1 k2
theorem Runs.self(R:Runs P Φ ops nx k s0 T){p:kS×Eff->Bool}:T.Pairwise (fun y x=>p y=true->p x=true->x.1.i<y.1.i):=R.sorted.imp fun h _ _=>h
theorem Runs.keptSelf(R:Runs P Φ ops nx k s0 T):T.Pairwise (fun y x=> ∀d,y.1.dst=some d->x.2.tg≠some d):=
 R.sorted.imp_of_mem fun {y x} hy hx c d hd q=>by
  obtain⟨k1,k2⟩:=(R.each x hx).2.1 d q;have:=(R.pairs x hx y hy c).2;rw[hd,k1]at this;simp[hits]at this
theorem Runs.Jj(R:Runs P Φ ops nx k s0 T)(t:Nat): ∀x∈T,∀y∈T,(x.1.dst==some t)=true->(y.1.dst==some t)=true->x.1.i<y.1.i->x.1.i∈y.1.before:=by
 intro x hx y hy hpx hpy hlt;rcases (R.pairs x hx y hy hlt).1 with a|a
 ·exact a
 ·exact(((apart_spec a).1 t (beq_iff_eq.1 hpx)).2 (beq_iff_eq.1 hpy)).elim
theorem Runs.JX(R:Runs P Φ ops nx k s0 T)(b:Nat): ∀x∈T,∀y∈T,(x.2.keys.contains b)=true->(y.2.keys.contains b)=true->x.1.i<y.1.i->x.1.i∈y.1.before:=by
 intro x hx y hy hpx hpy hlt;rcases (R.pairs x hx y hy hlt).1 with a|a
 ·exact a
 ·refine((apart_spec a).2.2.2.1 b ?_ ?_).elim
  ·rw[(R.each x hx).2.2];exact Nw.1 hpx
  ·rw[(R.each y hy).2.2];exact Nw.1 hpy
theorem Part.find(R:Runs P Φ ops nx k s0 T)(h:Part k T D pre){z:kS×Eff}(hz:z∈T)(hzp:z.1.i∉pre)(hzb: ∀b∈z.1.before,b<k\/b∈pre){B:Tr}(hB:Runs P Φ ops nx k s0 B)(IX: ∀y∈B,y∈T)(hBl: ∀y∈B,y.1.i<z.1.i)(Jq: ∀y∈T,y.1.i<z.1.i->y∈B)
  {p:kS×Eff->Bool} (hp: ∀x∈T,∀y∈T,p x=true->p y=true->x.1.i<y.1.i->x.1.i∈y.1.before)
  (h1: ∀y∈T,p y=true->y.1.i<z.1.i->y.1.i∈z.1.before) (h2: ∀y∈T,p y=true->z.1.i<y.1.i->z.1.i∈y.1.before):D.find? p=B.find? p:=by
 refine find_eq (fun y hy=>⟨fun hD=> ?_,fun hb=> ?_⟩) (h.sorted hp) hB.self
 ·have Js:=h.sub y hD;rcases N_ y.1.i z.1.i with c|c|c
  ·exact Jq y Js c
  ·refine(hzp ?_).elim;rw[<-h.idx,<-c];exact Og.2 ⟨y,hD,rfl⟩
  ·rcases h.below y hD _ (h2 y Js hy c)with q|q
   ·have:=R.ge z hz;omega
   ·exact(hzp q).elim
 ·have Js:=IX y hb;have:y.1.i∈pre:=by
   rcases hzb _ (h1 y Js hy (hBl y hb))with q|q
   ·have:=R.ge y Js;omega
   ·exact q
  rw[<-h.idx]at this;obtain⟨x,hx,hxi⟩:=Og.1 this;rw[<-lY R.sorted x (h.sub x hx) y Js hxi];exact hx
theorem Part.agree(R:Runs P Φ ops nx k s0 T)(h0:uh s0 T)(h:Part k T D pre){z:kS×Eff}(hz:z∈T)(hzp:z.1.i∉pre)(hzb: ∀b∈z.1.before,b<k\/b∈pre){B:Tr}(hB:Runs P Φ ops nx k s0 B)(IX: ∀y∈B,y∈T)(hBl: ∀y∈B,y.1.i<z.1.i)(Jq: ∀y∈T,y.1.i<z.1.i->y∈B):
  (∀t∈z.1.looks,kW (aV s0 D).env (aV s0 B).env (aV s0 D).aI (aV s0 B).aI t)/\ ∀b∈z.1.reads,(aV s0 D).hp.get b=(aV s0 B).hp.get b:=by
 refine⟨fun t ht=> ?_,fun b hb=> ?_⟩
 ·have:=h.find R hz hzp hzb hB IX hBl Jq (p:=fun x=>x.1.dst==some t) (R.Jj t)
   (fun y hy hp hlt=>by
    rcases (R.pairs y hy z hz hlt).1 with a|a
    ·exact a
    ·exact(((apart_spec a).1 t (beq_iff_eq.1 hp)).1 ht).elim)
   (fun y hy hp hlt=>by
    rcases (R.pairs z hz y hy hlt).1 with a|a
    ·exact a
    ·exact((apart_spec a).2.1 t (beq_iff_eq.1 hp) ht).elim)
  constructor
  ·rw[uZ t fun x hx=>(R.each x (h.sub x hx)).1,uZ t fun x hx=>(hB.each x hx).1,this]
  ·rw[vP t (fun x hx=>h0 x (h.sub x hx)) (fun x hx=>(R.each x (h.sub x hx)).1) (h.kept R),vP t (fun x hx=>h0 x (IX x hx)) (fun x hx=>(hB.each x hx).1) hB.keptSelf,this]
 ·have:=h.find R hz hzp hzb hB IX hBl Jq (p:=fun x=>x.2.keys.contains b) (R.JX b)
   (fun y hy hp hlt=>by
    rcases (R.pairs y hy z hz hlt).1 with a|a
    ·exact a
    ·refine((apart_spec a).2.2.1 b ?_ hb).elim;rw[(R.each y hy).2.2];exact Nw.1 hp)
   (fun y hy hp hlt=>by
    rcases (R.pairs z hz y hy hlt).1 with a|a
    ·exact a
    ·refine((apart_spec a).2.2.2.2 b hb ?_).elim;rw[(R.each y hy).2.2];exact Nw.1 hp)
  rw[Aq,Aq,this]
theorem Part.whole(R:Runs P Φ ops nx k s0 T)(h0:uh s0 T)(h:Part k T D pre)(hall: ∀i,k<=i->i<k+T.length->i∈pre):
  (∀t,(aV s0 D).env.get t=(aV s0 T).env.get t)/\(∀t,aQ (aV s0 D).aI t=aQ (aV s0 T).aI t)/\ ∀b,(aV s0 D).hp.get b=(aV s0 T).hp.get b:=by
 have hm: ∀x,x∈D ↔ x∈T:=fun x=>⟨h.sub x,fun hx=>by
  have:=hall _ (R.ge x hx) (R.lt x hx);rw[<-h.idx]at this;obtain⟨y,hy,hyi⟩:=Og.1 this;rw[<-lY R.sorted y (h.sub y hy) x hx hyi];exact hy⟩
 refine⟨fun t=> ?_,fun t=> ?_,fun b=> ?_⟩
 ·rw[uZ t fun x hx=>(R.each x (h.sub x hx)).1,uZ t fun x hx=>(R.each x hx).1,find_eq (fun x _=>hm x) (h.sorted (R.Jj t)) R.self]
 ·rw[vP t (fun x hx=>h0 x (h.sub x hx)) (fun x hx=>(R.each x (h.sub x hx)).1) (h.kept R),vP t h0 (fun x hx=>(R.each x hx).1) R.keptSelf,find_eq (fun x _=>hm x) (h.sorted (R.Jj t)) R.self]
 ·rw[Aq,Aq,find_eq (fun x _=>hm x) (h.sorted (R.JX b)) R.self]
end
end Go.AM
end
section
namespace Go.AM
variable [Tabs]
open Go.RowKit
inductive G_ (ops:List Oper):Nat->Nat->Prop
 |edge {j o b}:ops[j]?=some o->b∈binding o->G_ ops j b
 |step {j o i b}:ops[j]?=some o->i∈binding o->G_ ops i b->G_ ops j b
theorem kY{o:Oper}{j:Nat}:j∈binding o ↔ ∃e,e∈o.after/\Nc .any e=true/\e.on=j:=by
 unfold binding;rw[Qn];constructor
 ·rintro⟨e,he,h⟩
  simp only[cond_eq_ite]at h;split at h
  ·rename_i hb;exact⟨e,Nb.1 he,hb,MN h⟩
  ·simp at h
 ·rintro⟨e,he,hb,rfl⟩
  exact⟨e,Nb.2 he,by simp[hb]⟩
def Shut(ops:List Oper)(pre:List Nat):Prop:= ∀i∈pre,∀o e,ops[i]?=some o->e∈o.after->Nc .any e=true->e.on∈pre
theorem G_.mem{ops:List Oper}{pre:List Nat}(hs:Shut ops pre){j b:Nat}(h:G_ ops j b):(∀o e,ops[j]?=some o->e∈o.after->Nc .any e=true->e.on∈pre)->b∈pre:=by
 induction h with
 | @edge j o b ho hb=>
  intro hj;obtain⟨e,he,hb',rfl⟩:=kY.1 hb;exact hj o e ho he hb'
 | @step j o i b ho hi _ ih=>
  intro hj;obtain⟨e,he,hb',rfl⟩:=kY.1 hi;have:=hj o e ho he hb';exact ih fun o' e' ho' he' hb'=>hs _ this o' e' ho' he' hb'
theorem xO{ms:List Nat}{b:Nat}: ∀ {l:List Nat} {a:Nat},(l.foldl (fun a j=>a ||| (1 <<< j ||| ms.getD j 0)) a).testBit b=true->a.testBit b=true\/ ∃j∈l,j=b\/(ms.getD j 0).testBit b=true
 |[],a,h=> .inl h
 |j::l,a,h=>by
  rw[PY]at h;rcases xO h with h|⟨i,h1,h2⟩
  ·rw[Qb,Qb,N7,N7]at h;rcases h with h|h|h
   ·exact .inl h
   ·refine .inr ⟨j,.head _,.inl ?_⟩;rw[Nat.one_shiftLeft,Nat.testBit_two_pow]at h;simpa using h
   ·exact .inr ⟨j,.head _,.inr h⟩
  ·exact .inr ⟨i,.tail _ h1,h2⟩
theorem xZ{ops:List Oper}: ∀ {r:List Oper} {done:List Oper} {ms:List Nat},ops=done++r->ms.length=done.length->(∀j b,(ms.getD j 0).testBit b=true->G_ ops j b)-> ∀j b,((masks r ms).getD j 0).testBit b=true->G_ ops j b
 |[],done,ms,_,_,h=>h
 |o::r,done,ms,e,hl,h=>by
  refine xZ (r:=r) (done:=done++[o]) (by rw[e];simp) (by simp[hl]) fun j b hb=> ?_
  have ho:ops[done.length]?=some o:=by rw[e];simp
  rcases N_ j ms.length with c|c|c
  ·refine h j b ?_
   rwa [NP,NY c,<-NP]at hb
  ·subst c;rw[NP,Oj (MZ _)]at hb;simp only[Nat.sub_self,List.getElem?_cons_zero,QH]at hb;rcases xO hb with q|⟨i,h1,h2⟩
   ·simp at q
   ·rw[hl];rcases h2 with rfl|h2
    ·exact .edge ho h1
    ·exact .step ho h1 (h i b h2)
  ·rw[NP,List.getElem?_eq_none (by simp;omega)]at hb;simp at hb
theorem oq{ops:Array Oper}{b:Nat}(h:kQ ops b=true):b<ops.size/\(∀i,i<b->G_ ops.toList b i)/\ ∀i,b<i->i<ops.size->G_ ops.toList i b:=by
 unfold kQ Cm at h;simp only[MS,NQ,O1]at h;obtain⟨⟨h1,h2⟩,h3⟩:=h;have hm:=xZ (ops:=ops.toList) (r:=ops.toList) (done:=[]) (ms:=[]) rfl rfl (fun j b h=>by simp at h);exact⟨h1,fun i hi=>hm _ _ (h2 i (Po.2 hi)),fun i hi hn=>hm _ _ (h3 i (by rw[List.mem_range'_1];omega))⟩
section
variable {P:Program} {S0:Base} {w0:World} {Φ:iL} {ops:Array Oper} {nx:Nat} {s0:RS} {T:Tr}
theorem Inv.congr{C:Cx}{h h':Hp}(I:Inv P S0 w0 C h)(e: ∀b,h.get b=h'.get b):Inv P S0 w0 C h':=
 ⟨I.below,fun b o hb=>I.obj b o (by rw[e];exact hb),fun b en hb=>let ⟨o,ho⟩:=I.dom b en hb;⟨o,by rw[<-e];exact ho⟩,I.loc,I.inj,I.ro,
  fun b en c j h1 h2 h3=>let ⟨v,ps,q1,q2⟩:=I.w_ b en c j h1 h2 h3;⟨v,ps,by rw[<-e];exact q1,q2⟩,I.pin,
  let ⟨H,hH⟩:=I.hid;⟨H,hH.step (fun _ _ _ _ q=>by rw[e];exact q) (fun _ _ q _=>q) (MZ _) (fun _ _ _ _ _ _ _ _ _ _=>rfl) (fun _ _ _ _=>rfl) (fun x en g q hc=> .inl ⟨x,en,q,hc⟩) (fun _ _ r=> .inl r)⟩,I.tabs,I.good⟩
theorem jV.congr{C:Cx}{e e':Env}{tmps:Array Value}(h:jV C e tmps)(k: ∀t,e.get t=e'.get t):jV C e' tmps:=fun t=>by rw[<-k];exact h t
theorem jS{fr:Frame}{k:List Item}{cs:List Frame}{w:World}(hm:fr.mode= .run)(ht:fr.todo= .inRegion ops []::k):step P (lone fr cs w)= .next (lone {fr with todo:=k} cs w):=by
 obtain⟨fn,tmps,todo,defers,mode,kind,ro⟩:=fr;obtain rfl:mode= .run:=hm;obtain rfl:todo=_:=ht;exact step_lone_go (by simp[stepG,Nh])
theorem Ad{k0 b:Nat}(R:Runs P Φ ops.toList nx k0 s0 T)(hlen:b=k0+T.length)(hbs:b<=ops.size)(h0:uh s0 T)(hU:UM s0.aI)(O:bW P S0 w0 Φ){n:Nat}(hdst: ∀(i:Nat) o d,ops[i]?=some o->o.dst=some d->d<n)
  (Jr: ∀(i:Nat) o,ops[i]?=some o-> ∀j want oj tg,o.guard=some (j,want)->ops.toList[j]?=some oj->oj.dst=some tg->o.dst≠some tg) (hbar:b=ops.size\/kQ ops b=true):
  ∀ {pre l:List Nat},sO ops pre l-> ∀ {pd:List Nat} {D:Tr} {C:Cx} {fr:Frame} {k:List Item} {cs:List Frame},Part k0 T D pd->(∀i,i∈pre ↔ i<k0\/i∈pd)->Shut ops.toList pre->
   dS C (aV s0 D).env (aV s0 D).aI fr.tmps->Inv P S0 w0 C (aV s0 D).hp->n<=fr.tmps.size->fr.mode= .run->fr.kind≠ .early->fr.todo= .inRegion ops l::k->(∀y,C.M y≠none->y<nx\/ ∃i∈pd,y=nx+i)->
   ∃C' jl pre' l',Steps P (lone fr cs C.w) (lone {fr with tmps:=jl,todo:= .inRegion ops l'::k} cs C'.w)/\sO ops pre' l'/\(∀i,i∈pre' ↔ i<b)/\C.Le C'/\jl.size=fr.tmps.size/\dS C' (aV s0 T).env (aV s0 T).aI jl/\Inv P S0 w0 C' (aV s0 T).hp/\ ∀y,C'.M y≠none->y<nx+ops.size:=by
 intro pre l zH
 -- all of the part is done
 have stop: ∀ {pre l pd:List Nat} {D:Tr} {C:Cx} {fr:Frame} {k:List Item} {cs:List Frame},sO ops pre l->Part k0 T D pd->(∀i,i∈pre ↔ i<k0\/i∈pd)->dS C (aV s0 D).env (aV s0 D).aI fr.tmps->Inv P S0 w0 C (aV s0 D).hp->fr.todo= .inRegion ops l::k->
   (∀y,C.M y≠none->y<nx\/ ∃i∈pd,y=nx+i)->(∀i,i<b->i∈pre)->
   ∃C' jl pre' l',Steps P (lone fr cs C.w) (lone {fr with tmps:=jl,todo:= .inRegion ops l'::k} cs C'.w)/\sO ops pre' l'/\(∀i,i∈pre' ↔ i<b)/\C.Le C'/\jl.size=fr.tmps.size/\dS C' (aV s0 T).env (aV s0 T).aI jl/\Inv P S0 w0 C' (aV s0 T).hp/\ ∀y,C'.M y≠none->y<nx+ops.size:=by
  intro pre l pd D C fr k cs zH hP hpre hT I ht hM hall;have Kq: ∀i∈pd,k0<=i/\i<b:=fun i hi=>by
   rw[<-hP.idx]at hi;obtain⟨x,hx,rfl⟩:=Og.1 hi;exact⟨R.ge x (hP.sub x hx),by rw[hlen];exact R.lt x (hP.sub x hx)⟩
  obtain⟨k1,k2,k3⟩:=hP.whole R h0 (fun i h1 h2=>by
   rcases (hpre i).1 (hall i (by omega))with q|q
   ·omega
   ·exact q)
  refine⟨C,fr.tmps,pre,l,?_,zH,fun i=>⟨fun hi=> ?_,hall i⟩,.refl C,rfl,⟨hT.env.congr k1,fun m hm=> ?_⟩,I.congr k3,fun y hy=> ?_⟩
  ·have:({fr with tmps:=fr.tmps,todo:= .inRegion ops l::k}:Frame)=fr:=by obtain⟨fn,tmps,todo,defers,mode,kind,ro⟩:=fr;simp only at ht;subst ht;rfl
   rw[this];exact .refl P _
  ·rcases (hpre i).1 hi with q|q
   ·omega
   ·exact(Kq i q).2
  ·have:=UM.st hU m hm;rw[<-k2]at this;exact hT.may m (dV this).1
  ·rcases hM y hy with q|⟨i,hi,rfl⟩
   ·omega
   ·have:=(Kq i hi).2;omega
 induction zH with
 | @nil pre hall=>
  intro pd D C fr k cs hP hpre hcl hT I hn hm hk ht hM;exact stop (.nil hall) hP hpre hT I ht hM fun i hi=>hall i (by omega)
 | @cons pre i l hi hni hpred zH ih=>
  intro pd D C fr k cs hP hpre hcl hT I hn hm hk ht hM;by_cases hall: ∀i,i<b->i∈pre
  ·exact stop (.cons hi hni hpred zH) hP hpre hT I ht hM hall
  have Kq: ∀i∈pd,i<b:=fun i hi=>by
   rw[<-hP.idx]at hi;obtain⟨x,hx,rfl⟩:=Og.1 hi;rw[hlen];exact R.lt x (hP.sub x hx)
  have yV: ∀o e,ops.toList[i]?=some o->e∈o.after->Nc .any e=true->e.on∈pre:=fun o e ho=>hpred o e (by rwa [Na]at ho)
  have hib:i<b:=by
   rcases hbar with q|q
   ·omega
   ·obtain⟨_,b1,b2⟩:=oq q;rcases N_ i b with c|c|c
    ·exact c
    ·subst c;exact(hall fun j hj=>(b1 j hj).mem hcl yV).elim
    ·have:=(b2 i c hi).mem hcl yV;rcases (hpre b).1 this with q|q
     ·omega
     ·have:=Kq b q;omega
  have hik:k0<=i:=by
   rcases Nat.lt_or_ge i k0 with c|c
   ·exact(hni ((hpre i).2 (.inl c))).elim
   ·exact c
  obtain⟨z,hz,rfl⟩:=R.has i hik (by omega);obtain⟨B,hB,Me,IX,Jq⟩:=R.part z hz;have hzb:=R.closed hcl z hz yV;have JL: ∀b∈z.1.before,b<k0\/b∈pd:=fun b hb=>(hpre b).1 (hzb b hb)
  have hnd:z.1.i∉pd:=fun q=>hni ((hpre _).2 (.inr q))
  cases hB with
  | @cons B o e hB a bb c d=>
   obtain⟨KY,LC⟩:=hP.agree R h0 hz hnd JL hB IX (fun y hy=>hB.lt y hy) Jq;have Lj:nG o (aS (aV s0 D).env (aV s0 D).aI (fO ops.toList o))=nG o (aS (aV s0 B).env (aV s0 B).aI (fO ops.toList o)):=Ah KY;have hres:restrict (aV s0 D).hp (nG o (aS (aV s0 B).env (aV s0 B).aI (fO ops.toList o)))=restrict (aV s0 B).hp (nG o (aS (aV s0 B).env (aV s0 B).aI (fO ops.toList o))):=vZ LC;have b':=bb;rw[<-hres,<-BR (ms:=(aV s0 D).aI) (e:=(aV s0 D).env) KY]at b';have ho:ops[k0+B.length]?=some o:=by rwa [Na]at a
   have hM':C.M (nx+(k0+B.length))=none:=by
    cases hq:C.M (nx+(k0+B.length))with
    |none=>rfl
    |some e=>
     rcases hM (nx+(k0+B.length)) (by rw[hq];simp)with q|⟨i,h1,h2⟩
     ·omega
     ·have:i=k0+B.length:=by omega
      rw[this]at h1;exact(hnd h1).elim
   obtain⟨C1,Et,st,le,hsz,hT1,I1,hn1⟩:=uV (cs:=cs) I hM' (zl _ _) O hT hm hk ht ho (fun d hd=>Qp (hdst _ _ _ ho hd) hn) (Jr _ _ ho) b';have hP':Part k0 T ((yT ops.toList k0 o B (aV s0 B) e,e)::D) ((k0+B.length)::pd):=by
    refine⟨by rw[PI,hP.idx];rfl,fun x hx=> ?_,List.nodup_cons.2 ⟨hnd,hP.nodup⟩,fun x hx q hq=> ?_,.cons (fun x hx q=> ?_) hP.order⟩
    ·rcases MV.1 hx with rfl|hx
     ·exact hz
     ·exact hP.sub x hx
    ·rcases MV.1 hx with rfl|hx
     ·exact(JL q hq).imp id (.tail _)
     ·exact(hP.below x hx q hq).imp id (.tail _)
    ·rcases hP.below x hx _ q with q|q
     ·have:k0+B.length<k0:=q;omega
     ·exact hnd q
   obtain⟨C2,Bq,pre2,l2,st2,GV,hp2,G7,hsz2,hE,I2,hn2⟩:=ih (pd:=(k0+B.length)::pd) (fr:= {fr with tmps:=Et,todo:= .inRegion ops l::k}) (k:=k) (cs:=cs) hP' (fun i=>by
     show i∈(k0+B.length)::pre ↔ _;rw[MV,MV,hpre];constructor
     ·rintro (q|q|q)
      ·exact .inr (.inl q)
      ·exact .inl q
      ·exact .inr (.inr q)
     ·rintro (q|q|q)
      ·exact .inr (.inl q)
      ·exact .inl q
      ·exact .inr (.inr q)) (fun i hi o' e' ho' he hb=>by
     rcases MV.1 hi with rfl|hi
     ·exact .tail _ (yV o' e' ho' he hb)
     ·exact .tail _ (hcl i hi o' e' ho' he hb)) hT1 I1 (by show n<=Et.size;omega) hm hk rfl (fun y hy=>by
     rcases hn1 y hy with q|q
     ·rcases hM y q with q|⟨i,h1,h2⟩
      ·exact .inl q
      ·exact .inr ⟨i,.tail _ h1,h2⟩
     ·exact .inr ⟨k0+B.length,.head _,q⟩)
   exact⟨C2,Bq,pre2,l2,st.trans st2,GV,hp2,le.trans G7,by rw[hsz2];exact hsz,hE,I2,hn2⟩
end
end Go.AM
end
section
namespace Go.AM
variable [Tabs]
open Go.RowKit
def eX(C:Cx)(l c:Nat):Prop:= ∃e,C.M l=some e/\e.perm=true/\e.cb=some c
theorem eX.mono{C C':Cx}(l:C.Le C'){a c:Nat}(h:eX C a c):eX C' a c:=by
 obtain⟨e,h1,h2,h3⟩:=h;obtain⟨e',k1,_,_,k4⟩:=l.ent _ _ h1;obtain rfl:=k4 h2;exact⟨e',k1,h2,h3⟩
theorem eX.uniq{C:Cx}{a c d:Nat}(h:eX C a c)(k:eX C a d):c=d:=by
 obtain⟨e,h1,_,h3⟩:=h;obtain⟨e',k1,_,k3⟩:=k;rw[h1]at k1;obtain rfl:=MN k1;rw[h3]at k3;exact MN k3
def Kv(ops:Array Oper):Prop:= ∀(i:Nat) o e,ops[i]?=some o->e∈o.after->Nc .any e=true->e.on<i
inductive eG (P:Program) (C:Cx) (fn:FuncId):aP->Item->Prop
 |code {p}:eG P C fn (.code p) (.code (aU P fn p))
 |inBlock {id}:eG P C fn (.inBlock id) (.inBlock id)
 |inLoop {p}:eG P C fn (.inLoop p) (.inLoop (aU P fn p))
 |inScope {p}:eG P C fn (.inScope p) (.inScope (aU P fn p))
 |inRegion {p is id ops}:aU P fn p= .region id ops false->eG P C fn (.inRegion p is) (.inRegion ops is)
 |iM {p is k id ops pre l}:aU P fn p= .region id ops true->is=QU k (ops.size-k)->sO ops pre l->(∀i,i∈pre ↔ i<k)->Kv ops->k<=ops.size->eG P C fn (.inRegion p is) (.inRegion ops l)
 |inRange {l c}:eX C l c->eG P C fn (.inRange l) (.inRangeFunc c)
 |bF {l c}:eX C l c->eG P C fn (.bF l) (.endRangeFunc c)
 |beginRound:eG P C fn .beginRound .beginRound
 |jmp {j}:eG P C fn (.jmp j) (.code (je j))
inductive dB (P:Program) (C:Cx) (fn:FuncId):List aP->List Item->Prop
 |nil:dB P C fn [] []
 |cons {a b aZ bs}:eG P C fn a b->dB P C fn aZ bs->dB P C fn (a::aZ) (b::bs)
theorem eG.mono{P:Program}{C C':Cx}(l:C.Le C'){fn:FuncId}{a b}(h:eG P C fn a b):eG P C' fn a b:=by
 cases h with
 |code=>exact .code
 |inBlock=>exact .inBlock
 |inLoop=>exact .inLoop
 |inScope=>exact .inScope
 |inRegion h=>exact .inRegion h
 |iM h1 h2 h3 h4 h5 h6=>exact .iM h1 h2 h3 h4 h5 h6
 |inRange h=>exact .inRange (h.mono l)
 |bF h=>exact .bF (h.mono l)
 |beginRound=>exact .beginRound
 |jmp=>exact .jmp
theorem eG.head{P:Program}{C:Cx}{fn:FuncId}{p:Path}{i:Nat}{r:List Nat}{x:Item}(h:eG P C fn (.inRegion p (i::r)) x){id:Nat}{ops:Array Oper}{d:Bool}(hc:aU P fn p= .region id ops d)(hb:(!d||kQ ops i)=true):
  ∃l,x= .inRegion ops (i::l)/\eG P C fn (.inRegion p r) (.inRegion ops l):=by
 cases h with
 | @inRegion _ _ id' ops' hc'=>
  rw[hc]at hc';obtain⟨rfl,rfl,rfl⟩:=QJ hc';exact⟨r,rfl,.inRegion hc⟩
 | @iM _ _ k id' ops' pre l hc' h1 h2 h3 h4 h5=>
  rw[hc]at hc';obtain⟨rfl,rfl,rfl⟩:=QJ hc';have hb:kQ ops i=true:=by simpa using hb
  obtain⟨b0,b1,b2⟩:=oq hb;have hpos:ops.size-k=(ops.size-(k+1))+1:=by
   cases hn:ops.size-k with
   |zero=>rw[hn]at h1;simp at h1
   |succ m=>omega
  rw[hpos,OW]at h1;obtain⟨rfl,rfl⟩:=Rj h1;have hs:Shut ops.toList pre:=fun j hj o e ho he hbd=>(h3 _).2 (by
   have:=h4 j o e (by rwa [Na]at ho) he hbd;have:=(h3 j).1 hj;omega)
  cases h2 with
  |nil hall=>
   have:=(h3 _).1 (hall i b0);omega
  | @cons _ j l hj hn hp ht=>
   have hji:j=i:=by
    rcases N_ j i with c|c|c
    ·exact(hn ((h3 j).2 c)).elim
    ·exact c
    ·have:=(h3 _).1 ((b2 j c hj).mem hs fun o e ho=>hp o e (by rwa [Na]at ho));omega
   subst hji;refine⟨l,rfl,.iM hc rfl ht (fun y=> ?_) h4 (by omega)⟩;rw[MV,h3];omega
theorem eG.none{P:Program}{C:Cx}{fn:FuncId}{p:Path}{x:Item}(h:eG P C fn (.inRegion p []) x): ∃ops,x= .inRegion ops []:=by
 cases h with
 |inRegion hc=>exact⟨_,rfl⟩
 | @iM _ _ k id' ops pre l hc' h1 h2 h3 h4 h5=>
  have hk:k=ops.size:=by
   cases hn:ops.size-k with
   |zero=>omega
   |succ m=>rw[hn,OW]at h1;simp at h1
  subst hk;cases h2 with
  |nil=>exact⟨_,rfl⟩
  | @cons _ j l hj hn hp ht=>exact(hn ((h3 j).2 hj)).elim
theorem dB.mono{P:Program}{C C':Cx}(l:C.Le C'){fn:FuncId}: ∀ {aZ bs},dB P C fn aZ bs->dB P C' fn aZ bs
 |_,_,.nil=> .nil
 |_,_,.cons h k=> .cons (h.mono l) (k.mono l)
inductive fG (C:Cx):List dP->List Deferred->Prop
 |nil:fG C [] []
 |cons {b c bs ds}:eX C b c->fG C bs ds->fG C (.mark b::bs) ({target:= .collected c,args:= #[]}::ds)
 |call {g args aZ bs ms ds}:bg C args (aZ++bs)->fG C ms ds->fG C (.call g args::ms) ({target:= .fn (.func g) bs.toArray,args:=aZ.toArray}::ds)
theorem fG.mono{C C':Cx}(l:C.Le C'): ∀ {aZ bs},fG C aZ bs->fG C' aZ bs
 |_,_,.nil=> .nil
 |_,_,.cons h k=> .cons (h.mono l) (k.mono l)
 |_,_,.call h k=> .call (h.mono l) (k.mono l)
inductive oJ (C:Cx):List (AV×Bool)->List PanicEntry->Prop
 |nil:oJ C [] []
 |cons {v r val l es}:VR C v val->oJ C l es->oJ C ((v,r)::l) ({v:=val,recovered:=r,goexit:=false}::es)
theorem oJ.mono{C C':Cx}(l:C.Le C'): ∀ {x y},oJ C x y->oJ C' x y
 |_,_,.nil=> .nil
 |_,_,.cons h k=> .cons (h.mono l) (k.mono l)
theorem oJ.append{C:Cx}: ∀ {x y u v},oJ C x y->oJ C u v->oJ C (x++u) (y++v)
 |_,_,_,_,.nil,h=>h
 |_,_,_,_,.cons a b,h=> .cons a (b.append h)
def kJ(C:Cx):Option (List (AV×Bool))->FrameMode->Prop
 |none,m=>m= .run
 |some [],m=>m= .returning
 |some (x::l),m=> ∃es,m= .panicking es/\oJ C (x::l) es
theorem kJ.mono{C C':Cx}(l:C.Le C'): ∀ {u m},kJ C u m->kJ C' u m
 |none,_,h=>h
 |some [],_,h=>h
 |some (_::_),_,⟨es,h1,h2⟩=>⟨es,h1,h2.mono l⟩
def nR(C:Cx):Option Nat->Option Nat->Prop
 |none,r=>r=none
 |some l,r=> ∃c,r=some c/\eX C l c
theorem nR.mono{C C':Cx}(l:C.Le C'){a b}(h:nR C a b):nR C' a b:=by
 cases a with
 |none=>exact h
 |some a=>obtain⟨c,h1,h2⟩:=h;exact⟨c,h1,h2.mono l⟩
structure zQ(P:Program)(C:Cx)(a:aA)(fr:Frame):Prop where
 fn:fr.fn=a.fn
 ok:uj P a.fn fr.tmps.size
 tmps:dS C a.env a.aI fr.tmps
 todo:dB P C a.fn a.items fr.todo
 defers:fG C a.marks fr.defers
 dh:kJ C a.un fr.mode
 kind:fr.kind=bif a.dk then .deferred else .normal
 round:nR C a.round fr.roundOf
theorem zQ.mono{P:Program}{C C':Cx}(l:C.Le C'){a fr}(h:zQ P C a fr):zQ P C' a fr:=
 ⟨h.fn,h.ok,h.tmps.mono l,h.todo.mono l,h.defers.mono l,h.dh.mono l,h.kind,h.round.mono l⟩
theorem zQ.mode{P:Program}{C:Cx}{a fr}(h:zQ P C a fr)(hu:a.un=none):fr.mode= .run:=by have:=h.dh;rw[hu]at this;exact this
theorem zQ.F8{P:Program}{C:Cx}{a fr}(h:zQ P C a fr):fr.kind≠ .early:=by rw[h.kind];cases a.dk<;>simp
inductive oI (P:Program) (C:Cx):List aA->List Frame->Prop
 |nil:oI P C [] []
 |cons {a fr aZ fF}:zQ P C a fr->oI P C aZ fF->oI P C (a::aZ) (fr::fF)
theorem oI.mono{P:Program}{C C':Cx}(l:C.Le C'): ∀ {aZ bs},oI P C aZ bs->oI P C' aZ bs
 |_,_,.nil=> .nil
 |_,_,.cons h k=> .cons (h.mono l) (k.mono l)
def bn(f:FuncId):List aA->Prop
 |[]=>False
 |[a]=>a.fn=f/\a.round=none/\a.dk=false
 |_::b::r=>bn f (b::r)
theorem bn.head{f:FuncId}{a a':aA}{aZ:List aA}(h:bn f (a::aZ))(h1:a'.fn=a.fn)(h2:a'.round=a.round)(h3:a'.dk=a.dk:=by rfl):bn f (a'::aZ):=by
 cases aZ with
 |nil=>exact⟨h1.trans h.1,h2.trans h.2.1,h3.trans h.2.2⟩
 |cons b r=>exact h
structure jU(P:Program)(S0:Base)(w0:World)(cs0:List Frame)(f:FuncId)(C:Cx)(st:St)(fr:Frame)(cs:List Frame):Prop where
 fF:oI P C st.frames (fr::cs)
 inv:Inv P S0 w0 C st.hp
 names: ∀y,C.M y≠none->y<st.nx
 last:bn f st.frames
theorem y8{n:Nat}: ∀ {c:Code} (d:Dir),bZ n c=true->bZ n (child c d)=true
 | .seq a b,d,h=>by cases d<;>simp_all [bZ,child]
 | .cond _ a b,d,h=>by cases d<;>simp_all [bZ,child]
 | .block _ c,d,h=>by simp_all [bZ,child]
 | .loop c,d,h=>by simp_all [bZ,child]
 | .scope c,d,h=>by simp_all [bZ,child]
 | .rangeFunc _ ps a b,d,h=>by cases d<;>simp_all [bZ,child]
 | .region ..,d,h=>rfl
 | .skip,d,h=>rfl
 | .label _,d,h=>rfl
 | .exit _,d,h=>rfl
 | .goto _,d,h=>rfl
 | .ret,d,h=>rfl
 | .refuse _,d,h=>rfl
theorem qR{P:Program}{f n}(h:uj P f n)(p:Path): ∃m,m<=n/\bZ m (aU P f p)=true:=by
 obtain⟨fn,c,h1,h2,h3,h4⟩:=h;refine⟨fn.ntmps,h4,?_⟩;unfold aU;have h0:bZ fn.ntmps (uI P f)=true:=by simp only[uI,h1,h2];exact h3
 revert h0;generalize uI P f=c0
 induction p generalizing c0 with
 |nil=>exact id
 |cons d p ih=>exact fun h0=>ih _ (y8 d h0)
theorem eY(P:Program)(f:FuncId)(p:Path)(d:Dir):aU P f (p++[d])=child (aU P f p) d:=by unfold aU;rw[List.foldl_append];rfl
theorem kC{P:Program}{C:Cx}{fn:FuncId}{id:Nat}: ∀ {aZ bs k},dB P C fn aZ bs->lq id aZ=some k-> ∃t,exitTo id bs=some t/\dB P C fn k t
 |_,_,k,.nil,e=>by simp[lq]at e
 |_,_,k,.cons h hs,e=>by
  cases h with
  | @inBlock i=>
   simp only[lq,cond_eq_ite]at e;split at e
   ·rename_i hb;obtain rfl:=MN e;have:=MP hb;subst this;exact⟨_,by simp[exitTo],hs⟩
   ·rename_i hb;obtain⟨t,h1,h2⟩:=kC hs e;refine⟨t,?_,h2⟩;have: ¬i=id:=fun q=>hb (by subst q;simp)
    simp[exitTo,this,h1]
  |_=>
   obtain⟨t,h1,h2⟩:=kC hs (by simpa[lq]using e);exact⟨t,by simpa[exitTo]using h1,h2⟩
theorem ku{P:Program}{C:Cx}{fn:FuncId}{id:Nat}: ∀ {aZ bs},dB P C fn aZ bs->lq id aZ=none->exitTo id bs=none
 |_,_,.nil,e=>rfl
 |_,_,.cons h hs,e=>by
  cases h with
  | @inBlock i=>
   simp only[lq,cond_eq_ite]at e;split at e
   ·simp at e
   ·rename_i hb;have: ¬i=id:=fun q=>hb (by subst q;simp)
    simp[exitTo,this,ku hs e]
  |_=>simpa[exitTo]using ku hs (by simpa[lq]using e)
end Go.AM
end
section
namespace Go.AM
variable [Tabs]
open Go.RowKit
section
variable {P:Program} {fr:Frame} {k:List Item} {cs:List Frame} {w:World}
theorem Ia(hm:fr.mode= .run)(ht:fr.todo= .code .skip::k):step P (lone fr cs w)= .next (lone {fr with todo:=k} cs w):=by
 obtain⟨fn,tmps,todo,defers,mode,kind,ro⟩:=fr;obtain rfl:mode= .run:=hm;obtain rfl:todo=_:=ht;exact step_lone_go (by simp[stepG,Nh])
theorem Gl{l:Nat}(hm:fr.mode= .run)(ht:fr.todo= .code (.label l)::k):step P (lone fr cs w)= .next (lone {fr with todo:=k} cs w):=by
 obtain⟨fn,tmps,todo,defers,mode,kind,ro⟩:=fr;obtain rfl:mode= .run:=hm;obtain rfl:todo=_:=ht;exact step_lone_go (by simp[stepG,Nh])
theorem CP{i:Nat}(hm:fr.mode= .run)(ht:fr.todo= .inBlock i::k):step P (lone fr cs w)= .next (lone {fr with todo:=k} cs w):=by
 obtain⟨fn,tmps,todo,defers,mode,kind,ro⟩:=fr;obtain rfl:mode= .run:=hm;obtain rfl:todo=_:=ht;exact step_lone_go (by simp[stepG,Nh])
theorem CQ{c:Code}(hm:fr.mode= .run)(ht:fr.todo= .inScope c::k):step P (lone fr cs w)= .next (lone {fr with todo:=k} cs w):=by
 obtain⟨fn,tmps,todo,defers,mode,kind,ro⟩:=fr;obtain rfl:mode= .run:=hm;obtain rfl:todo=_:=ht;exact step_lone_go (by simp[stepG,Nh])
theorem EN{c:Code}(hm:fr.mode= .run)(ht:fr.todo= .inLoop c::k):step P (lone fr cs w)= .next (lone {fr with todo:= .code c:: .inLoop c::k} cs w):=by
 obtain⟨fn,tmps,todo,defers,mode,kind,ro⟩:=fr;obtain rfl:mode= .run:=hm;obtain rfl:todo=_:=ht;exact step_lone_go (by simp[stepG,Nh])
theorem Je{a b:Code}(hm:fr.mode= .run)(ht:fr.todo= .code (.seq a b)::k):step P (lone fr cs w)= .next (lone {fr with todo:= .code a:: .code b::k} cs w):=by
 obtain⟨fn,tmps,todo,defers,mode,kind,ro⟩:=fr;obtain rfl:mode= .run:=hm;obtain rfl:todo=_:=ht;exact step_lone_go (by simp[stepG,Nh])
theorem D5{c:Operand}{a b:Code}{t:Bool}(hm:fr.mode= .run)(ht:fr.todo= .code (.cond c a b)::k)(hc:fr.eval c= .bool t):step P (lone fr cs w)= .next (lone {fr with todo:= .code (if t then a else b)::k} cs w):=by
 obtain⟨fn,tmps,todo,defers,mode,kind,ro⟩:=fr;obtain rfl:mode= .run:=hm;obtain rfl:todo=_:=ht;exact step_lone_go (by simp[stepG,Nh,hc])
theorem Gi{i:Nat}{c:Code}(hm:fr.mode= .run)(ht:fr.todo= .code (.block i c)::k):step P (lone fr cs w)= .next (lone {fr with todo:= .code c:: .inBlock i::k} cs w):=by
 obtain⟨fn,tmps,todo,defers,mode,kind,ro⟩:=fr;obtain rfl:mode= .run:=hm;obtain rfl:todo=_:=ht;exact step_lone_go (by simp[stepG,Nh])
theorem H_{c:Code}(hm:fr.mode= .run)(ht:fr.todo= .code (.loop c)::k):step P (lone fr cs w)= .next (lone {fr with todo:= .code c:: .inLoop c::k} cs w):=by
 obtain⟨fn,tmps,todo,defers,mode,kind,ro⟩:=fr;obtain rfl:mode= .run:=hm;obtain rfl:todo=_:=ht;exact step_lone_go (by simp[stepG,Nh])
theorem Gm{c:Code}(hm:fr.mode= .run)(ht:fr.todo= .code (.scope c)::k):step P (lone fr cs w)= .next (lone {fr with todo:= .code c:: .inScope c::k} cs w):=by
 obtain⟨fn,tmps,todo,defers,mode,kind,ro⟩:=fr;obtain rfl:mode= .run:=hm;obtain rfl:todo=_:=ht;exact step_lone_go (by simp[stepG,Nh])
theorem D7{i:Nat}{k':List Item}(hm:fr.mode= .run)(ht:fr.todo= .code (.exit i)::k)(he:exitTo i k=some k'):step P (lone fr cs w)= .next (lone {fr with todo:=k'} cs w):=by
 obtain⟨fn,tmps,todo,defers,mode,kind,ro⟩:=fr;obtain rfl:mode= .run:=hm;obtain rfl:todo=_:=ht;exact step_lone_go (by simp[stepG,Nh,he])
theorem EP{i:Nat}{ops:Array Oper}(hm:fr.mode= .run)(ht:fr.todo= .code (.region i ops false)::k):step P (lone fr cs w)= .next (lone {fr with todo:= .inRegion ops (Px ops.size)::k} cs w):=by
 obtain⟨fn,tmps,todo,defers,mode,kind,ro⟩:=fr;obtain rfl:mode= .run:=hm;obtain rfl:todo=_:=ht;exact step_lone_go (by simp[stepG,Nh])
theorem D6{i:Nat}{ops:Array Oper}(hm:fr.mode= .run)(ht:fr.todo= .code (.region i ops true)::k):
  step P (lone fr cs w)= .next (lone {fr with todo:= .inRegion ops (PW (P.follows .mixedOrders) ops (w.tape w.drawn (.order fr.fn i)))::k} cs {w with drawn:=w.drawn+1}):=by
 obtain⟨fn,tmps,todo,defers,mode,kind,ro⟩:=fr;obtain rfl:mode= .run:=hm;obtain rfl:todo=_:=ht;exact step_lone_go (by simp[stepG,Nh,choose,Qv,Question.forced,Question.cut])
theorem AL(hm:fr.mode= .run)(hr:fr.roundOf=none)(ht:fr.todo=[]):step P (lone fr cs w)= .next (lone {fr with mode:= .returning} cs w):=by
 obtain⟨fn,tmps,todo,defers,mode,kind,ro⟩:=fr;obtain rfl:mode= .run:=hm;obtain rfl:todo=_:=ht;obtain rfl:ro=none:=hr;exact step_lone_go (by simp[stepG,Nh])
theorem AO(hm:fr.mode= .run)(hr:fr.roundOf=none)(ht:fr.todo= .code .ret::k):step P (lone fr cs w)= .next (lone {fr with mode:= .returning} cs w):=by
 obtain⟨fn,tmps,todo,defers,mode,kind,ro⟩:=fr;obtain rfl:mode= .run:=hm;obtain rfl:todo=_:=ht;obtain rfl:ro=none:=hr;exact step_lone_go (by simp[stepG,Nh])
theorem AQ{c:Nat}{j:Option Code}{v:Value}{w':World}{b:Frame}{cs':List Frame}(hm:fr.mode= .run)(hk:fr.kind= .normal)(hr:fr.roundOf=some c)
  (ht:(fr.todo=[]/\j=none)\/(∃k,fr.todo= .code .ret::k/\j=some .ret)\/(∃i k,fr.todo= .code (.exit i)::k/\exitTo i k=none/\j=some (.exit i)))
  (he:(Pm c j).run P w= .ok v w'):step P (lone fr (b::cs') w)= .next (lone (b.finish v) cs' w'):=by
 obtain⟨fn,tmps,todo,defers,mode,kind,ro⟩:=fr;obtain rfl:mode= .run:=hm;obtain rfl:kind= .normal:=hk;obtain rfl:ro=some c:=hr;rcases ht with⟨rfl,rfl⟩|⟨k,rfl,rfl⟩|⟨i,k,rfl,hx,rfl⟩
 ·exact step_lone_go (by simp[stepG,Nh,he,doReturn])
 ·exact step_lone_go (by simp[stepG,Nh,he,doReturn])
 ·exact step_lone_go (by simp[stepG,Nh,hx,he,doReturn])
theorem AB{c:Nat}{j:Option Code}{w':World}(hm:fr.mode= .run)(ht:fr.todo= .endRangeFunc c::k)(he:(Instr.endLoop c).run P w= .ok j w'):
  step P (lone fr cs w)= .next (lone {fr with todo:=(j.map Item.code).toList++k} cs w'):=by
 obtain⟨fn,tmps,todo,defers,mode,kind,ro⟩:=fr;obtain rfl:mode= .run:=hm;obtain rfl:todo=_:=ht;exact step_lone_go (by simp[stepG,Nh,he])
theorem wY{c:Nat}{w':World}(hm:fr.mode= .run)(hr:fr.roundOf=some c)(ht:fr.todo= .beginRound::k)(he:(Instr.beginRound c).run P w= .ok () w'):
  step P (lone fr cs w)= .next (lone {fr with todo:=k} cs w'):=by
 obtain⟨fn,tmps,todo,defers,mode,kind,ro⟩:=fr;obtain rfl:mode= .run:=hm;obtain rfl:todo=_:=ht;obtain rfl:ro=some c:=hr;exact step_lone_go (by simp[stepG,Nh,OQ,he,Qy])
theorem D8{c:Nat}{ds:List Deferred}{w':World}(hm:fr.mode= .returning\/ ∃es,fr.mode= .panicking es)(hd:fr.defers= {target:= .collected c,args:= #[]}::ds)(he:(Pg c).run P w= .ok [] w'):
  step P (lone fr cs w)= .next (lone {fr with defers:=ds} cs w'):=by
 obtain⟨fn,tmps,todo,defers,mode,kind,ro⟩:=fr;obtain rfl:defers=_:=hd;rcases hm with hm|⟨es,hm⟩
 ·obtain rfl:mode= .returning:=hm;exact step_lone_go (by simp[stepG,unwind,he])
 ·obtain rfl:mode= .panicking es:=hm;exact step_lone_go (by simp[stepG,unwind,he])
theorem Gj{g:FuncId}{vs bs:Array Value}{ds:List Deferred}(hm:fr.mode= .returning\/ ∃es,fr.mode= .panicking es)(hd:fr.defers= {target:= .fn (.func g) bs,args:=vs}::ds)(he:(callFunc g (vs++bs)).run P w= .ok (.enter g (vs++bs)) w):
  step P (lone fr cs w)= .next (lone (NG P g (vs++bs) .deferred) ({fr with defers:=ds}::cs) w):=by
 obtain⟨fn,tmps,todo,defers,mode,kind,ro⟩:=fr;obtain rfl:defers=_:=hd;have he':(invoke (.fn (.func g) bs) vs).run P w= .ok (.enter g (vs++bs)) w:=he;rcases hm with hm|⟨es,hm⟩
 ·obtain rfl:mode= .returning:=hm;exact step_lone_go (by simp[stepG,unwind,callDeferred,he'])
 ·obtain rfl:mode= .panicking es:=hm;exact step_lone_go (by simp[stepG,unwind,callDeferred,he'])
def xu(c:Frame):Frame:=
 match c.mode with
 | .panicking ({recovered:=true,..}::older)=>
  match older.dropWhile (!·.goexit)with
  |[]=> {c with mode:= .returning}
  |rest=> {c with mode:= .panicking rest}
 |_=>c
theorem EO{fn:Func}{v:Value}{c:Frame}(hm:fr.mode= .returning)(hk:fr.kind= .deferred)(hd:fr.defers=[])(hf:P.funcs[fr.fn]?=some fn)(hr:(results fn fr.tmps).run P w= .ok v w):
  step P (lone fr (c::cs) w)= .next (lone (xu c) cs w):=by
 obtain⟨f,tmps,todo,defers,mode,kind,ro⟩:=fr;obtain rfl:defers=_:=hd;obtain rfl:mode= .returning:=hm;obtain rfl:kind= .deferred:=hk;refine step_lone_go ?_;simp only at hf hr;simp[stepG,unwind,hf,hr,doReturn];rfl
end
end Go.AM
end
section
namespace Go.AM
variable [Tabs]
open Go.RowKit
section
variable {P:Program} {S0:Base} {w0:World} {cs0:List Frame} {f:FuncId} {C:Cx} {st:St} {fr:Frame} {cs:List Frame} {a:aA} {aZ:List aA}
theorem jU.to(S:jU P S0 w0 cs0 f C st fr cs)(hs:st.frames=a::aZ){k:List aP}{t:List Item}(h:dB P C a.fn k t):
  jU P S0 w0 cs0 f C {st with frames:= {a with items:=k}::aZ} {fr with todo:=t} cs:=by
 have h1:=S.fF;have h2:=S.last;rw[hs]at h1 h2;cases h1 with
 |cons ha has=>exact⟨.cons ⟨ha.fn,ha.ok,ha.tmps,h,ha.defers,ha.dh,ha.kind,ha.round⟩ has,S.inv,S.names,h2.head rfl rfl⟩
theorem jU.top(S:jU P S0 w0 cs0 f C st fr cs)(hs:st.frames=a::aZ):zQ P C a fr/\oI P C aZ cs:=by
 have h1:=S.fF;rw[hs]at h1;cases h1 with
 |cons ha has=>exact⟨ha,has⟩
def bI(P:Program)(S0:Base)(w0:World)(cs0:List Frame)(f:FuncId)(C:Cx)(fr:Frame)(cs:List Frame):Out->Prop
 | .go st'=> ∃C' fr' cs',Steps P (lone fr (cs++cs0) C.w) (lone fr' (cs'++cs0) C'.w)/\jU P S0 w0 cs0 f C' st' fr' cs'
 | .done v h=> ∃C' fr' val,Steps P (lone fr (cs++cs0) C.w) (lone fr' cs0 C'.w)/\fr'.fn=f/\fr'.leaving P C'.w (.returned val)/\VR C' v val/\Inv P S0 w0 C' h
theorem bI.to(S:jU P S0 w0 cs0 f C st fr cs)(hs:st.frames=a::aZ){k:List aP}{t:List Item}(h:dB P C a.fn k t)(hstep:step P (lone fr (cs++cs0) C.w)= .next (lone {fr with todo:=t} (cs++cs0) C.w)):
  bI P S0 w0 cs0 f C fr cs (.go {st with frames:= {a with items:=k}::aZ}):=
 ⟨C,_,cs,.one hstep,S.to hs h⟩
theorem Ii{w:World}:w=w:=rfl
def World.put(w:World)(c:Nat)(o:Obj):World:= {w with heap:=w.heap.setIfInBounds c o}
theorem Inv.putObj{h:Hp}(I:Inv P S0 w0 C h){l c:Nat}{e:tC}{ao:gI}{o:Obj}(hM:C.M l=some e)(hp:e.perm=true)(hc:e.cb=some c)(hno: ∀v ro ps,h.get l≠some (.cells v ro ps))
  (hcell: ∀j,(C.w.cell? ⟨c,j,none⟩).isSome=false) (sZ:C.Le ⟨World.put C.w c o,C.RO,fun x=>if x=l then some e else C.M x⟩->kV P ⟨World.put C.w c o,C.RO,fun x=>if x=l then some e else C.M x⟩ e ao)
  (hao: ∀T e xs,ao≠ .iZ T e xs:=by intro _ _ _ h;cases h):
  ∃C',C'.w=World.put C.w c o/\C.Le C'/\Inv P S0 w0 C' ((l,ao)::h)/\(∀y,C'.M y≠none->C.M y≠none):=by
 have loc:=I.loc _ _ _ hM hc;have y5: ∀j,C.RO c j->False:=fun j hj=>by
  obtain⟨v,ps,q,_⟩:=I.w_ _ _ _ _ hM hc hj;exact hno _ _ _ q
 have T:=I.turn (b:=l) (e:=e) (e':=e) (ao:=ao) (w':=World.put C.w c o) (hao:=hao) hM (MZ _) (fun _=>rfl) (fun _=>rfl)
  ⟨I.below.os,I.below.tape,I.below.output,by have:=I.below.size;simpa[World.put]using this,fun k hk hx=>by
   have hne:c≠k:=fun e=>by
    subst e;rcases loc.1 with q|q
    ·exact hx q
    ·omega
   simp only[World.put];rw[OL hne];exact I.below.block k hk hx⟩
  (by simp[World.put]) (fun k hk hne=>by
   have:c≠k:=fun q=>hne (by rw[hc,q])
   simp only[World.put];rw[OL this])
  (fun c' j hc' hr=>by rw[hc]at hc';obtain rfl:=MN hc';exact(y5 j hr).elim)
  (fun c' j hc' hr=>by rw[hc]at hc';obtain rfl:=MN hc';rw[hcell j]at hr;simp at hr)
  (fun c' hc'=> .inl hc') (fun c' j hc' _ hr=>by rw[hc]at hc';obtain rfl:=MN hc';exact(y5 j hr).elim) sZ
 refine⟨_,rfl,T.1,T.2,fun y hy=> ?_⟩;by_cases hyl:y=l
 ·subst hyl;rw[hM];simp
 ·simpa[hyl]using hy
end
end Go.AM
end
section
namespace Go.AM
variable [Tabs]
open Go.RowKit
section
variable {P:Program} {S0:Base} {w0:World} {cs0:List Frame} {f:FuncId} {C:Cx}
def lN(tmps:Array Value):ResultVar->Sem Value
 | .tmp t=>pure (tmps.getD t undef)
 | .cell a t=>do loadVar t (<-asAddr (tmps.getD a undef))
theorem tu{t:TypeId}{v u:Value}{w:World}(h:(Qz t v).run P w= .ok u w):(do loadVar t (<-asAddr v):Sem Value).run P w= .ok u w:=by
 cases v with
 |pointer a=>
  cases a with
  |some a=>exact h
  |none=>simp[Qz,Q7]at h
 |_=>simp[Qz,Q7]at h
theorem oD{h:Hp}(I:Inv P S0 w0 C h){e:Env}{tmps:Array Value}(hT:jV C e tmps): ∀ {rs:List ResultVar} {l:List AV},(Ig P h e rs).Ev l-> ∃vs,(rs.mapM (lN tmps)).run P C.w= .ok vs C.w/\bg C l vs
 |[],l,he=>by
  obtain rfl:=F.au he;exact⟨[],by simp,.nil⟩
 | .tmp t::r,l,he=>by
  obtain⟨l',h1,he⟩:=F.bV he;obtain rfl:=F.au he;obtain⟨vs,k1,k2⟩:=oD I hT h1;refine⟨tmps.getD t undef::vs,?_,.cons (hT t) k2⟩;simp only[Qa,MO,lN,MQ,MK,k1]
 | .cell a t::r,l,he=>by
  obtain⟨v,h0,he⟩:=F.bV he;obtain⟨l',h1,he⟩:=F.bV he;obtain rfl:=F.au he;obtain⟨vs,k1,k2⟩:=oD I hT h1;obtain⟨u,q1,q2,_⟩:=rQ I (fun _ _ q=>q) h0 (hT a);refine⟨u::vs,?_,.cons q2 k2⟩;rw[Qa,MO,show lN tmps (.cell a t)=(do loadVar t (<-asAddr (tmps.getD a undef)):Sem Value)from rfl,tu q1,MK,MO,k1,MK];rfl
theorem lS{h:Hp}(I:Inv P S0 w0 C h){a:aA}{tmps:Array Value}(hT:jV C a.env tmps){v:AV}(he:(lQ P h a).Ev v): ∃fn val,P.funcs[a.fn]?=some fn/\(results fn tmps).run P C.w= .ok val C.w/\VR C v val:=by
 unfold lQ at he;split at he
 ·rename_i fn hfn;obtain⟨l,h1,he⟩:=F.bV he;obtain⟨vs,k1,k2⟩:=oD I hT h1;have hrun:(fn.results.mapM (lN tmps)).run P C.w= .ok vs.toArray C.w:=by
   rw[Pj];show Qv P (List.mapM _ fn.results.toList >>= fun a=>pure a.toArray) C.w=_;rw[MO,k1];rfl
  have hres:(results fn tmps).run P C.w= .ok (if h:vs.toArray.size=1 then vs.toArray[0]else .tuple vs.toArray) C.w:=by
   have:results fn tmps=(do let vs <-fn.results.mapM (lN tmps);pure (if h:vs.size=1 then vs[0]else .tuple vs):Sem Value):=by
    unfold results;congr 1
   rw[this,MO,hrun];rfl
  refine⟨fn,_,hfn,hres,?_⟩;split at he
  ·obtain rfl:=F.au he;cases k2 with
   |cons q1 q2=>cases q2;exact q1
  ·rename_i hn;obtain rfl:=F.au he;have: ¬vs.toArray.size=1:=by
    intro q;cases k2 with
    |nil=>simp at q
    |cons q1 q2=>
     cases q2 with
     |nil=>exact hn _ rfl
     |cons _ _=>simp at q
   rw[dif_neg this];exact .gG k2
 ·exact(F.ah he).elim
end
end Go.AM
end
section
namespace Go.AM
variable [Tabs]
open Go.RowKit
section
variable {P:Program} {S0:Base} {w0:World} {cs0:List Frame} {f:FuncId}
theorem zk{w:World}{c:Nat}{o:Obj}(h:c<w.heap.size):(World.put w c o).heap[c]?=some o:=by simp[World.put,h]
theorem kZ{w:World}{c:Nat}{o:Obj}(h:w.heap[c]?=some o)(hn: ∀cs t fz,o≠ .cells cs t fz)(j:Nat):(w.cell? ⟨c,j,none⟩).isSome=false:=by
 unfold Rz;rw[h];cases o<;>first|rfl|exact(hn _ _ _ rfl).elim
theorem run_takeDeferred{w:World}{c:Nat}(h:w.heap[c]?=some (.deferred (some []))):(Pg c).run P w= .ok [] (World.put w c (.deferred none)):=by
 have h1:(getObj c).run P w= .ok (.deferred (some [])) w:=by simp[getObj,Qv,h]
 have h2:(setObj c (.deferred none)).run P w= .ok () (World.put w c (.deferred none)):=by simp[setObj,Qv,h,World.put]
 unfold Pg;rw[MO,h1,MK];simp only[MO,h2,MK,MQ]
theorem xY: ∀ {marks:List dP} {h h':Hp} {C:Cx} {fr:Frame} {cs:List Frame},gX marks h=some h'->fG C marks fr.defers->Inv P S0 w0 C h->fr.mode= .returning->
  ∃C',Steps P (lone fr cs C.w) (lone {fr with defers:=[]} cs C'.w)/\C.Le C'/\Inv P S0 w0 C' h'/\ ∀y,C'.M y≠none->C.M y≠none
 |[],h,h',C,fr,cs,e,hm,I,hr=>by
  simp only[gX,MW]at e;subst e;have hd:fr.defers=[]:=by generalize hq:fr.defers=ds at hm;cases hm;rfl
  refine⟨C,?_,.refl C,I,fun y q=>q⟩;have:({fr with defers:=[]}:Frame)=fr:=by obtain⟨fn,tmps,todo,defers,mode,kind,ro⟩:=fr;simp only at hd;subst hd;rfl
  rw[this];exact .refl P _
 | .call _ _::_,h,h',C,fr,cs,e,hm,I,hr=>by simp[gX]at e
 | .mark b::r,h,h',C,fr,cs,e,hm,I,hr=>by
  simp only[gX]at e;split at e
  ·rename_i hb;generalize hq:fr.defers=ds at hm;cases hm with
   | @cons _ c _ ds h1 h2=>
    obtain⟨en,k1,k2,c',k3,k4⟩:=I.obj _ _ hb;obtain rfl:=h1.uniq ⟨en,k1,k2,k3⟩;have k4:C.w.heap[c]?=some (.deferred (some [])):=k4;obtain⟨C1,c1,le,I1,hn⟩:=I.putObj (ao:= .deferred true) (o:= .deferred none) k1 k2 k3 (fun v ro ps q=>by rw[hb]at q;simp at q) (kZ k4 (fun _ _ _ q=>by simp at q))
     (fun _=>⟨k2,c,k3,zk (NM.1 k4).1⟩)
    have st:=D8 (P:=P) (cs:=cs) (.inl hr) hq (run_takeDeferred k4);obtain⟨C2,st2,G7,I2,hn2⟩:=xY (fr:= {fr with defers:=ds}) (cs:=cs) e (h2.mono le) I1 hr;rw[c1]at st2;exact⟨C2,.head st st2,le.trans G7,I2,fun y q=>hn y (hn2 y q)⟩
  ·simp at e
theorem gQ{C:Cx}{a a':aA}{fr:Frame}{v:AV}{val:Value}(h:zQ P C a fr)(hv:VR C v val)(e:jw P a v=some a'):zQ P C a' (fr.finish val)/\a'.fn=a.fn/\a'.round=a.round/\a'.dk=a.dk/\a'.un=a.un:=by
 unfold jw at e;split at e
 ·rename_i p i r k hit;split at e
  ·rename_i o ho;have ht:=h.todo;rw[hit]at ht;generalize htd:fr.todo=td at ht;cases ht with
   |cons hi hk=>
    obtain⟨id,ops,d,hc,hbar,hop⟩: ∃id ops d,aU P a.fn p= .region id ops d/\(!d||kQ ops i)=true/\ops[i]?=some o:=by
     unfold opAt at ho;split at ho
     ·rename_i id ops d hc;simp only[cond_eq_ite]at ho;split at ho
      ·rename_i hb;exact⟨id,ops,d,hc,hb,ho⟩
      ·simp at ho
     ·simp at ho
    obtain⟨l,rfl,hi'⟩:=hi.head hc hbar;rw[jL htd hop];obtain⟨m,hm1,hm2⟩:=qR h.ok p;rw[hc]at hm2;have hb:=NQ.1 hm2 o (by rw[<-Na]at hop;exact P_ hop);simp only[MS]at hb;split at e
    ·rename_i d' hd;obtain rfl:=MN e;rw[hd]at hb ⊢
     have hlt:d'<fr.tmps.size:=by
      have:=hb.1;simp only[O1]at this;exact Qp this hm1
     refine⟨⟨h.fn,?_,h.tmps.put hlt hv,.cons hi' hk,h.defers,h.dh,h.kind,h.round⟩,rfl,rfl,rfl,rfl⟩;simpa using h.ok
    ·rename_i hd;obtain rfl:=MN e;rw[hd];exact⟨⟨h.fn,h.ok,h.tmps,.cons hi' hk,h.defers,h.dh,h.kind,h.round⟩,rfl,rfl,rfl,rfl⟩
  ·simp at e
 ·rename_i l k hit;obtain rfl:=MN e;have ht:=h.todo;rw[hit]at ht;generalize htd:fr.todo=td at ht;cases ht with
  | @cons _ _ _ bs hi hk=>
   cases hi with
   | @inRange _ c hc=>
    have:fr.finish val= {fr with todo:= .endRangeFunc c::bs}:=by unfold Qy;rw[htd]
    rw[this];exact⟨⟨h.fn,h.ok,h.tmps,.cons (.bF hc) hk,h.defers,h.dh,h.kind,h.round⟩,rfl,rfl,rfl,rfl⟩
 ·simp at e
end
end Go.AM
end
section
namespace Go.AM
variable [Tabs]
open Go.RowKit
section
variable {P:Program} {S0:Base} {w0:World} {cs0:List Frame} {f:FuncId}
theorem run_getLoop{w:World}{c:Nat}{l:Loop}(h:w.heap[c]?=some (.loop l)):(Ri c).run P w= .ok l w:=by
 have h1:(getObj c).run P w= .ok (.loop l) w:=by simp[getObj,Qv,h]
 unfold Ri;rw[MO,h1,MK];rfl
theorem lW{w:World}{c:Nat}{l l':Loop}(h:w.heap[c]?=some (.loop l)):(setObj c (.loop l')).run P w= .ok () (World.put w c (.loop l')):=by simp[setObj,Qv,h,World.put]
theorem Inv.pX{C:Cx}{h:Hp}(I:Inv P S0 w0 C h){l:Nat}{st:LoopState}{pend:Option Jump}{fn:FuncId}{env:Env}{ps:List Nat}{p:Path}{d:Nat}(hl:h.get l=some (.loop st pend fn env ps p d)):
  ∃c lp,eX C l c/\C.w.heap[c]?=some (.loop lp)/\lp.state=st/\lp.pending=pend.map je/\lp.fn=fn/\lp.params=ps.toArray/\lp.assign=aU P fn (p++[.l])/\lp.body=aU P fn (p++[.r])/\jV C env lp.tmps/\(∀t∈ps,t<lp.tmps.size)/\uj P fn lp.tmps.size/\eX C d lp.defers/\
   ∀st' yx,∃C',C'.w=World.put C.w c (.loop {lp with state:=st',pending:=yx.map je})/\C.Le C'/\Inv P S0 w0 C' ((l,.loop st' yx fn env ps p d)::h)/\ ∀y,C'.M y≠none->C.M y≠none:=by
 obtain⟨e,k1,k2,c,k3,lp,g1,g2,g3,g4,g5,g6,g7,g8,⟨g9,Lh⟩,ed,g10,g11,g12⟩:=I.obj _ _ hl;refine⟨c,lp,⟨e,k1,k2,k3⟩,g1,g2,g3,g4,g5,g6,g7,g8,g9,Lh,⟨ed,g10,g11,g12⟩,fun st' yx=> ?_⟩;refine I.putObj k1 k2 k3 (fun v ro ps q=>by rw[hl]at q;simp at q) (kZ g1 (fun _ _ _ q=>by simp at q)) fun le=> ?_
 obtain⟨e',q1,_,_,q4⟩:=le.ent _ _ g10;obtain rfl:=q4 g11;exact⟨k2,c,k3,_,zk (NM.1 g1).1,rfl,rfl,g4,g5,g6,g7,g8.mono le,⟨g9,Lh⟩,e',q1,g11,g12⟩
def FP:Option Jump->LoopState
 |none=> .ready
 |some _=> .done
theorem EL{C:Cx}{st:St}{fr:Frame}{cs:List Frame}{a:aA}{aZ:List aA}(S:jU P S0 w0 cs0 f C st fr cs)(hs:st.frames=a::aZ){j:Option Jump}{out:Out}(e:(lG P st a aZ j).Ev out)
  (h0:fr.roundOf=none->(j=none\/j=some .ret)->step P (lone fr (cs++cs0) C.w)= .next (lone {fr with mode:= .returning} (cs++cs0) C.w))
  (h1: ∀c v w' b cs',fr.roundOf=some c->fr.kind= .normal->(Pm c (j.map je)).run P C.w= .ok v w'->step P (lone fr (b::cs') C.w)= .next (lone (b.finish v) cs' w')):
  bI P S0 w0 cs0 f C fr cs out:=by
 obtain⟨ha,has⟩:=S.top hs;have hlast:=S.last;rw[hs]at hlast;unfold lG at e;split at e
 ·rename_i dF;have hr:=ha.round;rw[dF]at hr;have hr:fr.roundOf=none:=hr;have hj:j=none\/j=some .ret:=by
   split at e
   ·exact(F.ah e).elim
   ·cases j with
    |none=>exact .inl rfl
    |some j=>cases j with
     |ret=>exact .inr rfl
     |exit id=>rename_i hn;exact(hn id rfl).elim
  have e:(bif qX a.marks&& !a.dk then(match gX a.marks st.hp with|some h=>(lQ P h a).bind fun v=>uG P st aZ h v|none=>F.fail)else F.ret (.go {st with frames:= {a with un:=some []}::aZ})).Ev out:=by rcases hj with rfl|rfl<;>exact e
  rw[cond_eq_ite]at e;split at e
  rotate_left
  ·obtain rfl:=F.au e;exact⟨C,{fr with mode:= .returning},cs,.one (h0 hr hj),.cons ⟨ha.fn,ha.ok,ha.tmps,ha.todo,ha.defers,rfl,ha.kind,ha.round⟩ has,S.inv,S.names,hlast.head rfl rfl⟩
  rename_i hpl;simp only[MS,Nj]at hpl;have hkind:fr.kind= .normal:=by rw[ha.kind,hpl.2];rfl
  split at e
  ·rename_i h' hmk;obtain⟨v,hv,e⟩:=F.bV e;obtain⟨C1,st1,le1,I1,hn1⟩:=xY (fr:= {fr with mode:= .returning}) (cs:=cs++cs0) hmk ha.defers S.inv rfl;obtain⟨fn,val,hfn,hres,hval⟩:=lS I1 (ha.tmps.mono le1).env hv;have hleave:({fr with mode:= .returning,defers:=[]}:Frame).leaving P C1.w (.returned val):=⟨rfl,rfl,hkind,fn,by show P.funcs[fr.fn]?=_;rw[ha.fn];exact hfn,hres⟩;have hsteps:Steps P (lone fr (cs++cs0) C.w) (lone {fr with mode:= .returning,defers:=[]} (cs++cs0) C1.w):= .head (h0 hr hj) st1;unfold uG at e;cases has with
   |nil=>
    simp only at e;obtain rfl:=F.au e;exact⟨C1,_,val,hsteps,by show fr.fn=f;rw[ha.fn];exact hlast.1,hleave,hval,I1⟩
   | @cons b bf bs BI hb hbs=>
    simp only at e;split at e
    ·rename_i b' hb';obtain rfl:=F.au e;obtain⟨k1,k2,k3,k4,k5⟩:=gQ (hb.mono le1) hval hb';exact⟨C1,bf.finish val,BI,hsteps.trans (.one (step_leave_returned hleave)),.cons k1 (hbs.mono le1),I1,fun y hy=>S.names y (hn1 y hy),bn.head (a:=b) hlast k2 k3 k4⟩
    ·exact(F.ah e).elim
  ·exact(F.ah e).elim
 ·rename_i l dF;have hr:=ha.round;rw[dF]at hr;obtain⟨c,hr,hname⟩:=hr;rw[cond_eq_ite]at e;split at e
  ·exact(F.ah e).elim
  rename_i hdk;have hkind:fr.kind= .normal:=by rw[ha.kind];simp only[PL]at hdk;rw[hdk];rfl
  split at e
  ·rename_i st' pend fn env ps p d hl;obtain⟨c',lp,g1,g2,g3,g4,g5,g6,g7,g8,g9,g10,g11,g12,g13⟩:=S.inv.pX hl;obtain rfl:=hname.uniq g1;obtain⟨C1,c1,le1,I1,hn1⟩:=g13 (FP j) j;have hrun:(Pm c (j.map je)).run P C.w= .ok (.bool j.isNone) C1.w:=by
    unfold Pm;rw[MO,run_getLoop g2,MK,MO,lW g2,MK,c1];cases j<;>rfl
   unfold uG at e;cases has with
   |nil=>exact absurd hlast.2.1 (by rw[dF];simp)
   | @cons b bf bs BI hb hbs=>
    simp only at e;split at e
    ·rename_i b' hb';obtain rfl:=F.au e;obtain⟨k1,k2,k3,k4,k5⟩:=gQ (hb.mono le1) (VR.bool (C:=C1)) hb';exact⟨C1,bf.finish _,BI,.one (h1 c _ _ _ _ hr hkind hrun),.cons k1 (hbs.mono le1),by cases j<;>exact I1,fun y hy=>S.names y (hn1 y hy),bn.head (a:=b) hlast k2 k3 k4⟩
    ·exact(F.ah e).elim
  ·exact(F.ah e).elim
end
end Go.AM
end
section
namespace Go.AM
variable [Tabs]
open Go.RowKit
section
variable {P:Program} {S0:Base} {w0:World} {cs0:List Frame} {f:FuncId}
theorem bg.length{C:Cx}: ∀ {aZ:List AV} {vs:List Value},bg C aZ vs->aZ.length=vs.length
 |_,_,.nil=>rfl
 |_,_,.cons _ h=>by simp[h.length]
theorem Ew: ∀(args:List AV) (s t:Nat),Env.get ((QU s args.length).zip args) t=if s<=t then(args[t-s]?).getD .junk else .junk
 |[],s,t=>by simp[Env.get]
 |a::r,s,t=>by
  rw[Ob,OW,Qo,Env.aB,Ew r (s+1) t];by_cases h:s=t
  ·subst h;simp
  ·rw[if_neg h];by_cases h2:s<=t
   ·rw[if_pos (by omega),if_pos h2];have:t-s=(t-(s+1))+1:=by omega
    rw[this,List.getElem?_cons_succ]
   ·rw[if_neg (by omega),if_neg h2]
theorem iU{C:Cx}{g:FuncId}{args:List AV}{vs:List Value}{callee:aA}(e:aW P g args=some callee)(hv:bg C args vs):zQ P C callee (NG P g vs.toArray .normal)/\callee.fn=g/\callee.round=none/\callee.dk=false/\callee.un=none:=by
 unfold aW at e;split at e
 ·rename_i fn hfn;simp only[cond_eq_ite]at e;split at e
  ·rename_i c hc;split at e
   ·rename_i hok;obtain rfl:=MN e;refine⟨⟨rfl,⟨fn,c,hfn,hc,(by simp only[MS]at hok;exact hok.1),?_⟩,⟨fun t=> ?_,fun m hm=>by simp at hm⟩,?_,.nil,rfl,rfl,rfl⟩,rfl,rfl,rfl,rfl⟩
    ·simp[NG,hfn];omega
    ·show VR C (Env.get ((Px args.length).zip args) t) _;rw[List.range_eq_range',Ew,if_pos (Nat.zero_le _),Nat.sub_zero];cases ht:args[t]? with
     |none=>exact .junk _
     |some a=>
      obtain⟨v,h1,h2⟩:=hv.get ht;have:(NG P g vs.toArray .normal).tmps.getD t undef=v:=by
       simp only[NG];have hlt:=(NZ.1 h1).1;rw[O4,Oi (by simpa using hlt),PZ,h1];rfl
      rw[this];exact h2
    ·have:(NG P g vs.toArray .normal).todo=[.code (aU P g [])]:=by simp[NG,hfn,hc,aU,uI]
     rw[this];exact .cons .code .nil
   ·simp at e
  ·simp at e
 ·simp at e
theorem BX{C:Cx}{g:FuncId}{args:List AV}{vs:List Value}{callee:aA}(e:aW P g args=some callee)(hv:bg C args vs):zQ P C {callee with dk:=true} (NG P g vs.toArray .deferred):=by
 obtain⟨h,h1,h2,h3,h4⟩:=iU e hv;have:NG P g vs.toArray .deferred= {NG P g vs.toArray .normal with kind:= .deferred}:=by unfold NG;rfl
 rw[this];exact⟨h.fn,h.ok,h.tmps,h.todo,h.defers,h.dh,rfl,h.round⟩
theorem zW{C:Cx}: ∀ {ps:List Nat} {args:List AV} {vs:List Value} {env e:Env} {tmps:Array Value},fH ps args env=some e->bg C args vs->jV C env tmps->(∀t∈ps,t<tmps.size)->
  ps.length=vs.length/\jV C e ((ps.zip vs).foldl (fun tmps (x:Nat×Value)=>tmps.setIfInBounds x.1 x.2) tmps)/\((ps.zip vs).foldl (fun tmps (x:Nat×Value)=>tmps.setIfInBounds x.1 x.2) tmps).size=tmps.size
 |[],_,_,env,e,tmps,h,.nil,hE,_=>by
  simp only[fH,MW]at h;subst h;exact⟨rfl,hE,rfl⟩
 |[],_,_,env,e,tmps,h,.cons _ _,hE,_=>by simp[fH]at h
 |_::_,_,_,env,e,tmps,h,.nil,hE,_=>by simp[fH]at h
 |t::ps,_,v::_,env,e,tmps,h,.cons ha hr,hE,hlt=>by
  simp only[fH]at h;have k:=(dS.put (C:=C) (ms:=[]) ⟨hE,fun m hm=>by simp at hm⟩ (hlt t (.head _)) ha).env;obtain⟨k1,k2,k3⟩:=zW (tmps:=tmps.setIfInBounds t v) h hr k (fun x hx=>by rw[Oz];exact hlt x (.tail _ hx));refine⟨by simp[k1],k2,?_⟩;rw[Qo,PY,k3,Oz]
end
end Go.AM
end
section
namespace Go.AM
variable [Tabs]
open Go.RowKit
section
variable {P:Program} {S0:Base} {w0:World} {cs0:List Frame} {f:FuncId}
theorem wK{fr:Frame}{ops:Array Oper}{i:Nat}{rest:List Nat}{k:List Item}{o:Oper}{cs:List Frame}{w:World}{c:Nat}{lp:Loop}{tmps:Array Value}(hm:fr.mode= .run)(ht:fr.todo= .inRegion ops (i::rest)::k)
  (ho:ops[i]?=some o) (hw:Nl o (yielded ops fr.tmps)=true) (hd: ∀c,o.op≠ .defer c) (hr:(execOp fr.eval o).run P w= .ok (.round c lp.fn tmps lp.assign lp.body) w):
  step P (lone fr cs w)= .next (lone (Frame.round c lp.fn tmps lp.assign lp.body .normal) (fr::cs) w):=by
 refine step_lone_go ?_;rw[stepG_op' hm ht ho hw hd];simp[OQ,hr]
theorem uY{fr:Frame}{ops:Array Oper}{i:Nat}{rest:List Nat}{k:List Item}{o:Oper}{cs:List Frame}{w:World}{g:FuncId}{args:Array Value}(hm:fr.mode= .run)(ht:fr.todo= .inRegion ops (i::rest)::k)
  (ho:ops[i]?=some o) (hw:Nl o (yielded ops fr.tmps)=true) (hd: ∀c,o.op≠ .defer c) (hr:(execOp fr.eval o).run P w= .ok (.enter g args) w):
  step P (lone fr cs w)= .next (lone (NG P g args .normal) (fr::cs) w):=by
 refine step_lone_go ?_;rw[stepG_op' hm ht ho hw hd];simp only[OQ,Sem.runT_eq,hr,if_true];rw[ht];rfl
end
end Go.AM
end
section
namespace Go.AM
variable [Tabs]
open Go.RowKit
section
variable {P:Program} {S0:Base} {w0:World} {cs0:List Frame} {f:FuncId}
theorem iw{C:Cx}{o:Oper}{ρA:Operand->AV}{ρV:Operand->Value}(hρ: ∀x,VR C (ρA x) (ρV x)){fn:Fn}{args:List AV}(e:oO P o ρA=some (fn,args)):
  ∃c vs,o.op= .call c/\bg C args vs/\((∃g,fn= .func g/\ ∀w,(execOp ρV o).run P w=(callFunc g vs.toArray).run P w)\/(∃l b,fn= .yield l/\eX C l b/\execOp ρV o=Rx b vs.toArray)):=by
 unfold oO at e;split at e
 ·rename_i c ho;split at e
  ·rename_i x hx;have hfr:=hρ x;have harr: ∀(a b:List Value) (m:Array Operand),(a++m.toList.map ρV++b).toArray=a.toArray++m.map ρV++b.toArray:=by
    intro a b m;apply OJ
    simp
   split at e
   ·rename_i g first cap hq
    rw[hq]at hfr;simp only[MW,OZ]at e;obtain⟨rfl,rfl⟩:=e;generalize hv:ρV x=v at hfr;cases hfr with
    | @fn _ f' _ _ aZ bs q h1 h2=>
     cases q;refine⟨c,aZ++c.args.toList.map ρV++bs,ho,(h1.append (bg.map hρ _)).append h2,.inl ⟨g,rfl,fun w=> ?_⟩⟩;rw[harr];unfold execOp;rw[ho];simp only[resolve,hx,hv];rfl
   ·rename_i l cap hq;rw[hq]at hfr;simp only[MW,OZ]at e;obtain⟨rfl,rfl⟩:=e;generalize hv:ρV x=v at hfr;cases hfr with
    | @fn _ f' _ _ aZ bs q h1 h2=>
     cases h1;obtain⟨en,b,q1,q2,q3,rfl⟩:=q;refine⟨c,c.args.toList.map ρV,ho,bg.map hρ _,.inr ⟨l,b,rfl,⟨en,q1,q2,q3⟩,?_⟩⟩;have:=harr [] [] c.args;simp only[OH,OD,List.toArray,Array.append_empty,OB]at this;unfold execOp;rw[ho];simp only[resolve,hx,hv];have h3:(c.args.toList.map ρV).toArray=c.args.map ρV:=by apply OJ;simp
     rw[h3];show Rx b (#[]++c.args.map ρV)=_;rw[OB]
   ·simp at e
  ·rename_i x name hx;have hfr:=hρ x;split at e
   ·rename_i t y hq;rw[hq]at hfr;split at e
    ·rename_i g hm;simp only[MW,OZ]at e;obtain⟨rfl,rfl⟩:=e;generalize hv:ρV x=v at hfr;cases hfr with
     |iface hy=>
      rename_i u;refine⟨c,u::c.args.toList.map ρV,ho,.cons hy (bg.map hρ _),.inl ⟨g,rfl,fun w=> ?_⟩⟩;have h0:(#[O6 t u]++c.args.map ρV)[0]?=some (.iface t u):=by rw[Oi (by simp)];rfl
      have h1:(#[O6 t u]++c.args.map ρV).extract 1 (#[O6 t u]++c.args.map ρV).size=c.args.map ρV:=o_ _ _;have h2:(u::c.args.toList.map ρV).toArray= #[u]++c.args.map ρV:=by apply OJ;simp
      unfold execOp;rw[ho];simp only[resolve,hx,hv,MO,MQ,MK,invoke,h0,h1,h2];exact lV hm _
    ·simp at e
   ·simp at e
  ·simp at e
 ·simp at e
end
end Go.AM
end
