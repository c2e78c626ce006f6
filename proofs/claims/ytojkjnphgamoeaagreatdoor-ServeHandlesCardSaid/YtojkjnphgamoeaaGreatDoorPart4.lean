import Derived.Test.YtojkjnphgamoeaaGreatDoorPart3

/-! The functions that the laws of this seat reach, as plain functions, and what these answer; no condition. -/
set_option linter.unusedSimpArgs false
set_option linter.unusedVariables false
set_option linter.unusedSectionVars false

open BitVec renaming ofInt->ahB,toNat_ofInt->ahX,toNat_and->aiD
open Bool renaming not_true->ahn,or_true->ahw,not_false->ahz,and_eq_true->ahA,not_eq_true'->ahM,and_false->ahR,true_or->ahU,false_or->ah1,true_and->ah2,false_and->ah4,and_self->ah5,eq_iff_iff->air,or_eq_true->ais,or_false->aiA,or_self->aiC,and_true->aiL,not_not->aiM
open Go.IntKind renaming i64->ahl,u8->ahm,u64->ahv,u32->ahy,signed->aiI,bits->aiN,wrap->aiO,i8->aiT
open Int renaming toNat_natCast->aht,le_refl->ahx,tdiv_eq_ediv_of_nonneg->ahF,tmod_eq_emod_of_nonneg->ahJ,eq_ofNat_of_zero_le->ahL,toNat_of_nonneg->ahV,natCast_nonneg->aif
open List renaming length_drop->aho,length_append->ahp,length_take->ahq,take_of_length_le->ahr,replicate->ahs,range->ahu,mem_append->ahC,take_append_drop->ahD,append_assoc->ahE,drop_zero->ahG,mem_range->ahH,take_length->ahI,not_mem_nil->ahO,length_replicate->ahP,mem_singleton->ahQ,mem_of_find?_eq_some->ahS,mem_of_mem_take->ahT,mem_cons->ahW,length_set->ahY,mem_of_mem_drop->ah3,find?_some->ah6,length_eq_zero_iff->ah7,drop_drop->ah8,drop_append_of_le_length->ah_,take_append_of_le_length->aia,nil_append->aic,getD_eq_getElem?_getD->aie,find?_eq_none->aii,take_take->aik,any_eq_false->ail,filter_cons_of_neg->ain,filter_cons_of_pos->aio,length_cons->aip,drop_of_length_le->aiq,foldl_cons->ait,drop_take->aix,foldl_nil->aiy,length->aiz,mem_replicate->aiB,length_map->aiF,length_nil->aiG,drop_left->aiJ,take_left->aiK,mem_map->aiP
open Nat renaming lt_of_le_of_lt->ahK,min_eq_left->ahN,le_refl->ahZ,sub_zero->ah0,and_two_pow_sub_one_eq_mod->ah9,le_add_right->aib,lt_of_lt_of_le->aij,ble_eq_true_of_le->aiu,le_add_left->aiv,pow_le_pow_right->aiw,zero_le->aiH,le_trans->aiQ,mul_zero->aiR,ble->aiS
open Option renaming bind_some->ahk,bind_none->aiE
section
namespace Go.AM
section
variable {ok:Bool} {n dn mu sm four x i t t1 t2 tp tq:Int} {key b tw ta out K was kb T sb bk:List Int} {yb W rn:List (List Int)} {last:Bool}
theorem abB{r:Nat}(hW:Words W)(hl:W.length=4*(r+1))(hr:r<=100)(hr0:0<r)(hb:b.length=16){β:Type}{Q:_->Option β}:
  (bif inB 0 ((PL W).length:Int)then
   ((MP.l7 .lim (0,n,b,rd Xi (PL W) 0,tw,key,dn,mu,sm,Rt 256,bk,Ov 256,ta,out,PL W,())).bind fun (n,b,tw,key,dn,mu,sm,sb,bk,yb,ta,out,rn,())=>
    bif sK 1 (rn.length:Int) (rn.length:Int)then bif vT ((rn.length:Int)-1)then(MP.ZW .lim (1,((rn.length:Int)-1),((rn.length:Int)-1),0,n,rn,b,tw,key,dn,mu,sm,sb,bk,yb,ta,out,())).bind Q else none else none)else none)=Q (n,Tf W b r,tw,key,dn,mu,sm,Rt 256,bk,Ov 256,ta,out,PL W,()):=by
 have hn:(PL W).length=r+1:=by unfold PL;simp;omega
 have h0:rd Xi (PL W) 0=TA W 0:=by
  have:=Rj (d:=Xi) (show 0<(PL W).length by omega);rw[show ((0:Nat):Int)=0 from rfl]at this;rw[this];unfold PL;simp
 rw[cond_pos (MX (by omega) (by omega)),h0,acT hb];simp only[ahk];rw[cond_pos (Na (by omega) (by omega) (by omega)),cond_pos (Ns (by omega)),show ((PL W).length:Int)-1=(r:Int) by omega];have:=ae2 (tw:=tw) (key:=key) (dn:=dn) (mu:=mu) (sm:=sm) (bk:=bk) (n:=n) (ta:=ta) (out:=out) hW hl hr hr0 hb;rw[show Tf W b 0=Un b (TA W 0)from rfl]at this;rw[this];rfl
theorem acS(hk:key.length=16\/key.length=32)(hkb: ∀x∈key,B8 x)(hb:b.length=16):
  MP.Zm .lim (b,n,key,0,0,sm,OH,OH,ahs 16 OH,ta,out,[],())=some (n,encS key b,key,1,0,sm,Rt 256,VX 256,Ov 256,ta,out,PL (QF key),()):=by
 have h0:MP.Zm .lim (b,n,key,0,0,sm,OH,OH,ahs 16 OH,ta,out,[],())=MP.b14 .lim (MP.Zm .lim) (b,n,key,0,0,sm,OH,OH,ahs 16 OH,ta,out,[],()):=MP.q14 _;rw[h0];have hr:=acU (sm:=sm) (key:=key) (b:=b) (tw:=Xi) (n:=n) (ta:=ta) (out:=out) hk hkb;have hW:=UR key hkb;have hl:(QF key).length=4*((key.length/4+6)+1):=by rw[TU];omega
 have hq:(QF key).length/4-1=key.length/4+6:=by omega
 unfold MP.b14;simp only[hr,ahk];refine(abB (Q:=fun (n,b,tw,key,dn,mu,sm,sb,bk,yb,ta,out,rn,())=>some (n,b,key,dn,mu,sm,sb,bk,yb,ta,out,rn,())) hW hl (by omega) (by omega) hb).trans ?_;unfold encS;rw[hq]
theorem acR(hk:key.length=16\/key.length=32)(hkb: ∀x∈key,B8 x)(hb:b.length=16):
  MP.Zm .lim (b,n,key,1,0,sm,Rt 256,VX 256,Ov 256,ta,out,PL (QF key),())=some (n,encS key b,key,1,0,sm,Rt 256,VX 256,Ov 256,ta,out,PL (QF key),()):=by
 have h0:MP.Zm .lim (b,n,key,1,0,sm,Rt 256,VX 256,Ov 256,ta,out,PL (QF key),())=MP.b14 .lim (MP.Zm .lim) (b,n,key,1,0,sm,Rt 256,VX 256,Ov 256,ta,out,PL (QF key),()):=MP.q14 _;rw[h0];have hr:MP.l6 .lim (n,key,1,0,sm,Rt 256,VX 256,Ov 256,b,Xi,ta,out,PL (QF key),())=some (n,b,Xi,key,1,0,sm,Rt 256,VX 256,Ov 256,ta,out,PL (QF key),()):=by
  rw[MP.q6];simp only[MP.b6,MR (show ¬(1:Int)=0 by omega),ahz,ahn,cond_false]
 have hW:=UR key hkb;have hl:(QF key).length=4*((key.length/4+6)+1):=by rw[TU];omega
 have hq:(QF key).length/4-1=key.length/4+6:=by omega
 unfold MP.b14;simp only[hr,ahk];refine(abB (Q:=fun (n,b,tw,key,dn,mu,sm,sb,bk,yb,ta,out,rn,())=>some (n,b,key,dn,mu,sm,sb,bk,yb,ta,out,rn,())) hW hl (by omega) (by omega) hb).trans ?_;unfold encS;rw[hq]
end
end Go.AM
end
section
namespace Go.AM
abbrev Bs(s:List Int):Prop:= ∀x∈s,B8 x
abbrev Nr:Nat:=9223372036854775808
def keyE(key:List Int):Bool:=decide (key.length=16\/key.length=32)
noncomputable def encR(key b:List Int):List Int×Int:=if key.length=16\/key.length=32 then(if b.length=16 then(encS key b,0)else([],10))else([],13)
theorem acE{b:List Int}(h:b.length=16):(b.drop 0).take 16=b:=by rw[ahG,ahr (by omega)]
theorem Ut{key b:List Int}(hk:key.length<Nr)(hb:b.length<Nr)(hkb:Bs key):MQ.run .lim (key,b,())=some ((encR key b).1,(encR key b).2,()):=by
 unfold encR;simp only[MQ.run,MS hk,MS hb,cond_true,ahw];by_cases h1:key.length=16\/key.length=32
 ·have:(!decide ((key.length:Int)=16)&& !decide ((key.length:Int)=32))=false:=by
   rcases h1 with h|h
   ·rw[MO (show (key.length:Int)=16 by omega)];rfl
   ·rw[MO (show (key.length:Int)=32 by omega),ahn,ahR]
  rw[this,if_pos h1];simp only[cond_false];by_cases h2:b.length=16
  ·rw[MO (show (b.length:Int)=16 by omega),if_pos h2];simp only[ahn,cond_false,h2];rw[show (aiS 1 16&&aiS 16 16)=true from rfl,cond_true,ahr (by omega),acL h1 hkb h2];simp only[ahk];rw[acE (Sj _ _).1]
  ·rw[MR (show ¬(b.length:Int)=16 by omega),if_neg h2];rfl
 ·rw[MR (show ¬(key.length:Int)=16 by omega),MR (show ¬(key.length:Int)=32 by omega),if_neg h1];rfl
theorem abe{key:List Int}(hk:key.length<Nr):P5.run .lim (key,())=some (keyE key):=by
 simp only[P5.run,MS hk,cond_true,ahw,OC];unfold keyE;congr 1;exact decide_eq_decide.2 (by omega)
theorem XU{key b:List Int}(hk:key.length<Nr)(hb:b.length<Nr):O7.run .lim (key,b,())=some (if key.length=16\/key.length=32 then(if b.length=16 then 0 else 10)else 13):=by
 simp only[O7.run,abe hk,ahk,MS hb];unfold keyE;by_cases h1:key.length=16\/key.length=32
 ·rw[MO h1,if_pos h1];by_cases h2:b.length=16
  ·rw[MO (show (b.length:Int)=16 by omega),if_pos h2];rfl
  ·rw[MR (show ¬(b.length:Int)=16 by omega),if_neg h2];rfl
 ·rw[MR h1,if_neg h1];rfl
theorem Uj{key b:List Int}(hk:key.length<Nr)(hb:b.length<Nr)(hkb:Bs key):OD.run .lim (key,b,())=some ((encR key b).1,(encR key b).2,()):=by
 simp only[OD.run,XU hk hb,ahk];unfold encR;by_cases h1:key.length=16\/key.length=32
 ·rw[if_pos h1,if_pos h1];by_cases h2:b.length=16
  ·rw[if_pos h2,if_pos h2,Yt h1 hkb];simp only[ahk,aaz h1 hkb h2];rfl
  ·rw[if_neg h2,if_neg h2];rfl
 ·rw[if_neg h1,if_neg h1];rfl
def Zi:Nat->List Int->List Int
 |0,m=>m
 |i+1,m=>bif !decide (rd 0 (m.set i (ahm.wrap (rd 0 m (i:Int)+1))) (i:Int)=0)then m.set i (ahm.wrap (rd 0 m (i:Int)+1))else Zi i (m.set i (ahm.wrap (rd 0 m (i:Int)+1)))
theorem Zj: ∀i m,(Zi i m).length=m.length
 |0,_=>rfl
 |i+1,m=>by
  rw[Zi];cases decide (rd 0 (m.set i (ahm.wrap (rd 0 m (i:Int)+1))) (i:Int)=0)
  ·simp
  ·simp[Zj i]
noncomputable def P9(key at_:List Int):Nat->List Int×List Int
 |0=>([],at_)
 |k+1=>((P9 key at_ k).1++encS key (P9 key at_ k).2,Zi 16 (P9 key at_ k).2)
theorem RH(key at_:List Int): ∀k,(P9 key at_ k).1.length=16*k/\(P9 key at_ k).2.length=at_.length
 |0=>⟨rfl,rfl⟩
 |k+1=>by
  obtain⟨h1,h2⟩:=RH key at_ k;exact⟨by rw[P9,ahp,h1,(Sj _ _).1];omega,by rw[P9,Zj,h2]⟩
noncomputable def aam(key at_:List Int)(n:Nat):List Int:=(P9 key at_ ((n+15)/16)).1.take n
theorem VL(key at_:List Int)(n:Nat):(aam key at_ n).length=n:=by unfold aam;rw[ahq,(RH _ _ _).1];omega
section
variable {n dn mu sm:Int} {key ta out sb bk w:List Int} {yb rn:List (List Int)}
theorem adL: ∀(i:Nat),i<=16-> ∀(ta:List Int),ta.length=16->MP.l15 .lim (n,(i:Int)-1,key,dn,mu,sm,sb,bk,yb,ta,out,rn,())=some (n,key,dn,mu,sm,sb,bk,yb,Zi i ta,out,rn,())
 |0,_,ta,ht=>by
  rw[MP.q15];simp only[MP.b15,MR (show ¬(((0:Nat):Int)-1>=0) by omega),cond_false];rfl
 |i+1,hi,ta,ht=>by
  have w1:ahl.wrap ((i:Int)-1)=(i:Int)-1:=wrap64 (by omega) (by omega);have ih:=adL i (by omega) (ta.set i (ahm.wrap (rd 0 ta (i:Int)+1))) (by simpa using ht);rw[show ((i+1:Nat):Int)-1=(i:Int) by omega,MP.q15,Zi];simp only[MP.b15,MO (show (i:Int)>=0 by omega),MX (show (0:Int)<=i by omega) (show (i:Int)<16 by omega),cond_true,aht,w1,ih];cases decide (rd 0 (ta.set i (ahm.wrap (rd 0 ta (i:Int)+1))) (i:Int)=0)<;>rfl
theorem adK: ∀(i:Nat),i<=16-> ∀(ta:List Int),ta.length=16->ND.l0 .lim (n,out,(i:Int)-1,w,ta,())=some (n,out,w,Zi i ta,())
 |0,_,ta,ht=>by
  rw[ND.q0];simp only[ND.b0,MR (show ¬(((0:Nat):Int)-1>=0) by omega),cond_false];rfl
 |i+1,hi,ta,ht=>by
  have w1:ahl.wrap ((i:Int)-1)=(i:Int)-1:=wrap64 (by omega) (by omega);have ih:=adK i (by omega) (ta.set i (ahm.wrap (rd 0 ta (i:Int)+1))) (by simpa using ht);rw[show ((i+1:Nat):Int)-1=(i:Int) by omega,ND.q0,Zi];simp only[ND.b0,MO (show (i:Int)>=0 by omega),ahY,ht,MX (show (0:Int)<=i by omega) (show (i:Int)<((16:Nat):Int) by omega),cond_true,aht,w1,ih];cases decide (rd 0 (ta.set i (ahm.wrap (rd 0 ta (i:Int)+1))) (i:Int)=0)<;>rfl
end
def abl(key at_:List Int)(n:Int):Int:=if n<0\/n>65536 then 13 else if key.length=16\/key.length=32 then(if at_.length=16 then 0 else 10)else 13
noncomputable def abm(key at_:List Int)(n:Int):List Int:=if abl key at_ n=0 then aam key at_ n.toNat else []
theorem ad5{key at_:List Int}{q:Nat}(hk:key.length=16\/key.length=32)(hkb:Bs key)(ha:at_.length=16)(hq:q<=65536):
  MP.l16 .lim ((q:Int),key,0,0,0,OH,OH,ahs 16 OH,at_,[],[],())=some ((q:Int),(P9 key at_ ((q+15)/16)).1,()):=by
 have step: ∀(k:Nat) (dn mu:Int) (sb bk:List Int) (yb rn:List (List Int)),k<(q+15)/16->MP.Zm .lim ((P9 key at_ k).2,(q:Int),key,dn,mu,0,sb,bk,yb,(P9 key at_ k).2,(P9 key at_ k).1,rn,())=some ((q:Int),encS key (P9 key at_ k).2,key,1,0,0,Rt 256,VX 256,Ov 256,(P9 key at_ k).2,(P9 key at_ k).1,PL (QF key),())->
   MP.l16 .lim ((q:Int),key,dn,mu,0,sb,bk,yb,(P9 key at_ k).2,(P9 key at_ k).1,rn,())=MP.l16 .lim ((q:Int),key,1,0,0,Rt 256,VX 256,Ov 256,(P9 key at_ (k+1)).2,(P9 key at_ (k+1)).1,PL (QF key),()):=by
  intro k dn mu sb bk yb rn hk e;obtain⟨h1,h2⟩:=RH key at_ k;have hi:=adL (n:=(q:Int)) (dn:=1) (mu:=0) (sm:=0) (key:=key) (sb:=Rt 256) (bk:=VX 256) (yb:=Ov 256) (rn:=PL (QF key)) (out:=(P9 key at_ k).1++encS key (P9 key at_ k).2) 16 (by omega) (P9 key at_ k).2 (by omega);rw[show ((16:Nat):Int)-1=15 from rfl]at hi;rw[MP.q16];simp only[MP.b16,MS (show (P9 key at_ k).1.length<9223372036854775808 by omega),MO (show (((P9 key at_ k).1.length:Nat):Int)<(q:Int) by omega),cond_true,e,ahk,acE (Sj key (P9 key at_ k).2).1,(Sj key (P9 key at_ k).2).1,hi];rw[cond_pos (MO (by omega))];rfl
 have fin: ∀dn mu sb bk yb rn,MP.l16 .lim ((q:Int),key,dn,mu,0,sb,bk,yb,(P9 key at_ ((q+15)/16)).2,(P9 key at_ ((q+15)/16)).1,rn,())=some ((q:Int),(P9 key at_ ((q+15)/16)).1,()):=by
  intro dn mu sb bk yb rn;obtain⟨h1,h2⟩:=RH key at_ ((q+15)/16);rw[MP.q16];simp only[MP.b16,MS (show (P9 key at_ ((q+15)/16)).1.length<9223372036854775808 by omega),MR (show ¬(((P9 key at_ ((q+15)/16)).1.length:Nat):Int)<(q:Int) by omega),cond_true,cond_false]
 by_cases h0:q=0
 ·subst h0;exact fin 0 0 OH OH (ahs 16 OH) []
 ·obtain⟨p,hp⟩: ∃p,(q+15)/16=p+1:=⟨(q+15)/16-1,by omega⟩;have e0:=step 0 0 0 OH OH (ahs 16 OH) [] (by omega) (acS (n:=(q:Int)) (sm:=0) (ta:=at_) (out:=[]) hk hkb ha);have e1:=Om (f:=MP.l16 .lim) (fun k=>((q:Int),key,1,0,0,Rt 256,VX 256,Ov 256,(P9 key at_ (k+1)).2,(P9 key at_ (k+1)).1,PL (QF key),())) (n:=p) (fun k hkp=>step (k+1) 1 0 (Rt 256) (VX 256) (Ov 256) (PL (QF key)) (by omega) (acR (n:=(q:Int)) (sm:=0) (ta:=(P9 key at_ (k+1)).2) (out:=(P9 key at_ (k+1)).1) hk hkb (by rw[(RH _ _ _).2];exact ha)));refine e0.trans (e1.trans ?_);rw[<-hp];exact fin _ _ _ _ _ _
theorem ZQ{key at_:List Int}{n:Int}(hk:key.length<Nr)(ha:at_.length<Nr)(hkb:Bs key):MP.run .lim (key,at_,n,())=some (abm key at_ n,abl key at_ n,()):=by
 unfold abm abl;simp only[MP.run,MS hk,MS ha,cond_true,ahw,OC];by_cases h0:n<0\/n>65536
 ·rw[MO h0,if_pos h0,if_neg (by decide)];rfl
 ·rw[MR h0,if_neg h0];simp only[cond_false];by_cases h1:key.length=16\/key.length=32
  ·have:(!decide ((key.length:Int)=16)&& !decide ((key.length:Int)=32))=false:=by
    rcases h1 with h|h
    ·rw[MO (show (key.length:Int)=16 by omega)];rfl
    ·rw[MO (show (key.length:Int)=32 by omega),ahn,ahR]
   rw[this,if_pos h1];simp only[cond_false];by_cases h2:at_.length=16
   ·rw[MO (show (at_.length:Int)=16 by omega),if_pos h2,if_pos rfl];simp only[ahn,cond_false,h2];have hn:n=((n.toNat:Nat):Int):=by omega
    have hl:=ad5 (q:=n.toNat) h1 hkb h2 (by omega);rw[<-hn]at hl;rw[show (aiS 1 16&&aiS 16 16)=true from rfl,cond_true,ahr (by omega),hl];simp only[ahk];have:=(RH key at_ ((n.toNat+15)/16)).1;rw[cond_pos (Na (by omega) (by omega) (by omega)),ahG,Int.sub_zero];rfl
   ·rw[MR (show ¬(at_.length:Int)=16 by omega),if_neg h2,if_neg (by decide)];rfl
  ·rw[MR (show ¬(key.length:Int)=16 by omega),MR (show ¬(key.length:Int)=32 by omega),if_neg h1,if_neg (by decide)];rfl
theorem aaj{key at_:List Int}{n:Int}(hk:key.length<Nr)(ha:at_.length<Nr)(hkb:Bs key):ND.run .lim (key,at_,n,())=some (abm key at_ n,abl key at_ n,()):=by
 unfold abm abl;simp only[ND.run,OC,XU hk ha,ahk];by_cases h0:n<0\/n>65536
 ·rw[MO h0,if_pos h0,if_neg (show ¬(13:Int)=0 by decide)];rfl
 ·rw[MR h0,if_neg h0];simp only[cond_false];by_cases h1:key.length=16\/key.length=32
  ·rw[if_pos h1];by_cases h2:at_.length=16
   ·rw[if_pos h2,Yt h1 hkb];simp only[ahk,decide_true,ahn,cond_false];have hn:n=((n.toNat:Nat):Int):=by omega
    generalize hq:n.toNat=q at hn;subst hn;have e:=Om (f:=ND.l1 .lim) (fun k=>((q:Int),(P9 key at_ k).1,(QF key).flatten,(P9 key at_ k).2,())) (n:=(q+15)/16) (fun k hk=>by
     obtain⟨g1,g2⟩:=RH key at_ k;have hi:=adK (n:=(q:Int)) (w:=(QF key).flatten) (out:=(P9 key at_ k).1++encS key (P9 key at_ k).2) 16 (by omega) (P9 key at_ k).2 (by omega);rw[show ((16:Nat):Int)-1=15 from rfl]at hi;rw[ND.q1];simp only[ND.b1,MS (show (P9 key at_ k).1.length<9223372036854775808 by omega),MO (show (((P9 key at_ k).1.length:Nat):Int)<(q:Int) by omega),cond_true,aaz h1 hkb (show (P9 key at_ k).2.length=16 by omega),ahk,(Sj key (P9 key at_ k).2).1,hi];rw[cond_pos (MO (by unfold maxStr;omega))];rfl)
    rw[show (P9 key at_ 0).1=[]from rfl,show (P9 key at_ 0).2=at_ from rfl]at e;obtain⟨g1,g2⟩:=RH key at_ ((q+15)/16);rw[e,ND.q1];simp only[ND.b1,MS (show (P9 key at_ ((q+15)/16)).1.length<9223372036854775808 by omega),MR (show ¬(((P9 key at_ ((q+15)/16)).1.length:Nat):Int)<(q:Int) by omega),cond_true,cond_false,ahk];rw[cond_pos (Na (by omega) (by omega) (by omega)),if_pos trivial];congr 2
   ·rw[if_neg h2,if_neg (show ¬(10:Int)=0 by decide)];rfl
  ·rw[if_neg h1,if_neg (show ¬(13:Int)=0 by decide)];rfl
end Go.AM
end
section
namespace Go.AM
theorem Oe{n:Nat}(h:n<9223372036854775808):n<Nr:=h
def Qy(a b:List Int):List Int:=tab a.length fun i=>Hy .u8 (rd 0 a (i:Int)) (rd 0 b (i:Int))
@[simp] theorem Pn(a b:List Int):(Qy a b).length=a.length:=P7
theorem acH(a b:List Int):Bs (Qy a b):=Yy fun _ _=>WE _ _
theorem Xe{a b:List Int}{k:Nat}(h:k<a.length):rd 0 (Qy a b) (k:Int)=Hy .u8 (rd 0 a (k:Int)) (rd 0 b (k:Int)):=Rl h
theorem abq{a b:List Int}(h:a.length=b.length):Qy a b=Qy b a:=by unfold Qy;rw[h];exact Qa fun k _=>xor_comm _ _
theorem X6{a b c:List Int}(h:a.length=b.length):Qy (Qy a b) c=Qy a (Qy b c):=by
 show tab (Qy a b).length _=tab a.length _;rw[Pn];refine Qa fun k hk=> ?_
 rw[Xe hk,Xe (show k<b.length by omega),xor_assoc]
theorem SC{a b:List Int}(h:a.length<=b.length)(hb:b.length<1000000000000):PG.run .lim (a,b,())=some (Qy a b):=by
 have e:=PZ (f:=PG.l0 .lim) (fun k m=>(b,(a.length:Int),(k:Int),m,())) (fun k v=>Hy .u8 v (rd 0 b (k:Int))) a rfl (fun k hk m' hm hj=>by
  rw[PG.q0];simp only[PG.b0,MO (show (k:Int)<(a.length:Int) by omega),hm,MX (show (0:Int)<=k by omega) (show (k:Int)<(a.length:Int) by omega),MX (show (0:Int)<=k by omega) (show (k:Int)<(b.length:Int) by omega),cond_true,QO k (by omega),hj k (ahZ _),aht])
 simp only[PG.run,MS (show a.length<9223372036854775808 by omega),cond_true];rw[show (0:Int)=((0:Nat):Int)from rfl,e,PG.q0];simp only[PG.b0,MR (show ¬(a.length:Int)<(a.length:Int) by omega),cond_false,ahk];rfl
theorem Rn{a b:List Int}(h:a.length<=b.length)(hb:b.length<1000000000000):NC.run .lim (a,b,())=some (Qy a b):=by
 have e:=Om (f:=NC.l0 .lim) (fun k=>(a,b,(k:Int),Ro a.length k (fun i=>Hy .u8 (rd 0 a (i:Int)) (rd 0 b (i:Int))),())) (n:=a.length) (fun k hk=>by
  rw[NC.q0];simp only[NC.b0,MS (show a.length<9223372036854775808 by omega),UL,MO (show (k:Int)<(a.length:Int) by omega),MX (show (0:Int)<=k by omega) (show (k:Int)<(a.length:Int) by omega),MX (show (0:Int)<=k by omega) (show (k:Int)<(b.length:Int) by omega),cond_true,QO k (by omega),aht];rw[RU rfl])
 have hb2:Nat.blt a.length 70368744177664=true:=by rw[Nat.blt_eq];omega
 rw[Ry,show ((0:Nat):Int)=0 from rfl]at e;simp only[NC.run,MS (show a.length<9223372036854775808 by omega),cond_true,MO (show (0:Int)<=(a.length:Int) by omega),MO (ahx (a.length:Int)),aht,hb2,ah5,e];rw[NC.q0];simp only[NC.b0,MS (show a.length<9223372036854775808 by omega),MR (show ¬(a.length:Int)<(a.length:Int) by omega),cond_true,cond_false,ahk,Ud];rfl
theorem adQ: ∀n:Nat,EM [0] n=ahs n 0
 |0=>rfl
 |n+1=>by rw[EM,adQ n];rfl
theorem TG{n:Nat}(h:n<=1000000):PX.run .lim ((n:Int),())=some (ahs n 0):=by
 have:strings_Repeat.run .lim ([0],(n:Int),())=some (ahs n 0):=by
  show KY _=_;unfold KY;rw[cond_pos (by simp;omega),aht,adQ]
 simp only[PX.run,this,ahk]
theorem U3{n:Nat}(h:n<=1000000):Oo.run .lim ((n:Int),())=some (ahs n 0):=by
 have hb2:Nat.blt n 70368744177664=true:=by rw[Nat.blt_eq];omega
 simp only[Oo.run,MO (show (0:Int)<=(n:Int) by omega),MO (ahx (n:Int)),aht,hb2,ah5,cond_true]
def Y5(b:List Int)(i:Nat):Int:=if i=15 then I9 .u8 (rd 0 b 15) 1 else KO .u8 (I9 .u8 (rd 0 b (i:Int)) 1) (I_ .u8 (rd 0 b ((i+1:Nat):Int)) 7)
def VO(b:List Int):List Int:=if rd 0 b 0>=128 then(tab 16 (Y5 b)).set 15 (Hy .u8 (I9 .u8 (rd 0 b 15) 1) 135)else tab 16 (Y5 b)
theorem adX(b:List Int)(i:Nat):B8 (Y5 b i):=by unfold Y5;split<;>first|exact aaJ _ _|exact agx _ _
theorem QX(b:List Int):Wh (VO b):=by
 unfold VO;split
 ·refine⟨by simp,fun x hx=> ?_⟩;rcases List.mem_or_eq_of_mem_set hx with h|rfl
  ·exact Yy (fun k _=>adX b k) x h
  ·exact WE _ _
 ·exact⟨P7,Yy fun k _=>adX b k⟩
theorem or_zero{a:Int}(h:B8 a):KO .u8 a 0=a:=by
 show ahm.wrap (ahB 8 a ||| ahB 8 0).toNat=a;rw[show ahB 8 0=0#8 from rfl,BitVec.or_zero,ahX,Qx];unfold B8 at h;omega
def twP(b:List Int)(k:Nat):List Int:=tab 16 fun i=>if k<=i then Y5 b i else rd 0 b (i:Int)
theorem adH{b:List Int}{k:Nat}(hk:k<16):(twP b (k+1)).set k (Y5 b k)=twP b k:=by
 unfold twP;rw[Xf];refine Qa fun i _=> ?_
 by_cases h1:i=k
 ·subst h1;rw[if_pos rfl,if_pos (ahZ _)]
 ·rw[if_neg h1];by_cases h2:k<=i
  ·rw[if_pos h2,if_pos (by omega)]
  ·rw[if_neg h2,if_neg (by omega)]
theorem aeR{b:List Int}{k:Nat}(hk:k<16):rd 0 (twP b (k+1)) (k:Int)=rd 0 b (k:Int):=by unfold twP;rw[Rl hk,if_neg (by omega)]
theorem aef{x:Int}(h:B8 x):ahm.wrap (I_ .u8 x 7*135)=if x>=128 then 135 else 0:=
 Qb (p:=fun x=>ahm.wrap (I_ .u8 x 7*135)=if x>=128 then 135 else 0) (by decide+kernel) h
theorem abn{b:List Int}(hb:Wh b):Qw.run .lim (b,())=some (VO b,0,()):=by
 obtain⟨hl,hB⟩:=hb;have h0: ∀(b:List Int),tab 16 (fun i=>if 16<=i then Y5 b i else rd 0 b (i:Int))=tab 16 fun i=>rd 0 b (i:Int):=fun b=>Qa fun i hi=>by rw[if_neg (by omega)]
 have e:=Om (f:=Qw.l0 .lim) (fun k=>((15:Int)-(k:Int),(if k=0 then 0 else I_ .u8 (rd 0 b ((16-k:Nat):Int)) 7:Int),twP b (16-k),())) (n:=16) (fun k hk=>by
  rw[Qw.q0];have ei:(15:Int)-(k:Int)=((15-k:Nat):Int):=by omega
  have w1:ahl.wrap (((15-k:Nat):Int)-1)=(15:Int)-((k+1:Nat):Int):=by rw[wrap64 (by omega) (by omega)];omega
  have hr:=aeR (b:=b) (k:=15-k) (by omega);have hs:=adH (b:=b) (k:=15-k) (by omega);rw[show 15-k+1=16-k by omega]at hr hs;have hx:B8 (rd 0 b ((15-k:Nat):Int)):=hB _ (Oj (by omega) (by omega));have hg:KO .u8 (I9 .u8 (rd 0 b ((15-k:Nat):Int)) 1) (if k=0 then 0 else I_ .u8 (rd 0 b ((16-k:Nat):Int)) 7)=Y5 b (15-k):=by
   unfold Y5;by_cases hk0:k=0
   ·subst hk0;rw[if_pos rfl,if_pos (by omega),or_zero (aaJ _ _)];rfl
   ·rw[if_neg hk0,if_neg (by omega),show 15-k+1=16-k by omega]
  have hl2:(twP b (16-k)).length=16:=P7;rw[ei];simp only[Qw.b0,MO (show ((15-k:Nat):Int)>=0 by omega),hl2,MX (show (0:Int)<=((15-k:Nat):Int) by omega) (show ((15-k:Nat):Int)<((16:Nat):Int) by omega),cond_true,hr,w1,aht,hg,hs];rw[if_neg (by omega),show 16-(k+1)=15-k by omega])
 have hst:twP b 16=b:=by unfold twP;rw[h0,<-X3 hl]
 have w0:ahl.wrap ((b.length:Int)-1)=15:=by rw[wrap64 (by omega) (by omega)];omega
 rw[ah0,hst,if_pos rfl,show (15:Int)-((0:Nat):Int)=15 from rfl,if_neg (by omega),Nat.sub_self]at e;have e0:twP b 0=tab 16 (Y5 b):=Qa fun i _=>by rw[if_pos (aiH _)]
 simp only[Qw.run,MS (show b.length<9223372036854775808 by omega),cond_true,MO (show (b.length:Int)=16 by omega),ahn,cond_false,w0,e,e0];rw[Qw.q0];have hx0:B8 (rd 0 b ((0:Nat):Int)):=hB _ (Oj (by omega) (by omega));simp only[Qw.b0,MR (show ¬((15:Int)-((16:Nat):Int)>=0) by omega),cond_false,ahk,P7,MX (show (0:Int)<=15 by omega) (show (15:Int)<((16:Nat):Int) by omega),cond_true,aef hx0];have h15:rd 0 (tab 16 (Y5 b)) 15=I9 .u8 (rd 0 b 15) 1:=by
  have:=Rl (n:=16) (g:=Y5 b) (k:=15) (by omega);rw[show ((15:Nat):Int)=15 from rfl]at this;rw[this];rfl
 rw[h15];unfold VO;rw[show ((0:Nat):Int)=0 from rfl];by_cases hc:rd 0 b 0>=128
 ·rw[if_pos hc,if_pos hc]
 ·rw[if_neg hc,if_neg hc,xor_zero (aaJ _ _),Xf];congr 2
theorem Uk{b:List Int}(hb:Wh b):QK.run .lim (b,())=some (VO b):=by simp only[QK.run,abn hb,ahk]
theorem U0{b:List Int}(hb:Wh b):NP.run .lim (b,())=some (VO b):=by
 obtain⟨hl,hB⟩:=hb;have e:=Om (f:=NP.l0 .lim) (fun k=>(b,(k:Int),Ro 16 k (Y5 b),())) (n:=16) (fun k hk=>by
  rw[NP.q0];have hg1:k<15->KO .u8 (I9 .u8 (rd 0 b (k:Int)) 1) (I_ .u8 (rd 0 b ((k+1:Nat):Int)) 7)=Y5 b k:=fun h=>by unfold Y5;rw[if_neg (by omega)]
  simp only[NP.b0,MO (show (k:Int)<16 by omega),hl,UL,ahY,MX (show (0:Int)<=k by omega) (show (k:Int)<((16:Nat):Int) by omega),cond_true,QO k (by omega),aht];by_cases afQ:k<15
  ·rw[MO (show (k:Int)<15 by omega),MX (show (0:Int)<=((k+1:Nat):Int) by omega) (show ((k+1:Nat):Int)<((16:Nat):Int) by omega),Ui (by simpa using hk),hg1 afQ,List.set_set,RU rfl];rfl
  ·have:k=15:=by omega
   subst this;rw[MR (show ¬((15:Nat):Int)<15 by omega),RU (by unfold Y5;rw[if_pos rfl];rfl)];rfl)
 rw[Ry,show ((0:Nat):Int)=0 from rfl]at e;simp only[NP.run,show Nat.blt 16 70368744177664=true from rfl,cond_true,e];rw[NP.q0];have h15:rd 0 (tab 16 (Y5 b)) 15=I9 .u8 (rd 0 b 15) 1:=by
  have:=Rl (n:=16) (g:=Y5 b) (k:=15) (by omega);rw[show ((15:Nat):Int)=15 from rfl]at this;rw[this];rfl
 simp only[NP.b0,MR (show ¬((16:Nat):Int)<16 by omega),cond_false,ahk,hl,MX (show (0:Int)<=0 by omega) (show (0:Int)<((16:Nat):Int) by omega),cond_true,Ud,P7,MX (show (0:Int)<=15 by omega) (show (15:Int)<((16:Nat):Int) by omega),h15];unfold VO;by_cases hc:rd 0 b 0>=128
 ·rw[MO hc,if_pos hc];rfl
 ·rw[MR hc,if_neg hc];rfl
def UC(s:List Int):List Int:=s++(128::ahs (15-s.length) 0)
theorem Ri{s:List Int}(h:s.length<16):(UC s).length=16:=by simp[UC];omega
noncomputable def WT(key s:List Int):Nat->List Int
 |0=>Xi
 |k+1=>encS key (Qy (WT key s k) ((s.drop (16*k)).take 16))
theorem YD(key s:List Int): ∀k,Wh (WT key s k)
 |0=>⟨rfl,fun x hx=>by rw[(aiB.1 hx).2];exact⟨by decide,by decide⟩⟩
 |_+1=>Sj _ _
noncomputable def U7(key:List Int):List Int:=VO (encS key Xi)
noncomputable def RY(key s:List Int):List Int:=if s.length=16 then Qy s (U7 key)else Qy (UC s) (VO (U7 key))
noncomputable def ZK(key s:List Int):List Int:=encS key (Qy (WT key s ((s.length-1)/16)) (RY key (s.drop (16*((s.length-1)/16)))))
theorem Vh(key s:List Int):Wh (ZK key s):=Sj _ _
theorem UY{key b:List Int}(hk:key.length=16\/key.length=32)(hb:b.length=16):encR key b=(encS key b,0):=by unfold encR;rw[if_pos hk,if_pos hb]
theorem aa0{key s:List Int}(h:s.length<=16):(RY key s).length=16:=by
 unfold RY;split
 ·simpa
 ·rw[Pn,Ri (by omega)]
section
variable {key s:List Int}
theorem VK(hk:key.length=16\/key.length=32)(hkb:Bs key)(hs:s.length<Nr):OB.run .lim ((key,U7 key,VO (U7 key)),s,())=some (ZK key s):=by
 have z:=TG (n:=16) (by omega);have hloop:=Om (f:=OB.l0 .lim) (fun k=>(s.drop (16*k),key,U7 key,VO (U7 key),WT key s k,key,U7 key,VO (U7 key),())) (n:=(s.length-1)/16) (fun k hk'=>by
  rw[OB.q0];have hl:(s.drop (16*k)).length=s.length-16*k:=aho;have hc:=YD key s k;have h1:cut (s.drop (16*k)) 0 16=(s.drop (16*k)).take 16:=by have:=Q7 (s.drop (16*k)) 0 16;simpa using this
  have h2:cut (s.drop (16*k)) 16 ((s.drop (16*k)).length:Int)=s.drop (16*(k+1)):=by
   have:=Q7 (s.drop (16*k)) 16 (s.drop (16*k)).length;rw[show ((16:Nat):Int)=16 from rfl]at this;rw[this,ah8,ahr (by rw[aho];omega)];congr 1
  have hx:=SC (a:=WT key s k) (b:=(s.drop (16*k)).take 16) (by rw[hc.1,ahq];omega) (by rw[ahq];omega);have he:=Ut (key:=key) (b:=Qy (WT key s k) ((s.drop (16*k)).take 16)) (Oe (by omega)) (by rw[Pn,hc.1];decide) hkb;rw[UY hk (by rw[Pn,hc.1])]at he;have hlim:s.length<9223372036854775808:=hs;simp only[OB.b0,MS (show (s.drop (16*k)).length<9223372036854775808 by omega),MO (show ((s.drop (16*k)).length:Int)>16 by omega),Na (show (0:Int)<=0 by omega) (show (0:Int)<=16 by omega) (show (16:Int)<=((s.drop (16*k)).length:Int) by omega),Na (show (0:Int)<=16 by omega) (show (16:Int)<=((s.drop (16*k)).length:Int) by omega) (ahx _),cond_true,h1,h2,hx,he,ahk];rfl)
 simp only[OB.run];rw[show (16:Int)=((16:Nat):Int)from rfl,z];simp only[ahk];rw[aiR,ahG,show WT key s 0=Xi from rfl]at hloop;rw[hloop];generalize hq:(s.length-1)/16=q;have hl:(s.drop (16*q)).length=s.length-16*q:=aho;have hlim:s.length<9223372036854775808:=hs;rw[OB.q0];have hc:=YD key s q;have h16:(s.drop (16*q)).length<=16:=by omega
 simp only[OB.b0,MS (show (s.drop (16*q)).length<9223372036854775808 by omega),MR (show ¬((s.drop (16*q)).length:Int)>16 by omega),cond_true,cond_false,ahk];have he:=Ut (key:=key) (b:=Qy (WT key s q) (RY key (s.drop (16*q)))) (Oe (by omega)) (by rw[Pn,hc.1];decide) hkb;rw[UY hk (by rw[Pn,hc.1])]at he;have hll:=aa0 (key:=key) h16;have hx2:=SC (a:=WT key s q) (b:=RY key (s.drop (16*q))) (by rw[hc.1,hll];omega) (by omega);have hcm:ZK key s=encS key (Qy (WT key s q) (RY key (s.drop (16*q)))):=by unfold ZK;rw[hq]
 rw[hcm];generalize hm:s.drop (16*q)=m at*;by_cases h3:m.length=16
 ·rw[MO (show (m.length:Int)=((16:Nat):Int) by omega)];have hx1:=SC (a:=m) (b:=U7 key) (by rw[h3,show (U7 key).length=16 from(QX _).1];omega) (by rw[show (U7 key).length=16 from(QX _).1];omega);have hls:RY key m=Qy m (U7 key):=by unfold RY;rw[if_pos h3]
  rw[hls]at hx2 he ⊢
  simp only[cond_true,hx1,ahk,hx2,he]
 ·rw[MR (show ¬(m.length:Int)=((16:Nat):Int) by omega)];have hls:RY key m=Qy (UC m) (VO (U7 key)):=by unfold RY;rw[if_neg h3]
  have w15:ahl.wrap (15-(m.length:Int))=((15-m.length:Nat):Int):=by rw[wrap64 (by omega) (by omega)];omega
  have hz:=TG (n:=15-m.length) (by omega);have aeg:(m++[128])++ahs (15-m.length) (0:Int)=UC m:=by unfold UC;simp
  have hx1:=SC (a:=UC m) (b:=VO (U7 key)) (by rw[Ri (by omega),(QX _).1];omega) (by rw[(QX _).1];omega);rw[hls]at hx2 he ⊢
  simp only[cond_false];rw[cond_pos (MO (by unfold maxStr;simp;omega)),w15,hz];simp only[ahk];rw[cond_pos (MO (by unfold maxStr;simp;omega)),aeg,hx1];simp only[ahk,hx2,he]
theorem Yr{m:List Int}(h:m.length<16):O_.run .lim (m,())=some (UC m):=by
 have hz:=U3 (n:=16) (by omega);simp only[O_.run];rw[cond_pos (MO (by unfold maxStr;simp;omega)),show (16:Int)=((16:Nat):Int)from rfl,hz];simp only[ahk];rw[cond_pos (MO (by unfold maxStr;simp;omega)),cond_pos (Na (by omega) (by omega) (by simp;omega))];congr 1;have:=Q7 ((m++[128])++ahs 16 (0:Int)) 0 16;rw[show ((0:Nat):Int)=0 from rfl]at this;rw[this,ahG,ah0,ahE,List.take_append,ahr (by omega)];unfold UC;congr 1;obtain⟨p,hp⟩: ∃p,16-m.length=p+1:=⟨15-m.length,by omega⟩;rw[hp,show 15-m.length=p by omega,List.singleton_append,List.take_succ_cons,List.take_replicate];congr 2;omega
theorem UD(hk:key.length=16\/key.length=32)(hkb:Bs key)(hs:s.length<Nr):NU.run .lim (key,s,())=some (ZK key s):=by
 have z:=U3 (n:=16) (by omega);have abU:(ahs 16 (0:Int)).length=16:=rfl;have e0:=Uj (key:=key) (b:=Xi) (Oe (by omega)) (by rw[abU];decide) hkb;rw[UY hk abU]at e0;have hloop:=Om (f:=NU.l0 .lim) (fun k=>(key,s.drop (16*k),U7 key,WT key s k,())) (n:=(s.length-1)/16) (fun k hk'=>by
  rw[NU.q0];have hl:(s.drop (16*k)).length=s.length-16*k:=aho;have hc:=YD key s k;have h1:cut (s.drop (16*k)) 0 16=(s.drop (16*k)).take 16:=by have:=Q7 (s.drop (16*k)) 0 16;simpa using this
  have h2:cut (s.drop (16*k)) 16 ((s.drop (16*k)).length:Int)=s.drop (16*(k+1)):=by
   have:=Q7 (s.drop (16*k)) 16 (s.drop (16*k)).length;rw[show ((16:Nat):Int)=16 from rfl]at this;rw[this,ah8,ahr (by rw[aho];omega)];congr 1
  have hx:=Rn (a:=WT key s k) (b:=(s.drop (16*k)).take 16) (by rw[hc.1,ahq];omega) (by rw[ahq];omega);have he:=Uj (key:=key) (b:=Qy (WT key s k) ((s.drop (16*k)).take 16)) (Oe (by omega)) (by rw[Pn,hc.1];decide) hkb;rw[UY hk (by rw[Pn,hc.1])]at he;have hlim:s.length<9223372036854775808:=hs;simp only[NU.b0,MS (show (s.drop (16*k)).length<9223372036854775808 by omega),MO (show ((s.drop (16*k)).length:Int)>16 by omega),Na (show (0:Int)<=0 by omega) (show (0:Int)<=16 by omega) (show (16:Int)<=((s.drop (16*k)).length:Int) by omega),Na (show (0:Int)<=16 by omega) (show (16:Int)<=((s.drop (16*k)).length:Int) by omega) (ahx _),cond_true,h1,h2,hx,he,ahk];rfl)
 simp only[NU.run];rw[show (16:Int)=((16:Nat):Int)from rfl,z];simp only[ahk,e0,U0 (Sj _ _)];rw[aiR,ahG,show WT key s 0=Xi from rfl]at hloop;rw[show VO (encS key Xi)=U7 key from rfl,hloop];generalize hq:(s.length-1)/16=q;have hl:(s.drop (16*q)).length=s.length-16*q:=aho;have hlim:s.length<9223372036854775808:=hs;rw[NU.q0];have hc:=YD key s q;have h16:(s.drop (16*q)).length<=16:=by omega
 have he:=Uj (key:=key) (b:=Qy (WT key s q) (RY key (s.drop (16*q)))) (Oe (by omega)) (by rw[Pn,hc.1];decide) hkb;rw[UY hk (by rw[Pn,hc.1])]at he;have hcm:ZK key s=encS key (Qy (WT key s q) (RY key (s.drop (16*q)))):=by unfold ZK;rw[hq]
 rw[hcm];simp only[NU.b0,MS (show (s.drop (16*q)).length<9223372036854775808 by omega),MR (show ¬((s.drop (16*q)).length:Int)>16 by omega),cond_true,cond_false,ahk];generalize hm:s.drop (16*q)=m at*;have hk1:(U7 key).length=16:=(QX _).1;by_cases h3:m.length=16
 ·rw[MR (show ¬(m.length:Int)<((16:Nat):Int) by omega)];have hx1:=Rn (a:=WT key s q) (b:=m) (by rw[h3,hc.1];omega) (by omega);have hx2:=Rn (a:=Qy (WT key s q) m) (b:=U7 key) (by rw[Pn,hc.1,hk1];omega) (by omega);have hls:Qy (Qy (WT key s q) m) (U7 key)=Qy (WT key s q) (RY key m):=by unfold RY;rw[if_pos h3,X6 (by rw[hc.1,h3])]
  simp only[cond_false,hx1,ahk,hx2,hls,he]
 ·rw[MO (show (m.length:Int)<((16:Nat):Int) by omega)];have hp:=Ri (s:=m) (by omega);have ht:(VO (U7 key)).length=16:=(QX _).1;have hx1:=Rn (a:=WT key s q) (b:=UC m) (by rw[hp,hc.1];omega) (by omega);have hx2:=Rn (a:=Qy (WT key s q) (UC m)) (b:=VO (U7 key)) (by rw[Pn,hc.1,ht];omega) (by omega);have hls:Qy (Qy (WT key s q) (UC m)) (VO (U7 key))=Qy (WT key s q) (RY key m):=by unfold RY;rw[if_neg h3,X6 (by rw[hc.1,hp])]
  simp only[cond_true,Yr (show m.length<16 by omega),U0 (show Wh (U7 key)from QX _),hx1,ahk,hx2,hls,he]
end
end Go.AM
end
section
namespace Go.AM
noncomputable def ZM(key:List Int)(l:List (List Int)):Nat->List Int
 |0=>ZK key Xi
 |k+1=>Qy (VO (ZM key l k)) (ZK key (rd [] l (k:Int)))
noncomputable def s2E(key d s:List Int):List Int:=
 if s.length<16 then ZK key (Qy (UC s) (VO d))else ZK key (s.take (s.length-16)++Qy (s.drop (s.length-16)) d)
noncomputable def s2S(key:List Int)(l:List (List Int)):List Int:=
 if l.length=0 then ZK key (ahs 15 0++[1])else s2E key (ZM key l (l.length-1)) (rd [] l ((l.length-1:Nat):Int))
theorem YT(key:List Int)(l:List (List Int)): ∀k,Wh (ZM key l k)
 |0=>Vh _ _
 |k+1=>⟨by rw[ZM,Pn,(QX _).1],acH _ _⟩
theorem XV(key:List Int)(l:List (List Int)):Wh (s2S key l):=by
 unfold s2S s2E;split
 ·exact Vh _ _
 ·split<;>exact Vh _ _
theorem aej(key:List Int):Wh (U7 key):=QX _
theorem abg{key:List Int}(hk:key.length=16\/key.length=32)(hkb:Bs key):Uc.run .lim (key,())=some ((key,(U7 key,VO (U7 key))),0,()):=by
 have z:=TG (n:=16) (by omega);have abU:(ahs 16 (0:Int)).length=16:=rfl;have he:=Ut (key:=key) (b:=Xi) (Oe (by omega)) (by rw[abU];decide) hkb;rw[UY hk abU]at he;simp only[Uc.run];rw[show (16:Int)=((16:Nat):Int)from rfl,z];simp only[ahk,he,decide_true,ahn,cond_false,Uk (Sj key Xi)];rw[show VO (encS key Xi)=U7 key from rfl,Uk (aej key)];rfl
section
variable {key:List Int}
theorem aaK{l:List (List Int)}(hk:key.length=16\/key.length=32)(hkb:Bs key)(hl:l.length<Nr)(hs: ∀s∈l,s.length<Nr):
  OU.run .lim ((key,(U7 key,VO (U7 key))),l,())=some (s2S key l):=by
 have hlim:l.length<9223372036854775808:=hl;simp only[OU.run,MS hlim,cond_true];unfold s2S;by_cases h0:l.length=0
 ·rw[MO (show (l.length:Int)=0 by omega),if_pos h0];have z:=TG (n:=15) (by omega);simp only[cond_true];rw[show (15:Int)=((15:Nat):Int)from rfl,z];simp only[ahk];rw[cond_pos (by decide),VK hk hkb (by decide)];rfl
 ·rw[MR (show ¬(l.length:Int)=0 by omega),if_neg h0];have z:=TG (n:=16) (by omega);have w1:ahl.wrap ((l.length:Int)-1)=((l.length-1:Nat):Int):=by rw[wrap64 (by omega) (by omega)];omega
  have hc:cut l 0 ((l.length-1:Nat):Int)=l.take (l.length-1):=by
   have:=Q7 l 0 (l.length-1);rw[show ((0:Nat):Int)=0 from rfl]at this;rw[this,ahG,ah0]
  have htl:(l.take (l.length-1)).length=l.length-1:=by rw[ahq];omega
  generalize hs1:rd ([]:List Int) l ((l.length-1:Nat):Int)=s;have hsl:s.length<9223372036854775808:=by rw[<-hs1];exact hs _ (Oj (by omega) (by omega))
  have hloop:=Om (f:=OU.l0 .lim) (fun k=>(ZM key l k,s,l.take (l.length-1),((l.length-1:Nat):Int),(k:Int),key,U7 key,VO (U7 key),())) (n:=l.length-1) (fun k hk'=>by
   rw[OU.q0];have hok:=YT key l k;have ht:=VK (key:=key) (s:=rd [] l (k:Int)) hk hkb (hs _ (Oj (by omega) (by omega)));have hx:=SC (a:=VO (ZM key l k)) (b:=ZK key (rd [] l (k:Int))) (by rw[(QX _).1,(Vh _ _).1];omega) (by rw[(Vh _ _).1];omega);simp only[OU.b0,MO (show (k:Int)<((l.length-1:Nat):Int) by omega),htl,MX (show (0:Int)<=k by omega) (show (k:Int)<((l.length-1:Nat):Int) by omega),SA (d:=([]:List Int)) (xs:=l) hk',cond_true,Uk hok,ahk,ht,hx,wk k (by omega)];rfl)
  rw[show ZM key l 0=ZK key Xi from rfl,show ((0:Nat):Int)=0 from rfl]at hloop;simp only[cond_false];rw[show (16:Int)=((16:Nat):Int)from rfl,z];simp only[ahk,VK hk hkb (show (ahs 16 (0:Int)).length<Nr by decide),w1,MX (show (0:Int)<=((l.length-1:Nat):Int) by omega) (show ((l.length-1:Nat):Int)<(l.length:Int) by omega),Na (ahx 0) (show (0:Int)<=((l.length-1:Nat):Int) by omega) (show ((l.length-1:Nat):Int)<=(l.length:Int) by omega),cond_true,hc,htl,MS (show l.length-1<9223372036854775808 by omega),hs1];rw[hloop,OU.q0];simp only[OU.b0,MR (show ¬((l.length-1:Nat):Int)<((l.length-1:Nat):Int) by omega),cond_false,ahk,MS hsl,cond_true];have w2:ahl.wrap ((s.length:Int)-((16:Nat):Int))=(s.length:Int)-16:=by rw[wrap64 (by omega) (by omega)];omega
  rw[w2];have hd:=YT key l (l.length-1);unfold s2E;by_cases h3:s.length<16
  ·rw[MR (show ¬((s.length:Int)-16>=0) by omega),if_pos h3];have w15:ahl.wrap (15-(s.length:Int))=((15-s.length:Nat):Int):=by rw[wrap64 (by omega) (by omega)];omega
   have hz:=TG (n:=15-s.length) (by omega);have aeg:(s++[128])++ahs (15-s.length) (0:Int)=UC s:=by unfold UC;simp
   have hx:=SC (a:=UC s) (b:=VO (ZM key l (l.length-1))) (by rw[Ri h3,(QX _).1];omega) (by rw[(QX _).1];omega);simp only[cond_false];rw[cond_pos (MO (by unfold maxStr;simp;omega)),w15,hz];simp only[ahk];rw[cond_pos (MO (by unfold maxStr;simp;omega)),aeg];simp only[Uk hd,ahk,hx];rw[VK hk hkb (by rw[Pn,Ri h3];decide)];rfl
  ·rw[MO (show (s.length:Int)-16>=0 by omega),if_neg h3];have e16:(s.length:Int)-16=((s.length-16:Nat):Int):=by omega
   have hc1:cut s ((s.length-16:Nat):Int) (s.length:Int)=s.drop (s.length-16):=by rw[Q7,ahr (by rw[aho];omega)]
   have hc2:cut s 0 ((s.length-16:Nat):Int)=s.take (s.length-16):=by
    have:=Q7 s 0 (s.length-16);rw[show ((0:Nat):Int)=0 from rfl]at this;rw[this,ahG,ah0]
   have hx:=SC (a:=s.drop (s.length-16)) (b:=ZM key l (l.length-1)) (by rw[aho,hd.1];omega) (by rw[hd.1];omega);have aeh:(s.take (s.length-16)++Qy (s.drop (s.length-16)) (ZM key l (l.length-1))).length=s.length:=by rw[ahp,Pn,ahq,aho];omega
   simp only[e16,cond_true,Na (ahx 0) (show (0:Int)<=((s.length-16:Nat):Int) by omega) (show ((s.length-16:Nat):Int)<=(s.length:Int) by omega),Na (show (0:Int)<=((s.length-16:Nat):Int) by omega) (show ((s.length-16:Nat):Int)<=(s.length:Int) by omega) (ahx _),hc1,hc2,hx,ahk];rw[cond_pos (MO (by rw[Pn,ahq,aho];unfold maxStr;omega)),VK hk hkb (by rw[aeh];exact hsl)];rfl
theorem adx{l:List (List Int)}(hk:key.length=16\/key.length=32)(hkb:Bs key)(hl:l.length<=127)(hs: ∀s∈l,s.length<Nr):
  Oy.run .lim (key,l,())=some (s2S key l,0,()):=by
 have hsz:P6.run .lim (key,())=some true:=by
  have Xw:key.length<9223372036854775808:=by omega
  simp only[P6.run,MS Xw,cond_true,ahw];rcases hk with h|h
  ·rw[MO (show (key.length:Int)=16 by omega)];rfl
  ·rw[MO (show (key.length:Int)=32 by omega),ahw]
 simp only[Oy.run,hsz,ahk,ahn,cond_false,MS (show l.length<9223372036854775808 by omega),cond_true,MR (show ¬(l.length:Int)>127 by omega)];unfold s2S;by_cases h0:l.length=0
 ·rw[MO (show (l.length:Int)=0 by omega),if_pos h0];have z:=U3 (n:=15) (by omega);simp only[cond_true];rw[show (15:Int)=((15:Nat):Int)from rfl,z];simp only[ahk];rw[cond_pos (by decide),UD hk hkb (by decide)];rfl
 ·rw[MR (show ¬(l.length:Int)=0 by omega),if_neg h0];have z:=U3 (n:=16) (by omega);have w1:ahl.wrap ((l.length:Int)-1)=((l.length-1:Nat):Int):=by rw[wrap64 (by omega) (by omega)];omega
  have hloop:=Om (f:=Oy.l0 .lim) (fun k=>(key,l,ZM key l k,(k:Int),())) (n:=l.length-1) (fun k hk'=>by
   rw[Oy.q0];have hok:=YT key l k;have ht:=UD (key:=key) (s:=rd [] l (k:Int)) hk hkb (hs _ (Oj (by omega) (by omega)));have hx:=Rn (a:=VO (ZM key l k)) (b:=ZK key (rd [] l (k:Int))) (by rw[(QX _).1,(Vh _ _).1];omega) (by rw[(Vh _ _).1];omega);simp only[Oy.b0,MS (show l.length<9223372036854775808 by omega),w1,MO (show (k:Int)<((l.length-1:Nat):Int) by omega),MX (show (0:Int)<=k by omega) (show (k:Int)<(l.length:Int) by omega),cond_true,U0 hok,ahk,ht,hx,wk k (by omega)];rfl)
  rw[show ZM key l 0=ZK key Xi from rfl,show ((0:Nat):Int)=0 from rfl]at hloop;simp only[cond_false];rw[show (16:Int)=((16:Nat):Int)from rfl,z];simp only[ahk,UD hk hkb (show (ahs 16 (0:Int)).length<Nr by decide)];rw[hloop,Oy.q0];generalize hs1:rd ([]:List Int) l ((l.length-1:Nat):Int)=s;have hsl:s.length<9223372036854775808:=by rw[<-hs1];exact hs _ (Oj (by omega) (by omega))
  simp only[Oy.b0,MS (show l.length<9223372036854775808 by omega),w1,MR (show ¬((l.length-1:Nat):Int)<((l.length-1:Nat):Int) by omega),cond_false,ahk,cond_true,MX (show (0:Int)<=((l.length-1:Nat):Int) by omega) (show ((l.length-1:Nat):Int)<(l.length:Int) by omega),hs1,MS hsl];have w2:ahl.wrap ((s.length:Int)-((16:Nat):Int))=(s.length:Int)-16:=by rw[wrap64 (by omega) (by omega)];omega
  rw[w2];have hd:=YT key l (l.length-1);unfold s2E;by_cases h3:s.length<16
  ·rw[MO (show (s.length:Int)<((16:Nat):Int) by omega),if_pos h3];have hx:=Rn (a:=VO (ZM key l (l.length-1))) (b:=UC s) (by rw[Ri h3,(QX _).1];omega) (by rw[Ri h3];omega);rw[abq (by rw[Ri h3,(QX _).1])]at hx;simp only[cond_true,U0 hd,Yr h3,ahk,hx];rw[UD hk hkb (by rw[Pn,Ri h3];decide)];rfl
  ·rw[MR (show ¬(s.length:Int)<((16:Nat):Int) by omega),if_neg h3];have e16:(s.length:Int)-16=((s.length-16:Nat):Int):=by omega
   have hc1:cut s ((s.length-16:Nat):Int) (s.length:Int)=s.drop (s.length-16):=by rw[Q7,ahr (by rw[aho];omega)]
   have hc2:cut s 0 ((s.length-16:Nat):Int)=s.take (s.length-16):=by
    have:=Q7 s 0 (s.length-16);rw[show ((0:Nat):Int)=0 from rfl]at this;rw[this,ahG,ah0]
   have hx:=Rn (a:=s.drop (s.length-16)) (b:=ZM key l (l.length-1)) (by rw[aho,hd.1];omega) (by rw[hd.1];omega);have aeh:(s.take (s.length-16)++Qy (s.drop (s.length-16)) (ZM key l (l.length-1))).length=s.length:=by rw[ahp,Pn,ahq,aho];omega
   simp only[e16,cond_false,Na (ahx 0) (show (0:Int)<=((s.length-16:Nat):Int) by omega) (show ((s.length-16:Nat):Int)<=(s.length:Int) by omega),Na (show (0:Int)<=((s.length-16:Nat):Int) by omega) (show ((s.length-16:Nat):Int)<=(s.length:Int) by omega) (ahx _),cond_true,hc1,hc2,hx,ahk];rw[cond_pos (MO (by rw[Pn,ahq,aho];unfold maxStr;omega)),UD hk hkb (by rw[aeh];exact hsl)];rfl
def Vz(v:List Int):List Int:=(v.set 8 (I8 .u8 (rd 0 v 8) 127)).set 12 (I8 .u8 (rd 0 (v.set 8 (I8 .u8 (rd 0 v 8) 127)) 12) 127)
theorem UZ(v:List Int):(Vz v).length=v.length:=by simp[Vz]
noncomputable def WA(key v s:List Int):List Int:=Qy s (aam key (Vz v) s.length)
theorem SS(key v s:List Int):(WA key v s).length=s.length:=Pn _ _
theorem aaM(key v s:List Int):Bs (WA key v s):=acH _ _
theorem aaL{key v:List Int}{n:Nat}(hk:key.length=16\/key.length=32)(hv:v.length=16)(hn:n<=65536):abm key v (n:Int)=aam key v n:=by
 unfold abm abl;rw[if_neg (show ¬((n:Int)<0\/(n:Int)>65536) by omega),if_pos hk,if_pos hv,if_pos rfl,aht]
theorem X0{v s:List Int}(hk:key.length=16\/key.length=32)(hkb:Bs key)(hv:v.length=16)(hs:s.length<=65536):QW.run .lim (key,v,s,())=some (WA key v s):=by
 have ha:=ZQ (key:=key) (at_:=Vz v) (n:=(s.length:Int)) (Oe (by omega)) (by rw[UZ,hv];decide) hkb;rw[aaL hk (by rw[UZ,hv]) hs]at ha;have hx:=SC (a:=s) (b:=aam key (Vz v) s.length) (by rw[VL];omega) (by rw[VL];omega);unfold Vz at ha hx;simp only[QW.run,ahY,hv,MX (show (0:Int)<=8 by omega) (show (8:Int)<((16:Nat):Int) by omega),MX (show (0:Int)<=12 by omega) (show (12:Int)<((16:Nat):Int) by omega),MS (show s.length<9223372036854775808 by omega),cond_true,ha,ahk,hx];rfl
theorem VH{v s:List Int}(hk:key.length=16\/key.length=32)(hkb:Bs key)(hv:v.length=16)(hs:s.length<=65536):OJ.run .lim (key,v,s,())=some (WA key v s):=by
 have ha:=aaj (key:=key) (at_:=Vz v) (n:=(s.length:Int)) (Oe (by omega)) (by rw[UZ,hv];decide) hkb;rw[aaL hk (by rw[UZ,hv]) hs]at ha;have hx:=Rn (a:=s) (b:=aam key (Vz v) s.length) (by rw[VL];omega) (by rw[VL];omega);unfold Vz at ha hx;simp only[OJ.run,ahY,hv,MX (show (0:Int)<=8 by omega) (show (8:Int)<((16:Nat):Int) by omega),MX (show (0:Int)<=12 by omega) (show (12:Int)<((16:Nat):Int) by omega),MS (show s.length<9223372036854775808 by omega),cond_true,ha,ahk,hx];rfl
abbrev Rf(key:List Int):List Int:=key.take (key.length/2)
abbrev Ux(key:List Int):List Int:=key.drop (key.length/2)
def TI(key:List Int)(ad:List (List Int)):Int:=if key.length=32\/key.length=64 then(if ad.length>=127 then 18 else 0)else 13
noncomputable def Yv(key:List Int)(ad:List (List Int))(plain:List Int):List Int:=
 s2S (Rf key) (ad++[plain])++WA (Ux key) (s2S (Rf key) (ad++[plain])) plain
noncomputable def Uo(key:List Int)(ad:List (List Int))(plain:List Int):List Int×Int:=
 if TI key ad=0 then(if plain.length>65536 then([],12)else(Yv key ad plain,0))else([],TI key ad)
noncomputable def Rq(key sealed:List Int):List Int:=WA (Ux key) (sealed.take 16) (sealed.drop 16)
noncomputable def Ws(key:List Int)(ad:List (List Int))(sealed:List Int):List Int×Int:=
 if TI key ad=0 then(if sealed.length<16 then([],11)else if sealed.length>65552 then([],12)else
  if s2S (Rf key) (ad++[Rq key sealed])=sealed.take 16 then(Rq key sealed,0)else([],17))else([],TI key ad)
theorem UU{s:List Int}(h:Bs s)(n:Nat):Bs (s.take n):=fun x hx=>h x (ahT hx)
theorem WS{s:List Int}(h:Bs s)(n:Nat):Bs (s.drop n):=fun x hx=>h x (ah3 hx)
theorem Tn{key:List Int}(h:key.length=32\/key.length=64):((Rf key).length=16\/(Rf key).length=32)/\((Ux key).length=16\/(Ux key).length=32):=by
 unfold Rf Ux;rw[ahq,aho];omega
theorem XZ{ad:List (List Int)}(hk:key.length<Nr)(hkb:Bs key)(ha:ad.length<Nr):
  ∃r r1,QV.run .lim (key,ad,())=some (r,r1,TI key ad,())/\(TI key ad=0->r=(Rf key,(U7 (Rf key),VO (U7 (Rf key))))/\r1=Ux key):=by
 have Xw:key.length<9223372036854775808:=hk;have abQ:ad.length<9223372036854775808:=ha;have hd:(key.length:Int).tdiv 2=((key.length/2:Nat):Int):=by rw[ahF (aif _)];simp
 have w1:ahl.wrap ((key.length:Int).tdiv 2)=((key.length/2:Nat):Int):=by rw[hd,wrap64 (by omega) (by omega)]
 unfold TI;simp only[QV.run,MS Xw,MS abQ,cond_true,ahw,w1];by_cases h1:key.length=32\/key.length=64
 ·have:(!decide ((key.length:Int)=32)&& !decide ((key.length:Int)=64))=false:=by
   rcases h1 with h|h
   ·rw[MO (show (key.length:Int)=32 by omega)];rfl
   ·rw[MO (show (key.length:Int)=64 by omega),ahn,ahR]
  rw[this,if_pos h1];simp only[cond_false];by_cases h2:ad.length>=127
  ·rw[MO (show (ad.length:Int)>=127 by omega),if_pos h2];exact⟨_,_,rfl,fun h=>absurd h (by decide)⟩
  ·rw[MR (show ¬(ad.length:Int)>=127 by omega),if_neg h2];have hc1:cut key 0 ((key.length/2:Nat):Int)=Rf key:=by
    have:=Q7 key 0 (key.length/2);rw[show ((0:Nat):Int)=0 from rfl]at this;rw[this,ahG,ah0]
   have hc2:cut key ((key.length/2:Nat):Int) (key.length:Int)=Ux key:=by rw[Q7,ahr (by rw[aho];omega)]
   simp only[cond_false,Na (ahx 0) (show (0:Int)<=((key.length/2:Nat):Int) by omega) (show ((key.length/2:Nat):Int)<=(key.length:Int) by omega),Na (show (0:Int)<=((key.length/2:Nat):Int) by omega) (show ((key.length/2:Nat):Int)<=(key.length:Int) by omega) (ahx _),cond_true,hc1,hc2,abg (Tn h1).1 (UU hkb _),ahk];exact⟨_,_,rfl,fun _=>⟨rfl,rfl⟩⟩
 ·rw[MR (show ¬(key.length:Int)=32 by omega),MR (show ¬(key.length:Int)=64 by omega),if_neg h1];exact⟨_,_,rfl,fun h=>absurd h (by decide)⟩
theorem Wy{ad:List (List Int)}(hk:key.length<Nr)(ha:ad.length<Nr):OZ.run .lim (key,ad,())=some (TI key ad):=by
 have Xw:key.length<9223372036854775808:=hk;have abQ:ad.length<9223372036854775808:=ha;unfold TI;simp only[OZ.run,MS Xw,MS abQ,cond_true,ahw];by_cases h1:key.length=32\/key.length=64
 ·have:(!decide ((key.length:Int)=32)&& !decide ((key.length:Int)=64))=false:=by
   rcases h1 with h|h
   ·rw[MO (show (key.length:Int)=32 by omega)];rfl
   ·rw[MO (show (key.length:Int)=64 by omega),ahn,ahR]
  rw[this,if_pos h1];by_cases h2:ad.length>=127
  ·rw[MO (show (ad.length:Int)>=127 by omega),if_pos h2];rfl
  ·rw[MR (show ¬(ad.length:Int)>=127 by omega),if_neg h2];rfl
 ·rw[MR (show ¬(key.length:Int)=32 by omega),MR (show ¬(key.length:Int)=64 by omega),if_neg h1];rfl
theorem SQ{ad:List (List Int)}(h:TI key ad=0):(key.length=32\/key.length=64)/\ad.length<127:=by
 unfold TI at h;split at h
 ·split at h
  ·exact absurd h (by decide)
  ·exact⟨by assumption,by omega⟩
 ·exact absurd h (by decide)
theorem Xo{ad:List (List Int)}(h:ad.length<4398046511104):NG.run .lim (ad,())=some ad:=by
 simp only[NG.run];rw[cond_pos (MO (by simpa using h)),aic]
theorem acD{ad:List (List Int)}{plain:List Int}(hk:key.length<Nr)(hkb:Bs key)(ha:ad.length<Nr)(had: ∀s∈ad,s.length<Nr)(hp:plain.length<Nr):
  UJ.run .lim (key,ad,plain,())=some ((Uo key ad plain).1,(Uo key ad plain).2,()):=by
 obtain⟨r,r1,e,hz⟩:=XZ hk hkb ha;have hp63:plain.length<9223372036854775808:=hp;unfold Uo;simp only[UJ.run,e,ahk,MS hp63,cond_true];by_cases h0:TI key ad=0
 ·obtain⟨rfl,rfl⟩:=hz h0;obtain⟨h1,h2⟩:=SQ h0;obtain⟨g1,g2⟩:=Tn h1;rw[MO h0,if_pos h0];simp only[ahn,cond_false];by_cases h3:plain.length>65536
  ·rw[MO (show (plain.length:Int)>65536 by omega),if_pos h3];rfl
  ·rw[MR (show ¬(plain.length:Int)>65536 by omega),if_neg h3];have hall: ∀s∈ad++[plain],s.length<Nr:=fun s hs=>by
    rcases ahC.1 hs with hs|hs
    ·exact had s hs
    ·rw[ahQ.1 hs];exact hp
   have hv:=(XV (Rf key) (ad++[plain])).1;simp only[cond_false,Xo (show ad.length<4398046511104 by omega),ahk];rw[cond_pos (MO (by simp;omega)),aaK g1 (UU hkb _) (Oe (by simp;omega)) hall];simp only[ahk,X0 g2 (WS hkb _) hv (show plain.length<=65536 by omega)];rw[cond_pos (MO (by rw[hv,SS];unfold maxStr;omega))];rfl
 ·rw[MR h0,if_neg h0];rfl
theorem aaD{ad:List (List Int)}{plain:List Int}(hk:key.length=16\/key.length=32)(hkb:Bs key)(ha:ad.length<127)(hs: ∀s∈ad++[plain],s.length<Nr):PE.run .lim (key,ad,plain,())=some (s2S key (ad++[plain])):=by
 simp only[PE.run];rw[cond_pos (MO (by omega)),cond_pos (MO (by simp;omega)),adx hk hkb (by simp;omega) hs];rfl
theorem acu{ad:List (List Int)}{plain:List Int}(hk:key.length<Nr)(hkb:Bs key)(ha:ad.length<Nr)(had: ∀s∈ad,s.length<Nr)(hp:plain.length<Nr):
  Qg.run .lim (key,ad,plain,())=some ((Uo key ad plain).1,(Uo key ad plain).2,()):=by
 have hp63:plain.length<9223372036854775808:=hp;have Xw:key.length<9223372036854775808:=hk;have hd:(key.length:Int).tdiv 2=((key.length/2:Nat):Int):=by rw[ahF (aif _)];simp
 have w1:ahl.wrap ((key.length:Int).tdiv 2)=((key.length/2:Nat):Int):=by rw[hd,wrap64 (by omega) (by omega)]
 unfold Uo;simp only[Qg.run,Wy hk ha,ahk,MS hp63,MS Xw,cond_true,w1];by_cases h0:TI key ad=0
 ·obtain⟨h1,h2⟩:=SQ h0;obtain⟨g1,g2⟩:=Tn h1;rw[MO h0,if_pos h0];simp only[ahn,cond_false];by_cases h3:plain.length>65536
  ·rw[MO (show (plain.length:Int)>65536 by omega),if_pos h3];rfl
  ·rw[MR (show ¬(plain.length:Int)>65536 by omega),if_neg h3];have hall: ∀s∈ad++[plain],s.length<Nr:=fun s hs=>by
    rcases ahC.1 hs with hs|hs
    ·exact had s hs
    ·rw[ahQ.1 hs];exact hp
   have hc1:cut key 0 ((key.length/2:Nat):Int)=Rf key:=by
    have:=Q7 key 0 (key.length/2);rw[show ((0:Nat):Int)=0 from rfl]at this;rw[this,ahG,ah0]
   have hc2:cut key ((key.length/2:Nat):Int) (key.length:Int)=Ux key:=by rw[Q7,ahr (by rw[aho];omega)]
   have hv:=(XV (Rf key) (ad++[plain])).1;simp only[cond_false,Na (ahx 0) (show (0:Int)<=((key.length/2:Nat):Int) by omega) (show ((key.length/2:Nat):Int)<=(key.length:Int) by omega),Na (show (0:Int)<=((key.length/2:Nat):Int) by omega) (show ((key.length/2:Nat):Int)<=(key.length:Int) by omega) (ahx _),cond_true,hc1,hc2,aaD g1 (UU hkb _) h2 hall,ahk,VH g2 (WS hkb _) hv (show plain.length<=65536 by omega)];rw[cond_pos (MO (by rw[hv,SS];unfold maxStr;omega))];rfl
 ·rw[MR h0,if_neg h0];rfl
theorem abr{a b:List Int}(h:a.length=b.length)(ha:Bs a)(hb:Bs b):Qy a b=ahs a.length 0 ↔ b=a:=by
 constructor
 ·intro e;refine(XJ (d:=0) h.symm fun k hk=> ?_);have h1:rd 0 (Qy a b) (k:Int)=0:=by rw[e,Rj (by simp;omega)];simp
  rw[Xe (by omega)]at h1;have:=xor_assoc (rd 0 a (k:Int)) (rd 0 b (k:Int)) (rd 0 b (k:Int));rw[h1,xor_self,zero_xor (hb _ (Oj (by omega) (by omega))),xor_zero (ha _ (Oj (by omega) (by omega)))]at this;exact this
 ·rintro rfl
  refine XJ (d:=0) (by simp) fun k hk=> ?_
  rw[Pn]at hk;rw[Xe hk,xor_self,Rj (by simpa using hk)];simp
theorem acB{ad:List (List Int)}{sealed:List Int}(hk:key.length<Nr)(hkb:Bs key)(ha:ad.length<Nr)(had: ∀s∈ad,s.length<Nr)(hp:sealed.length<Nr)(hpb:Bs sealed):
  UH.run .lim (key,ad,sealed,())=some ((Ws key ad sealed).1,(Ws key ad sealed).2,()):=by
 obtain⟨r,r1,e,hz⟩:=XZ hk hkb ha;have hp63:sealed.length<9223372036854775808:=hp;unfold Ws;simp only[UH.run,e,ahk,MS hp63,cond_true];by_cases h0:TI key ad=0
 ·obtain⟨rfl,rfl⟩:=hz h0;obtain⟨h1,h2⟩:=SQ h0;obtain⟨g1,g2⟩:=Tn h1;rw[MO h0,if_pos h0];simp only[ahn,cond_false];by_cases h3:sealed.length<16
  ·rw[MO (show (sealed.length:Int)<16 by omega),if_pos h3];rfl
  ·rw[MR (show ¬(sealed.length:Int)<16 by omega),if_neg h3];simp only[cond_false];by_cases h4:sealed.length>65552
   ·rw[MO (show (sealed.length:Int)>65552 by omega),if_pos h4];rfl
   ·rw[MR (show ¬(sealed.length:Int)>65552 by omega),if_neg h4];have hc1:cut sealed 0 16=sealed.take 16:=by
     have:=Q7 sealed 0 16;simpa using this
    have hc2:cut sealed 16 (sealed.length:Int)=sealed.drop 16:=by
     have:=Q7 sealed 16 sealed.length;rw[show ((16:Nat):Int)=16 from rfl]at this;rw[this,ahr (by rw[aho];omega)]
    have ht:(sealed.take 16).length=16:=by rw[ahq];omega
    have hdl:(sealed.drop 16).length=sealed.length-16:=aho;have hol:(Rq key sealed).length=sealed.length-16:=by unfold Rq;rw[SS,hdl]
    have hall: ∀s∈ad++[Rq key sealed],s.length<Nr:=fun s hs=>by
     rcases ahC.1 hs with hs|hs
     ·exact had s hs
     ·rw[ahQ.1 hs,hol];exact Oe (by omega)
    have hv:=XV (Rf key) (ad++[Rq key sealed]);have z:=TG (n:=16) (by omega);have hx:=SC (a:=sealed.take 16) (b:=s2S (Rf key) (ad++[Rq key sealed])) (by rw[ht,hv.1];omega) (by rw[hv.1];omega);have hst:=X0 (v:=sealed.take 16) (s:=sealed.drop 16) g2 (WS hkb _) ht (by omega);rw[show WA (Ux key) (sealed.take 16) (sealed.drop 16)=Rq key sealed from rfl]at hst;simp only[cond_false,Na (ahx 0) (show (0:Int)<=16 by omega) (show (16:Int)<=(sealed.length:Int) by omega),Na (show (0:Int)<=16 by omega) (show (16:Int)<=(sealed.length:Int) by omega) (ahx _),cond_true,hc1,hc2,hst,ahk,Xo (show ad.length<4398046511104 by omega)];rw[cond_pos (MO (by simp;omega)),aaK g1 (UU hkb _) (Oe (by simp;omega)) hall];simp only[ahk,hx];rw[show (16:Int)=((16:Nat):Int)from rfl,z];simp only[ahk];have hiff:=abr (a:=sealed.take 16) (b:=s2S (Rf key) (ad++[Rq key sealed])) (by rw[ht,hv.1]) (UU hpb _) hv.2;rw[ht]at hiff;by_cases h5:s2S (Rf key) (ad++[Rq key sealed])=sealed.take 16
    ·rw[MO (hiff.2 h5),if_pos h5];rfl
    ·rw[MR (fun q=>h5 (hiff.1 q)),if_neg h5];rfl
 ·rw[MR h0,if_neg h0];rfl
theorem acr{ad:List (List Int)}{sealed:List Int}(hk:key.length<Nr)(hkb:Bs key)(ha:ad.length<Nr)(had: ∀s∈ad,s.length<Nr)(hp:sealed.length<Nr):
  Qe.run .lim (key,ad,sealed,())=some ((Ws key ad sealed).1,(Ws key ad sealed).2,()):=by
 have hp63:sealed.length<9223372036854775808:=hp;have Xw:key.length<9223372036854775808:=hk;have hd:(key.length:Int).tdiv 2=((key.length/2:Nat):Int):=by rw[ahF (aif _)];simp
 have w1:ahl.wrap ((key.length:Int).tdiv 2)=((key.length/2:Nat):Int):=by rw[hd,wrap64 (by omega) (by omega)]
 unfold Ws;simp only[Qe.run,Wy hk ha,ahk,MS hp63,MS Xw,cond_true,w1];by_cases h0:TI key ad=0
 ·obtain⟨h1,h2⟩:=SQ h0;obtain⟨g1,g2⟩:=Tn h1;rw[MO h0,if_pos h0];simp only[ahn,cond_false];by_cases h3:sealed.length<16
  ·rw[MO (show (sealed.length:Int)<16 by omega),if_pos h3];rfl
  ·rw[MR (show ¬(sealed.length:Int)<16 by omega),if_neg h3];simp only[cond_false];by_cases h4:sealed.length>65552
   ·rw[MO (show (sealed.length:Int)>65552 by omega),if_pos h4];rfl
   ·rw[MR (show ¬(sealed.length:Int)>65552 by omega),if_neg h4];have hc1:cut sealed 0 16=sealed.take 16:=by
     have:=Q7 sealed 0 16;simpa using this
    have hc2:cut sealed 16 (sealed.length:Int)=sealed.drop 16:=by
     have:=Q7 sealed 16 sealed.length;rw[show ((16:Nat):Int)=16 from rfl]at this;rw[this,ahr (by rw[aho];omega)]
    have hc3:cut key 0 ((key.length/2:Nat):Int)=Rf key:=by
     have:=Q7 key 0 (key.length/2);rw[show ((0:Nat):Int)=0 from rfl]at this;rw[this,ahG,ah0]
    have hc4:cut key ((key.length/2:Nat):Int) (key.length:Int)=Ux key:=by rw[Q7,ahr (by rw[aho];omega)]
    have ht:(sealed.take 16).length=16:=by rw[ahq];omega
    have hdl:(sealed.drop 16).length=sealed.length-16:=aho;have hol:(Rq key sealed).length=sealed.length-16:=by unfold Rq;rw[SS,hdl]
    have hall: ∀s∈ad++[Rq key sealed],s.length<Nr:=fun s hs=>by
     rcases ahC.1 hs with hs|hs
     ·exact had s hs
     ·rw[ahQ.1 hs,hol];exact Oe (by omega)
    have hst:=VH (v:=sealed.take 16) (s:=sealed.drop 16) g2 (WS hkb _) ht (by omega);rw[show WA (Ux key) (sealed.take 16) (sealed.drop 16)=Rq key sealed from rfl]at hst;simp only[cond_false,Na (ahx 0) (show (0:Int)<=16 by omega) (show (16:Int)<=(sealed.length:Int) by omega),Na (show (0:Int)<=16 by omega) (show (16:Int)<=(sealed.length:Int) by omega) (ahx _),Na (ahx 0) (show (0:Int)<=((key.length/2:Nat):Int) by omega) (show ((key.length/2:Nat):Int)<=(key.length:Int) by omega),Na (show (0:Int)<=((key.length/2:Nat):Int) by omega) (show ((key.length/2:Nat):Int)<=(key.length:Int) by omega) (ahx _),cond_true,hc1,hc2,hc3,hc4,hst,ahk,aaD g1 (UU hkb _) h2 hall];by_cases h5:s2S (Rf key) (ad++[Rq key sealed])=sealed.take 16
    ·rw[MO h5,if_pos h5];rfl
    ·rw[MR h5,if_neg h5];rfl
 ·rw[MR h0,if_neg h0];rfl
end
theorem abh(key:List Int)(ad:List (List Int))(plain:List Int):(Yv key ad plain).length=plain.length+16:=by unfold Yv;rw[ahp,(XV _ _).1,SS];omega
theorem adz(key:List Int)(ad:List (List Int))(plain:List Int):Bs (Yv key ad plain):=fun x h=>by
 unfold Yv at h;rcases ahC.1 h with h|h
 ·exact(XV _ _).2 x h
 ·exact aaM _ _ _ x h
end Go.AM
end
section
namespace Go.AM
def TB(key:List Int)(ad:List (List Int))(n:Nat):Int:=if RP (key,ad,[],[])=0 then(if n>65536 then 12 else 0)else RP (key,ad,[],[])
theorem YQ(key:List Int)(ad:List (List Int))(p t:List Int):RP (key,ad,p,t)=RP (key,ad,[],[]):=rfl
noncomputable def TN(xs:List KK)(key:List Int)(ad:List (List Int))(plain:List Int):List KK×List Int×Int:=
 if TB key ad plain.length=0 then
  match (ahu xs.length).find? (fun j:Nat=>Vr (rd k0 xs (j:Int)) (key,ad,plain,[]))with
  |some k=>(xs,(rd k0 xs (k:Int)).2.2.2,0)
  |none=>if xs.length>=2048 then(xs,[],18)else(xs++[(key,ad,plain,txt (xs.length+1) plain)],txt (xs.length+1) plain,0)
 else(xs,[],TB key ad plain.length)
noncomputable def XF(xs:List KK)(key:List Int)(ad:List (List Int))(t:List Int):List Int×Int:=
 if RP (key,ad,[],[])=0 then(if t.length<16 then([],11)else if t.length>65552 then([],12)else
  match (ahu xs.length).find? (fun j:Nat=>hit key ad t (rd k0 xs (j:Int)))with
  |some k=>((rd k0 xs (k:Int)).2.2.1,0)
  |none=>([],17))else([],RP (key,ad,[],[]))
noncomputable def OY(v:VV)(key:List Int)(ad:List (List Int))(plain:List Int):VV×List Int×Int:=
 bif v.1 then((true,(TN v.2 key ad plain).1),(TN v.2 key ad plain).2)else(v,Uo key ad plain)
noncomputable def Pm(v:VV)(key:List Int)(ad:List (List Int))(t:List Int):List Int×Int:=bif v.1 then XF v.2 key ad t else Ws key ad t
structure Vu(key:List Int)(ad:List (List Int))(s:List Int):Prop where
 k:key.length<Nr
 kb:Bs key
 a:ad.length<Nr
 al: ∀t∈ad,t.length<Nr
 s:s.length<Nr
theorem VF(key:List Int)(ad:List (List Int)):TI key ad=RP (key,ad,[],[]):=by
 show _=if key.length≠32/\key.length≠64 then 13 else if ad.length>126 then 18 else 0
 unfold TI;by_cases h:key.length=32\/key.length=64
 ·rw[if_pos h,if_neg (show ¬(key.length≠32/\key.length≠64) by omega)];by_cases h2:ad.length>=127
  ·rw[if_pos h2,if_pos (show ad.length>126 by omega)]
  ·rw[if_neg h2,if_neg (show ¬ad.length>126 by omega)]
 ·rw[if_neg h,if_pos (show key.length≠32/\key.length≠64 by omega)]
theorem aaV{xs:List KK}(h:xs.length<2048):N7.run .lim (xs,())=some xs:=by
 simp only[N7.run];rw[cond_pos (MO (by simp;omega)),aic]
theorem abj(xs:List KK)(key:List Int)(ad:List (List Int))(plain:List Int)(b:Bool)(hx:xs.length<Nr)(hok: ∀k∈xs,ZL k)(ha:ad.length<Nr):
  Pv.l0 .lim (xs,(xs.length:Int),0,key,ad,plain,[],xs,b,xs,false,())=match (ahu xs.length).find? (fun j:Nat=>Vr (rd k0 xs (j:Int)) (key,ad,plain,[]))with
   |some k=>some (.inl ((k:Int),xs,key,ad,plain,[],b,xs,false,()))
   |none=>some (.inr (xs,key,ad,plain,[],b,xs,false,())):=by
 have Uy:xs.length<9223372036854775808:=hx;have e:=Qp (f:=Pv.l0 .lim) (fun k=>(xs,(xs.length:Int),(k:Int),key,ad,plain,[],xs,b,xs,false,())) xs.length (fun j:Nat=>Vr (rd k0 xs (j:Int)) (key,ad,plain,[])) (fun k=>some (.inl ((k:Int),xs,key,ad,plain,[],b,xs,false,()))) (fun k hk=>by
  rw[Pv.q0];have hm:ZL (rd k0 xs k):=hok _ (Oj (by omega) (by omega));simp only[Pv.b0,abD (rd k0 xs k) (key,ad,plain,[]) hm.2.1 ha,wk k (by omega),MO (show (k:Int)<(xs.length:Int) by omega),MX (show (0:Int)<=k by omega) (show (k:Int)<(xs.length:Int) by omega),cond_true,ahk])
 rw[show ((0:Nat):Int)=0 from rfl]at e;rw[e];cases (ahu xs.length).find? (fun j:Nat=>Vr (rd k0 xs (j:Int)) (key,ad,plain,[]))with
 |some k=>rfl
 |none=>
  simp only;rw[Pv.q0];simp only[Pv.b0,MR (show ¬(xs.length:Int)<(xs.length:Int) by omega),cond_false]
theorem aaG{v:VV}(hv:okV v)(hf:P_ v=true){key:List Int}{ad:List (List Int)}{plain:List Int}(T:Vu key ad plain):
  Pv.run .lim (v,key,ad,plain,())=some ((OY v key ad plain).1,(OY v key ad plain).2.1,(OY v key ad plain).2.2,()):=by
 obtain⟨b,xs⟩:=v;have hx:xs.length<Nr:=hv.1;have hp63:plain.length<9223372036854775808:=T.s;have Uy:xs.length<9223372036854775808:=hx;unfold OY;cases b with
 |false=>
  have hn:xs=[]:=by
   unfold P_ at hf;simpa using hf
  subst hn;have hs:=acD T.k T.kb T.a T.al T.s;simp only[Pv.run,QI.run,hs,ahk,cond_false];unfold Uo;by_cases h0:TI key ad=0
  ·rw[if_pos h0];by_cases h1:plain.length>65536
   ·rw[if_pos h1];rfl
   ·rw[if_neg h1];rfl
  ·rw[if_neg h0,MR h0];rfl
 |true=>
  have hr:=XM (key,ad,plain,[]) T.k T.a;rw[YQ]at hr;have hf':=abj xs key ad plain true hx hv.2 T.a;simp only[Pv.run,hr,ahk,MS hp63,MS Uy,cond_true,hf'];unfold TN TB;by_cases h0:RP (key,ad,[],[])=0
  ·rw[MO h0,if_pos h0];simp only[ahn,cond_false];by_cases h1:plain.length>65536
   ·rw[MO (show (plain.length:Int)>65536 by omega),if_pos h1,if_neg (by decide)];rfl
   ·rw[MR (show ¬(plain.length:Int)>65536 by omega),if_neg h1,if_pos rfl];simp only[cond_false];cases hq:(ahu xs.length).find? (fun j:Nat=>Vr (rd k0 xs (j:Int)) (key,ad,plain,[]))with
    |some k=>
     have hk:k<xs.length:=ahH.1 (ahS hq);simp only[ahk];rw[cond_pos (MO (by omega)),cond_pos (MX (by omega) (by omega))]
    |none=>
     simp only[ahk,MS Uy,cond_true];by_cases h2:xs.length>=2048
     ·rw[MO (show (xs.length:Int)>=2048 by omega),if_pos h2];rfl
     ·rw[MR (show ¬(xs.length:Int)>=2048 by omega),if_neg h2];have afk:ad.length<=126:=by
       have:=SQ (key:=key) (ad:=ad) (by rw[VF];exact h0);omega
      have w1:ahl.wrap ((xs.length:Int)+1)=(xs.length:Int)+1:=wrap64 (by omega) (by omega);simp only[cond_false,Xo (show ad.length<4398046511104 by omega),ahk,w1,number_eq ((xs.length:Int)+1) plain (by omega) (by omega) (by omega),aaV (show xs.length<2048 by omega)];rw[cond_pos (MO (by simp;omega))]
  ·rw[MR h0,if_neg h0,if_neg h0];rfl
theorem aai(xs:List KK)(key:List Int)(ad:List (List Int))(plain:List Int)(hx:xs.length<Nr)(hok: ∀k∈xs,ZL k)(ha:ad.length<Nr):
  NV.l0 .lim (plain,0,true,xs,false,key,plain,[],ad,())=match (ahu xs.length).find? (fun j:Nat=>Vr (rd k0 xs (j:Int)) (key,ad,plain,[]))with
   |some k=>some (.inl ((rd k0 xs (k:Int)).2.2.2,0,true,xs,()))
   |none=>some (.inr (plain,true,xs,false,key,plain,[],ad,())):=by
 have Uy:xs.length<9223372036854775808:=hx;have e:=Qp (f:=NV.l0 .lim) (fun k=>(plain,(k:Int),true,xs,false,key,plain,[],ad,())) xs.length (fun j:Nat=>Vr (rd k0 xs (j:Int)) (key,ad,plain,[])) (fun k=>some (.inl ((rd k0 xs (k:Int)).2.2.2,0,true,xs,()))) (fun k hk=>by
  rw[NV.q0];have hm:ZL (rd k0 xs k):=hok _ (Oj (by omega) (by omega));have hr:=V6 (key,ad,plain,[]) (rd k0 xs k) ha hm.2.1;rw[Y7]at hr;simp only[NV.b0,MS Uy,hr,wk k (by omega),MO (show (k:Int)<(xs.length:Int) by omega),MX (show (0:Int)<=k by omega) (show (k:Int)<(xs.length:Int) by omega),cond_true,ahk])
 rw[show ((0:Nat):Int)=0 from rfl]at e;rw[e];cases (ahu xs.length).find? (fun j:Nat=>Vr (rd k0 xs (j:Int)) (key,ad,plain,[]))with
 |some k=>rfl
 |none=>
  simp only;rw[NV.q0];simp only[NV.b0,MS Uy,MR (show ¬(xs.length:Int)<(xs.length:Int) by omega),cond_false,cond_true]
theorem Ve{key:List Int}{ad:List (List Int)}(hk:key.length<Nr)(ha:ad.length<Nr)(n:Nat):O1.run .lim (key,ad,(n:Int),())=some (TB key ad n):=by
 have Xw:key.length<9223372036854775808:=hk;have abQ:ad.length<9223372036854775808:=ha;unfold TB RP;simp only[O1.run,MS Xw,MS abQ,cond_true,ahw];by_cases h1:key.length≠32/\key.length≠64
 ·rw[if_pos h1,MR (show ¬(key.length:Int)=32 by omega),MR (show ¬(key.length:Int)=64 by omega)];rfl
 ·rw[if_neg h1];have:(!decide ((key.length:Int)=32)&& !decide ((key.length:Int)=64))=false:=by
   by_cases h:key.length=32
   ·rw[MO (show (key.length:Int)=32 by omega)];rfl
   ·rw[MO (show (key.length:Int)=64 by omega),ahn,ahR]
  rw[this];by_cases h2:ad.length>126
  ·rw[MO (show (ad.length:Int)>126 by omega),if_pos h2];rfl
  ·rw[MR (show ¬(ad.length:Int)>126 by omega),if_neg h2,if_pos rfl];by_cases h3:n>65536
   ·rw[MO (show (n:Int)>65536 by omega),if_pos h3];rfl
   ·rw[MR (show ¬(n:Int)>65536 by omega),if_neg h3];rfl
theorem Yp{v:VV}(hv:okV v){key:List Int}{ad:List (List Int)}{plain:List Int}(T:Vu key ad plain):
  NV.run .lim (v,key,ad,plain,())=some ((OY v key ad plain).1,(OY v key ad plain).2.1,(OY v key ad plain).2.2,()):=by
 obtain⟨b,xs⟩:=v;have hx:xs.length<Nr:=hv.1;have hp63:plain.length<9223372036854775808:=T.s;have Uy:xs.length<9223372036854775808:=hx;unfold OY;cases b with
 |false=>
  have hs:=acu T.k T.kb T.a T.al T.s;simp only[NV.run,hs,ahk,cond_false,ahz,cond_true]
 |true=>
  have hr:=Ve T.k T.a plain.length;have hf':=aai xs key ad plain hx hv.2 T.a;simp only[NV.run,hr,ahk,MS hp63,MS Uy,cond_true,cond_false,ahn,hf'];unfold TN;by_cases h0:TB key ad plain.length=0
  ·rw[MO h0,if_pos h0];have h00:RP (key,ad,[],[])=0/\plain.length<=65536:=by
    unfold TB at h0;split at h0
    ·split at h0
     ·exact absurd h0 (by decide)
     ·exact⟨by assumption,by omega⟩
    ·exact absurd h0 (by assumption)
   have afk:ad.length<=126:=by
    have:=SQ (key:=key) (ad:=ad) (by rw[VF];exact h00.1);omega
   simp only[ahn,cond_false];rw[cond_pos (MO (show ad.length<4398046511104 by omega))];cases hq:(ahu xs.length).find? (fun j:Nat=>Vr (rd k0 xs (j:Int)) (key,ad,plain,[]))with
   |some k=>rfl
   |none=>
    simp only[ahk,MS Uy,cond_true];by_cases h2:xs.length>=2048
    ·rw[MO (show (xs.length:Int)>=2048 by omega),if_pos h2];rfl
    ·rw[MR (show ¬(xs.length:Int)>=2048 by omega),if_neg h2];have w1:ahl.wrap ((xs.length:Int)+1)=(xs.length:Int)+1:=wrap64 (by omega) (by omega);simp only[cond_false,w1,ZA ((xs.length:Int)+1) plain (by omega) (by omega) (by omega),ahk];rw[cond_pos (MO (by omega)),cond_pos (MO (by simp;omega))]
  ·rw[MR h0,if_neg h0];rfl
theorem Z5(xs:List KK)(key:List Int)(ad:List (List Int))(t:List Int)(hx:xs.length<Nr)(hok: ∀k∈xs,ZL k)(ha:ad.length<Nr):
  O5.l0 .lim (xs,(xs.length:Int),0,key,ad,[],t,xs,())=match (ahu xs.length).find? (fun j:Nat=>hit key ad t (rd k0 xs (j:Int)))with
   |some k=>some (.inl ((k:Int),xs,()))
   |none=>some (.inr (xs,())):=by
 have Uy:xs.length<9223372036854775808:=hx;have e:=Qp (f:=O5.l0 .lim) (fun k=>(xs,(xs.length:Int),(k:Int),key,ad,[],t,xs,())) xs.length (fun j:Nat=>hit key ad t (rd k0 xs (j:Int))) (fun k=>some (.inl ((k:Int),xs,()))) (fun k hk=>by
  rw[O5.q0];have hm:ZL (rd k0 xs k):=hok _ (Oj (by omega) (by omega));simp only[O5.b0,Zd _ _ hm.2.1 ha,wk k (by omega),MO (show (k:Int)<(xs.length:Int) by omega),MX (show (0:Int)<=k by omega) (show (k:Int)<xs.length by omega)];unfold hit;cases decide ((rd k0 xs k).2.2.2=t)&&decide ((rd k0 xs k).1=key)<;>simp only[cond_true,cond_false,ahk,aiE,ahw,ahU,aiL,ah2,ahR,ah4,aiA,ah1,ahn,ahz,aiC,ah5,aiM])
 rw[show ((0:Nat):Int)=0 from rfl]at e;rw[e];cases (ahu xs.length).find? (fun j:Nat=>hit key ad t (rd k0 xs (j:Int)))with
 |some k=>rfl
 |none=>
  simp only;rw[O5.q0];simp only[O5.b0,MR (show ¬(xs.length:Int)<(xs.length:Int) by omega),cond_false]
theorem aah(xs:List KK)(key:List Int)(ad:List (List Int))(t:List Int)(hx:xs.length<Nr)(hok: ∀k∈xs,ZL k)(ha:ad.length<Nr):
  NR.l0 .lim (key,ad,t,0,true,xs,())=match (ahu xs.length).find? (fun j:Nat=>hit key ad t (rd k0 xs (j:Int)))with
   |some k=>some (.inl ((rd k0 xs (k:Int)).2.2.1,0,()))
   |none=>some (.inr (())):=by
 have Uy:xs.length<9223372036854775808:=hx;have e:=Qp (f:=NR.l0 .lim) (fun k=>(key,ad,t,(k:Int),true,xs,())) xs.length (fun j:Nat=>hit key ad t (rd k0 xs (j:Int))) (fun k=>some (.inl ((rd k0 xs (k:Int)).2.2.1,0,()))) (fun k hk=>by
  rw[NR.q0];have hm:ZL (rd k0 xs k):=hok _ (Oj (by omega) (by omega));simp only[NR.b0,MS Uy,texts_eq _ _ hm.2.1 ha,wk k (by omega),MO (show (k:Int)<(xs.length:Int) by omega),MX (show (0:Int)<=k by omega) (show (k:Int)<xs.length by omega)];unfold hit;cases decide ((rd k0 xs k).2.2.2=t)&&decide ((rd k0 xs k).1=key)<;>simp only[cond_true,cond_false,ahk,aiE,ahw,ahU,aiL,ah2,ahR,ah4,aiA,ah1,ahn,ahz,aiC,ah5,aiM])
 rw[show ((0:Nat):Int)=0 from rfl]at e;rw[e];cases (ahu xs.length).find? (fun j:Nat=>hit key ad t (rd k0 xs (j:Int)))with
 |some k=>rfl
 |none=>
  simp only;rw[NR.q0];simp only[NR.b0,MS Uy,cond_true,MR (show ¬(xs.length:Int)<(xs.length:Int) by omega),cond_false]
theorem XG{v:VV}(hv:okV v){key:List Int}{ad:List (List Int)}{t:List Int}(T:Vu key ad t)(htb:Bs t):
  O5.run .lim (v,key,ad,t,())=some ((Pm v key ad t).1,(Pm v key ad t).2,()):=by
 obtain⟨b,xs⟩:=v;have hx:xs.length<Nr:=hv.1;have hp63:t.length<9223372036854775808:=T.s;have Uy:xs.length<9223372036854775808:=hx;unfold Pm;cases b with
 |false=>
  have hs:=acB T.k T.kb T.a T.al T.s htb;simp only[O5.run,QH.run,hs,ahk,cond_false]
 |true=>
  have hr:=XM (key,ad,[],t) T.k T.a;rw[YQ]at hr;have hf':=Z5 xs key ad t hx hv.2 T.a;simp only[O5.run,hr,ahk,MS hp63,MS Uy,cond_true,hf'];unfold XF;by_cases h0:RP (key,ad,[],[])=0
  ·rw[MO h0,if_pos h0];simp only[ahn,cond_false];by_cases h1:t.length<16
   ·rw[MO (show (t.length:Int)<16 by omega),if_pos h1];rfl
   ·rw[MR (show ¬(t.length:Int)<16 by omega),if_neg h1];by_cases h2:t.length>65552
    ·rw[MO (show (t.length:Int)>65552 by omega),if_pos h2];rfl
    ·rw[MR (show ¬(t.length:Int)>65552 by omega),if_neg h2];simp only[cond_false];cases hq:(ahu xs.length).find? (fun j:Nat=>hit key ad t (rd k0 xs (j:Int)))with
     |some k=>
      have hk:k<xs.length:=ahH.1 (ahS hq);simp only[ahk];rw[cond_neg (MR (by omega)),cond_pos (MX (by omega) (by omega))]
     |none=>rfl
  ·rw[MR h0,if_neg h0];rfl
theorem Yo{v:VV}(hv:okV v){key:List Int}{ad:List (List Int)}{t:List Int}(T:Vu key ad t):
  NR.run .lim (v,key,ad,t,())=some ((Pm v key ad t).1,(Pm v key ad t).2,()):=by
 obtain⟨b,xs⟩:=v;have hx:xs.length<Nr:=hv.1;have hp63:t.length<9223372036854775808:=T.s;have Uy:xs.length<9223372036854775808:=hx;unfold Pm;cases b with
 |false=>
  have hs:=acr T.k T.kb T.a T.al T.s;simp only[NR.run,hs,ahk,cond_false,ahz,cond_true]
 |true=>
  have hr:=Ve T.k T.a 0;have h00:TB key ad 0=RP (key,ad,[],[]):=by
   unfold TB;by_cases h:RP (key,ad,[],[])=0
   ·rw[if_pos h,if_neg (by omega),h]
   ·rw[if_neg h]
  rw[h00,show ((0:Nat):Int)=0 from rfl]at hr;have hf':=aah xs key ad t hx hv.2 T.a;simp only[NR.run,hr,ahk,MS hp63,MS Uy,cond_true,cond_false,ahn,hf'];unfold XF;by_cases h0:RP (key,ad,[],[])=0
  ·rw[MO h0,if_pos h0];simp only[ahn,cond_false];by_cases h1:t.length<16
   ·rw[MO (show (t.length:Int)<16 by omega),if_pos h1];rfl
   ·rw[MR (show ¬(t.length:Int)<16 by omega),if_neg h1];by_cases h2:t.length>65552
    ·rw[MO (show (t.length:Int)>65552 by omega),if_pos h2];rfl
    ·rw[MR (show ¬(t.length:Int)>65552 by omega),if_neg h2];simp only[cond_false];cases hq:(ahu xs.length).find? (fun j:Nat=>hit key ad t (rd k0 xs (j:Int)))with
     |some k=>rfl
     |none=>rfl
  ·rw[MR h0,if_neg h0];rfl
end Go.AM
end
section
namespace Go.AM
theorem adp{key:List Int}{ad:List (List Int)}{plain:List Int}(T:Vu key ad plain)(hp:plain.length<=65536)(n:Int):ZL (key,ad,plain,txt n plain):=
 ⟨T.k,T.a,T.al,T.s,by simp only[txt,VD,ahp,aiF,List.length_range,ahP];omega⟩
theorem Vm{key:List Int}{ad:List (List Int)}{n:Nat}(h0:TB key ad n=0):RP (key,ad,[],[])=0/\n<=65536:=by
 unfold TB at h0;split at h0
 ·split at h0
  ·exact absurd h0 (by decide)
  ·exact⟨by assumption,by omega⟩
 ·exact absurd h0 (by assumption)
theorem TP(xs:List KK)(key:List Int)(ad:List (List Int))(plain:List Int):
  ((TN xs key ad plain).2.2≠0/\(TN xs key ad plain).1=xs/\(TN xs key ad plain).2.1=[])\/
  (TB key ad plain.length=0/\(∃k,k<xs.length/\Vr (rd k0 xs (k:Int)) (key,ad,plain,[])=true/\TN xs key ad plain=(xs,(rd k0 xs (k:Int)).2.2.2,0)))\/
  (TB key ad plain.length=0/\xs.length<2048/\(∀k,k<xs.length->Vr (rd k0 xs (k:Int)) (key,ad,plain,[])=false)/\TN xs key ad plain=(xs++[(key,ad,plain,txt (xs.length+1) plain)],txt (xs.length+1) plain,0)):=by
 unfold TN;by_cases h0:TB key ad plain.length=0
 ·rw[if_pos h0];cases hq:(ahu xs.length).find? (fun j:Nat=>Vr (rd k0 xs (j:Int)) (key,ad,plain,[]))with
  |some k=>exact .inr (.inl ⟨h0,k,ahH.1 (ahS hq),by simpa using ah6 hq,rfl⟩)
  |none=>
   simp only;by_cases h2:xs.length>=2048
   ·rw[if_pos h2];exact .inl ⟨show (18:Int)≠0 by decide,rfl,rfl⟩
   ·rw[if_neg h2];refine .inr (.inr ⟨h0,by omega,fun k hk=> ?_,rfl⟩);have:=aii.1 hq k (ahH.2 hk);simpa using this
 ·rw[if_neg h0];exact .inl ⟨h0,rfl,rfl⟩
theorem Zo{v:VV}(hv:okV v){key:List Int}{ad:List (List Int)}{plain:List Int}(T:Vu key ad plain):okV (OY v key ad plain).1:=by
 obtain⟨b,xs⟩:=v;unfold OY;cases b with
 |false=>exact hv
 |true=>
  simp only[cond_true];rcases TP xs key ad plain with⟨_,h,_⟩|⟨_,k,_,_,h⟩|⟨h0,h1,_,h⟩
  ·rw[h];exact hv
  ·rw[h];exact hv
  ·rw[h];refine⟨by simp;omega,fun q hq=> ?_⟩;rcases ahC.1 hq with hq|hq
   ·exact hv.2 q hq
   ·rw[ahQ.1 hq];exact adp T (Vm h0).2 _
theorem aar{xs:List KK}(h:P_ (true,xs)=true):xs.length<=2048/\ ∀i,i<xs.length->X9 xs i=false:=by
 unfold P_ at h;simp only[cond_true,ahA,decide_eq_true_eq,ahM,ail,ahH]at h;exact⟨h.1,fun i hi=>by simpa using h.2 i hi⟩
theorem abH{xs:List KK}{q:KK}{i:Nat}(hi:i<xs.length):X9 (xs++[q]) i=X9 xs i:=by
 unfold X9;rw[YO hi,any_congr (d:=fun j=>Vr (rd k0 xs (j:Int)) (rd k0 xs (i:Int))) fun j hj=>by rw[YO (by omega)]]
theorem aax{α:Type}{d:α}{xs:List α}{q:α}:rd d (xs++[q]) (xs.length:Int)=q:=by rw[Rj (by simp)];simp
theorem Zf{v:VV}(hf:P_ v=true)(key:List Int)(ad:List (List Int))(plain:List Int):P_ (OY v key ad plain).1=true:=by
 obtain⟨b,xs⟩:=v;unfold OY;cases b with
 |false=>exact hf
 |true=>
  simp only[cond_true];obtain⟨f1,f2⟩:=aar hf;rcases TP xs key ad plain with⟨_,h,_⟩|⟨_,k,_,_,h⟩|⟨h0,h1,h2,h⟩
  ·rw[h];exact hf
  ·rw[h];exact hf
  ·rw[h];obtain⟨g1,g2⟩:=Vm h0;unfold P_;simp only[cond_true,ahA,decide_eq_true_eq,ahM,ail,ahH,ahp,List.length_singleton];refine⟨by omega,fun i hi=> ?_⟩;by_cases hl:i<xs.length
   ·rw[abH hl,f2 i hl];simp
   ·obtain rfl:i=xs.length:=by omega
    unfold X9;rw[aax];rw[any_congr (d:=fun _=>false) fun j hj=>by
     rw[YO hj];have:=h2 j hj;unfold Vr at this ⊢
     exact this]
    rw[YQ,g1,MO rfl,MR (show ¬plain.length>65536 by omega),MO rfl];simp
theorem aaU(n:Int)(k:Nat):0<=byteOf n k/\byteOf n k<256:=by unfold byteOf;omega
theorem abO{xs:List KK}(h:P_ (true,xs)=true){i:Nat}(hi:i<xs.length):(rd k0 xs (i:Int)).2.2.2=txt ((i+1:Nat):Int) (rd k0 xs (i:Int)).2.2.1/\(rd k0 xs (i:Int)).2.2.1.length<=65536:=by
 have:=(aar h).2 i hi;unfold X9 at this;simp only[Bool.or_eq_false_iff,Bool.not_eq_false',decide_eq_true_eq,decide_eq_false_iff_not]at this;exact⟨by rw[this.1.2];congr 1,by omega⟩
theorem aaP(n:Int)(p:List Int):(txt n p).length=p.length+16:=by simp[txt,VD];omega
theorem afK(n:Int)(p:List Int):Bs (txt n p):=fun x hx=>by
 unfold txt at hx;rcases ahC.1 hx with h|h
 ·obtain⟨i,_,rfl⟩:=aiP.1 h;exact aaU _ _
 ·rw[(aiB.1 h).2];exact⟨by decide,by decide⟩
end Go.AM
end
section
namespace Go.AM
def vB(v:VV):Prop:= ∀k∈v.2,Bs k.2.2.1
def Ext(v w:VV):Prop:=v.1=w.1/\ ∃l,w.2=v.2++l
theorem Ext.trans{u v w:VV}(a:Ext u v)(b:Ext v w):Ext u w:=by
 obtain⟨l,hl⟩:=a.2;obtain⟨m,hm⟩:=b.2;exact⟨a.1.trans b.1,l++m,by rw[hm,hl,ahE]⟩
theorem aaH{v:VV}{key:List Int}{ad:List (List Int)}{s:List Int}(he:(OY v key ad s).2.2≠0):(OY v key ad s).1=v/\(OY v key ad s).2.1=[]:=by
 obtain⟨b,xs⟩:=v;cases b with
 |false=>
  refine⟨rfl,?_⟩;simp only[OY,cond_false]at he ⊢
  unfold Uo at he ⊢
  by_cases h:TI key ad=0
  ·rw[if_pos h]at he ⊢
   by_cases h':s.length>65536
   ·rw[if_pos h']
   ·rw[if_neg h']at he;exact absurd rfl he
  ·rw[if_neg h]
 |true=>
  simp only[OY,cond_true]at he ⊢
  rcases TP xs key ad s with⟨_,h,h'⟩|⟨_,_,_,_,h⟩|⟨_,_,_,h⟩
  ·rw[h,h'];exact⟨rfl,rfl⟩
  ·rw[h]at he;exact absurd rfl he
  ·rw[h]at he;exact absurd rfl he
theorem aal{xs:List KK}{key:List Int}{ad:List (List Int)}{s:List Int}(hf:P_ (true,xs)=true)(he:(TN xs key ad s).2.2=0):
  TB key ad s.length=0/\ ∃k,k<(TN xs key ad s).1.length/\rd k0 (TN xs key ad s).1 (k:Int)=(key,ad,s,(TN xs key ad s).2.1):=by
 rcases TP xs key ad s with⟨h,_,_⟩|⟨h0,k,hk,ha,h⟩|⟨h0,h1,h2,h⟩
 ·exact absurd he h
 ·rw[h];refine⟨h0,k,hk,?_⟩;unfold Vr at ha;simp only[ahA,decide_eq_true_eq]at ha;obtain⟨⟨a1,a2⟩,a3⟩:=ha;rw[<-a1,<-a2,<-a3]
 ·rw[h];exact⟨h0,xs.length,by simp,aax⟩
theorem ZC{v:VV}{key:List Int}{ad:List (List Int)}{s:List Int}(hf:P_ v=true)(he:(OY v key ad s).2.2=0):
  RP (key,ad,[],[])=0/\s.length<=65536/\(OY v key ad s).2.1.length=s.length+16/\Bs (OY v key ad s).2.1:=by
 have hfw:=Zf hf key ad s;obtain⟨b,xs⟩:=v;cases b with
 |false=>
  simp only[OY,cond_false]at he ⊢
  have h0:TI key ad=0/\s.length<=65536:=by
   unfold Uo at he;by_cases h:TI key ad=0
   ·rw[if_pos h]at he;by_cases h':s.length>65536
    ·rw[if_pos h']at he;exact absurd he (by decide)
    ·exact⟨h,by omega⟩
   ·rw[if_neg h]at he;exact absurd he h
  have hr:Uo key ad s=(Yv key ad s,0):=by unfold Uo;rw[if_pos h0.1,if_neg (by omega)]
  rw[hr];exact⟨by rw[<-VF];exact h0.1,h0.2,abh _ _ _,adz _ _ _⟩
 |true=>
  simp only[OY,cond_true]at he hfw ⊢
  obtain⟨h0,k,hk,e⟩:=aal hf he;obtain⟨g1,g2⟩:=Vm h0;have ht:=(abO hfw hk).1;rw[e]at ht;simp only at ht;refine⟨g1,g2,by rw[ht,aaP],by rw[ht];exact afK _ _⟩
theorem Z4{xs:List KK}{key:List Int}{ad:List (List Int)}{t:List Int}(h:(XF xs key ad t).2=0):
  ∃k,k<xs.length/\rd k0 xs (k:Int)=(key,ad,(XF xs key ad t).1,t):=by
 unfold XF at h ⊢
 by_cases h0:RP (key,ad,[],[])=0
 ·rw[if_pos h0]at h ⊢
  by_cases h1:t.length<16
  ·rw[if_pos h1]at h;exact absurd h (by decide)
  ·rw[if_neg h1]at h ⊢
   by_cases h2:t.length>65552
   ·rw[if_pos h2]at h;exact absurd h (by decide)
   ·rw[if_neg h2]at h ⊢
    cases hq:(ahu xs.length).find? (fun j:Nat=>hit key ad t (rd k0 xs (j:Int)))with
    |none=>rw[hq]at h;exact absurd h (show (17:Int)≠0 by decide)
    |some k=>
     have hh:hit key ad t (rd k0 xs (k:Int))=true:=by simpa using ah6 hq
     unfold hit at hh;simp only[ahA,decide_eq_true_eq]at hh;obtain⟨⟨a1,a2⟩,a3⟩:=hh;refine⟨k,ahH.1 (ahS hq),?_⟩;simp only;rw[<-a1,<-a2,<-a3]
 ·rw[if_neg h0]at h;exact absurd h h0
theorem UA{v:VV}{key:List Int}{ad:List (List Int)}{t:List Int}(hf:P_ v=true)(hb:vB v)(h:(Pm v key ad t).2=0):
  RP (key,ad,[],[])=0/\(Pm v key ad t).1.length<=65536/\t.length=(Pm v key ad t).1.length+16/\Bs (Pm v key ad t).1:=by
 obtain⟨b,xs⟩:=v;cases b with
 |false=>
  simp only[Pm,cond_false]at h ⊢
  unfold Ws at h ⊢
  by_cases h0:TI key ad=0
  ·rw[if_pos h0]at h ⊢
   by_cases h1:t.length<16
   ·rw[if_pos h1]at h;exact absurd h (by decide)
   ·rw[if_neg h1]at h ⊢
    by_cases h2:t.length>65552
    ·rw[if_pos h2]at h;exact absurd h (by decide)
    ·rw[if_neg h2]at h ⊢
     split at h
     ·rename_i q;rw[if_pos q];have hl:(Rq key t).length=t.length-16:=by unfold Rq;rw[SS,aho]
      refine⟨by rw[<-VF];exact h0,by rw[hl];omega,by rw[hl];omega,?_⟩;unfold Rq;exact aaM _ _ _
     ·exact absurd h (by decide)
  ·rw[if_neg h0]at h;exact absurd h h0
 |true=>
  simp only[Pm,cond_true]at h ⊢
  obtain⟨k,hk,e⟩:=Z4 h;obtain⟨f1,f2⟩:=abO hf hk;rw[e]at f1 f2;simp only at f1 f2;refine⟨?_,f2,(congrArg aiz f1).trans (aaP _ _),?_⟩
  ·unfold XF at h;by_cases h0:RP (key,ad,[],[])=0
   ·exact h0
   ·rw[if_neg h0]at h;exact absurd h h0
  ·have:=hb (rd k0 xs (k:Int)) (Oj (by omega) (by show (k:Int)<(xs.length:Int);omega));rw[e]at this;exact this
theorem v_B{v:VV}(h:Ty.ok (.pair .bool (.lst (.pair .str (.pair (.lst .str) (.pair .str .str))))) v):vB v:=by
 obtain⟨_,h1,h2⟩:=h;intro k hk;obtain⟨a,⟨b1,b2⟩,c,d⟩:=h2 k hk;exact c.2
end Go.AM
end
section
namespace Go.AM
abbrev RK:=Int×List Int×Int
abbrev r0:RK:=(0,([],0))
abbrev RR:=List RK×Int
abbrev CK:=Int×List Int×List Int
def Wp(a:Int):Int:=if a=15 then 32 else if a=17 then 64 else 0
theorem abX(a:Int):Rh.run .lim (a,())=some (Wp a):=by
 simp only[Rh.run];unfold Wp;by_cases h:a=15
 ·rw[MO h,if_pos h];rfl
 ·rw[MR h,if_neg h];by_cases h2:a=17
  ·rw[MO h2,if_pos h2];rfl
  ·rw[MR h2,if_neg h2];rfl
theorem aa_(a:Int):PS.run .lim (a,())=some (Wp a):=by
 simp only[PS.run];unfold Wp;by_cases h:a=15
 ·rw[MO h,if_pos h];rfl
 ·rw[MR h,if_neg h];by_cases h2:a=17
  ·rw[MO h2,if_pos h2];rfl
  ·rw[MR h2,if_neg h2];rfl
def Ti(k:CK):Bool:=decide (Wp k.1>0)&&decide ((k.2.1.length:Int)=Wp k.1)&&decide ((k.2.2.length:Int)=Wp k.1)
structure KOk(k:CK):Prop where
 a:k.2.1.length<Nr
 b:k.2.2.length<Nr
theorem aaq{k:CK}(h:KOk k):RG.run .lim (k,())=some (Ti k):=by
 have h1:k.2.1.length<9223372036854775808:=h.a;have h2:k.2.2.length<9223372036854775808:=h.b;simp only[RG.run,abX,ahk,MS h1,MS h2,ahw,cond_true];rfl
theorem Zt{k:CK}(h:KOk k):O4.run .lim (k,())=some (Ti k):=by
 have h1:k.2.1.length<9223372036854775808:=h.a;have h2:k.2.2.length<9223372036854775808:=h.b;simp only[O4.run,aa_,ahk,MS h1,MS h2,ahw,cond_true];rfl
theorem Ru{k:CK}(h:Ti k=true):(k.1=15/\k.2.1.length=32/\k.2.2.length=32)\/(k.1=17/\k.2.1.length=64/\k.2.2.length=64):=by
 unfold Ti Wp at h;simp only[ahA,decide_eq_true_eq]at h;by_cases h1:k.1=15
 ·rw[if_pos h1]at h;omega
 ·rw[if_neg h1]at h;by_cases h2:k.1=17
  ·rw[if_pos h2]at h;omega
  ·rw[if_neg h2]at h;omega
def PO(k:CK):List Int:=[0,k.1,0,0]++k.2.1++k.2.2
theorem Z9{k:CK}:(PO k).length=4+k.2.1.length+k.2.2.length:=by simp[PO];omega
theorem Yg{k:CK}(h:Ti k=true):QS.run .lim (k,())=some (PO k):=by
 have hs:=Ru h;simp only[QS.run];have e1:ahm.wrap (I_ .i64 k.1 8)=0:=by rcases hs with⟨q,_⟩|⟨q,_⟩<;>rw[q]<;>decide
 have e2:ahm.wrap k.1=k.1:=by rcases hs with⟨q,_⟩|⟨q,_⟩<;>rw[q]<;>decide
 rw[e1,e2,cond_pos (MO (by unfold maxStr;simp;omega)),cond_pos (MO (by unfold maxStr;simp;omega))];rfl
theorem XI{k:CK}(h:Ti k=true):OX.run .lim (k,())=some (PO k):=by
 have hs:=Ru h;simp only[OX.run];have e1:ahm.wrap (ahl.wrap (k.1.tdiv 256))=0:=by rcases hs with⟨q,_⟩|⟨q,_⟩<;>rw[q]<;>decide
 have e2:ahm.wrap (k.1.tmod 256)=k.1:=by rcases hs with⟨q,_⟩|⟨q,_⟩<;>rw[q]<;>decide
 rw[e1,e2,cond_pos (MO (by unfold maxStr;simp;omega)),cond_pos (MO (by unfold maxStr;simp;omega))];rfl
def Vd(id:Int):List Int:=[ahm.wrap (I_ .u32 id 24),ahm.wrap (I_ .u32 id 16),ahm.wrap (I_ .u32 id 8),ahm.wrap id]
structure Y6(r:RR):Prop where
 len:1<=r.1.length/\r.1.length<=8
 key: ∀k∈r.1,k.2.1.length=32
 kb: ∀k∈r.1,Bs k.2.1
def Px(r:RR):RK:=rd r0 r.1 ((r.1.length-1:Nat):Int)
theorem QJ{r:RR}(h:Y6 r):Px r∈r.1:=Oj (by omega) (by have:=h.len.1;omega)
noncomputable def mkS(v:VV)(m:RK)(k:CK)(MZ:List Int):VV×List Int×Int:=
 if Ti k=true then(if MZ.length=16 then(
   if(OY v m.2.1 [Vd m.1,MZ] (PO k)).2.2=0 then((OY v m.2.1 [Vd m.1,MZ] (PO k)).1,(Vd m.1++MZ)++(OY v m.2.1 [Vd m.1,MZ] (PO k)).2.1,0)
   else(v,[],(OY v m.2.1 [Vd m.1,MZ] (PO k)).2.2))else(v,[],10))else(v,[],13)
theorem abI{m:RK}(hk:m.2.1.length=32)(hkb:Bs m.2.1){k:CK}(hf:Ti k=true){MZ:List Int}(hn:MZ.length=16):Vu m.2.1 [Vd m.1,MZ] (PO k):=by
 have:=Ru hf;refine⟨Oe (by omega),hkb,(show (2:Nat)<Nr by decide),fun t ht=> ?_,Oe (by rw[Z9];omega)⟩;simp only[ahW,ahO,or_false]at ht;rcases ht with rfl|rfl
 ·exact(by decide:4<Nr)
 ·exact Oe (by omega)
theorem XY{v:VV}(hf:P_ v=true)(key:List Int)(ad:List (List Int))(s:List Int):(OY v key ad s).2.1.length<=65552:=by
 by_cases he:(OY v key ad s).2.2=0
 ·have:=ZC hf he;omega
 ·rw[(aaH he).2];exact aiH _
theorem aau{id:Int}{MZ s:List Int}(hn:MZ.length=16)(hs:s.length<9223372036854775000):decide ((Vd id).length+MZ.length<=maxStr)=true/\decide ((Vd id++MZ).length+s.length<=maxStr)=true:=by
 have:(Vd id).length=4:=rfl;exact⟨MO (by rw[this];unfold maxStr;omega),MO (by rw[ahp,this];unfold maxStr;omega)⟩
end Go.AM
end
section
namespace Go.AM
theorem abZ{r:RR}(h:Y6 r):ahl.wrap ((r.1.length:Int)-1)=((r.1.length-1:Nat):Int):=by have:=h.len;rw[wrap64 (by omega) (by omega)];omega
end Go.AM
end
section
namespace Go.AM
theorem SG(n:Int):ahy.wrap n=n%4294967296:=by unfold aiO;simp[aiI,aiN]
theorem SH(n:Int):ahv.wrap n=n%18446744073709551616:=by unfold aiO;simp[aiI,aiN]
theorem Z8{w x y:Nat}(hx:x<2^w)(hy:y<2^w):(ahB w (x:Int) ||| ahB w (y:Int)).toNat=x ||| y:=by
 rw[BitVec.toNat_or,ahX,ahX];have e: ∀z:Nat,z<2^w->((z:Int)%((2^w:Nat):Int)).toNat=z:=fun z hz=>by rw[<-Int.natCast_emod,aht,Nat.mod_eq_of_lt hz]
 rw[e x hx,e y hy]
theorem Z7{a b m:Nat}(h:b<2^m):2^m*a ||| b=2^m*a+b:=(Nat.two_pow_add_eq_or_of_lt h a).symm
theorem abV{a b:Nat}(m:Nat)(h:b<2^m)(hm:2^m*a+b<4294967296):KO .u32 ((2^m*a:Nat):Int) (b:Int)=((2^m*a+b:Nat):Int):=by
 show ahy.wrap ((ahB 32 ((2^m*a:Nat):Int) ||| ahB 32 (b:Int)).toNat:Int)=_;rw[Z8 (ahK (aib _ _) hm) (ahK (aiv _ _) hm),Z7 h,SG];omega
theorem afm{a b:Nat}(m:Nat)(h:b<2^m)(hm:2^m*a+b<9223372036854775808):KO .i64 ((2^m*a:Nat):Int) (b:Int)=((2^m*a+b:Nat):Int):=by
 show ahl.wrap ((ahB 64 ((2^m*a:Nat):Int) ||| ahB 64 (b:Int)).toNat:Int)=_;have h1:2^m*a<2^64:=ahK (aib _ b) (aij hm (by decide));have h2:b<2^64:=ahK (aiv _ (2^m*a)) (aij hm (by decide));rw[Z8 h1 h2,Z7 h,wrap64 (by omega) (by omega)]
theorem Vg{a:Int}(h:B8 a): ∃n:Nat,a=(n:Int)/\n<256:=⟨a.toNat,by have:=h.1;omega,by have:=h.1;have:=h.2;omega⟩
theorem aeN{a b:Int}(ha:B8 a)(hb:B8 b):KO .i64 (I9 .i64 (ahl.wrap a) 8) (ahl.wrap b)=a*256+b:=by
 obtain⟨x,rfl,hx⟩:=Vg ha;obtain⟨y,rfl,hy⟩:=Vg hb;rw[wrap64 (by omega) (by omega),wrap64 (by omega) (by omega)];have e:I9 .i64 (x:Int) 8=((2^8*x:Nat):Int):=by
  show ahl.wrap ((x:Int)*2^8)=_;rw[wrap64 (by omega) (by omega)];omega
 rw[e,afm 8 (by omega) (by omega)];omega
theorem ab_{a b:Int}(ha:B8 a)(hb:B8 b):ahl.wrap (ahl.wrap (ahl.wrap a*256)+ahl.wrap b)=a*256+b:=by
 unfold B8 at ha hb;rw[wrap64 (n:=a) (by omega) (by omega),wrap64 (n:=b) (by omega) (by omega),wrap64 (n:=a*256) (by omega) (by omega),wrap64 (by omega) (by omega)]
theorem acA{x:Nat}(hx:x<256)(m:Nat)(hm:m<=24):I9 .u32 (x:Int) (m:Int)=((2^m*x:Nat):Int):=by
 show ahy.wrap ((x:Int)*2^min ((m:Int).toNat) 32)=_;rw[aht,ahN (by omega),SG];have h1:2^m<=2^24:=aiw (by decide) hm;have h2:2^m*x<4294967296:=ahK (Nat.mul_le_mul h1 (Nat.le_of_lt_succ (show x<255+1 by omega))) (by decide);rw[show (x:Int)*2^m=((2^m*x:Nat):Int) by rw[Nat.mul_comm];simp];omega
theorem afD{a b c d:Int}(ha:B8 a)(hb:B8 b)(hc:B8 c)(hd:B8 d):
  KO .u32 (KO .u32 (KO .u32 (I9 .u32 (ahy.wrap a) 24) (I9 .u32 (ahy.wrap b) 16)) (I9 .u32 (ahy.wrap c) 8)) (ahy.wrap d)=((a*256+b)*256+c)*256+d:=by
 obtain⟨x,rfl,hx⟩:=Vg ha;obtain⟨y,rfl,hy⟩:=Vg hb;obtain⟨z,rfl,hz⟩:=Vg hc;obtain⟨t,rfl,ht⟩:=Vg hd;have w: ∀n:Nat,n<256->ahy.wrap (n:Int)=(n:Int):=fun n hn=>by rw[SG];omega
 rw[w x hx,w y hy,w z hz,w t ht,show (24:Int)=((24:Nat):Int)from rfl,show (16:Int)=((16:Nat):Int)from rfl,show (8:Int)=((8:Nat):Int)from rfl,
  acA hx 24 (by decide),acA hy 16 (by decide),acA hz 8 (by decide),abV 24 (by omega) (by omega),
  show ((2^24*x+2^16*y:Nat):Int)=((2^16*(256*x+y):Nat):Int) by omega,abV 16 (by omega) (by omega),
  show ((2^16*(256*x+y)+2^8*z:Nat):Int)=((2^8*((256*x+y)*256+z):Nat):Int) by omega,abV 8 (by omega) (by omega)]
 omega
theorem Ph(x:Int)(k m:Nat)(K:IntKind)(hm:m<=K.bits):I_ K x (m:Int)=x/2^m:=by
 show x.fdiv (2^min ((m:Int).toNat) K.bits)=_;rw[aht,ahN hm,Int.fdiv_eq_ediv_of_nonneg _ (by exact Int.le_of_lt (Int.pow_pos (by decide)))]
end Go.AM
end
section
namespace Go.AM
theorem acp{v:VV}{r:RR}{k:CK}{MZ:List Int}(hv:okV v)(hf:P_ v=true)(hr:Y6 r)(hk:KOk k)(hn:MZ.length<Nr):
  Qi.run .lim (v,r,k,MZ,())=some ((mkS v (Px r) k MZ).1,(mkS v (Px r) k MZ).2.1,(mkS v (Px r) k MZ).2.2,()):=by
 have hn63:MZ.length<9223372036854775808:=hn;have hl:=hr.len;have hm:=QJ hr;unfold mkS;simp only[Qi.run,MS (show r.1.length<9223372036854775808 by omega),abZ hr,MX (show (0:Int)<=((r.1.length-1:Nat):Int) by omega) (show ((r.1.length-1:Nat):Int)<(r.1.length:Int) by omega),cond_true,Zt hk,ahk,MS hn63];by_cases h1:Ti k=true
 ·rw[h1,if_pos rfl];simp only[ahn,cond_false];by_cases h2:MZ.length=16
  ·rw[MO (show (MZ.length:Int)=16 by omega),if_pos h2];have T:=abI (hr.key _ hm) (hr.kb _ hm) h1 h2;have hs:=Yp hv T;have hsl:(OY v (Px r).2.1 [Vd (Px r).1,MZ] (PO k)).2.1.length<9223372036854775000:=by
    have:=XY hf (Px r).2.1 [Vd (Px r).1,MZ] (PO k);omega
   obtain⟨j1,j2⟩:=aau (id:=(Px r).1) h2 hsl;unfold Px Vd at*;simp only[ahn,cond_false,XI h1,Qm.run,ahk,hs,j1,j2,cond_true];by_cases h3:(OY v (rd r0 r.1 ((r.1.length-1:Nat):Int)).2.1 [[ahm.wrap (I_ .u32 (rd r0 r.1 ((r.1.length-1:Nat):Int)).1 24),ahm.wrap (I_ .u32 (rd r0 r.1 ((r.1.length-1:Nat):Int)).1 16),ahm.wrap (I_ .u32 (rd r0 r.1 ((r.1.length-1:Nat):Int)).1 8),ahm.wrap (rd r0 r.1 ((r.1.length-1:Nat):Int)).1],MZ] (PO k)).2.2=0
   ·rw[MO h3,if_pos h3];rfl
   ·rw[MR h3,if_neg h3];rfl
  ·rw[MR (show ¬(MZ.length:Int)=16 by omega),if_neg h2];rfl
 ·have h1':Ti k=false:=by simpa using h1
  rw[h1',if_neg (by decide)];rfl
def TY(xs:List RK)(id:Int):Int:=match (ahu xs.length).find? (fun j:Nat=>decide ((rd r0 xs (j:Int)).1=id))with
 |some k=>(k:Int)
 |none=> -1
theorem aeS{r:RR}(id:Int)(h:r.1.length<Nr):Qv.run .lim (r,id,())=some (TY r.1 id):=by
 have h63:r.1.length<9223372036854775808:=h;have e:=Qp (f:=Qv.l0 .lim) (fun j=>(r.1,(r.1.length:Int),(j:Int),id,())) r.1.length (fun j=>decide ((rd r0 r.1 (j:Int)).1=id)) (fun j=>some (.inl ((j:Int),()))) (fun k hk=>by
  rw[Qv.q0];simp only[Qv.b0,MO (show (k:Int)<(r.1.length:Int) by omega),MX (show (0:Int)<=(k:Int) by omega) (show (k:Int)<(r.1.length:Int) by omega),cond_true,wk k (by omega)])
 rw[show ((0:Nat):Int)=0 from rfl]at e;simp only[Qv.run,MS h63,cond_true,e];unfold TY;cases hq:(ahu r.1.length).find? (fun j:Nat=>decide ((rd r0 r.1 (j:Int)).1=id))with
 |some k=>rfl
 |none=>
  simp only;rw[Qv.q0];simp only[Qv.b0,MR (show ¬(r.1.length:Int)<(r.1.length:Int) by omega),cond_false,ahk]
theorem adt{r:RR}(id:Int)(h:r.1.length<Nr):Ou.run .lim (r,id,())=some (TY r.1 id):=by
 have h63:r.1.length<9223372036854775808:=h;have e:=Qp (f:=Ou.l0 .lim) (fun j=>(id,(j:Int),r.1,r.2,())) r.1.length (fun j=>decide ((rd r0 r.1 (j:Int)).1=id)) (fun j=>some (.inl ((j:Int),()))) (fun k hk=>by
  rw[Ou.q0];simp only[Ou.b0,MS h63,MO (show (k:Int)<(r.1.length:Int) by omega),MX (show (0:Int)<=(k:Int) by omega) (show (k:Int)<(r.1.length:Int) by omega),cond_true,wk k (by omega)])
 rw[show ((0:Nat):Int)=0 from rfl]at e;simp only[Ou.run,e];unfold TY;cases hq:(ahu r.1.length).find? (fun j:Nat=>decide ((rd r0 r.1 (j:Int)).1=id))with
 |some k=>rfl
 |none=>
  simp only;rw[Ou.q0];simp only[Ou.b0,MS h63,MR (show ¬(r.1.length:Int)<(r.1.length:Int) by omega),cond_true,cond_false,ahk]
theorem Xu{xs:List RK}{id:Int}:(TY xs id= -1/\ ∀k,k<xs.length->(rd r0 xs (k:Int)).1≠id)\/ ∃k,k<xs.length/\TY xs id=(k:Int)/\(rd r0 xs (k:Int)).1=id/\ ∀j,j<k->(rd r0 xs (j:Int)).1≠id:=by
 unfold TY;cases hq:(ahu xs.length).find? (fun j:Nat=>decide ((rd r0 xs (j:Int)).1=id))with
 |some k=>
  obtain⟨h1,h2,h3⟩:=List.find?_range_eq_some.1 hq;exact .inr ⟨k,ahH.1 h2,rfl,by simpa using h1,fun j hj=>by simpa using h3 j hj⟩
 |none=>
  refine .inl ⟨rfl,fun k hk=> ?_⟩;have:=aii.1 hq k (ahH.2 hk);simpa using this
def WM(s:List Int):Int:=((rd 0 s 0*256+rd 0 s 1)*256+rd 0 s 2)*256+rd 0 s 3
theorem Ye{s:List Int}(h:Bs s){i:Int}(h1:0<=i)(h2:i<s.length):B8 (rd 0 s i):=h _ (Oj h1 h2)
def kOf(p:List Int):CK:=(rd 0 p 0*256+rd 0 p 1,cut p 4 ((2+p.length/2:Nat):Int),cut p ((2+p.length/2:Nat):Int) (p.length:Int))
def Xz(p:List Int):CK×Int:=if 4<=p.length/\Ti (kOf p)=true/\PO (kOf p)=p then(kOf p,0)else((0,([],[])),10)
noncomputable def Qr(v:VV)(r:RR)(s:List Int):CK×Int:=
 if s.length<20 then((0,([],[])),11)else
 if TY r.1 (WM s)<0 then((0,([],[])),19)else
 if(Pm v (rd r0 r.1 (TY r.1 (WM s))).2.1 [cut s 0 4,cut s 4 20] (cut s 20 (s.length:Int))).2=0 then
  Xz (Pm v (rd r0 r.1 (TY r.1 (WM s))).2.1 [cut s 0 4,cut s 4 20] (cut s 20 (s.length:Int))).1
 else((0,([],[])),(Pm v (rd r0 r.1 (TY r.1 (WM s))).2.1 [cut s 0 4,cut s 4 20] (cut s 20 (s.length:Int))).2)
theorem Q8{α:Type}{s:List α}{a b:Nat}(h1:a<=b)(h2:b<=s.length):(cut s (a:Int) (b:Int)).length=b-a:=by unfold cut;simp;omega
theorem ZT{s:List Int}(h:Bs s)(a b:Int):Bs (cut s a b):=fun x hx=>by
 unfold cut at hx;exact h x (ahT (ah3 hx))
theorem acd{p:List Int}(h:p.length<Nr)(h4:4<=p.length):KOk (kOf p):=by
 have h':p.length<9223372036854775808:=h;unfold kOf;refine⟨?_,?_⟩
 ·show (cut p ((4:Nat):Int) ((2+p.length/2:Nat):Int)).length<Nr;rw[Q8 (by omega) (by omega)];exact Oe (by omega)
 ·show (cut p ((2+p.length/2:Nat):Int) (p.length:Int)).length<Nr;rw[Q8 (by omega) (by omega)];exact Oe (by omega)
theorem Y_{v:VV}{r:RR}{s:List Int}(hv:okV v)(hf:P_ v=true)(hb:vB v)(hr:Y6 r)(hs:s.length<Nr)(hsb:Bs s):
  SL.run .lim (v,r,s,())=some ((Qr v r s).1,(Qr v r s).2,()):=by
 have hs63:s.length<9223372036854775808:=hs;have hl:=hr.len;unfold Qr;simp only[SL.run,MS hs63,cond_true];by_cases h1:s.length<20
 ·rw[MO (show (s.length:Int)<20 by omega),if_pos h1];rfl
 ·rw[MR (show ¬(s.length:Int)<20 by omega),if_neg h1];have hi: ∀i:Int,0<=i->i<4->B8 (rd 0 s i):=fun i a b=>Ye hsb a (by omega)
  have hn:KO .u32 (KO .u32 (KO .u32 (I9 .u32 (ahy.wrap (rd 0 s 0)) 24) (I9 .u32 (ahy.wrap (rd 0 s 1)) 16)) (I9 .u32 (ahy.wrap (rd 0 s 2)) 8)) (ahy.wrap (rd 0 s 3))=WM s:=
   afD (hi 0 (by omega) (by omega)) (hi 1 (by omega) (by omega)) (hi 2 (by omega) (by omega)) (hi 3 (by omega) (by omega))
  simp only[cond_false,MX (show (0:Int)<=0 by omega) (show (0:Int)<(s.length:Int) by omega),MX (show (0:Int)<=1 by omega) (show (1:Int)<(s.length:Int) by omega),MX (show (0:Int)<=2 by omega) (show (2:Int)<(s.length:Int) by omega),MX (show (0:Int)<=3 by omega) (show (3:Int)<(s.length:Int) by omega),cond_true,hn,aeS (WM s) (show r.1.length<Nr from Oe (by omega)),ahk];rcases Xu (xs:=r.1) (id:=WM s)with⟨e,_⟩|⟨k,hk,e,_,_⟩
  ·rw[e,MO (show (-1:Int)<0 by decide),if_pos (show (-1:Int)<0 by decide)];rfl
  ·rw[e,MR (show ¬(k:Int)<0 by omega),if_neg (show ¬(k:Int)<0 by omega)];have hm:rd r0 r.1 (k:Int)∈r.1:=Oj (by omega) (by omega);have T:Vu (rd r0 r.1 (k:Int)).2.1 [cut s 0 4,cut s 4 20] (cut s 20 (s.length:Int)):=by
    have c1:(cut s 0 4).length=4:=Q8 (a:=0) (b:=4) (by omega) (by omega);have c2:(cut s 4 20).length=16:=Q8 (a:=4) (b:=20) (by omega) (by omega);have c3:(cut s 20 (s.length:Int)).length=s.length-20:=Q8 (a:=20) (b:=s.length) (by omega) (by omega);refine⟨Oe (by rw[hr.key _ hm];omega),hr.kb _ hm,(show (2:Nat)<Nr by decide),fun t ht=> ?_,Oe (by omega)⟩;simp only[ahW,ahO,or_false]at ht;rcases ht with rfl|rfl
    ·exact Oe (by omega)
    ·exact Oe (by omega)
   simp only[cond_false,MX (show (0:Int)<=(k:Int) by omega) (show (k:Int)<(r.1.length:Int) by omega),Na (show (0:Int)<=0 by omega) (show (0:Int)<=4 by omega) (show (4:Int)<=(s.length:Int) by omega),
    Na (show (0:Int)<=4 by omega) (show (4:Int)<=20 by omega) (show (20:Int)<=(s.length:Int) by omega),Na (show (0:Int)<=20 by omega) (show (20:Int)<=(s.length:Int) by omega) (show (s.length:Int)<=(s.length:Int) by omega),cond_true,XG hv T (ZT hsb _ _),ahk]
   by_cases h0:(Pm v (rd r0 r.1 (k:Int)).2.1 [cut s 0 4,cut s 4 20] (cut s 20 (s.length:Int))).2=0
   ·obtain⟨_,y2,_,y4⟩:=UA hf hb h0;rw[MO h0,if_pos h0];generalize (Pm v (rd r0 r.1 (k:Int)).2.1 [cut s 0 4,cut s 4 20] (cut s 20 (s.length:Int))).1=p at y2 y4 ⊢
    unfold Xz;simp only[ahn,cond_false,MS (show p.length<9223372036854775808 by omega),cond_true];by_cases h4:p.length<4
    ·rw[MO (show (p.length:Int)<4 by omega),if_neg (by omega)];rfl
    ·have hm2:ahl.wrap (2+ahl.wrap ((p.length:Int).tdiv 2))=((2+p.length/2:Nat):Int):=by rw[ahF (by omega),wrap64 (n:=(p.length:Int)/2) (by omega) (by omega),wrap64 (by omega) (by omega)];omega
     have hn2:=aeN (Ye y4 (show (0:Int)<=0 by omega) (show (0:Int)<(p.length:Int) by omega)) (Ye y4 (show (0:Int)<=1 by omega) (show (1:Int)<(p.length:Int) by omega));have hko:=acd (p:=p) (Oe (by omega)) (by omega);rw[MR (show ¬(p.length:Int)<4 by omega)];simp only[cond_false,MX (show (0:Int)<=0 by omega) (show (0:Int)<(p.length:Int) by omega),MX (show (0:Int)<=1 by omega) (show (1:Int)<(p.length:Int) by omega),cond_true,hm2,hn2,
      Na (show (0:Int)<=4 by omega) (show (4:Int)<=((2+p.length/2:Nat):Int) by omega) (show ((2+p.length/2:Nat):Int)<=(p.length:Int) by omega),
      Na (show (0:Int)<=((2+p.length/2:Nat):Int) by omega) (show ((2+p.length/2:Nat):Int)<=(p.length:Int) by omega) (show (p.length:Int)<=(p.length:Int) by omega)]
     change (RG.run .lim (kOf p,())).bind _=_
     rw[aaq hko,ahk];by_cases hq:Ti (kOf p)=true
     ·have hpl:=Yg hq;unfold kOf at hq hpl ⊢
      rw[hq];simp only[ahn,ahz,cond_true,hpl,ahk,ah1];by_cases hw:PO (rd 0 p 0*256+rd 0 p 1,cut p 4 ((2+p.length/2:Nat):Int),cut p ((2+p.length/2:Nat):Int) (p.length:Int))=p
      ·rw[MO hw,if_pos ⟨by omega,by first|rfl|trivial,hw⟩];rfl
      ·rw[MR hw,if_neg (fun z=>hw z.2.2)];rfl
     ·have hq':Ti (kOf p)=false:=by simpa using hq
      rw[if_neg (fun z=>hq z.2.1)];rw[hq'];rfl
   ·rw[MR h0,if_neg h0];rfl
theorem Ym{v:VV}{r:RR}{s:List Int}(hv:okV v)(hf:P_ v=true)(hb:vB v)(hr:Y6 r)(hs:s.length<Nr)(hsb:Bs s):
  Qj.run .lim (v,r,s,())=some ((Qr v r s).1,(Qr v r s).2,()):=by
 have hs63:s.length<9223372036854775808:=hs;have hl:=hr.len;unfold Qr;simp only[Qj.run,MS hs63,cond_true];by_cases h1:s.length<20
 ·rw[MO (show (s.length:Int)<20 by omega),if_pos h1];rfl
 ·rw[MR (show ¬(s.length:Int)<20 by omega),if_neg h1];have hi: ∀i:Int,0<=i->i<4->B8 (rd 0 s i):=fun i a b=>Ye hsb a (by omega)
  have hn:KO .u32 (KO .u32 (KO .u32 (I9 .u32 (ahy.wrap (rd 0 s 0)) 24) (I9 .u32 (ahy.wrap (rd 0 s 1)) 16)) (I9 .u32 (ahy.wrap (rd 0 s 2)) 8)) (ahy.wrap (rd 0 s 3))=WM s:=
   afD (hi 0 (by omega) (by omega)) (hi 1 (by omega) (by omega)) (hi 2 (by omega) (by omega)) (hi 3 (by omega) (by omega))
  simp only[cond_false,MX (show (0:Int)<=0 by omega) (show (0:Int)<(s.length:Int) by omega),MX (show (0:Int)<=1 by omega) (show (1:Int)<(s.length:Int) by omega),MX (show (0:Int)<=2 by omega) (show (2:Int)<(s.length:Int) by omega),MX (show (0:Int)<=3 by omega) (show (3:Int)<(s.length:Int) by omega),cond_true,hn,adt (WM s) (show r.1.length<Nr from Oe (by omega)),ahk];rcases Xu (xs:=r.1) (id:=WM s)with⟨e,_⟩|⟨k,hk,e,_,_⟩
  ·rw[e,MO (show (-1:Int)<0 by decide),if_pos (show (-1:Int)<0 by decide)];rfl
  ·rw[e,MR (show ¬(k:Int)<0 by omega),if_neg (show ¬(k:Int)<0 by omega)];have hm:rd r0 r.1 (k:Int)∈r.1:=Oj (by omega) (by omega);have T:Vu (rd r0 r.1 (k:Int)).2.1 [cut s 0 4,cut s 4 20] (cut s 20 (s.length:Int)):=by
    have c1:(cut s 0 4).length=4:=Q8 (a:=0) (b:=4) (by omega) (by omega);have c2:(cut s 4 20).length=16:=Q8 (a:=4) (b:=20) (by omega) (by omega);have c3:(cut s 20 (s.length:Int)).length=s.length-20:=Q8 (a:=20) (b:=s.length) (by omega) (by omega);refine⟨Oe (by rw[hr.key _ hm];omega),hr.kb _ hm,(show (2:Nat)<Nr by decide),fun t ht=> ?_,Oe (by omega)⟩;simp only[ahW,ahO,or_false]at ht;rcases ht with rfl|rfl
    ·exact Oe (by omega)
    ·exact Oe (by omega)
   simp only[cond_false,MX (show (0:Int)<=(k:Int) by omega) (show (k:Int)<(r.1.length:Int) by omega),Na (show (0:Int)<=0 by omega) (show (0:Int)<=4 by omega) (show (4:Int)<=(s.length:Int) by omega),
    Na (show (0:Int)<=4 by omega) (show (4:Int)<=20 by omega) (show (20:Int)<=(s.length:Int) by omega),Na (show (0:Int)<=20 by omega) (show (20:Int)<=(s.length:Int) by omega) (show (s.length:Int)<=(s.length:Int) by omega),cond_true,Yo hv T,ahk]
   by_cases h0:(Pm v (rd r0 r.1 (k:Int)).2.1 [cut s 0 4,cut s 4 20] (cut s 20 (s.length:Int))).2=0
   ·obtain⟨_,y2,_,y4⟩:=UA hf hb h0;rw[MO h0,if_pos h0];generalize (Pm v (rd r0 r.1 (k:Int)).2.1 [cut s 0 4,cut s 4 20] (cut s 20 (s.length:Int))).1=p at y2 y4 ⊢
    unfold Xz;simp only[ahn,cond_false,MS (show p.length<9223372036854775808 by omega),cond_true];by_cases h4:p.length<4
    ·rw[MR (show ¬(p.length:Int)>=4 by omega),if_neg (by omega)];rfl
    ·have hm2:ahl.wrap (4+ahl.wrap ((ahl.wrap ((p.length:Int)-4)).tdiv 2))=((2+p.length/2:Nat):Int):=by rw[wrap64 (n:=(p.length:Int)-4) (by omega) (by omega),ahF (by omega),wrap64 (n:=((p.length:Int)-4)/2) (by omega) (by omega),wrap64 (by omega) (by omega)];omega
     have hn2:=ab_ (Ye y4 (show (0:Int)<=0 by omega) (show (0:Int)<(p.length:Int) by omega)) (Ye y4 (show (0:Int)<=1 by omega) (show (1:Int)<(p.length:Int) by omega));have hko:=acd (p:=p) (Oe (by omega)) (by omega);rw[MO (show (p.length:Int)>=4 by omega)];simp only[cond_false,MX (show (0:Int)<=0 by omega) (show (0:Int)<(p.length:Int) by omega),MX (show (0:Int)<=1 by omega) (show (1:Int)<(p.length:Int) by omega),cond_true,hm2,hn2,
      Na (show (0:Int)<=4 by omega) (show (4:Int)<=((2+p.length/2:Nat):Int) by omega) (show ((2+p.length/2:Nat):Int)<=(p.length:Int) by omega),
      Na (show (0:Int)<=((2+p.length/2:Nat):Int) by omega) (show ((2+p.length/2:Nat):Int)<=(p.length:Int) by omega) (show (p.length:Int)<=(p.length:Int) by omega)]
     change (O4.run .lim (kOf p,())).bind _=_
     rw[Zt hko,ahk];by_cases hq:Ti (kOf p)=true
     ·have hpl:=XI hq;unfold kOf at hq hpl ⊢
      rw[hq];simp only[ahn,ahz,cond_true,hpl,ahk,ah1];by_cases hw:PO (rd 0 p 0*256+rd 0 p 1,cut p 4 ((2+p.length/2:Nat):Int),cut p ((2+p.length/2:Nat):Int) (p.length:Int))=p
      ·rw[MO hw,if_pos ⟨by omega,by first|rfl|trivial,hw⟩];rfl
      ·rw[MR hw,if_neg (fun z=>hw z.2.2)];rfl
     ·have hq':Ti (kOf p)=false:=by simpa using hq
      rw[if_neg (fun z=>hq z.2.1)];rw[hq'];rfl
   ·rw[MR h0,if_neg h0];rfl
end Go.AM
end
section
namespace Go.AM
def badR(r:RR)(i:Nat):Bool:=
 ((!decide ((rd r0 r.1 (i:Int)).2.1.length=32))||(!decide ((rd r0 r.1 (i:Int)).1=(r.2-((r.1.length-i:Nat):Int))%4294967296)))||(decide (0<i)&&decide ((rd r0 r.1 (i:Int)).2.2<(rd r0 r.1 ((i-1:Nat):Int)).2.2))
def YH(r:RR):Bool:=decide (1<=r.1.length/\r.1.length<=8)&& !((ahu r.1.length).any (badR r))
theorem ac5{r:RR}(hl:r.1.length<Nr)(hk: ∀k∈r.1,k.2.1.length<Nr):OA.run .lim (r,())=some (YH r):=by
 have hl63:r.1.length<9223372036854775808:=hl;simp only[OA.run,MS hl63,cond_true];unfold YH;by_cases h:1<=r.1.length/\r.1.length<=8
 ·have hn:(decide ((r.1.length:Int)<1)||decide ((r.1.length:Int)>8))=false:=by rw[MR (show ¬(r.1.length:Int)<1 by omega),MR (show ¬(r.1.length:Int)>8 by omega)];rfl
  have e:=Tt (f:=OA.l0 .lim) (fun j=>((r.1.length:Int),(j:Int),r.1,r.2,())) r.1.length (badR r) (some (.inl (false,()))) (fun k hk'=>by
   have hkl:=hk _ (Oj (d:=r0) (xs:=r.1) (i:=(k:Int)) (by omega) (by omega));have abT:(rd r0 r.1 (k:Int)).2.1.length<9223372036854775808:=hkl;rw[OA.q0];have hw:ahy.wrap (r.2-ahy.wrap (ahl.wrap ((r.1.length:Int)-(k:Int))))=(r.2-((r.1.length-k:Nat):Int))%4294967296:=by rw[wrap64 (by omega) (by omega),SG,SG];omega
   have hd:decide (((rd r0 r.1 (k:Int)).2.1.length:Int)=32)=decide ((rd r0 r.1 (k:Int)).2.1.length=32):=by
    by_cases q:(rd r0 r.1 (k:Int)).2.1.length=32
    ·rw[MO q,MO (by omega)]
    ·rw[MR q,MR (by omega)]
   simp only[OA.b0,MO (show (k:Int)<(r.1.length:Int) by omega),MX (show (0:Int)<=(k:Int) by omega) (show (k:Int)<(r.1.length:Int) by omega),cond_true,MS abT,hw,hd,wk k (by omega)];unfold badR;by_cases h0:0<k
   ·have w1:ahl.wrap ((k:Int)-1)=((k-1:Nat):Int):=by rw[wrap64 (by omega) (by omega)];omega
    rw[w1,MX (show (0:Int)<=((k-1:Nat):Int) by omega) (show ((k-1:Nat):Int)<(r.1.length:Int) by omega),MO h0,MO (show (k:Int)>0 by omega)];simp only[ahw,cond_true,ah2]
   ·rw[MR h0,MR (show ¬(k:Int)>0 by omega)];simp only[ahR,ahz,ahU,cond_true,ah4,aiA])
  rw[show ((0:Nat):Int)=0 from rfl]at e;rw[hn,MO h];simp only[cond_false,ah2,e];cases hb:(ahu r.1.length).any (badR r)with
  |true=>rfl
  |false=>
   simp only[cond_false];rw[OA.q0];simp only[OA.b0,MR (show ¬(r.1.length:Int)<(r.1.length:Int) by omega),cond_false,ahk,ahz]
 ·have hn:(decide ((r.1.length:Int)<1)||decide ((r.1.length:Int)>8))=true:=by
   by_cases q:r.1.length<1
   ·rw[MO (show (r.1.length:Int)<1 by omega)];rfl
   ·rw[MO (show (r.1.length:Int)>8 by omega),ahw]
  rw[hn,MR h];rfl
theorem aaW{r:RR}(h:YH r=true):(1<=r.1.length/\r.1.length<=8)/\ ∀i,i<r.1.length->(rd r0 r.1 (i:Int)).2.1.length=32/\(rd r0 r.1 (i:Int)).1=(r.2-((r.1.length-i:Nat):Int))%4294967296/\(0<i->(rd r0 r.1 ((i-1:Nat):Int)).2.2<=(rd r0 r.1 (i:Int)).2.2):=by
 unfold YH at h;simp only[ahA,decide_eq_true_eq,ahM,ail,ahH]at h;refine⟨h.1,fun i hi=> ?_⟩;have:=h.2 i hi;unfold badR at this;simp only[ais,ahM,decide_eq_false_iff_not,ahA,decide_eq_true_eq,not_or,not_and,Decidable.not_not]at this;exact⟨this.1.1,this.1.2,fun h0=>by have:=this.2 h0;omega⟩
structure RB(r:RR):Prop where
 l:r.1.length<Nr
 k: ∀k∈r.1,k.2.1.length<Nr/\Bs k.2.1
theorem aeQ{r:RR}(h:YH r=true)(b:RB r):Y6 r:=by
 obtain⟨h1,h2⟩:=aaW h;refine⟨h1,fun k hk=> ?_,fun k hk=>(b.k k hk).2⟩;obtain⟨i,hi,e⟩:=List.getElem_of_mem hk;have:=(h2 i hi).1;rw[Rj hi,e]at this;exact this
end Go.AM
end
section
namespace Go.AM
abbrev FF:=Int×List Int
abbrev f0:FF:=((0:Int),([]:List Int))
def OI(s:List Int):Int:=s.foldl (fun n c=>n*256+c) 0
theorem YA(s:List Int)(c:Int):OI (s++[c])=OI s*256+c:=by unfold OI;rw[List.foldl_append];rfl
theorem VP{s:List Int}(hs:Bs s): ∀k,k<=s.length->0<=OI (s.take k)/\OI (s.take k)<256^k:=by
 intro k
 induction k with
 |zero=>intro _;simp[OI]
 |succ k ih=>
  intro hk;have h:=ih (by omega);rw[U5 (d:=(0:Int)) (by omega),YA,Int.pow_succ];have hc:=hs _ (Oj (d:=(0:Int)) (i:=(k:Int)) (by omega) (by omega));omega
theorem aeO{k:Nat}(h:k<=7):(256:Int)^k<=72057594037927936:=by
 have h1:=aiw (n:=256) (by decide) h;have h2:((256^k:Nat):Int)=(256:Int)^k:=by rw[Int.natCast_pow];rfl
 omega
theorem aei{a b:Nat}(m:Nat)(h:b<2^m)(hm:2^m*a+b<18446744073709551616):KO .u64 ((2^m*a:Nat):Int) (b:Int)=((2^m*a+b:Nat):Int):=by
 show ahv.wrap ((ahB 64 ((2^m*a:Nat):Int) ||| ahB 64 (b:Int)).toNat:Int)=_;rw[Z8 (ahK (aib _ b) hm) (ahK (aiv _ (2^m*a)) hm),Z7 h,SH];omega
theorem aeU{n c:Int}(h0:0<=n)(h1:n<72057594037927936)(hc:B8 c):KO .u64 (I9 .u64 n 8) (ahv.wrap c)=n*256+c:=by
 obtain⟨x,rfl⟩:=ahL h0;obtain⟨y,rfl,hy⟩:=Vg hc;have e:I9 .u64 (x:Int) 8=((2^8*x:Nat):Int):=by
  show ahv.wrap ((x:Int)*2^8)=_;rw[SH];omega
 have e2:ahv.wrap (y:Int)=(y:Int):=by rw[SH];omega
 rw[e,e2,aei 8 (by omega) (by omega)];omega
theorem ZH{s:List Int}(hs:Bs s)(hl:s.length<=8){k:Nat}(hk:k<s.length):KO .u64 (I9 .u64 (OI (s.take k)) 8) (ahv.wrap (rd 0 s (k:Int)))=OI (s.take (k+1)):=by
 have hb:=VP hs k (by omega);have hp:=aeO (k:=k) (by omega);rw[aeU hb.1 (by omega) (hs _ (Oj (by omega) (by omega))),U5 (d:=(0:Int)) hk,YA]
theorem VQ{s:List Int}(hs:Bs s)(hl:s.length<=8):Ol.run .lim (s,())=some (OI s):=by
 have e:=Om (f:=Ol.l0 .lim) (fun k=>(s,OI (s.take k),(s.length:Int),(k:Int),())) (n:=s.length) (fun k hk=>by
  rw[Ol.q0];simp only[Ol.b0,MO (show (k:Int)<(s.length:Int) by omega),MX (show (0:Int)<=(k:Int) by omega) (show (k:Int)<(s.length:Int) by omega),cond_true,QO k (by omega),ZH hs hl hk])
 have e0:Ol.l0 .lim (s,0,(s.length:Int),0,())=Ol.l0 .lim (s,OI (s.take s.length),(s.length:Int),(s.length:Int),()):=e;simp only[Ol.run,MS (show s.length<9223372036854775808 by omega),cond_true,e0,ahI];rw[Ol.q0];simp only[Ol.b0,MR (show ¬(s.length:Int)<(s.length:Int) by omega),cond_false,ahk]
theorem U1{s:List Int}(hs:Bs s)(hl:s.length<=8):Nc.run .lim (s,())=some (OI s):=by
 have e:=Om (f:=Nc.l0 .lim) (fun k=>(s,OI (s.take k),(k:Int),())) (n:=s.length) (fun k hk=>by
  rw[Nc.q0];simp only[Nc.b0,MS (show s.length<9223372036854775808 by omega),MO (show (k:Int)<(s.length:Int) by omega),MX (show (0:Int)<=(k:Int) by omega) (show (k:Int)<(s.length:Int) by omega),cond_true,QO k (by omega),ZH hs hl hk])
 have e0:Nc.l0 .lim (s,0,0,())=Nc.l0 .lim (s,OI (s.take s.length),(s.length:Int),()):=e;simp only[Nc.run,e0,ahI];rw[Nc.q0];simp only[Nc.b0,MS (show s.length<9223372036854775808 by omega),MR (show ¬(s.length:Int)<(s.length:Int) by omega),cond_true,cond_false,ahk]
theorem Ql{α:Type}{s:List α}{a b:Nat}{i j:Int}(hi:i=(a:Int))(hj:j=(b:Int)):cut s i j=(s.take b).drop a:=by subst hi;subst hj;rfl
theorem Si{α:Type}{s:List α}{a:Nat}{i:Int}(hi:i=(a:Int)):cut s i (s.length:Int)=s.drop a:=by subst hi;unfold cut;rw[aht,aht,ahI]
theorem Bs.take{s:List Int}(h:Bs s)(n:Nat):Bs (s.take n):=fun x hx=>h x (ahT hx)
theorem Bs.drop{s:List Int}(h:Bs s)(n:Nat):Bs (s.drop n):=fun x hx=>h x (ah3 hx)
theorem Bs.cut{s:List Int}(h:Bs s)(i j:Int):Bs (cut s i j):=fun x hx=>h x (ahT (ah3 hx))
theorem Bs.app{s t:List Int}(h:Bs s)(k:Bs t):Bs (s++t):=fun x hx=>(ahC.1 hx).elim (h x) (k x)
theorem ae6{n:Int}(h0:0<=n)(h1:n<9223372036854775808):I8 .i64 n 3=n%4:=by
 obtain⟨x,rfl⟩:=ahL h0;show ahl.wrap ((ahB 64 (x:Int) &&& ahB 64 3).toNat:Int)=_;rw[aiD,ahX,show (ahB 64 3).toNat=2^2-1 from rfl,ah9];have e:((x:Int)%((2^64:Nat):Int)).toNat=x:=by omega
 rw[e,wrap64 (by omega) (by omega)];omega
def OQ(s:List Int):Nat:=(OI ((s.take 4).drop 2)).toNat
def Vk(s:List Int):Prop:=s.length<4\/OQ s<16\/OQ s%4≠0\/OQ s>s.length
instance (s:List Int):Decidable (Vk s):=by unfold Vk;exact inferInstance
def fOf(s:List Int):FF:=(OI (s.take 2),(s.take (OQ s)).drop 4)
def U6:Nat->List Int->List FF->List FF×Int
 |0,_,acc=>(acc,0)
 |n+1,s,acc=>if s=[]then(acc,0)else if Vk s then([],10)else if acc.length=16 then([],18)else U6 n (s.drop (OQ s)) (acc++[fOf s])
theorem YG{s:List Int}(hs:Bs s)(h:4<=s.length):OI ((s.take 4).drop 2)=(OQ s:Int)/\OQ s<65536:=by
 have hb:Bs ((s.take 4).drop 2):=(hs.take 4).drop 2;have hl:((s.take 4).drop 2).length=2:=by rw[aho,ahq];omega
 have:=VP hb 2 (by omega);rw[ahr (by omega)]at this;unfold OQ;omega
theorem YW{s:List Int}(hs:Bs s)(h:2<=s.length):0<=OI (s.take 2)/\OI (s.take 2)<65536:=by
 have:=VP hs 2 (by omega);omega
theorem adE: ∀(n:Nat) (s:List Int) (acc:List FF),s.length<=n->Bs s->s.length<9223372036854775808->acc.length<=16->
  ((OG.l0 .lim (s,0,acc,())).bind fun g_=>match g_ with
   | .inl (m,m1,())=>some (([]:List FF),m,())
   | .inr (.inl (m2,m3,()))=>some (([]:List FF),m2,())
   | .inr (.inr (m4,m5,()))=>some (m5,0,()))=some ((U6 n s acc).1,(U6 n s acc).2,()):=by
 intro n
 induction n with
 |zero=>
  intro s acc hn _ _ _;obtain rfl:s=[]:=ah7.1 (by omega);rw[OG.q0];simp only[OG.b0,decide_true,ahn,cond_false,ahk,U6]
 |succ n ih=>
  intro s acc hn hs hl ha;rw[OG.q0];by_cases h0:s=[]
  ·subst h0;simp only[OG.b0,decide_true,ahn,cond_false,ahk,U6,if_true]
  simp only[OG.b0,MR h0,ahz,cond_true,MS hl,U6,if_neg h0];by_cases h4:s.length<4
  ·simp only[MR (show ¬(s.length:Int)>=4 by omega),cond_false,ahk];rw[if_pos (show Vk s from .inl h4)]
  ·obtain⟨e1,e2⟩:=YG hs (by omega);have hc:cut s 2 4=(s.take 4).drop 2:=Ql (a:=2) (b:=4) rfl rfl;have hlen:((s.take 4).drop 2).length<=8:=by rw[aho,ahq];omega
   have w:ahl.wrap (OQ s:Int)=(OQ s:Int):=wrap64 (by omega) (by omega);simp only[MO (show (s.length:Int)>=4 by omega),cond_true,Na (show (0:Int)<=2 by omega) (show (2:Int)<=4 by omega) (show (4:Int)<=(s.length:Int) by omega),hc,VQ ((hs.take 4).drop 2) hlen,ahk,e1,w,ahw];have h3:I8 .i64 (OQ s:Int) 3=((OQ s%4:Nat):Int):=by rw[ae6 (by omega) (by omega)];omega
   by_cases hb:Vk s
   ·rw[if_pos hb];have hq:(((decide ((OQ s:Int)<16))||(!(decide ((I8 .i64 (OQ s:Int) 3)=0))))||(decide ((OQ s:Int)>(s.length:Int))))=true:=by
     rw[h3];rcases hb with hb|hb|hb|hb
     ·exact absurd hb h4
     ·simp only[MO (show (OQ s:Int)<16 by omega),ahU]
     ·simp only[MR (show ¬((OQ s%4:Nat):Int)=0 by omega),ahz,ahw,ahU]
     ·simp only[MO (show (OQ s:Int)>(s.length:Int) by omega),ahw]
    simp only[hq,cond_true,ahk]
   ·rw[if_neg hb];unfold Vk at hb;have hq:(((decide ((OQ s:Int)<16))||(!(decide ((I8 .i64 (OQ s:Int) 3)=0))))||(decide ((OQ s:Int)>(s.length:Int))))=false:=by rw[h3,MR (show ¬(OQ s:Int)<16 by omega),MO (show ((OQ s%4:Nat):Int)=0 by omega),MR (show ¬(OQ s:Int)>(s.length:Int) by omega)];rfl
    have hc2:cut s 0 2=s.take 2:=Ql (a:=0) (b:=2) rfl rfl;have hv:=YW hs (by omega);have w2:ahl.wrap (OI (s.take 2))=OI (s.take 2):=wrap64 (by omega) (by omega);have hc3:cut s 4 (OQ s:Int)=(s.take (OQ s)).drop 4:=Ql (a:=4) (b:=OQ s) rfl rfl;have hc4:cut s (OQ s:Int) (s.length:Int)=s.drop (OQ s):=Si rfl;simp only[hq,cond_false,Na (show (0:Int)<=0 by omega) (show (0:Int)<=2 by omega) (show (2:Int)<=(s.length:Int) by omega),cond_true,hc2,VQ (hs.take 2) (show (s.take 2).length<=8 by rw[ahq];omega),ahk,w2,
     Na (show (0:Int)<=4 by omega) (show (4:Int)<=(OQ s:Int) by omega) (show (OQ s:Int)<=(s.length:Int) by omega),Na (show (0:Int)<=(OQ s:Int) by omega) (show (OQ s:Int)<=(s.length:Int) by omega) (show (s.length:Int)<=(s.length:Int) by omega),MS (show acc.length<9223372036854775808 by omega),hc3,hc4]
    by_cases h16:acc.length=16
    ·rw[MO (show (acc.length:Int)=16 by omega),if_pos h16];rfl
    ·rw[MR (show ¬(acc.length:Int)=16 by omega),if_neg h16];simp only[cond_false];rw[cond_pos (MO (by simp;omega))];exact ih (s.drop (OQ s)) (acc++[fOf s]) (by rw[aho];omega) (hs.drop _) (by rw[aho];omega) (by simp;omega)
theorem acF{s:List Int}(hs:Bs s)(hl:s.length<9223372036854775808):OG.run .lim (s,())=some ((U6 s.length s []).1,(U6 s.length s []).2,()):=by
 simp only[OG.run];exact adE s.length s [] (ahZ _) hs hl (by simp)
theorem acy: ∀(n:Nat) (s:List Int) (acc:List FF),s.length<=n->Bs s->s.length<9223372036854775808->acc.length<=16->
  ((NH.l0 .lim (s,acc,())).bind fun g_=>match g_ with
   | .inl (t,())=>some (([]:List FF),t,())
   | .inr (.inl (t1,()))=>some (([]:List FF),t1,())
   | .inr (.inr (.inl (t2,())))=>some (([]:List FF),t2,())
   | .inr (.inr (.inr (m,())))=>some (m,0,()))=some ((U6 n s acc).1,(U6 n s acc).2,()):=by
 intro n
 induction n with
 |zero=>
  intro s acc hn _ _ _;obtain rfl:s=[]:=ah7.1 (by omega);rw[NH.q0];simp only[NH.b0,decide_true,ahn,cond_false,ahk,U6]
 |succ n ih=>
  intro s acc hn hs hl ha;rw[NH.q0];by_cases h0:s=[]
  ·subst h0;simp only[NH.b0,decide_true,ahn,cond_false,ahk,U6,if_true]
  simp only[NH.b0,MR h0,ahz,cond_true,MS hl,U6,if_neg h0];by_cases h4:s.length<4
  ·simp only[MO (show (s.length:Int)<4 by omega),cond_true,ahk];rw[if_pos (show Vk s from .inl h4)]
  ·obtain⟨e1,e2⟩:=YG hs (by omega);have hc:cut s 2 4=(s.take 4).drop 2:=Ql (a:=2) (b:=4) rfl rfl;have hlen:((s.take 4).drop 2).length<=8:=by rw[aho,ahq];omega
   have w:ahl.wrap (OQ s:Int)=(OQ s:Int):=wrap64 (by omega) (by omega);simp only[MR (show ¬(s.length:Int)<4 by omega),cond_true,cond_false,Na (show (0:Int)<=2 by omega) (show (2:Int)<=4 by omega) (show (4:Int)<=(s.length:Int) by omega),hc,U1 ((hs.take 4).drop 2) hlen,ahk,e1,w,ahw];have h3:(OQ s:Int).tmod 4=((OQ s%4:Nat):Int):=by rw[ahJ (by omega)];omega
   by_cases hb:Vk s
   ·rw[if_pos hb];have hq:(((decide ((OQ s:Int)<16))||(!(decide (((OQ s:Int).tmod 4)=0))))||(decide ((OQ s:Int)>(s.length:Int))))=true:=by
     rw[h3];rcases hb with hb|hb|hb|hb
     ·exact absurd hb h4
     ·simp only[MO (show (OQ s:Int)<16 by omega),ahU]
     ·simp only[MR (show ¬((OQ s%4:Nat):Int)=0 by omega),ahz,ahw,ahU]
     ·simp only[MO (show (OQ s:Int)>(s.length:Int) by omega),ahw]
    simp only[hq,cond_true,ahk]
   ·rw[if_neg hb];unfold Vk at hb;have hq:(((decide ((OQ s:Int)<16))||(!(decide (((OQ s:Int).tmod 4)=0))))||(decide ((OQ s:Int)>(s.length:Int))))=false:=by rw[h3,MR (show ¬(OQ s:Int)<16 by omega),MO (show ((OQ s%4:Nat):Int)=0 by omega),MR (show ¬(OQ s:Int)>(s.length:Int) by omega)];rfl
    have hc2:cut s 0 2=s.take 2:=Ql (a:=0) (b:=2) rfl rfl;have hv:=YW hs (by omega);have w2:ahl.wrap (OI (s.take 2))=OI (s.take 2):=wrap64 (by omega) (by omega);have hc3:cut s 4 (OQ s:Int)=(s.take (OQ s)).drop 4:=Ql (a:=4) (b:=OQ s) rfl rfl;have hc4:cut s (OQ s:Int) (s.length:Int)=s.drop (OQ s):=Si rfl;simp only[hq,cond_false,MS (show acc.length<9223372036854775808 by omega),cond_true];by_cases h16:acc.length=16
    ·rw[MO (show (acc.length:Int)=16 by omega),if_pos h16];rfl
    ·rw[MR (show ¬(acc.length:Int)=16 by omega),if_neg h16];simp only[cond_false,cond_true,Na (show (0:Int)<=0 by omega) (show (0:Int)<=2 by omega) (show (2:Int)<=(s.length:Int) by omega),hc2,U1 (hs.take 2) (show (s.take 2).length<=8 by rw[ahq];omega),ahk,w2,
      Na (show (0:Int)<=4 by omega) (show (4:Int)<=(OQ s:Int) by omega) (show (OQ s:Int)<=(s.length:Int) by omega),Na (show (0:Int)<=(OQ s:Int) by omega) (show (OQ s:Int)<=(s.length:Int) by omega) (show (s.length:Int)<=(s.length:Int) by omega),hc3,hc4]
     rw[cond_pos (MO (by simp;omega))];exact ih (s.drop (OQ s)) (acc++[fOf s]) (by rw[aho];omega) (hs.drop _) (by rw[aho];omega) (by simp;omega)
theorem acw{s:List Int}(hs:Bs s)(hl:s.length<9223372036854775808):NH.run .lim (s,())=some ((U6 s.length s []).1,(U6 s.length s []).2,()):=by
 simp only[NH.run];exact acy s.length s [] (ahZ _) hs hl (by simp)
end Go.AM
end
section
namespace Go.AM
theorem adA{n:Int}:I_ .i64 n 8=n/256:=by
 have:=Ph n 0 8 .i64 (by decide);exact this
def twoS(n:Int):List Int:=[ahm.wrap (I_ .i64 n 8),ahm.wrap n]
theorem O9(n:Int):(twoS n).length=2:=rfl
theorem acG(n:Int):Bs (twoS n):=fun x hx=>by
 unfold twoS at hx;simp only[ahW,ahO,or_false]at hx;rcases hx with rfl|rfl<;>exact UQ _
theorem aaO{t:List Int}(hb:Bs t)(hl:t.length=2):twoS (OI t)=t:=by
 match t,hl with
 |[a,b],_=>
  have ha:=hb a (.head _);have hb:=hb b (.tail _ (.head _));have e:OI [a,b]=a*256+b:=by simp[OI]
  unfold twoS;rw[e,adA,Qx,Qx];congr 1
  ·omega
  ·congr 1;omega
theorem val_two{n:Int}(h0:0<=n)(h1:n<65536):OI (twoS n)=n:=by
 unfold twoS OI;rw[adA,Qx,Qx];simp only[ait,aiy];omega
def Q9(f:FF):List Int:=twoS f.1++twoS ((f.2.length:Int)+4)++f.2
def Nv(l:List FF):List Int:=(l.map Q9).flatten
theorem QN(f:FF):(Q9 f).length=4+f.2.length:=by simp[Q9,twoS];omega
theorem VY(a b:List FF):Nv (a++b)=Nv a++Nv b:=by simp[Nv]
theorem UW(f:FF):Nv [f]=Q9 f:=by simp[Nv]
theorem Td{l:List FF}{k:Nat}(h:k<l.length):Nv (l.take (k+1))=Nv (l.take k)++Q9 (rd f0 l (k:Int)):=by rw[U5 (d:=f0) h,VY,UW]
theorem Xr(l:List FF)(k:Nat):(Nv (l.take k)).length<=(Nv l).length:=by
 have:Nv l=Nv (l.take k)++Nv (l.drop k):=by rw[<-VY,ahD]
 rw[this,ahp];omega
structure FOk(f:FF):Prop where
 k0:0<=f.1
 k1:f.1<65536
 l0:12<=f.2.length
 l4:f.2.length%4=0
 l1:f.2.length<65532
 b:Bs f.2
theorem ac3{s:List Int}(hs:Bs s)(hb: ¬Vk s):s.take (OQ s)=Q9 (fOf s)/\FOk (fOf s):=by
 unfold Vk at hb;obtain⟨e1,e2⟩:=YG hs (by omega);have hv:=YW hs (by omega);have hlen:((s.take (OQ s)).drop 4).length=OQ s-4:=by rw[aho,ahq];omega
 refine⟨?_,⟨hv.1,hv.2,by show 12<=((s.take (OQ s)).drop 4).length;omega,by show ((s.take (OQ s)).drop 4).length%4=0;omega,by show ((s.take (OQ s)).drop 4).length<65532;omega,(hs.take _).drop _⟩⟩;unfold Q9 fOf;have h2:twoS ((((s.take (OQ s)).drop 4).length:Int)+4)=(s.take 4).drop 2:=by
  rw[hlen,show ((OQ s-4:Nat):Int)+4=(OQ s:Int) by omega,<-e1];exact aaO ((hs.take 4).drop 2) (by rw[aho,ahq];omega)
 have h1:twoS (OI (s.take 2))=s.take 2:=aaO (hs.take 2) (by rw[ahq];omega);show s.take (OQ s)=twoS (OI (s.take 2))++twoS ((((s.take (OQ s)).drop 4).length:Int)+4)++(s.take (OQ s)).drop 4;rw[h1,h2];have h3:s.take 2++(s.take 4).drop 2=s.take 4:=by
  have:s.take 2=(s.take 4).take 2:=by rw[aik];rfl
  rw[this,ahD]
 have h4:s.take 4=(s.take (OQ s)).take 4:=by rw[aik,ahN (by omega)]
 rw[h3,h4,ahD]
theorem adF: ∀(n:Nat) (s:List Int) (acc:List FF),s.length<=n->Bs s->(U6 n s acc).2=0-> ∃l,(U6 n s acc).1=acc++l/\s=Nv l/\(∀f∈l,FOk f)/\(acc.length<=16->(acc++l).length<=16):=by
 intro n
 induction n with
 |zero=>
  intro s acc hn _ _;obtain rfl:s=[]:=ah7.1 (by omega);exact⟨[],by simp[U6],rfl,fun f hf=>(by cases hf),fun h=>by simpa using h⟩
 |succ n ih=>
  intro s acc hn hs he;by_cases h0:s=[]
  ·subst h0;exact⟨[],by simp[U6],rfl,fun f hf=>(by cases hf),fun h=>by simpa using h⟩
  ·simp only[U6,if_neg h0]at he ⊢
   by_cases hb:Vk s
   ·rw[if_pos hb]at he;exact absurd he (by decide)
   ·rw[if_neg hb]at he ⊢
    by_cases h16:acc.length=16
    ·rw[if_pos h16]at he;exact absurd he (by decide)
    ·rw[if_neg h16]at he ⊢
     obtain⟨e1,e2⟩:=ac3 hs hb;have hb':=hb;unfold Vk at hb';obtain⟨l,k1,k2,k3,k4⟩:=ih (s.drop (OQ s)) (acc++[fOf s]) (by rw[aho];omega) (hs.drop _) he;refine⟨fOf s::l,by rw[k1,ahE];rfl,?_,fun f hf=> ?_,fun h=> ?_⟩
     ·have:Nv (fOf s::l)=Q9 (fOf s)++Nv l:=by simp[Nv]
      rw[this,<-k2,<-e1,ahD]
     ·rcases ahW.1 hf with rfl|hf
      ·exact e2
      ·exact k3 f hf
     ·have:=k4 (by simp;omega);simpa[ahE]using this
def fE(f:FF):Int:=if f.1<0\/f.1>=65536 then 13 else if f.2.length<12\/f.2.length%4≠0 then 10 else 0
def Rw(l:List FF):Int:=if l.length>16 then 18 else match (ahu l.length).find? (fun k:Nat=> !decide (fE (rd f0 l (k:Int))=0))with
 |some k=>fE (rd f0 l (k:Int))
 |none=>if(Nv l).length>1232 then 12 else 0
def Q_(l:List FF):List Int:=if Rw l=0 then Nv l else []
theorem afj{f:FF}(h:FOk f):fE f=0:=by
 unfold fE;rw[if_neg (by have:=h.k0;have:=h.k1;omega),if_neg (by have:=h.l0;have:=h.l4;omega)]
theorem WW{l:List FF}(h: ∀f∈l,FOk f)(h16:l.length<=16)(hl:(Nv l).length<=1232):Rw l=0:=by
 unfold Rw;rw[if_neg (by omega)];have:(ahu l.length).find? (fun k:Nat=> !decide (fE (rd f0 l (k:Int))=0))=none:=aii.2 fun k hk=>by
  have hk:=ahH.1 hk;rw[MO (afj (h _ (Oj (by omega) (by omega))))];simp
 rw[this];simp only;rw[if_neg (by omega)]
def Sr(l:List FF):Nat->List Int
 |0=>[]
 |k+1=>if(Nv (l.take (k+1))).length>1232 then Sr l k else Sr l k++Q9 (rd f0 l (k:Int))
theorem Xd{l:List FF}: ∀k,k<=l.length->(Nv (l.take k)).length<=1232->Sr l k=Nv (l.take k):=by
 intro k
 induction k with
 |zero=>intro _ _;rfl
 |succ k ih=>
  intro hk h;have e:=Td (l:=l) (k:=k) (by omega);unfold Sr;rw[if_neg (by omega),e];rw[ih (by omega) (by rw[e,ahp]at h;omega)]
theorem adJ(n:Int):UO.run .lim (n,())=some (twoS n):=rfl
def FL(l:List FF):Prop:=l.length<9223372036854775808/\ ∀f∈l,f.2.length<=140737488351232
theorem Yh{l:List FF}(hl:FL l):Pj.run .lim (l,())=some (Q_ l,Rw l,()):=by
 obtain⟨h1,h2⟩:=hl;simp only[Pj.run,MS h1,cond_true];by_cases h16:l.length>16
 ·rw[MO (show (l.length:Int)>16 by omega)];have:Rw l=18:=by unfold Rw;rw[if_pos h16]
  unfold Q_;rw[this];rfl
 rw[MR (show ¬(l.length:Int)>16 by omega)];have e:=Qp (f:=Pj.l0 .lim) (fun k=>(decide ((Nv (l.take k)).length>1232),l,(l.length:Int),(k:Int),Sr l k,())) l.length (fun k:Nat=> !decide (fE (rd f0 l (k:Int))=0))
  (fun k=>if fE (rd f0 l (k:Int))=13 then some (.inl (([]:List Int),13,()))else some (.inr (.inl (([]:List Int),10,())))) (fun k hk=>by
  have hm:=Oj (d:=f0) (xs:=l) (i:=(k:Int)) (by omega) (by omega);have hb:=h2 _ hm;rw[Pj.q0];generalize hg:rd f0 l (k:Int)=f at hm hb;simp only[Pj.b0,MO (show (k:Int)<(l.length:Int) by omega),MX (show (0:Int)<=(k:Int) by omega) (show (k:Int)<(l.length:Int) by omega),cond_true,hg,MS (show f.2.length<9223372036854775808 by omega),ahw];unfold fE;by_cases hk1:f.1<0\/f.1>=65536
  ·rw[if_pos hk1];have:((decide (f.1<0))||(decide (f.1>=65536)))=true:=by rcases hk1 with q|q<;>simp only[MO q,ahU,ahw]
   simp only[this,cond_true];rfl
  ·rw[if_neg hk1];have:((decide (f.1<0))||(decide (f.1>=65536)))=false:=by rw[MR (show ¬f.1<0 by omega),MR (show ¬f.1>=65536 by omega)];rfl
   simp only[this,cond_false];have h3:I8 .i64 (f.2.length:Int) 3=((f.2.length%4:Nat):Int):=by rw[ae6 (by omega) (by omega)];omega
   by_cases hk2:f.2.length<12\/f.2.length%4≠0
   ·rw[if_pos hk2];have:((decide ((f.2.length:Int)<12))||(!(decide ((I8 .i64 (f.2.length:Int) 3)=0))))=true:=by
     rw[h3];rcases hk2 with q|q
     ·rw[MO (show (f.2.length:Int)<12 by omega)];rfl
     ·rw[MR (show ¬((f.2.length%4:Nat):Int)=0 by omega)];simp
    simp only[this,cond_true];rfl
   ·rw[if_neg hk2];have:((decide ((f.2.length:Int)<12))||(!(decide ((I8 .i64 (f.2.length:Int) 3)=0))))=false:=by rw[h3,MR (show ¬(f.2.length:Int)<12 by omega),MO (show ((f.2.length%4:Nat):Int)=0 by omega)];rfl
    simp only[this,cond_false,decide_true,ahn,cond_false];have es:=Td hk;have el:(Nv (l.take (k+1))).length=(Nv (l.take k)).length+(4+f.2.length):=by rw[es,ahp,QN,hg]
    have hu: ∀b:Bool,(bif b then some ()else some ())=some ():=fun b=>by cases b<;>rfl
    simp only[hu,ahk,adJ];by_cases hlong:(Nv (l.take k)).length>1232
    ·have e1:decide ((Nv (l.take k)).length>1232)=true:=MO hlong;have e2:decide ((Nv (l.take (k+1))).length>1232)=true:=MO (show (Nv (l.take (k+1))).length>1232 by omega);have e3:Sr l (k+1)=Sr l k:=by rw[Sr,if_pos (show (Nv (l.take (k+1))).length>1232 by omega)]
     simp only[e1,e2,e3,ahU,ahn,cond_false,QO k (by omega)]
    ·have e1:decide ((Nv (l.take k)).length>1232)=false:=MR hlong;have eo:=Xd (l:=l) k (by omega) (by omega);have ew:ahl.wrap ((ahl.wrap (((Sr l k).length:Int)+4))+(f.2.length:Int))=((Nv (l.take (k+1))).length:Int):=by rw[eo,wrap64 (n:=((Nv (l.take k)).length:Int)+4) (by omega) (by omega),wrap64 (by omega) (by omega)];omega
     have ed:decide (((Nv (l.take (k+1))).length:Int)>1232)=decide ((Nv (l.take (k+1))).length>1232):=by
      by_cases q:(Nv (l.take (k+1))).length>1232
      ·rw[MO q,MO (show ((Nv (l.take (k+1))).length:Int)>1232 by omega)]
      ·rw[MR q,MR (show ¬((Nv (l.take (k+1))).length:Int)>1232 by omega)]
     simp only[e1,ew,ed,ah1];by_cases hl2:(Nv (l.take (k+1))).length>1232
     ·have e2:decide ((Nv (l.take (k+1))).length>1232)=true:=MO hl2;have e3:Sr l (k+1)=Sr l k:=by rw[Sr,if_pos hl2]
      simp only[e2,e3,ahn,cond_false,QO k (by omega)]
     ·have e2:decide ((Nv (l.take (k+1))).length>1232)=false:=MR hl2;have e3:Sr l (k+1)=Sr l k++Q9 f:=by rw[Sr,if_neg hl2,hg]
      have e4:ahl.wrap ((f.2.length:Int)+4)=(f.2.length:Int)+4:=wrap64 (by omega) (by omega);have e5:Gv ((Sr l k).length+(twoS f.1++twoS ((f.2.length:Int)+4)++f.2).length)=some ():=by
       have:(twoS f.1++twoS ((f.2.length:Int)+4)++f.2).length=4+f.2.length:=QN f;rw[this,eo];unfold Gv;rw[aiu (show (Nv (l.take k)).length+(4+f.2.length)<=140737488355328 by omega)];rfl
      simp only[e2,e3,e4,ahz,cond_true,QO k (by omega)];rw[cond_pos (MO (by rw[O9,O9];decide)),cond_pos (MO (by rw[ahp,O9,O9];unfold maxStr;omega)),e5];rfl)
 have e0:Pj.l0 .lim (false,l,(l.length:Int),0,([]:List Int),())=_:=e;rw[e0];unfold Q_ Rw;rw[if_neg h16];cases hq:(ahu l.length).find? (fun k:Nat=> !decide (fE (rd f0 l (k:Int))=0))with
 |some k=>
  have hk:=ah6 hq;simp only[ahM,decide_eq_false_iff_not]at hk;simp only;have:fE (rd f0 l (k:Int))=13\/fE (rd f0 l (k:Int))=10:=by
   unfold fE at hk ⊢
   split
   ·exact .inl rfl
   ·split
    ·exact .inr rfl
    ·rename_i q1 q2;rw[if_neg q1,if_neg q2]at hk;exact absurd rfl hk
  rw[if_neg hk];rcases this with q|q
  ·rw[if_pos q,q];rfl
  ·rw[if_neg (by omega),q];rfl
 |none=>
  simp only[ahI];rw[Pj.q0];simp only[Pj.b0,MR (show ¬(l.length:Int)<(l.length:Int) by omega),cond_false,ahk];by_cases hl:(Nv l).length>1232
  ·rw[MO hl,if_pos hl];rfl
  ·rw[MR hl,if_neg hl,Xd l.length (ahZ _) (by rw[ahI];omega),ahI];rfl
end Go.AM
end
section
namespace Go.AM
abbrev PK:=Int×Int×Int×Int×Int×Int×Int×Int×Int×Int×Int×Int×Int×List FF
abbrev p0:PK:=((0:Int),(0,(0,(0,(0,(0,(0,(0,(0,(0,(0,(0,(0,([]:List FF))))))))))))))
abbrev PK.fs(p:PK):List FF:=p.2.2.2.2.2.2.2.2.2.2.2.2.2
abbrev PK.cut(p:PK)(l:List FF):PK:=(p.1,p.2.1,p.2.2.1,p.2.2.2.1,p.2.2.2.2.1,p.2.2.2.2.2.1,p.2.2.2.2.2.2.1,p.2.2.2.2.2.2.2.1,p.2.2.2.2.2.2.2.2.1,p.2.2.2.2.2.2.2.2.2.1,p.2.2.2.2.2.2.2.2.2.2.1,p.2.2.2.2.2.2.2.2.2.2.2.1,p.2.2.2.2.2.2.2.2.2.2.2.2.1,l)
def Y0(n low high:Int):Bool:=decide (low<=n)&&decide (n<=high)
def WG(p:PK):Bool:=Y0 p.1 0 3&&Y0 p.2.1 0 7&&Y0 p.2.2.1 0 7&&Y0 p.2.2.2.1 0 255&&Y0 p.2.2.2.2.1 (-128) 127&&Y0 p.2.2.2.2.2.1 (-128) 127
def TV(n:Int)(k:Nat):Int:=ahm.wrap (I_ .u64 n (k:Int))
def ZR(n:Int):List Int:=[TV n 24,TV n 16,TV n 8,TV n 0]
def by8(n:Int):List Int:=[TV n 56,TV n 48,TV n 40,TV n 32,TV n 24,TV n 16,TV n 8,TV n 0]
def b0S(a b c:Int):Int:=ahm.wrap (KO .i64 (KO .i64 (I9 .i64 a 6) (I9 .i64 b 3)) c)
def X_(p:PK):List Int:=[b0S p.1 p.2.1 p.2.2.1,ahm.wrap p.2.2.2.1,ahm.wrap p.2.2.2.2.1,ahm.wrap p.2.2.2.2.2.1]++
 (ZR (ahv.wrap p.2.2.2.2.2.2.1)++(ZR (ahv.wrap p.2.2.2.2.2.2.2.1)++(ZR (ahv.wrap p.2.2.2.2.2.2.2.2.1)++(by8 p.2.2.2.2.2.2.2.2.2.1++(by8 p.2.2.2.2.2.2.2.2.2.2.1++(by8 p.2.2.2.2.2.2.2.2.2.2.2.1++by8 p.2.2.2.2.2.2.2.2.2.2.2.2.1))))))
theorem WX(p:PK):(X_ p).length=48:=rfl
def WR(p:PK):Int:=if WG p=true then Rw p.fs else 13
def WB(p:PK):List Int:=if WR p=0 then X_ p++Nv p.fs else []
def P8(m:List Int)(bp:Nat)(g:Nat->Int):Nat->List Int
 |0=>m
 |i+1=>(P8 m bp g i).set (bp+i) (g i)
theorem Q5(m:List Int)(bp:Nat)(g:Nat->Int): ∀i,(P8 m bp g i).length=m.length
 |0=>rfl
 |i+1=>by rw[P8,ahY,Q5 m bp g i]
theorem ag3{bp bq:Nat}(hb:bp<=48)(hq:bq<=8)(hq0:1<=bq)(n:Int)(f:List Int)(t:List Int)(t3:Int)(m:List Int)(m1 m2 m3 m4 m5 m6 m7 m8 m9 m10 m11 m12 m13:Int)(m14:List FF):
  Nl.l0 .lim ((bp:Int),(bq:Int),n,(bq:Int),0,f,t,t3,m,m1,m2,m3,m4,m5,m6,m7,m8,m9,m10,m11,m12,m13,m14,())=
   some (f,t,t3,m1,m2,m3,m4,m5,m6,m7,m8,m9,m10,m11,m12,m13,m14,P8 m bp (fun i=>TV n (8*(bq-1-i))) bq,()):=by
 have e:=Om (f:=Nl.l0 .lim) (fun i=>((bp:Int),(bq:Int),n,(bq:Int),(i:Int),f,t,t3,P8 m bp (fun i=>TV n (8*(bq-1-i))) i,m1,m2,m3,m4,m5,m6,m7,m8,m9,m10,m11,m12,m13,m14,())) (n:=bq) (fun i hi=>by
  rw[Nl.q0];have w1:ahl.wrap (8*(ahl.wrap ((ahl.wrap ((bq:Int)-1))-(i:Int))))=((8*(bq-1-i):Nat):Int):=by rw[wrap64 (n:=(bq:Int)-1) (by omega) (by omega),wrap64 (n:=(bq:Int)-1-(i:Int)) (by omega) (by omega),wrap64 (by omega) (by omega)];omega
  have w2:((bp:Int)+(i:Int)).toNat=bp+i:=by omega
  simp only[Nl.b0,MO (show (i:Int)<(bq:Int) by omega),MS (show bq<9223372036854775808 by omega),w1,MO (show (0:Int)<=((8*(bq-1-i):Nat):Int) by omega),MX (show (0:Int)<=(i:Int) by omega) (show (i:Int)<(bq:Int) by omega),cond_true,QO i (by omega),w2];rfl)
 have e0:Nl.l0 .lim ((bp:Int),(bq:Int),n,(bq:Int),0,f,t,t3,m,m1,m2,m3,m4,m5,m6,m7,m8,m9,m10,m11,m12,m13,m14,())=_:=e;rw[e0,Nl.q0];simp only[Nl.b0,MR (show ¬(bq:Int)<(bq:Int) by omega),cond_false]
theorem ag5{bp bq:Nat}(hb:bp<=48)(hq:bq<=8)(hq0:1<=bq)(n:Int)(f:List Int)(t:List Int)(t3:Int)(m:List Int):
  Nl.l2 .lim ((bp:Int),(bq:Int),n,(bq:Int),0,f,t,t3,m,())=some (f,t,t3,P8 m bp (fun i=>TV n (8*(bq-1-i))) bq,()):=by
 have e:=Om (f:=Nl.l2 .lim) (fun i=>((bp:Int),(bq:Int),n,(bq:Int),(i:Int),f,t,t3,P8 m bp (fun i=>TV n (8*(bq-1-i))) i,())) (n:=bq) (fun i hi=>by
  rw[Nl.q2];have w1:ahl.wrap (8*(ahl.wrap ((ahl.wrap ((bq:Int)-1))-(i:Int))))=((8*(bq-1-i):Nat):Int):=by rw[wrap64 (n:=(bq:Int)-1) (by omega) (by omega),wrap64 (n:=(bq:Int)-1-(i:Int)) (by omega) (by omega),wrap64 (by omega) (by omega)];omega
  have w2:((bp:Int)+(i:Int)).toNat=bp+i:=by omega
  simp only[Nl.b2,MO (show (i:Int)<(bq:Int) by omega),MS (show bq<9223372036854775808 by omega),w1,MO (show (0:Int)<=((8*(bq-1-i):Nat):Int) by omega),MX (show (0:Int)<=(i:Int) by omega) (show (i:Int)<(bq:Int) by omega),cond_true,QO i (by omega),w2];rfl)
 have e0:Nl.l2 .lim ((bp:Int),(bq:Int),n,(bq:Int),0,f,t,t3,m,())=_:=e;rw[e0,Nl.q2];simp only[Nl.b2,MR (show ¬(bq:Int)<(bq:Int) by omega),cond_false]
theorem ac6(n low high:Int):QL.run .lim (n,low,high,())=some (Y0 n low high):=rfl
theorem ag4(f a:List Int)(x0 x1 x2:Int)(ha:a=[x0,x1,x2])(m:List Int)(m1 m2 m3 m4 m5 m6 m7 m8 m9 m10 m11 m12 m13:Int)(m14:List FF):
  Nl.l1 .lim (f,a,0,m1,m2,m3,m4,m5,m6,m7,m8,m9,m10,m11,m12,m13,m14,m,())=
   some (f,m1,m2,m3,m4,m5,m6,m7,m8,m9,m10,m11,m12,m13,m14,
    P8 (P8 (P8 m 4 (fun i=>TV (ahv.wrap x0) (8*(4-1-i))) 4) 8 (fun i=>TV (ahv.wrap x1) (8*(4-1-i))) 4) 12 (fun i=>TV (ahv.wrap x2) (8*(4-1-i))) 4,()):=by
 subst ha;have step: ∀(k:Nat) (hk:k<3) (x:Int) (_:rd 0 [x0,x1,x2] (k:Int)=x) (q:List Int),Nl.l1 .lim (f,[x0,x1,x2],(k:Int),m1,m2,m3,m4,m5,m6,m7,m8,m9,m10,m11,m12,m13,m14,q,())=
   Nl.l1 .lim (f,[x0,x1,x2],((k+1:Nat):Int),m1,m2,m3,m4,m5,m6,m7,m8,m9,m10,m11,m12,m13,m14,P8 q (4+4*k) (fun i=>TV (ahv.wrap x) (8*(4-1-i))) 4,()):=by
  intro k hk x hx q;rw[Nl.q1];have w1:ahl.wrap (4+ahl.wrap (4*(k:Int)))=((4+4*k:Nat):Int):=by rw[wrap64 (n:=4*(k:Int)) (by omega) (by omega),wrap64 (by omega) (by omega)];omega
  have w2:ahl.wrap (8+ahl.wrap (4*(k:Int)))=((8+4*k:Nat):Int):=by rw[wrap64 (n:=4*(k:Int)) (by omega) (by omega),wrap64 (by omega) (by omega)];omega
  have w3:((8+4*k:Nat):Int)-((4+4*k:Nat):Int)=((4:Nat):Int):=by omega
  have h:=ag3 (bp:=4+4*k) (bq:=4) (by omega) (by omega) (by omega) (ahv.wrap x) f [x0,x1,x2] (k:Int) q m1 m2 m3 m4 m5 m6 m7 m8 m9 m10 m11 m12 m13 m14;simp only[Nl.b1,MO (show (k:Int)<3 by omega),MX (show (0:Int)<=(k:Int) by omega) (show (k:Int)<3 by omega),w1,w2,w3,Na (show (0:Int)<=((4+4*k:Nat):Int) by omega) (show ((4+4*k:Nat):Int)<=((8+4*k:Nat):Int) by omega) (show ((8+4*k:Nat):Int)<=48 by omega),MS (show 4<9223372036854775808 by decide),cond_true,hx,h,ahk,QO k (by omega)]
 have s0:=step 0 (by decide) x0 rfl m;have s1:=step 1 (by decide) x1 rfl (P8 m 4 (fun i=>TV (ahv.wrap x0) (8*(4-1-i))) 4);have s2:=step 2 (by decide) x2 rfl (P8 (P8 m 4 (fun i=>TV (ahv.wrap x0) (8*(4-1-i))) 4) 8 (fun i=>TV (ahv.wrap x1) (8*(4-1-i))) 4);refine(s0.trans (s1.trans s2)).trans ?_;rw[Nl.q1];simp only[Nl.b1,MR (show ¬((2+1:Nat):Int)<3 by decide),cond_false]
theorem ag6(f a:List Int)(x0 x1 x2 x3:Int)(ha:a=[x0,x1,x2,x3])(m:List Int):
  Nl.l3 .lim (f,a,0,m,())=
   some (f,P8 (P8 (P8 (P8 m 16 (fun i=>TV x0 (8*(8-1-i))) 8) 24 (fun i=>TV x1 (8*(8-1-i))) 8) 32 (fun i=>TV x2 (8*(8-1-i))) 8) 40 (fun i=>TV x3 (8*(8-1-i))) 8,()):=by
 subst ha;have step: ∀(k:Nat) (hk:k<4) (x:Int) (_:rd 0 [x0,x1,x2,x3] (k:Int)=x) (q:List Int),Nl.l3 .lim (f,[x0,x1,x2,x3],(k:Int),q,())=
   Nl.l3 .lim (f,[x0,x1,x2,x3],((k+1:Nat):Int),P8 q (16+8*k) (fun i=>TV x (8*(8-1-i))) 8,()):=by
  intro k hk x hx q;rw[Nl.q3];have w1:ahl.wrap (16+ahl.wrap (8*(k:Int)))=((16+8*k:Nat):Int):=by rw[wrap64 (n:=8*(k:Int)) (by omega) (by omega),wrap64 (by omega) (by omega)];omega
  have w2:ahl.wrap (24+ahl.wrap (8*(k:Int)))=((24+8*k:Nat):Int):=by rw[wrap64 (n:=8*(k:Int)) (by omega) (by omega),wrap64 (by omega) (by omega)];omega
  have w3:((24+8*k:Nat):Int)-((16+8*k:Nat):Int)=((8:Nat):Int):=by omega
  have h:=ag5 (bp:=16+8*k) (bq:=8) (by omega) (by omega) (by omega) x f [x0,x1,x2,x3] (k:Int) q;simp only[Nl.b3,MO (show (k:Int)<4 by omega),MX (show (0:Int)<=(k:Int) by omega) (show (k:Int)<4 by omega),w1,w2,w3,Na (show (0:Int)<=((16+8*k:Nat):Int) by omega) (show ((16+8*k:Nat):Int)<=((24+8*k:Nat):Int) by omega) (show ((24+8*k:Nat):Int)<=48 by omega),MS (show 8<9223372036854775808 by decide),cond_true,hx,h,ahk,QO k (by omega)]
 have s0:=step 0 (by decide) x0 rfl m;have s1:=step 1 (by decide) x1 rfl (P8 m 16 (fun i=>TV x0 (8*(8-1-i))) 8);have s2:=step 2 (by decide) x2 rfl (P8 (P8 m 16 (fun i=>TV x0 (8*(8-1-i))) 8) 24 (fun i=>TV x1 (8*(8-1-i))) 8);have s3:=step 3 (by decide) x3 rfl (P8 (P8 (P8 m 16 (fun i=>TV x0 (8*(8-1-i))) 8) 24 (fun i=>TV x1 (8*(8-1-i))) 8) 32 (fun i=>TV x2 (8*(8-1-i))) 8);refine(s0.trans (s1.trans (s2.trans s3))).trans ?_;rw[Nl.q3];simp only[Nl.b3,MR (show ¬((3+1:Nat):Int)<4 by decide),cond_false]
theorem Tj{l:List FF}:(Q_ l).length<=1232:=by
 unfold Q_;split
 ·rename_i h;unfold Rw at h;split at h
  ·cases h
  ·split at h
   ·rename_i k hq;have hk:=ah6 hq;simp only[ahM,decide_eq_false_iff_not]at hk;exact absurd h hk
   ·split at h
    ·cases h
    ·omega
 ·simp
theorem acz(x0 x1 x2 x3:Int)(a b c d e f g:Nat->Int):
  ((P8 (P8 (P8 (P8 (P8 (P8 (P8 (((((ahs 48 (0:Int)).set 0 x0).set 1 x1).set 2 x2).set 3 x3) 4 a 4) 8 b 4) 12 c 4) 16 d 8) 24 e 8) 32 f 8) 40 g 8).drop 0).take 48=
   [x0,x1,x2,x3]++([a 0,a 1,a 2,a 3]++([b 0,b 1,b 2,b 3]++([c 0,c 1,c 2,c 3]++([d 0,d 1,d 2,d 3,d 4,d 5,d 6,d 7]++([e 0,e 1,e 2,e 3,e 4,e 5,e 6,e 7]++([f 0,f 1,f 2,f 3,f 4,f 5,f 6,f 7]++[g 0,g 1,g 2,g 3,g 4,g 5,g 6,g 7])))))):=by kernel_rfl
theorem VU{p:PK}(hl:FL p.fs):Nl.run .lim (p,())=some (WB p,WR p,()):=by
 obtain⟨a,b,c,d,e,g,r1,r2,r3,q1,q2,q3,q4,l⟩:=p;simp only[Nl.run,ac6,ahk];unfold WB WR WG;generalize Y0 a 0 3=c1;generalize Y0 b 0 7=c2;generalize Y0 c 0 7=c3;generalize Y0 d 0 255=c4;generalize Y0 e (-128) 127=c5;generalize Y0 g (-128) 127=c6;cases c1
 ·rfl
 cases c2
 ·rfl
 cases c3
 ·rfl
 cases c4
 ·rfl
 cases c5
 ·rfl
 cases c6
 ·rfl
 simp only[ahn,ahz,cond_true,cond_false,ahk,aiC,ah5,if_true];rw[Yh hl];simp only[ahk];have hfl:(Q_ (PK.fs (a,b,c,d,e,g,r1,r2,r3,q1,q2,q3,q4,l))).length<=1232:=Tj;show (bif !decide (Rw l=0)then some (([]:List Int),Rw l,())else _)=some (if Rw l=0 then _ else [],Rw l,());by_cases h0:Rw l=0
 ·rw[MO h0,if_pos h0];simp only[ahn,cond_false];rw[ag4 _ ((((ahs 3 (0:Int)).set 0 r1).set 1 r2).set 2 r3) r1 r2 r3 rfl];simp only[ahk];rw[ag6 _ (((((ahs 4 (0:Int)).set 0 q1).set 1 q2).set 2 q3).set 3 q4) q1 q2 q3 q4 rfl];simp only[ahk];have hf:Q_ l=Nv l:=by unfold Q_;rw[if_pos h0]
  rw[cond_pos (MO (show _<=maxStr by rw[ahq,ahG,Q5,Q5,Q5,Q5,Q5,Q5,Q5];simp only[ahY,ahP];unfold maxStr;omega)),h0,acz];have hf:Q_ (PK.fs (a,b,c,d,e,g,r1,r2,r3,q1,q2,q3,q4,l))=Nv (PK.fs (a,b,c,d,e,g,r1,r2,r3,q1,q2,q3,q4,l)):=hf;rw[hf];rfl
 ·rw[MR h0,if_neg h0];rfl
end Go.AM
end
section
namespace Go.AM
def sg(c:Int):Int:=if c>127 then c-256 else c
def rdP(s:List Int)(fs:List FF):PK:=(rd 0 s 0/64,rd 0 s 0/8%8,rd 0 s 0%8,rd 0 s 1,sg (rd 0 s 2),sg (rd 0 s 3),OI ((s.take 8).drop 4),OI ((s.take 12).drop 8),OI ((s.take 16).drop 12),
 OI ((s.take 24).drop 16),OI ((s.take 32).drop 24),OI ((s.take 40).drop 32),OI ((s.take 48).drop 40),fs)
def Wv(s:List Int):Int:=if s.length<48 then 11 else if s.length>1280 then 12 else(U6 (s.drop 48).length (s.drop 48) []).2
def Pq(s:List Int):PK:=if Wv s=0 then rdP s (U6 (s.drop 48).length (s.drop 48) []).1 else p0
theorem afc{c:Int}(h:B8 c):ahl.wrap (I_ .u8 c 6)=c/64:=Qb (p:=fun c=>ahl.wrap (I_ .u8 c 6)=c/64) (by decide+kernel) h
theorem afd{c:Int}(h:B8 c):ahl.wrap (I8 .u8 (I_ .u8 c 3) 7)=c/8%8:=Qb (p:=fun c=>ahl.wrap (I8 .u8 (I_ .u8 c 3) 7)=c/8%8) (by decide+kernel) h
theorem afe{c:Int}(h:B8 c):ahl.wrap (I8 .u8 c 7)=c%8:=Qb (p:=fun c=>ahl.wrap (I8 .u8 c 7)=c%8) (by decide+kernel) h
theorem aea{c:Int}(h:B8 c):ahl.wrap c=c:=Qb (p:=fun c=>ahl.wrap c=c) (by decide+kernel) h
theorem aff{c:Int}(h:B8 c):ahl.wrap (aiT.wrap c)=sg c:=Qb (p:=fun c=>ahl.wrap (aiT.wrap c)=sg c) (by decide+kernel) h
theorem afg{c:Int}(h:B8 c):Py.run .lim (c,())=some (sg c):=by
 have e1:=aea h;unfold sg;simp only[Py.run,e1];by_cases q:c>127
 ·rw[MO q,if_pos q,wrap64 (by omega) (by omega)];rfl
 ·rw[MR q,if_neg q];rfl
theorem aeX{t:List Int}(hb:Bs t)(hl:t.length=4):ahy.wrap (OI t)=OI t/\ZR (ahv.wrap (OI t))=t:=by
 have hv:=VP hb 4 (by omega);rw[ahr (by omega)]at hv;refine⟨by rw[SG];omega,?_⟩;rw[show ahv.wrap (OI t)=OI t by rw[SH];omega]
 match t,hl with
 |[a,b,c,d],_=>
  have h1:=hb a (by simp);have h2:=hb b (by simp);have h3:=hb c (by simp);have h4:=hb d (by simp);have e:OI [a,b,c,d]=((a*256+b)*256+c)*256+d:=by simp[OI]
  have s1:=Ph (OI [a,b,c,d]) 0 24 .u64 (by decide);have s2:=Ph (OI [a,b,c,d]) 0 16 .u64 (by decide);have s3:=Ph (OI [a,b,c,d]) 0 8 .u64 (by decide);have s4:=Ph (OI [a,b,c,d]) 0 0 .u64 (by decide);unfold ZR TV;simp only[s1,s2,s3,s4];simp only[Qx,e];congr 1
  ·omega
  congr 1
  ·omega
  congr 1
  ·omega
  congr 1;omega
theorem ag0{t:List Int}(hb:Bs t)(hl:t.length=8):by8 (OI t)=t:=by
 match t,hl with
 |[a,b,c,d,a',b',c',d'],_=>
  have h1:=hb a (by simp);have h2:=hb b (by simp);have h3:=hb c (by simp);have h4:=hb d (by simp);have h5:=hb a' (by simp);have h6:=hb b' (by simp);have h7:=hb c' (by simp);have h8:=hb d' (by simp);have e:OI [a,b,c,d,a',b',c',d']=((((((a*256+b)*256+c)*256+d)*256+a')*256+b')*256+c')*256+d':=by simp[OI]
  have s1:=Ph (OI [a,b,c,d,a',b',c',d']) 0 56 .u64 (by decide);have s2:=Ph (OI [a,b,c,d,a',b',c',d']) 0 48 .u64 (by decide);have s3:=Ph (OI [a,b,c,d,a',b',c',d']) 0 40 .u64 (by decide);have s4:=Ph (OI [a,b,c,d,a',b',c',d']) 0 32 .u64 (by decide);have s5:=Ph (OI [a,b,c,d,a',b',c',d']) 0 24 .u64 (by decide);have s6:=Ph (OI [a,b,c,d,a',b',c',d']) 0 16 .u64 (by decide);have s7:=Ph (OI [a,b,c,d,a',b',c',d']) 0 8 .u64 (by decide);have s8:=Ph (OI [a,b,c,d,a',b',c',d']) 0 0 .u64 (by decide);unfold by8 TV;simp only[s1,s2,s3,s4,s5,s6,s7,s8];simp only[Qx,e];congr 1
  ·omega
  congr 1
  ·omega
  congr 1
  ·omega
  congr 1
  ·omega
  congr 1
  ·omega
  congr 1
  ·omega
  congr 1
  ·omega
  congr 1;omega
theorem TL{s:List Int}{a b:Nat}(h:b<=s.length):((s.take b).drop a).length=b-a:=by rw[aho,ahq,ahN h]
theorem YP{s:List Int}(hs:Bs s)(hl:s.length<9223372036854775808):Rz.run .lim (s,())=some (Pq s,Wv s,()):=by
 simp only[Rz.run,MS hl,cond_true];unfold Pq Wv;by_cases h1:s.length<48
 ·rw[MO (show (s.length:Int)<48 by omega),if_pos h1];rfl
 rw[MR (show ¬(s.length:Int)<48 by omega),if_neg h1];by_cases h2:s.length>1280
 ·rw[MO (show (s.length:Int)>1280 by omega),if_pos h2];rfl
 rw[MR (show ¬(s.length:Int)>1280 by omega),if_neg h2];have hc:cut s 48 (s.length:Int)=s.drop 48:=Si (a:=48) rfl;simp only[cond_false,Na (show (0:Int)<=48 by omega) (show (48:Int)<=(s.length:Int) by omega) (ahx _),cond_true,hc,acF (hs.drop 48) (show (s.drop 48).length<9223372036854775808 by rw[aho];omega),ahk];generalize U6 (s.drop 48).length (s.drop 48) []=r;obtain⟨fs,e⟩:=r;simp only;by_cases h0:e=0
 ·rw[MO h0,if_pos h0];have rb: ∀k:Nat,k<48->B8 (rd 0 s (k:Int)):=fun k hk=>hs _ (Oj (by omega) (by omega))
  have r0:=rb 0 (by decide);have r1:=rb 1 (by decide);have r2:=rb 2 (by decide);have r3:=rb 3 (by decide);have v: ∀a b:Nat,a<=b->b<=48->b-a<=8->Ol.run .lim ((s.take b).drop a,())=some (OI ((s.take b).drop a)):=fun a b _ hb hq=>VQ ((hs.take b).drop a) (by rw[TL (by omega)];omega)
  have u: ∀a b:Nat,b=a+4->b<=48->ahy.wrap (OI ((s.take b).drop a))=OI ((s.take b).drop a):=fun a b h hb=>(aeX ((hs.take b).drop a) (by rw[TL (by omega)];omega)).1
  have c1:cut s 4 8=(s.take 8).drop 4:=Ql rfl rfl;have c2:cut s 8 12=(s.take 12).drop 8:=Ql rfl rfl;have c3:cut s 12 16=(s.take 16).drop 12:=Ql rfl rfl;have c4:cut s 16 24=(s.take 24).drop 16:=Ql rfl rfl;have c5:cut s 24 32=(s.take 32).drop 24:=Ql rfl rfl;have c6:cut s 32 40=(s.take 40).drop 32:=Ql rfl rfl;have c7:cut s 40 48=(s.take 48).drop 40:=Ql rfl rfl;have k: ∀a b:Int,0<=a->a<=b->b<=48->sK a b (s.length:Int)=true:=fun a b x y z=>Na x y (by omega)
  have i: ∀a:Int,0<=a->a<48->inB a (s.length:Int)=true:=fun a x y=>MX x (by omega)
  simp only[ahn,cond_false,i 0 (by decide) (by decide),i 1 (by decide) (by decide),i 2 (by decide) (by decide),i 3 (by decide) (by decide),cond_true,k 4 8 (by decide) (by decide) (by decide),k 8 12 (by decide) (by decide) (by decide),k 12 16 (by decide) (by decide) (by decide),k 16 24 (by decide) (by decide) (by decide),k 24 32 (by decide) (by decide) (by decide),k 32 40 (by decide) (by decide) (by decide),k 40 48 (by decide) (by decide) (by decide),
   c1,c2,c3,c4,c5,c6,c7,v 4 8 (by decide) (by decide) (by decide),v 8 12 (by decide) (by decide) (by decide),v 12 16 (by decide) (by decide) (by decide),v 16 24 (by decide) (by decide) (by decide),v 24 32 (by decide) (by decide) (by decide),v 32 40 (by decide) (by decide) (by decide),v 40 48 (by decide) (by decide) (by decide),ahk,u 4 8 rfl (by decide),u 8 12 rfl (by decide),u 12 16 rfl (by decide)]
  have q0:B8 (rd 0 s 0):=r0;have q1:B8 (rd 0 s 1):=r1;have q2:B8 (rd 0 s 2):=r2;have q3:B8 (rd 0 s 3):=r3;simp only[afc q0,afd q0,afe q0,aea q1,aff q2,aff q3,h0];rfl
 ·rw[MR h0,if_neg h0];rfl
theorem XT{s:List Int}(hs:Bs s)(hl:s.length<9223372036854775808):OL.run .lim (s,())=some (Pq s,Wv s,()):=by
 simp only[OL.run,MS hl,cond_true];unfold Pq Wv;by_cases h1:s.length<48
 ·rw[MO (show (s.length:Int)<48 by omega),if_pos h1];rfl
 rw[MR (show ¬(s.length:Int)<48 by omega),if_neg h1];by_cases h2:s.length>1280
 ·rw[MO (show (s.length:Int)>1280 by omega),if_pos h2];rfl
 rw[MR (show ¬(s.length:Int)>1280 by omega),if_neg h2];have hc:cut s 48 (s.length:Int)=s.drop 48:=Si (a:=48) rfl;simp only[cond_false,Na (show (0:Int)<=48 by omega) (show (48:Int)<=(s.length:Int) by omega) (ahx _),cond_true,hc,acw (hs.drop 48) (show (s.drop 48).length<9223372036854775808 by rw[aho];omega),ahk];generalize U6 (s.drop 48).length (s.drop 48) []=r;obtain⟨fs,e⟩:=r;simp only;by_cases h0:e=0
 ·rw[MO h0,if_pos h0];have rb: ∀k:Nat,k<48->B8 (rd 0 s (k:Int)):=fun k hk=>hs _ (Oj (by omega) (by omega))
  have q0:B8 (rd 0 s 0):=rb 0 (by decide);have q1:B8 (rd 0 s 1):=rb 1 (by decide);have q2:B8 (rd 0 s 2):=rb 2 (by decide);have q3:B8 (rd 0 s 3):=rb 3 (by decide);have v: ∀a b:Nat,a<=b->b<=48->b-a<=8->Nc.run .lim ((s.take b).drop a,())=some (OI ((s.take b).drop a)):=fun a b _ hb hq=>U1 ((hs.take b).drop a) (by rw[TL (by omega)];omega)
  have u: ∀a b:Nat,b=a+4->b<=48->ahy.wrap (OI ((s.take b).drop a))=OI ((s.take b).drop a):=fun a b h hb=>(aeX ((hs.take b).drop a) (by rw[TL (by omega)];omega)).1
  have c1:cut s 4 8=(s.take 8).drop 4:=Ql rfl rfl;have c2:cut s 8 12=(s.take 12).drop 8:=Ql rfl rfl;have c3:cut s 12 16=(s.take 16).drop 12:=Ql rfl rfl;have c4:cut s 16 24=(s.take 24).drop 16:=Ql rfl rfl;have c5:cut s 24 32=(s.take 32).drop 24:=Ql rfl rfl;have c6:cut s 32 40=(s.take 40).drop 32:=Ql rfl rfl;have c7:cut s 40 48=(s.take 48).drop 40:=Ql rfl rfl;have k: ∀a b:Int,0<=a->a<=b->b<=48->sK a b (s.length:Int)=true:=fun a b x y z=>Na x y (by omega)
  have i: ∀a:Int,0<=a->a<48->inB a (s.length:Int)=true:=fun a x y=>MX x (by omega)
  simp only[ahn,cond_false,i 0 (by decide) (by decide),i 1 (by decide) (by decide),i 2 (by decide) (by decide),i 3 (by decide) (by decide),cond_true,k 4 8 (by decide) (by decide) (by decide),k 8 12 (by decide) (by decide) (by decide),k 12 16 (by decide) (by decide) (by decide),k 16 24 (by decide) (by decide) (by decide),k 24 32 (by decide) (by decide) (by decide),k 32 40 (by decide) (by decide) (by decide),k 40 48 (by decide) (by decide) (by decide),
   c1,c2,c3,c4,c5,c6,c7,v 4 8 (by decide) (by decide) (by decide),v 8 12 (by decide) (by decide) (by decide),v 12 16 (by decide) (by decide) (by decide),v 16 24 (by decide) (by decide) (by decide),v 24 32 (by decide) (by decide) (by decide),v 32 40 (by decide) (by decide) (by decide),v 40 48 (by decide) (by decide) (by decide),ahk,u 4 8 rfl (by decide),u 8 12 rfl (by decide),u 12 16 rfl (by decide),afg q2,afg q3]
  simp only[afc q0,afd q0,afe q0,aea q1,h0];rfl
 ·rw[MR h0,if_neg h0];rfl
theorem afP{c:Int}(h:B8 c):b0S (c/64) (c/8%8) (c%8)=c:=Qb (p:=fun c=>b0S (c/64) (c/8%8) (c%8)=c) (by decide+kernel) h
theorem afh{c:Int}(h:B8 c):ahm.wrap (sg c)=c:=Qb (p:=fun c=>ahm.wrap (sg c)=c) (by decide+kernel) h
theorem glue{s:List Int}{a b c:Nat}(h1:a<=b)(h2:b<=c):(s.take b).drop a++(s.take c).drop b=(s.take c).drop a:=by
 have e:s.take b=(s.take c).take b:=by rw[aik,ahN h2]
 have e2:(s.take c).drop b=((s.take c).drop a).drop (b-a):=by rw[ah8];congr 1;omega
 have e3:((s.take c).take b).drop a=((s.take c).drop a).take (b-a):=by rw[aix]
 rw[e,e2,e3,ahD]
theorem ac7{s:List Int}(hs:Bs s)(hl:48<=s.length)(fs:List FF):X_ (rdP s fs)=s.take 48/\WG (rdP s fs)=true:=by
 have rb: ∀k:Nat,k<48->B8 (rd 0 s (k:Int)):=fun k hk=>hs _ (Oj (by omega) (by omega))
 have q0:B8 (rd 0 s 0):=rb 0 (by decide);have q1:B8 (rd 0 s 1):=rb 1 (by decide);have q2:B8 (rd 0 s 2):=rb 2 (by decide);have q3:B8 (rd 0 s 3):=rb 3 (by decide);constructor
 ·have u: ∀a b:Nat,b=a+4->b<=48->ZR (ahv.wrap (OI ((s.take b).drop a)))=(s.take b).drop a:=fun a b h hb=>(aeX ((hs.take b).drop a) (by rw[TL (by omega)];omega)).2
  have v: ∀a b:Nat,b=a+8->b<=48->by8 (OI ((s.take b).drop a))=(s.take b).drop a:=fun a b h hb=>ag0 ((hs.take b).drop a) (by rw[TL (by omega)];omega)
  have h4:=list4 (t:=s.take 4) (by rw[ahq];omega);have t0:rd 0 (s.take 4) 0=rd 0 s 0:=SA (k:=0) (n:=4) (by decide);have t1:rd 0 (s.take 4) 1=rd 0 s 1:=SA (k:=1) (n:=4) (by decide);have t2:rd 0 (s.take 4) 2=rd 0 s 2:=SA (k:=2) (n:=4) (by decide);have t3:rd 0 (s.take 4) 3=rd 0 s 3:=SA (k:=3) (n:=4) (by decide);rw[t0,t1,t2,t3]at h4;unfold X_ rdP;simp only[afP q0,SY q1,afh q2,afh q3,u 4 8 rfl (by decide),u 8 12 rfl (by decide),u 12 16 rfl (by decide),v 16 24 rfl (by decide),v 24 32 rfl (by decide),v 32 40 rfl (by decide),v 40 48 rfl (by decide)];rw[<-h4,glue (by decide) (by decide),glue (by decide) (by decide),glue (by decide) (by decide),glue (by decide) (by decide),glue (by decide) (by decide),glue (by decide) (by decide)];have:=glue (s:=s) (a:=0) (b:=4) (c:=48) (by decide) (by decide);simpa using this
 ·unfold WG rdP Y0 sg;simp only[ahA,decide_eq_true_eq];refine⟨⟨⟨⟨⟨?_,?_⟩,?_⟩,?_⟩,?_⟩,?_⟩
  ·omega
  ·omega
  ·omega
  ·omega
  ·split<;>omega
  ·split<;>omega
structure Was(s:List Int):Prop where
 l0:48<=s.length
 l1:s.length<=1280
 eq:Pq s=rdP s (Pq s).fs
 st:s=s.take 48++Nv (Pq s).fs
 ok: ∀f∈(Pq s).fs,FOk f
 few:(Pq s).fs.length<=16
theorem was{s:List Int}(hs:Bs s)(h:Wv s=0):Was s:=by
 have h1:48<=s.length:=by
  unfold Wv at h;split at h
  ·cases h
  ·omega
 have h2:s.length<=1280:=by
  unfold Wv at h;rw[if_neg (by omega)]at h;split at h
  ·cases h
  ·omega
 have h3:(U6 (s.drop 48).length (s.drop 48) []).2=0:=by
  unfold Wv at h
  rwa [if_neg (by omega),if_neg (by omega)]at h
 obtain⟨l,k1,k2,k3,k4⟩:=adF _ _ [] (ahZ _) (hs.drop 48) h3;have hr:Pq s=rdP s l:=by unfold Pq;rw[if_pos h,k1];rfl
 have hf:(Pq s).fs=l:=by rw[hr];rfl
 refine⟨h1,h2,by rw[hf,hr],by rw[hf,<-k2,ahD],by rw[hf];exact k3,by rw[hf];simpa using k4 (by simp)⟩
theorem X4{s:List Int}(hs:Bs s)(h:Wv s=0)(k:Nat):Nl.run .lim (PK.cut (Pq s) ((Pq s).fs.take k),())=some (s.take (48+(Nv ((Pq s).fs.take k)).length),0,()):=by
 have w:=was hs h;have hle:=Xr (Pq s).fs k;have hsl:s.length=48+(Nv (Pq s).fs).length:=by
  have:=congrArg aiz w.st;rw[ahp,ahq,ahN w.l0]at this;exact this
 have hok: ∀f∈(Pq s).fs.take k,FOk f:=fun f hf=>w.ok f (ahT hf)
 have hfl:FL (PK.fs (PK.cut (Pq s) ((Pq s).fs.take k))):=by
  refine⟨?_,fun f hf=> ?_⟩
  ·show ((Pq s).fs.take k).length<_;have:=w.few;rw[ahq];omega
  ·have:=(hok f hf).l1;omega
 rw[VU hfl];have hb:=ac7 hs w.l0 ((Pq s).fs.take k);have hc:PK.cut (Pq s) ((Pq s).fs.take k)=rdP s ((Pq s).fs.take k):=by
  conv=>lhs;rw[show PK.cut (Pq s) ((Pq s).fs.take k)=PK.cut (rdP s (Pq s).fs) ((Pq s).fs.take k) by rw[<-w.eq]]
  rfl
 have he:WR (PK.cut (Pq s) ((Pq s).fs.take k))=0:=by
  unfold WR;rw[hc,if_pos hb.2];show Rw ((Pq s).fs.take k)=0;exact WW hok (by have:=w.few;rw[ahq];omega) (by have:=w.l1;omega)
 have hs2:WB (PK.cut (Pq s) ((Pq s).fs.take k))=s.take (48+(Nv ((Pq s).fs.take k)).length):=by
  unfold WB;rw[if_pos he,hc,hb.1];show s.take 48++Nv ((Pq s).fs.take k)=_;have e1:Nv (Pq s).fs=Nv ((Pq s).fs.take k)++Nv ((Pq s).fs.drop k):=by rw[<-VY,ahD]
  have e2:s=(s.take 48++Nv ((Pq s).fs.take k))++Nv ((Pq s).fs.drop k):=by rw[ahE,<-e1];exact w.st
  have e3:(s.take 48++Nv ((Pq s).fs.take k)).length=48+(Nv ((Pq s).fs.take k)).length:=by rw[ahp,ahq,ahN w.l0]
  rw[<-e3];generalize Nv ((Pq s).fs.take k)=x at e2;generalize Nv ((Pq s).fs.drop k)=y at e2;generalize s.take 48=z at e2;rw[e2,aiK]
 rw[he,hs2]
end Go.AM
end
section
namespace Go.AM
def findF(l:List FF)(kind:Int):List Int:=((ahu l.length).filter fun k:Nat=>decide ((rd f0 l (k:Int)).1=kind)).map fun k:Nat=>(k:Int)
def Vb(l:List FF)(kind:Int)(n:Nat):List Int:=((ahu n).filter fun k:Nat=>decide ((rd f0 l (k:Int)).1=kind)).map fun k:Nat=>(k:Int)
theorem VZ(l:List FF)(kind:Int)(n:Nat):(Vb l kind n).length<=n:=by
 unfold Vb;rw[aiF];exact aiQ (List.length_filter_le _ _) (by simp)
theorem Xt(l:List FF)(kind:Int)(n:Nat):Vb l kind (n+1)=if(rd f0 l (n:Int)).1=kind then Vb l kind n++[(n:Int)]else Vb l kind n:=by
 unfold Vb;rw[List.range_succ,List.filter_append,List.map_append];by_cases h:(rd f0 l (n:Int)).1=kind
 ·rw[if_pos h,aio (by simpa using h)];rfl
 ·rw[if_neg h,ain (by simpa using h)];simp
theorem VT{l:List FF}(kind:Int)(hl:l.length<=140737488351232)(h2:l.length<8796093022208):OV.run .lim (l,kind,())=some (findF l kind):=by
 have e:=Om (f:=OV.l0 .lim) (fun k=>(kind,l,(l.length:Int),(k:Int),Vb l kind k,())) (n:=l.length) (fun k hk=>by
  rw[OV.q0];have hn:=VZ l kind k;simp only[OV.b0,MO (show (k:Int)<(l.length:Int) by omega),MX (show (0:Int)<=(k:Int) by omega) (show (k:Int)<(l.length:Int) by omega),cond_true,QO k (by omega),Xt];by_cases h:(rd f0 l (k:Int)).1=kind
  ·rw[MO h,if_pos h];simp only[cond_true];rw[cond_pos (MO (show (Vb l kind k).length+[(k:Int)].length<8796093022208 by simp;omega))]
  ·rw[MR h,if_neg h];rfl)
 have e0:OV.l0 .lim (kind,l,(l.length:Int),0,([]:List Int),())=_:=e;simp only[OV.run,MS (show l.length<9223372036854775808 by omega),cond_true,e0];rw[OV.q0];simp only[OV.b0,MR (show ¬(l.length:Int)<(l.length:Int) by omega),cond_false,ahk];rfl
theorem UF{l:List FF}(kind:Int)(hl:l.length<=140737488351232)(h2:l.length<8796093022208):Nk.run .lim (l,kind,())=some (findF l kind):=by
 have e:=Om (f:=Nk.l0 .lim) (fun k=>(l,kind,(k:Int),Vb l kind k,())) (n:=l.length) (fun k hk=>by
  rw[Nk.q0];have hn:=VZ l kind k;simp only[Nk.b0,MS (show l.length<9223372036854775808 by omega),MO (show (k:Int)<(l.length:Int) by omega),MX (show (0:Int)<=(k:Int) by omega) (show (k:Int)<(l.length:Int) by omega),cond_true,QO k (by omega),Xt];by_cases h:(rd f0 l (k:Int)).1=kind
  ·rw[MO h,if_pos h];simp only[cond_true];rw[cond_pos (MO (show (Vb l kind k).length+[(k:Int)].length<8796093022208 by simp;omega))]
  ·rw[MR h,if_neg h];rfl)
 have e0:Nk.l0 .lim (l,kind,0,([]:List Int),())=_:=e;simp only[Nk.run,e0];rw[Nk.q0];simp only[Nk.b0,MS (show l.length<9223372036854775808 by omega),MR (show ¬(l.length:Int)<(l.length:Int) by omega),cond_true,cond_false,ahk];rfl
def Uw(l:List FF)(kind:Int):Option Nat:=(ahu l.length).find? fun k:Nat=>decide ((rd f0 l (k:Int)).1=kind)
theorem Wi{α:Type}(p:α->Bool): ∀l:List α,l.find? p=(l.filter p).head?
 |[]=>rfl
 |a::l=>by
  cases h:p a with
  |true=>rw[List.find?_cons_of_pos h,aio h];rfl
  |false=>rw[List.find?_cons_of_neg (by simp[h]),ain (by simp[h]),Wi p l]
theorem QZ(l:List FF)(kind:Int):(Uw l kind=none/\findF l kind=[])\/ ∃k r,Uw l kind=some k/\findF l kind=(k:Int)::r/\k<l.length/\(rd f0 l (k:Int)).1=kind:=by
 unfold Uw findF;rw[Wi];cases h:(ahu l.length).filter (fun k:Nat=>decide ((rd f0 l (k:Int)).1=kind))with
 |nil=>exact .inl ⟨rfl,rfl⟩
 |cons k r=>
  have hm:k∈(ahu l.length).filter (fun k:Nat=>decide ((rd f0 l (k:Int)).1=kind)):=by rw[h];exact .head _
  obtain⟨h1,h2⟩:=List.mem_filter.1 hm;exact .inr ⟨k,_,rfl,rfl,ahH.1 h1,by simpa using h2⟩
theorem Qu(l:List FF)(kind:Int):(findF l kind).length<=l.length:=VZ l kind l.length
def PD(l:List FF)(kind:Int):List Int×Int:=
 if(findF l kind).length=0 then([],19)else if(findF l kind).length=1 then((rd f0 l (rd 0 (findF l kind) 0)).2,0)else([],24)
theorem YM{l:List FF}{kind:Int}(h:(findF l kind).length≠0):inB 0 ((findF l kind).length:Int)=true/\inB (rd 0 (findF l kind) 0) (l.length:Int)=true:=by
 refine⟨MX (by omega) (by omega),?_⟩;rcases QZ l kind with⟨_,q⟩|⟨k,r,_,q,hk,_⟩
 ·rw[q]at h;exact absurd rfl h
 ·rw[q];exact MX (show (0:Int)<=(k:Int) by omega) (show (k:Int)<(l.length:Int) by omega)
theorem ace{l:List FF}(kind:Int)(hl:l.length<8796093022208):RD.run .lim (l,kind,())=some ((PD l kind).1,(PD l kind).2,()):=by
 have hn:=Qu l kind;simp only[RD.run,VT kind (by omega) hl,ahk,MS (show (findF l kind).length<9223372036854775808 by omega),cond_true];unfold PD;by_cases h0:(findF l kind).length=0
 ·rw[MO (show ((findF l kind).length:Int)=0 by omega),if_pos h0];rfl
 ·rw[MR (show ¬((findF l kind).length:Int)=0 by omega),if_neg h0];obtain⟨i1,i2⟩:=YM h0;by_cases h1:(findF l kind).length=1
  ·rw[MO (show ((findF l kind).length:Int)=1 by omega),if_pos h1];simp only[cond_true,cond_false,i1,i2]
  ·rw[MR (show ¬((findF l kind).length:Int)=1 by omega),if_neg h1];rfl
theorem aaB{l:List FF}(kind:Int)(hl:l.length<8796093022208):OE.run .lim (l,kind,())=some ((PD l kind).1,(PD l kind).2,()):=by
 have hn:=Qu l kind;simp only[OE.run,UF kind (by omega) hl,ahk,MS (show (findF l kind).length<9223372036854775808 by omega),cond_true];unfold PD;by_cases h0:(findF l kind).length=0
 ·rw[MO (show ((findF l kind).length:Int)=0 by omega),if_pos h0];rfl
 ·rw[MR (show ¬((findF l kind).length:Int)=0 by omega),if_neg h0];obtain⟨i1,i2⟩:=YM h0;by_cases h1:(findF l kind).length=1
  ·rw[MR (show ¬((findF l kind).length:Int)>1 by omega),if_pos h1];simp only[cond_true,cond_false,i1,i2]
  ·rw[MO (show ((findF l kind).length:Int)>1 by omega),if_neg h1];rfl
def Sv(n:Nat):Nat:=(4-n%4)%4
def TW(s:List Int):List Int:=s++ahs (Sv s.length) 0
theorem Yn: ∀n,EM [0] n=ahs n (0:Int)
 |0=>rfl
 |n+1=>by rw[EM,Yn n];rfl
theorem ae7(n:Int):I8 .i64 n 3=n%4:=by
 show ahl.wrap ((ahB 64 n &&& ahB 64 3).toNat:Int)=_;rw[aiD,ahX,show (ahB 64 3).toNat=2^2-1 from rfl,ah9];rw[wrap64 (by omega) (by omega)];omega
theorem Yi{s:List Int}(h:s.length<4611686018427387904):QU.run .lim (s,())=some (TW s):=by
 have w:ahl.wrap (0-(s.length:Int))= -(s.length:Int):=by rw[wrap64 (by omega) (by omega)];omega
 have e:I8 .i64 (-(s.length:Int)) 3=(Sv s.length:Int):=by rw[ae7];unfold Sv;omega
 have hp:Sv s.length<4:=by unfold Sv;omega
 simp only[QU.run,MS (show s.length<9223372036854775808 by omega),cond_true,w,e];have hr:strings_Repeat.run .lim ([0],(Sv s.length:Int),())=some (ahs (Sv s.length) 0):=by
  show KY ([0],(Sv s.length:Int),())=_;unfold KY;simp only[aht];rw[MO (show (0:Int)<=(Sv s.length:Int) by omega),aiu (show [(0:Int)].length*Sv s.length<=140737488355328 by simp;omega),Yn];rfl
 simp only[hr,ahk];rw[cond_pos (MO (show s.length+(ahs (Sv s.length) (0:Int)).length<=maxStr by rw[ahP];unfold maxStr;omega))];rfl
theorem YR: ∀(d:Nat) (s:List Int),s.length+d<4611686018427387904->Sv s.length=d->NZ.l0 .lim (s,())=some (s++ahs d 0,()):=by
 intro d
 induction d with
 |zero=>
  intro s h hd;rw[NZ.q0];have:(s.length:Int).tmod 4=0:=by rw[ahJ (by omega)];unfold Sv at hd;omega
  simp only[NZ.b0,MS (show s.length<9223372036854775808 by omega),cond_true,MO this,ahn,cond_false,List.replicate_zero,List.append_nil]
 |succ d ih=>
  intro s h hd;rw[NZ.q0];have: ¬(s.length:Int).tmod 4=0:=by rw[ahJ (by omega)];unfold Sv at hd;omega
  simp only[NZ.b0,MS (show s.length<9223372036854775808 by omega),cond_true,MR this,ahz];rw[cond_pos (MO (show s.length+[(0:Int)].length<=maxStr by simp;unfold maxStr;omega)),ih (s++[0]) (by simp;omega) (by unfold Sv at hd ⊢;simp;omega),ahE];rfl
theorem XP{s:List Int}(h:s.length<4611686018427387900):NZ.run .lim (s,())=some (TW s):=by
 have hp:Sv s.length<4:=by unfold Sv;omega
 simp only[NZ.run,YR _ s (by omega) rfl,ahk];rfl
def TR(b:List Int):Nat:=(rd 0 b 2*256+rd 0 b 3).toNat
def Vf(b:List Int):Prop:= ¬(rd 0 b 0*256+rd 0 b 1=16)\/b.length<20+TR b\/b.drop 20≠TW ((b.take (20+TR b)).drop 20)
open Classical in
noncomputable def U8(b:List Int):List Int×List Int×Int:=
 if b.length<4 then([],[],11)else if Vf b then([],[],10)else((b.take 20).drop 4,(b.take (20+TR b)).drop 20,0)
end Go.AM
end
section
namespace Go.AM
theorem Zv{b:List Int}(hb:Bs b){k:Nat}(h:k<b.length):B8 (rd 0 b (k:Int)):=hb _ (Oj (by omega) (by omega))
theorem aaw{α:Type}{d:α}{xs:List α}{n k:Nat}:rd d (xs.drop n) (k:Int)=rd d xs ((n+k:Nat):Int):=by unfold rd;rw[aht,aht,aie,aie,List.getElem?_drop]
theorem QM{α:Type}{s:List α}{b:Nat}{j:Int}(hj:j=(b:Int)):cut s 0 j=s.take b:=by subst hj;rfl
theorem ZE{b:List Int}(hb:Bs b)(hl:b.length<1000000):Rx.run .lim (b,())=some ((U8 b).1,(U8 b).2.1,(U8 b).2.2,()):=by
 simp only[Rx.run,MS (show b.length<9223372036854775808 by omega),cond_true];have hc0:cut b 2 (b.length:Int)=b.drop 2:=Si (a:=2) rfl;have hc1:cut b 0 2=b.take 2:=QM (b:=2) rfl;simp only[hc0,hc1];unfold U8;by_cases h2:b.length<2
 ·rw[MO (show (b.length:Int)<2 by omega),if_pos (by omega)];rfl
 rw[MR (show ¬(b.length:Int)<2 by omega)];have l2:(b.drop 2).length=b.length-2:=aho;have lt2:(b.take 2).length=2:=by rw[ahq];omega
 simp only[cond_false,Na (show (0:Int)<=0 by omega) (show (0:Int)<=2 by omega) (show (2:Int)<=(b.length:Int) by omega),Na (show (0:Int)<=2 by omega) (show (2:Int)<=(b.length:Int) by omega) (ahx _),cond_true,lt2,
  MX (show (0:Int)<=0 by omega) (show (0:Int)<((2:Nat):Int) by omega),MX (show (0:Int)<=1 by omega) (show (1:Int)<((2:Nat):Int) by omega),MS (show (b.drop 2).length<9223372036854775808 by omega)]
 by_cases h4:b.length<4
 ·rw[MO (show ((b.drop 2).length:Int)<2 by omega),if_pos h4];rfl
 rw[MR (show ¬((b.drop 2).length:Int)<2 by omega),if_neg h4];have hc2:cut (b.drop 2) 0 2=(b.drop 2).take 2:=QM (b:=2) rfl;have hc3:cut (b.drop 2) 2 ((b.drop 2).length:Int)=b.drop 4:=(show cut (b.drop 2) 2 ((b.drop 2).length:Int)=(b.drop 2).drop 2 from Si (a:=2) rfl).trans (by rw[ah8]);have lt3:((b.drop 2).take 2).length=2:=by rw[ahq];omega
 have l4:(b.drop 4).length=b.length-4:=aho;have r0:rd 0 (b.take 2) 0=rd 0 b 0:=SA (k:=0) (n:=2) (by decide);have r1:rd 0 (b.take 2) 1=rd 0 b 1:=SA (k:=1) (n:=2) (by decide);have r2:rd 0 ((b.drop 2).take 2) 0=rd 0 b 2:=(SA (k:=0) (n:=2) (by decide)).trans (aaw (n:=2) (k:=0));have r3:rd 0 ((b.drop 2).take 2) 1=rd 0 b 3:=(SA (k:=1) (n:=2) (by decide)).trans (aaw (n:=2) (k:=1));have b0:B8 (rd 0 b 0):=Zv hb (k:=0) (by omega);have b1:B8 (rd 0 b 1):=Zv hb (k:=1) (by omega);have b2:B8 (rd 0 b 2):=Zv hb (k:=2) (by omega);have b3:B8 (rd 0 b 3):=Zv hb (k:=3) (by omega);have hm:rd 0 b 2*256+rd 0 b 3=(TR b:Int):=by unfold TR;omega
 have hm2:TR b<65536:=by unfold TR;omega
 simp only[cond_false,hc2,hc3,lt3,r0,r1,r2,r3,aeN b0 b1,aeN b2 b3,hm,Na (show (0:Int)<=0 by omega) (show (0:Int)<=2 by omega) (show (2:Int)<=((b.drop 2).length:Int) by omega),Na (show (0:Int)<=2 by omega) (show (2:Int)<=((b.drop 2).length:Int) by omega) (ahx _),cond_true,
  MX (show (0:Int)<=0 by omega) (show (0:Int)<((2:Nat):Int) by omega),MX (show (0:Int)<=1 by omega) (show (1:Int)<((2:Nat):Int) by omega)]
 by_cases hn:rd 0 b 0*256+rd 0 b 1=16
 ·simp only[hn,decide_true,ahn,cond_false,MS (show (b.drop 4).length<9223372036854775808 by omega),cond_true];by_cases h20:b.length<20
  ·rw[MO (show ((b.drop 4).length:Int)<16 by omega),if_pos (show Vf b from .inr (.inl (by omega)))];rfl
  rw[MR (show ¬((b.drop 4).length:Int)<16 by omega)];have hc4:cut (b.drop 4) 0 16=(b.take 20).drop 4:=(show cut (b.drop 4) 0 16=(b.drop 4).take 16 from QM (b:=16) rfl).trans (by rw[aix]);have hc5:cut (b.drop 4) 16 ((b.drop 4).length:Int)=b.drop 20:=(show cut (b.drop 4) 16 ((b.drop 4).length:Int)=(b.drop 4).drop 16 from Si (a:=16) rfl).trans (by rw[ah8]);have l20:(b.drop 20).length=b.length-20:=aho;simp only[cond_false,hc4,hc5,Na (show (0:Int)<=0 by omega) (show (0:Int)<=16 by omega) (show (16:Int)<=((b.drop 4).length:Int) by omega),Na (show (0:Int)<=16 by omega) (show (16:Int)<=((b.drop 4).length:Int) by omega) (ahx _),cond_true,MS (show (b.drop 20).length<9223372036854775808 by omega)];by_cases hmm:b.length<20+TR b
  ·rw[MO (show ((b.drop 20).length:Int)<(TR b:Int) by omega),if_pos (show Vf b from .inr (.inl hmm))];rfl
  rw[MR (show ¬((b.drop 20).length:Int)<(TR b:Int) by omega)];have hc6:cut (b.drop 20) 0 (TR b:Int)=(b.drop 20).take (TR b):=QM rfl;have hc7:cut (b.drop 20) (TR b:Int) ((b.drop 20).length:Int)=(b.drop 20).drop (TR b):=Si rfl;have ls:((b.drop 20).take (TR b)).length=TR b:=by rw[ahq];omega
  have hst:(b.take (20+TR b)).drop 20=(b.drop 20).take (TR b):=by rw[aix];congr 1;omega
  have afS:((b.drop 20).take (TR b)).length+((b.drop 20).drop (TR b)).length<=maxStr:=by rw[ls,aho];unfold maxStr;omega
  simp only[cond_false,hc6,hc7,Na (show (0:Int)<=0 by omega) (show (0:Int)<=(TR b:Int) by omega) (show (TR b:Int)<=((b.drop 20).length:Int) by omega),Na (show (0:Int)<=(TR b:Int) by omega) (show (TR b:Int)<=((b.drop 20).length:Int) by omega) (ahx _),cond_true];rw[cond_pos (MO afS),Yi (show ((b.drop 20).take (TR b)).length<4611686018427387904 by omega)];simp only[ahk,ahD];by_cases hf:b.drop 20=TW ((b.drop 20).take (TR b))
  ·rw[MO hf,if_neg (show ¬Vf b from fun q=>by
    rcases q with q|q|q
    ·exact q hn
    ·exact hmm q
    ·exact q (by rw[hst];exact hf)),hst];rfl
  ·rw[MR hf,if_pos (show Vf b from .inr (.inr (by rw[hst];exact hf)))];rfl
 ·rw[MR hn,if_pos (show Vf b from .inl hn)];rfl
theorem abf{b:List Int}(hb:Bs b)(hl:b.length<1000000):PI.run .lim (b,())=some ((U8 b).1,(U8 b).2.1,(U8 b).2.2,()):=by
 simp only[PI.run,MS (show b.length<9223372036854775808 by omega),cond_true];unfold U8;by_cases h4:b.length<4
 ·rw[MO (show (b.length:Int)<4 by omega),if_pos h4];rfl
 rw[MR (show ¬(b.length:Int)<4 by omega),if_neg h4];have b0:B8 (rd 0 b 0):=Zv hb (k:=0) (by omega);have b1:B8 (rd 0 b 1):=Zv hb (k:=1) (by omega);have b2:B8 (rd 0 b 2):=Zv hb (k:=2) (by omega);have b3:B8 (rd 0 b 3):=Zv hb (k:=3) (by omega);have hm:rd 0 b 2*256+rd 0 b 3=(TR b:Int):=by unfold TR;omega
 have hm2:TR b<65536:=by unfold TR;omega
 have i: ∀a:Int,0<=a->a<4->inB a (b.length:Int)=true:=fun a x y=>MX x (by omega)
 simp only[cond_false,i 0 (by decide) (by decide),i 1 (by decide) (by decide),i 2 (by decide) (by decide),i 3 (by decide) (by decide),cond_true,ab_ b0 b1,ab_ b2 b3,hm,ahw];by_cases hn:rd 0 b 0*256+rd 0 b 1=16
 ·have w1:ahl.wrap (4+16)=20:=by decide
  have w2:ahl.wrap (20+(TR b:Int))=((20+TR b:Nat):Int):=by rw[wrap64 (by omega) (by omega)];omega
  simp only[hn,decide_true,ahn,ah1,w1,w2];by_cases hmm:b.length<20+TR b
  ·rw[MO (show (b.length:Int)<((20+TR b:Nat):Int) by omega),if_pos (show Vf b from .inr (.inl hmm))];rfl
  rw[MR (show ¬(b.length:Int)<((20+TR b:Nat):Int) by omega)];have hc4:cut b 4 20=(b.take 20).drop 4:=Ql (a:=4) (b:=20) rfl rfl;have hc5:cut b 20 (b.length:Int)=b.drop 20:=Si (a:=20) rfl;have hc6:cut b 20 ((20+TR b:Nat):Int)=(b.take (20+TR b)).drop 20:=Ql (a:=20) rfl rfl;have ls:((b.take (20+TR b)).drop 20).length=TR b:=by rw[TL (by omega)];omega
  simp only[cond_false,hc4,hc5,hc6,Na (show (0:Int)<=20 by omega) (show (20:Int)<=((20+TR b:Nat):Int) by omega) (show ((20+TR b:Nat):Int)<=(b.length:Int) by omega),Na (show (0:Int)<=20 by omega) (show (20:Int)<=(b.length:Int) by omega) (ahx _),Na (show (0:Int)<=4 by omega) (show (4:Int)<=20 by omega) (show (20:Int)<=(b.length:Int) by omega),cond_true,
   XP (show ((b.take (20+TR b)).drop 20).length<4611686018427387900 by omega),ahk]
  by_cases hf:b.drop 20=TW ((b.take (20+TR b)).drop 20)
  ·rw[MO hf,if_neg (show ¬Vf b from fun q=>by
    rcases q with q|q|q
    ·exact q hn
    ·exact hmm q
    ·exact q hf)];rfl
  ·rw[MR hf,if_pos (show Vf b from .inr (.inr hf))];rfl
 ·rw[MR hn,if_pos (show Vf b from .inl hn)];rfl
theorem adU{b:List Int}(hb:Bs b):Bs (U8 b).1/\Bs (U8 b).2.1/\(U8 b).1.length<=b.length/\(U8 b).2.1.length<=b.length:=by
 unfold U8;split
 ·exact⟨fun x h=>(by cases h),fun x h=>(by cases h),by simp,by simp⟩
 ·split
  ·exact⟨fun x h=>(by cases h),fun x h=>(by cases h),by simp,by simp⟩
  ·exact⟨(hb.take _).drop _,(hb.take _).drop _,by rw[aho,ahq];omega,by rw[aho,ahq];omega⟩
abbrev NT:=PK×List FF×List FF
abbrev n0:NT:=(p0,([],[]))
end Go.AM
end
section
namespace Go.AM
noncomputable def QT(v:VV)(s key:List Int):NT×Int:=
 if Wv s=0 then
  match Uw (Pq s).fs 1028 with
  |none=>(n0,19)
  |some k=>
   if(U8 (rd f0 (Pq s).fs (k:Int)).2).2.2=0 then
    if(Pm v key [s.take (48+(Nv ((Pq s).fs.take k)).length),(U8 (rd f0 (Pq s).fs (k:Int)).2).1] (U8 (rd f0 (Pq s).fs (k:Int)).2).2.1).2=0 then
     if(U6 (Pm v key [s.take (48+(Nv ((Pq s).fs.take k)).length),(U8 (rd f0 (Pq s).fs (k:Int)).2).1] (U8 (rd f0 (Pq s).fs (k:Int)).2).2.1).1.length (Pm v key [s.take (48+(Nv ((Pq s).fs.take k)).length),(U8 (rd f0 (Pq s).fs (k:Int)).2).1] (U8 (rd f0 (Pq s).fs (k:Int)).2).2.1).1 []).2=0 then
      ((PK.cut (Pq s) [],((Pq s).fs.take k,(U6 (Pm v key [s.take (48+(Nv ((Pq s).fs.take k)).length),(U8 (rd f0 (Pq s).fs (k:Int)).2).1] (U8 (rd f0 (Pq s).fs (k:Int)).2).2.1).1.length (Pm v key [s.take (48+(Nv ((Pq s).fs.take k)).length),(U8 (rd f0 (Pq s).fs (k:Int)).2).1] (U8 (rd f0 (Pq s).fs (k:Int)).2).2.1).1 []).1)),0)
     else(n0,(U6 (Pm v key [s.take (48+(Nv ((Pq s).fs.take k)).length),(U8 (rd f0 (Pq s).fs (k:Int)).2).1] (U8 (rd f0 (Pq s).fs (k:Int)).2).2.1).1.length (Pm v key [s.take (48+(Nv ((Pq s).fs.take k)).length),(U8 (rd f0 (Pq s).fs (k:Int)).2).1] (U8 (rd f0 (Pq s).fs (k:Int)).2).2.1).1 []).2)
    else(n0,(Pm v key [s.take (48+(Nv ((Pq s).fs.take k)).length),(U8 (rd f0 (Pq s).fs (k:Int)).2).1] (U8 (rd f0 (Pq s).fs (k:Int)).2).2.1).2)
   else(n0,(U8 (rd f0 (Pq s).fs (k:Int)).2).2.2)
 else(n0,Wv s)
theorem abM{l:List FF}(hb: ∀f∈l,f.2.length<65532): ∀j,(Nv (l.take j)).length<=j*65536:=fun j=>by
 induction j with
 |zero=>exact aiH _
 |succ j ih=>
  rw[Nat.add_mul];by_cases hjl:j<l.length
  ·rw[Td hjl,ahp,QN];have:=hb _ (Oj (d:=f0) (xs:=l) (i:=(j:Int)) (by omega) (by omega));omega
  ·have e1:l.take (j+1)=l:=ahr (by omega);have e2:l.take j=l:=ahr (by omega);rw[e2]at ih;rw[e1];exact aiQ ih (aib _ _)
theorem ab7{v:VV}{key:List Int}{r:PK}(h:r.fs.length<=16):
  Qc.l0 .lim (r.2.2.2.2.2.2.2.2.2.2.2.2.2,(r.2.2.2.2.2.2.2.2.2.2.2.2.2.length:Int),0,key,v.1,v.2,0,0,0,0,0,0,0,0,0,0,0,0,0,r.1,r.2.1,r.2.2.1,r.2.2.2.1,r.2.2.2.2.1,r.2.2.2.2.2.1,r.2.2.2.2.2.2.1,r.2.2.2.2.2.2.2.1,r.2.2.2.2.2.2.2.2.1,r.2.2.2.2.2.2.2.2.2.1,r.2.2.2.2.2.2.2.2.2.2.1,r.2.2.2.2.2.2.2.2.2.2.2.1,r.2.2.2.2.2.2.2.2.2.2.2.2.1,r.2.2.2.2.2.2.2.2.2.2.2.2.2,())=match Uw r.fs 1028 with
   |some k=>some (.inl ((k:Int),key,v.1,v.2,0,0,0,0,0,0,0,0,0,0,0,0,0,r.1,r.2.1,r.2.2.1,r.2.2.2.1,r.2.2.2.2.1,r.2.2.2.2.2.1,r.2.2.2.2.2.2.1,r.2.2.2.2.2.2.2.1,r.2.2.2.2.2.2.2.2.1,r.2.2.2.2.2.2.2.2.2.1,r.2.2.2.2.2.2.2.2.2.2.1,r.2.2.2.2.2.2.2.2.2.2.2.1,r.2.2.2.2.2.2.2.2.2.2.2.2.1,r.2.2.2.2.2.2.2.2.2.2.2.2.2,()))
   |none=>some (.inr (key,v.1,v.2,0,0,0,0,0,0,0,0,0,0,0,0,0,r.1,r.2.1,r.2.2.1,r.2.2.2.1,r.2.2.2.2.1,r.2.2.2.2.2.1,r.2.2.2.2.2.2.1,r.2.2.2.2.2.2.2.1,r.2.2.2.2.2.2.2.2.1,r.2.2.2.2.2.2.2.2.2.1,r.2.2.2.2.2.2.2.2.2.2.1,r.2.2.2.2.2.2.2.2.2.2.2.1,r.2.2.2.2.2.2.2.2.2.2.2.2.1,r.2.2.2.2.2.2.2.2.2.2.2.2.2,())):=by
 have h:r.2.2.2.2.2.2.2.2.2.2.2.2.2.length<=16:=h;have e:=Qp (f:=Qc.l0 .lim) (fun j=>(r.2.2.2.2.2.2.2.2.2.2.2.2.2,(r.2.2.2.2.2.2.2.2.2.2.2.2.2.length:Int),(j:Int),key,v.1,v.2,0,0,0,0,0,0,0,0,0,0,0,0,0,r.1,r.2.1,r.2.2.1,r.2.2.2.1,r.2.2.2.2.1,r.2.2.2.2.2.1,r.2.2.2.2.2.2.1,r.2.2.2.2.2.2.2.1,r.2.2.2.2.2.2.2.2.1,r.2.2.2.2.2.2.2.2.2.1,r.2.2.2.2.2.2.2.2.2.2.1,r.2.2.2.2.2.2.2.2.2.2.2.1,r.2.2.2.2.2.2.2.2.2.2.2.2.1,r.2.2.2.2.2.2.2.2.2.2.2.2.2,())) r.2.2.2.2.2.2.2.2.2.2.2.2.2.length (fun j:Nat=>decide ((rd f0 r.2.2.2.2.2.2.2.2.2.2.2.2.2 (j:Int)).1=1028)) (fun j=>some (.inl ((j:Int),key,v.1,v.2,0,0,0,0,0,0,0,0,0,0,0,0,0,r.1,r.2.1,r.2.2.1,r.2.2.2.1,r.2.2.2.2.1,r.2.2.2.2.2.1,r.2.2.2.2.2.2.1,r.2.2.2.2.2.2.2.1,r.2.2.2.2.2.2.2.2.1,r.2.2.2.2.2.2.2.2.2.1,r.2.2.2.2.2.2.2.2.2.2.1,r.2.2.2.2.2.2.2.2.2.2.2.1,r.2.2.2.2.2.2.2.2.2.2.2.2.1,r.2.2.2.2.2.2.2.2.2.2.2.2.2,()))) (fun k hk=>by
  rw[Qc.q0];have hr:Uh.run .lim (rd ((0:Int),([]:List Int)) r.2.2.2.2.2.2.2.2.2.2.2.2.2 (k:Int),())=some (decide ((rd f0 r.2.2.2.2.2.2.2.2.2.2.2.2.2 (k:Int)).1=1028)):=rfl;simp only[Qc.b0,MO (show (k:Int)<(r.2.2.2.2.2.2.2.2.2.2.2.2.2.length:Int) by omega),MX (show (0:Int)<=(k:Int) by omega) (show (k:Int)<(r.2.2.2.2.2.2.2.2.2.2.2.2.2.length:Int) by omega),cond_true,hr,ahk,QO k (by omega)])
 have e0:Qc.l0 .lim (r.2.2.2.2.2.2.2.2.2.2.2.2.2,(r.2.2.2.2.2.2.2.2.2.2.2.2.2.length:Int),0,key,v.1,v.2,0,0,0,0,0,0,0,0,0,0,0,0,0,r.1,r.2.1,r.2.2.1,r.2.2.2.1,r.2.2.2.2.1,r.2.2.2.2.2.1,r.2.2.2.2.2.2.1,r.2.2.2.2.2.2.2.1,r.2.2.2.2.2.2.2.2.1,r.2.2.2.2.2.2.2.2.2.1,r.2.2.2.2.2.2.2.2.2.2.1,r.2.2.2.2.2.2.2.2.2.2.2.1,r.2.2.2.2.2.2.2.2.2.2.2.2.1,r.2.2.2.2.2.2.2.2.2.2.2.2.2,())=_:=e;rw[e0];unfold Uw;cases hq:(ahu r.fs.length).find? (fun k:Nat=>decide ((rd f0 r.fs (k:Int)).1=1028))with
 |some k=>
  have hq:(ahu r.2.2.2.2.2.2.2.2.2.2.2.2.2.length).find? (fun k:Nat=>decide ((rd f0 r.2.2.2.2.2.2.2.2.2.2.2.2.2 (k:Int)).1=1028))=some k:=hq;simp only[hq]
 |none=>
  have hq:(ahu r.2.2.2.2.2.2.2.2.2.2.2.2.2.length).find? (fun k:Nat=>decide ((rd f0 r.2.2.2.2.2.2.2.2.2.2.2.2.2 (k:Int)).1=1028))=none:=hq;simp only[hq];rw[Qc.q0];simp only[Qc.b0,MR (show ¬(r.2.2.2.2.2.2.2.2.2.2.2.2.2.length:Int)<(r.2.2.2.2.2.2.2.2.2.2.2.2.2.length:Int) by omega),cond_false]
theorem adv{v:VV}{s key at_:List Int}{r:PK}{k:Nat}(h:r.fs.length<=16)(hk:k<r.fs.length)(hb: ∀f∈r.fs,f.2.length<65532)(hat:rd 0 at_ 0=(k:Int))(hal:0<at_.length):
  NJ.l0 .lim (s,key,48,0,v.1,v.2,0,0,0,0,0,0,0,0,0,0,0,0,0,r.1,r.2.1,r.2.2.1,r.2.2.2.1,r.2.2.2.2.1,r.2.2.2.2.2.1,r.2.2.2.2.2.2.1,r.2.2.2.2.2.2.2.1,r.2.2.2.2.2.2.2.2.1,r.2.2.2.2.2.2.2.2.2.1,r.2.2.2.2.2.2.2.2.2.2.1,r.2.2.2.2.2.2.2.2.2.2.2.1,r.2.2.2.2.2.2.2.2.2.2.2.2.1,r.2.2.2.2.2.2.2.2.2.2.2.2.2,at_,())=some (s,key,((48+(Nv (r.fs.take k)).length:Nat):Int),v.1,v.2,0,0,0,0,0,0,0,0,0,0,0,0,0,r.1,r.2.1,r.2.2.1,r.2.2.2.1,r.2.2.2.2.1,r.2.2.2.2.2.1,r.2.2.2.2.2.2.1,r.2.2.2.2.2.2.2.1,r.2.2.2.2.2.2.2.2.1,r.2.2.2.2.2.2.2.2.2.1,r.2.2.2.2.2.2.2.2.2.2.1,r.2.2.2.2.2.2.2.2.2.2.2.1,r.2.2.2.2.2.2.2.2.2.2.2.2.1,r.2.2.2.2.2.2.2.2.2.2.2.2.2,at_,()):=by
 have h:r.2.2.2.2.2.2.2.2.2.2.2.2.2.length<=16:=h;have hk:k<r.2.2.2.2.2.2.2.2.2.2.2.2.2.length:=hk;have hal2:inB 0 (at_.length:Int)=true:=MX (by omega) (by omega);have hle:=abM hb;have e:=Om (f:=NJ.l0 .lim) (fun j=>(s,key,((48+(Nv (r.fs.take j)).length:Nat):Int),(j:Int),v.1,v.2,0,0,0,0,0,0,0,0,0,0,0,0,0,r.1,r.2.1,r.2.2.1,r.2.2.2.1,r.2.2.2.2.1,r.2.2.2.2.2.1,r.2.2.2.2.2.2.1,r.2.2.2.2.2.2.2.1,r.2.2.2.2.2.2.2.2.1,r.2.2.2.2.2.2.2.2.2.1,r.2.2.2.2.2.2.2.2.2.2.1,r.2.2.2.2.2.2.2.2.2.2.2.1,r.2.2.2.2.2.2.2.2.2.2.2.2.1,r.2.2.2.2.2.2.2.2.2.2.2.2.2,at_,())) (n:=k) (fun j hj=>by
  rw[NJ.q0];have hl:=hle j;have hf:=hb _ (Oj (d:=f0) (xs:=r.fs) (i:=(j:Int)) (by omega) (show (j:Int)<(r.2.2.2.2.2.2.2.2.2.2.2.2.2.length:Int) by omega));have es:(Nv (r.fs.take (j+1))).length=(Nv (r.fs.take j)).length+(4+(rd f0 r.2.2.2.2.2.2.2.2.2.2.2.2.2 (j:Int)).2.length):=by rw[Td (show j<r.fs.length by show j<r.2.2.2.2.2.2.2.2.2.2.2.2.2.length;omega),ahp,QN]
  have w:ahl.wrap (ahl.wrap (((48+(Nv (r.fs.take j)).length:Nat):Int)+4)+((rd f0 r.2.2.2.2.2.2.2.2.2.2.2.2.2 (j:Int)).2.length:Int))=((48+(Nv (r.fs.take (j+1))).length:Nat):Int):=by
   have hf:(rd f0 r.2.2.2.2.2.2.2.2.2.2.2.2.2 (j:Int)).2.length<65532:=hf;rw[wrap64 (n:=((48+(Nv (r.fs.take j)).length:Nat):Int)+4) (by omega) (by omega),wrap64 (by omega) (by omega),es];omega
  simp only[NJ.b0,hal2,cond_true,hat,MO (show (j:Int)<(k:Int) by omega),MX (show (0:Int)<=(j:Int) by omega) (show (j:Int)<(r.2.2.2.2.2.2.2.2.2.2.2.2.2.length:Int) by omega),MS (show (rd f0 r.2.2.2.2.2.2.2.2.2.2.2.2.2 (j:Int)).2.length<9223372036854775808 from aij hf (by decide)),w,QO j (by omega)])
 have e0:NJ.l0 .lim (s,key,48,0,v.1,v.2,0,0,0,0,0,0,0,0,0,0,0,0,0,r.1,r.2.1,r.2.2.1,r.2.2.2.1,r.2.2.2.2.1,r.2.2.2.2.2.1,r.2.2.2.2.2.2.1,r.2.2.2.2.2.2.2.1,r.2.2.2.2.2.2.2.2.1,r.2.2.2.2.2.2.2.2.2.1,r.2.2.2.2.2.2.2.2.2.2.1,r.2.2.2.2.2.2.2.2.2.2.2.1,r.2.2.2.2.2.2.2.2.2.2.2.2.1,r.2.2.2.2.2.2.2.2.2.2.2.2.2,at_,())=_:=e;rw[e0,NJ.q0];simp only[NJ.b0,hal2,cond_true,hat,MR (show ¬(k:Int)<(k:Int) by omega),cond_false]
theorem afC:Bs []:=fun x h=>by cases h
theorem ab9{v:VV}(hv:okV v)(hf:P_ v=true)(hvb:vB v){s key:List Int}(hs:Bs s)(hl:s.length<9223372036854775808)(hk:key.length<Nr)(hkb:Bs key):
  Qc.run .lim (v,s,key,())=some ((QT v s key).1,(QT v s key).2,())/\NJ.run .lim (v,s,key,())=some ((QT v s key).1,(QT v s key).2,()):=by
 simp only[Qc.run,NJ.run,YP hs hl,XT hs hl,ahk];unfold QT;by_cases h0:Wv s=0
 case neg=>rw[MR h0,if_neg h0];exact⟨rfl,rfl⟩
 rw[MO h0,if_pos h0];have w:=was hs h0;have hfew:=w.few;have hok:=w.ok;have hwb:=X4 hs h0;have hsl:s.length=48+(Nv (Pq s).fs).length:=by
  have:=congrArg aiz w.st;rw[ahp,ahq,ahN w.l0]at this;exact this
 have afR:=w.l1;generalize Pq s=r at hfew hok hwb hsl;have hfs:r.2.2.2.2.2.2.2.2.2.2.2.2.2.length<=16:=hfew;have hff:=UF (l:=r.fs) 1028 (by omega) (by omega);have hff:Nk.run .lim (r.2.2.2.2.2.2.2.2.2.2.2.2.2,1028,())=some (findF r.fs 1028):=hff;have abS:=Qu r.fs 1028;simp only[ahn,cond_false,MS (show r.2.2.2.2.2.2.2.2.2.2.2.2.2.length<9223372036854775808 by omega),cond_true,hff,ahk,MS (show (findF r.fs 1028).length<9223372036854775808 by omega)];rw[ab7 hfew];rcases QZ r.fs 1028 with⟨q1,q2⟩|⟨k,l,q1,q2,hkl,hkd⟩
 ·simp only[q1,q2];exact⟨rfl,rfl⟩
 have hmem:rd f0 r.fs (k:Int)∈r.fs:=Oj (by omega) (by omega);have hfo:=hok _ hmem;have hal:0<(findF r.fs 1028).length:=by rw[q2];simp
 have hat:rd 0 (findF r.fs 1028) 0=(k:Int):=by rw[q2];rfl
 have hkl':k<r.2.2.2.2.2.2.2.2.2.2.2.2.2.length:=hkl;rw[adv hfew hkl (fun f hf=>(hok f hf).l1) hat hal];simp only[q1,ahk,MR (show ¬((findF r.fs 1028).length:Int)=0 by omega),cond_false,MR (show ¬(k:Int)<0 by omega),Na (show (0:Int)<=0 by omega) (show (0:Int)<=(k:Int) by omega) (ahx _),MO (show (k:Int)<=(r.2.2.2.2.2.2.2.2.2.2.2.2.2.length:Int) by omega),ah5,cond_true,
  MX (show (0:Int)<=(k:Int) by omega) (show (k:Int)<(r.2.2.2.2.2.2.2.2.2.2.2.2.2.length:Int) by omega),MX (show (0:Int)<=0 by omega) (show (0:Int)<((findF r.fs 1028).length:Int) by omega),hat]
 have hbb:Bs (rd f0 r.fs (k:Int)).2:=hfo.b;have hbl:(rd f0 r.fs (k:Int)).2.length<65532:=hfo.l1;have sp:=ZE hbb (by omega);have rsp:=abf hbb (by omega);have sp:Rx.run .lim ((rd ((0:Int),([]:List Int)) r.2.2.2.2.2.2.2.2.2.2.2.2.2 (k:Int)).2,())=_:=sp;have rsp:PI.run .lim ((rd ((0:Int),([]:List Int)) r.2.2.2.2.2.2.2.2.2.2.2.2.2 (k:Int)).2,())=_:=rsp;obtain⟨sB1,sB2,sL1,sL2⟩:=adU hbb;simp only[sp,rsp,ahk];generalize U8 (rd f0 r.fs (k:Int)).2=g at sB1 sB2 sL1 sL2;obtain⟨MZ,sealed,e⟩:=g;simp only at sB1 sB2 sL1 sL2 ⊢
 by_cases he:e=0
 case neg=>rw[MR he,if_neg he];exact⟨rfl,rfl⟩
 rw[MO he,if_pos he];have hcz:cut r.2.2.2.2.2.2.2.2.2.2.2.2.2 0 (k:Int)=r.2.2.2.2.2.2.2.2.2.2.2.2.2.take k:=QM rfl;have hw:=hwb k;have hw:Nl.run .lim ((r.1,r.2.1,r.2.2.1,r.2.2.2.1,r.2.2.2.2.1,r.2.2.2.2.2.1,r.2.2.2.2.2.2.1,r.2.2.2.2.2.2.2.1,r.2.2.2.2.2.2.2.2.1,r.2.2.2.2.2.2.2.2.2.1,r.2.2.2.2.2.2.2.2.2.2.1,r.2.2.2.2.2.2.2.2.2.2.2.1,r.2.2.2.2.2.2.2.2.2.2.2.2.1,r.2.2.2.2.2.2.2.2.2.2.2.2.2.take k),())=some (s.take (48+(Nv (r.fs.take k)).length),0,()):=hw;have hle:=Xr r.fs k;generalize hN:48+(Nv (r.fs.take k)).length=N at hw;have hNs:N<=s.length:=by omega
 have hcn:cut s 0 (N:Int)=s.take N:=QM rfl;have T:Vu key [s.take N,MZ] sealed:=⟨hk,hkb,by simp[Nr],fun t ht=>by
  simp only[ahW,ahO,or_false]at ht;rcases ht with rfl|rfl
  ·rw[ahq];exact Oe (by omega)
  ·exact Oe (by omega),Oe (by omega)⟩
 have op:=XG hv T sB2;have rop:=Yo hv T;have op:O5.run .lim ((v.1,v.2),key,[s.take N,MZ],sealed,())=_:=op;have rop:NR.run .lim ((v.1,v.2),key,[s.take N,MZ],sealed,())=_:=rop;simp only[ahn,cond_false,hcz,hw,ahk,op,rop,hcn,Na (show (0:Int)<=0 by omega) (show (0:Int)<=(N:Int) by omega) (show (N:Int)<=(s.length:Int) by omega),cond_true];by_cases ho:(Pm v key [s.take N,MZ] sealed).2=0
 case neg=>rw[MR ho,if_neg ho];exact⟨rfl,rfl⟩
 rw[MO ho,if_pos ho];obtain⟨_,ol,_,oB⟩:=UA hf hvb ho;generalize (Pm v key [s.take N,MZ] sealed).1=p at ol oB;simp only[ahn,cond_false,acF oB (show p.length<9223372036854775808 by omega),acw oB (show p.length<9223372036854775808 by omega),ahk];by_cases ht:(U6 p.length p []).2=0
 case neg=>rw[MR ht,if_neg ht];exact⟨rfl,rfl⟩
 rw[MO ht,if_pos ht];simp only[ahn,cond_false,Na (show (0:Int)<=0 by omega) (show (0:Int)<=(k:Int) by omega) (show (k:Int)<=(r.2.2.2.2.2.2.2.2.2.2.2.2.2.length:Int) by omega),cond_true]
 first|exact⟨rfl,rfl⟩|exact⟨trivial,rfl⟩|exact⟨rfl,trivial⟩|trivial
end Go.AM
end
section
namespace Go.AM
theorem ZU{f:FF}(h:FOk f)(x:List Int):OQ (Q9 f++x)=4+f.2.length/\ ¬Vk (Q9 f++x)/\fOf (Q9 f++x)=f/\(Q9 f++x).drop (OQ (Q9 f++x))=x:=by
 have h1:=h.k0;have h2:=h.k1;have h3:=h.l0;have h4:=h.l4;have h5:=h.l1;have hl:=QN f;have e4:(Q9 f++x).take 4=twoS f.1++twoS ((f.2.length:Int)+4):=by
  unfold Q9;rw[ahE,aia (by simp[twoS]),ahr (by simp[twoS])]
 have eL:OQ (Q9 f++x)=4+f.2.length:=by
  unfold OQ;rw[e4,ah_ (by simp[twoS]),aiq (by simp[twoS]),aic,val_two (by omega) (by omega)];omega
 have e2:(Q9 f++x).take 2=twoS f.1:=by
  have:(Q9 f++x).take 2=((Q9 f++x).take 4).take 2:=by rw[aik];rfl
  rw[this,e4,aia (by simp[twoS]),ahr (by simp[twoS])]
 have eT:(Q9 f++x).take (4+f.2.length)=Q9 f:=by rw[<-hl,aiK]
 refine⟨eL,?_,?_,?_⟩
 ·unfold Vk;rw[eL,ahp,hl];omega
 ·unfold fOf;rw[eL,e2,eT,val_two h1 h2];unfold Q9;rw[ah_ (by simp[twoS]),aiq (by simp[twoS]),aic]
 ·rw[eL,<-hl,aiJ]
theorem adD: ∀(l:List FF) (n:Nat) (acc:List FF),(∀f∈l,FOk f)->(Nv l).length<=n->acc.length+l.length<=16->U6 n (Nv l) acc=(acc++l,0):=by
 intro l
 induction l with
 |nil=>
  intro n acc _ _ _;have e:Nv []=[]:=rfl;rw[e];cases n with
  |zero=>simp[U6]
  |succ n=>simp[U6]
 |cons f l ih=>
  intro n acc hf hn hl;have hfo:=hf f (.head _);have he:Nv (f::l)=Q9 f++Nv l:=by simp[Nv]
  rw[he]at hn ⊢
  obtain⟨p1,p2,p3,p4⟩:=ZU hfo (Nv l);have hlen:=QN f;cases n with
  |zero=>rw[ahp]at hn;omega
  |succ n=>
   have hne: ¬(Q9 f++Nv l=[]):=fun q=>by
    have:=congrArg aiz q;rw[ahp,hlen]at this;simp at this
   rw[aip]at hl;rw[U6,if_neg hne,if_neg p2,if_neg (by omega),p3,p4];have:=ih n (acc++[f]) (fun g hg=>hf g (.tail _ hg)) (by rw[ahp]at hn;omega) (by simp;omega);rw[this,ahE];rfl
theorem YX{n:Int}(h0:0<=n)(h1:n<4294967296):OI (ZR (ahv.wrap n))=n:=by
 rw[show ahv.wrap n=n by rw[SH];omega];have s1:=Ph n 0 24 .u64 (by decide);have s2:=Ph n 0 16 .u64 (by decide);have s3:=Ph n 0 8 .u64 (by decide);have s4:=Ph n 0 0 .u64 (by decide);unfold ZR TV OI;simp only[s1,s2,s3,s4,Qx,ait,aiy];omega
theorem Xg{n:Int}(h0:0<=n)(h1:n<18446744073709551616):OI (by8 n)=n:=by
 have s1:=Ph n 0 56 .u64 (by decide);have s2:=Ph n 0 48 .u64 (by decide);have s3:=Ph n 0 40 .u64 (by decide);have s4:=Ph n 0 32 .u64 (by decide);have s5:=Ph n 0 24 .u64 (by decide);have s6:=Ph n 0 16 .u64 (by decide);have s7:=Ph n 0 8 .u64 (by decide);have s8:=Ph n 0 0 .u64 (by decide);unfold by8 TV OI;simp only[s1,s2,s3,s4,s5,s6,s7,s8,Qx,ait,aiy];omega
structure POk(p:PK):Prop where
 hd:WG p=true
 a:0<=p.2.2.2.2.2.2.1/\p.2.2.2.2.2.2.1<4294967296
 b:0<=p.2.2.2.2.2.2.2.1/\p.2.2.2.2.2.2.2.1<4294967296
 c:0<=p.2.2.2.2.2.2.2.2.1/\p.2.2.2.2.2.2.2.2.1<4294967296
 d:0<=p.2.2.2.2.2.2.2.2.2.1/\p.2.2.2.2.2.2.2.2.2.1<18446744073709551616
 e:0<=p.2.2.2.2.2.2.2.2.2.2.1/\p.2.2.2.2.2.2.2.2.2.2.1<18446744073709551616
 f:0<=p.2.2.2.2.2.2.2.2.2.2.2.1/\p.2.2.2.2.2.2.2.2.2.2.2.1<18446744073709551616
 g:0<=p.2.2.2.2.2.2.2.2.2.2.2.2.1/\p.2.2.2.2.2.2.2.2.2.2.2.2.1<18446744073709551616
theorem ac2: ∀a:Nat,a<4-> ∀b:Nat,b<8-> ∀c:Nat,c<8->b0S a b c/64=a/\b0S a b c/8%8=b/\b0S a b c%8=c:=by decide+kernel
theorem aaI: ∀n:Nat,n<256->sg (ahm.wrap ((n:Int)-128))=(n:Int)-128:=by decide+kernel
theorem ach{p:PK}(h:POk p)(x:List Int)(fs:List FF):rdP (X_ p++x) fs=PK.cut p fs:=by
 obtain⟨a,b,c,d,e,g,r1,r2,r3,q1,q2,q3,q4,l⟩:=p;obtain⟨h0,h1,h2,h3,h4,h5,h6,h7⟩:=h;unfold WG Y0 at h0;simp only[ahA,decide_eq_true_eq]at h0 h1 h2 h3 h4 h5 h6 h7;obtain⟨⟨⟨⟨⟨ha,hb⟩,hc⟩,hd⟩,he⟩,hg⟩:=h0;have hB:=ac2 a.toNat (by omega) b.toNat (by omega) c.toNat (by omega);rw[ahV ha.1,ahV hb.1,ahV hc.1]at hB;have he':=aaI (e+128).toNat (by omega);rw[ahV (by omega),show e+128-128=e by omega]at he';have hg':=aaI (g+128).toNat (by omega);rw[ahV (by omega),show g+128-128=g by omega]at hg';have hd':ahm.wrap d=d:=by rw[Qx];omega
 have v1:=YX h1.1 h1.2;have v2:=YX h2.1 h2.2;have v3:=YX h3.1 h3.2;have v4:=Xg h4.1 h4.2;have v5:=Xg h5.1 h5.2;have v6:=Xg h6.1 h6.2;have v7:=Xg h7.1 h7.2;show (b0S a b c/64,b0S a b c/8%8,b0S a b c%8,ahm.wrap d,sg (ahm.wrap e),sg (ahm.wrap g),OI (ZR (ahv.wrap r1)),OI (ZR (ahv.wrap r2)),OI (ZR (ahv.wrap r3)),OI (by8 q1),OI (by8 q2),OI (by8 q3),OI (by8 q4),fs)=(a,b,c,d,e,g,r1,r2,r3,q1,q2,q3,q4,fs);rw[hB.1,hB.2.1,hB.2.2,hd',he',hg',v1,v2,v3,v4,v5,v6,v7]
theorem aa6{p:PK}(h:POk p)(hf: ∀f∈p.fs,FOk f)(h16:p.fs.length<=16)(hl:(Nv p.fs).length<=1232):Wv (X_ p++Nv p.fs)=0/\Pq (X_ p++Nv p.fs)=p:=by
 have hd:(X_ p++Nv p.fs).drop 48=Nv p.fs:=aiJ (l₁:=X_ p);have hlen:(X_ p++Nv p.fs).length=48+(Nv p.fs).length:=by rw[ahp,WX]
 have ht:=adD p.fs (Nv p.fs).length [] hf (ahZ _) (by simpa using h16);have he:Wv (X_ p++Nv p.fs)=0:=by
  unfold Wv;rw[if_neg (by omega),if_neg (by omega),hd,ht]
 refine⟨he,?_⟩;unfold Pq;rw[if_pos he,hd,ht,ach h];rfl
theorem afl(p:PK):Bs (X_ p):=fun x hx=>by
 unfold X_ ZR by8 TV b0S at hx;simp only[ahC,ahW,ahO,or_false]at hx;rcases hx with (h|h|h|h)|(h|h|h|h)|(h|h|h|h)|(h|h|h|h)|(h|h|h|h|h|h|h|h)|(h|h|h|h|h|h|h|h)|(h|h|h|h|h|h|h|h)|h|h|h|h|h|h|h|h<;>(rw[h];exact UQ _)
theorem ac4{l:List FF}(h: ∀f∈l,Bs f.2):Bs (Nv l):=fun x hx=>by
 unfold Nv at hx;obtain⟨t,ht,hx⟩:=List.mem_flatten.1 hx;obtain⟨f,hf,rfl⟩:=aiP.1 ht;unfold Q9 at hx;rcases ahC.1 hx with hx|hx
 ·rcases ahC.1 hx with hx|hx
  ·exact acG _ x hx
  ·exact acG _ x hx
 ·exact h f hf x hx
end Go.AM
end
section
namespace Go.AM
def aap(MZ sealed:List Int):List Int:=((twoS 16++twoS (sealed.length:Int))++MZ)++TW sealed
theorem aaT{MZ sealed:List Int}(hn:MZ.length=16):(aap MZ sealed).length=20+sealed.length+Sv sealed.length:=by
 unfold aap TW;simp only[ahp,O9,ahP];omega
noncomputable def QY(v:VV)(key MZ ahead:List Int)(inner:List FF):VV×FF×Int:=
 if MZ.length=16 then
  if ahead.length>1280 then(v,f0,12)else
  if Rw inner=0 then
   if(OY v key [ahead,MZ] (Q_ inner)).2.2=0 then((OY v key [ahead,MZ] (Q_ inner)).1,(1028,aap MZ (OY v key [ahead,MZ] (Q_ inner)).2.1),0)
   else(v,f0,(OY v key [ahead,MZ] (Q_ inner)).2.2)
  else(v,f0,Rw inner)
 else(v,f0,10)
theorem V8{v:VV}{key:List Int}{ad:List (List Int)}{s:List Int}(hf:P_ v=true)(hs:s.length<=65536):(OY v key ad s).2.1.length<=s.length+16:=by
 by_cases he:(OY v key ad s).2.2=0
 ·rw[(ZC hf he).2.2.1];exact ahZ _
 ·rw[(aaH he).2];simp
theorem ac0{v:VV}(hv:okV v)(hf:P_ v=true){key MZ ahead:List Int}{inner:List FF}(hk:key.length<Nr)(hkb:Bs key)(hn:MZ.length<Nr)(ha:ahead.length<Nr)(hi:FL inner):
  Uz.run .lim (v,key,MZ,ahead,inner,())=some ((QY v key MZ ahead inner).1,(QY v key MZ ahead inner).2.1,(QY v key MZ ahead inner).2.2,()):=by
 have hn':MZ.length<9223372036854775808:=hn;have ha':ahead.length<9223372036854775808:=ha;simp only[Uz.run,MS hn',MS ha',cond_true];unfold QY;by_cases h1:MZ.length=16
 case neg=>rw[MR (show ¬(MZ.length:Int)=16 by omega),if_neg h1];rfl
 rw[MO (show (MZ.length:Int)=16 by omega),if_pos h1];by_cases h2:ahead.length>1280
 ·rw[MO (show (ahead.length:Int)>1280 by omega),if_pos h2];rfl
 rw[MR (show ¬(ahead.length:Int)>1280 by omega),if_neg h2];simp only[ahn,cond_false,Yh hi,ahk];by_cases h3:Rw inner=0
 case neg=>rw[MR h3,if_neg h3];rfl
 rw[MO h3,if_pos h3];have hfl:=Tj (l:=inner);have T:Vu key [ahead,MZ] (Q_ inner):=⟨hk,hkb,by simp[Nr],fun t ht=>by
  simp only[ahW,ahO,or_false]at ht;rcases ht with rfl|rfl
  ·exact ha
  ·exact hn,Oe (by omega)⟩
 simp only[ahn,cond_false,aaG hv hf T,ahk];have hsl:=V8 (key:=key) (ad:=[ahead,MZ]) hf (show (Q_ inner).length<=65536 by omega);generalize OY v key [ahead,MZ] (Q_ inner)=w at hsl;obtain⟨w1,w2,w3⟩:=w;simp only at hsl ⊢
 by_cases h4:w3=0
 case neg=>rw[MR h4,if_neg h4];rfl
 rw[MO h4,if_pos h4];have hp:Sv w2.length<4:=by unfold Sv;omega
 have hfs:(TW w2).length<=w2.length+4:=by unfold TW;rw[ahp,ahP];omega
 have t1: ∀n,VB.run .lim (n,())=some (twoS n):=fun n=>rfl
 simp only[ahn,cond_false,t1,ahk,MS (show w2.length<9223372036854775808 by omega),cond_true];rw[cond_pos (MO (show (twoS 16).length+(twoS (w2.length:Int)).length<=maxStr by rw[O9,O9];decide)),cond_pos (MO (show (twoS 16++twoS (w2.length:Int)).length+MZ.length<=maxStr by rw[ahp,O9,O9,h1];decide)),
  Yi (show w2.length<4611686018427387904 by omega)]
 simp only[ahk];rw[cond_pos (MO (show ((twoS 16++twoS (w2.length:Int))++MZ).length+(TW w2).length<=maxStr by rw[ahp,ahp,O9,O9,h1];unfold maxStr;omega))];rfl
noncomputable def R_(v:VV)(p:PK)(key MZ:List Int)(inner:List FF):VV×List Int×Int:=
 if(findF p.fs 1028).length>0 then(v,[],23)else
 if WR p=0 then
  if(QY v key MZ (WB p) inner).2.2=0 then
   if WR (PK.cut p (p.fs++[(QY v key MZ (WB p) inner).2.1]))=0 then((QY v key MZ (WB p) inner).1,WB (PK.cut p (p.fs++[(QY v key MZ (WB p) inner).2.1])),0)
   else(v,[],WR (PK.cut p (p.fs++[(QY v key MZ (WB p) inner).2.1])))
  else(v,[],(QY v key MZ (WB p) inner).2.2)
 else(v,[],WR p)
theorem YZ(p:PK):(WB p).length<=1280:=by
 unfold WB;split
 ·rename_i h;rw[ahp,WX];have hf:Rw p.fs=0:=by
   unfold WR at h;split at h
   ·exact h
   ·exact absurd h (by decide)
  have:=Tj (l:=p.fs);unfold Q_ at this;rw[if_pos hf]at this;omega
 ·simp
theorem Yd{v:VV}(hf:P_ v=true){key MZ ahead:List Int}{inner:List FF}:(QY v key MZ ahead inner).2.1.2.length<=100000:=by
 unfold QY;split
 ·rename_i hn;split
  ·simp
  ·split
   ·split
    ·rename_i h;have hfl:=Tj (l:=inner);have hsl:=V8 (v:=v) (key:=key) (ad:=[ahead,MZ]) (s:=Q_ inner) hf (by omega);show (aap MZ _).length<=_;rw[aaT hn];have:Sv (OY v key [ahead,MZ] (Q_ inner)).2.1.length<4:=by unfold Sv;omega
     omega
    ·simp
   ·simp
 ·simp
theorem ab8{v:VV}(hv:okV v)(hf:P_ v=true){p:PK}{key MZ:List Int}{inner:List FF}(hp:FL p.fs)(hpl:p.fs.length<=1000000000)(hk:key.length<Nr)(hkb:Bs key)(hn:MZ.length<Nr)(hi:FL inner):
  RN.run .lim (v,p,key,MZ,inner,())=some ((R_ v p key MZ inner).1,(R_ v p key MZ inner).2.1,(R_ v p key MZ inner).2.2,()):=by
 have hff:=Qu p.fs 1028;have hfe:=VT (l:=p.fs) 1028 (by omega) (by omega);have hfe:OV.run .lim (p.2.2.2.2.2.2.2.2.2.2.2.2.2,1028,())=_:=hfe;simp only[RN.run,hfe,ahk,MS (show (findF p.fs 1028).length<9223372036854775808 by omega),cond_true];unfold R_;by_cases h1:(findF p.fs 1028).length>0
 ·rw[MO (show ((findF p.fs 1028).length:Int)>0 by omega),if_pos h1];rfl
 rw[MR (show ¬((findF p.fs 1028).length:Int)>0 by omega),if_neg h1];simp only[cond_false,VU hp,ahk];by_cases h2:WR p=0
 case neg=>rw[MR h2,if_neg h2];rfl
 rw[MO h2,if_pos h2];have hwl:=YZ p;simp only[ahn,cond_false,ac0 hv hf hk hkb hn (Oe (show (WB p).length<9223372036854775808 by omega)) hi,ahk];have hal:=Yd (v:=v) hf (key:=key) (MZ:=MZ) (ahead:=WB p) (inner:=inner);generalize QY v key MZ (WB p) inner=a at hal;obtain⟨a1,a2,a3⟩:=a;simp only at hal ⊢
 by_cases h3:a3=0
 case neg=>rw[MR h3,if_neg h3];rfl
 rw[MO h3,if_pos h3];have hcl:N_.run .lim (p.2.2.2.2.2.2.2.2.2.2.2.2.2,())=some p.fs:=by
  simp only[N_.run];rw[cond_pos (MO (show ([]:List FF).length+p.fs.length<2932031007402 by simp;omega))];rfl
 have hq:FL (PK.fs (PK.cut p (p.fs++[a2]))):=by
  refine⟨?_,fun f hf=> ?_⟩
  ·show (p.fs++[a2]).length<_;rw[ahp];simp;omega
  ·rcases ahC.1 hf with hf|hf
   ·exact hp.2 f hf
   ·rw[ahQ.1 hf];omega
 have hw:=VU hq;have hw:Nl.run .lim ((p.1,p.2.1,p.2.2.1,p.2.2.2.1,p.2.2.2.2.1,p.2.2.2.2.2.1,p.2.2.2.2.2.2.1,p.2.2.2.2.2.2.2.1,p.2.2.2.2.2.2.2.2.1,p.2.2.2.2.2.2.2.2.2.1,p.2.2.2.2.2.2.2.2.2.2.1,p.2.2.2.2.2.2.2.2.2.2.2.1,p.2.2.2.2.2.2.2.2.2.2.2.2.1,p.fs++[a2]),())=_:=hw;simp only[ahn,cond_false,hcl,ahk];rw[cond_pos (MO (show p.fs.length+[a2].length<2932031007402 by simp;omega)),hw];simp only[ahk];by_cases h4:WR (PK.cut p (p.fs++[a2]))=0
 ·rw[MO h4,if_pos h4];rfl
 ·rw[MR h4,if_neg h4];rfl
end Go.AM
end
section
namespace Go.AM
def Wu(r:RR)(k:Nat):Int:=if k=0 then(rd r0 r.1 0).2.2 else(rd r0 r.1 ((k-1:Nat):Int)).2.2
theorem abN{c:Nat->Bool}{n:Nat}:(ahu n).any c=((ahu n).find? c).isSome:=by rw[air,List.any_eq_true,List.find?_isSome]
theorem aad{r:RR}(hl:r.1.length<Nr)(hk: ∀k∈r.1,k.2.1.length<Nr):Qz.run .lim (r,())=some (YH r):=by
 have hl63:r.1.length<9223372036854775808:=hl;simp only[Qz.run,MS hl63,ahw,cond_true];unfold YH;by_cases h:1<=r.1.length/\r.1.length<=8
 ·have hn:(decide ((r.1.length:Int)<1)||decide ((r.1.length:Int)>8))=false:=by rw[MR (show ¬(r.1.length:Int)<1 by omega),MR (show ¬(r.1.length:Int)>8 by omega)];rfl
  rw[cond_neg hn,MX (by decide) (by omega),cond_true,MO h,ah2];have e:=Qp (f:=Qz.l0 .lim) (fun j=>((r.2-((r.1.length-j:Nat):Int))%4294967296,r.1,(r.1.length:Int),(j:Int),false,Wu r j,())) r.1.length (badR r) (fun j=>some (.inl (false,Wu r j,()))) (fun k hk'=>by
   have hkl:=hk _ (Oj (d:=r0) (xs:=r.1) (i:=(k:Int)) (by omega) (by omega));have abT:(rd r0 r.1 (k:Int)).2.1.length<9223372036854775808:=hkl;rw[Qz.q0];simp only[Qz.b0];rw[cond_pos (MO (show (k:Int)<(r.1.length:Int) by omega)),MX (by omega) (show (k:Int)<(r.1.length:Int) by omega),cond_true,MS abT,cond_true];have e1:decide (((rd r0 r.1 (k:Int)).2.1.length:Int)=32)=decide ((rd r0 r.1 (k:Int)).2.1.length=32):=by
    by_cases q:(rd r0 r.1 (k:Int)).2.1.length=32
    ·rw[MO q,MO (by omega)]
    ·rw[MR q,MR (by omega)]
   have e2:decide ((rd r0 r.1 (k:Int)).2.2<Wu r k)=(decide (0<k)&&decide ((rd r0 r.1 (k:Int)).2.2<(rd r0 r.1 ((k-1:Nat):Int)).2.2)):=by
    unfold Wu;by_cases q:k=0
    ·subst q;rw[if_pos rfl,MR (show ¬0<0 by omega),ah4];exact MR (Int.lt_irrefl _)
    ·rw[if_neg q,MO (show 0<k by omega),ah2]
   have e3:((!(decide (((rd r0 r.1 (k:Int)).2.1.length:Int)=32)))||(!(decide ((rd r0 r.1 (k:Int)).1=(r.2-((r.1.length-k:Nat):Int))%4294967296)))||(decide ((rd r0 r.1 (k:Int)).2.2<Wu r k)))=badR r k:=by rw[e1,e2];rfl
   have e4:ahy.wrap ((r.2-((r.1.length-k:Nat):Int))%4294967296+1)=(r.2-((r.1.length-(k+1):Nat):Int))%4294967296:=by rw[SG];omega
   have e5:(rd r0 r.1 (k:Int)).2.2=Wu r (k+1):=by unfold Wu;rw[if_neg (by omega)];rfl
   have e3':(((!(decide (((((rd ((0:Int),(([]:List Int),(0:Int))) r.1 (k:Int)).2).1).length:Int)=32)))||(!(decide (((rd ((0:Int),(([]:List Int),(0:Int))) r.1 (k:Int)).1)=(r.2-((r.1.length-k:Nat):Int))%4294967296))))||(decide ((((rd ((0:Int),(([]:List Int),(0:Int))) r.1 (k:Int)).2).2)<Wu r k)))=badR r k:=e3;rw[e3',e4,QO k (by omega)]
   first|rfl|(congr 1;rw[<-e5]))
  have hw:ahy.wrap (r.2-ahy.wrap (r.1.length:Int))=(r.2-((r.1.length-0:Nat):Int))%4294967296:=by rw[SG,SG];omega
  have e0:Qz.l0 .lim ((r.2-((r.1.length-0:Nat):Int))%4294967296,r.1,(r.1.length:Int),0,false,((rd ((0:Int),(([]:List Int),(0:Int))) r.1 0).2).2,())=_:=e;rw[hw,e0,abN];cases hq:(ahu r.1.length).find? (badR r)with
  |some k=>rfl
  |none=>
   simp only;rw[Qz.q0];simp only[Qz.b0];rw[cond_neg (MR (by omega))];rfl
 ·rw[cond_pos (by
   rw[ais,decide_eq_true_eq,decide_eq_true_eq];omega),MR h,ah4]
theorem aco(x y:RK):(decide (x.1=y.1)&&(decide (x.2.1=y.2.1)&&decide (x.2.2=y.2.2)))=decide (x=y):=by
 obtain⟨a,b,c⟩:=x;obtain⟨a',b',c'⟩:=y;rw[air];simp only[ahA,decide_eq_true_eq,Prod.mk.injEq]
def Yu(a b:RR):Bool:=decide (a.2=b.2)&&decide (a.1=b.1)
theorem aec{a b:List RK}(ha':a.length<4611686018427387904)(hb':b.length<4611686018427387904):Nu.run .lim (a,b,())=some (decide (a=b)):=by
 have ha:a.length<9223372036854775808:=by omega
 have hb:b.length<9223372036854775808:=by omega
 simp only[Nu.run,MS ha,MS hb,cond_true];by_cases hl:a.length=b.length
 ·rw[cond_neg (by rw[MO (show (a.length:Int)=(b.length:Int) by omega)];rfl)];have e:=Tt (f:=Nu.l0 .lim) (fun k=>(a,b,(a.length:Int),(k:Int),())) a.length (fun k=> !decide (rd r0 a (k:Int)=rd r0 b (k:Int))) (some (.inl (false,()))) (fun k hk=>by
   rw[Nu.q0];simp only[Nu.b0];rw[cond_pos (MO (show (k:Int)<(a.length:Int) by omega)),MX (by omega) (show (k:Int)<(a.length:Int) by omega),cond_true,MX (by omega) (show (k:Int)<(b.length:Int) by omega),cond_true,aco,QO k (by omega)])
  have e0:Nu.l0 .lim (a,b,(a.length:Int),0,())=_:=e;rw[e0,Xj hl];by_cases h:a=b
  ·rw[MO h,ahn,cond_false,Nu.q0];simp only[Nu.b0];rw[cond_neg (MR (by omega))];rfl
  ·rw[MR h];rfl
 ·rw[cond_pos (by rw[MR (show ¬(a.length:Int)=(b.length:Int) by omega)];rfl),MR (fun h=>hl (by rw[h]))]
theorem Zx{a b:RR}(ha:a.1.length<4611686018427387904)(hb:b.1.length<4611686018427387904):Ua.run .lim (a,b,())=some (Yu a b):=by
 simp only[Ua.run];unfold Yu;by_cases h:a.2=b.2
 ·rw[MO h,cond_true,aec ha hb];rfl
 ·rw[MR h,cond_false];rfl
theorem YS{a b:RR}(ha':a.1.length<4611686018427387904)(hb':b.1.length<4611686018427387904):Oi.run .lim (a,b,())=some (Yu a b):=by
 have ha:a.1.length<9223372036854775808:=by omega
 have hb:b.1.length<9223372036854775808:=by omega
 simp only[Oi.run,MS ha,MS hb,ahw,cond_true];unfold Yu;by_cases h:a.2=b.2
 ·rw[MO h,ahn,ah1,ah2];by_cases hl:a.1.length=b.1.length
  ·rw[cond_neg (by rw[MO (show (a.1.length:Int)=(b.1.length:Int) by omega)];rfl)];have e:=Tt (f:=Oi.l0 .lim) (fun k=>((k:Int),a.1,a.2,b.1,b.2,())) a.1.length (fun k=> !decide (rd r0 a.1 (k:Int)=rd r0 b.1 (k:Int))) (some (.inl (false,()))) (fun k hk=>by
    rw[Oi.q0];simp only[Oi.b0,MS ha,cond_true];rw[cond_pos (MO (show (k:Int)<(a.1.length:Int) by omega)),MX (by omega) (show (k:Int)<(a.1.length:Int) by omega),cond_true,MX (by omega) (show (k:Int)<(b.1.length:Int) by omega),cond_true,aco,QO k (by omega)])
   have e0:Oi.l0 .lim (0,a.1,a.2,b.1,b.2,())=_:=e;rw[e0,Xj hl];by_cases h:a.1=b.1
   ·rw[MO h,ahn,cond_false,Oi.q0];simp only[Oi.b0,MS ha,cond_true];rw[cond_neg (MR (by omega))];rfl
   ·rw[MR h];rfl
  ·rw[cond_pos (by rw[MR (show ¬(a.1.length:Int)=(b.1.length:Int) by omega)];rfl),MR (fun h=>hl (by rw[h]))]
 ·rw[cond_pos (by rw[MR h];rfl),MR h,ah4]
abbrev SV:=RR×(Int×(Int×(Int×(Int×(Int×(Int×(Int×Int)))))))
def SOk(x:SV):Prop:=x.1.1.length<Nr/\ ∀k∈x.1.1,k.2.1.length<Nr
def Xv(x:SV):Bool:=((((YH x.1&&(decide (x.2.1>0)))&&(decide (x.2.1<16)))&&(decide (x.2.2.1>=(-128))))&&(decide (x.2.2.1<128)))
theorem aaX{x:SV}(h:SOk x):V9.run .lim (x,())=some (Xv x)/\Qn.run .lim (x,())=some (Xv x):=by
 refine⟨?_,?_⟩
 ·simp only[V9.run,aad h.1 h.2,ahk];rfl
 ·simp only[Qn.run,ac5 h.1 h.2,ahk];congr 1;unfold Xv;rw[air];simp only[ahA,decide_eq_true_eq];constructor<;>rintro⟨⟨⟨⟨a,b⟩,c⟩,d⟩,e⟩<;>exact⟨⟨⟨⟨a,by omega⟩,by omega⟩,by omega⟩,by omega⟩
def XW(a b:SV):Bool:=((((Yu a.1 b.1&&(((((decide (a.2.1=b.2.1))&&(decide (a.2.2.1=b.2.2.1)))&&(decide (a.2.2.2.1=b.2.2.2.1)))&&(decide (a.2.2.2.2.1=b.2.2.2.2.1)))&&(decide (a.2.2.2.2.2.1=b.2.2.2.2.2.1))))&&(decide (a.2.2.2.2.2.2.1=b.2.2.2.2.2.2.1)))&&(decide (a.2.2.2.2.2.2.2.1=b.2.2.2.2.2.2.2.1)))&&(decide (a.2.2.2.2.2.2.2.2=b.2.2.2.2.2.2.2.2)))
theorem aak{x y:SV}(h:x.1.1.length<4611686018427387904)(k:y.1.1.length<4611686018427387904):Vo.run .lim (x,y,())=some (XW x y)/\Qk.run .lim (x,y,())=some (XW x y):=by
 refine⟨?_,?_⟩
 ·simp only[Vo.run,Zx h k,ahk];rfl
 ·simp only[Qk.run,YS h k,ahk];congr 1;unfold XW;simp only[Bool.and_assoc]
theorem ZB(x:SV):XW x x=true:=by
 unfold XW Yu;simp
end Go.AM
end
section
namespace Go.AM
theorem PW{n:Int}(h0:0<=n)(h1:n<18446744073709551616){k:Nat}{m:List Int}(hk:k<m.length)(hm:m.length<=8):
  MW.l0 .lim (n,(k:Int),m,())=MW.l0 .lim (n/256,(k:Int)-1,m.set k (ahm.wrap n),()):=by
 have e1:ahv.wrap (n.tdiv 256)=n/256:=by rw[ahF h0,SH];omega
 have e2:ahm.wrap (n.tmod 256)=ahm.wrap n:=by rw[ahJ h0,Qx,Qx];omega
 rw[MW.q0];simp only[MW.b0,e1,e2];rw[cond_pos (MO (show (k:Int)>=0 by omega)),MX (by omega) (by omega),cond_true,wrap64 (by omega) (by omega),aht]
theorem XQ(n:Int)(m:List Int):MW.l0 .lim (n,-1,m,())=some (m,()):=by rw[MW.q0];rfl
theorem adR{n:Int}(h0:0<=n)(h1:n<65536):MW.run .lim (n,2,())=some (twoS n):=by
 show (MW.l0 .lim (n,((1:Nat):Int),[0,0],())).bind _=_;rw[PW h0 (by omega) (by simp) (by simp)];show (MW.l0 .lim (n/256,((0:Nat):Int),[0,ahm.wrap n],())).bind _=_;rw[PW (by omega) (by omega) (by simp) (by simp)];show (MW.l0 .lim (n/256/256,-1,[ahm.wrap (n/256),ahm.wrap n],())).bind _=_;rw[XQ];unfold twoS;rw[adA];rfl
theorem RV(n:Int)(k:Nat)(hk:k<=64):TV n k=ahm.wrap (n/2^k):=by unfold TV;rw[Ph n 0 k .u64 hk]
theorem afH{n:Int}(h0:0<=n)(h1:n<18446744073709551616):MW.run .lim (n,4,())=some (ZR n):=by
 show (MW.l0 .lim (n,((3:Nat):Int),[0,0,0,0],())).bind _=_;rw[PW h0 h1 (by simp) (by simp)];show (MW.l0 .lim (n/256,((2:Nat):Int),[0,0,0,ahm.wrap n],())).bind _=_;rw[PW (by omega) (by omega) (by simp) (by simp)];show (MW.l0 .lim (n/256/256,((1:Nat):Int),[0,0,ahm.wrap (n/256),ahm.wrap n],())).bind _=_;rw[PW (by omega) (by omega) (by simp) (by simp)];show (MW.l0 .lim (n/256/256/256,((0:Nat):Int),[0,ahm.wrap (n/256/256),ahm.wrap (n/256),ahm.wrap n],())).bind _=_;rw[PW (by omega) (by omega) (by simp) (by simp)];show (MW.l0 .lim (n/256/256/256/256,-1,[ahm.wrap (n/256/256/256),ahm.wrap (n/256/256),ahm.wrap (n/256),ahm.wrap n],())).bind _=_;rw[XQ];unfold ZR;rw[RV n 24 (by decide),RV n 16 (by decide),RV n 8 (by decide),RV n 0 (by decide)];have e1:n/256/256/256=n/2^24:=by show _=n/16777216;omega
 have e2:n/256/256=n/2^16:=by show _=n/65536;omega
 have e3:n/2^0=n:=by show n/1=n;omega
 rw[e1,e2,e3];rfl
theorem aaA{n:Int}(h0:0<=n)(h1:n<18446744073709551616):MW.run .lim (n,8,())=some (by8 n):=by
 show (MW.l0 .lim (n,((7:Nat):Int),[0,0,0,0,0,0,0,0],())).bind _=_;rw[PW h0 h1 (by simp) (by simp)];have d1:0<=n/256/\n/256<18446744073709551616:=by omega
 have e1:n/256=n/2^8:=rfl;generalize hb1:n/256=b1 at*;show (MW.l0 .lim (b1,((6:Nat):Int),[0,0,0,0,0,0,0,ahm.wrap n],())).bind _=_;rw[PW d1.1 d1.2 (by simp) (by simp)];have d2:0<=b1/256/\b1/256<18446744073709551616:=by omega
 have e2:b1/256=n/2^16:=by show _=n/65536;omega
 generalize hb2:b1/256=b2 at*;show (MW.l0 .lim (b2,((5:Nat):Int),[0,0,0,0,0,0,ahm.wrap b1,ahm.wrap n],())).bind _=_;rw[PW d2.1 d2.2 (by simp) (by simp)];have d3:0<=b2/256/\b2/256<18446744073709551616:=by omega
 have e3:b2/256=n/2^24:=by show _=n/16777216;omega
 generalize hb3:b2/256=b3 at*;show (MW.l0 .lim (b3,((4:Nat):Int),[0,0,0,0,0,ahm.wrap b2,ahm.wrap b1,ahm.wrap n],())).bind _=_;rw[PW d3.1 d3.2 (by simp) (by simp)];have d4:0<=b3/256/\b3/256<18446744073709551616:=by omega
 have e4:b3/256=n/2^32:=by show _=n/4294967296;omega
 generalize hb4:b3/256=b4 at*;show (MW.l0 .lim (b4,((3:Nat):Int),[0,0,0,0,ahm.wrap b3,ahm.wrap b2,ahm.wrap b1,ahm.wrap n],())).bind _=_;rw[PW d4.1 d4.2 (by simp) (by simp)];have d5:0<=b4/256/\b4/256<18446744073709551616:=by omega
 have e5:b4/256=n/2^40:=by show _=n/1099511627776;omega
 generalize hb5:b4/256=b5 at*;show (MW.l0 .lim (b5,((2:Nat):Int),[0,0,0,ahm.wrap b4,ahm.wrap b3,ahm.wrap b2,ahm.wrap b1,ahm.wrap n],())).bind _=_;rw[PW d5.1 d5.2 (by simp) (by simp)];have d6:0<=b5/256/\b5/256<18446744073709551616:=by omega
 have e6:b5/256=n/2^48:=by show _=n/281474976710656;omega
 generalize hb6:b5/256=b6 at*;show (MW.l0 .lim (b6,((1:Nat):Int),[0,0,ahm.wrap b5,ahm.wrap b4,ahm.wrap b3,ahm.wrap b2,ahm.wrap b1,ahm.wrap n],())).bind _=_;rw[PW d6.1 d6.2 (by simp) (by simp)];have d7:0<=b6/256/\b6/256<18446744073709551616:=by omega
 have e7:b6/256=n/2^56:=by show _=n/72057594037927936;omega
 generalize hb7:b6/256=b7 at*;show (MW.l0 .lim (b7,((0:Nat):Int),[0,ahm.wrap b6,ahm.wrap b5,ahm.wrap b4,ahm.wrap b3,ahm.wrap b2,ahm.wrap b1,ahm.wrap n],())).bind _=_;rw[PW d7.1 d7.2 (by simp) (by simp)];show (MW.l0 .lim (b7/256,-1,[ahm.wrap b7,ahm.wrap b6,ahm.wrap b5,ahm.wrap b4,ahm.wrap b3,ahm.wrap b2,ahm.wrap b1,ahm.wrap n],())).bind _=_;rw[XQ];unfold by8;rw[RV n 56 (by decide),RV n 48 (by decide),RV n 40 (by decide),RV n 32 (by decide),RV n 24 (by decide),RV n 16 (by decide),RV n 8 (by decide),RV n 0 (by decide),<-e1,<-e2,<-e3,<-e4,<-e5,<-e6,<-e7];have e0:n/2^0=n:=by show n/1=n;omega
 rw[e0];rfl
theorem XO{l:List FF}(hl:FL l):NI.run .lim (l,())=some (Q_ l,Rw l,()):=by
 obtain⟨h1,h2⟩:=hl;simp only[NI.run,MS h1,cond_true];by_cases h16:l.length>16
 ·rw[MO (show (l.length:Int)>16 by omega)];have:Rw l=18:=by unfold Rw;rw[if_pos h16]
  unfold Q_;rw[this];rfl
 rw[MR (show ¬(l.length:Int)>16 by omega)];have e:=Qp (f:=NI.l0 .lim) (fun k=>(l,Sr l k,((min (Nv (l.take k)).length 1233:Nat):Int),(k:Int),())) l.length (fun k:Nat=> !decide (fE (rd f0 l (k:Int))=0))
  (fun k=>if fE (rd f0 l (k:Int))=13 then some (.inl (([]:List Int),13,()))else some (.inr (.inl (([]:List Int),10,())))) (fun k hk=>by
  have hm:=Oj (d:=f0) (xs:=l) (i:=(k:Int)) (by omega) (by omega);have hb:=h2 _ hm;rw[NI.q0];generalize hg:rd f0 l (k:Int)=f at hm hb;simp only[NI.b0,MS h1,MO (show (k:Int)<(l.length:Int) by omega),MX (show (0:Int)<=(k:Int) by omega) (show (k:Int)<(l.length:Int) by omega),cond_true,hg,MS (show f.2.length<9223372036854775808 by omega),ahw];unfold fE;by_cases hk1:f.1<0\/f.1>=65536
  ·rw[if_pos hk1];have:((decide (f.1<0))||(decide (f.1>65535)))=true:=by rw[ais,decide_eq_true_eq,decide_eq_true_eq];omega
   simp only[this,cond_true];rfl
  ·rw[if_neg hk1];have:((decide (f.1<0))||(decide (f.1>65535)))=false:=by rw[MR (show ¬f.1<0 by omega),MR (show ¬f.1>65535 by omega)];rfl
   simp only[this,cond_false];have h3:(f.2.length:Int).tmod 4=((f.2.length%4:Nat):Int):=by rw[ahJ (by omega)];omega
   by_cases hk2:f.2.length<12\/f.2.length%4≠0
   ·rw[if_pos hk2];have:((decide ((f.2.length:Int)<12))||(!(decide ((f.2.length:Int).tmod 4=0))))=true:=by
     rw[h3];rcases hk2 with q|q
     ·rw[MO (show (f.2.length:Int)<12 by omega)];rfl
     ·rw[MR (show ¬((f.2.length%4:Nat):Int)=0 by omega)];simp
    simp only[this,cond_true];rfl
   ·rw[if_neg hk2];have:((decide ((f.2.length:Int)<12))||(!(decide ((f.2.length:Int).tmod 4=0))))=false:=by rw[h3,MR (show ¬(f.2.length:Int)<12 by omega),MO (show ((f.2.length%4:Nat):Int)=0 by omega)];rfl
    simp only[this,cond_false,decide_true,ahn,cond_false];have es:=Td hk;have el:(Nv (l.take (k+1))).length=(Nv (l.take k)).length+(4+f.2.length):=by rw[es,ahp,QN,hg]
    have ew:mn (ahl.wrap ((ahl.wrap (((min (Nv (l.take k)).length 1233:Nat):Int)+4))+(f.2.length:Int))) 1233=((min (Nv (l.take (k+1))).length 1233:Nat):Int):=by rw[OW,wrap64 (n:=((min (Nv (l.take k)).length 1233:Nat):Int)+4) (by omega) (by omega),wrap64 (by omega) (by omega)];omega
    simp only[ew];by_cases hl2:(Nv (l.take (k+1))).length>1232
    ·have e3:Sr l (k+1)=Sr l k:=by rw[Sr,if_pos hl2]
     rw[cond_neg (MR (by omega)),e3,QO k (by omega)]
    ·have e3:Sr l (k+1)=Sr l k++Q9 f:=by rw[Sr,if_neg hl2,hg]
     have eo:=Xd (l:=l) k (by omega) (by omega);have ol:(Sr l k).length<=1232:=by rw[eo];omega
     have e4:ahv.wrap (ahl.wrap ((f.2.length:Int)+4))=(f.2.length:Int)+4:=by rw[wrap64 (by omega) (by omega),SH];omega
     have e5:ahv.wrap f.1=f.1:=by rw[SH];omega
     rw[cond_pos (MO (by omega)),e4,e5,adR (by omega) (by omega),ahk,cond_pos (MO (by rw[O9];unfold maxStr;omega)),adR (by omega) (by omega),ahk,
      cond_pos (MO (by rw[ahp,O9,O9];unfold maxStr;omega)),cond_pos (MO (by rw[ahp,ahp,O9,O9];unfold maxStr;omega)),QO k (by omega),e3]
     unfold Q9;simp only[ahE])
 have e0:NI.l0 .lim (l,([]:List Int),0,0,())=_:=e;rw[cond_false,e0];unfold Q_ Rw;rw[if_neg h16];cases hq:(ahu l.length).find? (fun k:Nat=> !decide (fE (rd f0 l (k:Int))=0))with
 |some k=>
  have hk:=ah6 hq;simp only[ahM,decide_eq_false_iff_not]at hk;simp only;have:fE (rd f0 l (k:Int))=13\/fE (rd f0 l (k:Int))=10:=by
   unfold fE at hk ⊢
   split
   ·exact .inl rfl
   ·split
    ·exact .inr rfl
    ·rename_i q1 q2;rw[if_neg q1,if_neg q2]at hk;exact absurd rfl hk
  rw[if_neg hk];rcases this with q|q
  ·rw[if_pos q,q];rfl
  ·rw[if_neg (by omega),q];rfl
 |none=>
  simp only[ahI];rw[NI.q0];simp only[NI.b0,MS h1,cond_true,MR (show ¬(l.length:Int)<(l.length:Int) by omega),cond_false,ahk];by_cases hl:(Nv l).length>1232
  ·rw[cond_pos (MO (by omega)),if_pos hl];rfl
  ·rw[cond_neg (MR (by omega)),if_neg hl,Xd l.length (ahZ _) (by rw[ahI];omega),ahI];rfl
theorem adI{α:Type}(r0 r1 r2 r3 r4 r5:Bool)(E K:Option α):((some r0).bind fun r=>((bif !!r then some r1 else some false)).bind fun r1=>((bif !(!r|| !r1)then some r2 else some false)).bind fun r2=>((bif !((!r|| !r1)|| !r2)then some r3 else some false)).bind fun r3=>
  ((bif !(((!r|| !r1)|| !r2)|| !r3)then some r4 else some false)).bind fun r4=>((bif !((((!r|| !r1)|| !r2)|| !r3)|| !r4)then some r5 else some false)).bind fun r5=>
  bif(((((!r|| !r1)|| !r2)|| !r3)|| !r4)|| !r5)then E else K)=bif(((((r0&&r1)&&r2)&&r3)&&r4)&&r5)then K else E:=by
 cases r0<;>cases r1<;>cases r2<;>cases r3<;>cases r4<;>cases r5<;>rfl
theorem rb0: ∀a:Nat,a<4-> ∀b:Nat,b<8-> ∀c:Nat,c<8->ahm.wrap (ahl.wrap (ahl.wrap (ahl.wrap ((a:Int)*64)+ahl.wrap ((b:Int)*8))+(c:Int)))=b0S a b c:=by decide+kernel
theorem ac8{n a b:Int}:Y0 n a b=true ↔ a<=n/\n<=b:=by unfold Y0;rw[ahA,decide_eq_true_eq,decide_eq_true_eq]
structure HU(p:PK):Prop where
 a:0<=p.2.2.2.2.2.2.2.2.2.1/\p.2.2.2.2.2.2.2.2.2.1<18446744073709551616
 b:0<=p.2.2.2.2.2.2.2.2.2.2.1/\p.2.2.2.2.2.2.2.2.2.2.1<18446744073709551616
 c:0<=p.2.2.2.2.2.2.2.2.2.2.2.1/\p.2.2.2.2.2.2.2.2.2.2.2.1<18446744073709551616
 d:0<=p.2.2.2.2.2.2.2.2.2.2.2.2.1/\p.2.2.2.2.2.2.2.2.2.2.2.2.1<18446744073709551616
theorem uB(n:Int):0<=ahv.wrap n/\ahv.wrap n<18446744073709551616:=by rw[SH];omega
theorem U2{p:PK}(hl:FL p.fs)(hu:HU p):Ob.run .lim (p,())=some (WB p,WR p,()):=by
 have hw: ∀n a b,Oz.run .lim (n,a,b,())=some (Y0 n a b):=fun _ _ _=>rfl
 have hf:NI.run .lim (p.2.2.2.2.2.2.2.2.2.2.2.2.2,())=some (Q_ p.fs,Rw p.fs,()):=XO hl;simp only[Ob.run,hw];refine(adI _ _ _ _ _ _ _ _).trans ?_;show (bif WG p then _ else _)=_;cases hok:WG p with
 |false=>
  have:WR p=13:=by unfold WR;rw[hok];rfl
  unfold WB;rw[this];rfl
 |true=>
  rw[cond_true,hf,ahk];have hE:WR p=Rw p.fs:=by unfold WR;rw[if_pos hok]
  simp only;unfold WB;rw[hE];by_cases h0:Rw p.fs=0
  ·rw[cond_neg (by rw[MO h0];rfl),if_pos h0,h0];have hS:Q_ p.fs=Nv p.fs:=by unfold Q_;rw[if_pos h0]
   have hlen:=Tj (l:=p.fs);rw[hS]at hlen;have hh:=hok;unfold WG at hh;simp only[ahA,ac8]at hh;obtain⟨⟨⟨⟨⟨a1,a2⟩,a3⟩,a4⟩,a5⟩,a6⟩:=hh;obtain⟨x,hx⟩:=ahL a1.1;obtain⟨y,hy⟩:=ahL a2.1;obtain⟨z,hz⟩:=ahL a3.1;have hb:=rb0 x (by omega) y (by omega) z (by omega);have hb:ahm.wrap (ahl.wrap (ahl.wrap (ahl.wrap (p.1*64)+ahl.wrap (p.2.1*8))+p.2.2.1))=b0S p.1 p.2.1 p.2.2.1:=by rw[hx,hy,hz];exact hb
   have l4: ∀n,(ZR n).length=4:=fun n=>rfl
   have l8: ∀n,(by8 n).length=8:=fun n=>rfl
   simp only[hb,afH (uB _).1 (uB _).2,aaA hu.a.1 hu.a.2,aaA hu.b.1 hu.b.2,aaA hu.c.1 hu.c.2,aaA hu.d.1 hu.d.2,ahk,hS];have hL: ∀a:List Int,a.length<=2000->a.length<=maxStr:=fun a h=>by unfold maxStr;omega
   iterate 7 rw[cond_pos (MO (by simp only[ahp,aip,aiG,l4,l8];decide))]
   rw[cond_pos (MO (by simp only[ahp,aip,aiG,l4,l8];unfold maxStr;omega))];unfold X_;simp only[ahE]
  ·rw[cond_pos (by rw[MR h0];rfl),if_neg h0]
end Go.AM
end
