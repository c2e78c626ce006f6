import Derived.Test.YtbpfiolmmdmapaaGreatPart3

/-! The functions that the laws of this seat reach, as plain functions, and what these answer; no condition. -/
set_option linter.unusedSimpArgs false
set_option linter.unusedVariables false
set_option linter.unusedSectionVars false

open BitVec renaming ofInt->ah7,toNat_ofInt->aiq,toNat_and->aiP
open Bool renaming not_true->ahx,and_false->ahA,not_false->ahB,or_true->ahC,and_self->ahD,false_and->ahE,false_or->ahF,or_false->ahG,true_and->ahH,and_true->ahI,or_self->ahJ,not_not->ahK,true_or->ahL,and_eq_true->ahX,not_eq_true'->ait,eq_iff_iff->aiS
open Decidable renaming not_not->aiL
open Eq renaming symm->aiT
open Go.IntKind renaming i64->ahz,u8->ahN,u64->ahV,bits->aiO,u32->aiU,signed->aiZ,wrap->ai1,i8->ai7
open Int renaming toNat_natCast->ahT,le_refl->ahU,tdiv_eq_ediv_of_nonneg->ahY,tmod_eq_emod_of_nonneg->ahZ,eq_ofNat_of_zero_le->aie,natCast_nonneg->air,pow_pos->aiv,le_of_lt->aiz,ediv_le_self->aiQ,ediv_nonneg->aiV,zero_add->ai2
open List renaming length_append->ahM,replicate->ahO,length_drop->ahP,length_take->ahQ,range->ahR,take_of_length_le->ahS,mem_range->ahW,drop_zero->ah0,mem_of_find?_eq_some->ah1,length_replicate->ah2,mem_append->ah3,mem_singleton->ah4,append_assoc->ah5,mem_iff_getElem->ah6,mem_replicate->ah8,take_append_drop->ah9,any_eq_true->aib,take_length->aic,drop_drop->aif,not_mem_nil->aij,mem_cons->aik,find?_some->ail,length_set->ain,getD_eq_getElem?_getD->aip,pairwise_iff_getElem->ais,any_eq_false->aiu,filter_cons_of_neg->aiw,filter_cons_of_pos->aix,getElem_mem->aiy,length_map->aiA,nil_append->aiB,mem_of_mem_take->aiD,drop_take->aiE,length->aiF,map_congr_left->aiG,replicate_zero->aiH,find?_eq_none->aiJ,getElem_take->aiM,length_range->aiN,length_cons->aiR,append_nil->aiW,length_nil->aiX,mem_map->ai3
open Nat renaming min_eq_left->ah_,sub_zero->aia,and_two_pow_sub_one_eq_mod->aii,le_refl->aio,ble_eq_true_of_le->aiC,zero_le->aiI,lt_of_lt_of_le->aiK,blt_eq->ai0,le_trans->ai4,mul_zero->ai5
open Option renaming bind_some->ahw,bind_none->ahy,bind->ai6
open Prod.mk renaming inj->aiY
section
namespace Go.AM
def sg(c:Int):Int:=if c>127 then c-256 else c
def rdP(s:List Int)(fs:List FF):PK:=(rd 0 s 0/64,rd 0 s 0/8%8,rd 0 s 0%8,rd 0 s 1,sg (rd 0 s 2),sg (rd 0 s 3),OQ ((s.take 8).drop 4),OQ ((s.take 12).drop 8),OQ ((s.take 16).drop 12),
 OQ ((s.take 24).drop 16),OQ ((s.take 32).drop 24),OQ ((s.take 40).drop 32),OQ ((s.take 48).drop 40),fs)
def Xn(s:List Int):Int:=if s.length<48 then 11 else if s.length>1280 then 12 else(UD (s.drop 48).length (s.drop 48) []).2
def O1(s:List Int):PK:=if Xn s=0 then rdP s (UD (s.drop 48).length (s.drop 48) []).1 else p0
theorem adC{c:Int}(h:B8 c):ahz.wrap (Ja .u8 c 6)=c/64:=P7 (p:=fun c=>ahz.wrap (Ja .u8 c 6)=c/64) (by decide+kernel) h
theorem adD{c:Int}(h:B8 c):ahz.wrap (I9 .u8 (Ja .u8 c 3) 7)=c/8%8:=P7 (p:=fun c=>ahz.wrap (I9 .u8 (Ja .u8 c 3) 7)=c/8%8) (by decide+kernel) h
theorem adE{c:Int}(h:B8 c):ahz.wrap (I9 .u8 c 7)=c%8:=P7 (p:=fun c=>ahz.wrap (I9 .u8 c 7)=c%8) (by decide+kernel) h
theorem ac5{c:Int}(h:B8 c):ahz.wrap c=c:=P7 (p:=fun c=>ahz.wrap c=c) (by decide+kernel) h
theorem adF{c:Int}(h:B8 c):ahz.wrap (ai7.wrap c)=sg c:=P7 (p:=fun c=>ahz.wrap (ai7.wrap c)=sg c) (by decide+kernel) h
theorem adG{c:Int}(h:B8 c):OZ.run .lim (c,())=some (sg c):=by
 have e1:=ac5 h;unfold sg;simp only[OZ.run,e1];by_cases q:c>127
 ·rw[MK q,if_pos q,wrap64 (by omega) (by omega)];rfl
 ·rw[MO q,if_neg q];rfl
theorem adp{t:List Int}(hb:Bs t)(hl:t.length=4):aiU.wrap (OQ t)=OQ t/\by4 (ahV.wrap (OQ t))=t:=by
 have hv:=Wq hb 4 (by omega);rw[ahS (by omega)]at hv;refine⟨by rw[acA];omega,?_⟩;rw[show ahV.wrap (OQ t)=OQ t by rw[Tq];omega]
 match t,hl with
 |[a,b,c,d],_=>
  have h1:=hb a (by simp);have h2:=hb b (by simp);have h3:=hb c (by simp);have h4:=hb d (by simp);have e:OQ [a,b,c,d]=((a*256+b)*256+c)*256+d:=by simp[OQ]
  have s1:=Qo (OQ [a,b,c,d]) 0 24 .u64 (by decide);have s2:=Qo (OQ [a,b,c,d]) 0 16 .u64 (by decide);have s3:=Qo (OQ [a,b,c,d]) 0 8 .u64 (by decide);have s4:=Qo (OQ [a,b,c,d]) 0 0 .u64 (by decide);unfold by4 TY;simp only[s1,s2,s3,s4];simp only[QK,e];congr 1
  ·omega
  congr 1
  ·omega
  congr 1
  ·omega
  congr 1;omega
theorem af5{t:List Int}(hb:Bs t)(hl:t.length=8):by8 (OQ t)=t:=by
 match t,hl with
 |[a,b,c,d,a',b',c',d'],_=>
  have h1:=hb a (by simp);have h2:=hb b (by simp);have h3:=hb c (by simp);have h4:=hb d (by simp);have h5:=hb a' (by simp);have h6:=hb b' (by simp);have h7:=hb c' (by simp);have h8:=hb d' (by simp);have e:OQ [a,b,c,d,a',b',c',d']=((((((a*256+b)*256+c)*256+d)*256+a')*256+b')*256+c')*256+d':=by simp[OQ]
  have s1:=Qo (OQ [a,b,c,d,a',b',c',d']) 0 56 .u64 (by decide);have s2:=Qo (OQ [a,b,c,d,a',b',c',d']) 0 48 .u64 (by decide);have s3:=Qo (OQ [a,b,c,d,a',b',c',d']) 0 40 .u64 (by decide);have s4:=Qo (OQ [a,b,c,d,a',b',c',d']) 0 32 .u64 (by decide);have s5:=Qo (OQ [a,b,c,d,a',b',c',d']) 0 24 .u64 (by decide);have s6:=Qo (OQ [a,b,c,d,a',b',c',d']) 0 16 .u64 (by decide);have s7:=Qo (OQ [a,b,c,d,a',b',c',d']) 0 8 .u64 (by decide);have s8:=Qo (OQ [a,b,c,d,a',b',c',d']) 0 0 .u64 (by decide);unfold by8 TY;simp only[s1,s2,s3,s4,s5,s6,s7,s8];simp only[QK,e];congr 1
  ·omega
  congr 1
  ·omega
  congr 1
  ·omega
  congr 1
  ·omega
  congr 1
  ·omega
  congr 1
  ·omega
  congr 1
  ·omega
  congr 1;omega
theorem TP{s:List Int}{a b:Nat}(h:b<=s.length):((s.take b).drop a).length=b-a:=by rw[ahP,ahQ,ah_ h]
theorem XU{s:List Int}(hs:Bs s)(hl:s.length<9223372036854775808):Rn.run .lim (s,())=some (O1 s,Xn s,()):=by
 simp only[Rn.run,MR hl,cond_true];unfold O1 Xn;by_cases h1:s.length<48
 ·rw[MK (show (s.length:Int)<48 by omega),if_pos h1];rfl
 rw[MO (show ¬(s.length:Int)<48 by omega),if_neg h1];by_cases h2:s.length>1280
 ·rw[MK (show (s.length:Int)>1280 by omega),if_pos h2];rfl
 rw[MO (show ¬(s.length:Int)>1280 by omega),if_neg h2];have hc:cut s 48 (s.length:Int)=s.drop 48:=RI (a:=48) rfl;simp only[cond_false,M_ (show (0:Int)<=48 by omega) (show (48:Int)<=(s.length:Int) by omega) (ahU _),cond_true,hc,abj (hs.drop 48) (show (s.drop 48).length<9223372036854775808 by rw[ahP];omega),ahw];generalize UD (s.drop 48).length (s.drop 48) []=r;obtain⟨fs,e⟩:=r;simp only;by_cases h0:e=0
 ·rw[MK h0,if_pos h0];have rb: ∀k:Nat,k<48->B8 (rd 0 s (k:Int)):=fun k hk=>hs _ (OB (by omega) (by omega))
  have r0:=rb 0 (by decide);have r1:=rb 1 (by decide);have r2:=rb 2 (by decide);have r3:=rb 3 (by decide);have v: ∀a b:Nat,a<=b->b<=48->b-a<=8->Oc.run .lim ((s.take b).drop a,())=some (OQ ((s.take b).drop a)):=fun a b _ hb hq=>Xb ((hs.take b).drop a) (by rw[TP (by omega)];omega)
  have u: ∀a b:Nat,b=a+4->b<=48->aiU.wrap (OQ ((s.take b).drop a))=OQ ((s.take b).drop a):=fun a b h hb=>(adp ((hs.take b).drop a) (by rw[TP (by omega)];omega)).1
  have c1:cut s 4 8=(s.take 8).drop 4:=Qe rfl rfl;have c2:cut s 8 12=(s.take 12).drop 8:=Qe rfl rfl;have c3:cut s 12 16=(s.take 16).drop 12:=Qe rfl rfl;have c4:cut s 16 24=(s.take 24).drop 16:=Qe rfl rfl;have c5:cut s 24 32=(s.take 32).drop 24:=Qe rfl rfl;have c6:cut s 32 40=(s.take 40).drop 32:=Qe rfl rfl;have c7:cut s 40 48=(s.take 48).drop 40:=Qe rfl rfl;have k: ∀a b:Int,0<=a->a<=b->b<=48->sV a b (s.length:Int)=true:=fun a b x y z=>M_ x y (by omega)
  have i: ∀a:Int,0<=a->a<48->inB a (s.length:Int)=true:=fun a x y=>MV x (by omega)
  simp only[ahx,cond_false,i 0 (by decide) (by decide),i 1 (by decide) (by decide),i 2 (by decide) (by decide),i 3 (by decide) (by decide),cond_true,k 4 8 (by decide) (by decide) (by decide),k 8 12 (by decide) (by decide) (by decide),k 12 16 (by decide) (by decide) (by decide),k 16 24 (by decide) (by decide) (by decide),k 24 32 (by decide) (by decide) (by decide),k 32 40 (by decide) (by decide) (by decide),k 40 48 (by decide) (by decide) (by decide),
   c1,c2,c3,c4,c5,c6,c7,v 4 8 (by decide) (by decide) (by decide),v 8 12 (by decide) (by decide) (by decide),v 12 16 (by decide) (by decide) (by decide),v 16 24 (by decide) (by decide) (by decide),v 24 32 (by decide) (by decide) (by decide),v 32 40 (by decide) (by decide) (by decide),v 40 48 (by decide) (by decide) (by decide),ahw,u 4 8 rfl (by decide),u 8 12 rfl (by decide),u 12 16 rfl (by decide)]
  have q0:B8 (rd 0 s 0):=r0;have q1:B8 (rd 0 s 1):=r1;have q2:B8 (rd 0 s 2):=r2;have q3:B8 (rd 0 s 3):=r3;simp only[adC q0,adD q0,adE q0,ac5 q1,adF q2,adF q3,h0];rfl
 ·rw[MO h0,if_neg h0];rfl
theorem Yo{s:List Int}(hs:Bs s)(hl:s.length<9223372036854775808):OX.run .lim (s,())=some (O1 s,Xn s,()):=by
 simp only[OX.run,MR hl,cond_true];unfold O1 Xn;by_cases h1:s.length<48
 ·rw[MK (show (s.length:Int)<48 by omega),if_pos h1];rfl
 rw[MO (show ¬(s.length:Int)<48 by omega),if_neg h1];by_cases h2:s.length>1280
 ·rw[MK (show (s.length:Int)>1280 by omega),if_pos h2];rfl
 rw[MO (show ¬(s.length:Int)>1280 by omega),if_neg h2];have hc:cut s 48 (s.length:Int)=s.drop 48:=RI (a:=48) rfl;simp only[cond_false,M_ (show (0:Int)<=48 by omega) (show (48:Int)<=(s.length:Int) by omega) (ahU _),cond_true,hc,aa9 (hs.drop 48) (show (s.drop 48).length<9223372036854775808 by rw[ahP];omega),ahw];generalize UD (s.drop 48).length (s.drop 48) []=r;obtain⟨fs,e⟩:=r;simp only;by_cases h0:e=0
 ·rw[MK h0,if_pos h0];have rb: ∀k:Nat,k<48->B8 (rd 0 s (k:Int)):=fun k hk=>hs _ (OB (by omega) (by omega))
  have q0:B8 (rd 0 s 0):=rb 0 (by decide);have q1:B8 (rd 0 s 1):=rb 1 (by decide);have q2:B8 (rd 0 s 2):=rb 2 (by decide);have q3:B8 (rd 0 s 3):=rb 3 (by decide);have v: ∀a b:Nat,a<=b->b<=48->b-a<=8->Na.run .lim ((s.take b).drop a,())=some (OQ ((s.take b).drop a)):=fun a b _ hb hq=>VA ((hs.take b).drop a) (by rw[TP (by omega)];omega)
  have u: ∀a b:Nat,b=a+4->b<=48->aiU.wrap (OQ ((s.take b).drop a))=OQ ((s.take b).drop a):=fun a b h hb=>(adp ((hs.take b).drop a) (by rw[TP (by omega)];omega)).1
  have c1:cut s 4 8=(s.take 8).drop 4:=Qe rfl rfl;have c2:cut s 8 12=(s.take 12).drop 8:=Qe rfl rfl;have c3:cut s 12 16=(s.take 16).drop 12:=Qe rfl rfl;have c4:cut s 16 24=(s.take 24).drop 16:=Qe rfl rfl;have c5:cut s 24 32=(s.take 32).drop 24:=Qe rfl rfl;have c6:cut s 32 40=(s.take 40).drop 32:=Qe rfl rfl;have c7:cut s 40 48=(s.take 48).drop 40:=Qe rfl rfl;have k: ∀a b:Int,0<=a->a<=b->b<=48->sV a b (s.length:Int)=true:=fun a b x y z=>M_ x y (by omega)
  have i: ∀a:Int,0<=a->a<48->inB a (s.length:Int)=true:=fun a x y=>MV x (by omega)
  simp only[ahx,cond_false,i 0 (by decide) (by decide),i 1 (by decide) (by decide),i 2 (by decide) (by decide),i 3 (by decide) (by decide),cond_true,k 4 8 (by decide) (by decide) (by decide),k 8 12 (by decide) (by decide) (by decide),k 12 16 (by decide) (by decide) (by decide),k 16 24 (by decide) (by decide) (by decide),k 24 32 (by decide) (by decide) (by decide),k 32 40 (by decide) (by decide) (by decide),k 40 48 (by decide) (by decide) (by decide),
   c1,c2,c3,c4,c5,c6,c7,v 4 8 (by decide) (by decide) (by decide),v 8 12 (by decide) (by decide) (by decide),v 12 16 (by decide) (by decide) (by decide),v 16 24 (by decide) (by decide) (by decide),v 24 32 (by decide) (by decide) (by decide),v 32 40 (by decide) (by decide) (by decide),v 40 48 (by decide) (by decide) (by decide),ahw,u 4 8 rfl (by decide),u 8 12 rfl (by decide),u 12 16 rfl (by decide),adG q2,adG q3]
  simp only[adC q0,adD q0,adE q0,ac5 q1,h0];rfl
 ·rw[MO h0,if_neg h0];rfl
theorem ad1{c:Int}(h:B8 c):b0S (c/64) (c/8%8) (c%8)=c:=P7 (p:=fun c=>b0S (c/64) (c/8%8) (c%8)=c) (by decide+kernel) h
theorem adH{c:Int}(h:B8 c):ahN.wrap (sg c)=c:=P7 (p:=fun c=>ahN.wrap (sg c)=c) (by decide+kernel) h
theorem glue{s:List Int}{a b c:Nat}(h1:a<=b)(h2:b<=c):(s.take b).drop a++(s.take c).drop b=(s.take c).drop a:=by
 have e:s.take b=(s.take c).take b:=by rw[List.take_take,ah_ h2]
 have e2:(s.take c).drop b=((s.take c).drop a).drop (b-a):=by rw[aif];congr 1;omega
 have e3:((s.take c).take b).drop a=((s.take c).drop a).take (b-a):=by rw[aiE]
 rw[e,e2,e3,ah9]
theorem abT{s:List Int}(hs:Bs s)(hl:48<=s.length)(fs:List FF):ZF (rdP s fs)=s.take 48/\XO (rdP s fs)=true:=by
 have rb: ∀k:Nat,k<48->B8 (rd 0 s (k:Int)):=fun k hk=>hs _ (OB (by omega) (by omega))
 have q0:B8 (rd 0 s 0):=rb 0 (by decide);have q1:B8 (rd 0 s 1):=rb 1 (by decide);have q2:B8 (rd 0 s 2):=rb 2 (by decide);have q3:B8 (rd 0 s 3):=rb 3 (by decide);constructor
 ·have u: ∀a b:Nat,b=a+4->b<=48->by4 (ahV.wrap (OQ ((s.take b).drop a)))=(s.take b).drop a:=fun a b h hb=>(adp ((hs.take b).drop a) (by rw[TP (by omega)];omega)).2
  have v: ∀a b:Nat,b=a+8->b<=48->by8 (OQ ((s.take b).drop a))=(s.take b).drop a:=fun a b h hb=>af5 ((hs.take b).drop a) (by rw[TP (by omega)];omega)
  have h4:=list4 (t:=s.take 4) (by rw[ahQ];omega);have t0:rd 0 (s.take 4) 0=rd 0 s 0:=RP (k:=0) (n:=4) (by decide);have t1:rd 0 (s.take 4) 1=rd 0 s 1:=RP (k:=1) (n:=4) (by decide);have t2:rd 0 (s.take 4) 2=rd 0 s 2:=RP (k:=2) (n:=4) (by decide);have t3:rd 0 (s.take 4) 3=rd 0 s 3:=RP (k:=3) (n:=4) (by decide);rw[t0,t1,t2,t3]at h4;unfold ZF rdP;simp only[ad1 q0,R_ q1,adH q2,adH q3,u 4 8 rfl (by decide),u 8 12 rfl (by decide),u 12 16 rfl (by decide),v 16 24 rfl (by decide),v 24 32 rfl (by decide),v 32 40 rfl (by decide),v 40 48 rfl (by decide)];rw[<-h4,glue (by decide) (by decide),glue (by decide) (by decide),glue (by decide) (by decide),glue (by decide) (by decide),glue (by decide) (by decide),glue (by decide) (by decide)];have:=glue (s:=s) (a:=0) (b:=4) (c:=48) (by decide) (by decide);simpa using this
 ·unfold XO rdP Yd sg;simp only[ahX,decide_eq_true_eq];refine⟨⟨⟨⟨⟨?_,?_⟩,?_⟩,?_⟩,?_⟩,?_⟩
  ·omega
  ·omega
  ·omega
  ·omega
  ·split<;>omega
  ·split<;>omega
structure Was(s:List Int):Prop where
 l0:48<=s.length
 l1:s.length<=1280
 eq:O1 s=rdP s (O1 s).fs
 st:s=s.take 48++Nl (O1 s).fs
 ok: ∀f∈(O1 s).fs,FOk f
 few:(O1 s).fs.length<=16
theorem was{s:List Int}(hs:Bs s)(h:Xn s=0):Was s:=by
 have h1:48<=s.length:=by
  unfold Xn at h;split at h
  ·cases h
  ·omega
 have h2:s.length<=1280:=by
  unfold Xn at h;rw[if_neg (by omega)]at h;split at h
  ·cases h
  ·omega
 have h3:(UD (s.drop 48).length (s.drop 48) []).2=0:=by
  unfold Xn at h
  rwa [if_neg (by omega),if_neg (by omega)]at h
 obtain⟨l,k1,k2,k3,k4⟩:=Zt _ _ [] (aio _) (hs.drop 48) h3;have hr:O1 s=rdP s l:=by unfold O1;rw[if_pos h,k1];rfl
 have hf:(O1 s).fs=l:=by rw[hr];rfl
 refine⟨h1,h2,by rw[hf,hr],by rw[hf,<-k2,ah9],by rw[hf];exact k3,by rw[hf];simpa using k4 (by simp)⟩
theorem Xd{s:List Int}(hs:Bs s)(h:Xn s=0)(k:Nat):Nj.run .lim (PK.cut (O1 s) ((O1 s).fs.take k),())=some (s.take (48+(Nl ((O1 s).fs.take k)).length),0,()):=by
 have w:=was hs h;have hle:=WB (O1 s).fs k;have hsl:s.length=48+(Nl (O1 s).fs).length:=by
  have:=congrArg aiF w.st;rw[ahM,ahQ,ah_ w.l0]at this;exact this
 have hok: ∀f∈(O1 s).fs.take k,FOk f:=fun f hf=>w.ok f (aiD hf)
 have hfl:FL (PK.fs (PK.cut (O1 s) ((O1 s).fs.take k))):=by
  refine⟨?_,fun f hf=> ?_⟩
  ·show ((O1 s).fs.take k).length<_;have:=w.few;rw[ahQ];omega
  ·have:=(hok f hf).l1;omega
 rw[Xe hfl];have hb:=abT hs w.l0 ((O1 s).fs.take k);have hc:PK.cut (O1 s) ((O1 s).fs.take k)=rdP s ((O1 s).fs.take k):=by
  conv=>lhs;rw[show PK.cut (O1 s) ((O1 s).fs.take k)=PK.cut (rdP s (O1 s).fs) ((O1 s).fs.take k) by rw[<-w.eq]]
  rfl
 have he:Xc (PK.cut (O1 s) ((O1 s).fs.take k))=0:=by
  unfold Xc;rw[hc,if_pos hb.2];show QZ ((O1 s).fs.take k)=0;exact XL hok (by have:=w.few;rw[ahQ];omega) (by have:=w.l1;omega)
 have hs2:VF (PK.cut (O1 s) ((O1 s).fs.take k))=s.take (48+(Nl ((O1 s).fs.take k)).length):=by
  unfold VF;rw[if_pos he,hc,hb.1];show s.take 48++Nl ((O1 s).fs.take k)=_;have e1:Nl (O1 s).fs=Nl ((O1 s).fs.take k)++Nl ((O1 s).fs.drop k):=by rw[<-Vt,ah9]
  have e2:s=(s.take 48++Nl ((O1 s).fs.take k))++Nl ((O1 s).fs.drop k):=by rw[ah5,<-e1];exact w.st
  have e3:(s.take 48++Nl ((O1 s).fs.take k)).length=48+(Nl ((O1 s).fs.take k)).length:=by rw[ahM,ahQ,ah_ w.l0]
  rw[<-e3];generalize Nl ((O1 s).fs.take k)=x at e2;generalize Nl ((O1 s).fs.drop k)=y at e2;generalize s.take 48=z at e2;rw[e2,List.take_left]
 rw[he,hs2]
end Go.AM
end
section
namespace Go.AM
abbrev KK:=List Int×List (List Int)×List Int×List Int
abbrev k0:KK:=([],[],[],[])
theorem wk(k:Nat)(h:(k:Int)+1<9223372036854775808):ahz.wrap ((k:Int)+1)=((k+1:Nat):Int):=by rw[wrap64 (by omega) (by omega)];omega
theorem Yb(a b:List (List Int))(ha:a.length<9223372036854775808)(hb:b.length<9223372036854775808):Nq.run .lim (a,b,())=some (decide (a=b)):=by
 simp only[Nq.run,MR ha,MR hb,cond_true];by_cases hl:a.length=b.length
 ·have e:=QT (f:=Nq.l0 .lim) (fun k=>(a,b,(a.length:Int),(k:Int),())) a.length (fun k=> !decide (rd ([]:List Int) a k=rd ([]:List Int) b k)) (some (.inl (false,()))) (fun k hk=>by
   rw[Nq.q0];have w:=wk k (by omega);simp (disch:=omega) only[Nh,MV,M_,wrap64,MK,MO,dec_not,dec_and,Ol,NM,cond_true,cond_false,ahw,ahy,ahC,ahL,ahI,ahH,ahA,ahE,ahG,ahF,ahx,ahB,ahJ,ahD,ahK,if_true,if_false,and_self,true_and,and_true,and_false,false_and,or_true,true_or,or_false,false_or,not_true_eq_false,not_false_eq_true,decide_true,decide_false,eq_self,if_pos,if_neg,O4,OH,Nq.b0,w])
  rw[Wx hl]at e;rw[cond_neg (by simp (disch:=omega) only[Nh,MV,M_,wrap64,MK,MO,dec_not,dec_and,Ol,NM,cond_true,cond_false,ahw,ahy,ahC,ahL,ahI,ahH,ahA,ahE,ahG,ahF,ahx,ahB,ahJ,ahD,ahK,if_true,if_false,and_self,true_and,and_true,and_false,false_and,or_true,true_or,or_false,false_or,not_true_eq_false,not_false_eq_true,decide_true,decide_false,eq_self,if_pos,if_neg,O4,OH]),show (0:Int)=((0:Nat):Int)from rfl,e];by_cases h:a=b
  ·simp (disch:=omega) only[Nh,MV,M_,wrap64,MK,MO,dec_not,dec_and,Ol,NM,cond_true,cond_false,ahw,ahy,ahC,ahL,ahI,ahH,ahA,ahE,ahG,ahF,ahx,ahB,ahJ,ahD,ahK,if_true,if_false,and_self,true_and,and_true,and_false,false_and,or_true,true_or,or_false,false_or,not_true_eq_false,not_false_eq_true,decide_true,decide_false,eq_self,if_pos,if_neg,O4,OH];rw[Nq.q0];simp (disch:=omega) only[Nh,MV,M_,wrap64,MK,MO,dec_not,dec_and,Ol,NM,cond_true,cond_false,ahw,ahy,ahC,ahL,ahI,ahH,ahA,ahE,ahG,ahF,ahx,ahB,ahJ,ahD,ahK,if_true,if_false,and_self,true_and,and_true,and_false,false_and,or_true,true_or,or_false,false_or,not_true_eq_false,not_false_eq_true,decide_true,decide_false,eq_self,if_pos,if_neg,O4,OH,Nq.b0]
  ·simp (disch:=omega) only[Nh,MV,M_,wrap64,MK,MO,dec_not,dec_and,Ol,NM,cond_true,cond_false,ahw,ahy,ahC,ahL,ahI,ahH,ahA,ahE,ahG,ahF,ahx,ahB,ahJ,ahD,ahK,if_true,if_false,and_self,true_and,and_true,and_false,false_and,or_true,true_or,or_false,false_or,not_true_eq_false,not_false_eq_true,decide_true,decide_false,eq_self,if_pos,if_neg,O4,OH]
 ·rw[cond_pos (by simp (disch:=omega) only[Nh,MV,M_,wrap64,MK,MO,dec_not,dec_and,Ol,NM,cond_true,cond_false,ahw,ahy,ahC,ahL,ahI,ahH,ahA,ahE,ahG,ahF,ahx,ahB,ahJ,ahD,ahK,if_true,if_false,and_self,true_and,and_true,and_false,false_and,or_true,true_or,or_false,false_or,not_true_eq_false,not_false_eq_true,decide_true,decide_false,eq_self,if_pos,if_neg,O4,OH]),MO (fun q=>hl (by rw[q]))]
theorem texts_eq(a b:List (List Int))(ha:a.length<9223372036854775808)(hb:b.length<9223372036854775808):NS.run .lim (a,b,())=some (decide (a=b)):=by
 simp only[NS.run,MR ha,MR hb,cond_true];by_cases hl:a.length=b.length
 ·have e:=QT (f:=NS.l0 .lim) (fun k=>(a,b,(k:Int),())) a.length (fun k=> !decide (rd ([]:List Int) a k=rd ([]:List Int) b k)) (some (.inl (false,()))) (fun k hk=>by
   rw[NS.q0];have w:=wk k (by omega);simp (disch:=omega) only[Nh,MV,M_,wrap64,MK,MO,dec_not,dec_and,Ol,NM,cond_true,cond_false,ahw,ahy,ahC,ahL,ahI,ahH,ahA,ahE,ahG,ahF,ahx,ahB,ahJ,ahD,ahK,if_true,if_false,and_self,true_and,and_true,and_false,false_and,or_true,true_or,or_false,false_or,not_true_eq_false,not_false_eq_true,decide_true,decide_false,eq_self,if_pos,if_neg,O4,OH,NS.b0,w])
  rw[Wx hl]at e;rw[cond_neg (by simp (disch:=omega) only[Nh,MV,M_,wrap64,MK,MO,dec_not,dec_and,Ol,NM,cond_true,cond_false,ahw,ahy,ahC,ahL,ahI,ahH,ahA,ahE,ahG,ahF,ahx,ahB,ahJ,ahD,ahK,if_true,if_false,and_self,true_and,and_true,and_false,false_and,or_true,true_or,or_false,false_or,not_true_eq_false,not_false_eq_true,decide_true,decide_false,eq_self,if_pos,if_neg,O4,OH]),show (0:Int)=((0:Nat):Int)from rfl,e];by_cases h:a=b
  ·simp (disch:=omega) only[Nh,MV,M_,wrap64,MK,MO,dec_not,dec_and,Ol,NM,cond_true,cond_false,ahw,ahy,ahC,ahL,ahI,ahH,ahA,ahE,ahG,ahF,ahx,ahB,ahJ,ahD,ahK,if_true,if_false,and_self,true_and,and_true,and_false,false_and,or_true,true_or,or_false,false_or,not_true_eq_false,not_false_eq_true,decide_true,decide_false,eq_self,if_pos,if_neg,O4,OH];rw[NS.q0];simp (disch:=omega) only[Nh,MV,M_,wrap64,MK,MO,dec_not,dec_and,Ol,NM,cond_true,cond_false,ahw,ahy,ahC,ahL,ahI,ahH,ahA,ahE,ahG,ahF,ahx,ahB,ahJ,ahD,ahK,if_true,if_false,and_self,true_and,and_true,and_false,false_and,or_true,true_or,or_false,false_or,not_true_eq_false,not_false_eq_true,decide_true,decide_false,eq_self,if_pos,if_neg,O4,OH,NS.b0]
  ·simp (disch:=omega) only[Nh,MV,M_,wrap64,MK,MO,dec_not,dec_and,Ol,NM,cond_true,cond_false,ahw,ahy,ahC,ahL,ahI,ahH,ahA,ahE,ahG,ahF,ahx,ahB,ahJ,ahD,ahK,if_true,if_false,and_self,true_and,and_true,and_false,false_and,or_true,true_or,or_false,false_or,not_true_eq_false,not_false_eq_true,decide_true,decide_false,eq_self,if_pos,if_neg,O4,OH]
 ·rw[cond_pos (by simp (disch:=omega) only[Nh,MV,M_,wrap64,MK,MO,dec_not,dec_and,Ol,NM,cond_true,cond_false,ahw,ahy,ahC,ahL,ahI,ahH,ahA,ahE,ahG,ahF,ahx,ahB,ahJ,ahD,ahK,if_true,if_false,and_self,true_and,and_true,and_false,false_and,or_true,true_or,or_false,false_or,not_true_eq_false,not_false_eq_true,decide_true,decide_false,eq_self,if_pos,if_neg,O4,OH]),MO (fun q=>hl (by rw[q]))]
def UW(a b:KK):Bool:=decide (a.1=b.1)&&decide (a.2.2.1=b.2.2.1)&&decide (a.2.1=b.2.1)
theorem X6(a b:KK):UW a b=UW b a:=by
 unfold UW;rw[show decide (a.1=b.1)=decide (b.1=a.1)from by congr 1;exact propext ⟨aiT,aiT⟩,show decide (a.2.2.1=b.2.2.1)=decide (b.2.2.1=a.2.2.1)from by congr 1;exact propext ⟨aiT,aiT⟩,show decide (a.2.1=b.2.1)=decide (b.2.1=a.2.1)from by congr 1;exact propext ⟨aiT,aiT⟩]
theorem aat(a b:KK)(ha:a.2.1.length<9223372036854775808)(hb:b.2.1.length<9223372036854775808):Rw.run .lim (a,b,())=some (UW a b):=by
 simp only[Rw.run,Yb _ _ ha hb];unfold UW;cases decide (a.1=b.1)&&decide (a.2.2.1=b.2.2.1)<;>rfl
theorem Vy(a b:KK)(ha:a.2.1.length<9223372036854775808)(hb:b.2.1.length<9223372036854775808):Og.run .lim (a,b,())=some (UW a b):=by
 simp only[Og.run,texts_eq _ _ ha hb];unfold UW;cases decide (a.1=b.1)&&decide (a.2.2.1=b.2.2.1)<;>rfl
def byteOf(n:Int)(k:Nat):Int:=(n/256^k)%256
def U_(n:Int):List Int:=(ahR 16).map fun i=>byteOf n (15-i)
def txt(n:Int)(plain:List Int):List Int:=U_ n++ahO plain.length 0
theorem adR: ∀n:Nat,EW [0] n=ahO n 0
 |0=>rfl
 |n+1=>by rw[EW,adR n];rfl
def part(n:Int)(k:Nat):List Int:=(ahR 16).map fun i=>if i<16-k then 0 else byteOf n (15-i)
theorem Xx(n:Int):part n 0=ahO 16 0:=by
 unfold part;rw[List.eq_replicate_iff];refine⟨by simp,fun b hb=> ?_⟩;obtain⟨i,hi,rfl⟩:=ai3.1 hb;rw[if_pos (by have:=ahW.1 hi;omega)]
theorem WO(n:Int)(k:Nat):(part n k).length=16:=by simp[part]
theorem Yi(n:Int)(k:Nat)(hk:k<16):(part n k).set (15-k) (byteOf n k)=part n (k+1):=by
 apply List.ext_getElem (by simp[part])
 intro i h1 h2;have hi:i<16:=by rw[ain,WO]at h1;exact h1
 rw[List.getElem_set];simp only[part,List.getElem_map,List.getElem_range];split
 ·rw[if_neg (by omega)];congr 1;omega
 ·by_cases h:i<16-(k+1)
  ·rw[if_pos (by omega),if_pos h]
  ·rw[if_neg (by omega),if_neg h]
theorem aaX(n:Int):part n 16=U_ n:=by
 unfold part U_;apply aiG
 intro i _;rw[if_neg (by omega)]
theorem X8{n:Int}(h0:0<=n)(h1:n<9223372036854775808){k:Nat}(hk:8<=k):byteOf n k=0:=by
 unfold byteOf;rw[Int.ediv_eq_zero_of_lt h0];· rfl
 obtain⟨j,rfl⟩: ∃j,k=8+j:=⟨k-8,by omega⟩;rw[Int.pow_add];have:(0:Int)<256^j:=aiv (by omega);have h2:(256:Int)^8*1<=256^8*256^j:=Int.mul_le_mul_of_nonneg_left (by omega) (by decide);have h3:(256:Int)^8=18446744073709551616:=by decide
 rw[h3]at h2 ⊢;omega
theorem adQ{n:Int}(h0:0<=n)(h1:n<9223372036854775808):part n 8=U_ n:=by
 unfold part U_;apply aiG
 intro i _;split
 ·rw[X8 h0 h1 (by omega)]
 ·rfl
theorem number_eq(n:Int)(plain:List Int)(h0:0<=n)(h1:n<9223372036854775808)(hp:plain.length<=100000):OV.run .lim (n,plain,())=some (txt n plain):=by
 have e:=NU (f:=OV.l0 .lim) (fun k=>(n,plain,(k:Int),part n k,())) (n:=8) (fun k hk=>by
  rw[OV.q0];have w:=wk k (by omega);have w2:ahz.wrap ((8:Int)*k)=((8*k:Nat):Int):=by rw[wrap64 (by omega) (by omega)];omega
  have w3:ahz.wrap ((15:Int)-k)=((15-k:Nat):Int):=by rw[wrap64 (by omega) (by omega)];omega
  have hb:ahN.wrap (Ja .i64 n ((8*k:Nat):Int))=byteOf n k:=by
   rw[QK];unfold Ja byteOf;rw[ahT,show min (8*k) (aiO .i64)=8*k from by show min (8*k) 64=_;omega,Int.fdiv_eq_ediv_of_nonneg _ (aiz (aiv (by omega))),Int.pow_mul];rfl
  simp (disch:=omega) only[Nh,MV,M_,wrap64,MK,MO,dec_not,dec_and,Ol,NM,cond_true,cond_false,ahw,ahy,ahC,ahL,ahI,ahH,ahA,ahE,ahG,ahF,ahx,ahB,ahJ,ahD,ahK,if_true,if_false,and_self,true_and,and_true,and_false,false_and,or_true,true_or,or_false,false_or,not_true_eq_false,not_false_eq_true,decide_true,decide_false,eq_self,if_pos,if_neg,O4,OH,OV.b0,w,w2,w3,hb,ahT,Yi])
 rw[Xx,show ((0:Nat):Int)=0 from rfl]at e;simp only[OV.run,e];rw[OV.q0];have hr:strings_Repeat.run .lim ([0],(plain.length:Int),())=some (ahO plain.length 0):=by
  show KW _=_;unfold KW;rw[cond_pos (by simp;omega),ahT,adR]
 simp (disch:=omega) only[Nh,MV,M_,wrap64,MK,MO,dec_not,dec_and,Ol,NM,cond_true,cond_false,ahw,ahy,ahC,ahL,ahI,ahH,ahA,ahE,ahG,ahF,ahx,ahB,ahJ,ahD,ahK,if_true,if_false,and_self,true_and,and_true,and_false,false_and,or_true,true_or,or_false,false_or,not_true_eq_false,not_false_eq_true,decide_true,decide_false,eq_self,if_pos,if_neg,O4,OH,OV.b0,MR (show plain.length<9223372036854775808 by omega),hr];rw[adQ h0 h1,ah0,ahS (by simp[U_]),if_pos]
 ·rfl
 ·rw[ah2,U_,aiA,aiN];unfold maxStr;omega
theorem Yp(n:Int)(plain:List Int)(h0:0<=n)(h1:n<9223372036854775808)(hp:plain.length<=100000):NY.run .lim (n,plain,())=some (txt n plain):=by
 have w0:ahz.wrap ((16:Int)+plain.length)=((16+plain.length:Nat):Int):=by rw[wrap64 (by omega) (by omega)];omega
 have e:=NU (f:=NY.l0 .lim) (fun k=>(n/256^k,(15:Int)-k,part n k++ahO plain.length 0,())) (n:=16) (fun k hk=>by
  rw[NY.q0];have hn:0<=n/256^k:=aiV h0 (aiz (aiv (by omega)));have hn2:n/256^k<=n:=aiQ _ h0;have w1:ahz.wrap ((n/256^k).tdiv 256)=n/256^(k+1):=by
   rw[ahY hn,Int.ediv_ediv_of_nonneg (aiz (aiv (by omega))),show (256:Int)^k*256=256^(k+1)from(Int.pow_succ _ _).symm];have:n/256^(k+1)<=n:=aiQ _ h0;have:0<=n/256^(k+1):=aiV h0 (aiz (aiv (by omega)));rw[wrap64 (by omega) (by omega)]
  have w2:ahz.wrap ((15:Int)-k-1)=(15:Int)-(k+1:Nat):=by rw[wrap64 (by omega) (by omega)];omega
  have hb:ahN.wrap ((n/256^k).tmod 256)=byteOf n k:=by rw[QK,ahZ hn];unfold byteOf;omega
  have hl:(part n k++ahO plain.length 0).length=16+plain.length:=by simp[WO]
  have ht:((15:Int)-k).toNat=15-k:=by omega
  have hs:(part n k++ahO plain.length (0:Int)).set (15-k) (byteOf n k)=part n (k+1)++ahO plain.length 0:=by rw[List.set_append_left _ _ (by rw[WO];omega),Yi n k hk]
  simp (disch:=omega) only[Nh,MV,M_,wrap64,MK,MO,dec_not,dec_and,Ol,NM,cond_true,cond_false,ahw,ahy,ahC,ahL,ahI,ahH,ahA,ahE,ahG,ahF,ahx,ahB,ahJ,ahD,ahK,if_true,if_false,and_self,true_and,and_true,and_false,false_and,or_true,true_or,or_false,false_or,not_true_eq_false,not_false_eq_true,decide_true,decide_false,eq_self,if_pos,if_neg,O4,OH,NY.b0,w1,w2,hb,hl,ht,hs])
 have hz:ahO (16+plain.length) (0:Int)=part n 0++ahO plain.length 0:=by rw[Xx,List.replicate_append_replicate]
 rw[Int.pow_zero,Int.ediv_one,show (15:Int)-((0:Nat):Int)=15 from rfl]at e;simp only[NY.run,w0,ahT,hz,e];rw[NY.q0];simp (disch:=omega) only[Nh,MV,M_,wrap64,MK,MO,dec_not,dec_and,Ol,NM,cond_true,cond_false,ahw,ahy,ahC,ahL,ahI,ahH,ahA,ahE,ahG,ahF,ahx,ahB,ahJ,ahD,ahK,if_true,if_false,and_self,true_and,and_true,and_false,false_and,or_true,true_or,or_false,false_or,not_true_eq_false,not_false_eq_true,decide_true,decide_false,eq_self,if_pos,if_neg,O4,OH,NY.b0,MR (show plain.length<9223372036854775808 by omega)];rw[cond_pos (by rw[ai0];omega),aaX];rfl
end Go.AM
end
section
namespace Go.AM
abbrev VV:=Bool×List KK
def Yw(k:KK):Prop:=k.1.length<9223372036854775808/\k.2.1.length<9223372036854775808/\(∀s∈k.2.1,s.length<9223372036854775808)/\k.2.2.1.length<9223372036854775808/\k.2.2.2.length<9223372036854775808
def okV(v:VV):Prop:=v.2.length<9223372036854775808/\ ∀k∈v.2,Yw k
theorem okV.at{v:VV}(h:okV v){k:Nat}(hk:k<v.2.length):Yw (rd k0 v.2 (k:Int)):=h.2 _ (OB (by omega) (by omega))
def Rz(k:KK):Int:=if k.1.length≠32/\k.1.length≠64 then 13 else if k.2.1.length>126 then 18 else 0
theorem WR(k:KK)(h:k.1.length<9223372036854775808)(h2:k.2.1.length<9223372036854775808):Qi.run .lim (k,())=some (Rz k):=by
 unfold Rz;simp only[Qi.run,MR h,MR h2,cond_true,ahC];by_cases h3:k.1.length≠32/\k.1.length≠64
 ·rw[cond_pos (by simp (disch:=omega) only[Nh,MV,M_,wrap64,MK,MO,dec_not,dec_and,Ol,NM,cond_true,cond_false,ahw,ahy,ahC,ahL,ahI,ahH,ahA,ahE,ahG,ahF,ahx,ahB,ahJ,ahD,ahK,if_true,if_false,and_self,true_and,and_true,and_false,false_and,or_true,true_or,or_false,false_or,not_true_eq_false,not_false_eq_true,decide_true,decide_false,eq_self,if_pos,if_neg,O4,OH,MK (show ¬((k.1.length:Int)=32) by omega),MK (show ¬((k.1.length:Int)=64) by omega)]),if_pos h3]
 ·rw[cond_neg,if_neg h3]
  ·by_cases h4:k.2.1.length>126<;>simp (disch:=omega) only[Nh,MV,M_,wrap64,MK,MO,dec_not,dec_and,Ol,NM,cond_true,cond_false,ahw,ahy,ahC,ahL,ahI,ahH,ahA,ahE,ahG,ahF,ahx,ahB,ahJ,ahD,ahK,if_true,if_false,and_self,true_and,and_true,and_false,false_and,or_true,true_or,or_false,false_or,not_true_eq_false,not_false_eq_true,decide_true,decide_false,eq_self,if_pos,if_neg,O4,OH]
  ·by_cases h4:k.1.length=32
   ·simp (disch:=omega) only[Nh,MV,M_,wrap64,MK,MO,dec_not,dec_and,Ol,NM,cond_true,cond_false,ahw,ahy,ahC,ahL,ahI,ahH,ahA,ahE,ahG,ahF,ahx,ahB,ahJ,ahD,ahK,if_true,if_false,and_self,true_and,and_true,and_false,false_and,or_true,true_or,or_false,false_or,not_true_eq_false,not_false_eq_true,decide_true,decide_false,eq_self,if_pos,if_neg,O4,OH]
   ·simp (disch:=omega) only[Nh,MV,M_,wrap64,MK,MO,dec_not,dec_and,Ol,NM,cond_true,cond_false,ahw,ahy,ahC,ahL,ahI,ahH,ahA,ahE,ahG,ahF,ahx,ahB,ahJ,ahD,ahK,if_true,if_false,and_self,true_and,and_true,and_false,false_and,or_true,true_or,or_false,false_or,not_true_eq_false,not_false_eq_true,decide_true,decide_false,eq_self,if_pos,if_neg,O4,OH]
def Xk(xs:List KK)(i:Nat):Bool:=
 !decide (Rz (rd k0 xs i)=0)||decide ((rd k0 xs i).2.2.1.length>65536)|| !decide ((rd k0 xs i).2.2.2=txt ((i:Int)+1) (rd k0 xs i).2.2.1)||(ahR i).any fun j=>UW (rd k0 xs j) (rd k0 xs i)
def Ri(v:VV):Bool:=bif v.1 then decide (v.2.length<=2048)&& !((ahR v.2.length).any (Xk v.2))else decide (v.2.length=0)
theorem acd(xs:List KK)(i:Nat)(q:KK)(b:Bool)(hi:i<=xs.length)(hy:xs.length<9223372036854775808)(hok: ∀k∈xs,Yw k)(hq:Yw q):
  Nz.l0 .lim ((i:Int),0,b,xs,q.1,q.2.1,q.2.2.1,q.2.2.2,())=bif(ahR i).any (fun j=>UW (rd k0 xs j) q)then some (.inl (false,()))else some (.inr ((i:Int),b,xs,())):=by
 have e:=QT (f:=Nz.l0 .lim) (fun j=>((i:Int),(j:Int),b,xs,q.1,q.2.1,q.2.2.1,q.2.2.2,())) i (fun j=>UW (rd k0 xs j) q) (some (.inl (false,()))) (fun k hk=>by
  rw[Nz.q0];have ha:=Vy q (rd k0 xs k) hq.2.1 (hok _ (OB (by omega) (by omega))).2.1;rw[X6]at ha;have ha:Og.run .lim ((q.1,q.2.1,q.2.2.1,q.2.2.2),rd k0 xs k,())=some (UW (rd k0 xs k) q):=ha;simp (disch:=omega) only[Nh,MV,M_,wrap64,MK,MO,dec_not,dec_and,Ol,NM,cond_true,cond_false,ahw,ahy,ahC,ahL,ahI,ahH,ahA,ahE,ahG,ahF,ahx,ahB,ahJ,ahD,ahK,if_true,if_false,and_self,true_and,and_true,and_false,false_and,or_true,true_or,or_false,false_or,not_true_eq_false,not_false_eq_true,decide_true,decide_false,eq_self,if_pos,if_neg,O4,OH,Nz.b0,wk k (by omega),ha])
 refine e.trans ?_;rw[Nz.q0];simp (disch:=omega) only[Nh,MV,M_,wrap64,MK,MO,dec_not,dec_and,Ol,NM,cond_true,cond_false,ahw,ahy,ahC,ahL,ahI,ahH,ahA,ahE,ahG,ahF,ahx,ahB,ahJ,ahD,ahK,if_true,if_false,and_self,true_and,and_true,and_false,false_and,or_true,true_or,or_false,false_or,not_true_eq_false,not_false_eq_true,decide_true,decide_false,eq_self,if_pos,if_neg,O4,OH,Nz.b0]
theorem afv(q:KK):((!decide ((q.1.length:Int)=32)&& !decide ((q.1.length:Int)=64))||decide ((q.2.1.length:Int)>126))= !decide (Rz q=0):=by
 unfold Rz;by_cases h1:q.1.length≠32/\q.1.length≠64
 ·rw[if_pos h1,MO (show ¬(q.1.length:Int)=32 by omega),MO (show ¬(q.1.length:Int)=64 by omega)];rfl
 ·rw[if_neg h1];have:(!decide ((q.1.length:Int)=32)&& !decide ((q.1.length:Int)=64))=false:=by
   by_cases h2:q.1.length=32
   ·rw[MK (by omega)];rfl
   ·rw[MK (show (q.1.length:Int)=64 by omega),ahx,ahA]
  rw[this,ahF];by_cases h3:q.2.1.length>126
  ·rw[if_pos h3,MK (by omega)];rfl
  ·rw[if_neg h3,MO (by omega)];rfl
theorem ab_(v:VV)(h:okV v):Nz.run .lim (v,())=some (Ri v):=by
 obtain⟨b,xs⟩:=v;have hx:xs.length<9223372036854775808:=h.1;unfold Ri;simp only[Nz.run,MR hx];cases b with
 |false=>simp only[cond_true,cond_false,ahw,ahy,ahC,ahL,ahI,ahH,ahA,ahE,ahG,ahF,ahx,ahB,ahJ,ahD,ahK];congr 2;simp
 |true=>
  simp only[cond_true,cond_false,ahw,ahy,ahC,ahL,ahI,ahH,ahA,ahE,ahG,ahF,ahx,ahB,ahJ,ahD,ahK];by_cases h1:xs.length<=2048
  ·obtain⟨j,_,e⟩:=aaL (f:=Nz.l1 .lim) (fun k=>((k:Int),true,xs,())) xs.length (Xk xs) (fun k=>bif(!decide (Rz (rd k0 xs k)=0)||decide ((rd k0 xs k).2.2.1.length>65536)|| !decide ((rd k0 xs k).2.2.2=txt ((k:Int)+1) (rd k0 xs k).2.2.1))then some (.inl (false,()))else some (.inr (.inl (false,())))) (fun k hk=>by
    rw[Nz.q1];have w:=wk k (by omega);have hk':Yw (rd k0 xs k):=h.at (v:=(true,xs)) hk;have hn:=fun hh=>Yp ((k:Int)+1) (rd k0 xs k).2.2.1 (by omega) (by omega) hh
    have e2:=acd xs k (rd k0 xs k) true (by omega) hx h.2 hk';unfold Xk;simp only[Nz.b1,MR hx,MK (show (k:Int)<(xs.length:Int) by omega),MV (show (0:Int)<=k by omega) (show (k:Int)<xs.length by omega),MR hk'.1,MR hk'.2.1,MR hk'.2.2.2.1,w,afv];rw[show ((k+1:Nat):Int)=(k:Int)+1 by omega];simp only[cond_true,cond_false,ahw,ahy,ahC,ahL,ahI,ahH,ahA,ahE,ahG,ahF,ahx,ahB,ahJ,ahD,ahK];by_cases c1:Rz (rd k0 xs k)=0
    ·by_cases c2:(rd k0 xs k).2.2.1.length>65536
     ·simp only[MK c1,MK c2,MK (show ((rd k0 xs k).2.2.1.length:Int)>65536 by omega)];simp only[cond_true,cond_false,ahw,ahy,ahC,ahL,ahI,ahH,ahA,ahE,ahG,ahF,ahx,ahB,ahJ,ahD,ahK]
     ·simp only[MK c1,MO c2,MO (show ¬((rd k0 xs k).2.2.1.length:Int)>65536 by omega)];simp only[cond_true,cond_false,ahw,ahy,ahC,ahL,ahI,ahH,ahA,ahE,ahG,ahF,ahx,ahB,ahJ,ahD,ahK];rw[hn (by omega)];simp only[cond_true,cond_false,ahw,ahy,ahC,ahL,ahI,ahH,ahA,ahE,ahG,ahF,ahx,ahB,ahJ,ahD,ahK];by_cases c3:(rd k0 xs k).2.2.2=txt ((k:Int)+1) (rd k0 xs k).2.2.1
      ·simp only[MK c3];simp only[cond_true,cond_false,ahw,ahy,ahC,ahL,ahI,ahH,ahA,ahE,ahG,ahF,ahx,ahB,ahJ,ahD,ahK];rw[e2];cases (ahR k).any fun j=>UW (rd k0 xs j) (rd k0 xs k)
       ·simp only[cond_true,cond_false,ahw,ahy,ahC,ahL,ahI,ahH,ahA,ahE,ahG,ahF,ahx,ahB,ahJ,ahD,ahK];rw[show ahz.wrap ((k:Int)+1)=(k:Int)+1 by rw[w];omega]
       ·simp only[cond_true,cond_false,ahw,ahy,ahC,ahL,ahI,ahH,ahA,ahE,ahG,ahF,ahx,ahB,ahJ,ahD,ahK]
      ·simp only[MO c3];simp only[cond_true,cond_false,ahw,ahy,ahC,ahL,ahI,ahH,ahA,ahE,ahG,ahF,ahx,ahB,ahJ,ahD,ahK]
    ·simp only[MO c1];simp only[cond_true,cond_false,ahw,ahy,ahC,ahL,ahI,ahH,ahA,ahE,ahG,ahF,ahx,ahB,ahJ,ahD,ahK])
   rw[show ((0:Nat):Int)=0 from rfl]at e;rw[cond_neg (by simp (disch:=omega) only[Nh,MV,M_,wrap64,MK,MO,dec_not,dec_and,Ol,NM,cond_true,cond_false,ahw,ahy,ahC,ahL,ahI,ahH,ahA,ahE,ahG,ahF,ahx,ahB,ahJ,ahD,ahK,if_true,if_false,and_self,true_and,and_true,and_false,false_and,or_true,true_or,or_false,false_or,not_true_eq_false,not_false_eq_true,decide_true,decide_false,eq_self,if_pos,if_neg,O4,OH]),e,Nz.q1];simp (disch:=omega) only[Nh,MV,M_,wrap64,MK,MO,dec_not,dec_and,Ol,NM,cond_true,cond_false,ahw,ahy,ahC,ahL,ahI,ahH,ahA,ahE,ahG,ahF,ahx,ahB,ahJ,ahD,ahK,if_true,if_false,and_self,true_and,and_true,and_false,false_and,or_true,true_or,or_false,false_or,not_true_eq_false,not_false_eq_true,decide_true,decide_false,eq_self,if_pos,if_neg,O4,OH,Nz.b1,MR hx];cases (ahR xs.length).any (Xk xs)
   ·rfl
   ·simp only[cond_true,cond_false,ahw,ahy,ahC,ahL,ahI,ahH,ahA,ahE,ahG,ahF,ahx,ahB,ahJ,ahD,ahK];split<;>rfl
  ·rw[cond_pos (by simp (disch:=omega) only[Nh,MV,M_,wrap64,MK,MO,dec_not,dec_and,Ol,NM,cond_true,cond_false,ahw,ahy,ahC,ahL,ahI,ahH,ahA,ahE,ahG,ahF,ahx,ahB,ahJ,ahD,ahK,if_true,if_false,and_self,true_and,and_true,and_false,false_and,or_true,true_or,or_false,false_or,not_true_eq_false,not_false_eq_true,decide_true,decide_false,eq_self,if_pos,if_neg,O4,OH]),MO h1];simp only[cond_true,cond_false,ahw,ahy,ahC,ahL,ahI,ahH,ahA,ahE,ahG,ahF,ahx,ahB,ahJ,ahD,ahK]
theorem aau(a b:KK):(UW a b&&decide (a.2.2.2=b.2.2.2))=decide (a=b):=by
 obtain⟨a1,a2,a3,a4⟩:=a;obtain⟨b1,b2,b3,b4⟩:=b;unfold UW;simp only;by_cases h1:a1=b1<;>by_cases h2:a2=b2<;>by_cases h3:a3=b3<;>by_cases h4:a4=b4<;>simp[h1,h2,h3,h4]
theorem aa6(v w:VV)(hv:okV v)(hw:okV w):Ob.run .lim (v,w,())=some (decide (v=w)):=by
 obtain⟨a,xs⟩:=v;obtain⟨b,ys⟩:=w;have hx:xs.length<9223372036854775808:=hv.1;have hy:ys.length<9223372036854775808:=hw.1;simp only[Ob.run,MR hx,MR hy];by_cases hab:a=b
 ·subst hab;rw[show (a==a)=true by simp];simp only[cond_true,cond_false,ahw,ahy,ahC,ahL,ahI,ahH,ahA,ahE,ahG,ahF,ahx,ahB,ahJ,ahD,ahK];by_cases hl:xs.length=ys.length
  ·have e:=QT (f:=Ob.l0 .lim) (fun k=>((k:Int),a,xs,a,ys,())) xs.length (fun k=> !decide (rd k0 xs k=rd k0 ys k)) (some (.inl (false,()))) (fun k hk=>by
    rw[Ob.q0];have hs:=Vy (rd k0 xs k) (rd k0 ys k) (hv.at hk).2.1 (hw.at (v:=(a,ys)) (k:=k) (by show k<ys.length;omega)).2.1;simp only[Ob.b0,wk k (by omega),hs,MR hx,MK (show (k:Int)<(xs.length:Int) by omega),MV (show (0:Int)<=k by omega) (show (k:Int)<xs.length by omega),MV (show (0:Int)<=k by omega) (show (k:Int)<ys.length by omega)];simp only[cond_true,cond_false,ahw,ahy,ahC,ahL,ahI,ahH,ahA,ahE,ahG,ahF,ahx,ahB,ahJ,ahD,ahK];rw[<-aau (rd k0 xs k) (rd k0 ys k)];cases UW (rd k0 xs k) (rd k0 ys k)<;>simp only[cond_true,cond_false,ahw,ahy,ahC,ahL,ahI,ahH,ahA,ahE,ahG,ahF,ahx,ahB,ahJ,ahD,ahK])
   rw[Wx hl,show ((0:Nat):Int)=0 from rfl]at e;rw[cond_neg (by simp (disch:=omega) only[Nh,MV,M_,wrap64,MK,MO,dec_not,dec_and,Ol,NM,cond_true,cond_false,ahw,ahy,ahC,ahL,ahI,ahH,ahA,ahE,ahG,ahF,ahx,ahB,ahJ,ahD,ahK,if_true,if_false,and_self,true_and,and_true,and_false,false_and,or_true,true_or,or_false,false_or,not_true_eq_false,not_false_eq_true,decide_true,decide_false,eq_self,if_pos,if_neg,O4,OH]),e,Ob.q0];simp (disch:=omega) only[Nh,MV,M_,wrap64,MK,MO,dec_not,dec_and,Ol,NM,cond_true,cond_false,ahw,ahy,ahC,ahL,ahI,ahH,ahA,ahE,ahG,ahF,ahx,ahB,ahJ,ahD,ahK,if_true,if_false,and_self,true_and,and_true,and_false,false_and,or_true,true_or,or_false,false_or,not_true_eq_false,not_false_eq_true,decide_true,decide_false,eq_self,if_pos,if_neg,O4,OH,Ob.b0,MR hx];by_cases h:xs=ys
   ·subst h;simp (disch:=omega) only[Nh,MV,M_,wrap64,MK,MO,dec_not,dec_and,Ol,NM,cond_true,cond_false,ahw,ahy,ahC,ahL,ahI,ahH,ahA,ahE,ahG,ahF,ahx,ahB,ahJ,ahD,ahK,if_true,if_false,and_self,true_and,and_true,and_false,false_and,or_true,true_or,or_false,false_or,not_true_eq_false,not_false_eq_true,decide_true,decide_false,eq_self,if_pos,if_neg,O4,OH]
   ·rw[MO (fun q=>h (aiY q).2)];simp (disch:=omega) only[Nh,MV,M_,wrap64,MK,MO,dec_not,dec_and,Ol,NM,cond_true,cond_false,ahw,ahy,ahC,ahL,ahI,ahH,ahA,ahE,ahG,ahF,ahx,ahB,ahJ,ahD,ahK,if_true,if_false,and_self,true_and,and_true,and_false,false_and,or_true,true_or,or_false,false_or,not_true_eq_false,not_false_eq_true,decide_true,decide_false,eq_self,if_pos,if_neg,O4,OH]
  ·rw[cond_pos (by simp (disch:=omega) only[Nh,MV,M_,wrap64,MK,MO,dec_not,dec_and,Ol,NM,cond_true,cond_false,ahw,ahy,ahC,ahL,ahI,ahH,ahA,ahE,ahG,ahF,ahx,ahB,ahJ,ahD,ahK,if_true,if_false,and_self,true_and,and_true,and_false,false_and,or_true,true_or,or_false,false_or,not_true_eq_false,not_false_eq_true,decide_true,decide_false,eq_self,if_pos,if_neg,O4,OH]),MO];exact fun q=>hl (by rw[(aiY q).2])
 ·rw[show (a==b)=false by simpa using hab,MO (fun q=>hab (aiY q).1)];simp only[cond_true,cond_false,ahw,ahy,ahC,ahL,ahI,ahH,ahA,ahE,ahG,ahF,ahx,ahB,ahJ,ahD,ahK]
theorem ZI(v:VV)(h:okV v): ∃r,Nc.run .lim (v,())=some r/\(r=true->v.2.length<=300):=by
 obtain⟨b,xs⟩:=v;have hx:xs.length<9223372036854775808:=h.1
 -- the inner loop
 have inner: ∀(n:Nat) (left:Int) (j:Nat) (i:Int) (q:KK),Yw q->j+n=q.2.1.length-> -9223372036854775808<=left->left<9223372036854775808-> ∃l:Int,-9223372036854775808<=l/\l<9223372036854775808/\Nc.l0 .lim (left,i,(j:Int),b,xs,q.1,q.2.1,q.2.2.1,q.2.2.2,())=some (l,i,b,xs,()):=by
  intro n
  induction n with
  |zero=>
   intro left j i q hq hj h1 h2;refine⟨left,h1,h2,?_⟩;rw[Nc.q0];simp (disch:=omega) only[Nh,MV,M_,wrap64,MK,MO,dec_not,dec_and,Ol,NM,cond_true,cond_false,ahw,ahy,ahC,ahL,ahI,ahH,ahA,ahE,ahG,ahF,ahx,ahB,ahJ,ahD,ahK,if_true,if_false,and_self,true_and,and_true,and_false,false_and,or_true,true_or,or_false,false_or,not_true_eq_false,not_false_eq_true,decide_true,decide_false,eq_self,if_pos,if_neg,O4,OH,Nc.b0,MR hq.2.1]
  |succ n ih=>
   intro left j i q hq hj h1 h2;have hb:= @VG (left-((rd ([]:List Int) q.2.1 (j:Int)).length:Int));have hs:=hq.2.2.1 (rd ([]:List Int) q.2.1 (j:Int)) (OB (by omega) (by omega));by_cases hl:left>=0
   ·obtain⟨l,l1,l2,e⟩:=ih (ahz.wrap (left-((rd ([]:List Int) q.2.1 (j:Int)).length:Int))) (j+1) i q hq (by omega) hb.1 hb.2;refine⟨l,l1,l2,?_⟩;rw[Nc.q0,<-e];have hj':=hq.2.1;simp only[Nc.b0,MR hq.2.1,wk j (by omega),MR hs,MK hl,MK (show (j:Int)<(q.2.1.length:Int) by omega),MV (show (0:Int)<=j by omega) (show (j:Int)<q.2.1.length by omega)];simp only[cond_true,cond_false,ahw,ahy,ahC,ahL,ahI,ahH,ahA,ahE,ahG,ahF,ahx,ahB,ahJ,ahD,ahK]
   ·refine⟨left,h1,h2,?_⟩;rw[Nc.q0];simp (disch:=omega) only[Nh,MV,M_,wrap64,MK,MO,dec_not,dec_and,Ol,NM,cond_true,cond_false,ahw,ahy,ahC,ahL,ahI,ahH,ahA,ahE,ahG,ahF,ahx,ahB,ahJ,ahD,ahK,if_true,if_false,and_self,true_and,and_true,and_false,false_and,or_true,true_or,or_false,false_or,not_true_eq_false,not_false_eq_true,decide_true,decide_false,eq_self,if_pos,if_neg,O4,OH,Nc.b0,MR hq.2.1]
 have outer: ∀(n:Nat) (left:Int) (i:Nat),i+n=xs.length-> -9223372036854775808<=left->left<9223372036854775808-> ∃l:Int,Nc.l1 .lim (left,(i:Int),b,xs,())=some (l,b,xs,()):=by
  intro n
  induction n with
  |zero=>
   intro left i hi h1 h2;refine⟨left,?_⟩;rw[Nc.q1];simp (disch:=omega) only[Nh,MV,M_,wrap64,MK,MO,dec_not,dec_and,Ol,NM,cond_true,cond_false,ahw,ahy,ahC,ahL,ahI,ahH,ahA,ahE,ahG,ahF,ahx,ahB,ahJ,ahD,ahK,if_true,if_false,and_self,true_and,and_true,and_false,false_and,or_true,true_or,or_false,false_or,not_true_eq_false,not_false_eq_true,decide_true,decide_false,eq_self,if_pos,if_neg,O4,OH,Nc.b1,MR hx]
  |succ n ih=>
   intro left i hi h1 h2;by_cases hl:left>=0
   ·have hk:Yw (rd k0 xs i):=h.at (v:=(b,xs)) (by show i<xs.length;omega);rw[Nc.q1];simp only[Nc.b1,MR hx,MR hk.1,MR hk.2.1,MR hk.2.2.2.1,MR hk.2.2.2.2,MK hl,MK (show (i:Int)<(xs.length:Int) by omega),MV (show (0:Int)<=i by omega) (show (i:Int)<xs.length by omega)];simp only[cond_true,cond_false,ahw,ahy,ahC,ahL,ahI,ahH,ahA,ahE,ahG,ahF,ahx,ahB,ahJ,ahD,ahK];obtain⟨l,l1,l2,e⟩:=inner _ (ahz.wrap (ahz.wrap (ahz.wrap (ahz.wrap (ahz.wrap (left-10)-((rd k0 xs i).1.length:Int))-((rd k0 xs i).2.2.1.length:Int))-((rd k0 xs i).2.2.2.length:Int))-((rd k0 xs i).2.1.length:Int))) 0 (i:Int) (rd k0 xs i) hk (Nat.zero_add _) VG.1 VG.2;rw[show ((0:Nat):Int)=0 from rfl]at e;rw[e];obtain⟨l',e'⟩:=ih l (i+1) (by omega) l1 l2;refine⟨l',?_⟩;rw[<-e'];simp (disch:=omega) only[Nh,MV,M_,wrap64,MK,MO,dec_not,dec_and,Ol,NM,cond_true,cond_false,ahw,ahy,ahC,ahL,ahI,ahH,ahA,ahE,ahG,ahF,ahx,ahB,ahJ,ahD,ahK,if_true,if_false,and_self,true_and,and_true,and_false,false_and,or_true,true_or,or_false,false_or,not_true_eq_false,not_false_eq_true,decide_true,decide_false,eq_self,if_pos,if_neg,O4,OH,wk i (by omega)]
   ·refine⟨left,?_⟩;rw[Nc.q1];simp (disch:=omega) only[Nh,MV,M_,wrap64,MK,MO,dec_not,dec_and,Ol,NM,cond_true,cond_false,ahw,ahy,ahC,ahL,ahI,ahH,ahA,ahE,ahG,ahF,ahx,ahB,ahJ,ahD,ahK,if_true,if_false,and_self,true_and,and_true,and_false,false_and,or_true,true_or,or_false,false_or,not_true_eq_false,not_false_eq_true,decide_true,decide_false,eq_self,if_pos,if_neg,O4,OH,Nc.b1,MR hx]
 obtain⟨l,e⟩:=outer xs.length 400000 0 (by omega) (by omega) (by omega);rw[show ((0:Nat):Int)=0 from rfl]at e;refine⟨decide (l>=0)&&decide ((xs.length:Int)<=300),?_,fun q=> ?_⟩
 ·simp only[Nc.run,e,MR hx];simp only[cond_true,cond_false,ahw,ahy,ahC,ahL,ahI,ahH,ahA,ahE,ahG,ahF,ahx,ahB,ahJ,ahD,ahK,MR hx]
 ·rw[ahX,decide_eq_true_eq,decide_eq_true_eq]at q;show xs.length<=300;omega
theorem YI(v:VV)(h:okV v): ∃r,Nc.run .lim (v,())=some r:=by
 obtain⟨r,e,_⟩:=ZI v h;exact⟨r,e⟩
end Go.AM
end
section
namespace Go.AM
def hit(key:List Int)(ad:List (List Int))(t:List Int)(k:KK):Bool:=decide (k.2.2.2=t)&&decide (k.1=key)&&decide (k.2.1=ad)
theorem UN{n:Nat}(h:n<=140737488351232):n<9223372036854775808:=by omega
theorem afp{v:VV}(h:Ty.ok (.pair .bool (.lst (.pair .str (.pair (.lst .str) (.pair .str .str))))) v):okV v:=by
 obtain⟨_,h1,h2⟩:=h;refine⟨UN h1,fun k hk=> ?_⟩;obtain⟨a,⟨b1,b2⟩,c,d⟩:=h2 k hk;exact⟨UN a.1,UN b1,fun s hs=>UN (b2 s hs).1,UN c.1,UN d.1⟩
end Go.AM
end
section
namespace Go.AM
theorem PL{n:Nat}(h:n<9223372036854775808):n<NC:=h
def Qk(a b:List Int):List Int:=tab a.length fun i=>Hz .u8 (rd 0 a (i:Int)) (rd 0 b (i:Int))
@[simp] theorem OU(a b:List Int):(Qk a b).length=a.length:=PX
theorem abl(a b:List Int):Bs (Qk a b):=XE fun _ _=>VU _ _
theorem Wj{a b:List Int}{k:Nat}(h:k<a.length):rd 0 (Qk a b) (k:Int)=Hz .u8 (rd 0 a (k:Int)) (rd 0 b (k:Int)):=QW h
theorem aag{a b:List Int}(h:a.length=b.length):Qk a b=Qk b a:=by unfold Qk;rw[h];exact P6 fun k _=>xor_comm _ _
theorem Xg{a b c:List Int}(h:a.length=b.length):Qk (Qk a b) c=Qk a (Qk b c):=by
 show tab (Qk a b).length _=tab a.length _;rw[OU];refine P6 fun k hk=> ?_
 rw[Wj hk,Wj (show k<b.length by omega),xor_assoc]
theorem RU{a b:List Int}(h:a.length<=b.length)(hb:b.length<1000000000000):O9.run .lim (a,b,())=some (Qk a b):=by
 have e:=PO (f:=O9.l0 .lim) (fun k m=>(b,(a.length:Int),(k:Int),m,())) (fun k v=>Hz .u8 v (rd 0 b (k:Int))) a rfl (fun k hk m' hm hj=>by
  rw[O9.q0];simp only[O9.b0,MK (show (k:Int)<(a.length:Int) by omega),hm,MV (show (0:Int)<=k by omega) (show (k:Int)<(a.length:Int) by omega),MV (show (0:Int)<=k by omega) (show (k:Int)<(b.length:Int) by omega),cond_true,Qz k (by omega),hj k (aio _),ahT])
 simp only[O9.run,MR (show a.length<9223372036854775808 by omega),cond_true];rw[show (0:Int)=((0:Nat):Int)from rfl,e,O9.q0];simp only[O9.b0,MO (show ¬(a.length:Int)<(a.length:Int) by omega),cond_false,ahw];rfl
theorem QX{a b:List Int}(h:a.length<=b.length)(hb:b.length<1000000000000):Nr.run .lim (a,b,())=some (Qk a b):=by
 have e:=NU (f:=Nr.l0 .lim) (fun k=>(a,b,(k:Int),Q8 a.length k (fun i=>Hz .u8 (rd 0 a (i:Int)) (rd 0 b (i:Int))),())) (n:=a.length) (fun k hk=>by
  rw[Nr.q0];simp only[Nr.b0,MR (show a.length<9223372036854775808 by omega),Ur,MK (show (k:Int)<(a.length:Int) by omega),MV (show (0:Int)<=k by omega) (show (k:Int)<(a.length:Int) by omega),MV (show (0:Int)<=k by omega) (show (k:Int)<(b.length:Int) by omega),cond_true,Qz k (by omega),ahT];rw[RD rfl])
 have hb2:Nat.blt a.length 70368744177664=true:=by rw[ai0];omega
 rw[Rl,show ((0:Nat):Int)=0 from rfl]at e;simp only[Nr.run,MR (show a.length<9223372036854775808 by omega),cond_true,MK (show (0:Int)<=(a.length:Int) by omega),MK (ahU (a.length:Int)),ahT,hb2,ahD,e];rw[Nr.q0];simp only[Nr.b0,MR (show a.length<9223372036854775808 by omega),MO (show ¬(a.length:Int)<(a.length:Int) by omega),cond_true,cond_false,ahw,TL];rfl
theorem acK: ∀n:Nat,EW [0] n=ahO n 0
 |0=>rfl
 |n+1=>by rw[EW,acK n];rfl
theorem SS{n:Nat}(h:n<=1000000):PI.run .lim ((n:Int),())=some (ahO n 0):=by
 have:strings_Repeat.run .lim ([0],(n:Int),())=some (ahO n 0):=by
  show KW _=_;unfold KW;rw[cond_pos (by simp;omega),ahT,acK]
 simp only[PI.run,this,ahw]
theorem UA{n:Nat}(h:n<=1000000):Oa.run .lim ((n:Int),())=some (ahO n 0):=by
 have hb2:Nat.blt n 70368744177664=true:=by rw[ai0];omega
 simp only[Oa.run,MK (show (0:Int)<=(n:Int) by omega),MK (ahU (n:Int)),ahT,hb2,ahD,cond_true]
def X5(b:List Int)(i:Nat):Int:=if i=15 then I_ .u8 (rd 0 b 15) 1 else KL .u8 (I_ .u8 (rd 0 b (i:Int)) 1) (Ja .u8 (rd 0 b ((i+1:Nat):Int)) 7)
def Vl(b:List Int):List Int:=if rd 0 b 0>=128 then(tab 16 (X5 b)).set 15 (Hz .u8 (I_ .u8 (rd 0 b 15) 1) 135)else tab 16 (X5 b)
theorem acO(b:List Int)(i:Nat):B8 (X5 b i):=by unfold X5;split<;>first|exact Zn _ _|exact afq _ _
theorem QJ(b:List Int):VH (Vl b):=by
 unfold Vl;split
 ·refine⟨by simp,fun x hx=> ?_⟩;rcases List.mem_or_eq_of_mem_set hx with h|rfl
  ·exact XE (fun k _=>acO b k) x h
  ·exact VU _ _
 ·exact⟨PX,XE fun k _=>acO b k⟩
theorem or_zero{a:Int}(h:B8 a):KL .u8 a 0=a:=by
 show ahN.wrap (ah7 8 a ||| ah7 8 0).toNat=a;rw[show ah7 8 0=0#8 from rfl,BitVec.or_zero,aiq,QK];unfold B8 at h;omega
def twP(b:List Int)(k:Nat):List Int:=tab 16 fun i=>if k<=i then X5 b i else rd 0 b (i:Int)
theorem acv{b:List Int}{k:Nat}(hk:k<16):(twP b (k+1)).set k (X5 b k)=twP b k:=by
 unfold twP;rw[Wn];refine P6 fun i _=> ?_
 by_cases h1:i=k
 ·subst h1;rw[if_pos rfl,if_pos (aio _)]
 ·rw[if_neg h1];by_cases h2:k<=i
  ·rw[if_pos h2,if_pos (by omega)]
  ·rw[if_neg h2,if_neg (by omega)]
theorem adf{b:List Int}{k:Nat}(hk:k<16):rd 0 (twP b (k+1)) (k:Int)=rd 0 b (k:Int):=by unfold twP;rw[QW hk,if_neg (by omega)]
theorem ac7{x:Int}(h:B8 x):ahN.wrap (Ja .u8 x 7*135)=if x>=128 then 135 else 0:=
 P7 (p:=fun x=>ahN.wrap (Ja .u8 x 7*135)=if x>=128 then 135 else 0) (by decide+kernel) h
theorem aac{b:List Int}(hb:VH b):Qj.run .lim (b,())=some (Vl b,0,()):=by
 obtain⟨hl,hB⟩:=hb;have h0: ∀(b:List Int),tab 16 (fun i=>if 16<=i then X5 b i else rd 0 b (i:Int))=tab 16 fun i=>rd 0 b (i:Int):=fun b=>P6 fun i hi=>by rw[if_neg (by omega)]
 have e:=NU (f:=Qj.l0 .lim) (fun k=>((15:Int)-(k:Int),(if k=0 then 0 else Ja .u8 (rd 0 b ((16-k:Nat):Int)) 7:Int),twP b (16-k),())) (n:=16) (fun k hk=>by
  rw[Qj.q0];have ei:(15:Int)-(k:Int)=((15-k:Nat):Int):=by omega
  have w1:ahz.wrap (((15-k:Nat):Int)-1)=(15:Int)-((k+1:Nat):Int):=by rw[wrap64 (by omega) (by omega)];omega
  have hr:=adf (b:=b) (k:=15-k) (by omega);have hs:=acv (b:=b) (k:=15-k) (by omega);rw[show 15-k+1=16-k by omega]at hr hs;have hx:B8 (rd 0 b ((15-k:Nat):Int)):=hB _ (OB (by omega) (by omega));have hg:KL .u8 (I_ .u8 (rd 0 b ((15-k:Nat):Int)) 1) (if k=0 then 0 else Ja .u8 (rd 0 b ((16-k:Nat):Int)) 7)=X5 b (15-k):=by
   unfold X5;by_cases hk0:k=0
   ·subst hk0;rw[if_pos rfl,if_pos (by omega),or_zero (Zn _ _)];rfl
   ·rw[if_neg hk0,if_neg (by omega),show 15-k+1=16-k by omega]
  have hl2:(twP b (16-k)).length=16:=PX;rw[ei];simp only[Qj.b0,MK (show ((15-k:Nat):Int)>=0 by omega),hl2,MV (show (0:Int)<=((15-k:Nat):Int) by omega) (show ((15-k:Nat):Int)<((16:Nat):Int) by omega),cond_true,hr,w1,ahT,hg,hs];rw[if_neg (by omega),show 16-(k+1)=15-k by omega])
 have hst:twP b 16=b:=by unfold twP;rw[h0,<-Xa hl]
 have w0:ahz.wrap ((b.length:Int)-1)=15:=by rw[wrap64 (by omega) (by omega)];omega
 rw[aia,hst,if_pos rfl,show (15:Int)-((0:Nat):Int)=15 from rfl,if_neg (by omega),Nat.sub_self]at e;have e0:twP b 0=tab 16 (X5 b):=P6 fun i _=>by rw[if_pos (aiI _)]
 simp only[Qj.run,MR (show b.length<9223372036854775808 by omega),cond_true,MK (show (b.length:Int)=16 by omega),ahx,cond_false,w0,e,e0];rw[Qj.q0];have hx0:B8 (rd 0 b ((0:Nat):Int)):=hB _ (OB (by omega) (by omega));simp only[Qj.b0,MO (show ¬((15:Int)-((16:Nat):Int)>=0) by omega),cond_false,ahw,PX,MV (show (0:Int)<=15 by omega) (show (15:Int)<((16:Nat):Int) by omega),cond_true,ac7 hx0];have h15:rd 0 (tab 16 (X5 b)) 15=I_ .u8 (rd 0 b 15) 1:=by
  have:=QW (n:=16) (g:=X5 b) (k:=15) (by omega);rw[show ((15:Nat):Int)=15 from rfl]at this;rw[this];rfl
 rw[h15];unfold Vl;rw[show ((0:Nat):Int)=0 from rfl];by_cases hc:rd 0 b 0>=128
 ·rw[if_pos hc,if_pos hc]
 ·rw[if_neg hc,if_neg hc,xor_zero (Zn _ _),Wn];congr 2
theorem TT{b:List Int}(hb:VH b):Qx.run .lim (b,())=some (Vl b):=by simp only[Qx.run,aac hb,ahw]
theorem Uz{b:List Int}(hb:VH b):ND.run .lim (b,())=some (Vl b):=by
 obtain⟨hl,hB⟩:=hb;have e:=NU (f:=ND.l0 .lim) (fun k=>(b,(k:Int),Q8 16 k (X5 b),())) (n:=16) (fun k hk=>by
  rw[ND.q0];have hg1:k<15->KL .u8 (I_ .u8 (rd 0 b (k:Int)) 1) (Ja .u8 (rd 0 b ((k+1:Nat):Int)) 7)=X5 b k:=fun h=>by unfold X5;rw[if_neg (by omega)]
  simp only[ND.b0,MK (show (k:Int)<16 by omega),hl,Ur,ain,MV (show (0:Int)<=k by omega) (show (k:Int)<((16:Nat):Int) by omega),cond_true,Qz k (by omega),ahT];by_cases ad3:k<15
  ·rw[MK (show (k:Int)<15 by omega),MV (show (0:Int)<=((k+1:Nat):Int) by omega) (show ((k+1:Nat):Int)<((16:Nat):Int) by omega),TQ (by simpa using hk),hg1 ad3,List.set_set,RD rfl];rfl
  ·have:k=15:=by omega
   subst this;rw[MO (show ¬((15:Nat):Int)<15 by omega),RD (by unfold X5;rw[if_pos rfl];rfl)];rfl)
 rw[Rl,show ((0:Nat):Int)=0 from rfl]at e;simp only[ND.run,show Nat.blt 16 70368744177664=true from rfl,cond_true,e];rw[ND.q0];have h15:rd 0 (tab 16 (X5 b)) 15=I_ .u8 (rd 0 b 15) 1:=by
  have:=QW (n:=16) (g:=X5 b) (k:=15) (by omega);rw[show ((15:Nat):Int)=15 from rfl]at this;rw[this];rfl
 simp only[ND.b0,MO (show ¬((16:Nat):Int)<16 by omega),cond_false,ahw,hl,MV (show (0:Int)<=0 by omega) (show (0:Int)<((16:Nat):Int) by omega),cond_true,TL,PX,MV (show (0:Int)<=15 by omega) (show (15:Int)<((16:Nat):Int) by omega),h15];unfold Vl;by_cases hc:rd 0 b 0>=128
 ·rw[MK hc,if_pos hc];rfl
 ·rw[MO hc,if_neg hc];rfl
def Uj(s:List Int):List Int:=s++(128::ahO (15-s.length) 0)
theorem QV{s:List Int}(h:s.length<16):(Uj s).length=16:=by simp[Uj];omega
noncomputable def V7(key s:List Int):Nat->List Int
 |0=>Wu
 |k+1=>encS key (Qk (V7 key s k) ((s.drop (16*k)).take 16))
theorem XI(key s:List Int): ∀k,VH (V7 key s k)
 |0=>⟨rfl,fun x hx=>by rw[(ah8.1 hx).2];exact⟨by decide,by decide⟩⟩
 |_+1=>RJ _ _
noncomputable def UE(key:List Int):List Int:=Vl (encS key Wu)
noncomputable def RH(key s:List Int):List Int:=if s.length=16 then Qk s (UE key)else Qk (Uj s) (Vl (UE key))
noncomputable def Yv(key s:List Int):List Int:=encS key (Qk (V7 key s ((s.length-1)/16)) (RH key (s.drop (16*((s.length-1)/16)))))
theorem UL(key s:List Int):VH (Yv key s):=RJ _ _
theorem Uw{key b:List Int}(hk:key.length=16\/key.length=32)(hb:b.length=16):encR key b=(encS key b,0):=by unfold encR;rw[if_pos hk,if_pos hb]
theorem ZH{key s:List Int}(h:s.length<=16):(RH key s).length=16:=by
 unfold RH;split
 ·simpa
 ·rw[OU,QV (by omega)]
section
variable {key s:List Int}
theorem Vg(hk:key.length=16\/key.length=32)(hkb:Bs key)(hs:s.length<NC):Oj.run .lim ((key,UE key,Vl (UE key)),s,())=some (Yv key s):=by
 have z:=SS (n:=16) (by omega);have hloop:=NU (f:=Oj.l0 .lim) (fun k=>(s.drop (16*k),key,UE key,Vl (UE key),V7 key s k,key,UE key,Vl (UE key),())) (n:=(s.length-1)/16) (fun k hk'=>by
  rw[Oj.q0];have hl:(s.drop (16*k)).length=s.length-16*k:=ahP;have hc:=XI key s k;have h1:cut (s.drop (16*k)) 0 16=(s.drop (16*k)).take 16:=by have:=QM (s.drop (16*k)) 0 16;simpa using this
  have h2:cut (s.drop (16*k)) 16 ((s.drop (16*k)).length:Int)=s.drop (16*(k+1)):=by
   have:=QM (s.drop (16*k)) 16 (s.drop (16*k)).length;rw[show ((16:Nat):Int)=16 from rfl]at this;rw[this,aif,ahS (by rw[ahP];omega)];congr 1
  have hx:=RU (a:=V7 key s k) (b:=(s.drop (16*k)).take 16) (by rw[hc.1,ahQ];omega) (by rw[ahQ];omega);have he:=Ud (key:=key) (b:=Qk (V7 key s k) ((s.drop (16*k)).take 16)) (PL (by omega)) (by rw[OU,hc.1];decide) hkb;rw[Uw hk (by rw[OU,hc.1])]at he;have hlim:s.length<9223372036854775808:=hs;simp only[Oj.b0,MR (show (s.drop (16*k)).length<9223372036854775808 by omega),MK (show ((s.drop (16*k)).length:Int)>16 by omega),M_ (show (0:Int)<=0 by omega) (show (0:Int)<=16 by omega) (show (16:Int)<=((s.drop (16*k)).length:Int) by omega),M_ (show (0:Int)<=16 by omega) (show (16:Int)<=((s.drop (16*k)).length:Int) by omega) (ahU _),cond_true,h1,h2,hx,he,ahw];rfl)
 simp only[Oj.run];rw[show (16:Int)=((16:Nat):Int)from rfl,z];simp only[ahw];rw[ai5,ah0,show V7 key s 0=Wu from rfl]at hloop;rw[hloop];generalize hq:(s.length-1)/16=q;have hl:(s.drop (16*q)).length=s.length-16*q:=ahP;have hlim:s.length<9223372036854775808:=hs;rw[Oj.q0];have hc:=XI key s q;have h16:(s.drop (16*q)).length<=16:=by omega
 simp only[Oj.b0,MR (show (s.drop (16*q)).length<9223372036854775808 by omega),MO (show ¬((s.drop (16*q)).length:Int)>16 by omega),cond_true,cond_false,ahw];have he:=Ud (key:=key) (b:=Qk (V7 key s q) (RH key (s.drop (16*q)))) (PL (by omega)) (by rw[OU,hc.1];decide) hkb;rw[Uw hk (by rw[OU,hc.1])]at he;have hll:=ZH (key:=key) h16;have hx2:=RU (a:=V7 key s q) (b:=RH key (s.drop (16*q))) (by rw[hc.1,hll];omega) (by omega);have hcm:Yv key s=encS key (Qk (V7 key s q) (RH key (s.drop (16*q)))):=by unfold Yv;rw[hq]
 rw[hcm];generalize hm:s.drop (16*q)=m at*;by_cases h3:m.length=16
 ·rw[MK (show (m.length:Int)=((16:Nat):Int) by omega)];have hx1:=RU (a:=m) (b:=UE key) (by rw[h3,show (UE key).length=16 from(QJ _).1];omega) (by rw[show (UE key).length=16 from(QJ _).1];omega);have hls:RH key m=Qk m (UE key):=by unfold RH;rw[if_pos h3]
  rw[hls]at hx2 he ⊢
  simp only[cond_true,hx1,ahw,hx2,he]
 ·rw[MO (show ¬(m.length:Int)=((16:Nat):Int) by omega)];have hls:RH key m=Qk (Uj m) (Vl (UE key)):=by unfold RH;rw[if_neg h3]
  have w15:ahz.wrap (15-(m.length:Int))=((15-m.length:Nat):Int):=by rw[wrap64 (by omega) (by omega)];omega
  have hz:=SS (n:=15-m.length) (by omega);have ac8:(m++[128])++ahO (15-m.length) (0:Int)=Uj m:=by unfold Uj;simp
  have hx1:=RU (a:=Uj m) (b:=Vl (UE key)) (by rw[QV (by omega),(QJ _).1];omega) (by rw[(QJ _).1];omega);rw[hls]at hx2 he ⊢
  simp only[cond_false];rw[cond_pos (MK (by unfold maxStr;simp;omega)),w15,hz];simp only[ahw];rw[cond_pos (MK (by unfold maxStr;simp;omega)),ac8,hx1];simp only[ahw,hx2,he]
theorem XA{m:List Int}(h:m.length<16):OJ.run .lim (m,())=some (Uj m):=by
 have hz:=UA (n:=16) (by omega);simp only[OJ.run];rw[cond_pos (MK (by unfold maxStr;simp;omega)),show (16:Int)=((16:Nat):Int)from rfl,hz];simp only[ahw];rw[cond_pos (MK (by unfold maxStr;simp;omega)),cond_pos (M_ (by omega) (by omega) (by simp;omega))];congr 1;have:=QM ((m++[128])++ahO 16 (0:Int)) 0 16;rw[show ((0:Nat):Int)=0 from rfl]at this;rw[this,ah0,aia,ah5,List.take_append,ahS (by omega)];unfold Uj;congr 1;obtain⟨p,hp⟩: ∃p,16-m.length=p+1:=⟨15-m.length,by omega⟩;rw[hp,show 15-m.length=p by omega,List.singleton_append,List.take_succ_cons,List.take_replicate];congr 2;omega
theorem Uk(hk:key.length=16\/key.length=32)(hkb:Bs key)(hs:s.length<NC):NG.run .lim (key,s,())=some (Yv key s):=by
 have z:=UA (n:=16) (by omega);have aaH:(ahO 16 (0:Int)).length=16:=rfl;have e0:=TR (key:=key) (b:=Wu) (PL (by omega)) (by rw[aaH];decide) hkb;rw[Uw hk aaH]at e0;have hloop:=NU (f:=NG.l0 .lim) (fun k=>(key,s.drop (16*k),UE key,V7 key s k,())) (n:=(s.length-1)/16) (fun k hk'=>by
  rw[NG.q0];have hl:(s.drop (16*k)).length=s.length-16*k:=ahP;have hc:=XI key s k;have h1:cut (s.drop (16*k)) 0 16=(s.drop (16*k)).take 16:=by have:=QM (s.drop (16*k)) 0 16;simpa using this
  have h2:cut (s.drop (16*k)) 16 ((s.drop (16*k)).length:Int)=s.drop (16*(k+1)):=by
   have:=QM (s.drop (16*k)) 16 (s.drop (16*k)).length;rw[show ((16:Nat):Int)=16 from rfl]at this;rw[this,aif,ahS (by rw[ahP];omega)];congr 1
  have hx:=QX (a:=V7 key s k) (b:=(s.drop (16*k)).take 16) (by rw[hc.1,ahQ];omega) (by rw[ahQ];omega);have he:=TR (key:=key) (b:=Qk (V7 key s k) ((s.drop (16*k)).take 16)) (PL (by omega)) (by rw[OU,hc.1];decide) hkb;rw[Uw hk (by rw[OU,hc.1])]at he;have hlim:s.length<9223372036854775808:=hs;simp only[NG.b0,MR (show (s.drop (16*k)).length<9223372036854775808 by omega),MK (show ((s.drop (16*k)).length:Int)>16 by omega),M_ (show (0:Int)<=0 by omega) (show (0:Int)<=16 by omega) (show (16:Int)<=((s.drop (16*k)).length:Int) by omega),M_ (show (0:Int)<=16 by omega) (show (16:Int)<=((s.drop (16*k)).length:Int) by omega) (ahU _),cond_true,h1,h2,hx,he,ahw];rfl)
 simp only[NG.run];rw[show (16:Int)=((16:Nat):Int)from rfl,z];simp only[ahw,e0,Uz (RJ _ _)];rw[ai5,ah0,show V7 key s 0=Wu from rfl]at hloop;rw[show Vl (encS key Wu)=UE key from rfl,hloop];generalize hq:(s.length-1)/16=q;have hl:(s.drop (16*q)).length=s.length-16*q:=ahP;have hlim:s.length<9223372036854775808:=hs;rw[NG.q0];have hc:=XI key s q;have h16:(s.drop (16*q)).length<=16:=by omega
 have he:=TR (key:=key) (b:=Qk (V7 key s q) (RH key (s.drop (16*q)))) (PL (by omega)) (by rw[OU,hc.1];decide) hkb;rw[Uw hk (by rw[OU,hc.1])]at he;have hcm:Yv key s=encS key (Qk (V7 key s q) (RH key (s.drop (16*q)))):=by unfold Yv;rw[hq]
 rw[hcm];simp only[NG.b0,MR (show (s.drop (16*q)).length<9223372036854775808 by omega),MO (show ¬((s.drop (16*q)).length:Int)>16 by omega),cond_true,cond_false,ahw];generalize hm:s.drop (16*q)=m at*;have hk1:(UE key).length=16:=(QJ _).1;by_cases h3:m.length=16
 ·rw[MO (show ¬(m.length:Int)<((16:Nat):Int) by omega)];have hx1:=QX (a:=V7 key s q) (b:=m) (by rw[h3,hc.1];omega) (by omega);have hx2:=QX (a:=Qk (V7 key s q) m) (b:=UE key) (by rw[OU,hc.1,hk1];omega) (by omega);have hls:Qk (Qk (V7 key s q) m) (UE key)=Qk (V7 key s q) (RH key m):=by unfold RH;rw[if_pos h3,Xg (by rw[hc.1,h3])]
  simp only[cond_false,hx1,ahw,hx2,hls,he]
 ·rw[MK (show (m.length:Int)<((16:Nat):Int) by omega)];have hp:=QV (s:=m) (by omega);have ht:(Vl (UE key)).length=16:=(QJ _).1;have hx1:=QX (a:=V7 key s q) (b:=Uj m) (by rw[hp,hc.1];omega) (by omega);have hx2:=QX (a:=Qk (V7 key s q) (Uj m)) (b:=Vl (UE key)) (by rw[OU,hc.1,ht];omega) (by omega);have hls:Qk (Qk (V7 key s q) (Uj m)) (Vl (UE key))=Qk (V7 key s q) (RH key m):=by unfold RH;rw[if_neg h3,Xg (by rw[hc.1,hp])]
  simp only[cond_true,XA (show m.length<16 by omega),Uz (show VH (UE key)from QJ _),hx1,ahw,hx2,hls,he]
end
end Go.AM
end
section
namespace Go.AM
noncomputable def Yx(key:List Int)(l:List (List Int)):Nat->List Int
 |0=>Yv key Wu
 |k+1=>Qk (Vl (Yx key l k)) (Yv key (rd [] l (k:Int)))
noncomputable def s2E(key d s:List Int):List Int:=
 if s.length<16 then Yv key (Qk (Uj s) (Vl d))else Yv key (s.take (s.length-16)++Qk (s.drop (s.length-16)) d)
noncomputable def Zk(key:List Int)(l:List (List Int)):List Int:=
 if l.length=0 then Yv key (ahO 15 0++[1])else s2E key (Yx key l (l.length-1)) (rd [] l ((l.length-1:Nat):Int))
theorem XY(key:List Int)(l:List (List Int)): ∀k,VH (Yx key l k)
 |0=>UL _ _
 |k+1=>⟨by rw[Yx,OU,(QJ _).1],abl _ _⟩
theorem WX(key:List Int)(l:List (List Int)):VH (Zk key l):=by
 unfold Zk s2E;split
 ·exact UL _ _
 ·split<;>exact UL _ _
theorem ada(key:List Int):VH (UE key):=QJ _
theorem Z4{key:List Int}(hk:key.length=16\/key.length=32)(hkb:Bs key):TK.run .lim (key,())=some ((key,(UE key,Vl (UE key))),0,()):=by
 have z:=SS (n:=16) (by omega);have aaH:(ahO 16 (0:Int)).length=16:=rfl;have he:=Ud (key:=key) (b:=Wu) (PL (by omega)) (by rw[aaH];decide) hkb;rw[Uw hk aaH]at he;simp only[TK.run];rw[show (16:Int)=((16:Nat):Int)from rfl,z];simp only[ahw,he,decide_true,ahx,cond_false,TT (RJ key Wu)];rw[show Vl (encS key Wu)=UE key from rfl,TT (ada key)];rfl
section
variable {key:List Int}
theorem Zp{l:List (List Int)}(hk:key.length=16\/key.length=32)(hkb:Bs key)(hl:l.length<NC)(hs: ∀s∈l,s.length<NC):
  Oy.run .lim ((key,(UE key,Vl (UE key))),l,())=some (Zk key l):=by
 have hlim:l.length<9223372036854775808:=hl;simp only[Oy.run,MR hlim,cond_true];unfold Zk;by_cases h0:l.length=0
 ·rw[MK (show (l.length:Int)=0 by omega),if_pos h0];have z:=SS (n:=15) (by omega);simp only[cond_true];rw[show (15:Int)=((15:Nat):Int)from rfl,z];simp only[ahw];rw[cond_pos (by decide),Vg hk hkb (by decide)];rfl
 ·rw[MO (show ¬(l.length:Int)=0 by omega),if_neg h0];have z:=SS (n:=16) (by omega);have w1:ahz.wrap ((l.length:Int)-1)=((l.length-1:Nat):Int):=by rw[wrap64 (by omega) (by omega)];omega
  have hc:cut l 0 ((l.length-1:Nat):Int)=l.take (l.length-1):=by
   have:=QM l 0 (l.length-1);rw[show ((0:Nat):Int)=0 from rfl]at this;rw[this,ah0,aia]
  have htl:(l.take (l.length-1)).length=l.length-1:=by rw[ahQ];omega
  generalize hs1:rd ([]:List Int) l ((l.length-1:Nat):Int)=s;have hsl:s.length<9223372036854775808:=by rw[<-hs1];exact hs _ (OB (by omega) (by omega))
  have hloop:=NU (f:=Oy.l0 .lim) (fun k=>(Yx key l k,s,l.take (l.length-1),((l.length-1:Nat):Int),(k:Int),key,UE key,Vl (UE key),())) (n:=l.length-1) (fun k hk'=>by
   rw[Oy.q0];have hok:=XY key l k;have ht:=Vg (key:=key) (s:=rd [] l (k:Int)) hk hkb (hs _ (OB (by omega) (by omega)));have hx:=RU (a:=Vl (Yx key l k)) (b:=Yv key (rd [] l (k:Int))) (by rw[(QJ _).1,(UL _ _).1];omega) (by rw[(UL _ _).1];omega);simp only[Oy.b0,MK (show (k:Int)<((l.length-1:Nat):Int) by omega),htl,MV (show (0:Int)<=k by omega) (show (k:Int)<((l.length-1:Nat):Int) by omega),RP (d:=([]:List Int)) (xs:=l) hk',cond_true,TT hok,ahw,ht,hx,wk k (by omega)];rfl)
  rw[show Yx key l 0=Yv key Wu from rfl,show ((0:Nat):Int)=0 from rfl]at hloop;simp only[cond_false];rw[show (16:Int)=((16:Nat):Int)from rfl,z];simp only[ahw,Vg hk hkb (show (ahO 16 (0:Int)).length<NC by decide),w1,MV (show (0:Int)<=((l.length-1:Nat):Int) by omega) (show ((l.length-1:Nat):Int)<(l.length:Int) by omega),M_ (ahU 0) (show (0:Int)<=((l.length-1:Nat):Int) by omega) (show ((l.length-1:Nat):Int)<=(l.length:Int) by omega),cond_true,hc,htl,MR (show l.length-1<9223372036854775808 by omega),hs1];rw[hloop,Oy.q0];simp only[Oy.b0,MO (show ¬((l.length-1:Nat):Int)<((l.length-1:Nat):Int) by omega),cond_false,ahw,MR hsl,cond_true];have w2:ahz.wrap ((s.length:Int)-((16:Nat):Int))=(s.length:Int)-16:=by rw[wrap64 (by omega) (by omega)];omega
  rw[w2];have hd:=XY key l (l.length-1);unfold s2E;by_cases h3:s.length<16
  ·rw[MO (show ¬((s.length:Int)-16>=0) by omega),if_pos h3];have w15:ahz.wrap (15-(s.length:Int))=((15-s.length:Nat):Int):=by rw[wrap64 (by omega) (by omega)];omega
   have hz:=SS (n:=15-s.length) (by omega);have ac8:(s++[128])++ahO (15-s.length) (0:Int)=Uj s:=by unfold Uj;simp
   have hx:=RU (a:=Uj s) (b:=Vl (Yx key l (l.length-1))) (by rw[QV h3,(QJ _).1];omega) (by rw[(QJ _).1];omega);simp only[cond_false];rw[cond_pos (MK (by unfold maxStr;simp;omega)),w15,hz];simp only[ahw];rw[cond_pos (MK (by unfold maxStr;simp;omega)),ac8];simp only[TT hd,ahw,hx];rw[Vg hk hkb (by rw[OU,QV h3];decide)];rfl
  ·rw[MK (show (s.length:Int)-16>=0 by omega),if_neg h3];have e16:(s.length:Int)-16=((s.length-16:Nat):Int):=by omega
   have hc1:cut s ((s.length-16:Nat):Int) (s.length:Int)=s.drop (s.length-16):=by rw[QM,ahS (by rw[ahP];omega)]
   have hc2:cut s 0 ((s.length-16:Nat):Int)=s.take (s.length-16):=by
    have:=QM s 0 (s.length-16);rw[show ((0:Nat):Int)=0 from rfl]at this;rw[this,ah0,aia]
   have hx:=RU (a:=s.drop (s.length-16)) (b:=Yx key l (l.length-1)) (by rw[ahP,hd.1];omega) (by rw[hd.1];omega);have ac9:(s.take (s.length-16)++Qk (s.drop (s.length-16)) (Yx key l (l.length-1))).length=s.length:=by rw[ahM,OU,ahQ,ahP];omega
   simp only[e16,cond_true,M_ (ahU 0) (show (0:Int)<=((s.length-16:Nat):Int) by omega) (show ((s.length-16:Nat):Int)<=(s.length:Int) by omega),M_ (show (0:Int)<=((s.length-16:Nat):Int) by omega) (show ((s.length-16:Nat):Int)<=(s.length:Int) by omega) (ahU _),hc1,hc2,hx,ahw];rw[cond_pos (MK (by rw[OU,ahQ,ahP];unfold maxStr;omega)),Vg hk hkb (by rw[ac9];exact hsl)];rfl
theorem ach{l:List (List Int)}(hk:key.length=16\/key.length=32)(hkb:Bs key)(hl:l.length<=127)(hs: ∀s∈l,s.length<NC):
  Oh.run .lim (key,l,())=some (Zk key l,0,()):=by
 have hsz:PU.run .lim (key,())=some true:=by
  have WG:key.length<9223372036854775808:=by omega
  simp only[PU.run,MR WG,cond_true,ahC];rcases hk with h|h
  ·rw[MK (show (key.length:Int)=16 by omega)];rfl
  ·rw[MK (show (key.length:Int)=32 by omega),ahC]
 simp only[Oh.run,hsz,ahw,ahx,cond_false,MR (show l.length<9223372036854775808 by omega),cond_true,MO (show ¬(l.length:Int)>127 by omega)];unfold Zk;by_cases h0:l.length=0
 ·rw[MK (show (l.length:Int)=0 by omega),if_pos h0];have z:=UA (n:=15) (by omega);simp only[cond_true];rw[show (15:Int)=((15:Nat):Int)from rfl,z];simp only[ahw];rw[cond_pos (by decide),Uk hk hkb (by decide)];rfl
 ·rw[MO (show ¬(l.length:Int)=0 by omega),if_neg h0];have z:=UA (n:=16) (by omega);have w1:ahz.wrap ((l.length:Int)-1)=((l.length-1:Nat):Int):=by rw[wrap64 (by omega) (by omega)];omega
  have hloop:=NU (f:=Oh.l0 .lim) (fun k=>(key,l,Yx key l k,(k:Int),())) (n:=l.length-1) (fun k hk'=>by
   rw[Oh.q0];have hok:=XY key l k;have ht:=Uk (key:=key) (s:=rd [] l (k:Int)) hk hkb (hs _ (OB (by omega) (by omega)));have hx:=QX (a:=Vl (Yx key l k)) (b:=Yv key (rd [] l (k:Int))) (by rw[(QJ _).1,(UL _ _).1];omega) (by rw[(UL _ _).1];omega);simp only[Oh.b0,MR (show l.length<9223372036854775808 by omega),w1,MK (show (k:Int)<((l.length-1:Nat):Int) by omega),MV (show (0:Int)<=k by omega) (show (k:Int)<(l.length:Int) by omega),cond_true,Uz hok,ahw,ht,hx,wk k (by omega)];rfl)
  rw[show Yx key l 0=Yv key Wu from rfl,show ((0:Nat):Int)=0 from rfl]at hloop;simp only[cond_false];rw[show (16:Int)=((16:Nat):Int)from rfl,z];simp only[ahw,Uk hk hkb (show (ahO 16 (0:Int)).length<NC by decide)];rw[hloop,Oh.q0];generalize hs1:rd ([]:List Int) l ((l.length-1:Nat):Int)=s;have hsl:s.length<9223372036854775808:=by rw[<-hs1];exact hs _ (OB (by omega) (by omega))
  simp only[Oh.b0,MR (show l.length<9223372036854775808 by omega),w1,MO (show ¬((l.length-1:Nat):Int)<((l.length-1:Nat):Int) by omega),cond_false,ahw,cond_true,MV (show (0:Int)<=((l.length-1:Nat):Int) by omega) (show ((l.length-1:Nat):Int)<(l.length:Int) by omega),hs1,MR hsl];have w2:ahz.wrap ((s.length:Int)-((16:Nat):Int))=(s.length:Int)-16:=by rw[wrap64 (by omega) (by omega)];omega
  rw[w2];have hd:=XY key l (l.length-1);unfold s2E;by_cases h3:s.length<16
  ·rw[MK (show (s.length:Int)<((16:Nat):Int) by omega),if_pos h3];have hx:=QX (a:=Vl (Yx key l (l.length-1))) (b:=Uj s) (by rw[QV h3,(QJ _).1];omega) (by rw[QV h3];omega);rw[aag (by rw[QV h3,(QJ _).1])]at hx;simp only[cond_true,Uz hd,XA h3,ahw,hx];rw[Uk hk hkb (by rw[OU,QV h3];decide)];rfl
  ·rw[MO (show ¬(s.length:Int)<((16:Nat):Int) by omega),if_neg h3];have e16:(s.length:Int)-16=((s.length-16:Nat):Int):=by omega
   have hc1:cut s ((s.length-16:Nat):Int) (s.length:Int)=s.drop (s.length-16):=by rw[QM,ahS (by rw[ahP];omega)]
   have hc2:cut s 0 ((s.length-16:Nat):Int)=s.take (s.length-16):=by
    have:=QM s 0 (s.length-16);rw[show ((0:Nat):Int)=0 from rfl]at this;rw[this,ah0,aia]
   have hx:=QX (a:=s.drop (s.length-16)) (b:=Yx key l (l.length-1)) (by rw[ahP,hd.1];omega) (by rw[hd.1];omega);have ac9:(s.take (s.length-16)++Qk (s.drop (s.length-16)) (Yx key l (l.length-1))).length=s.length:=by rw[ahM,OU,ahQ,ahP];omega
   simp only[e16,cond_false,M_ (ahU 0) (show (0:Int)<=((s.length-16:Nat):Int) by omega) (show ((s.length-16:Nat):Int)<=(s.length:Int) by omega),M_ (show (0:Int)<=((s.length-16:Nat):Int) by omega) (show ((s.length-16:Nat):Int)<=(s.length:Int) by omega) (ahU _),cond_true,hc1,hc2,hx,ahw];rw[cond_pos (MK (by rw[OU,ahQ,ahP];unfold maxStr;omega)),Uk hk hkb (by rw[ac9];exact hsl)];rfl
def U8(v:List Int):List Int:=(v.set 8 (I9 .u8 (rd 0 v 8) 127)).set 12 (I9 .u8 (rd 0 (v.set 8 (I9 .u8 (rd 0 v 8) 127)) 12) 127)
theorem Uy(v:List Int):(U8 v).length=v.length:=by simp[U8]
noncomputable def VT(key v s:List Int):List Int:=Qk s (YU key (U8 v) s.length)
theorem RZ(key v s:List Int):(VT key v s).length=s.length:=OU _ _
theorem Zr(key v s:List Int):Bs (VT key v s):=abl _ _
theorem Zq{key v:List Int}{n:Nat}(hk:key.length=16\/key.length=32)(hv:v.length=16)(hn:n<=65536):Z_ key v (n:Int)=YU key v n:=by
 unfold Z_ Z9;rw[if_neg (show ¬((n:Int)<0\/(n:Int)>65536) by omega),if_pos hk,if_pos hv,if_pos rfl,ahT]
theorem W9{v s:List Int}(hk:key.length=16\/key.length=32)(hkb:Bs key)(hv:v.length=16)(hs:s.length<=65536):QI.run .lim (key,v,s,())=some (VT key v s):=by
 have ha:=YD (key:=key) (at_:=U8 v) (n:=(s.length:Int)) (PL (by omega)) (by rw[Uy,hv];decide) hkb;rw[Zq hk (by rw[Uy,hv]) hs]at ha;have hx:=RU (a:=s) (b:=YU key (U8 v) s.length) (by rw[Vh];omega) (by rw[Vh];omega);unfold U8 at ha hx;simp only[QI.run,ain,hv,MV (show (0:Int)<=8 by omega) (show (8:Int)<((16:Nat):Int) by omega),MV (show (0:Int)<=12 by omega) (show (12:Int)<((16:Nat):Int) by omega),MR (show s.length<9223372036854775808 by omega),cond_true,ha,ahw,hx];rfl
theorem Ve{v s:List Int}(hk:key.length=16\/key.length=32)(hkb:Bs key)(hv:v.length=16)(hs:s.length<=65536):Ou.run .lim (key,v,s,())=some (VT key v s):=by
 have ha:=YR (key:=key) (at_:=U8 v) (n:=(s.length:Int)) (PL (by omega)) (by rw[Uy,hv];decide) hkb;rw[Zq hk (by rw[Uy,hv]) hs]at ha;have hx:=QX (a:=s) (b:=YU key (U8 v) s.length) (by rw[Vh];omega) (by rw[Vh];omega);unfold U8 at ha hx;simp only[Ou.run,ain,hv,MV (show (0:Int)<=8 by omega) (show (8:Int)<((16:Nat):Int) by omega),MV (show (0:Int)<=12 by omega) (show (12:Int)<((16:Nat):Int) by omega),MR (show s.length<9223372036854775808 by omega),cond_true,ha,ahw,hx];rfl
abbrev QS(key:List Int):List Int:=key.take (key.length/2)
abbrev Ug(key:List Int):List Int:=key.drop (key.length/2)
def SN(key:List Int)(ad:List (List Int)):Int:=if key.length=32\/key.length=64 then(if ad.length>=127 then 18 else 0)else 13
noncomputable def WY(key:List Int)(ad:List (List Int))(plain:List Int):List Int:=
 Zk (QS key) (ad++[plain])++VT (Ug key) (Zk (QS key) (ad++[plain])) plain
noncomputable def Tn(key:List Int)(ad:List (List Int))(plain:List Int):List Int×Int:=
 if SN key ad=0 then(if plain.length>65536 then([],12)else(WY key ad plain,0))else([],SN key ad)
noncomputable def Q9(key sealed:List Int):List Int:=VT (Ug key) (sealed.take 16) (sealed.drop 16)
noncomputable def VN(key:List Int)(ad:List (List Int))(sealed:List Int):List Int×Int:=
 if SN key ad=0 then(if sealed.length<16 then([],11)else if sealed.length>65552 then([],12)else
  if Zk (QS key) (ad++[Q9 key sealed])=sealed.take 16 then(Q9 key sealed,0)else([],17))else([],SN key ad)
theorem Uu{s:List Int}(h:Bs s)(n:Nat):Bs (s.take n):=fun x hx=>h x (aiD hx)
theorem V6{s:List Int}(h:Bs s)(n:Nat):Bs (s.drop n):=fun x hx=>h x (List.mem_of_mem_drop hx)
theorem SE{key:List Int}(h:key.length=32\/key.length=64):((QS key).length=16\/(QS key).length=32)/\((Ug key).length=16\/(Ug key).length=32):=by
 unfold QS Ug;rw[ahQ,ahP];omega
theorem WZ{ad:List (List Int)}(hk:key.length<NC)(hkb:Bs key)(ha:ad.length<NC):
  ∃r r1,QH.run .lim (key,ad,())=some (r,r1,SN key ad,())/\(SN key ad=0->r=(QS key,(UE (QS key),Vl (UE (QS key))))/\r1=Ug key):=by
 have WG:key.length<9223372036854775808:=hk;have XM:ad.length<9223372036854775808:=ha;have hd:(key.length:Int).tdiv 2=((key.length/2:Nat):Int):=by rw[ahY (air _)];simp
 have w1:ahz.wrap ((key.length:Int).tdiv 2)=((key.length/2:Nat):Int):=by rw[hd,wrap64 (by omega) (by omega)]
 unfold SN;simp only[QH.run,MR WG,MR XM,cond_true,ahC,w1];by_cases h1:key.length=32\/key.length=64
 ·have:(!decide ((key.length:Int)=32)&& !decide ((key.length:Int)=64))=false:=by
   rcases h1 with h|h
   ·rw[MK (show (key.length:Int)=32 by omega)];rfl
   ·rw[MK (show (key.length:Int)=64 by omega),ahx,ahA]
  rw[this,if_pos h1];simp only[cond_false];by_cases h2:ad.length>=127
  ·rw[MK (show (ad.length:Int)>=127 by omega),if_pos h2];exact⟨_,_,rfl,fun h=>absurd h (by decide)⟩
  ·rw[MO (show ¬(ad.length:Int)>=127 by omega),if_neg h2];have hc1:cut key 0 ((key.length/2:Nat):Int)=QS key:=by
    have:=QM key 0 (key.length/2);rw[show ((0:Nat):Int)=0 from rfl]at this;rw[this,ah0,aia]
   have hc2:cut key ((key.length/2:Nat):Int) (key.length:Int)=Ug key:=by rw[QM,ahS (by rw[ahP];omega)]
   simp only[cond_false,M_ (ahU 0) (show (0:Int)<=((key.length/2:Nat):Int) by omega) (show ((key.length/2:Nat):Int)<=(key.length:Int) by omega),M_ (show (0:Int)<=((key.length/2:Nat):Int) by omega) (show ((key.length/2:Nat):Int)<=(key.length:Int) by omega) (ahU _),cond_true,hc1,hc2,Z4 (SE h1).1 (Uu hkb _),ahw];exact⟨_,_,rfl,fun _=>⟨rfl,rfl⟩⟩
 ·rw[MO (show ¬(key.length:Int)=32 by omega),MO (show ¬(key.length:Int)=64 by omega),if_neg h1];exact⟨_,_,rfl,fun h=>absurd h (by decide)⟩
theorem VQ{ad:List (List Int)}(hk:key.length<NC)(ha:ad.length<NC):Oz.run .lim (key,ad,())=some (SN key ad):=by
 have WG:key.length<9223372036854775808:=hk;have XM:ad.length<9223372036854775808:=ha;unfold SN;simp only[Oz.run,MR WG,MR XM,cond_true,ahC];by_cases h1:key.length=32\/key.length=64
 ·have:(!decide ((key.length:Int)=32)&& !decide ((key.length:Int)=64))=false:=by
   rcases h1 with h|h
   ·rw[MK (show (key.length:Int)=32 by omega)];rfl
   ·rw[MK (show (key.length:Int)=64 by omega),ahx,ahA]
  rw[this,if_pos h1];by_cases h2:ad.length>=127
  ·rw[MK (show (ad.length:Int)>=127 by omega),if_pos h2];rfl
  ·rw[MO (show ¬(ad.length:Int)>=127 by omega),if_neg h2];rfl
 ·rw[MO (show ¬(key.length:Int)=32 by omega),MO (show ¬(key.length:Int)=64 by omega),if_neg h1];rfl
theorem RY{ad:List (List Int)}(h:SN key ad=0):(key.length=32\/key.length=64)/\ad.length<127:=by
 unfold SN at h;split at h
 ·split at h
  ·exact absurd h (by decide)
  ·exact⟨by assumption,by omega⟩
 ·exact absurd h (by decide)
theorem TD{ad:List (List Int)}(h:ad.length<4398046511104):MW.run .lim (ad,())=some ad:=by
 simp only[MW.run];rw[cond_pos (MK (by simpa using h)),aiB]
theorem abg{ad:List (List Int)}{plain:List Int}(hk:key.length<NC)(hkb:Bs key)(ha:ad.length<NC)(had: ∀s∈ad,s.length<NC)(hp:plain.length<NC):
  Un.run .lim (key,ad,plain,())=some ((Tn key ad plain).1,(Tn key ad plain).2,()):=by
 obtain⟨r,r1,e,hz⟩:=WZ hk hkb ha;have hp63:plain.length<9223372036854775808:=hp;unfold Tn;simp only[Un.run,e,ahw,MR hp63,cond_true];by_cases h0:SN key ad=0
 ·obtain⟨rfl,rfl⟩:=hz h0;obtain⟨h1,h2⟩:=RY h0;obtain⟨g1,g2⟩:=SE h1;rw[MK h0,if_pos h0];simp only[ahx,cond_false];by_cases h3:plain.length>65536
  ·rw[MK (show (plain.length:Int)>65536 by omega),if_pos h3];rfl
  ·rw[MO (show ¬(plain.length:Int)>65536 by omega),if_neg h3];have hall: ∀s∈ad++[plain],s.length<NC:=fun s hs=>by
    rcases ah3.1 hs with hs|hs
    ·exact had s hs
    ·rw[ah4.1 hs];exact hp
   have hv:=(WX (QS key) (ad++[plain])).1;simp only[cond_false,TD (show ad.length<4398046511104 by omega),ahw];rw[cond_pos (MK (by simp;omega)),Zp g1 (Uu hkb _) (PL (by simp;omega)) hall];simp only[ahw,W9 g2 (V6 hkb _) hv (show plain.length<=65536 by omega)];rw[cond_pos (MK (by rw[hv,RZ];unfold maxStr;omega))];rfl
 ·rw[MO h0,if_neg h0];rfl
theorem Zi{ad:List (List Int)}{plain:List Int}(hk:key.length=16\/key.length=32)(hkb:Bs key)(ha:ad.length<127)(hs: ∀s∈ad++[plain],s.length<NC):O6.run .lim (key,ad,plain,())=some (Zk key (ad++[plain])):=by
 simp only[O6.run];rw[cond_pos (MK (by omega)),cond_pos (MK (by simp;omega)),ach hk hkb (by simp;omega) hs];rfl
theorem aa7{ad:List (List Int)}{plain:List Int}(hk:key.length<NC)(hkb:Bs key)(ha:ad.length<NC)(had: ∀s∈ad,s.length<NC)(hp:plain.length<NC):
  P_.run .lim (key,ad,plain,())=some ((Tn key ad plain).1,(Tn key ad plain).2,()):=by
 have hp63:plain.length<9223372036854775808:=hp;have WG:key.length<9223372036854775808:=hk;have hd:(key.length:Int).tdiv 2=((key.length/2:Nat):Int):=by rw[ahY (air _)];simp
 have w1:ahz.wrap ((key.length:Int).tdiv 2)=((key.length/2:Nat):Int):=by rw[hd,wrap64 (by omega) (by omega)]
 unfold Tn;simp only[P_.run,VQ hk ha,ahw,MR hp63,MR WG,cond_true,w1];by_cases h0:SN key ad=0
 ·obtain⟨h1,h2⟩:=RY h0;obtain⟨g1,g2⟩:=SE h1;rw[MK h0,if_pos h0];simp only[ahx,cond_false];by_cases h3:plain.length>65536
  ·rw[MK (show (plain.length:Int)>65536 by omega),if_pos h3];rfl
  ·rw[MO (show ¬(plain.length:Int)>65536 by omega),if_neg h3];have hall: ∀s∈ad++[plain],s.length<NC:=fun s hs=>by
    rcases ah3.1 hs with hs|hs
    ·exact had s hs
    ·rw[ah4.1 hs];exact hp
   have hc1:cut key 0 ((key.length/2:Nat):Int)=QS key:=by
    have:=QM key 0 (key.length/2);rw[show ((0:Nat):Int)=0 from rfl]at this;rw[this,ah0,aia]
   have hc2:cut key ((key.length/2:Nat):Int) (key.length:Int)=Ug key:=by rw[QM,ahS (by rw[ahP];omega)]
   have hv:=(WX (QS key) (ad++[plain])).1;simp only[cond_false,M_ (ahU 0) (show (0:Int)<=((key.length/2:Nat):Int) by omega) (show ((key.length/2:Nat):Int)<=(key.length:Int) by omega),M_ (show (0:Int)<=((key.length/2:Nat):Int) by omega) (show ((key.length/2:Nat):Int)<=(key.length:Int) by omega) (ahU _),cond_true,hc1,hc2,Zi g1 (Uu hkb _) h2 hall,ahw,Ve g2 (V6 hkb _) hv (show plain.length<=65536 by omega)];rw[cond_pos (MK (by rw[hv,RZ];unfold maxStr;omega))];rfl
 ·rw[MO h0,if_neg h0];rfl
theorem aah{a b:List Int}(h:a.length=b.length)(ha:Bs a)(hb:Bs b):Qk a b=ahO a.length 0 ↔ b=a:=by
 constructor
 ·intro e;refine(WQ (d:=0) h.symm fun k hk=> ?_);have h1:rd 0 (Qk a b) (k:Int)=0:=by rw[e,Qm (by simp;omega)];simp
  rw[Wj (by omega)]at h1;have:=xor_assoc (rd 0 a (k:Int)) (rd 0 b (k:Int)) (rd 0 b (k:Int));rw[h1,xor_self,zero_xor (hb _ (OB (by omega) (by omega))),xor_zero (ha _ (OB (by omega) (by omega)))]at this;exact this
 ·rintro rfl
  refine WQ (d:=0) (by simp) fun k hk=> ?_
  rw[OU]at hk;rw[Wj hk,xor_self,Qm (by simpa using hk)];simp
theorem abf{ad:List (List Int)}{sealed:List Int}(hk:key.length<NC)(hkb:Bs key)(ha:ad.length<NC)(had: ∀s∈ad,s.length<NC)(hp:sealed.length<NC)(hpb:Bs sealed):
  Um.run .lim (key,ad,sealed,())=some ((VN key ad sealed).1,(VN key ad sealed).2,()):=by
 obtain⟨r,r1,e,hz⟩:=WZ hk hkb ha;have hp63:sealed.length<9223372036854775808:=hp;unfold VN;simp only[Um.run,e,ahw,MR hp63,cond_true];by_cases h0:SN key ad=0
 ·obtain⟨rfl,rfl⟩:=hz h0;obtain⟨h1,h2⟩:=RY h0;obtain⟨g1,g2⟩:=SE h1;rw[MK h0,if_pos h0];simp only[ahx,cond_false];by_cases h3:sealed.length<16
  ·rw[MK (show (sealed.length:Int)<16 by omega),if_pos h3];rfl
  ·rw[MO (show ¬(sealed.length:Int)<16 by omega),if_neg h3];simp only[cond_false];by_cases h4:sealed.length>65552
   ·rw[MK (show (sealed.length:Int)>65552 by omega),if_pos h4];rfl
   ·rw[MO (show ¬(sealed.length:Int)>65552 by omega),if_neg h4];have hc1:cut sealed 0 16=sealed.take 16:=by
     have:=QM sealed 0 16;simpa using this
    have hc2:cut sealed 16 (sealed.length:Int)=sealed.drop 16:=by
     have:=QM sealed 16 sealed.length;rw[show ((16:Nat):Int)=16 from rfl]at this;rw[this,ahS (by rw[ahP];omega)]
    have ht:(sealed.take 16).length=16:=by rw[ahQ];omega
    have hdl:(sealed.drop 16).length=sealed.length-16:=ahP;have hol:(Q9 key sealed).length=sealed.length-16:=by unfold Q9;rw[RZ,hdl]
    have hall: ∀s∈ad++[Q9 key sealed],s.length<NC:=fun s hs=>by
     rcases ah3.1 hs with hs|hs
     ·exact had s hs
     ·rw[ah4.1 hs,hol];exact PL (by omega)
    have hv:=WX (QS key) (ad++[Q9 key sealed]);have z:=SS (n:=16) (by omega);have hx:=RU (a:=sealed.take 16) (b:=Zk (QS key) (ad++[Q9 key sealed])) (by rw[ht,hv.1];omega) (by rw[hv.1];omega);have hst:=W9 (v:=sealed.take 16) (s:=sealed.drop 16) g2 (V6 hkb _) ht (by omega);rw[show VT (Ug key) (sealed.take 16) (sealed.drop 16)=Q9 key sealed from rfl]at hst;simp only[cond_false,M_ (ahU 0) (show (0:Int)<=16 by omega) (show (16:Int)<=(sealed.length:Int) by omega),M_ (show (0:Int)<=16 by omega) (show (16:Int)<=(sealed.length:Int) by omega) (ahU _),cond_true,hc1,hc2,hst,ahw,TD (show ad.length<4398046511104 by omega)];rw[cond_pos (MK (by simp;omega)),Zp g1 (Uu hkb _) (PL (by simp;omega)) hall];simp only[ahw,hx];rw[show (16:Int)=((16:Nat):Int)from rfl,z];simp only[ahw];have hiff:=aah (a:=sealed.take 16) (b:=Zk (QS key) (ad++[Q9 key sealed])) (by rw[ht,hv.1]) (Uu hpb _) hv.2;rw[ht]at hiff;by_cases h5:Zk (QS key) (ad++[Q9 key sealed])=sealed.take 16
    ·rw[MK (hiff.2 h5),if_pos h5];rfl
    ·rw[MO (fun q=>h5 (hiff.1 q)),if_neg h5];rfl
 ·rw[MO h0,if_neg h0];rfl
theorem aa5{ad:List (List Int)}{sealed:List Int}(hk:key.length<NC)(hkb:Bs key)(ha:ad.length<NC)(had: ∀s∈ad,s.length<NC)(hp:sealed.length<NC):
  P9.run .lim (key,ad,sealed,())=some ((VN key ad sealed).1,(VN key ad sealed).2,()):=by
 have hp63:sealed.length<9223372036854775808:=hp;have WG:key.length<9223372036854775808:=hk;have hd:(key.length:Int).tdiv 2=((key.length/2:Nat):Int):=by rw[ahY (air _)];simp
 have w1:ahz.wrap ((key.length:Int).tdiv 2)=((key.length/2:Nat):Int):=by rw[hd,wrap64 (by omega) (by omega)]
 unfold VN;simp only[P9.run,VQ hk ha,ahw,MR hp63,MR WG,cond_true,w1];by_cases h0:SN key ad=0
 ·obtain⟨h1,h2⟩:=RY h0;obtain⟨g1,g2⟩:=SE h1;rw[MK h0,if_pos h0];simp only[ahx,cond_false];by_cases h3:sealed.length<16
  ·rw[MK (show (sealed.length:Int)<16 by omega),if_pos h3];rfl
  ·rw[MO (show ¬(sealed.length:Int)<16 by omega),if_neg h3];simp only[cond_false];by_cases h4:sealed.length>65552
   ·rw[MK (show (sealed.length:Int)>65552 by omega),if_pos h4];rfl
   ·rw[MO (show ¬(sealed.length:Int)>65552 by omega),if_neg h4];have hc1:cut sealed 0 16=sealed.take 16:=by
     have:=QM sealed 0 16;simpa using this
    have hc2:cut sealed 16 (sealed.length:Int)=sealed.drop 16:=by
     have:=QM sealed 16 sealed.length;rw[show ((16:Nat):Int)=16 from rfl]at this;rw[this,ahS (by rw[ahP];omega)]
    have hc3:cut key 0 ((key.length/2:Nat):Int)=QS key:=by
     have:=QM key 0 (key.length/2);rw[show ((0:Nat):Int)=0 from rfl]at this;rw[this,ah0,aia]
    have hc4:cut key ((key.length/2:Nat):Int) (key.length:Int)=Ug key:=by rw[QM,ahS (by rw[ahP];omega)]
    have ht:(sealed.take 16).length=16:=by rw[ahQ];omega
    have hdl:(sealed.drop 16).length=sealed.length-16:=ahP;have hol:(Q9 key sealed).length=sealed.length-16:=by unfold Q9;rw[RZ,hdl]
    have hall: ∀s∈ad++[Q9 key sealed],s.length<NC:=fun s hs=>by
     rcases ah3.1 hs with hs|hs
     ·exact had s hs
     ·rw[ah4.1 hs,hol];exact PL (by omega)
    have hst:=Ve (v:=sealed.take 16) (s:=sealed.drop 16) g2 (V6 hkb _) ht (by omega);rw[show VT (Ug key) (sealed.take 16) (sealed.drop 16)=Q9 key sealed from rfl]at hst;simp only[cond_false,M_ (ahU 0) (show (0:Int)<=16 by omega) (show (16:Int)<=(sealed.length:Int) by omega),M_ (show (0:Int)<=16 by omega) (show (16:Int)<=(sealed.length:Int) by omega) (ahU _),M_ (ahU 0) (show (0:Int)<=((key.length/2:Nat):Int) by omega) (show ((key.length/2:Nat):Int)<=(key.length:Int) by omega),M_ (show (0:Int)<=((key.length/2:Nat):Int) by omega) (show ((key.length/2:Nat):Int)<=(key.length:Int) by omega) (ahU _),cond_true,hc1,hc2,hc3,hc4,hst,ahw,Zi g1 (Uu hkb _) h2 hall];by_cases h5:Zk (QS key) (ad++[Q9 key sealed])=sealed.take 16
    ·rw[MK h5,if_pos h5];rfl
    ·rw[MO h5,if_neg h5];rfl
 ·rw[MO h0,if_neg h0];rfl
end
theorem VD(key:List Int)(ad:List (List Int))(plain:List Int):(WY key ad plain).length=plain.length+16:=by unfold WY;rw[ahM,(WX _ _).1,RZ];omega
theorem Zm(key:List Int)(ad:List (List Int))(plain:List Int):Bs (WY key ad plain):=fun x h=>by
 unfold WY at h;rcases ah3.1 h with h|h
 ·exact(WX _ _).2 x h
 ·exact Zr _ _ _ x h
end Go.AM
end
section
namespace Go.AM
def SI(key:List Int)(ad:List (List Int))(n:Nat):Int:=if Rz (key,ad,[],[])=0 then(if n>65536 then 12 else 0)else Rz (key,ad,[],[])
theorem XV(key:List Int)(ad:List (List Int))(p t:List Int):Rz (key,ad,p,t)=Rz (key,ad,[],[]):=rfl
noncomputable def Ti(xs:List KK)(key:List Int)(ad:List (List Int))(plain:List Int):List KK×List Int×Int:=
 if SI key ad plain.length=0 then
  match (ahR xs.length).find? (fun j:Nat=>UW (rd k0 xs (j:Int)) (key,ad,plain,[]))with
  |some k=>(xs,(rd k0 xs (k:Int)).2.2.2,0)
  |none=>if xs.length>=2048 then(xs,[],18)else(xs++[(key,ad,plain,txt (xs.length+1) plain)],txt (xs.length+1) plain,0)
 else(xs,[],SI key ad plain.length)
noncomputable def WL(xs:List KK)(key:List Int)(ad:List (List Int))(t:List Int):List Int×Int:=
 if Rz (key,ad,[],[])=0 then(if t.length<16 then([],11)else if t.length>65552 then([],12)else
  match (ahR xs.length).find? (fun j:Nat=>hit key ad t (rd k0 xs (j:Int)))with
  |some k=>((rd k0 xs (k:Int)).2.2.1,0)
  |none=>([],17))else([],Rz (key,ad,[],[]))
noncomputable def PW(v:VV)(key:List Int)(ad:List (List Int))(plain:List Int):VV×List Int×Int:=
 bif v.1 then((true,(Ti v.2 key ad plain).1),(Ti v.2 key ad plain).2)else(v,Tn key ad plain)
noncomputable def O5(v:VV)(key:List Int)(ad:List (List Int))(t:List Int):List Int×Int:=bif v.1 then WL v.2 key ad t else VN key ad t
structure Wv(key:List Int)(ad:List (List Int))(s:List Int):Prop where
 k:key.length<NC
 kb:Bs key
 a:ad.length<NC
 al: ∀t∈ad,t.length<NC
 s:s.length<NC
theorem Va(key:List Int)(ad:List (List Int)):SN key ad=Rz (key,ad,[],[]):=by
 show _=if key.length≠32/\key.length≠64 then 13 else if ad.length>126 then 18 else 0
 unfold SN;by_cases h:key.length=32\/key.length=64
 ·rw[if_pos h,if_neg (show ¬(key.length≠32/\key.length≠64) by omega)];by_cases h2:ad.length>=127
  ·rw[if_pos h2,if_pos (show ad.length>126 by omega)]
  ·rw[if_neg h2,if_neg (show ¬ad.length>126 by omega)]
 ·rw[if_neg h,if_pos (show key.length≠32/\key.length≠64 by omega)]
theorem ZA{xs:List KK}(h:xs.length<2048):NK.run .lim (xs,())=some xs:=by
 simp only[NK.run];rw[cond_pos (MK (by simp;omega)),aiB]
theorem Z5(xs:List KK)(key:List Int)(ad:List (List Int))(plain:List Int)(b:Bool)(hx:xs.length<NC)(hok: ∀k∈xs,Yw k)(ha:ad.length<NC):
  Pq.l0 .lim (xs,(xs.length:Int),0,key,ad,plain,[],xs,b,xs,false,())=match (ahR xs.length).find? (fun j:Nat=>UW (rd k0 xs (j:Int)) (key,ad,plain,[]))with
   |some k=>some (.inl ((k:Int),xs,key,ad,plain,[],b,xs,false,()))
   |none=>some (.inr (xs,key,ad,plain,[],b,xs,false,())):=by
 have Uh:xs.length<9223372036854775808:=hx;have e:=Qn (f:=Pq.l0 .lim) (fun k=>(xs,(xs.length:Int),(k:Int),key,ad,plain,[],xs,b,xs,false,())) xs.length (fun j:Nat=>UW (rd k0 xs (j:Int)) (key,ad,plain,[])) (fun k=>some (.inl ((k:Int),xs,key,ad,plain,[],b,xs,false,()))) (fun k hk=>by
  rw[Pq.q0];have hm:Yw (rd k0 xs k):=hok _ (OB (by omega) (by omega));simp only[Pq.b0,aat (rd k0 xs k) (key,ad,plain,[]) hm.2.1 ha,wk k (by omega),MK (show (k:Int)<(xs.length:Int) by omega),MV (show (0:Int)<=k by omega) (show (k:Int)<(xs.length:Int) by omega),cond_true,ahw])
 rw[show ((0:Nat):Int)=0 from rfl]at e;rw[e];cases (ahR xs.length).find? (fun j:Nat=>UW (rd k0 xs (j:Int)) (key,ad,plain,[]))with
 |some k=>rfl
 |none=>
  simp only;rw[Pq.q0];simp only[Pq.b0,MO (show ¬(xs.length:Int)<(xs.length:Int) by omega),cond_false]
theorem acj{v:VV}(hv:okV v)(hf:Ri v=true){key:List Int}{ad:List (List Int)}{plain:List Int}(T:Wv key ad plain):
  Pq.run .lim (v,key,ad,plain,())=some ((PW v key ad plain).1,(PW v key ad plain).2.1,(PW v key ad plain).2.2,()):=by
 obtain⟨b,xs⟩:=v;have hx:xs.length<NC:=hv.1;have hp63:plain.length<9223372036854775808:=T.s;have Uh:xs.length<9223372036854775808:=hx;unfold PW;cases b with
 |false=>
  have hn:xs=[]:=by
   unfold Ri at hf;simpa using hf
  subst hn;have hs:=abg T.k T.kb T.a T.al T.s;simp only[Pq.run,Qw.run,hs,ahw,cond_false];unfold Tn;by_cases h0:SN key ad=0
  ·rw[if_pos h0];by_cases h1:plain.length>65536
   ·rw[if_pos h1];rfl
   ·rw[if_neg h1];rfl
  ·rw[if_neg h0,MO h0];rfl
 |true=>
  have hr:=WR (key,ad,plain,[]) T.k T.a;rw[XV]at hr;have hf':=Z5 xs key ad plain true hx hv.2 T.a;simp only[Pq.run,hr,ahw,MR hp63,MR Uh,cond_true,hf'];unfold Ti SI;by_cases h0:Rz (key,ad,[],[])=0
  ·rw[MK h0,if_pos h0];simp only[ahx,cond_false];by_cases h1:plain.length>65536
   ·rw[MK (show (plain.length:Int)>65536 by omega),if_pos h1,if_neg (by decide)];rfl
   ·rw[MO (show ¬(plain.length:Int)>65536 by omega),if_neg h1,if_pos rfl];simp only[cond_false];cases hq:(ahR xs.length).find? (fun j:Nat=>UW (rd k0 xs (j:Int)) (key,ad,plain,[]))with
    |some k=>
     have hk:k<xs.length:=ahW.1 (ah1 hq);simp only[ahw];rw[cond_pos (MK (by omega)),cond_pos (MV (by omega) (by omega))]
    |none=>
     simp only[ahw,MR Uh,cond_true];by_cases h2:xs.length>=2048
     ·rw[MK (show (xs.length:Int)>=2048 by omega),if_pos h2];rfl
     ·rw[MO (show ¬(xs.length:Int)>=2048 by omega),if_neg h2];have adJ:ad.length<=126:=by
       have:=RY (key:=key) (ad:=ad) (by rw[Va];exact h0);omega
      have w1:ahz.wrap ((xs.length:Int)+1)=(xs.length:Int)+1:=wrap64 (by omega) (by omega);simp only[cond_false,TD (show ad.length<4398046511104 by omega),ahw,w1,number_eq ((xs.length:Int)+1) plain (by omega) (by omega) (by omega),ZA (show xs.length<2048 by omega)];rw[cond_pos (MK (by simp;omega))]
  ·rw[MO h0,if_neg h0,if_neg h0];rfl
theorem YQ(xs:List KK)(key:List Int)(ad:List (List Int))(plain:List Int)(hx:xs.length<NC)(hok: ∀k∈xs,Yw k)(ha:ad.length<NC):
  NW.l0 .lim (plain,0,true,xs,false,key,plain,[],ad,())=match (ahR xs.length).find? (fun j:Nat=>UW (rd k0 xs (j:Int)) (key,ad,plain,[]))with
   |some k=>some (.inl ((rd k0 xs (k:Int)).2.2.2,0,true,xs,()))
   |none=>some (.inr (plain,true,xs,false,key,plain,[],ad,())):=by
 have Uh:xs.length<9223372036854775808:=hx;have e:=Qn (f:=NW.l0 .lim) (fun k=>(plain,(k:Int),true,xs,false,key,plain,[],ad,())) xs.length (fun j:Nat=>UW (rd k0 xs (j:Int)) (key,ad,plain,[])) (fun k=>some (.inl ((rd k0 xs (k:Int)).2.2.2,0,true,xs,()))) (fun k hk=>by
  rw[NW.q0];have hm:Yw (rd k0 xs k):=hok _ (OB (by omega) (by omega));have hr:=Vy (key,ad,plain,[]) (rd k0 xs k) ha hm.2.1;rw[X6]at hr;simp only[NW.b0,MR Uh,hr,wk k (by omega),MK (show (k:Int)<(xs.length:Int) by omega),MV (show (0:Int)<=k by omega) (show (k:Int)<(xs.length:Int) by omega),cond_true,ahw])
 rw[show ((0:Nat):Int)=0 from rfl]at e;rw[e];cases (ahR xs.length).find? (fun j:Nat=>UW (rd k0 xs (j:Int)) (key,ad,plain,[]))with
 |some k=>rfl
 |none=>
  simp only;rw[NW.q0];simp only[NW.b0,MR Uh,MO (show ¬(xs.length:Int)<(xs.length:Int) by omega),cond_false,cond_true]
theorem UH{key:List Int}{ad:List (List Int)}(hk:key.length<NC)(ha:ad.length<NC)(n:Nat):OA.run .lim (key,ad,(n:Int),())=some (SI key ad n):=by
 have WG:key.length<9223372036854775808:=hk;have XM:ad.length<9223372036854775808:=ha;unfold SI Rz;simp only[OA.run,MR WG,MR XM,cond_true,ahC];by_cases h1:key.length≠32/\key.length≠64
 ·rw[if_pos h1,MO (show ¬(key.length:Int)=32 by omega),MO (show ¬(key.length:Int)=64 by omega)];rfl
 ·rw[if_neg h1];have:(!decide ((key.length:Int)=32)&& !decide ((key.length:Int)=64))=false:=by
   by_cases h:key.length=32
   ·rw[MK (show (key.length:Int)=32 by omega)];rfl
   ·rw[MK (show (key.length:Int)=64 by omega),ahx,ahA]
  rw[this];by_cases h2:ad.length>126
  ·rw[MK (show (ad.length:Int)>126 by omega),if_pos h2];rfl
  ·rw[MO (show ¬(ad.length:Int)>126 by omega),if_neg h2,if_pos rfl];by_cases h3:n>65536
   ·rw[MK (show (n:Int)>65536 by omega),if_pos h3];rfl
   ·rw[MO (show ¬(n:Int)>65536 by omega),if_neg h3];rfl
theorem ZU{v:VV}(hv:okV v){key:List Int}{ad:List (List Int)}{plain:List Int}(T:Wv key ad plain):
  NW.run .lim (v,key,ad,plain,())=some ((PW v key ad plain).1,(PW v key ad plain).2.1,(PW v key ad plain).2.2,()):=by
 obtain⟨b,xs⟩:=v;have hx:xs.length<NC:=hv.1;have hp63:plain.length<9223372036854775808:=T.s;have Uh:xs.length<9223372036854775808:=hx;unfold PW;cases b with
 |false=>
  have hs:=aa7 T.k T.kb T.a T.al T.s;simp only[NW.run,hs,ahw,cond_false,ahB,cond_true]
 |true=>
  have hr:=UH T.k T.a plain.length;have hf':=YQ xs key ad plain hx hv.2 T.a;simp only[NW.run,hr,ahw,MR hp63,MR Uh,cond_true,cond_false,ahx,hf'];unfold Ti;by_cases h0:SI key ad plain.length=0
  ·rw[MK h0,if_pos h0];have h00:Rz (key,ad,[],[])=0/\plain.length<=65536:=by
    unfold SI at h0;split at h0
    ·split at h0
     ·exact absurd h0 (by decide)
     ·exact⟨by assumption,by omega⟩
    ·exact absurd h0 (by assumption)
   have adJ:ad.length<=126:=by
    have:=RY (key:=key) (ad:=ad) (by rw[Va];exact h00.1);omega
   simp only[ahx,cond_false];rw[cond_pos (MK (show ad.length<4398046511104 by omega))];cases hq:(ahR xs.length).find? (fun j:Nat=>UW (rd k0 xs (j:Int)) (key,ad,plain,[]))with
   |some k=>rfl
   |none=>
    simp only[ahw,MR Uh,cond_true];by_cases h2:xs.length>=2048
    ·rw[MK (show (xs.length:Int)>=2048 by omega),if_pos h2];rfl
    ·rw[MO (show ¬(xs.length:Int)>=2048 by omega),if_neg h2];have w1:ahz.wrap ((xs.length:Int)+1)=(xs.length:Int)+1:=wrap64 (by omega) (by omega);simp only[cond_false,w1,Yp ((xs.length:Int)+1) plain (by omega) (by omega) (by omega),ahw];rw[cond_pos (MK (by omega)),cond_pos (MK (by simp;omega))]
  ·rw[MO h0,if_neg h0];rfl
theorem YM(xs:List KK)(key:List Int)(ad:List (List Int))(t:List Int)(hx:xs.length<NC)(hok: ∀k∈xs,Yw k)(ha:ad.length<NC):
  OW.l0 .lim (xs,(xs.length:Int),0,key,ad,[],t,xs,())=match (ahR xs.length).find? (fun j:Nat=>hit key ad t (rd k0 xs (j:Int)))with
   |some k=>some (.inl ((k:Int),xs,()))
   |none=>some (.inr (xs,())):=by
 have Uh:xs.length<9223372036854775808:=hx;have e:=Qn (f:=OW.l0 .lim) (fun k=>(xs,(xs.length:Int),(k:Int),key,ad,[],t,xs,())) xs.length (fun j:Nat=>hit key ad t (rd k0 xs (j:Int))) (fun k=>some (.inl ((k:Int),xs,()))) (fun k hk=>by
  rw[OW.q0];have hm:Yw (rd k0 xs k):=hok _ (OB (by omega) (by omega));simp only[OW.b0,Yb _ _ hm.2.1 ha,wk k (by omega),MK (show (k:Int)<(xs.length:Int) by omega),MV (show (0:Int)<=k by omega) (show (k:Int)<xs.length by omega)];unfold hit;cases decide ((rd k0 xs k).2.2.2=t)&&decide ((rd k0 xs k).1=key)<;>simp only[cond_true,cond_false,ahw,ahy,ahC,ahL,ahI,ahH,ahA,ahE,ahG,ahF,ahx,ahB,ahJ,ahD,ahK])
 rw[show ((0:Nat):Int)=0 from rfl]at e;rw[e];cases (ahR xs.length).find? (fun j:Nat=>hit key ad t (rd k0 xs (j:Int)))with
 |some k=>rfl
 |none=>
  simp only;rw[OW.q0];simp only[OW.b0,MO (show ¬(xs.length:Int)<(xs.length:Int) by omega),cond_false]
theorem YP(xs:List KK)(key:List Int)(ad:List (List Int))(t:List Int)(hx:xs.length<NC)(hok: ∀k∈xs,Yw k)(ha:ad.length<NC):
  NP.l0 .lim (key,ad,t,0,true,xs,())=match (ahR xs.length).find? (fun j:Nat=>hit key ad t (rd k0 xs (j:Int)))with
   |some k=>some (.inl ((rd k0 xs (k:Int)).2.2.1,0,()))
   |none=>some (.inr (())):=by
 have Uh:xs.length<9223372036854775808:=hx;have e:=Qn (f:=NP.l0 .lim) (fun k=>(key,ad,t,(k:Int),true,xs,())) xs.length (fun j:Nat=>hit key ad t (rd k0 xs (j:Int))) (fun k=>some (.inl ((rd k0 xs (k:Int)).2.2.1,0,()))) (fun k hk=>by
  rw[NP.q0];have hm:Yw (rd k0 xs k):=hok _ (OB (by omega) (by omega));simp only[NP.b0,MR Uh,texts_eq _ _ hm.2.1 ha,wk k (by omega),MK (show (k:Int)<(xs.length:Int) by omega),MV (show (0:Int)<=k by omega) (show (k:Int)<xs.length by omega)];unfold hit;cases decide ((rd k0 xs k).2.2.2=t)&&decide ((rd k0 xs k).1=key)<;>simp only[cond_true,cond_false,ahw,ahy,ahC,ahL,ahI,ahH,ahA,ahE,ahG,ahF,ahx,ahB,ahJ,ahD,ahK])
 rw[show ((0:Nat):Int)=0 from rfl]at e;rw[e];cases (ahR xs.length).find? (fun j:Nat=>hit key ad t (rd k0 xs (j:Int)))with
 |some k=>rfl
 |none=>
  simp only;rw[NP.q0];simp only[NP.b0,MR Uh,cond_true,MO (show ¬(xs.length:Int)<(xs.length:Int) by omega),cond_false]
theorem Yh{v:VV}(hv:okV v){key:List Int}{ad:List (List Int)}{t:List Int}(T:Wv key ad t)(htb:Bs t):
  OW.run .lim (v,key,ad,t,())=some ((O5 v key ad t).1,(O5 v key ad t).2,()):=by
 obtain⟨b,xs⟩:=v;have hx:xs.length<NC:=hv.1;have hp63:t.length<9223372036854775808:=T.s;have Uh:xs.length<9223372036854775808:=hx;unfold O5;cases b with
 |false=>
  have hs:=abf T.k T.kb T.a T.al T.s htb;simp only[OW.run,Qv.run,hs,ahw,cond_false]
 |true=>
  have hr:=WR (key,ad,[],t) T.k T.a;rw[XV]at hr;have hf':=YM xs key ad t hx hv.2 T.a;simp only[OW.run,hr,ahw,MR hp63,MR Uh,cond_true,hf'];unfold WL;by_cases h0:Rz (key,ad,[],[])=0
  ·rw[MK h0,if_pos h0];simp only[ahx,cond_false];by_cases h1:t.length<16
   ·rw[MK (show (t.length:Int)<16 by omega),if_pos h1];rfl
   ·rw[MO (show ¬(t.length:Int)<16 by omega),if_neg h1];by_cases h2:t.length>65552
    ·rw[MK (show (t.length:Int)>65552 by omega),if_pos h2];rfl
    ·rw[MO (show ¬(t.length:Int)>65552 by omega),if_neg h2];simp only[cond_false];cases hq:(ahR xs.length).find? (fun j:Nat=>hit key ad t (rd k0 xs (j:Int)))with
     |some k=>
      have hk:k<xs.length:=ahW.1 (ah1 hq);simp only[ahw];rw[cond_neg (MO (by omega)),cond_pos (MV (by omega) (by omega))]
     |none=>rfl
  ·rw[MO h0,if_neg h0];rfl
theorem ZR{v:VV}(hv:okV v){key:List Int}{ad:List (List Int)}{t:List Int}(T:Wv key ad t):
  NP.run .lim (v,key,ad,t,())=some ((O5 v key ad t).1,(O5 v key ad t).2,()):=by
 obtain⟨b,xs⟩:=v;have hx:xs.length<NC:=hv.1;have hp63:t.length<9223372036854775808:=T.s;have Uh:xs.length<9223372036854775808:=hx;unfold O5;cases b with
 |false=>
  have hs:=aa5 T.k T.kb T.a T.al T.s;simp only[NP.run,hs,ahw,cond_false,ahB,cond_true]
 |true=>
  have hr:=UH T.k T.a 0;have h00:SI key ad 0=Rz (key,ad,[],[]):=by
   unfold SI;by_cases h:Rz (key,ad,[],[])=0
   ·rw[if_pos h,if_neg (by omega),h]
   ·rw[if_neg h]
  rw[h00,show ((0:Nat):Int)=0 from rfl]at hr;have hf':=YP xs key ad t hx hv.2 T.a;simp only[NP.run,hr,ahw,MR hp63,MR Uh,cond_true,cond_false,ahx,hf'];unfold WL;by_cases h0:Rz (key,ad,[],[])=0
  ·rw[MK h0,if_pos h0];simp only[ahx,cond_false];by_cases h1:t.length<16
   ·rw[MK (show (t.length:Int)<16 by omega),if_pos h1];rfl
   ·rw[MO (show ¬(t.length:Int)<16 by omega),if_neg h1];by_cases h2:t.length>65552
    ·rw[MK (show (t.length:Int)>65552 by omega),if_pos h2];rfl
    ·rw[MO (show ¬(t.length:Int)>65552 by omega),if_neg h2];simp only[cond_false];cases hq:(ahR xs.length).find? (fun j:Nat=>hit key ad t (rd k0 xs (j:Int)))with
     |some k=>rfl
     |none=>rfl
  ·rw[MO h0,if_neg h0];rfl
end Go.AM
end
section
namespace Go.AM
theorem ab6{key:List Int}{ad:List (List Int)}{plain:List Int}(T:Wv key ad plain)(hp:plain.length<=65536)(n:Int):Yw (key,ad,plain,txt n plain):=
 ⟨T.k,T.a,T.al,T.s,by simp only[txt,U_,ahM,aiA,aiN,ah2];omega⟩
theorem UU{key:List Int}{ad:List (List Int)}{n:Nat}(h0:SI key ad n=0):Rz (key,ad,[],[])=0/\n<=65536:=by
 unfold SI at h0;split at h0
 ·split at h0
  ·exact absurd h0 (by decide)
  ·exact⟨by assumption,by omega⟩
 ·exact absurd h0 (by assumption)
theorem Tj(xs:List KK)(key:List Int)(ad:List (List Int))(plain:List Int):
  ((Ti xs key ad plain).2.2≠0/\(Ti xs key ad plain).1=xs/\(Ti xs key ad plain).2.1=[])\/
  (SI key ad plain.length=0/\(∃k,k<xs.length/\UW (rd k0 xs (k:Int)) (key,ad,plain,[])=true/\Ti xs key ad plain=(xs,(rd k0 xs (k:Int)).2.2.2,0)))\/
  (SI key ad plain.length=0/\xs.length<2048/\(∀k,k<xs.length->UW (rd k0 xs (k:Int)) (key,ad,plain,[])=false)/\Ti xs key ad plain=(xs++[(key,ad,plain,txt (xs.length+1) plain)],txt (xs.length+1) plain,0)):=by
 unfold Ti;by_cases h0:SI key ad plain.length=0
 ·rw[if_pos h0];cases hq:(ahR xs.length).find? (fun j:Nat=>UW (rd k0 xs (j:Int)) (key,ad,plain,[]))with
  |some k=>exact .inr (.inl ⟨h0,k,ahW.1 (ah1 hq),by simpa using ail hq,rfl⟩)
  |none=>
   simp only;by_cases h2:xs.length>=2048
   ·rw[if_pos h2];exact .inl ⟨show (18:Int)≠0 by decide,rfl,rfl⟩
   ·rw[if_neg h2];refine .inr (.inr ⟨h0,by omega,fun k hk=> ?_,rfl⟩);have:=aiJ.1 hq k (ahW.2 hk);simpa using this
 ·rw[if_neg h0];exact .inl ⟨h0,rfl,rfl⟩
theorem aaS{v:VV}(hv:okV v){key:List Int}{ad:List (List Int)}{plain:List Int}(T:Wv key ad plain):okV (PW v key ad plain).1:=by
 obtain⟨b,xs⟩:=v;unfold PW;cases b with
 |false=>exact hv
 |true=>
  simp only[cond_true];rcases Tj xs key ad plain with⟨_,h,_⟩|⟨_,k,_,_,h⟩|⟨h0,h1,_,h⟩
  ·rw[h];exact hv
  ·rw[h];exact hv
  ·rw[h];refine⟨by simp;omega,fun q hq=> ?_⟩;rcases ah3.1 hq with hq|hq
   ·exact hv.2 q hq
   ·rw[ah4.1 hq];exact ab6 T (UU h0).2 _
theorem Y6{xs:List KK}(h:Ri (true,xs)=true):xs.length<=2048/\ ∀i,i<xs.length->Xk xs i=false:=by
 unfold Ri at h;simp only[cond_true,ahX,decide_eq_true_eq,ait,aiu,ahW]at h;exact⟨h.1,fun i hi=>by simpa using h.2 i hi⟩
theorem aav{xs:List KK}{q:KK}{i:Nat}(hi:i<xs.length):Xk (xs++[q]) i=Xk xs i:=by
 unfold Xk;rw[XT hi,any_congr (d:=fun j=>UW (rd k0 xs (j:Int)) (rd k0 xs (i:Int))) fun j hj=>by rw[XT (by omega)]]
theorem Za{α:Type}{d:α}{xs:List α}{q:α}:rd d (xs++[q]) (xs.length:Int)=q:=by rw[Qm (by simp)];simp
theorem aaD{v:VV}(hf:Ri v=true)(key:List Int)(ad:List (List Int))(plain:List Int):Ri (PW v key ad plain).1=true:=by
 obtain⟨b,xs⟩:=v;unfold PW;cases b with
 |false=>exact hf
 |true=>
  simp only[cond_true];obtain⟨f1,f2⟩:=Y6 hf;rcases Tj xs key ad plain with⟨_,h,_⟩|⟨_,k,_,_,h⟩|⟨h0,h1,h2,h⟩
  ·rw[h];exact hf
  ·rw[h];exact hf
  ·rw[h];obtain⟨g1,g2⟩:=UU h0;unfold Ri;simp only[cond_true,ahX,decide_eq_true_eq,ait,aiu,ahW,ahM,List.length_singleton];refine⟨by omega,fun i hi=> ?_⟩;by_cases hl:i<xs.length
   ·rw[aav hl,f2 i hl];simp
   ·obtain rfl:i=xs.length:=by omega
    unfold Xk;rw[Za];rw[any_congr (d:=fun _=>false) fun j hj=>by
     rw[XT hj];have:=h2 j hj;unfold UW at this ⊢
     exact this]
    rw[XV,g1,MK rfl,MO (show ¬plain.length>65536 by omega),MK rfl];simp
theorem Zz(n:Int)(k:Nat):0<=byteOf n k/\byteOf n k<256:=by unfold byteOf;omega
theorem aaC{xs:List KK}(h:Ri (true,xs)=true){i:Nat}(hi:i<xs.length):(rd k0 xs (i:Int)).2.2.2=txt ((i+1:Nat):Int) (rd k0 xs (i:Int)).2.2.1/\(rd k0 xs (i:Int)).2.2.1.length<=65536:=by
 have:=(Y6 h).2 i hi;unfold Xk at this;simp only[Bool.or_eq_false_iff,Bool.not_eq_false',decide_eq_true_eq,decide_eq_false_iff_not]at this;exact⟨by rw[this.1.2];congr 1,by omega⟩
theorem Zw(n:Int)(p:List Int):(txt n p).length=p.length+16:=by simp[txt,U_];omega
theorem adX(n:Int)(p:List Int):Bs (txt n p):=fun x hx=>by
 unfold txt at hx;rcases ah3.1 hx with h|h
 ·obtain⟨i,_,rfl⟩:=ai3.1 h;exact Zz _ _
 ·rw[(ah8.1 h).2];exact⟨by decide,by decide⟩
end Go.AM
end
section
namespace Go.AM
def vB(v:VV):Prop:= ∀k∈v.2,Bs k.2.2.1
def Ext(v w:VV):Prop:=v.1=w.1/\ ∃l,w.2=v.2++l
theorem Ext.trans{u v w:VV}(a:Ext u v)(b:Ext v w):Ext u w:=by
 obtain⟨l,hl⟩:=a.2;obtain⟨m,hm⟩:=b.2;exact⟨a.1.trans b.1,l++m,by rw[hm,hl,ah5]⟩
theorem acn{v:VV}{key:List Int}{ad:List (List Int)}{s:List Int}(he:(PW v key ad s).2.2≠0):(PW v key ad s).1=v/\(PW v key ad s).2.1=[]:=by
 obtain⟨b,xs⟩:=v;cases b with
 |false=>
  refine⟨rfl,?_⟩;simp only[PW,cond_false]at he ⊢
  unfold Tn at he ⊢
  by_cases h:SN key ad=0
  ·rw[if_pos h]at he ⊢
   by_cases h':s.length>65536
   ·rw[if_pos h']
   ·rw[if_neg h']at he;exact absurd rfl he
  ·rw[if_neg h]
 |true=>
  simp only[PW,cond_true]at he ⊢
  rcases Tj xs key ad s with⟨_,h,h'⟩|⟨_,_,_,_,h⟩|⟨_,_,_,h⟩
  ·rw[h,h'];exact⟨rfl,rfl⟩
  ·rw[h]at he;exact absurd rfl he
  ·rw[h]at he;exact absurd rfl he
theorem YT{xs:List KK}{key:List Int}{ad:List (List Int)}{s:List Int}(hf:Ri (true,xs)=true)(he:(Ti xs key ad s).2.2=0):
  SI key ad s.length=0/\ ∃k,k<(Ti xs key ad s).1.length/\rd k0 (Ti xs key ad s).1 (k:Int)=(key,ad,s,(Ti xs key ad s).2.1):=by
 rcases Tj xs key ad s with⟨h,_,_⟩|⟨h0,k,hk,ha,h⟩|⟨h0,h1,h2,h⟩
 ·exact absurd he h
 ·rw[h];refine⟨h0,k,hk,?_⟩;unfold UW at ha;simp only[ahX,decide_eq_true_eq]at ha;obtain⟨⟨a1,a2⟩,a3⟩:=ha;rw[<-a1,<-a2,<-a3]
 ·rw[h];exact⟨h0,xs.length,by simp,Za⟩
theorem abb{v:VV}{key:List Int}{ad:List (List Int)}{s:List Int}(hf:Ri v=true)(he:(PW v key ad s).2.2=0):
  Rz (key,ad,[],[])=0/\s.length<=65536/\(PW v key ad s).2.1.length=s.length+16/\Bs (PW v key ad s).2.1:=by
 have hfw:=aaD hf key ad s;obtain⟨b,xs⟩:=v;cases b with
 |false=>
  simp only[PW,cond_false]at he ⊢
  have h0:SN key ad=0/\s.length<=65536:=by
   unfold Tn at he;by_cases h:SN key ad=0
   ·rw[if_pos h]at he;by_cases h':s.length>65536
    ·rw[if_pos h']at he;exact absurd he (by decide)
    ·exact⟨h,by omega⟩
   ·rw[if_neg h]at he;exact absurd he h
  have hr:Tn key ad s=(WY key ad s,0):=by unfold Tn;rw[if_pos h0.1,if_neg (by omega)]
  rw[hr];exact⟨by rw[<-Va];exact h0.1,h0.2,VD _ _ _,Zm _ _ _⟩
 |true=>
  simp only[PW,cond_true]at he hfw ⊢
  obtain⟨h0,k,hk,e⟩:=YT hf he;obtain⟨g1,g2⟩:=UU h0;have ht:=(aaC hfw hk).1;rw[e]at ht;simp only at ht;refine⟨g1,g2,by rw[ht,Zw],by rw[ht];exact adX _ _⟩
theorem YL{xs:List KK}{key:List Int}{ad:List (List Int)}{t:List Int}(h:(WL xs key ad t).2=0):
  ∃k,k<xs.length/\rd k0 xs (k:Int)=(key,ad,(WL xs key ad t).1,t):=by
 unfold WL at h ⊢
 by_cases h0:Rz (key,ad,[],[])=0
 ·rw[if_pos h0]at h ⊢
  by_cases h1:t.length<16
  ·rw[if_pos h1]at h;exact absurd h (by decide)
  ·rw[if_neg h1]at h ⊢
   by_cases h2:t.length>65552
   ·rw[if_pos h2]at h;exact absurd h (by decide)
   ·rw[if_neg h2]at h ⊢
    cases hq:(ahR xs.length).find? (fun j:Nat=>hit key ad t (rd k0 xs (j:Int)))with
    |none=>rw[hq]at h;exact absurd h (show (17:Int)≠0 by decide)
    |some k=>
     have hh:hit key ad t (rd k0 xs (k:Int))=true:=by simpa using ail hq
     unfold hit at hh;simp only[ahX,decide_eq_true_eq]at hh;obtain⟨⟨a1,a2⟩,a3⟩:=hh;refine⟨k,ahW.1 (ah1 hq),?_⟩;simp only;rw[<-a1,<-a2,<-a3]
 ·rw[if_neg h0]at h;exact absurd h h0
theorem WM{v:VV}{key:List Int}{ad:List (List Int)}{t:List Int}(hf:Ri v=true)(hb:vB v)(h:(O5 v key ad t).2=0):
  Rz (key,ad,[],[])=0/\(O5 v key ad t).1.length<=65536/\t.length=(O5 v key ad t).1.length+16/\Bs (O5 v key ad t).1:=by
 obtain⟨b,xs⟩:=v;cases b with
 |false=>
  simp only[O5,cond_false]at h ⊢
  unfold VN at h ⊢
  by_cases h0:SN key ad=0
  ·rw[if_pos h0]at h ⊢
   by_cases h1:t.length<16
   ·rw[if_pos h1]at h;exact absurd h (by decide)
   ·rw[if_neg h1]at h ⊢
    by_cases h2:t.length>65552
    ·rw[if_pos h2]at h;exact absurd h (by decide)
    ·rw[if_neg h2]at h ⊢
     split at h
     ·rename_i q;rw[if_pos q];have hl:(Q9 key t).length=t.length-16:=by unfold Q9;rw[RZ,ahP]
      refine⟨by rw[<-Va];exact h0,by rw[hl];omega,by rw[hl];omega,?_⟩;unfold Q9;exact Zr _ _ _
     ·exact absurd h (by decide)
  ·rw[if_neg h0]at h;exact absurd h h0
 |true=>
  simp only[O5,cond_true]at h ⊢
  obtain⟨k,hk,e⟩:=YL h;obtain⟨f1,f2⟩:=aaC hf hk;rw[e]at f1 f2;simp only at f1 f2;refine⟨?_,f2,(congrArg aiF f1).trans (Zw _ _),?_⟩
  ·unfold WL at h;by_cases h0:Rz (key,ad,[],[])=0
   ·exact h0
   ·rw[if_neg h0]at h;exact absurd h h0
  ·have:=hb (rd k0 xs (k:Int)) (OB (by omega) (by show (k:Int)<(xs.length:Int);omega));rw[e]at this;exact this
theorem v_B{v:VV}(h:Ty.ok (.pair .bool (.lst (.pair .str (.pair (.lst .str) (.pair .str .str))))) v):vB v:=by
 obtain⟨_,h1,h2⟩:=h;intro k hk;obtain⟨a,⟨b1,b2⟩,c,d⟩:=h2 k hk;exact c.2
end Go.AM
end
section
namespace Go.AM
def findF(l:List FF)(kind:Int):List Int:=((ahR l.length).filter fun k:Nat=>decide ((rd f0 l (k:Int)).1=kind)).map fun k:Nat=>(k:Int)
def UF(l:List FF)(kind:Int)(n:Nat):List Int:=((ahR n).filter fun k:Nat=>decide ((rd f0 l (k:Int)).1=kind)).map fun k:Nat=>(k:Int)
theorem Vw(l:List FF)(kind:Int)(n:Nat):(UF l kind n).length<=n:=by
 unfold UF;rw[aiA];exact ai4 (List.length_filter_le _ _) (by simp)
theorem WE(l:List FF)(kind:Int)(n:Nat):UF l kind (n+1)=if(rd f0 l (n:Int)).1=kind then UF l kind n++[(n:Int)]else UF l kind n:=by
 unfold UF;rw[List.range_succ,List.filter_append,List.map_append];by_cases h:(rd f0 l (n:Int)).1=kind
 ·rw[if_pos h,aix (by simpa using h)];rfl
 ·rw[if_neg h,aiw (by simpa using h)];simp
theorem Yu{l:List FF}(kind:Int)(hl:l.length<=140737488351232)(h2:l.length<8796093022208):Pv.run .lim (l,kind,())=some (findF l kind):=by
 have e:=NU (f:=Pv.l0 .lim) (fun k=>(kind,l,(l.length:Int),(k:Int),UF l kind k,())) (n:=l.length) (fun k hk=>by
  rw[Pv.q0];have hn:=Vw l kind k;simp only[Pv.b0,MK (show (k:Int)<(l.length:Int) by omega),MV (show (0:Int)<=(k:Int) by omega) (show (k:Int)<(l.length:Int) by omega),cond_true,Qz k (by omega),WE];by_cases h:(rd f0 l (k:Int)).1=kind
  ·rw[MK h,if_pos h];simp only[cond_true];rw[cond_pos (MK (show (UF l kind k).length+[(k:Int)].length<8796093022208 by simp;omega))]
  ·rw[MO h,if_neg h];rfl)
 have e0:Pv.l0 .lim (kind,l,(l.length:Int),0,([]:List Int),())=_:=e;simp only[Pv.run,MR (show l.length<9223372036854775808 by omega),cond_true,e0];rw[Pv.q0];simp only[Pv.b0,MO (show ¬(l.length:Int)<(l.length:Int) by omega),cond_false,ahw];rfl
theorem Vb{l:List FF}(kind:Int)(hl:l.length<=140737488351232)(h2:l.length<8796093022208):Nk.run .lim (l,kind,())=some (findF l kind):=by
 have e:=NU (f:=Nk.l0 .lim) (fun k=>(l,kind,(k:Int),UF l kind k,())) (n:=l.length) (fun k hk=>by
  rw[Nk.q0];have hn:=Vw l kind k;simp only[Nk.b0,MR (show l.length<9223372036854775808 by omega),MK (show (k:Int)<(l.length:Int) by omega),MV (show (0:Int)<=(k:Int) by omega) (show (k:Int)<(l.length:Int) by omega),cond_true,Qz k (by omega),WE];by_cases h:(rd f0 l (k:Int)).1=kind
  ·rw[MK h,if_pos h];simp only[cond_true];rw[cond_pos (MK (show (UF l kind k).length+[(k:Int)].length<8796093022208 by simp;omega))]
  ·rw[MO h,if_neg h];rfl)
 have e0:Nk.l0 .lim (l,kind,0,([]:List Int),())=_:=e;simp only[Nk.run,e0];rw[Nk.q0];simp only[Nk.b0,MR (show l.length<9223372036854775808 by omega),MO (show ¬(l.length:Int)<(l.length:Int) by omega),cond_true,cond_false,ahw];rfl
def QF(l:List FF)(kind:Int):Option Nat:=(ahR l.length).find? fun k:Nat=>decide ((rd f0 l (k:Int)).1=kind)
theorem VI{α:Type}(p:α->Bool): ∀l:List α,l.find? p=(l.filter p).head?
 |[]=>rfl
 |a::l=>by
  cases h:p a with
  |true=>rw[List.find?_cons_of_pos h,aix h];rfl
  |false=>rw[List.find?_cons_of_neg (by simp[h]),aiw (by simp[h]),VI p l]
theorem Ru(l:List FF)(kind:Int):(QF l kind=none/\findF l kind=[])\/ ∃k r,QF l kind=some k/\findF l kind=(k:Int)::r/\k<l.length/\(rd f0 l (k:Int)).1=kind:=by
 unfold QF findF;rw[VI];cases h:(ahR l.length).filter (fun k:Nat=>decide ((rd f0 l (k:Int)).1=kind))with
 |nil=>exact .inl ⟨rfl,rfl⟩
 |cons k r=>
  have hm:k∈(ahR l.length).filter (fun k:Nat=>decide ((rd f0 l (k:Int)).1=kind)):=by rw[h];exact .head _
  obtain⟨h1,h2⟩:=List.mem_filter.1 hm;exact .inr ⟨k,_,rfl,rfl,ahW.1 h1,by simpa using h2⟩
theorem Rh(l:List FF)(kind:Int):(findF l kind).length<=l.length:=Vw l kind l.length
def Q5(l:List FF)(kind:Int):List Int×Int:=
 if(findF l kind).length=0 then([],19)else if(findF l kind).length=1 then((rd f0 l (rd 0 (findF l kind) 0)).2,0)else([],24)
theorem aaU{l:List FF}{kind:Int}(h:(findF l kind).length≠0):inB 0 ((findF l kind).length:Int)=true/\inB (rd 0 (findF l kind) 0) (l.length:Int)=true:=by
 refine⟨MV (by omega) (by omega),?_⟩;rcases Ru l kind with⟨_,q⟩|⟨k,r,_,q,hk,_⟩
 ·rw[q]at h;exact absurd rfl h
 ·rw[q];exact MV (show (0:Int)<=(k:Int) by omega) (show (k:Int)<(l.length:Int) by omega)
theorem aaT{l:List FF}(kind:Int)(hl:l.length<8796093022208):Td.run .lim (l,kind,())=some ((Q5 l kind).1,(Q5 l kind).2,()):=by
 have hn:=Rh l kind;simp only[Td.run,Yu kind (by omega) hl,ahw,MR (show (findF l kind).length<9223372036854775808 by omega),cond_true];unfold Q5;by_cases h0:(findF l kind).length=0
 ·rw[MK (show ((findF l kind).length:Int)=0 by omega),if_pos h0];rfl
 ·rw[MO (show ¬((findF l kind).length:Int)=0 by omega),if_neg h0];obtain⟨i1,i2⟩:=aaU h0;by_cases h1:(findF l kind).length=1
  ·rw[MK (show ((findF l kind).length:Int)=1 by omega),if_pos h1];simp only[cond_true,cond_false,i1,i2]
  ·rw[MO (show ¬((findF l kind).length:Int)=1 by omega),if_neg h1];rfl
theorem Zg{l:List FF}(kind:Int)(hl:l.length<8796093022208):O7.run .lim (l,kind,())=some ((Q5 l kind).1,(Q5 l kind).2,()):=by
 have hn:=Rh l kind;simp only[O7.run,Vb kind (by omega) hl,ahw,MR (show (findF l kind).length<9223372036854775808 by omega),cond_true];unfold Q5;by_cases h0:(findF l kind).length=0
 ·rw[MK (show ((findF l kind).length:Int)=0 by omega),if_pos h0];rfl
 ·rw[MO (show ¬((findF l kind).length:Int)=0 by omega),if_neg h0];obtain⟨i1,i2⟩:=aaU h0;by_cases h1:(findF l kind).length=1
  ·rw[MO (show ¬((findF l kind).length:Int)>1 by omega),if_pos h1];simp only[cond_true,cond_false,i1,i2]
  ·rw[MK (show ((findF l kind).length:Int)>1 by omega),if_neg h1];rfl
def Ry(n:Nat):Nat:=(4-n%4)%4
def S_(s:List Int):List Int:=s++ahO (Ry s.length) 0
theorem Vz: ∀n,EW [0] n=ahO n (0:Int)
 |0=>rfl
 |n+1=>by rw[EW,Vz n];rfl
theorem acF(n:Int):I9 .i64 n 3=n%4:=by
 show ahz.wrap ((ah7 64 n &&& ah7 64 3).toNat:Int)=_;rw[aiP,aiq,show (ah7 64 3).toNat=2^2-1 from rfl,aii];rw[wrap64 (by omega) (by omega)];omega
theorem Xv{s:List Int}(h:s.length<4611686018427387904):QG.run .lim (s,())=some (S_ s):=by
 have w:ahz.wrap (0-(s.length:Int))= -(s.length:Int):=by rw[wrap64 (by omega) (by omega)];omega
 have e:I9 .i64 (-(s.length:Int)) 3=(Ry s.length:Int):=by rw[acF];unfold Ry;omega
 have hp:Ry s.length<4:=by unfold Ry;omega
 simp only[QG.run,MR (show s.length<9223372036854775808 by omega),cond_true,w,e];have hr:strings_Repeat.run .lim ([0],(Ry s.length:Int),())=some (ahO (Ry s.length) 0):=by
  show KW ([0],(Ry s.length:Int),())=_;unfold KW;simp only[ahT];rw[MK (show (0:Int)<=(Ry s.length:Int) by omega),aiC (show [(0:Int)].length*Ry s.length<=140737488355328 by simp;omega),Vz];rfl
 simp only[hr,ahw];rw[cond_pos (MK (show s.length+(ahO (Ry s.length) (0:Int)).length<=maxStr by rw[ah2];unfold maxStr;omega))];rfl
theorem XW: ∀(d:Nat) (s:List Int),s.length+d<4611686018427387904->Ry s.length=d->NJ.l0 .lim (s,())=some (s++ahO d 0,()):=by
 intro d
 induction d with
 |zero=>
  intro s h hd;rw[NJ.q0];have:(s.length:Int).tmod 4=0:=by rw[ahZ (by omega)];unfold Ry at hd;omega
  simp only[NJ.b0,MR (show s.length<9223372036854775808 by omega),cond_true,MK this,ahx,cond_false,aiH,aiW]
 |succ d ih=>
  intro s h hd;rw[NJ.q0];have: ¬(s.length:Int).tmod 4=0:=by rw[ahZ (by omega)];unfold Ry at hd;omega
  simp only[NJ.b0,MR (show s.length<9223372036854775808 by omega),cond_true,MO this,ahB];rw[cond_pos (MK (show s.length+[(0:Int)].length<=maxStr by simp;unfold maxStr;omega)),ih (s++[0]) (by simp;omega) (by unfold Ry at hd ⊢;simp;omega),ah5];rfl
theorem WT{s:List Int}(h:s.length<4611686018427387900):NJ.run .lim (s,())=some (S_ s):=by
 have hp:Ry s.length<4:=by unfold Ry;omega
 simp only[NJ.run,XW _ s (by omega) rfl,ahw];rfl
def Tv(b:List Int):Nat:=(rd 0 b 2*256+rd 0 b 3).toNat
def UJ(b:List Int):Prop:= ¬(rd 0 b 0*256+rd 0 b 1=16)\/b.length<20+Tv b\/b.drop 20≠S_ ((b.take (20+Tv b)).drop 20)
open Classical in
noncomputable def Uc(b:List Int):List Int×List Int×Int:=
 if b.length<4 then([],[],11)else if UJ b then([],[],10)else((b.take 20).drop 4,(b.take (20+Tv b)).drop 20,0)
end Go.AM
end
section
namespace Go.AM
theorem Yl{b:List Int}(hb:Bs b){k:Nat}(h:k<b.length):B8 (rd 0 b (k:Int)):=hb _ (OB (by omega) (by omega))
theorem Y_{α:Type}{d:α}{xs:List α}{n k:Nat}:rd d (xs.drop n) (k:Int)=rd d xs ((n+k:Nat):Int):=by unfold rd;rw[ahT,ahT,aip,aip,List.getElem?_drop]
theorem QB{α:Type}{s:List α}{b:Nat}{j:Int}(hj:j=(b:Int)):cut s 0 j=s.take b:=by subst hj;rfl
theorem Yq{b:List Int}(hb:Bs b)(hl:b.length<1000000):Rj.run .lim (b,())=some ((Uc b).1,(Uc b).2.1,(Uc b).2.2,()):=by
 simp only[Rj.run,MR (show b.length<9223372036854775808 by omega),cond_true];have hc0:cut b 2 (b.length:Int)=b.drop 2:=RI (a:=2) rfl;have hc1:cut b 0 2=b.take 2:=QB (b:=2) rfl;simp only[hc0,hc1];unfold Uc;by_cases h2:b.length<2
 ·rw[MK (show (b.length:Int)<2 by omega),if_pos (by omega)];rfl
 rw[MO (show ¬(b.length:Int)<2 by omega)];have l2:(b.drop 2).length=b.length-2:=ahP;have lt2:(b.take 2).length=2:=by rw[ahQ];omega
 simp only[cond_false,M_ (show (0:Int)<=0 by omega) (show (0:Int)<=2 by omega) (show (2:Int)<=(b.length:Int) by omega),M_ (show (0:Int)<=2 by omega) (show (2:Int)<=(b.length:Int) by omega) (ahU _),cond_true,lt2,
  MV (show (0:Int)<=0 by omega) (show (0:Int)<((2:Nat):Int) by omega),MV (show (0:Int)<=1 by omega) (show (1:Int)<((2:Nat):Int) by omega),MR (show (b.drop 2).length<9223372036854775808 by omega)]
 by_cases h4:b.length<4
 ·rw[MK (show ((b.drop 2).length:Int)<2 by omega),if_pos h4];rfl
 rw[MO (show ¬((b.drop 2).length:Int)<2 by omega),if_neg h4];have hc2:cut (b.drop 2) 0 2=(b.drop 2).take 2:=QB (b:=2) rfl;have hc3:cut (b.drop 2) 2 ((b.drop 2).length:Int)=b.drop 4:=(show cut (b.drop 2) 2 ((b.drop 2).length:Int)=(b.drop 2).drop 2 from RI (a:=2) rfl).trans (by rw[aif]);have lt3:((b.drop 2).take 2).length=2:=by rw[ahQ];omega
 have l4:(b.drop 4).length=b.length-4:=ahP;have r0:rd 0 (b.take 2) 0=rd 0 b 0:=RP (k:=0) (n:=2) (by decide);have r1:rd 0 (b.take 2) 1=rd 0 b 1:=RP (k:=1) (n:=2) (by decide);have r2:rd 0 ((b.drop 2).take 2) 0=rd 0 b 2:=(RP (k:=0) (n:=2) (by decide)).trans (Y_ (n:=2) (k:=0));have r3:rd 0 ((b.drop 2).take 2) 1=rd 0 b 3:=(RP (k:=1) (n:=2) (by decide)).trans (Y_ (n:=2) (k:=1));have b0:B8 (rd 0 b 0):=Yl hb (k:=0) (by omega);have b1:B8 (rd 0 b 1):=Yl hb (k:=1) (by omega);have b2:B8 (rd 0 b 2):=Yl hb (k:=2) (by omega);have b3:B8 (rd 0 b 3):=Yl hb (k:=3) (by omega);have hm:rd 0 b 2*256+rd 0 b 3=(Tv b:Int):=by unfold Tv;omega
 have hm2:Tv b<65536:=by unfold Tv;omega
 simp only[cond_false,hc2,hc3,lt3,r0,r1,r2,r3,adO b0 b1,adO b2 b3,hm,M_ (show (0:Int)<=0 by omega) (show (0:Int)<=2 by omega) (show (2:Int)<=((b.drop 2).length:Int) by omega),M_ (show (0:Int)<=2 by omega) (show (2:Int)<=((b.drop 2).length:Int) by omega) (ahU _),cond_true,
  MV (show (0:Int)<=0 by omega) (show (0:Int)<((2:Nat):Int) by omega),MV (show (0:Int)<=1 by omega) (show (1:Int)<((2:Nat):Int) by omega)]
 by_cases hn:rd 0 b 0*256+rd 0 b 1=16
 ·simp only[hn,decide_true,ahx,cond_false,MR (show (b.drop 4).length<9223372036854775808 by omega),cond_true];by_cases h20:b.length<20
  ·rw[MK (show ((b.drop 4).length:Int)<16 by omega),if_pos (show UJ b from .inr (.inl (by omega)))];rfl
  rw[MO (show ¬((b.drop 4).length:Int)<16 by omega)];have hc4:cut (b.drop 4) 0 16=(b.take 20).drop 4:=(show cut (b.drop 4) 0 16=(b.drop 4).take 16 from QB (b:=16) rfl).trans (by rw[aiE]);have hc5:cut (b.drop 4) 16 ((b.drop 4).length:Int)=b.drop 20:=(show cut (b.drop 4) 16 ((b.drop 4).length:Int)=(b.drop 4).drop 16 from RI (a:=16) rfl).trans (by rw[aif]);have l20:(b.drop 20).length=b.length-20:=ahP;simp only[cond_false,hc4,hc5,M_ (show (0:Int)<=0 by omega) (show (0:Int)<=16 by omega) (show (16:Int)<=((b.drop 4).length:Int) by omega),M_ (show (0:Int)<=16 by omega) (show (16:Int)<=((b.drop 4).length:Int) by omega) (ahU _),cond_true,MR (show (b.drop 20).length<9223372036854775808 by omega)];by_cases hmm:b.length<20+Tv b
  ·rw[MK (show ((b.drop 20).length:Int)<(Tv b:Int) by omega),if_pos (show UJ b from .inr (.inl hmm))];rfl
  rw[MO (show ¬((b.drop 20).length:Int)<(Tv b:Int) by omega)];have hc6:cut (b.drop 20) 0 (Tv b:Int)=(b.drop 20).take (Tv b):=QB rfl;have hc7:cut (b.drop 20) (Tv b:Int) ((b.drop 20).length:Int)=(b.drop 20).drop (Tv b):=RI rfl;have ls:((b.drop 20).take (Tv b)).length=Tv b:=by rw[ahQ];omega
  have hst:(b.take (20+Tv b)).drop 20=(b.drop 20).take (Tv b):=by rw[aiE];congr 1;omega
  have ad5:((b.drop 20).take (Tv b)).length+((b.drop 20).drop (Tv b)).length<=maxStr:=by rw[ls,ahP];unfold maxStr;omega
  simp only[cond_false,hc6,hc7,M_ (show (0:Int)<=0 by omega) (show (0:Int)<=(Tv b:Int) by omega) (show (Tv b:Int)<=((b.drop 20).length:Int) by omega),M_ (show (0:Int)<=(Tv b:Int) by omega) (show (Tv b:Int)<=((b.drop 20).length:Int) by omega) (ahU _),cond_true];rw[cond_pos (MK ad5),Xv (show ((b.drop 20).take (Tv b)).length<4611686018427387904 by omega)];simp only[ahw,ah9];by_cases hf:b.drop 20=S_ ((b.drop 20).take (Tv b))
  ·rw[MK hf,if_neg (show ¬UJ b from fun q=>by
    rcases q with q|q|q
    ·exact q hn
    ·exact hmm q
    ·exact q (by rw[hst];exact hf)),hst];rfl
  ·rw[MO hf,if_pos (show UJ b from .inr (.inr (by rw[hst];exact hf)))];rfl
 ·rw[MO hn,if_pos (show UJ b from .inl hn)];rfl
theorem ZW{b:List Int}(hb:Bs b)(hl:b.length<1000000):O_.run .lim (b,())=some ((Uc b).1,(Uc b).2.1,(Uc b).2.2,()):=by
 simp only[O_.run,MR (show b.length<9223372036854775808 by omega),cond_true];unfold Uc;by_cases h4:b.length<4
 ·rw[MK (show (b.length:Int)<4 by omega),if_pos h4];rfl
 rw[MO (show ¬(b.length:Int)<4 by omega),if_neg h4];have b0:B8 (rd 0 b 0):=Yl hb (k:=0) (by omega);have b1:B8 (rd 0 b 1):=Yl hb (k:=1) (by omega);have b2:B8 (rd 0 b 2):=Yl hb (k:=2) (by omega);have b3:B8 (rd 0 b 3):=Yl hb (k:=3) (by omega);have hm:rd 0 b 2*256+rd 0 b 3=(Tv b:Int):=by unfold Tv;omega
 have hm2:Tv b<65536:=by unfold Tv;omega
 have i: ∀a:Int,0<=a->a<4->inB a (b.length:Int)=true:=fun a x y=>MV x (by omega)
 simp only[cond_false,i 0 (by decide) (by decide),i 1 (by decide) (by decide),i 2 (by decide) (by decide),i 3 (by decide) (by decide),cond_true,acJ b0 b1,acJ b2 b3,hm,ahC];by_cases hn:rd 0 b 0*256+rd 0 b 1=16
 ·have w1:ahz.wrap (4+16)=20:=by decide
  have w2:ahz.wrap (20+(Tv b:Int))=((20+Tv b:Nat):Int):=by rw[wrap64 (by omega) (by omega)];omega
  simp only[hn,decide_true,ahx,ahF,w1,w2];by_cases hmm:b.length<20+Tv b
  ·rw[MK (show (b.length:Int)<((20+Tv b:Nat):Int) by omega),if_pos (show UJ b from .inr (.inl hmm))];rfl
  rw[MO (show ¬(b.length:Int)<((20+Tv b:Nat):Int) by omega)];have hc4:cut b 4 20=(b.take 20).drop 4:=Qe (a:=4) (b:=20) rfl rfl;have hc5:cut b 20 (b.length:Int)=b.drop 20:=RI (a:=20) rfl;have hc6:cut b 20 ((20+Tv b:Nat):Int)=(b.take (20+Tv b)).drop 20:=Qe (a:=20) rfl rfl;have ls:((b.take (20+Tv b)).drop 20).length=Tv b:=by rw[TP (by omega)];omega
  simp only[cond_false,hc4,hc5,hc6,M_ (show (0:Int)<=20 by omega) (show (20:Int)<=((20+Tv b:Nat):Int) by omega) (show ((20+Tv b:Nat):Int)<=(b.length:Int) by omega),M_ (show (0:Int)<=20 by omega) (show (20:Int)<=(b.length:Int) by omega) (ahU _),M_ (show (0:Int)<=4 by omega) (show (4:Int)<=20 by omega) (show (20:Int)<=(b.length:Int) by omega),cond_true,
   WT (show ((b.take (20+Tv b)).drop 20).length<4611686018427387900 by omega),ahw]
  by_cases hf:b.drop 20=S_ ((b.take (20+Tv b)).drop 20)
  ·rw[MK hf,if_neg (show ¬UJ b from fun q=>by
    rcases q with q|q|q
    ·exact q hn
    ·exact hmm q
    ·exact q hf)];rfl
  ·rw[MO hf,if_pos (show UJ b from .inr (.inr hf))];rfl
 ·rw[MO hn,if_pos (show UJ b from .inl hn)];rfl
theorem acM{b:List Int}(hb:Bs b):Bs (Uc b).1/\Bs (Uc b).2.1/\(Uc b).1.length<=b.length/\(Uc b).2.1.length<=b.length:=by
 unfold Uc;split
 ·exact⟨fun x h=>(by cases h),fun x h=>(by cases h),by simp,by simp⟩
 ·split
  ·exact⟨fun x h=>(by cases h),fun x h=>(by cases h),by simp,by simp⟩
  ·exact⟨(hb.take _).drop _,(hb.take _).drop _,by rw[ahP,ahQ];omega,by rw[ahP,ahQ];omega⟩
theorem acg{a b:List FF}(ha:a.length<9223372036854775808)(hb:b.length<9223372036854775808):N_.run .lim (a,b,())=some (decide (a=b)):=by
 simp only[N_.run,MR ha,MR hb,cond_true];by_cases hl:a.length=b.length
 ·rw[MK (show (a.length:Int)=(b.length:Int) by omega)];have e:=QT (f:=N_.l0 .lim) (fun k=>(a,b,(k:Int),())) a.length (fun k:Nat=> !decide (rd f0 a (k:Int)=rd f0 b (k:Int))) (some (.inl (false,()))) (fun k hk=>by
   rw[N_.q0];have w:ahz.wrap ((k:Int)+1)=((k+1:Nat):Int):=by rw[wrap64 (by omega) (by omega)];omega
   have hd:((decide ((rd f0 a (k:Int)).1=(rd f0 b (k:Int)).1))&&(decide ((rd f0 a (k:Int)).2=(rd f0 b (k:Int)).2)))=decide (rd f0 a (k:Int)=rd f0 b (k:Int)):=by rw[aiS];simp[Prod.ext_iff]
   simp only[N_.b0,MR ha,MK (show (k:Int)<(a.length:Int) by omega),MV (show (0:Int)<=(k:Int) by omega) (show (k:Int)<(a.length:Int) by omega),MV (show (0:Int)<=(k:Int) by omega) (show (k:Int)<(b.length:Int) by omega),cond_true,w,hd])
  rw[Wx hl]at e;have e0:N_.l0 .lim (a,b,0,())=_:=e;simp only[ahx,cond_false,e0];by_cases hq:a=b
  ·rw[MK hq];simp only[ahx,cond_false];rw[N_.q0];simp only[N_.b0,MR ha,MO (show ¬(a.length:Int)<(a.length:Int) by omega),cond_true,cond_false,ahw]
  ·rw[MO hq];rfl
 ·rw[MO (show ¬(a.length:Int)=(b.length:Int) by omega),MO (show ¬a=b from fun q=>hl (by rw[q]))];rfl
theorem Sr{c:Bool}{x:Option Bool}{d:Bool}(h:x=some d):(bif c then x else some false)=some (c&&d):=by cases c<;>simp[h]
def XD(a b:PK):Bool:=((((((((((((decide (a.1=b.1)&&decide (a.2.1=b.2.1))&&decide (a.2.2.1=b.2.2.1))&&decide (a.2.2.2.1=b.2.2.2.1))&&decide (a.2.2.2.2.1=b.2.2.2.2.1))&&decide (a.2.2.2.2.2.1=b.2.2.2.2.2.1))&&decide (a.2.2.2.2.2.2.1=b.2.2.2.2.2.2.1))&&decide (a.2.2.2.2.2.2.2.1=b.2.2.2.2.2.2.2.1))&&decide (a.2.2.2.2.2.2.2.2.1=b.2.2.2.2.2.2.2.2.1))&&decide (a.2.2.2.2.2.2.2.2.2.1=b.2.2.2.2.2.2.2.2.2.1))&&decide (a.2.2.2.2.2.2.2.2.2.2.1=b.2.2.2.2.2.2.2.2.2.2.1))&&decide (a.2.2.2.2.2.2.2.2.2.2.2.1=b.2.2.2.2.2.2.2.2.2.2.2.1))&&decide (a.2.2.2.2.2.2.2.2.2.2.2.2.1=b.2.2.2.2.2.2.2.2.2.2.2.2.1))&&decide (a.fs=b.fs)
theorem ZY(a b:PK):XD a b=true ↔ a=b:=by
 obtain⟨a1,a2,a3,a4,a5,a6,a7,a8,a9,a10,a11,a12,a13,al⟩:=a;obtain⟨b1,b2,b3,b4,b5,b6,b7,b8,b9,b10,b11,b12,b13,bl⟩:=b;unfold XD;simp only[ahX,decide_eq_true_eq,Prod.mk.injEq];constructor
 ·rintro⟨⟨⟨⟨⟨⟨⟨⟨⟨⟨⟨⟨⟨h1,h2⟩,h3⟩,h4⟩,h5⟩,h6⟩,h7⟩,h8⟩,h9⟩,h10⟩,h11⟩,h12⟩,h13⟩,LG⟩
  exact⟨h1,h2,h3,h4,h5,h6,h7,h8,h9,h10,h11,h12,h13,LG⟩
 ·rintro⟨h1,h2,h3,h4,h5,h6,h7,h8,h9,h10,h11,h12,h13,LG⟩
  exact⟨⟨⟨⟨⟨⟨⟨⟨⟨⟨⟨⟨⟨h1,h2⟩,h3⟩,h4⟩,h5⟩,h6⟩,h7⟩,h8⟩,h9⟩,h10⟩,h11⟩,h12⟩,h13⟩,LG⟩
theorem ZX{a b:PK}(ha:a.fs.length<9223372036854775808)(hb:b.fs.length<9223372036854775808):Qa.run .lim (a,b,())=some (XD a b):=by
 simp only[Qa.run];rw[Sr (acg ha hb)];simp only[ahw];generalize hx:(((((((decide (a.1=b.1)&&decide (a.2.1=b.2.1))&&decide (a.2.2.1=b.2.2.1))&&decide (a.2.2.2.1=b.2.2.2.1))&&decide (a.2.2.2.2.1=b.2.2.2.2.1))&&decide (a.2.2.2.2.2.1=b.2.2.2.2.2.1))&&decide (a.2.2.2.2.2.2.1=b.2.2.2.2.2.2.1))&&decide (a.2.2.2.2.2.2.2.1=b.2.2.2.2.2.2.2.1))=x;have hn:((((((((!(decide (a.1=b.1)))||(!(decide (a.2.1=b.2.1))))||(!(decide (a.2.2.1=b.2.2.1))))||(!(decide (a.2.2.2.1=b.2.2.2.1))))||(!(decide (a.2.2.2.2.1=b.2.2.2.2.1))))||(!(decide (a.2.2.2.2.2.1=b.2.2.2.2.2.1))))||(!(decide (a.2.2.2.2.2.2.1=b.2.2.2.2.2.2.1))))||(!(decide (a.2.2.2.2.2.2.2.1=b.2.2.2.2.2.2.2.1))))= !x:=by rw[<-hx];simp only[Bool.not_and]
 rw[hn];have hs:XD a b=(x&&(((((decide (a.2.2.2.2.2.2.2.2.1=b.2.2.2.2.2.2.2.2.1)&&decide (a.2.2.2.2.2.2.2.2.2.1=b.2.2.2.2.2.2.2.2.2.1))&&decide (a.2.2.2.2.2.2.2.2.2.2.1=b.2.2.2.2.2.2.2.2.2.2.1))&&decide (a.2.2.2.2.2.2.2.2.2.2.2.1=b.2.2.2.2.2.2.2.2.2.2.2.1))&&decide (a.2.2.2.2.2.2.2.2.2.2.2.2.1=b.2.2.2.2.2.2.2.2.2.2.2.2.1))&&decide (a.fs=b.fs))):=by
  unfold XD;rw[<-hx];simp only[Bool.and_assoc]
 rw[hs];cases x with
 |false=>rfl
 |true=>
  simp only[ahx,cond_false,ahH];congr 1;rw[aiS];simp only[ahX];constructor
  ·rintro⟨h,_,k⟩;exact⟨h,k⟩
  ·rintro⟨h,k⟩;exact⟨h,h,k⟩
abbrev NT:=PK×List FF×List FF
abbrev n0:NT:=(p0,([],[]))
structure NL(a:NT):Prop where
 x:a.1.fs.length<9223372036854775808
 y:a.2.1.length<9223372036854775808
 z:a.2.2.length<9223372036854775808
end Go.AM
end
section
namespace Go.AM
noncomputable def Qu(v:VV)(s key:List Int):NT×Int:=
 if Xn s=0 then
  match QF (O1 s).fs 1028 with
  |none=>(n0,19)
  |some k=>
   if(Uc (rd f0 (O1 s).fs (k:Int)).2).2.2=0 then
    if(O5 v key [s.take (48+(Nl ((O1 s).fs.take k)).length),(Uc (rd f0 (O1 s).fs (k:Int)).2).1] (Uc (rd f0 (O1 s).fs (k:Int)).2).2.1).2=0 then
     if(UD (O5 v key [s.take (48+(Nl ((O1 s).fs.take k)).length),(Uc (rd f0 (O1 s).fs (k:Int)).2).1] (Uc (rd f0 (O1 s).fs (k:Int)).2).2.1).1.length (O5 v key [s.take (48+(Nl ((O1 s).fs.take k)).length),(Uc (rd f0 (O1 s).fs (k:Int)).2).1] (Uc (rd f0 (O1 s).fs (k:Int)).2).2.1).1 []).2=0 then
      ((PK.cut (O1 s) [],((O1 s).fs.take k,(UD (O5 v key [s.take (48+(Nl ((O1 s).fs.take k)).length),(Uc (rd f0 (O1 s).fs (k:Int)).2).1] (Uc (rd f0 (O1 s).fs (k:Int)).2).2.1).1.length (O5 v key [s.take (48+(Nl ((O1 s).fs.take k)).length),(Uc (rd f0 (O1 s).fs (k:Int)).2).1] (Uc (rd f0 (O1 s).fs (k:Int)).2).2.1).1 []).1)),0)
     else(n0,(UD (O5 v key [s.take (48+(Nl ((O1 s).fs.take k)).length),(Uc (rd f0 (O1 s).fs (k:Int)).2).1] (Uc (rd f0 (O1 s).fs (k:Int)).2).2.1).1.length (O5 v key [s.take (48+(Nl ((O1 s).fs.take k)).length),(Uc (rd f0 (O1 s).fs (k:Int)).2).1] (Uc (rd f0 (O1 s).fs (k:Int)).2).2.1).1 []).2)
    else(n0,(O5 v key [s.take (48+(Nl ((O1 s).fs.take k)).length),(Uc (rd f0 (O1 s).fs (k:Int)).2).1] (Uc (rd f0 (O1 s).fs (k:Int)).2).2.1).2)
   else(n0,(Uc (rd f0 (O1 s).fs (k:Int)).2).2.2)
 else(n0,Xn s)
theorem aaz{l:List FF}(hb: ∀f∈l,f.2.length<65532): ∀j,(Nl (l.take j)).length<=j*65536:=fun j=>by
 induction j with
 |zero=>exact aiI _
 |succ j ih=>
  rw[Nat.add_mul];by_cases hjl:j<l.length
  ·rw[SA hjl,ahM,Sv];have:=hb _ (OB (d:=f0) (xs:=l) (i:=(j:Int)) (by omega) (by omega));omega
  ·have e1:l.take (j+1)=l:=ahS (by omega);have e2:l.take j=l:=ahS (by omega);rw[e2]at ih;rw[e1];exact ai4 ih (Nat.le_add_right _ _)
theorem aaO{v:VV}{key:List Int}{r:PK}(h:r.fs.length<=16):
  Pz.l0 .lim (r.2.2.2.2.2.2.2.2.2.2.2.2.2,(r.2.2.2.2.2.2.2.2.2.2.2.2.2.length:Int),0,key,v.1,v.2,0,0,0,0,0,0,0,0,0,0,0,0,0,r.1,r.2.1,r.2.2.1,r.2.2.2.1,r.2.2.2.2.1,r.2.2.2.2.2.1,r.2.2.2.2.2.2.1,r.2.2.2.2.2.2.2.1,r.2.2.2.2.2.2.2.2.1,r.2.2.2.2.2.2.2.2.2.1,r.2.2.2.2.2.2.2.2.2.2.1,r.2.2.2.2.2.2.2.2.2.2.2.1,r.2.2.2.2.2.2.2.2.2.2.2.2.1,r.2.2.2.2.2.2.2.2.2.2.2.2.2,())=match QF r.fs 1028 with
   |some k=>some (.inl ((k:Int),key,v.1,v.2,0,0,0,0,0,0,0,0,0,0,0,0,0,r.1,r.2.1,r.2.2.1,r.2.2.2.1,r.2.2.2.2.1,r.2.2.2.2.2.1,r.2.2.2.2.2.2.1,r.2.2.2.2.2.2.2.1,r.2.2.2.2.2.2.2.2.1,r.2.2.2.2.2.2.2.2.2.1,r.2.2.2.2.2.2.2.2.2.2.1,r.2.2.2.2.2.2.2.2.2.2.2.1,r.2.2.2.2.2.2.2.2.2.2.2.2.1,r.2.2.2.2.2.2.2.2.2.2.2.2.2,()))
   |none=>some (.inr (key,v.1,v.2,0,0,0,0,0,0,0,0,0,0,0,0,0,r.1,r.2.1,r.2.2.1,r.2.2.2.1,r.2.2.2.2.1,r.2.2.2.2.2.1,r.2.2.2.2.2.2.1,r.2.2.2.2.2.2.2.1,r.2.2.2.2.2.2.2.2.1,r.2.2.2.2.2.2.2.2.2.1,r.2.2.2.2.2.2.2.2.2.2.1,r.2.2.2.2.2.2.2.2.2.2.2.1,r.2.2.2.2.2.2.2.2.2.2.2.2.1,r.2.2.2.2.2.2.2.2.2.2.2.2.2,())):=by
 have h:r.2.2.2.2.2.2.2.2.2.2.2.2.2.length<=16:=h;have e:=Qn (f:=Pz.l0 .lim) (fun j=>(r.2.2.2.2.2.2.2.2.2.2.2.2.2,(r.2.2.2.2.2.2.2.2.2.2.2.2.2.length:Int),(j:Int),key,v.1,v.2,0,0,0,0,0,0,0,0,0,0,0,0,0,r.1,r.2.1,r.2.2.1,r.2.2.2.1,r.2.2.2.2.1,r.2.2.2.2.2.1,r.2.2.2.2.2.2.1,r.2.2.2.2.2.2.2.1,r.2.2.2.2.2.2.2.2.1,r.2.2.2.2.2.2.2.2.2.1,r.2.2.2.2.2.2.2.2.2.2.1,r.2.2.2.2.2.2.2.2.2.2.2.1,r.2.2.2.2.2.2.2.2.2.2.2.2.1,r.2.2.2.2.2.2.2.2.2.2.2.2.2,())) r.2.2.2.2.2.2.2.2.2.2.2.2.2.length (fun j:Nat=>decide ((rd f0 r.2.2.2.2.2.2.2.2.2.2.2.2.2 (j:Int)).1=1028)) (fun j=>some (.inl ((j:Int),key,v.1,v.2,0,0,0,0,0,0,0,0,0,0,0,0,0,r.1,r.2.1,r.2.2.1,r.2.2.2.1,r.2.2.2.2.1,r.2.2.2.2.2.1,r.2.2.2.2.2.2.1,r.2.2.2.2.2.2.2.1,r.2.2.2.2.2.2.2.2.1,r.2.2.2.2.2.2.2.2.2.1,r.2.2.2.2.2.2.2.2.2.2.1,r.2.2.2.2.2.2.2.2.2.2.2.1,r.2.2.2.2.2.2.2.2.2.2.2.2.1,r.2.2.2.2.2.2.2.2.2.2.2.2.2,()))) (fun k hk=>by
  rw[Pz.q0];have hr:TN.run .lim (rd ((0:Int),([]:List Int)) r.2.2.2.2.2.2.2.2.2.2.2.2.2 (k:Int),())=some (decide ((rd f0 r.2.2.2.2.2.2.2.2.2.2.2.2.2 (k:Int)).1=1028)):=rfl;simp only[Pz.b0,MK (show (k:Int)<(r.2.2.2.2.2.2.2.2.2.2.2.2.2.length:Int) by omega),MV (show (0:Int)<=(k:Int) by omega) (show (k:Int)<(r.2.2.2.2.2.2.2.2.2.2.2.2.2.length:Int) by omega),cond_true,hr,ahw,Qz k (by omega)])
 have e0:Pz.l0 .lim (r.2.2.2.2.2.2.2.2.2.2.2.2.2,(r.2.2.2.2.2.2.2.2.2.2.2.2.2.length:Int),0,key,v.1,v.2,0,0,0,0,0,0,0,0,0,0,0,0,0,r.1,r.2.1,r.2.2.1,r.2.2.2.1,r.2.2.2.2.1,r.2.2.2.2.2.1,r.2.2.2.2.2.2.1,r.2.2.2.2.2.2.2.1,r.2.2.2.2.2.2.2.2.1,r.2.2.2.2.2.2.2.2.2.1,r.2.2.2.2.2.2.2.2.2.2.1,r.2.2.2.2.2.2.2.2.2.2.2.1,r.2.2.2.2.2.2.2.2.2.2.2.2.1,r.2.2.2.2.2.2.2.2.2.2.2.2.2,())=_:=e;rw[e0];unfold QF;cases hq:(ahR r.fs.length).find? (fun k:Nat=>decide ((rd f0 r.fs (k:Int)).1=1028))with
 |some k=>
  have hq:(ahR r.2.2.2.2.2.2.2.2.2.2.2.2.2.length).find? (fun k:Nat=>decide ((rd f0 r.2.2.2.2.2.2.2.2.2.2.2.2.2 (k:Int)).1=1028))=some k:=hq;simp only[hq]
 |none=>
  have hq:(ahR r.2.2.2.2.2.2.2.2.2.2.2.2.2.length).find? (fun k:Nat=>decide ((rd f0 r.2.2.2.2.2.2.2.2.2.2.2.2.2 (k:Int)).1=1028))=none:=hq;simp only[hq];rw[Pz.q0];simp only[Pz.b0,MO (show ¬(r.2.2.2.2.2.2.2.2.2.2.2.2.2.length:Int)<(r.2.2.2.2.2.2.2.2.2.2.2.2.2.length:Int) by omega),cond_false]
theorem ace{v:VV}{s key at_:List Int}{r:PK}{k:Nat}(h:r.fs.length<=16)(hk:k<r.fs.length)(hb: ∀f∈r.fs,f.2.length<65532)(hat:rd 0 at_ 0=(k:Int))(hal:0<at_.length):
  NZ.l0 .lim (s,key,48,0,v.1,v.2,0,0,0,0,0,0,0,0,0,0,0,0,0,r.1,r.2.1,r.2.2.1,r.2.2.2.1,r.2.2.2.2.1,r.2.2.2.2.2.1,r.2.2.2.2.2.2.1,r.2.2.2.2.2.2.2.1,r.2.2.2.2.2.2.2.2.1,r.2.2.2.2.2.2.2.2.2.1,r.2.2.2.2.2.2.2.2.2.2.1,r.2.2.2.2.2.2.2.2.2.2.2.1,r.2.2.2.2.2.2.2.2.2.2.2.2.1,r.2.2.2.2.2.2.2.2.2.2.2.2.2,at_,())=some (s,key,((48+(Nl (r.fs.take k)).length:Nat):Int),v.1,v.2,0,0,0,0,0,0,0,0,0,0,0,0,0,r.1,r.2.1,r.2.2.1,r.2.2.2.1,r.2.2.2.2.1,r.2.2.2.2.2.1,r.2.2.2.2.2.2.1,r.2.2.2.2.2.2.2.1,r.2.2.2.2.2.2.2.2.1,r.2.2.2.2.2.2.2.2.2.1,r.2.2.2.2.2.2.2.2.2.2.1,r.2.2.2.2.2.2.2.2.2.2.2.1,r.2.2.2.2.2.2.2.2.2.2.2.2.1,r.2.2.2.2.2.2.2.2.2.2.2.2.2,at_,()):=by
 have h:r.2.2.2.2.2.2.2.2.2.2.2.2.2.length<=16:=h;have hk:k<r.2.2.2.2.2.2.2.2.2.2.2.2.2.length:=hk;have hal2:inB 0 (at_.length:Int)=true:=MV (by omega) (by omega);have hle:=aaz hb;have e:=NU (f:=NZ.l0 .lim) (fun j=>(s,key,((48+(Nl (r.fs.take j)).length:Nat):Int),(j:Int),v.1,v.2,0,0,0,0,0,0,0,0,0,0,0,0,0,r.1,r.2.1,r.2.2.1,r.2.2.2.1,r.2.2.2.2.1,r.2.2.2.2.2.1,r.2.2.2.2.2.2.1,r.2.2.2.2.2.2.2.1,r.2.2.2.2.2.2.2.2.1,r.2.2.2.2.2.2.2.2.2.1,r.2.2.2.2.2.2.2.2.2.2.1,r.2.2.2.2.2.2.2.2.2.2.2.1,r.2.2.2.2.2.2.2.2.2.2.2.2.1,r.2.2.2.2.2.2.2.2.2.2.2.2.2,at_,())) (n:=k) (fun j hj=>by
  rw[NZ.q0];have hl:=hle j;have hf:=hb _ (OB (d:=f0) (xs:=r.fs) (i:=(j:Int)) (by omega) (show (j:Int)<(r.2.2.2.2.2.2.2.2.2.2.2.2.2.length:Int) by omega));have es:(Nl (r.fs.take (j+1))).length=(Nl (r.fs.take j)).length+(4+(rd f0 r.2.2.2.2.2.2.2.2.2.2.2.2.2 (j:Int)).2.length):=by rw[SA (show j<r.fs.length by show j<r.2.2.2.2.2.2.2.2.2.2.2.2.2.length;omega),ahM,Sv]
  have w:ahz.wrap (ahz.wrap (((48+(Nl (r.fs.take j)).length:Nat):Int)+4)+((rd f0 r.2.2.2.2.2.2.2.2.2.2.2.2.2 (j:Int)).2.length:Int))=((48+(Nl (r.fs.take (j+1))).length:Nat):Int):=by
   have hf:(rd f0 r.2.2.2.2.2.2.2.2.2.2.2.2.2 (j:Int)).2.length<65532:=hf;rw[wrap64 (n:=((48+(Nl (r.fs.take j)).length:Nat):Int)+4) (by omega) (by omega),wrap64 (by omega) (by omega),es];omega
  simp only[NZ.b0,hal2,cond_true,hat,MK (show (j:Int)<(k:Int) by omega),MV (show (0:Int)<=(j:Int) by omega) (show (j:Int)<(r.2.2.2.2.2.2.2.2.2.2.2.2.2.length:Int) by omega),MR (show (rd f0 r.2.2.2.2.2.2.2.2.2.2.2.2.2 (j:Int)).2.length<9223372036854775808 from aiK hf (by decide)),w,Qz j (by omega)])
 have e0:NZ.l0 .lim (s,key,48,0,v.1,v.2,0,0,0,0,0,0,0,0,0,0,0,0,0,r.1,r.2.1,r.2.2.1,r.2.2.2.1,r.2.2.2.2.1,r.2.2.2.2.2.1,r.2.2.2.2.2.2.1,r.2.2.2.2.2.2.2.1,r.2.2.2.2.2.2.2.2.1,r.2.2.2.2.2.2.2.2.2.1,r.2.2.2.2.2.2.2.2.2.2.1,r.2.2.2.2.2.2.2.2.2.2.2.1,r.2.2.2.2.2.2.2.2.2.2.2.2.1,r.2.2.2.2.2.2.2.2.2.2.2.2.2,at_,())=_:=e;rw[e0,NZ.q0];simp only[NZ.b0,hal2,cond_true,hat,MO (show ¬(k:Int)<(k:Int) by omega),cond_false]
theorem aaQ{v:VV}(hv:okV v)(hf:Ri v=true)(hvb:vB v){s key:List Int}(hs:Bs s)(hl:s.length<9223372036854775808)(hk:key.length<NC)(hkb:Bs key):
  Pz.run .lim (v,s,key,())=some ((Qu v s key).1,(Qu v s key).2,())/\NZ.run .lim (v,s,key,())=some ((Qu v s key).1,(Qu v s key).2,()):=by
 simp only[Pz.run,NZ.run,XU hs hl,Yo hs hl,ahw];unfold Qu;by_cases h0:Xn s=0
 case neg=>rw[MO h0,if_neg h0];exact⟨rfl,rfl⟩
 rw[MK h0,if_pos h0];have w:=was hs h0;have hfew:=w.few;have hok:=w.ok;have hwb:=Xd hs h0;have hsl:s.length=48+(Nl (O1 s).fs).length:=by
  have:=congrArg aiF w.st;rw[ahM,ahQ,ah_ w.l0]at this;exact this
 have ad4:=w.l1;generalize O1 s=r at hfew hok hwb hsl;have hfs:r.2.2.2.2.2.2.2.2.2.2.2.2.2.length<=16:=hfew;have hff:=Vb (l:=r.fs) 1028 (by omega) (by omega);have hff:Nk.run .lim (r.2.2.2.2.2.2.2.2.2.2.2.2.2,1028,())=some (findF r.fs 1028):=hff;have acH:=Rh r.fs 1028;simp only[ahx,cond_false,MR (show r.2.2.2.2.2.2.2.2.2.2.2.2.2.length<9223372036854775808 by omega),cond_true,hff,ahw,MR (show (findF r.fs 1028).length<9223372036854775808 by omega)];rw[aaO hfew];rcases Ru r.fs 1028 with⟨q1,q2⟩|⟨k,l,q1,q2,hkl,hkd⟩
 ·simp only[q1,q2];exact⟨rfl,rfl⟩
 have hmem:rd f0 r.fs (k:Int)∈r.fs:=OB (by omega) (by omega);have hfo:=hok _ hmem;have hal:0<(findF r.fs 1028).length:=by rw[q2];simp
 have hat:rd 0 (findF r.fs 1028) 0=(k:Int):=by rw[q2];rfl
 have hkl':k<r.2.2.2.2.2.2.2.2.2.2.2.2.2.length:=hkl;rw[ace hfew hkl (fun f hf=>(hok f hf).l1) hat hal];simp only[q1,ahw,MO (show ¬((findF r.fs 1028).length:Int)=0 by omega),cond_false,MO (show ¬(k:Int)<0 by omega),M_ (show (0:Int)<=0 by omega) (show (0:Int)<=(k:Int) by omega) (ahU _),MK (show (k:Int)<=(r.2.2.2.2.2.2.2.2.2.2.2.2.2.length:Int) by omega),ahD,cond_true,
  MV (show (0:Int)<=(k:Int) by omega) (show (k:Int)<(r.2.2.2.2.2.2.2.2.2.2.2.2.2.length:Int) by omega),MV (show (0:Int)<=0 by omega) (show (0:Int)<((findF r.fs 1028).length:Int) by omega),hat]
 have hbb:Bs (rd f0 r.fs (k:Int)).2:=hfo.b;have hbl:(rd f0 r.fs (k:Int)).2.length<65532:=hfo.l1;have sp:=Yq hbb (by omega);have rsp:=ZW hbb (by omega);have sp:Rj.run .lim ((rd ((0:Int),([]:List Int)) r.2.2.2.2.2.2.2.2.2.2.2.2.2 (k:Int)).2,())=_:=sp;have rsp:O_.run .lim ((rd ((0:Int),([]:List Int)) r.2.2.2.2.2.2.2.2.2.2.2.2.2 (k:Int)).2,())=_:=rsp;obtain⟨sB1,sB2,sL1,sL2⟩:=acM hbb;simp only[sp,rsp,ahw];generalize Uc (rd f0 r.fs (k:Int)).2=g at sB1 sB2 sL1 sL2;obtain⟨MS,sealed,e⟩:=g;simp only at sB1 sB2 sL1 sL2 ⊢
 by_cases he:e=0
 case neg=>rw[MO he,if_neg he];exact⟨rfl,rfl⟩
 rw[MK he,if_pos he];have hcz:cut r.2.2.2.2.2.2.2.2.2.2.2.2.2 0 (k:Int)=r.2.2.2.2.2.2.2.2.2.2.2.2.2.take k:=QB rfl;have hw:=hwb k;have hw:Nj.run .lim ((r.1,r.2.1,r.2.2.1,r.2.2.2.1,r.2.2.2.2.1,r.2.2.2.2.2.1,r.2.2.2.2.2.2.1,r.2.2.2.2.2.2.2.1,r.2.2.2.2.2.2.2.2.1,r.2.2.2.2.2.2.2.2.2.1,r.2.2.2.2.2.2.2.2.2.2.1,r.2.2.2.2.2.2.2.2.2.2.2.1,r.2.2.2.2.2.2.2.2.2.2.2.2.1,r.2.2.2.2.2.2.2.2.2.2.2.2.2.take k),())=some (s.take (48+(Nl (r.fs.take k)).length),0,()):=hw;have hle:=WB r.fs k;generalize hN:48+(Nl (r.fs.take k)).length=N at hw;have hNs:N<=s.length:=by omega
 have hcn:cut s 0 (N:Int)=s.take N:=QB rfl;have T:Wv key [s.take N,MS] sealed:=⟨hk,hkb,by simp[NC],fun t ht=>by
  simp only[aik,aij,or_false]at ht;rcases ht with rfl|rfl
  ·rw[ahQ];exact PL (by omega)
  ·exact PL (by omega),PL (by omega)⟩
 have op:=Yh hv T sB2;have rop:=ZR hv T;have op:OW.run .lim ((v.1,v.2),key,[s.take N,MS],sealed,())=_:=op;have rop:NP.run .lim ((v.1,v.2),key,[s.take N,MS],sealed,())=_:=rop;simp only[ahx,cond_false,hcz,hw,ahw,op,rop,hcn,M_ (show (0:Int)<=0 by omega) (show (0:Int)<=(N:Int) by omega) (show (N:Int)<=(s.length:Int) by omega),cond_true];by_cases ho:(O5 v key [s.take N,MS] sealed).2=0
 case neg=>rw[MO ho,if_neg ho];exact⟨rfl,rfl⟩
 rw[MK ho,if_pos ho];obtain⟨_,ol,_,oB⟩:=WM hf hvb ho;generalize (O5 v key [s.take N,MS] sealed).1=p at ol oB;simp only[ahx,cond_false,abj oB (show p.length<9223372036854775808 by omega),aa9 oB (show p.length<9223372036854775808 by omega),ahw];by_cases ht:(UD p.length p []).2=0
 case neg=>rw[MO ht,if_neg ht];exact⟨rfl,rfl⟩
 rw[MK ht,if_pos ht];simp only[ahx,cond_false,M_ (show (0:Int)<=0 by omega) (show (0:Int)<=(k:Int) by omega) (show (k:Int)<=(r.2.2.2.2.2.2.2.2.2.2.2.2.2.length:Int) by omega),cond_true]
 first|exact⟨rfl,rfl⟩|exact⟨trivial,rfl⟩|exact⟨rfl,trivial⟩|trivial
end Go.AM
end
section
namespace Go.AM
end Go.AM
end
section
namespace Go.AM
def Ql(MS sealed:List Int):List Int:=((twoS 16++twoS (sealed.length:Int))++MS)++S_ sealed
theorem Vr{MS sealed:List Int}(hn:MS.length=16):(Ql MS sealed).length=20+sealed.length+Ry sealed.length:=by
 unfold Ql S_;simp only[ahM,OI,ah2];omega
theorem abO{s:List Int}(h:Bs s):Bs (S_ s):=h.app fun x hx=>by rw[(ah8.1 hx).2];decide
theorem abE{MS sealed:List Int}(hn:Bs MS)(hs:Bs sealed):Bs (Ql MS sealed):=(((abk _).app (abk _)).app hn).app (abO hs)
noncomputable def QA(v:VV)(key MS ahead:List Int)(inner:List FF):VV×FF×Int:=
 if MS.length=16 then
  if ahead.length>1280 then(v,f0,12)else
  if QZ inner=0 then
   if(PW v key [ahead,MS] (QN inner)).2.2=0 then((PW v key [ahead,MS] (QN inner)).1,(1028,Ql MS (PW v key [ahead,MS] (QN inner)).2.1),0)
   else(v,f0,(PW v key [ahead,MS] (QN inner)).2.2)
  else(v,f0,QZ inner)
 else(v,f0,10)
theorem VE{v:VV}{key:List Int}{ad:List (List Int)}{s:List Int}(hf:Ri v=true)(hs:s.length<=65536):(PW v key ad s).2.1.length<=s.length+16:=by
 by_cases he:(PW v key ad s).2.2=0
 ·rw[(abb hf he).2.2.1];exact aio _
 ·rw[(acn he).2];simp
theorem abG{v:VV}(hv:okV v)(hf:Ri v=true){key MS ahead:List Int}{inner:List FF}(hk:key.length<NC)(hkb:Bs key)(hn:MS.length<NC)(ha:ahead.length<NC)(hi:FL inner):
  Ui.run .lim (v,key,MS,ahead,inner,())=some ((QA v key MS ahead inner).1,(QA v key MS ahead inner).2.1,(QA v key MS ahead inner).2.2,()):=by
 have hn':MS.length<9223372036854775808:=hn;have ha':ahead.length<9223372036854775808:=ha;simp only[Ui.run,MR hn',MR ha',cond_true];unfold QA;by_cases h1:MS.length=16
 case neg=>rw[MO (show ¬(MS.length:Int)=16 by omega),if_neg h1];rfl
 rw[MK (show (MS.length:Int)=16 by omega),if_pos h1];by_cases h2:ahead.length>1280
 ·rw[MK (show (ahead.length:Int)>1280 by omega),if_pos h2];rfl
 rw[MO (show ¬(ahead.length:Int)>1280 by omega),if_neg h2];simp only[ahx,cond_false,Xt hi,ahw];by_cases h3:QZ inner=0
 case neg=>rw[MO h3,if_neg h3];rfl
 rw[MK h3,if_pos h3];have hfl:=SC (l:=inner);have T:Wv key [ahead,MS] (QN inner):=⟨hk,hkb,by simp[NC],fun t ht=>by
  simp only[aik,aij,or_false]at ht;rcases ht with rfl|rfl
  ·exact ha
  ·exact hn,PL (by omega)⟩
 simp only[ahx,cond_false,acj hv hf T,ahw];have hsl:=VE (key:=key) (ad:=[ahead,MS]) hf (show (QN inner).length<=65536 by omega);generalize PW v key [ahead,MS] (QN inner)=w at hsl;obtain⟨w1,w2,w3⟩:=w;simp only at hsl ⊢
 by_cases h4:w3=0
 case neg=>rw[MO h4,if_neg h4];rfl
 rw[MK h4,if_pos h4];have hp:Ry w2.length<4:=by unfold Ry;omega
 have hfs:(S_ w2).length<=w2.length+4:=by unfold S_;rw[ahM,ah2];omega
 have t1: ∀n,U9.run .lim (n,())=some (twoS n):=fun n=>rfl
 simp only[ahx,cond_false,t1,ahw,MR (show w2.length<9223372036854775808 by omega),cond_true];rw[cond_pos (MK (show (twoS 16).length+(twoS (w2.length:Int)).length<=maxStr by rw[OI,OI];decide)),cond_pos (MK (show (twoS 16++twoS (w2.length:Int)).length+MS.length<=maxStr by rw[ahM,OI,OI,h1];decide)),
  Xv (show w2.length<4611686018427387904 by omega)]
 simp only[ahw];rw[cond_pos (MK (show ((twoS 16++twoS (w2.length:Int))++MS).length+(S_ w2).length<=maxStr by rw[ahM,ahM,OI,OI,h1];unfold maxStr;omega))];rfl
noncomputable def QC(v:VV)(p:PK)(key MS:List Int)(inner:List FF):VV×List Int×Int:=
 if(findF p.fs 1028).length>0 then(v,[],23)else
 if Xc p=0 then
  if(QA v key MS (VF p) inner).2.2=0 then
   if Xc (PK.cut p (p.fs++[(QA v key MS (VF p) inner).2.1]))=0 then((QA v key MS (VF p) inner).1,VF (PK.cut p (p.fs++[(QA v key MS (VF p) inner).2.1])),0)
   else(v,[],Xc (PK.cut p (p.fs++[(QA v key MS (VF p) inner).2.1])))
  else(v,[],(QA v key MS (VF p) inner).2.2)
 else(v,[],Xc p)
theorem X0(p:PK):(VF p).length<=1280:=by
 unfold VF;split
 ·rename_i h;rw[ahM,XP];have hf:QZ p.fs=0:=by
   unfold Xc at h;split at h
   ·exact h
   ·exact absurd h (by decide)
  have:=SC (l:=p.fs);unfold QN at this;rw[if_pos hf]at this;omega
 ·simp
theorem Xq{v:VV}(hf:Ri v=true){key MS ahead:List Int}{inner:List FF}:(QA v key MS ahead inner).2.1.2.length<=100000:=by
 unfold QA;split
 ·rename_i hn;split
  ·simp
  ·split
   ·split
    ·rename_i h;have hfl:=SC (l:=inner);have hsl:=VE (v:=v) (key:=key) (ad:=[ahead,MS]) (s:=QN inner) hf (by omega);show (Ql MS _).length<=_;rw[Vr hn];have:Ry (PW v key [ahead,MS] (QN inner)).2.1.length<4:=by unfold Ry;omega
     omega
    ·simp
   ·simp
 ·simp
theorem aaP{v:VV}(hv:okV v)(hf:Ri v=true){p:PK}{key MS:List Int}{inner:List FF}(hp:FL p.fs)(hpl:p.fs.length<=1000000000)(hk:key.length<NC)(hkb:Bs key)(hn:MS.length<NC)(hi:FL inner):
  TI.run .lim (v,p,key,MS,inner,())=some ((QC v p key MS inner).1,(QC v p key MS inner).2.1,(QC v p key MS inner).2.2,()):=by
 have hff:=Rh p.fs 1028;have hfe:=Yu (l:=p.fs) 1028 (by omega) (by omega);have hfe:Pv.run .lim (p.2.2.2.2.2.2.2.2.2.2.2.2.2,1028,())=_:=hfe;simp only[TI.run,hfe,ahw,MR (show (findF p.fs 1028).length<9223372036854775808 by omega),cond_true];unfold QC;by_cases h1:(findF p.fs 1028).length>0
 ·rw[MK (show ((findF p.fs 1028).length:Int)>0 by omega),if_pos h1];rfl
 rw[MO (show ¬((findF p.fs 1028).length:Int)>0 by omega),if_neg h1];simp only[cond_false,Xe hp,ahw];by_cases h2:Xc p=0
 case neg=>rw[MO h2,if_neg h2];rfl
 rw[MK h2,if_pos h2];have hwl:=X0 p;simp only[ahx,cond_false,abG hv hf hk hkb hn (PL (show (VF p).length<9223372036854775808 by omega)) hi,ahw];have hal:=Xq (v:=v) hf (key:=key) (MS:=MS) (ahead:=VF p) (inner:=inner);generalize QA v key MS (VF p) inner=a at hal;obtain⟨a1,a2,a3⟩:=a;simp only at hal ⊢
 by_cases h3:a3=0
 case neg=>rw[MO h3,if_neg h3];rfl
 rw[MK h3,if_pos h3];have hcl:NQ.run .lim (p.2.2.2.2.2.2.2.2.2.2.2.2.2,())=some p.fs:=by
  simp only[NQ.run];rw[cond_pos (MK (show ([]:List FF).length+p.fs.length<2932031007402 by simp;omega))];rfl
 have hq:FL (PK.fs (PK.cut p (p.fs++[a2]))):=by
  refine⟨?_,fun f hf=> ?_⟩
  ·show (p.fs++[a2]).length<_;rw[ahM];simp;omega
  ·rcases ah3.1 hf with hf|hf
   ·exact hp.2 f hf
   ·rw[ah4.1 hf];omega
 have hw:=Xe hq;have hw:Nj.run .lim ((p.1,p.2.1,p.2.2.1,p.2.2.2.1,p.2.2.2.2.1,p.2.2.2.2.2.1,p.2.2.2.2.2.2.1,p.2.2.2.2.2.2.2.1,p.2.2.2.2.2.2.2.2.1,p.2.2.2.2.2.2.2.2.2.1,p.2.2.2.2.2.2.2.2.2.2.1,p.2.2.2.2.2.2.2.2.2.2.2.1,p.2.2.2.2.2.2.2.2.2.2.2.2.1,p.fs++[a2]),())=_:=hw;simp only[ahx,cond_false,hcl,ahw];rw[cond_pos (MK (show p.fs.length+[a2].length<2932031007402 by simp;omega)),hw];simp only[ahw];by_cases h4:Xc (PK.cut p (p.fs++[a2]))=0
 ·rw[MK h4,if_pos h4];rfl
 ·rw[MO h4,if_neg h4];rfl
end Go.AM
end
section
set_option maxRecDepth 100000
namespace Go.AM
theorem aa0{n:Nat}{x:Int}(h:B8 x):Bs (ahO n x):=fun y hy=>by rw[(ah8.1 hy).2];exact h
theorem ado: ∀(n:Nat) (s:List Int) (acc:List FF),acc.length<=16->(UD n s acc).1.length<=16:=by
 intro n
 induction n with
 |zero=>intro s acc h;exact h
 |succ n ih=>
  intro s acc h;simp only[UD];split
  ·exact h
  ·split
   ·exact aiI _
   ·split
    ·exact aiI _
    ·exact ih _ _ (by simp;omega)
theorem ab5{v:VV}{s key:List Int}(hs:Bs s):NL (Qu v s key).1:=by
 have z:NL n0:=⟨by decide,by decide,by decide⟩;unfold Qu;split
 ·rename_i h0;have w:=was hs h0;split
  ·exact z
  ·split
   ·split
    ·split
     ·refine⟨by show ([]:List FF).length<_;decide,?_,?_⟩
      ·show ((O1 s).fs.take _).length<_;have:=w.few;rw[ahQ];omega
      ·exact Nat.lt_of_le_of_lt (ado _ _ [] (by decide)) (by decide)
     ·exact z
    ·exact z
   ·exact z
 ·exact z
theorem aaR{v:VV}{s key:List Int}(h:(Qu v s key).2=0):Xn s=0/\ ∃k MS sealed,(Qu v s key).1.2.1=(O1 s).fs.take k/\
  (O5 v key [s.take (48+(Nl ((O1 s).fs.take k)).length),MS] sealed).2=0/\
  UD (O5 v key [s.take (48+(Nl ((O1 s).fs.take k)).length),MS] sealed).1.length (O5 v key [s.take (48+(Nl ((O1 s).fs.take k)).length),MS] sealed).1 []=((Qu v s key).1.2.2,0):=by
 by_cases h0:Xn s=0
 case neg=>unfold Qu at h;rw[if_neg h0]at h;exact absurd h h0
 refine⟨h0,?_⟩;unfold Qu at h ⊢
 rw[if_pos h0]at h ⊢
 revert h;cases QF (O1 s).fs 1028 with
 |none=>intro h;exact absurd h (show ¬(19:Int)=0 by decide)
 |some k=>
  simp only;by_cases h1:(Uc (rd f0 (O1 s).fs (k:Int)).2).2.2=0
  case neg=>rw[if_neg h1];intro h;exact absurd h h1
  rw[if_pos h1];generalize (Uc (rd f0 (O1 s).fs (k:Int)).2).1=MS;generalize (Uc (rd f0 (O1 s).fs (k:Int)).2).2.1=sealed;by_cases h2:(O5 v key [s.take (48+(Nl ((O1 s).fs.take k)).length),MS] sealed).2=0
  case neg=>rw[if_neg h2];intro h;exact absurd h h2
  rw[if_pos h2];generalize ho:O5 v key [s.take (48+(Nl ((O1 s).fs.take k)).length),MS] sealed=o at h2;by_cases h3:(UD o.1.length o.1 []).2=0
  case neg=>rw[if_neg h3];intro h;exact absurd h h3
  rw[if_pos h3];intro _;refine⟨k,MS,sealed,rfl,by rw[ho];exact h2,?_⟩;rw[ho,<-h3]
end Go.AM
end
section
namespace Go.AM
abbrev RK:=Int×List Int×Int
abbrev r0:RK:=(0,([],0))
abbrev CK:=Int×List Int×List Int
def WI(a:Int):Int:=if a=15 then 32 else if a=17 then 64 else 0
theorem aaJ(a:Int):QU.run .lim (a,())=some (WI a):=by
 simp only[QU.run];unfold WI;by_cases h:a=15
 ·rw[MK h,if_pos h];rfl
 ·rw[MO h,if_neg h];by_cases h2:a=17
  ·rw[MK h2,if_pos h2];rfl
  ·rw[MO h2,if_neg h2];rfl
theorem ZP(a:Int):Pn.run .lim (a,())=some (WI a):=by
 simp only[Pn.run];unfold WI;by_cases h:a=15
 ·rw[MK h,if_pos h];rfl
 ·rw[MO h,if_neg h];by_cases h2:a=17
  ·rw[MK h2,if_pos h2];rfl
  ·rw[MO h2,if_neg h2];rfl
def ZE(k:CK):Bool:=decide (WI k.1>0)&&decide ((k.2.1.length:Int)=WI k.1)&&decide ((k.2.2.length:Int)=WI k.1)
structure KOk(k:CK):Prop where
 a:k.2.1.length<NC
 b:k.2.2.length<NC
theorem abM{k:CK}(h:KOk k):Uf.run .lim (k,())=some (ZE k):=by
 have h1:k.2.1.length<9223372036854775808:=h.a;have h2:k.2.2.length<9223372036854775808:=h.b;simp only[Uf.run,aaJ,ahw,MR h1,MR h2,ahC,cond_true];rfl
theorem aaZ{k:CK}(h:KOk k):Qg.run .lim (k,())=some (ZE k):=by
 have h1:k.2.1.length<9223372036854775808:=h.a;have h2:k.2.2.length<9223372036854775808:=h.b;simp only[Qg.run,ZP,ahw,MR h1,MR h2,ahC,cond_true];rfl
theorem YV(a b:List (List Int))(ha:a.length<NC)(hb:b.length<NC):N8.run .lim (a,b,())=some (decide (a=b)):=by
 have XM:a.length<9223372036854775808:=ha;have ad2:b.length<9223372036854775808:=hb;simp only[N8.run,MR XM,MR ad2,cond_true];by_cases hl:a.length=b.length
 ·have e:=QT (f:=N8.l0 .lim) (fun i=>(a,b,(i:Int),())) a.length (fun k=> !decide (rd [] a (k:Int)=rd [] b (k:Int))) (some (.inl (false,()))) (fun k hk=>by
   rw[N8.q0];simp only[N8.b0,MR XM,MK (show (k:Int)<(a.length:Int) by omega),MV (show (0:Int)<=(k:Int) by omega) (show (k:Int)<(a.length:Int) by omega),MV (show (0:Int)<=(k:Int) by omega) (show (k:Int)<(b.length:Int) by omega),cond_true,wk k (by omega)])
  rw[show ((0:Nat):Int)=0 from rfl]at e;rw[MK (show (a.length:Int)=(b.length:Int) by omega)];simp only[ahx,cond_false,e,Wx hl];by_cases h:a=b
  ·rw[MK h];simp only[ahx,cond_false];rw[N8.q0];simp only[N8.b0,MR XM,MO (show ¬(a.length:Int)<(a.length:Int) by omega),cond_true,cond_false,ahw]
  ·rw[MO h];rfl
 ·rw[MO (show ¬(a.length:Int)=(b.length:Int) by omega),MO (fun h=>hl (by rw[h]))];rfl
end Go.AM
end
section
set_option maxRecDepth 100000
namespace Go.AM
abbrev AS:=CK×List (List Int)×List Int×List Int×Int×Int×Int×Int×Int
abbrev HD:=Int×List Int×List Int×PK×Int×Int
def UQ(s:List Int):Bool:=(decide (12<=s.length)&&decide (s.length<=256))&&decide (s.length%4=0)
theorem Ze{s:List Int}(h:s.length<9223372036854775808):O8.run .lim (s,())=some (UQ s):=by
 have e1:decide ((s.length:Int)>=12)=decide (12<=s.length):=decide_eq_decide.2 (by omega);have e2:decide ((s.length:Int)<=256)=decide (s.length<=256):=decide_eq_decide.2 (by omega);have e3:decide ((s.length:Int).tmod 4=0)=decide (s.length%4=0):=decide_eq_decide.2 (by rw[ahZ (by omega)];omega);simp only[O8.run,MR h,ahC,cond_true,e1,e2,e3];rfl
theorem aaM{s:List Int}(h:s.length<9223372036854775808):TM.run .lim (s,())=some (UQ s):=by
 have e1:decide ((s.length:Int)>=12)=decide (12<=s.length):=decide_eq_decide.2 (by omega);have e2:decide ((s.length:Int)<=256)=decide (s.length<=256):=decide_eq_decide.2 (by omega);have e3:decide (I9 .i64 (s.length:Int) 3=0)=decide (s.length%4=0):=decide_eq_decide.2 (by rw[acF];omega);simp only[TM.run,MR h,ahC,cond_true,e1,e2,e3];rfl
theorem abC{l:List (List Int)}{s:List Int}:((ahR l.length).any fun k=>decide (rd [] l (k:Int)=s))=decide (s∈l):=by
 by_cases h:s∈l
 ·rw[MK h];obtain⟨i,hi,rfl⟩:=ah6.1 h;exact aib.2 ⟨i,ahW.2 hi,MK (Qm hi)⟩
 ·rw[MO h];refine aiu.2 fun i hi q=>h ?_
  have hi:=ahW.1 hi;have q:=of_decide_eq_true q;rw[Qm hi]at q;rw[<-q];exact aiy hi
theorem Zd{l:List (List Int)}{s:List Int}(hl:l.length<4611686018427387904):NV.run .lim (l,s,())=some (decide (s∈l)):=by
 have h63:l.length<9223372036854775808:=by omega
 have e:=QT (f:=NV.l0 .lim) (fun k=>(l,s,(k:Int),())) l.length (fun k=>decide (rd [] l (k:Int)=s)) (some (.inl (true,()))) (fun k hk=>by
  rw[NV.q0];simp only[NV.b0,MR h63,MK (show (k:Int)<(l.length:Int) by omega),MV (show (0:Int)<=(k:Int) by omega) (show (k:Int)<(l.length:Int) by omega),cond_true,Qz k (by omega)])
 have e0:NV.l0 .lim (l,s,0,())=_:=e;simp only[NV.run,e0,abC];cases decide (s∈l)with
 |true=>rfl
 |false=>
  rw[cond_false,NV.q0];simp only[NV.b0,MR h63,MO (show ¬(l.length:Int)<(l.length:Int) by omega),cond_true,cond_false,ahw]
def YG(l:List (List Int)):Int:=
 if l.length>8 then 18 else if((ahR l.length).any fun k:Nat=> !UQ (rd [] l (k:Int)))=true then 12 else if((ahR l.length).any fun k:Nat=>decide (rd [] l (k:Int)∈l.take k))=true then 24 else 0
theorem ZO{l:List (List Int)}(hl:l.length<9223372036854775808)(hs: ∀s∈l,s.length<9223372036854775808):Nv.run .lim (l,())=some (YG l):=by
 simp only[Nv.run,MR hl,cond_true];unfold YG;by_cases h8:l.length>8
 ·rw[MK (show (l.length:Int)>8 by omega),if_pos h8];rfl
 rw[MO (show ¬(l.length:Int)>8 by omega),if_neg h8,cond_false];have e:=QT (f:=Nv.l0 .lim) (fun k=>(l,(k:Int),())) l.length (fun k=> !UQ (rd [] l (k:Int))) (some (.inl (12,()))) (fun k hk=>by
  rw[Nv.q0];have hm:=hs _ (OB (d:=([]:List Int)) (xs:=l) (i:=(k:Int)) (by omega) (by omega));simp only[Nv.b0,MR hl,MK (show (k:Int)<(l.length:Int) by omega),MV (show (0:Int)<=(k:Int) by omega) (show (k:Int)<(l.length:Int) by omega),cond_true,Ze hm,ahw,Qz k (by omega)])
 have e0:Nv.l0 .lim (l,0,())=_:=e;rw[e0];cases h1:(ahR l.length).any fun k:Nat=> !UQ (rd [] l (k:Int))with
 |true=>rfl
 |false=>
  rw[if_neg (by decide),cond_false,Nv.q0];simp only[Nv.b0,MR hl,MO (show ¬(l.length:Int)<(l.length:Int) by omega),cond_true,cond_false,ahw];have e:=QT (f:=Nv.l1 .lim) (fun k=>(l,(k:Int),())) l.length (fun k=>decide (rd [] l (k:Int)∈l.take k)) (some (.inl (24,()))) (fun k hk=>by
   rw[Nv.q1];have hc:cut l 0 (k:Int)=l.take k:=rfl;have ht:(l.take k).length<4611686018427387904:=by rw[ahQ];omega
   simp only[Nv.b1,MR hl,MK (show (k:Int)<(l.length:Int) by omega),MV (show (0:Int)<=(k:Int) by omega) (show (k:Int)<(l.length:Int) by omega),M_ (show (0:Int)<=0 by omega) (show (0:Int)<=(k:Int) by omega) (show (k:Int)<=(l.length:Int) by omega),cond_true,hc,Zd ht,ahw,Qz k (by omega)])
  have e1:Nv.l1 .lim (l,0,())=_:=e;rw[e1];cases h2:(ahR l.length).any fun k:Nat=>decide (rd [] l (k:Int)∈l.take k)with
  |true=>rfl
  |false=>
   rw[if_neg (by decide),cond_false,Nv.q1];simp only[Nv.b1,MR hl,MO (show ¬(l.length:Int)<(l.length:Int) by omega),cond_true,cond_false,ahw]
structure JOk(l:List (List Int)):Prop where
 few:l.length<=8
 may: ∀s∈l,UQ s=true
 nod:l.Nodup
theorem abZ{l:List (List Int)}:YG l=0 ↔ JOk l:=by
 unfold YG;by_cases h8:l.length>8
 ·rw[if_pos h8];exact⟨fun h=>absurd h (by decide),fun h=>absurd h.few (by omega)⟩
 rw[if_neg h8];by_cases h1:((ahR l.length).any fun k:Nat=> !UQ (rd [] l (k:Int)))=true
 ·rw[if_pos h1];refine⟨fun h=>absurd h (by decide),fun h=> ?_⟩;obtain⟨k,hk,q⟩:=aib.1 h1;have hk:=ahW.1 hk;rw[Qm hk,h.may _ (aiy hk)]at q;cases q
 rw[if_neg h1];by_cases h2:((ahR l.length).any fun k:Nat=>decide (rd [] l (k:Int)∈l.take k))=true
 ·rw[if_pos h2];refine⟨fun h=>absurd h (by decide),fun h=> ?_⟩;obtain⟨k,hk,q⟩:=aib.1 h2;have hk:=ahW.1 hk;have q:=of_decide_eq_true q;rw[Qm hk]at q;obtain⟨j,hj,e⟩:=ah6.1 q;have hj':j<k:=by rw[ahQ]at hj;omega
  rw[aiM]at e;exact absurd e (ais.1 h.nod j k (by omega) hk hj')
 rw[if_neg h2];refine⟨fun _=>⟨by omega,fun s hs=> ?_,?_⟩,fun _=>rfl⟩
 ·obtain⟨k,hk,rfl⟩:=ah6.1 hs;cases hm:UQ l[k]with
  |true=>rfl
  |false=>exact absurd (aib.2 ⟨k,ahW.2 hk,by rw[Qm hk,hm];rfl⟩) h1
 ·refine ais.2 fun i j hi hj hij e=>h2 ?_
  refine aib.2 ⟨j,ahW.2 hj,MK ?_⟩;rw[Qm hj,<-e];exact ah6.2 ⟨i,by rw[ahQ];omega,aiM⟩
structure AOk(x:AS):Prop where
 k:KOk x.1
 kb:Bs x.1.2.1/\Bs x.1.2.2
 j:x.2.1.length<9223372036854775808
 js: ∀s∈x.2.1,s.length<9223372036854775808
 jb: ∀s∈x.2.1,Bs s
 u:x.2.2.1.length<9223372036854775808
def aaB(x:AS):Bool:=(ZE x.1&&decide (YG x.2.1=0))&&(if x.2.2.1=[]then decide (x.2.2.2.1=[])&&decide (x.2.2.2.2.1=0)else decide (x.2.2.1.length=32))
theorem ZN{x:AS}(h:AOk x):Qh.run .lim (x,())=some (aaB x):=by
 simp only[Qh.run,aaZ h.k,ahw,ZO h.j h.js,MR h.u];unfold aaB;have e32:decide ((x.2.2.1.length:Int)=32)=decide (x.2.2.1.length=32):=decide_eq_decide.2 (by omega);cases hk:ZE x.1 with
 |false=>rfl
 |true=>
  by_cases hj:YG x.2.1=0
  ·rw[MK hj];by_cases hu:x.2.2.1=[]
   ·rw[if_pos hu,MK hu,hj];rfl
   ·rw[if_neg hu,MO hu,hj,e32];rfl
  ·rw[MO hj];show (ai6 (some (YG x.2.1)) _)=_;rw[ahw,MO hj];rfl
theorem YW{l:List (List Int)}(h:l.length<9223372036854775808):N8.run .lim (l,l,())=some true:=by rw[YV l l h h,MK rfl]
theorem TS{x:AS}(h:x.2.1.length<9223372036854775808):OY.run .lim (x,x,())=some true:=by simp only[OY.run,decide_true,ahD,cond_true,YW h,ahw]
theorem YS(a:PK):XD a a=true:=(ZY a a).2 rfl
theorem Yk{x:HD}(h:x.2.2.2.1.fs.length<9223372036854775808):PV.run .lim (x,x,())=some true:=by
 have e:=ZX h h;rw[YS]at e;simp only[PV.run,decide_true,ahD,cond_true,e,ahw]
theorem abR{v:VV}(hv:okV v){x:AS}(hx:AOk x){s:List Int}(hs:s.length<9223372036854775808): ∃r,P8.run .lim (v,x,s,())=some r/\(r=true->Ri v=true/\aaB x=true/\s.length<=4000):=by
 obtain⟨r,er⟩:=YI v hv;have ef:=ab_ v hv;simp only[P8.run,er,ahw,Sr ef,Sr (ZN hx),MR hs,ahC,cond_true];refine⟨_,rfl,fun q=> ?_⟩;simp only[ahX,decide_eq_true_eq]at q;exact⟨q.1.1.2.2,q.1.2.2,by omega⟩
end Go.AM
end
section
set_option maxRecDepth 100000
namespace Go.AM
theorem abe(e:Int)(b:Bool):QO.run .lim (e,b,())=some (b,e,()):=rfl
theorem Y0{n:Nat}(h:n<=140737488355328):strings_Repeat.run .lim ([0],(n:Int),())=some (ahO n 0):=by
 show KW ([0],(n:Int),())=_;unfold KW;simp only[ahT];rw[MK (show (0:Int)<=(n:Int) by omega),aiC (show [(0:Int)].length*n<=140737488355328 by simp;omega),Vz];rfl
def adW(a:Bool)(e:Int)(b:Bool)(f:Int):Int:=bif a then(bif b then 0 else f)else e
theorem acX(u MS:List Int)(t1:Int)(b1 b2:Bool)(z):Px.l0 .lim (u,MS,t1,(b1,10,()),(b2,19,()),z)=some (u,MS,t1,adW b1 10 b2 19,z):=by
 rw[Px.q0];simp only[Px.b0];cases b1<;>cases b2<;>rfl
theorem acY(u MS:List Int)(t1:Int){c n:Nat}(hc:c<=1000)(hn:n<=1000)(a0:Bool)(a1:(List (List Int×(List (List Int)×(List Int×List Int)))))(a2:Int)(a3:List Int)(a4:List Int)(a5:List (List Int))(a6:List Int)(a7:List Int)(a8:Int)(a9:Int)(a10:Int)(a11:Int)(a12:Int)(a13:Bool)(a14:Int)(a15:List Int)(a16:List Int)(a17:List Int)(a18:List Int)(a19:Int)(a20:Int)(a21:Int)(a22:Int)(a23:Int){l:List FF}(hl:l.length<=1000):Px.l1 .lim (u,MS,t1,((4+c:Nat):Int),(n:Int),0,a0,a1,a2,a3,a4,a5,a6,a7,a8,a9,a10,a11,a12,a13,a14,a15,a16,a17,a18,a19,a20,a21,a22,a23,l,())=some (u,MS,t1,a0,a1,a2,a3,a4,a5,a6,a7,a8,a9,a10,a11,a12,a13,a14,a15,a16,a17,a18,a19,a20,a21,a22,a23,l++ahO n (772,ahO c 0),()):=by
 have hz:=Y0 (n:=c) (by omega);have hw:ahz.wrap (((4+c:Nat):Int)-4)=(c:Int):=by rw[wrap64 (by omega) (by omega)];omega
 have e:=NU (f:=Px.l1 .lim) (fun j=>(u,MS,t1,((4+c:Nat):Int),(n:Int),(j:Int),a0,a1,a2,a3,a4,a5,a6,a7,a8,a9,a10,a11,a12,a13,a14,a15,a16,a17,a18,a19,a20,a21,a22,a23,l++ahO j (772,ahO c 0),())) (n:=n) (fun j hj=>by
  rw[Px.q1];simp only[Px.b1,MK (show (j:Int)<(n:Int) by omega),cond_true,hw,hz,ahw,Qz j (by omega)];rw[cond_pos (MK (by simp;omega)),ah5,<-List.replicate_succ'])
 have e0:Px.l1 .lim (u,MS,t1,((4+c:Nat):Int),(n:Int),0,a0,a1,a2,a3,a4,a5,a6,a7,a8,a9,a10,a11,a12,a13,a14,a15,a16,a17,a18,a19,a20,a21,a22,a23,l,())=_:=(congrArg (Px.l1 .lim) (by rw[aiH,aiW];rfl)).trans e;rw[e0,Px.q1];simp only[Px.b1,MO (show ¬(n:Int)<(n:Int) by omega),cond_false]
def holdN(k c:Nat):Nat:=min (8-k) (1156/(4+c)-1)
def Vq(u c:List Int)(n:Nat):List FF:=[(260,u),(516,c)]++ahO n (772,ahO c.length 0)
def Wy(u c:List Int)(n:Nat)(t1:Int):PK:=((0:Int),(4,(3,(0,(0,(0,(0,(0,(0,(0,(0,(0,(t1,Vq u c n)))))))))))))
noncomputable def Ue(v:VV)(x:AS)(u MS:List Int)(t1:Int):VV×AS×List Int×Int:=
 if ¬u.length=32 then(v,x,[],10)else
 match x.2.1 with
 |[]=>(v,x,[],19)
 |c::rest=>
  if(QC v (Wy u c (holdN (rest.length+1) c.length) t1) x.1.2.1 MS []).2.2=0 then
   ((QC v (Wy u c (holdN (rest.length+1) c.length) t1) x.1.2.1 MS []).1,(x.1,rest,u,(QC v (Wy u c (holdN (rest.length+1) c.length) t1) x.1.2.1 MS []).2.1,t1,ahV.wrap (x.2.2.2.2.2.1+1),x.2.2.2.2.2.2.1,x.2.2.2.2.2.2.2.1,x.2.2.2.2.2.2.2.2),(QC v (Wy u c (holdN (rest.length+1) c.length) t1) x.1.2.1 MS []).2.1,0)
  else(v,x,[],(QC v (Wy u c (holdN (rest.length+1) c.length) t1) x.1.2.1 MS []).2.2)
theorem U4(k c:Nat):holdN k c<=8:=by unfold holdN;omega
theorem aaG{k c:Nat}(hk:k<=8)(hc:c<=256):mn (ahz.wrap (8-(k:Int))) (ahz.wrap ((ahz.wrap ((1156:Int).tdiv (ahz.wrap (4+(c:Int)))))-1))=(holdN k c:Int):=by
 have h1:ahz.wrap (8-(k:Int))=((8-k:Nat):Int):=by rw[wrap64 (by omega) (by omega)];omega
 have h2:ahz.wrap (4+(c:Int))=((4+c:Nat):Int):=by rw[wrap64 (by omega) (by omega)];omega
 have h3:(1156:Int).tdiv ((4+c:Nat):Int)=((1156/(4+c):Nat):Int):=by rw[ahY (by omega)];rfl
 have h4:1156/(4+c)<=1156:=Nat.div_le_self _ _;have h5:1<=1156/(4+c):=(Nat.le_div_iff_mul_le (by omega)).2 (by omega);rw[h1,h2,h3,wrap64 (n:=((1156/(4+c):Nat):Int)) (by omega) (by omega),wrap64 (by omega) (by omega)];unfold holdN;rw[OH];generalize 1156/(4+c)=q at h4 h5;omega
theorem Y2{u c:List Int}{n:Nat}(hn:n<=8)(hu:u.length<=140737488351232)(hc:c.length<=140737488351232):FL (Vq u c n)/\(Vq u c n).length=2+n:=by
 have e:(Vq u c n).length=2+n:=by unfold Vq;simp;omega
 refine⟨⟨by omega,fun f hf=> ?_⟩,e⟩;unfold Vq at hf;simp only[List.cons_append,aiB,aik,ah8]at hf;rcases hf with rfl|rfl|⟨_,rfl⟩
 ·exact hu
 ·exact hc
 ·simpa using hc
theorem YB{v:VV}(hv:okV v)(hf:Ri v=true){x:AS}(hx:AOk x)(hj:JOk x.2.1){u MS:List Int}(hu:u.length<=140737488351232)(hn:MS.length<NC)(t1:Int):
  Px.run .lim (v,x,u,MS,t1,())=some ((Ue v x u MS t1).1,(Ue v x u MS t1).2.1,(Ue v x u MS t1).2.2.1,(Ue v x u MS t1).2.2.2,()):=by
 simp only[Px.run,MR (UN hu),MR hx.j,cond_true,abe,ahw];rw[acX];unfold Ue;by_cases h1:u.length=32
 case neg=>rw[if_pos h1,MO (show ¬(u.length:Int)=32 by omega)];rfl
 rw[if_neg (not_not_intro h1),MK (show (u.length:Int)=32 by omega)];obtain⟨ky,j,q⟩:=x;have h8:=hj.few;have hm:=hj.may;have hkb:=hx.kb.1;have hkl:=hx.k.a;simp only at h8 hm hkb hkl ⊢
 cases j with
 |nil=>rfl
 |cons c rest=>
  have hc:=hm c (.head _);have hcl:12<=c.length/\c.length<=256:=by
   unfold UQ at hc;simp only[ahX,decide_eq_true_eq]at hc;exact hc.1
  have h8:rest.length+1<=8:=h8;have hl:(c::rest).length=rest.length+1:=rfl;rw[MK (show ((c::rest).length:Int)>0 by rw[hl];omega)];have hr:rd ([]:List Int) (c::rest) 0=c:=rfl;have hN:=aaG (k:=rest.length+1) (c:=c.length) h8 hcl.2;have hNl:=U4 (c::rest).length c.length;have hw4:ahz.wrap (4+(c.length:Int))=((4+c.length:Nat):Int):=by rw[wrap64 (by omega) (by omega)];omega
  have hi0:inB 0 ((c::rest).length:Int)=true:=MV (by omega) (by rw[hl];omega);have hsc:wB (c.length:Int)=true:=MR (by omega);have hsj:wB ((c::rest).length:Int)=true:=MR (by rw[hl];omega);rw[<-hl,hw4]at hN;simp only[adW,cond_true,ahw,decide_true,ahx,cond_false,hi0,hr,hsc,hsj,hN,hw4,MO (show ¬((4+c.length:Nat):Int)=0 by omega),ahB];rw[acY (c:=c.length) (n:=holdN (c::rest).length c.length) (l:=[(260,u),(516,c)]) (hc:=by omega) (hn:=by omega) (hl:=by simp)];obtain⟨fl,fn⟩:=Y2 (u:=u) (c:=c) hNl hu (show c.length<=140737488351232 by omega);have nm:=aaP hv hf (p:=Wy u c (holdN (c::rest).length c.length) t1) (key:=ky.2.1) (MS:=MS) (inner:=[]) fl (by show (Vq u c _).length<=_;rw[fn];omega) hkl hkb hn ⟨by decide,fun f hf=>nomatch hf⟩;have nm:TI.run .lim ((v.1,v.2),(0,(4,(3,(0,(0,(0,(0,(0,(0,(0,(0,(0,(t1,[(260,u),(516,c)]++ahO (holdN (c::rest).length c.length) (772,ahO c.length 0)))))))))))))),ky.2.1,MS,([]:List FF),())=_:=nm;simp only[ahw,nm,<-hl];generalize QC v (Wy u c (holdN (c::rest).length c.length) t1) ky.2.1 MS []=M;obtain⟨w,s,e⟩:=M;simp only;by_cases h2:e=0
  case neg=>rw[MO h2,if_neg h2];rfl
  have hcut:cut (c::rest) 1 ((c::rest).length:Int)=rest:=by
   show ((c::rest).take (Int.toNat _)).drop 1=_;rw[ahT,aic];rfl
  have clo:MW.run .lim (rest,())=some rest:=TD (by omega);rw[MK h2,if_pos h2];simp only[ahx,cond_false,M_ (show (0:Int)<=1 by omega) (show (1:Int)<=((c::rest).length:Int) by rw[hl];omega) (ahU _),cond_true,hcut,clo,ahw];rfl
end Go.AM
end
section
set_option maxRecDepth 100000
namespace Go.AM
theorem aaI{J:List (List Int)}{s:List Int}(h:J.length<4611686018427387904):Ot.run .lim (J,s,())=some (decide (s∈J)):=by
 have h63:J.length<9223372036854775808:=by omega
 have e:=Qn (f:=Ny.l0 .lim) (fun k=>(J,s,(J.length:Int),(k:Int),())) J.length (fun k:Nat=>decide (s=rd [] J (k:Int))) (fun k=>some (.inl ((k:Int),()))) (fun k hk=>by
  rw[Ny.q0];simp only[Ny.b0,MK (show (k:Int)<(J.length:Int) by omega),MV (show (0:Int)<=(k:Int) by omega) (show (k:Int)<(J.length:Int) by omega),cond_true,Qz k (by omega)])
 have e0:Ny.l0 .lim (J,s,(J.length:Int),0,())=_:=e;simp only[Ot.run,Ny.run,MR h63,cond_true,e0];cases hq:(ahR J.length).find? (fun k:Nat=>decide (s=rd [] J (k:Int)))with
 |some k=>
  have h1:=ail hq;have h2:=ahW.1 (ah1 hq);have h1:s=rd [] J (k:Int):=of_decide_eq_true h1;rw[Qm h2]at h1;have hm:s∈J:=by rw[h1];exact aiy h2
  simp only[ahw,MK (show (k:Int)>=0 by omega),MK hm]
 |none=>
  have hm: ¬s∈J:=fun hm=>by
   obtain⟨i,hi,e⟩:=ah6.1 hm;have:=aiJ.1 hq i (ahW.2 hi);rw[Qm hi,e]at this;exact this (by simp)
  simp only;rw[Ny.q0];simp only[Ny.b0,MO (show ¬(J.length:Int)<(J.length:Int) by omega),cond_false,ahw,MO hm];rfl
def Yc(J:List (List Int))(f:FF):Bool:=((decide (f.1=516)&&UQ f.2)&&decide (J.length<8))&& !decide (f.2∈J)
def Xu(J:List (List Int))(f:FF):List (List Int):=bif Yc J f then J++[f.2]else J
def Rt(J:List (List Int))(t:List FF):List (List Int):=t.foldl Xu J
theorem aaA{J:List (List Int)}{f:FF}(h:J.length<=8):(Xu J f).length<=8:=by
 unfold Xu;cases hc:Yc J f with
 |false=>exact h
 |true=>
  unfold Yc at hc;simp only[ahX,decide_eq_true_eq]at hc;rw[cond_true,ahM];have:=hc.1.2;simp;omega
theorem U2: ∀ {t:List FF} {J:List (List Int)},J.length<=8->(Rt J t).length<=8
 |[],_,h=>h
 |f::t,_,h=>U2 (t:=t) (aaA h)
theorem WC{t:List FF}{J:List (List Int)}{j:Nat}(h:j<t.length):Rt J (t.take (j+1))=Xu (Rt J (t.take j)) (rd f0 t (j:Int)):=by
 unfold Rt;rw[List.take_add_one,List.getElem?_eq_getElem h,Qm h,Option.toList_some,List.foldl_append];rfl
theorem abV{t:List FF}(h:t.length<=16)(z):OG.l0 .lim (t,(t.length:Int),0,z)=(match QF t 1028 with|some k=>some (.inl ((k:Int),z))|none=>some (.inr z)):=by
 have e:=Qn (f:=OG.l0 .lim) (fun j=>(t,(t.length:Int),(j:Int),z)) t.length (fun j:Nat=>decide ((rd f0 t (j:Int)).1=1028)) (fun j=>some (.inl ((j:Int),z))) (fun k hk=>by
  rw[OG.q0];have hr:QD.run .lim (rd ((0:Int),([]:List Int)) t (k:Int),())=some (decide ((rd f0 t (k:Int)).1=1028)):=rfl;simp only[OG.b0,MK (show (k:Int)<(t.length:Int) by omega),MV (show (0:Int)<=(k:Int) by omega) (show (k:Int)<(t.length:Int) by omega),cond_true,hr,ahw,Qz k (by omega)])
 have e0:OG.l0 .lim (t,(t.length:Int),0,z)=_:=e;rw[e0];unfold QF;cases hq:(ahR t.length).find? (fun k:Nat=>decide ((rd f0 t (k:Int)).1=1028))with
 |some k=>rfl
 |none=>
  simp only;rw[OG.q0];simp only[OG.b0,MO (show ¬(t.length:Int)<(t.length:Int) by omega),cond_false]
theorem abW{t:List FF}(h:t.length<=16)(hb: ∀f∈t,f.2.length<9223372036854775808)(a0:Int)(a1:List Int)(a2:List Int)(a3:List Int)(a4:List Int)(a5:Int)(a6:Int)(a7:Int)(a8:Int)(a9:Int)(a10:Int)(a11:List Int)(a12:List Int)(a13:Int)(a14:Int)(a15:Int)(a16:Int)(a17:Int)(a18:Int)(a19:Int)(a20:Int)(a21:Int)(a22:Int)(a23:Int)(a24:Int)(a25:Int)(a26:(List (Int×List Int)))(a27:Int)(a28:Int)(a29:Int)(a30:List Int)(a31:List Int)(a32:List Int)(a33:List Int)(a34:Int)(a35:Int)(a36:Int)(a37:Int)(a38:Int)(a39:Int)(a40:List Int)(a41:List Int)(a42:Int)(a43:Int)(a44:Int)(a45:Int)(a46:Int)(a47:Int)(a48:Int)(a49:Int)(a50:Int)(a51:Int)(a52:Int)(a53:Int)(a54:Int)(a55:Int)(a56:Int){J:List (List Int)}(hJ:J.length<=8):OG.l1 .lim (t,(t.length:Int),0,a0,a1,a2,a3,a4,a5,a6,a7,a8,a9,a10,a11,a12,a13,a14,a15,a16,a17,a18,a19,a20,a21,a22,a23,a24,a25,a26,a27,a28,a29,a30,a31,a32,a33,a34,a35,a36,a37,a38,a39,a40,a41,a42,a43,a44,a45,a46,a47,a48,a49,a50,a51,a52,a53,a54,a55,a56,J,())=some (a29,a30,a31,a32,a33,a34,a35,a36,a37,a38,a39,a40,a41,a42,a43,a44,a45,a46,a47,a48,a49,a50,a51,a52,a53,a54,a55,a56,a0,a1,a2,a3,a4,a5,a6,a7,a8,a9,a10,a11,a12,a13,a14,a15,a16,a17,a18,a19,a20,a21,a22,a23,a24,a25,a26,a27,a28,Rt J t,()):=by
 have e:=NU (f:=OG.l1 .lim) (fun j=>(t,(t.length:Int),(j:Int),a0,a1,a2,a3,a4,a5,a6,a7,a8,a9,a10,a11,a12,a13,a14,a15,a16,a17,a18,a19,a20,a21,a22,a23,a24,a25,a26,a27,a28,a29,a30,a31,a32,a33,a34,a35,a36,a37,a38,a39,a40,a41,a42,a43,a44,a45,a46,a47,a48,a49,a50,a51,a52,a53,a54,a55,a56,Rt J (t.take j),())) (n:=t.length) (fun j hj=>by
  rw[OG.q1,WC hj];have hf:=hb _ (OB (d:=f0) (xs:=t) (i:=(j:Int)) (by omega) (by omega));have hl:=U2 (t:=t.take j) hJ;generalize Rt J (t.take j)=K at hl;have hd:decide ((K.length:Int)<8)=decide (K.length<8):=decide_eq_decide.2 (by omega);simp only[OG.b1,MK (show (j:Int)<(t.length:Int) by omega),MV (show (0:Int)<=(j:Int) by omega) (show (j:Int)<(t.length:Int) by omega),cond_true,Qz j (by omega),MR (show K.length<9223372036854775808 by omega),ahC];have hg:rd ((0:Int),([]:List Int)) t (j:Int)=rd f0 t (j:Int):=rfl;rw[hg];generalize rd f0 t (j:Int)=f at hf;simp only[Sr (aaM hf),ahw,hd,Sr (aaI (J:=K) (s:=f.2) (by omega))];unfold Xu Yc;have hroom:decide (K.length+[f.2].length<4398046511104)=true:=MK (by simp;omega);simp only[hroom,cond_true];cases decide (f.1=516)<;>cases UQ f.2<;>cases decide (K.length<8)<;>cases decide (f.2∈K)<;>rfl)
 have e0:OG.l1 .lim (t,(t.length:Int),0,a0,a1,a2,a3,a4,a5,a6,a7,a8,a9,a10,a11,a12,a13,a14,a15,a16,a17,a18,a19,a20,a21,a22,a23,a24,a25,a26,a27,a28,a29,a30,a31,a32,a33,a34,a35,a36,a37,a38,a39,a40,a41,a42,a43,a44,a45,a46,a47,a48,a49,a50,a51,a52,a53,a54,a55,a56,J,())=_:=e;rw[e0,OG.q1,aic];simp only[OG.b1,MO (show ¬(t.length:Int)<(t.length:Int) by omega),cond_false]
end Go.AM
end
section
set_option maxRecDepth 100000
namespace Go.AM
theorem ZM{v:VV}(hv:okV v)(hf:Ri v=true)(hvb:vB v){s key:List Int}(hs:Bs s)(hl:s.length<9223372036854775808)(hk:key.length<NC)(hkb:Bs key):
  Pz.run .lim (v,s,key,())=some ((Qu v s key).1,(Qu v s key).2,()):=by
 simp only[Pz.run,XU hs hl,ahw];unfold Qu;by_cases h0:Xn s=0
 case neg=>rw[MO h0,if_neg h0];rfl
 rw[MK h0,if_pos h0];have w:=was hs h0;have hfew:=w.few;have hok:=w.ok;have hwb:=Xd hs h0;have hsl:s.length=48+(Nl (O1 s).fs).length:=by
  have:=congrArg aiF w.st;rw[ahM,ahQ,ah_ w.l0]at this;exact this
 have ad4:=w.l1;generalize O1 s=r at hfew hok hwb hsl;have hfs:r.2.2.2.2.2.2.2.2.2.2.2.2.2.length<=16:=hfew;have acH:=Rh r.fs 1028;simp only[ahx,cond_false,MR (show r.2.2.2.2.2.2.2.2.2.2.2.2.2.length<9223372036854775808 by omega),cond_true,ahw,MR (show (findF r.fs 1028).length<9223372036854775808 by omega)];rw[aaO hfew];rcases Ru r.fs 1028 with⟨q1,q2⟩|⟨k,l,q1,q2,hkl,hkd⟩
 ·simp only[q1,q2];rfl
 have hmem:rd f0 r.fs (k:Int)∈r.fs:=OB (by omega) (by omega);have hfo:=hok _ hmem;have hal:0<(findF r.fs 1028).length:=by rw[q2];simp
 have hat:rd 0 (findF r.fs 1028) 0=(k:Int):=by rw[q2];rfl
 have hkl':k<r.2.2.2.2.2.2.2.2.2.2.2.2.2.length:=hkl;simp only[q1,ahw,MO (show ¬((findF r.fs 1028).length:Int)=0 by omega),cond_false,MO (show ¬(k:Int)<0 by omega),M_ (show (0:Int)<=0 by omega) (show (0:Int)<=(k:Int) by omega) (ahU _),MK (show (k:Int)<=(r.2.2.2.2.2.2.2.2.2.2.2.2.2.length:Int) by omega),ahD,cond_true,
  MV (show (0:Int)<=(k:Int) by omega) (show (k:Int)<(r.2.2.2.2.2.2.2.2.2.2.2.2.2.length:Int) by omega),MV (show (0:Int)<=0 by omega) (show (0:Int)<((findF r.fs 1028).length:Int) by omega),hat]
 have hbb:Bs (rd f0 r.fs (k:Int)).2:=hfo.b;have hbl:(rd f0 r.fs (k:Int)).2.length<65532:=hfo.l1;have sp:=Yq hbb (by omega);have sp:Rj.run .lim ((rd ((0:Int),([]:List Int)) r.2.2.2.2.2.2.2.2.2.2.2.2.2 (k:Int)).2,())=_:=sp;obtain⟨sB1,sB2,sL1,sL2⟩:=acM hbb;simp only[sp,ahw];generalize Uc (rd f0 r.fs (k:Int)).2=g at sB1 sB2 sL1 sL2;obtain⟨MS,sealed,e⟩:=g;simp only at sB1 sB2 sL1 sL2 ⊢
 by_cases he:e=0
 case neg=>rw[MO he,if_neg he];rfl
 rw[MK he,if_pos he];have hcz:cut r.2.2.2.2.2.2.2.2.2.2.2.2.2 0 (k:Int)=r.2.2.2.2.2.2.2.2.2.2.2.2.2.take k:=QB rfl;have hw:=hwb k;have hw:Nj.run .lim ((r.1,r.2.1,r.2.2.1,r.2.2.2.1,r.2.2.2.2.1,r.2.2.2.2.2.1,r.2.2.2.2.2.2.1,r.2.2.2.2.2.2.2.1,r.2.2.2.2.2.2.2.2.1,r.2.2.2.2.2.2.2.2.2.1,r.2.2.2.2.2.2.2.2.2.2.1,r.2.2.2.2.2.2.2.2.2.2.2.1,r.2.2.2.2.2.2.2.2.2.2.2.2.1,r.2.2.2.2.2.2.2.2.2.2.2.2.2.take k),())=some (s.take (48+(Nl (r.fs.take k)).length),0,()):=hw;have hle:=WB r.fs k;generalize hN:48+(Nl (r.fs.take k)).length=N at hw;have hNs:N<=s.length:=by omega
 have hcn:cut s 0 (N:Int)=s.take N:=QB rfl;have T:Wv key [s.take N,MS] sealed:=⟨hk,hkb,by simp[NC],fun t ht=>by
  simp only[aik,aij,or_false]at ht;rcases ht with rfl|rfl
  ·rw[ahQ];exact PL (by omega)
  ·exact PL (by omega),PL (by omega)⟩
 have op:=Yh hv T sB2;have op:OW.run .lim ((v.1,v.2),key,[s.take N,MS],sealed,())=_:=op;simp only[ahx,cond_false,hcz,hw,ahw,op,hcn,M_ (show (0:Int)<=0 by omega) (show (0:Int)<=(N:Int) by omega) (show (N:Int)<=(s.length:Int) by omega),cond_true];by_cases ho:(O5 v key [s.take N,MS] sealed).2=0
 case neg=>rw[MO ho,if_neg ho];rfl
 rw[MK ho,if_pos ho];obtain⟨_,ol,_,oB⟩:=WM hf hvb ho;generalize (O5 v key [s.take N,MS] sealed).1=p at ol oB;simp only[ahx,cond_false,abj oB (show p.length<9223372036854775808 by omega),ahw];by_cases ht:(UD p.length p []).2=0
 case neg=>rw[MO ht,if_neg ht];rfl
 rw[MK ht,if_pos ht];simp only[ahx,cond_false,M_ (show (0:Int)<=0 by omega) (show (0:Int)<=(k:Int) by omega) (show (k:Int)<=(r.2.2.2.2.2.2.2.2.2.2.2.2.2.length:Int) by omega),cond_true]
end Go.AM
end
section
set_option maxRecDepth 100000
namespace Go.AM
abbrev h00:HD:=(0,([],([],((0,(0,(0,(0,(0,(0,(0,(0,(0,(0,(0,(0,(0,([]:List FF)))))))))))))),(0,0)))))
abbrev adP:PK:=(0,(0,(0,(0,(0,(0,(0,(0,(0,(0,(0,(0,(0,([]:List FF))))))))))))))
abbrev PK.orig(p:PK):Int:=p.2.2.2.2.2.2.2.2.2.2.1
def Y7(a b:Int):Int:=
 ahz.wrap (ahz.wrap (ahz.wrap (0+Ja .i64 a 1)+Ja .i64 b 1)+Ja .i64 (ahz.wrap (ahz.wrap (0+I9 .i64 a 1)+I9 .i64 b 1)) 1)
theorem abS(a b:Int):Ox.run .lim ([a,b],())=some (Y7 a b):=by
 have s1:Ox.l0 .lim ([a,b],2,0,0,0,())=Ox.l0 .lim ([a,b],2,1,ahz.wrap (0+Ja .i64 a 1),ahz.wrap (0+I9 .i64 a 1),()):=by rw[Ox.q0];rfl
 have s2: ∀m m1,Ox.l0 .lim ([a,b],2,1,m,m1,())=Ox.l0 .lim ([a,b],2,2,ahz.wrap (m+Ja .i64 b 1),ahz.wrap (m1+I9 .i64 b 1),()):=fun m m1=>by rw[Ox.q0];rfl
 have s3: ∀m m1,Ox.l0 .lim ([a,b],2,2,m,m1,())=some (m,m1,()):=fun m m1=>by rw[Ox.q0];rfl
 simp only[Ox.run];rw[cond_pos (show wB (([a,b]:List Int).length:Int)=true from rfl)];show (ai6 (Ox.l0 .lim ([a,b],2,0,0,0,())) _)=_;rw[s1,s2,s3];rfl
def measS(a b c d:Int):Int×Int:=
 (Y7 (ahz.wrap (ahV.wrap (b-a))) (ahz.wrap (ahV.wrap (c-d))),ahz.wrap (ahV.wrap (ahV.wrap (d-a)-ahV.wrap (c-b))))
theorem ab4(a b c d:Int):Qq.run .lim (a,b,c,d,())=some (measS a b c d):=by
 have d1: ∀x y,SQ.run .lim (x,y,())=some (ahz.wrap (ahV.wrap (x-y))):=fun _ _=>rfl
 simp only[Qq.run,d1,ahw,abS];rfl
theorem Y1(n:Int):QE.run .lim (n,())=some (ahV.wrap (n+1)):=rfl
theorem X9(x:AS):Rf.run .lim (x,())=some ((x.1,(x.2.1,(([]:List Int),(([]:List Int),(0,x.2.2.2.2.2))))):AS):=rfl
noncomputable def U3(v:VV)(x:AS)(s:List Int)(t4:Int):AS×HD:=
 if x.2.2.1=[]\/ ¬Xn s=0\/ ¬(O1 s).2.1=4\/ ¬(O1 s).2.2.1=4 then(x,h00)else
 match QF (O1 s).fs 1028 with
 |none=>if(Q5 (O1 s).fs 260).2=0/\(Q5 (O1 s).fs 260).1=x.2.2.1 then((x.1,x.2.1,x.2.2.1,x.2.2.2.1,x.2.2.2.2.1,x.2.2.2.2.2.1,x.2.2.2.2.2.2.1,ahV.wrap (x.2.2.2.2.2.2.2.1+1),x.2.2.2.2.2.2.2.2),(1,x.2.2.1,x.2.2.2.1,adP,0,0))else(x,h00)
 |some k=>if(Q5 ((O1 s).fs.take k) 260).2=0/\(Q5 ((O1 s).fs.take k) 260).1=x.2.2.1 then
   if ¬(Qu v s x.1.2.2).2=0\/ ¬(Qu v s x.1.2.2).1.1.orig=x.2.2.2.2.1\/(Qu v s x.1.2.2).1.1.2.2.2.1>15 then(x,h00)
   else if(Qu v s x.1.2.2).1.1.2.2.2.1=0 then((x.1,x.2.1,[],[],0,x.2.2.2.2.2.1,x.2.2.2.2.2.2.1,x.2.2.2.2.2.2.2.1,ahV.wrap (x.2.2.2.2.2.2.2.2+1)),(2,x.2.2.1,x.2.2.2.1,(Qu v s x.1.2.2).1.1,0,0))
   else((x.1,Rt x.2.1 (Qu v s x.1.2.2).1.2.2,[],[],0,x.2.2.2.2.2.1,ahV.wrap (x.2.2.2.2.2.2.1+1),x.2.2.2.2.2.2.2.1,x.2.2.2.2.2.2.2.2),(3,x.2.2.1,x.2.2.2.1,(Qu v s x.1.2.2).1.1,measS x.2.2.2.2.1 (Qu v s x.1.2.2).1.1.2.2.2.2.2.2.2.2.2.2.2.1 (Qu v s x.1.2.2).1.1.2.2.2.2.2.2.2.2.2.2.2.2.1 t4))
  else(x,h00)
theorem Y9{v:VV}{s key:List Int}(hf:Ri v=true)(hvb:vB v)(h:(Qu v s key).2=0):(Qu v s key).1.2.2.length<=16/\ ∀f∈(Qu v s key).1.2.2,FOk f:=by
 obtain⟨_,k,MS,sealed,_,y2,y3⟩:=aaR h;obtain⟨_,ol,_,oB⟩:=WM hf hvb y2;obtain⟨l,k1,_,k3,k4⟩:=Zt _ _ [] (aio _) oB (by rw[y3]);rw[y3]at k1;have k1:(Qu v s key).1.2.2=[]++l:=k1;rw[k1];exact⟨k4 (by decide),k3⟩
theorem abU{v:VV}(hv:okV v)(hf:Ri v=true)(hvb:vB v){x:AS}(hx:AOk x)(h8:x.2.1.length<=8){s:List Int}(hs:Bs s)(hl:s.length<9223372036854775808)(t4:Int):
  OG.run .lim (v,x,s,t4,())=some ((U3 v x s t4).1,(U3 v x s t4).2,()):=by
 simp only[OG.run,XU hs hl,ahw];unfold U3;by_cases h1:x.2.2.1=[]\/ ¬Xn s=0\/ ¬(O1 s).2.1=4\/ ¬(O1 s).2.2.1=4
 ·rw[if_pos h1,cond_pos (by
   rcases h1 with h|h|h|h
   ·rw[MK h];simp
   ·rw[MO h];simp
   ·rw[MO h];simp
   ·rw[MO h];simp)]
 rw[if_neg h1];simp only[not_or,aiL]at h1;obtain⟨hu,h0,I5,hmode⟩:=h1;rw[MO hu,MK h0,MK I5,MK hmode];have w:=was hs h0;have hfew:=w.few;have abX:=ZM hv hf hvb (key:=x.1.2.2) hs hl hx.k.b hx.kb.2;have hin:=Y9 (v:=v) (s:=s) (key:=x.1.2.2) hf hvb;generalize Qu v s x.1.2.2=o at abX hin;generalize O1 s=r at hfew;have hfs:r.2.2.2.2.2.2.2.2.2.2.2.2.2.length<=16:=hfew;simp only[ahx,ahG,cond_false,MR (show r.2.2.2.2.2.2.2.2.2.2.2.2.2.length<9223372036854775808 by omega),cond_true];rw[abV hfs];have on:=aaT (l:=r.fs) 260 (by omega);have on:Td.run .lim (r.2.2.2.2.2.2.2.2.2.2.2.2.2,260,())=_:=on;have clo:MW.run .lim (x.2.1,())=some x.2.1:=TD (by omega);cases hq:QF r.2.2.2.2.2.2.2.2.2.2.2.2.2 1028 with
 |none=>
  have hq:QF r.fs 1028=none:=hq;simp only[hq,ahw,on,Y1];by_cases ho:(Q5 r.fs 260).2=0/\(Q5 r.fs 260).1=x.2.2.1
  ·rw[if_pos ho,MK ho.1,MK ho.2];rfl
  ·rw[if_neg ho,cond_pos (by
    by_cases q:(Q5 r.fs 260).2=0
    ·rw[MO (fun h=>ho ⟨q,h⟩)];simp
    ·rw[MO q];simp)]
 |some k=>
  have hq:QF r.fs 1028=some k:=hq;have hk:k<r.fs.length:=by
   rcases Ru r.fs 1028 with⟨q,_⟩|⟨k',l,q,_,hk,_⟩
   ·rw[hq]at q;cases q
   ·rw[hq]at q;cases q;exact hk
  have hk':k<r.2.2.2.2.2.2.2.2.2.2.2.2.2.length:=hk;have hc:cut r.2.2.2.2.2.2.2.2.2.2.2.2.2 0 (k:Int)=r.fs.take k:=QB rfl;have ht:(r.fs.take k).length<=16:=by rw[ahQ];omega
  have ot:=aaT (l:=r.fs.take k) 260 (by omega);simp only[hq,ahw,MK (show (k:Int)>=0 by omega),cond_true,M_ (show (0:Int)<=0 by omega) (show (0:Int)<=(k:Int) by omega) (show (k:Int)<=(r.2.2.2.2.2.2.2.2.2.2.2.2.2.length:Int) by omega),hc,ot];by_cases ho:(Q5 (r.fs.take k) 260).2=0/\(Q5 (r.fs.take k) 260).1=x.2.2.1
  case neg=>
   rw[if_neg ho,cond_pos (by
    by_cases q:(Q5 (r.fs.take k) 260).2=0
    ·rw[MO (fun h=>ho ⟨q,h⟩)];simp
    ·rw[MO q];simp)]
  rw[if_pos ho,MK ho.1,MK ho.2];have abX:Pz.run .lim ((v.1,v.2),s,x.1.2.2,())=_:=abX;simp only[ahD,ahx,cond_false,abX,ahw];by_cases h2: ¬o.2=0\/ ¬o.1.1.orig=x.2.2.2.2.1\/o.1.1.2.2.2.1>15
  ·rw[if_pos h2,cond_pos (by
    rcases h2 with h|h|h
    ·rw[MO h];simp
    ·rw[MO h];simp
    ·rw[MK h];simp)]
  rw[if_neg h2];simp only[not_or,aiL]at h2;obtain⟨e0,e1,e2⟩:=h2;have e1:o.1.1.2.2.2.2.2.2.2.2.2.2.1=x.2.2.2.2.1:=e1;rw[MK e0,MK e1,MO e2];obtain⟨i1,i2⟩:=hin e0;simp only[ahx,ahJ,cond_false,X9,ahw,Y1];by_cases h3:o.1.1.2.2.2.1=0
  ·rw[MK h3,if_pos h3];rfl
  rw[MO h3,if_neg h3];simp only[cond_false,ab4,ahw,clo,MR (show o.1.2.2.length<9223372036854775808 by omega),cond_true];rw[abW i1 (fun f hf=>aiK (i2 f hf).l1 (by decide)) (hJ:=h8)];rfl
end Go.AM
end
section
set_option maxRecDepth 100000
namespace Go.AM
theorem acE(n:Int):I9 .i64 n 1=n%2:=by
 show ahz.wrap ((ah7 64 n &&& ah7 64 1).toNat:Int)=_;rw[aiP,aiq,show (ah7 64 1).toNat=2^1-1 from rfl,aii];rw[wrap64 (by omega) (by omega)];omega
theorem Zo(n:Int):Ja .i64 n 1=n/2:=by
 have:=Qo n 0 1 .i64 (by decide);exact this
theorem adV(n:Int):decide (n.tmod 2=0)=decide (n%2=0):=decide_eq_decide.2 ⟨fun h=>by have:=Int.dvd_of_tmod_eq_zero h;omega,fun h=>Int.tmod_eq_zero_of_dvd (by omega)⟩
theorem YX(n:Int): -9223372036854775808<=ahz.wrap n/\ahz.wrap n<9223372036854775808:=by unfold ai1;simp[aiZ,aiO];omega
theorem af_(n:Int):ahV.wrap (ahz.wrap (ahV.wrap n))=ahV.wrap n:=by unfold ai1;simp[aiZ,aiO];omega
theorem aaE{a b:Int}(ha: -9223372036854775808<=a/\a<9223372036854775808)(hb: -9223372036854775808<=b/\b<9223372036854775808):
  Y7 a b=if ¬a%2=0/\ ¬b%2=0 then ahz.wrap (ahz.wrap (a/2+b/2)+1)else ahz.wrap (a/2+b/2):=by
 unfold Y7;rw[Zo,Zo,acE,acE,Zo,ai2,ai2,wrap64 (n:=a/2) (by omega) (by omega),wrap64 (n:=a%2) (by omega) (by omega),wrap64 (n:=a%2+b%2) (by omega) (by omega)];have hS:=YX (a/2+b/2);generalize ahz.wrap (a/2+b/2)=S at hS;by_cases h: ¬a%2=0/\ ¬b%2=0
 ·rw[if_pos h,show (a%2+b%2)/2=1 by omega]
 ·rw[if_neg h,show (a%2+b%2)/2=0 by omega,Int.add_zero,wrap64 hS.1 hS.2]
theorem aa3(a b c d:Int):Po.run .lim (a,b,c,d,())=some (measS a b c d):=by
 have d1: ∀x y,Ov.run .lim (x,y,())=some (ahz.wrap (ahV.wrap (x-y))):=fun _ _=>rfl
 simp only[Po.run,d1,ahw,ahC,cond_true,adV,Zo,af_];unfold measS;rw[aaE (YX _) (YX _)];generalize ahz.wrap (ahV.wrap (b-a))=x;generalize ahz.wrap (ahV.wrap (c-d))=y;by_cases h1:x%2=0
 ·rw[MK h1,if_neg (fun h=>h.1 h1)];rfl
 ·by_cases h2:y%2=0
  ·rw[MO h1,MK h2,if_neg (fun h=>h.2 h2)];rfl
  ·rw[MO h1,MO h2,if_pos ⟨h1,h2⟩];rfl
end Go.AM
end
section
namespace Go.AM
theorem PG{n:Int}(h0:0<=n)(h1:n<18446744073709551616){k:Nat}{m:List Int}(hk:k<m.length)(hm:m.length<=8):
  MQ.l0 .lim (n,(k:Int),m,())=MQ.l0 .lim (n/256,(k:Int)-1,m.set k (ahN.wrap n),()):=by
 have e1:ahV.wrap (n.tdiv 256)=n/256:=by rw[ahY h0,Tq];omega
 have e2:ahN.wrap (n.tmod 256)=ahN.wrap n:=by rw[ahZ h0,QK,QK];omega
 rw[MQ.q0];simp only[MQ.b0,e1,e2];rw[cond_pos (MK (show (k:Int)>=0 by omega)),MV (by omega) (by omega),cond_true,wrap64 (by omega) (by omega),ahT]
theorem WU(n:Int)(m:List Int):MQ.l0 .lim (n,-1,m,())=some (m,()):=by rw[MQ.q0];rfl
theorem acL{n:Int}(h0:0<=n)(h1:n<65536):MQ.run .lim (n,2,())=some (twoS n):=by
 show (MQ.l0 .lim (n,((1:Nat):Int),[0,0],())).bind _=_;rw[PG h0 (by omega) (by simp) (by simp)];show (MQ.l0 .lim (n/256,((0:Nat):Int),[0,ahN.wrap n],())).bind _=_;rw[PG (by omega) (by omega) (by simp) (by simp)];show (MQ.l0 .lim (n/256/256,-1,[ahN.wrap (n/256),ahN.wrap n],())).bind _=_;rw[WU];unfold twoS;rw[adg];rfl
theorem RF(n:Int)(k:Nat)(hk:k<=64):TY n k=ahN.wrap (n/2^k):=by unfold TY;rw[Qo n 0 k .u64 hk]
theorem adS{n:Int}(h0:0<=n)(h1:n<18446744073709551616):MQ.run .lim (n,4,())=some (by4 n):=by
 show (MQ.l0 .lim (n,((3:Nat):Int),[0,0,0,0],())).bind _=_;rw[PG h0 h1 (by simp) (by simp)];show (MQ.l0 .lim (n/256,((2:Nat):Int),[0,0,0,ahN.wrap n],())).bind _=_;rw[PG (by omega) (by omega) (by simp) (by simp)];show (MQ.l0 .lim (n/256/256,((1:Nat):Int),[0,0,ahN.wrap (n/256),ahN.wrap n],())).bind _=_;rw[PG (by omega) (by omega) (by simp) (by simp)];show (MQ.l0 .lim (n/256/256/256,((0:Nat):Int),[0,ahN.wrap (n/256/256),ahN.wrap (n/256),ahN.wrap n],())).bind _=_;rw[PG (by omega) (by omega) (by simp) (by simp)];show (MQ.l0 .lim (n/256/256/256/256,-1,[ahN.wrap (n/256/256/256),ahN.wrap (n/256/256),ahN.wrap (n/256),ahN.wrap n],())).bind _=_;rw[WU];unfold by4;rw[RF n 24 (by decide),RF n 16 (by decide),RF n 8 (by decide),RF n 0 (by decide)];have e1:n/256/256/256=n/2^24:=by show _=n/16777216;omega
 have e2:n/256/256=n/2^16:=by show _=n/65536;omega
 have e3:n/2^0=n:=by show n/1=n;omega
 rw[e1,e2,e3];rfl
theorem Zf{n:Int}(h0:0<=n)(h1:n<18446744073709551616):MQ.run .lim (n,8,())=some (by8 n):=by
 show (MQ.l0 .lim (n,((7:Nat):Int),[0,0,0,0,0,0,0,0],())).bind _=_;rw[PG h0 h1 (by simp) (by simp)];have d1:0<=n/256/\n/256<18446744073709551616:=by omega
 have e1:n/256=n/2^8:=rfl;generalize hb1:n/256=b1 at*;show (MQ.l0 .lim (b1,((6:Nat):Int),[0,0,0,0,0,0,0,ahN.wrap n],())).bind _=_;rw[PG d1.1 d1.2 (by simp) (by simp)];have d2:0<=b1/256/\b1/256<18446744073709551616:=by omega
 have e2:b1/256=n/2^16:=by show _=n/65536;omega
 generalize hb2:b1/256=b2 at*;show (MQ.l0 .lim (b2,((5:Nat):Int),[0,0,0,0,0,0,ahN.wrap b1,ahN.wrap n],())).bind _=_;rw[PG d2.1 d2.2 (by simp) (by simp)];have d3:0<=b2/256/\b2/256<18446744073709551616:=by omega
 have e3:b2/256=n/2^24:=by show _=n/16777216;omega
 generalize hb3:b2/256=b3 at*;show (MQ.l0 .lim (b3,((4:Nat):Int),[0,0,0,0,0,ahN.wrap b2,ahN.wrap b1,ahN.wrap n],())).bind _=_;rw[PG d3.1 d3.2 (by simp) (by simp)];have d4:0<=b3/256/\b3/256<18446744073709551616:=by omega
 have e4:b3/256=n/2^32:=by show _=n/4294967296;omega
 generalize hb4:b3/256=b4 at*;show (MQ.l0 .lim (b4,((3:Nat):Int),[0,0,0,0,ahN.wrap b3,ahN.wrap b2,ahN.wrap b1,ahN.wrap n],())).bind _=_;rw[PG d4.1 d4.2 (by simp) (by simp)];have d5:0<=b4/256/\b4/256<18446744073709551616:=by omega
 have e5:b4/256=n/2^40:=by show _=n/1099511627776;omega
 generalize hb5:b4/256=b5 at*;show (MQ.l0 .lim (b5,((2:Nat):Int),[0,0,0,ahN.wrap b4,ahN.wrap b3,ahN.wrap b2,ahN.wrap b1,ahN.wrap n],())).bind _=_;rw[PG d5.1 d5.2 (by simp) (by simp)];have d6:0<=b5/256/\b5/256<18446744073709551616:=by omega
 have e6:b5/256=n/2^48:=by show _=n/281474976710656;omega
 generalize hb6:b5/256=b6 at*;show (MQ.l0 .lim (b6,((1:Nat):Int),[0,0,ahN.wrap b5,ahN.wrap b4,ahN.wrap b3,ahN.wrap b2,ahN.wrap b1,ahN.wrap n],())).bind _=_;rw[PG d6.1 d6.2 (by simp) (by simp)];have d7:0<=b6/256/\b6/256<18446744073709551616:=by omega
 have e7:b6/256=n/2^56:=by show _=n/72057594037927936;omega
 generalize hb7:b6/256=b7 at*;show (MQ.l0 .lim (b7,((0:Nat):Int),[0,ahN.wrap b6,ahN.wrap b5,ahN.wrap b4,ahN.wrap b3,ahN.wrap b2,ahN.wrap b1,ahN.wrap n],())).bind _=_;rw[PG d7.1 d7.2 (by simp) (by simp)];show (MQ.l0 .lim (b7/256,-1,[ahN.wrap b7,ahN.wrap b6,ahN.wrap b5,ahN.wrap b4,ahN.wrap b3,ahN.wrap b2,ahN.wrap b1,ahN.wrap n],())).bind _=_;rw[WU];unfold by8;rw[RF n 56 (by decide),RF n 48 (by decide),RF n 40 (by decide),RF n 32 (by decide),RF n 24 (by decide),RF n 16 (by decide),RF n 8 (by decide),RF n 0 (by decide),<-e1,<-e2,<-e3,<-e4,<-e5,<-e6,<-e7];have e0:n/2^0=n:=by show n/1=n;omega
 rw[e0];rfl
theorem WS{l:List FF}(hl:FL l):Nw.run .lim (l,())=some (QN l,QZ l,()):=by
 obtain⟨h1,h2⟩:=hl;simp only[Nw.run,MR h1,cond_true];by_cases h16:l.length>16
 ·rw[MK (show (l.length:Int)>16 by omega)];have:QZ l=18:=by unfold QZ;rw[if_pos h16]
  unfold QN;rw[this];rfl
 rw[MO (show ¬(l.length:Int)>16 by omega)];have e:=Qn (f:=Nw.l0 .lim) (fun k=>(l,RN l k,((min (Nl (l.take k)).length 1233:Nat):Int),(k:Int),())) l.length (fun k:Nat=> !decide (fE (rd f0 l (k:Int))=0))
  (fun k=>if fE (rd f0 l (k:Int))=13 then some (.inl (([]:List Int),13,()))else some (.inr (.inl (([]:List Int),10,())))) (fun k hk=>by
  have hm:=OB (d:=f0) (xs:=l) (i:=(k:Int)) (by omega) (by omega);have hb:=h2 _ hm;rw[Nw.q0];generalize hg:rd f0 l (k:Int)=f at hm hb;simp only[Nw.b0,MR h1,MK (show (k:Int)<(l.length:Int) by omega),MV (show (0:Int)<=(k:Int) by omega) (show (k:Int)<(l.length:Int) by omega),cond_true,hg,MR (show f.2.length<9223372036854775808 by omega),ahC];unfold fE;by_cases hk1:f.1<0\/f.1>=65536
  ·rw[if_pos hk1];have:((decide (f.1<0))||(decide (f.1>65535)))=true:=by rw[Bool.or_eq_true,decide_eq_true_eq,decide_eq_true_eq];omega
   simp only[this,cond_true];rfl
  ·rw[if_neg hk1];have:((decide (f.1<0))||(decide (f.1>65535)))=false:=by rw[MO (show ¬f.1<0 by omega),MO (show ¬f.1>65535 by omega)];rfl
   simp only[this,cond_false];have h3:(f.2.length:Int).tmod 4=((f.2.length%4:Nat):Int):=by rw[ahZ (by omega)];omega
   by_cases hk2:f.2.length<12\/f.2.length%4≠0
   ·rw[if_pos hk2];have:((decide ((f.2.length:Int)<12))||(!(decide ((f.2.length:Int).tmod 4=0))))=true:=by
     rw[h3];rcases hk2 with q|q
     ·rw[MK (show (f.2.length:Int)<12 by omega)];rfl
     ·rw[MO (show ¬((f.2.length%4:Nat):Int)=0 by omega)];simp
    simp only[this,cond_true];rfl
   ·rw[if_neg hk2];have:((decide ((f.2.length:Int)<12))||(!(decide ((f.2.length:Int).tmod 4=0))))=false:=by rw[h3,MO (show ¬(f.2.length:Int)<12 by omega),MK (show ((f.2.length%4:Nat):Int)=0 by omega)];rfl
    simp only[this,cond_false,decide_true,ahx,cond_false];have es:=SA hk;have el:(Nl (l.take (k+1))).length=(Nl (l.take k)).length+(4+f.2.length):=by rw[es,ahM,Sv,hg]
    have ew:mn (ahz.wrap ((ahz.wrap (((min (Nl (l.take k)).length 1233:Nat):Int)+4))+(f.2.length:Int))) 1233=((min (Nl (l.take (k+1))).length 1233:Nat):Int):=by rw[OH,wrap64 (n:=((min (Nl (l.take k)).length 1233:Nat):Int)+4) (by omega) (by omega),wrap64 (by omega) (by omega)];omega
    simp only[ew];by_cases hl2:(Nl (l.take (k+1))).length>1232
    ·have e3:RN l (k+1)=RN l k:=by rw[RN,if_pos hl2]
     rw[cond_neg (MO (by omega)),e3,Qz k (by omega)]
    ·have e3:RN l (k+1)=RN l k++U1 f:=by rw[RN,if_neg hl2,hg]
     have eo:=Wi (l:=l) k (by omega) (by omega);have ol:(RN l k).length<=1232:=by rw[eo];omega
     have e4:ahV.wrap (ahz.wrap ((f.2.length:Int)+4))=(f.2.length:Int)+4:=by rw[wrap64 (by omega) (by omega),Tq];omega
     have e5:ahV.wrap f.1=f.1:=by rw[Tq];omega
     rw[cond_pos (MK (by omega)),e4,e5,acL (by omega) (by omega),ahw,cond_pos (MK (by rw[OI];unfold maxStr;omega)),acL (by omega) (by omega),ahw,
      cond_pos (MK (by rw[ahM,OI,OI];unfold maxStr;omega)),cond_pos (MK (by rw[ahM,ahM,OI,OI];unfold maxStr;omega)),Qz k (by omega),e3]
     unfold U1;simp only[ah5])
 have e0:Nw.l0 .lim (l,([]:List Int),0,0,())=_:=e;rw[cond_false,e0];unfold QN QZ;rw[if_neg h16];cases hq:(ahR l.length).find? (fun k:Nat=> !decide (fE (rd f0 l (k:Int))=0))with
 |some k=>
  have hk:=ail hq;simp only[ait,decide_eq_false_iff_not]at hk;simp only;have:fE (rd f0 l (k:Int))=13\/fE (rd f0 l (k:Int))=10:=by
   unfold fE at hk ⊢
   split
   ·exact .inl rfl
   ·split
    ·exact .inr rfl
    ·rename_i q1 q2;rw[if_neg q1,if_neg q2]at hk;exact absurd rfl hk
  rw[if_neg hk];rcases this with q|q
  ·rw[if_pos q,q];rfl
  ·rw[if_neg (by omega),q];rfl
 |none=>
  simp only[aic];rw[Nw.q0];simp only[Nw.b0,MR h1,cond_true,MO (show ¬(l.length:Int)<(l.length:Int) by omega),cond_false,ahw];by_cases hl:(Nl l).length>1232
  ·rw[cond_pos (MK (by omega)),if_pos hl];rfl
  ·rw[cond_neg (MO (by omega)),if_neg hl,Wi l.length (aio _) (by rw[aic];omega),aic];rfl
theorem acz{α:Type}(r0 r1 r2 r3 r4 r5:Bool)(E K:Option α):((some r0).bind fun r=>((bif !!r then some r1 else some false)).bind fun r1=>((bif !(!r|| !r1)then some r2 else some false)).bind fun r2=>((bif !((!r|| !r1)|| !r2)then some r3 else some false)).bind fun r3=>
  ((bif !(((!r|| !r1)|| !r2)|| !r3)then some r4 else some false)).bind fun r4=>((bif !((((!r|| !r1)|| !r2)|| !r3)|| !r4)then some r5 else some false)).bind fun r5=>
  bif(((((!r|| !r1)|| !r2)|| !r3)|| !r4)|| !r5)then E else K)=bif(((((r0&&r1)&&r2)&&r3)&&r4)&&r5)then K else E:=by
 cases r0<;>cases r1<;>cases r2<;>cases r3<;>cases r4<;>cases r5<;>rfl
theorem rb0: ∀a:Nat,a<4-> ∀b:Nat,b<8-> ∀c:Nat,c<8->ahN.wrap (ahz.wrap (ahz.wrap (ahz.wrap ((a:Int)*64)+ahz.wrap ((b:Int)*8))+(c:Int)))=b0S a b c:=by decide+kernel
theorem abY{n a b:Int}:Yd n a b=true ↔ a<=n/\n<=b:=by unfold Yd;rw[ahX,decide_eq_true_eq,decide_eq_true_eq]
structure HU(p:PK):Prop where
 a:0<=p.2.2.2.2.2.2.2.2.2.1/\p.2.2.2.2.2.2.2.2.2.1<18446744073709551616
 b:0<=p.2.2.2.2.2.2.2.2.2.2.1/\p.2.2.2.2.2.2.2.2.2.2.1<18446744073709551616
 c:0<=p.2.2.2.2.2.2.2.2.2.2.2.1/\p.2.2.2.2.2.2.2.2.2.2.2.1<18446744073709551616
 d:0<=p.2.2.2.2.2.2.2.2.2.2.2.2.1/\p.2.2.2.2.2.2.2.2.2.2.2.2.1<18446744073709551616
theorem uB(n:Int):0<=ahV.wrap n/\ahV.wrap n<18446744073709551616:=by rw[Tq];omega
theorem XC{p:PK}(hl:FL p.fs)(hu:HU p):OL.run .lim (p,())=some (VF p,Xc p,()):=by
 have hw: ∀n a b,Oi.run .lim (n,a,b,())=some (Yd n a b):=fun _ _ _=>rfl
 have hf:Nw.run .lim (p.2.2.2.2.2.2.2.2.2.2.2.2.2,())=some (QN p.fs,QZ p.fs,()):=WS hl;simp only[OL.run,hw];refine(acz _ _ _ _ _ _ _ _).trans ?_;show (bif XO p then _ else _)=_;cases hok:XO p with
 |false=>
  have:Xc p=13:=by unfold Xc;rw[hok];rfl
  unfold VF;rw[this];rfl
 |true=>
  rw[cond_true,hf,ahw];have hE:Xc p=QZ p.fs:=by unfold Xc;rw[if_pos hok]
  simp only;unfold VF;rw[hE];by_cases h0:QZ p.fs=0
  ·rw[cond_neg (by rw[MK h0];rfl),if_pos h0,h0];have hS:QN p.fs=Nl p.fs:=by unfold QN;rw[if_pos h0]
   have hlen:=SC (l:=p.fs);rw[hS]at hlen;have hh:=hok;unfold XO at hh;simp only[ahX,abY]at hh;obtain⟨⟨⟨⟨⟨a1,a2⟩,a3⟩,a4⟩,a5⟩,a6⟩:=hh;obtain⟨x,hx⟩:=aie a1.1;obtain⟨y,hy⟩:=aie a2.1;obtain⟨z,hz⟩:=aie a3.1;have hb:=rb0 x (by omega) y (by omega) z (by omega);have hb:ahN.wrap (ahz.wrap (ahz.wrap (ahz.wrap (p.1*64)+ahz.wrap (p.2.1*8))+p.2.2.1))=b0S p.1 p.2.1 p.2.2.1:=by rw[hx,hy,hz];exact hb
   have l4: ∀n,(by4 n).length=4:=fun n=>rfl
   have l8: ∀n,(by8 n).length=8:=fun n=>rfl
   simp only[hb,adS (uB _).1 (uB _).2,Zf hu.a.1 hu.a.2,Zf hu.b.1 hu.b.2,Zf hu.c.1 hu.c.2,Zf hu.d.1 hu.d.2,ahw,hS];have hL: ∀a:List Int,a.length<=2000->a.length<=maxStr:=fun a h=>by unfold maxStr;omega
   iterate 7 rw[cond_pos (MK (by simp only[ahM,aiR,aiX,l4,l8];decide))]
   rw[cond_pos (MK (by simp only[ahM,aiR,aiX,l4,l8];unfold maxStr;omega))];unfold ZF;simp only[ah5]
  ·rw[cond_pos (by rw[MO h0];rfl),if_neg h0]
end Go.AM
end
section
set_option maxRecDepth 100000
namespace Go.AM
theorem Zj{n:Int}(h0:0<=n)(h1:n<65536):PE.run .lim (n,())=some (twoS n):=by
 have e1:ahz.wrap (n.tdiv 256)=n/256:=by rw[ahY h0,wrap64 (by omega) (by omega)]
 have e2:ahN.wrap (n.tmod 256)=ahN.wrap n:=by rw[ahZ h0,QK,QK];omega
 simp only[PE.run,e1,e2];unfold twoS;rw[adg]
theorem HU.cut{p:PK}(h:HU p)(l:List FF):HU (PK.cut p l):=⟨h.a,h.b,h.c,h.d⟩
theorem aaY{v:VV}(hv:okV v)(hf:Ri v=true){key MS ahead:List Int}{inner:List FF}(hk:key.length<NC)(hkb:Bs key)(hn:MS.length<NC)(ha:ahead.length<NC)(hi:FL inner):
  Qb.run .lim (v,key,MS,ahead,inner,())=some ((QA v key MS ahead inner).1,(QA v key MS ahead inner).2.1,(QA v key MS ahead inner).2.2,()):=by
 have hn':MS.length<9223372036854775808:=hn;have ha':ahead.length<9223372036854775808:=ha;simp only[Qb.run,MR hn',MR ha',cond_true];unfold QA;by_cases h1:MS.length=16
 case neg=>rw[MO (show ¬(MS.length:Int)=16 by omega),if_neg h1];rfl
 rw[MK (show (MS.length:Int)=16 by omega),if_pos h1];by_cases h2:ahead.length>1280
 ·rw[MK (show (ahead.length:Int)>1280 by omega),if_pos h2];rfl
 rw[MO (show ¬(ahead.length:Int)>1280 by omega),if_neg h2];simp only[ahx,cond_false,WS hi,ahw];by_cases h3:QZ inner=0
 case neg=>rw[MO h3,if_neg h3];rfl
 rw[MK h3,if_pos h3];have hfl:=SC (l:=inner);have T:Wv key [ahead,MS] (QN inner):=⟨hk,hkb,by simp[NC],fun t ht=>by
  simp only[aik,aij,or_false]at ht;rcases ht with rfl|rfl
  ·exact ha
  ·exact hn,PL (by omega)⟩
 simp only[ahx,cond_false,ZU hv T,ahw];have hsl:=VE (key:=key) (ad:=[ahead,MS]) hf (show (QN inner).length<=65536 by omega);generalize PW v key [ahead,MS] (QN inner)=w at hsl;obtain⟨w1,w2,w3⟩:=w;simp only at hsl ⊢
 by_cases h4:w3=0
 case neg=>rw[MO h4,if_neg h4];rfl
 rw[MK h4,if_pos h4];have hp:Ry w2.length<4:=by unfold Ry;omega
 have hfs:(S_ w2).length<=w2.length+4:=by unfold S_;rw[ahM,ah2];omega
 simp only[ahx,cond_false,Zj (show (0:Int)<=16 by decide) (show (16:Int)<65536 by decide),Zj (show (0:Int)<=(w2.length:Int) by omega) (show (w2.length:Int)<65536 by omega),ahw,MR (show w2.length<9223372036854775808 by omega),cond_true];rw[cond_pos (MK (show (twoS 16).length+(twoS (w2.length:Int)).length<=maxStr by rw[OI,OI];decide)),cond_pos (MK (show (twoS 16++twoS (w2.length:Int)).length+MS.length<=maxStr by rw[ahM,OI,OI,h1];decide)),
  WT (show w2.length<4611686018427387900 by omega)]
 simp only[ahw];rw[cond_pos (MK (show ((twoS 16++twoS (w2.length:Int))++MS).length+(S_ w2).length<=maxStr by rw[ahM,ahM,OI,OI,h1];unfold maxStr;omega))];rfl
theorem ZQ{v:VV}(hv:okV v)(hf:Ri v=true){p:PK}{key MS:List Int}{inner:List FF}(hp:FL p.fs)(hu:HU p)(hpl:p.fs.length<=1000000000)(hk:key.length<NC)(hkb:Bs key)(hn:MS.length<NC)(hi:FL inner):
  Qc.run .lim (v,p,key,MS,inner,())=some ((QC v p key MS inner).1,(QC v p key MS inner).2.1,(QC v p key MS inner).2.2,()):=by
 have hff:=Rh p.fs 1028;have hfe:=Vb (l:=p.fs) 1028 (by omega) (by omega);have hfe:Nk.run .lim (p.2.2.2.2.2.2.2.2.2.2.2.2.2,1028,())=_:=hfe;simp only[Qc.run,hfe,ahw,MR (show (findF p.fs 1028).length<9223372036854775808 by omega),cond_true];unfold QC;by_cases h1:(findF p.fs 1028).length>0
 ·rw[MK (show ((findF p.fs 1028).length:Int)>0 by omega),if_pos h1];rfl
 rw[MO (show ¬((findF p.fs 1028).length:Int)>0 by omega),if_neg h1];simp only[cond_false,XC hp hu,ahw];by_cases h2:Xc p=0
 case neg=>rw[MO h2,if_neg h2];rfl
 rw[MK h2,if_pos h2];have hwl:=X0 p;simp only[ahx,cond_false,aaY hv hf hk hkb hn (PL (show (VF p).length<9223372036854775808 by omega)) hi,ahw];have hal:=Xq (v:=v) hf (key:=key) (MS:=MS) (ahead:=VF p) (inner:=inner);generalize QA v key MS (VF p) inner=a at hal;obtain⟨a1,a2,a3⟩:=a;simp only at hal ⊢
 by_cases h3:a3=0
 case neg=>rw[MO h3,if_neg h3];rfl
 rw[MK h3,if_pos h3];have hpl':p.2.2.2.2.2.2.2.2.2.2.2.2.2.length<=1000000000:=hpl;have hq:FL (PK.fs (PK.cut p (p.fs++[a2]))):=by
  refine⟨?_,fun f hf=> ?_⟩
  ·show (p.fs++[a2]).length<_;rw[ahM];simp;omega
  ·rcases ah3.1 hf with hf|hf
   ·exact hp.2 f hf
   ·rw[ah4.1 hf];omega
 have hw:=XC hq (hu.cut (p.fs++[a2]));have hw:OL.run .lim ((p.1,p.2.1,p.2.2.1,p.2.2.2.1,p.2.2.2.2.1,p.2.2.2.2.2.1,p.2.2.2.2.2.2.1,p.2.2.2.2.2.2.2.1,p.2.2.2.2.2.2.2.2.1,p.2.2.2.2.2.2.2.2.2.1,p.2.2.2.2.2.2.2.2.2.2.1,p.2.2.2.2.2.2.2.2.2.2.2.1,p.2.2.2.2.2.2.2.2.2.2.2.2.1,p.2.2.2.2.2.2.2.2.2.2.2.2.2++[a2]),())=_:=hw;simp only[ahx,cond_false];rw[cond_pos (MK (show p.2.2.2.2.2.2.2.2.2.2.2.2.2.length<2932031007402 by omega)),cond_pos (MK (show p.2.2.2.2.2.2.2.2.2.2.2.2.2.length+[a2].length<2932031007402 by simp;omega)),hw];simp only[ahw];by_cases h4:Xc (PK.cut p (p.fs++[a2]))=0
 ·rw[MK h4,if_pos h4];rfl
 ·rw[MO h4,if_neg h4];rfl
end Go.AM
end
