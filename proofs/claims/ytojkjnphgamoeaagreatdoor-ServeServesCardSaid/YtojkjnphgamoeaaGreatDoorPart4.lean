import Derived.Test.YtojkjnphgamoeaaGreatDoorPart3

/-! The functions that the laws of this seat reach, as plain functions, and what these answer; no condition. -/
set_option linter.unusedSimpArgs false
set_option linter.unusedVariables false
set_option linter.unusedSectionVars false

open BitVec renaming ofInt->ahS,toNat_ofInt->aik
open Bool renaming not_true->ag4,not_false->ag7,and_false->ag9,false_and->ag_,or_true->aha,false_or->ahb,true_and->ahc,and_self->ahd,or_false->ahf,and_true->ahg,true_or->ahh,not_not->ahi,or_self->ahj,and_eq_true->ahr,not_eq_true'->ahM,eq_iff_iff->ah_,or_eq_true->aia
open Eq renaming symm->aip
open Go.IntKind renaming u8->ag8,i64->ahe,u32->ahy,u64->ahC,i8->aiE
open Int renaming le_refl->ahp,toNat_natCast->ahq,tdiv_eq_ediv_of_nonneg->aht,tmod_eq_emod_of_nonneg->ahw,toNat_of_nonneg->ahF,eq_ofNat_of_zero_le->ahO,natCast_nonneg->ah0,pow_pos->ah5,le_of_lt->aib,ediv_le_self->aio,ediv_nonneg->aiq,ediv_one->aiz,pow_zero->aiA
open List renaming length_append->ag5,length_drop->ahk,length_take->ahl,replicate->ahm,take_of_length_le->ahn,range->aho,append_assoc->ahs,mem_append->ahu,mem_range->ahv,mem_singleton->ahx,length_replicate->ahz,not_mem_nil->ahA,drop_zero->ahB,mem_cons->ahD,mem_of_find?_eq_some->ahE,drop_append_of_le_length->ahG,take_append_of_le_length->ahH,nil_append->ahI,take_append_drop->ahJ,find?_range_eq_some->ahN,drop_of_length_le->ahP,drop_drop->ahR,mem_of_mem_take->ahT,length->ahU,length_map->ahV,length_set->ahW,take_left'->ahX,getD_eq_getElem?_getD->ahY,getElem_concat_length->ahZ,find?_eq_none->ah1,mem_replicate->ah2,any_eq_false->ah3,length_range->ah4,filter_cons_of_neg->ah6,filter_cons_of_pos->ah7,length_cons->ah8,take_length->ah9,drop_left'->aic,find?_some->aie,mem_of_mem_drop->aif,drop_take->aii,map_congr_left->aij,map_inj_left->ail,mem_map->ain,foldl_cons->air,length_nil->ais,drop_left->aiu,foldl_nil->aiv,take_left->aiw,take_take->aix
open Nat renaming min_eq_left->ahK,sub_zero->ahL,le_refl->ahQ,zero_le->ait,blt_eq->aiy,le_trans->aiB,mul_zero->aiC,sub_self->aiD
open Option renaming bind_some->ag3,bind_none->ag6
section
namespace Go.AM
def sg(c:Int):Int:=if c>127 then c-256 else c
def rdP(s:List Int)(fs:List FF):PK:=(rd 0 s 0/64,rd 0 s 0/8%8,rd 0 s 0%8,rd 0 s 1,sg (rd 0 s 2),sg (rd 0 s 3),OJ ((s.take 8).drop 4),OJ ((s.take 12).drop 8),OJ ((s.take 16).drop 12),
 OJ ((s.take 24).drop 16),OJ ((s.take 32).drop 24),OJ ((s.take 40).drop 32),OJ ((s.take 48).drop 40),fs)
def Ws(s:List Int):Int:=if s.length<48 then 11 else if s.length>1280 then 12 else(Vd (s.drop 48).length (s.drop 48) []).2
def Po(s:List Int):PK:=if Ws s=0 then rdP s (Vd (s.drop 48).length (s.drop 48) []).1 else p0
theorem aew{c:Int}(h:B8 c):ahe.wrap (Je .u8 c 6)=c/64:=Qa (p:=fun c=>ahe.wrap (Je .u8 c 6)=c/64) (by decide+kernel) h
theorem aex{c:Int}(h:B8 c):ahe.wrap (Jc .u8 (Je .u8 c 3) 7)=c/8%8:=Qa (p:=fun c=>ahe.wrap (Jc .u8 (Je .u8 c 3) 7)=c/8%8) (by decide+kernel) h
theorem aey{c:Int}(h:B8 c):ahe.wrap (Jc .u8 c 7)=c%8:=Qa (p:=fun c=>ahe.wrap (Jc .u8 c 7)=c%8) (by decide+kernel) h
theorem adL{c:Int}(h:B8 c):ahe.wrap c=c:=Qa (p:=fun c=>ahe.wrap c=c) (by decide+kernel) h
theorem aez{c:Int}(h:B8 c):ahe.wrap (aiE.wrap c)=sg c:=Qa (p:=fun c=>ahe.wrap (aiE.wrap c)=sg c) (by decide+kernel) h
theorem aeA{c:Int}(h:B8 c):Pn.run .lim (c,())=some (sg c):=by
 have e1:=adL h;unfold sg;simp only[Pn.run,e1];by_cases q:c>127
 ·rw[MV q,if_pos q,wrap64 (by omega) (by omega)];rfl
 ·rw[M_ q,if_neg q];rfl
theorem aec{t:List Int}(hb:Bs t)(hl:t.length=4):ahy.wrap (OJ t)=OJ t/\ZB (ahC.wrap (OJ t))=t:=by
 have hv:=WJ hb 4 (by omega);rw[ahn (by omega)]at hv;refine⟨by rw[SS];omega,?_⟩;rw[show ahC.wrap (OJ t)=OJ t by rw[SX];omega]
 match t,hl with
 |[a,b,c,d],_=>
  have h1:=hb a (by simp);have h2:=hb b (by simp);have h3:=hb c (by simp);have h4:=hb d (by simp);have e:OJ [a,b,c,d]=((a*256+b)*256+c)*256+d:=by simp[OJ]
  have s1:=O8 (OJ [a,b,c,d]) 0 24 .u64 (by decide);have s2:=O8 (OJ [a,b,c,d]) 0 16 .u64 (by decide);have s3:=O8 (OJ [a,b,c,d]) 0 8 .u64 (by decide);have s4:=O8 (OJ [a,b,c,d]) 0 0 .u64 (by decide);unfold ZB Ua;simp only[s1,s2,s3,s4];simp only[PN,e];congr 1
  ·omega
  congr 1
  ·omega
  congr 1
  ·omega
  congr 1;omega
theorem afX{t:List Int}(hb:Bs t)(hl:t.length=8):by8 (OJ t)=t:=by
 match t,hl with
 |[a,b,c,d,a',b',c',d'],_=>
  have h1:=hb a (by simp);have h2:=hb b (by simp);have h3:=hb c (by simp);have h4:=hb d (by simp);have h5:=hb a' (by simp);have h6:=hb b' (by simp);have h7:=hb c' (by simp);have h8:=hb d' (by simp);have e:OJ [a,b,c,d,a',b',c',d']=((((((a*256+b)*256+c)*256+d)*256+a')*256+b')*256+c')*256+d':=by simp[OJ]
  have s1:=O8 (OJ [a,b,c,d,a',b',c',d']) 0 56 .u64 (by decide);have s2:=O8 (OJ [a,b,c,d,a',b',c',d']) 0 48 .u64 (by decide);have s3:=O8 (OJ [a,b,c,d,a',b',c',d']) 0 40 .u64 (by decide);have s4:=O8 (OJ [a,b,c,d,a',b',c',d']) 0 32 .u64 (by decide);have s5:=O8 (OJ [a,b,c,d,a',b',c',d']) 0 24 .u64 (by decide);have s6:=O8 (OJ [a,b,c,d,a',b',c',d']) 0 16 .u64 (by decide);have s7:=O8 (OJ [a,b,c,d,a',b',c',d']) 0 8 .u64 (by decide);have s8:=O8 (OJ [a,b,c,d,a',b',c',d']) 0 0 .u64 (by decide);unfold by8 Ua;simp only[s1,s2,s3,s4,s5,s6,s7,s8];simp only[PN,e];congr 1
  ·omega
  congr 1
  ·omega
  congr 1
  ·omega
  congr 1
  ·omega
  congr 1
  ·omega
  congr 1
  ·omega
  congr 1
  ·omega
  congr 1;omega
theorem Uo{s:List Int}{a b:Nat}(h:b<=s.length):((s.take b).drop a).length=b-a:=by rw[ahk,ahl,ahK h]
theorem Yq{s:List Int}(hs:Bs s)(hl:s.length<9223372036854775808):RN.run .lim (s,())=some (Po s,Ws s,()):=by
 simp only[RN.run,Nh hl,cond_true];unfold Po Ws;by_cases h1:s.length<48
 ·rw[MV (show (s.length:Int)<48 by omega),if_pos h1];rfl
 rw[M_ (show ¬(s.length:Int)<48 by omega),if_neg h1];by_cases h2:s.length>1280
 ·rw[MV (show (s.length:Int)>1280 by omega),if_pos h2];rfl
 rw[M_ (show ¬(s.length:Int)>1280 by omega),if_neg h2];have hc:cut s 48 (s.length:Int)=s.drop 48:=SG (a:=48) rfl;simp only[cond_false,Nq (show (0:Int)<=48 by omega) (show (48:Int)<=(s.length:Int) by omega) (ahp _),cond_true,hc,acp (hs.drop 48) (show (s.drop 48).length<9223372036854775808 by rw[ahk];omega),ag3];generalize Vd (s.drop 48).length (s.drop 48) []=r;obtain⟨fs,e⟩:=r;simp only;by_cases h0:e=0
 ·rw[MV h0,if_pos h0];have rb: ∀k:Nat,k<48->B8 (rd 0 s (k:Int)):=fun k hk=>hs _ (Ol (by omega) (by omega))
  have r0:=rb 0 (by decide);have r1:=rb 1 (by decide);have r2:=rb 2 (by decide);have r3:=rb 3 (by decide);have v: ∀a b:Nat,a<=b->b<=48->b-a<=8->Om.run .lim ((s.take b).drop a,())=some (OJ ((s.take b).drop a)):=fun a b _ hb hq=>VI ((hs.take b).drop a) (by rw[Uo (by omega)];omega)
  have u: ∀a b:Nat,b=a+4->b<=48->ahy.wrap (OJ ((s.take b).drop a))=OJ ((s.take b).drop a):=fun a b h hb=>(aec ((hs.take b).drop a) (by rw[Uo (by omega)];omega)).1
  have c1:cut s 4 8=(s.take 8).drop 4:=Qk rfl rfl;have c2:cut s 8 12=(s.take 12).drop 8:=Qk rfl rfl;have c3:cut s 12 16=(s.take 16).drop 12:=Qk rfl rfl;have c4:cut s 16 24=(s.take 24).drop 16:=Qk rfl rfl;have c5:cut s 24 32=(s.take 32).drop 24:=Qk rfl rfl;have c6:cut s 32 40=(s.take 40).drop 32:=Qk rfl rfl;have c7:cut s 40 48=(s.take 48).drop 40:=Qk rfl rfl;have k: ∀a b:Int,0<=a->a<=b->b<=48->sS a b (s.length:Int)=true:=fun a b x y z=>Nq x y (by omega)
  have i: ∀a:Int,0<=a->a<48->inB a (s.length:Int)=true:=fun a x y=>Nj x (by omega)
  simp only[ag4,cond_false,i 0 (by decide) (by decide),i 1 (by decide) (by decide),i 2 (by decide) (by decide),i 3 (by decide) (by decide),cond_true,k 4 8 (by decide) (by decide) (by decide),k 8 12 (by decide) (by decide) (by decide),k 12 16 (by decide) (by decide) (by decide),k 16 24 (by decide) (by decide) (by decide),k 24 32 (by decide) (by decide) (by decide),k 32 40 (by decide) (by decide) (by decide),k 40 48 (by decide) (by decide) (by decide),
   c1,c2,c3,c4,c5,c6,c7,v 4 8 (by decide) (by decide) (by decide),v 8 12 (by decide) (by decide) (by decide),v 12 16 (by decide) (by decide) (by decide),v 16 24 (by decide) (by decide) (by decide),v 24 32 (by decide) (by decide) (by decide),v 32 40 (by decide) (by decide) (by decide),v 40 48 (by decide) (by decide) (by decide),ag3,u 4 8 rfl (by decide),u 8 12 rfl (by decide),u 12 16 rfl (by decide)]
  have q0:B8 (rd 0 s 0):=r0;have q1:B8 (rd 0 s 1):=r1;have q2:B8 (rd 0 s 2):=r2;have q3:B8 (rd 0 s 3):=r3;simp only[aew q0,aex q0,aey q0,adL q1,aez q2,aez q3,h0];rfl
 ·rw[M_ h0,if_neg h0];rfl
theorem ab6{s:List Int}(hs:Bs s)(hl:s.length<9223372036854775808):Qh.run .lim (s,())=some (Po s,Ws s,()):=by
 simp only[Qh.run,Nh hl,cond_true];unfold Po Ws;by_cases h1:s.length<48
 ·rw[MV (show (s.length:Int)<48 by omega),if_pos h1];rfl
 rw[M_ (show ¬(s.length:Int)<48 by omega),if_neg h1];by_cases h2:s.length>1280
 ·rw[MV (show (s.length:Int)>1280 by omega),if_pos h2];rfl
 rw[M_ (show ¬(s.length:Int)>1280 by omega),if_neg h2];have hc:cut s 48 (s.length:Int)=s.drop 48:=SG (a:=48) rfl;simp only[cond_false,Nq (show (0:Int)<=48 by omega) (show (48:Int)<=(s.length:Int) by omega) (ahp _),cond_true,hc,ab9 (hs.drop 48) (show (s.drop 48).length<9223372036854775808 by rw[ahk];omega),ag3];generalize Vd (s.drop 48).length (s.drop 48) []=r;obtain⟨fs,e⟩:=r;simp only;by_cases h0:e=0
 ·rw[MV h0,if_pos h0];have rb: ∀k:Nat,k<48->B8 (rd 0 s (k:Int)):=fun k hk=>hs _ (Ol (by omega) (by omega))
  have q0:B8 (rd 0 s 0):=rb 0 (by decide);have q1:B8 (rd 0 s 1):=rb 1 (by decide);have q2:B8 (rd 0 s 2):=rb 2 (by decide);have q3:B8 (rd 0 s 3):=rb 3 (by decide);have v: ∀a b:Nat,a<=b->b<=48->b-a<=8->Ns.run .lim ((s.take b).drop a,())=some (OJ ((s.take b).drop a)):=fun a b _ hb hq=>VW ((hs.take b).drop a) (by rw[Uo (by omega)];omega)
  have u: ∀a b:Nat,b=a+4->b<=48->ahy.wrap (OJ ((s.take b).drop a))=OJ ((s.take b).drop a):=fun a b h hb=>(aec ((hs.take b).drop a) (by rw[Uo (by omega)];omega)).1
  have c1:cut s 4 8=(s.take 8).drop 4:=Qk rfl rfl;have c2:cut s 8 12=(s.take 12).drop 8:=Qk rfl rfl;have c3:cut s 12 16=(s.take 16).drop 12:=Qk rfl rfl;have c4:cut s 16 24=(s.take 24).drop 16:=Qk rfl rfl;have c5:cut s 24 32=(s.take 32).drop 24:=Qk rfl rfl;have c6:cut s 32 40=(s.take 40).drop 32:=Qk rfl rfl;have c7:cut s 40 48=(s.take 48).drop 40:=Qk rfl rfl;have k: ∀a b:Int,0<=a->a<=b->b<=48->sS a b (s.length:Int)=true:=fun a b x y z=>Nq x y (by omega)
  have i: ∀a:Int,0<=a->a<48->inB a (s.length:Int)=true:=fun a x y=>Nj x (by omega)
  simp only[ag4,cond_false,i 0 (by decide) (by decide),i 1 (by decide) (by decide),i 2 (by decide) (by decide),i 3 (by decide) (by decide),cond_true,k 4 8 (by decide) (by decide) (by decide),k 8 12 (by decide) (by decide) (by decide),k 12 16 (by decide) (by decide) (by decide),k 16 24 (by decide) (by decide) (by decide),k 24 32 (by decide) (by decide) (by decide),k 32 40 (by decide) (by decide) (by decide),k 40 48 (by decide) (by decide) (by decide),
   c1,c2,c3,c4,c5,c6,c7,v 4 8 (by decide) (by decide) (by decide),v 8 12 (by decide) (by decide) (by decide),v 12 16 (by decide) (by decide) (by decide),v 16 24 (by decide) (by decide) (by decide),v 24 32 (by decide) (by decide) (by decide),v 32 40 (by decide) (by decide) (by decide),v 40 48 (by decide) (by decide) (by decide),ag3,u 4 8 rfl (by decide),u 8 12 rfl (by decide),u 12 16 rfl (by decide),aeA q2,aeA q3]
  simp only[aew q0,aex q0,aey q0,adL q1,h0];rfl
 ·rw[M_ h0,if_neg h0];rfl
theorem afe{c:Int}(h:B8 c):b0S (c/64) (c/8%8) (c%8)=c:=Qa (p:=fun c=>b0S (c/64) (c/8%8) (c%8)=c) (by decide+kernel) h
theorem aeB{c:Int}(h:B8 c):ag8.wrap (sg c)=c:=Qa (p:=fun c=>ag8.wrap (sg c)=c) (by decide+kernel) h
theorem glue{s:List Int}{a b c:Nat}(h1:a<=b)(h2:b<=c):(s.take b).drop a++(s.take c).drop b=(s.take c).drop a:=by
 have e:s.take b=(s.take c).take b:=by rw[aix,ahK h2]
 have e2:(s.take c).drop b=((s.take c).drop a).drop (b-a):=by rw[ahR];congr 1;omega
 have e3:((s.take c).take b).drop a=((s.take c).drop a).take (b-a):=by rw[aii]
 rw[e,e2,e3,ahJ]
theorem acS{s:List Int}(hs:Bs s)(hl:48<=s.length)(fs:List FF):TK (rdP s fs)=s.take 48/\Vt (rdP s fs)=true:=by
 have rb: ∀k:Nat,k<48->B8 (rd 0 s (k:Int)):=fun k hk=>hs _ (Ol (by omega) (by omega))
 have q0:B8 (rd 0 s 0):=rb 0 (by decide);have q1:B8 (rd 0 s 1):=rb 1 (by decide);have q2:B8 (rd 0 s 2):=rb 2 (by decide);have q3:B8 (rd 0 s 3):=rb 3 (by decide);constructor
 ·have u: ∀a b:Nat,b=a+4->b<=48->ZB (ahC.wrap (OJ ((s.take b).drop a)))=(s.take b).drop a:=fun a b h hb=>(aec ((hs.take b).drop a) (by rw[Uo (by omega)];omega)).2
  have v: ∀a b:Nat,b=a+8->b<=48->by8 (OJ ((s.take b).drop a))=(s.take b).drop a:=fun a b h hb=>afX ((hs.take b).drop a) (by rw[Uo (by omega)];omega)
  have h4:=list4 (t:=s.take 4) (by rw[ahl];omega);have t0:rd 0 (s.take 4) 0=rd 0 s 0:=SL (k:=0) (n:=4) (by decide);have t1:rd 0 (s.take 4) 1=rd 0 s 1:=SL (k:=1) (n:=4) (by decide);have t2:rd 0 (s.take 4) 2=rd 0 s 2:=SL (k:=2) (n:=4) (by decide);have t3:rd 0 (s.take 4) 3=rd 0 s 3:=SL (k:=3) (n:=4) (by decide);rw[t0,t1,t2,t3]at h4;unfold TK rdP;simp only[afe q0,Tf q1,aeB q2,aeB q3,u 4 8 rfl (by decide),u 8 12 rfl (by decide),u 12 16 rfl (by decide),v 16 24 rfl (by decide),v 24 32 rfl (by decide),v 32 40 rfl (by decide),v 40 48 rfl (by decide)];rw[<-h4,glue (by decide) (by decide),glue (by decide) (by decide),glue (by decide) (by decide),glue (by decide) (by decide),glue (by decide) (by decide),glue (by decide) (by decide)];have:=glue (s:=s) (a:=0) (b:=4) (c:=48) (by decide) (by decide);simpa using this
 ·unfold Vt rdP WE sg;simp only[ahr,decide_eq_true_eq];refine⟨⟨⟨⟨⟨?_,?_⟩,?_⟩,?_⟩,?_⟩,?_⟩
  ·omega
  ·omega
  ·omega
  ·omega
  ·split<;>omega
  ·split<;>omega
structure Was(s:List Int):Prop where
 l0:48<=s.length
 l1:s.length<=1280
 eq:Po s=rdP s (Po s).fs
 st:s=s.take 48++Nk (Po s).fs
 ok: ∀f∈(Po s).fs,Wq f
 few:(Po s).fs.length<=16
theorem was{s:List Int}(hs:Bs s)(h:Ws s=0):Was s:=by
 have h1:48<=s.length:=by
  unfold Ws at h;split at h
  ·cases h
  ·omega
 have h2:s.length<=1280:=by
  unfold Ws at h;rw[if_neg (by omega)]at h;split at h
  ·cases h
  ·omega
 have h3:(Vd (s.drop 48).length (s.drop 48) []).2=0:=by
  unfold Ws at h
  rwa [if_neg (by omega),if_neg (by omega)]at h
 obtain⟨l,k1,k2,k3,k4⟩:=ade _ _ [] (ahQ _) (hs.drop 48) h3;have hr:Po s=rdP s l:=by unfold Po;rw[if_pos h,k1];rfl
 have hf:(Po s).fs=l:=by rw[hr];rfl
 refine⟨h1,h2,by rw[hf,hr],by rw[hf,<-k2,ahJ],by rw[hf];exact k3,by rw[hf];simpa using k4 (by simp)⟩
theorem Xz{s:List Int}(hs:Bs s)(h:Ws s=0)(k:Nat):Nu.run .lim (PK.cut (Po s) ((Po s).fs.take k),())=some (s.take (48+(Nk ((Po s).fs.take k)).length),0,()):=by
 have w:=was hs h;have hle:=WV (Po s).fs k;have hsl:s.length=48+(Nk (Po s).fs).length:=by
  have:=congrArg ahU w.st;rw[ag5,ahl,ahK w.l0]at this;exact this
 have hok: ∀f∈(Po s).fs.take k,Wq f:=fun f hf=>w.ok f (ahT hf)
 have hfl:FL (PK.fs (PK.cut (Po s) ((Po s).fs.take k))):=by
  refine⟨?_,fun f hf=> ?_⟩
  ·show ((Po s).fs.take k).length<_;have:=w.few;rw[ahl];omega
  ·have:=(hok f hf).l1;omega
 rw[VL hfl];have hb:=acS hs w.l0 ((Po s).fs.take k);have hc:PK.cut (Po s) ((Po s).fs.take k)=rdP s ((Po s).fs.take k):=by
  conv=>lhs;rw[show PK.cut (Po s) ((Po s).fs.take k)=PK.cut (rdP s (Po s).fs) ((Po s).fs.take k) by rw[<-w.eq]]
  rfl
 have he:VK (PK.cut (Po s) ((Po s).fs.take k))=0:=by
  unfold VK;rw[hc,if_pos hb.2];show Rl ((Po s).fs.take k)=0;exact Um hok (by have:=w.few;rw[ahl];omega) (by have:=w.l1;omega)
 have hs2:Vr (PK.cut (Po s) ((Po s).fs.take k))=s.take (48+(Nk ((Po s).fs.take k)).length):=by
  unfold Vr;rw[if_pos he,hc,hb.1];show s.take 48++Nk ((Po s).fs.take k)=_;have e1:Nk (Po s).fs=Nk ((Po s).fs.take k)++Nk ((Po s).fs.drop k):=by rw[<-S_,ahJ]
  have e2:s=(s.take 48++Nk ((Po s).fs.take k))++Nk ((Po s).fs.drop k):=by rw[ahs,<-e1];exact w.st
  have e3:(s.take 48++Nk ((Po s).fs.take k)).length=48+(Nk ((Po s).fs.take k)).length:=by rw[ag5,ahl,ahK w.l0]
  rw[<-e3];generalize Nk ((Po s).fs.take k)=x at e2;generalize Nk ((Po s).fs.drop k)=y at e2;generalize s.take 48=z at e2;rw[e2,aiw]
 rw[he,hs2]
end Go.AM
end
section
namespace Go.AM
abbrev KK:=List Int×List (List Int)×List Int×List Int
abbrev k0:KK:=([],[],[],[])
theorem wk(k:Nat)(h:(k:Int)+1<9223372036854775808):ahe.wrap ((k:Int)+1)=((k+1:Nat):Int):=by rw[wrap64 (by omega) (by omega)];omega
theorem YR(a b:List (List Int))(ha:a.length<9223372036854775808)(hb:b.length<9223372036854775808):Nz.run .lim (a,b,())=some (decide (a=b)):=by
 simp only[Nz.run,Nh ha,Nh hb,cond_true];by_cases hl:a.length=b.length
 ·have e:=Ue (f:=Nz.l0 .lim) (fun k=>(a,b,(a.length:Int),(k:Int),())) a.length (fun k=> !decide (rd ([]:List Int) a k=rd ([]:List Int) b k)) (some (.inl (false,()))) (fun k hk=>by
   rw[Nz.q0];have w:=wk k (by omega);simp (disch:=omega) only[NC,Nj,Nq,wrap64,MV,M_,dec_not,dec_and,OV,Oi,cond_true,cond_false,ag3,ag6,aha,ahh,ahg,ahc,ag9,ag_,ahf,ahb,ag4,ag7,ahj,ahd,ahi,if_true,if_false,and_self,true_and,and_true,and_false,false_and,or_true,true_or,or_false,false_or,not_true_eq_false,not_false_eq_true,decide_true,decide_false,eq_self,if_pos,if_neg,PO,Pg,Nz.b0,w])
  rw[Zz hl]at e;rw[cond_neg (by simp (disch:=omega) only[NC,Nj,Nq,wrap64,MV,M_,dec_not,dec_and,OV,Oi,cond_true,cond_false,ag3,ag6,aha,ahh,ahg,ahc,ag9,ag_,ahf,ahb,ag4,ag7,ahj,ahd,ahi,if_true,if_false,and_self,true_and,and_true,and_false,false_and,or_true,true_or,or_false,false_or,not_true_eq_false,not_false_eq_true,decide_true,decide_false,eq_self,if_pos,if_neg,PO,Pg]),show (0:Int)=((0:Nat):Int)from rfl,e];by_cases h:a=b
  ·simp (disch:=omega) only[NC,Nj,Nq,wrap64,MV,M_,dec_not,dec_and,OV,Oi,cond_true,cond_false,ag3,ag6,aha,ahh,ahg,ahc,ag9,ag_,ahf,ahb,ag4,ag7,ahj,ahd,ahi,if_true,if_false,and_self,true_and,and_true,and_false,false_and,or_true,true_or,or_false,false_or,not_true_eq_false,not_false_eq_true,decide_true,decide_false,eq_self,if_pos,if_neg,PO,Pg];rw[Nz.q0];simp (disch:=omega) only[NC,Nj,Nq,wrap64,MV,M_,dec_not,dec_and,OV,Oi,cond_true,cond_false,ag3,ag6,aha,ahh,ahg,ahc,ag9,ag_,ahf,ahb,ag4,ag7,ahj,ahd,ahi,if_true,if_false,and_self,true_and,and_true,and_false,false_and,or_true,true_or,or_false,false_or,not_true_eq_false,not_false_eq_true,decide_true,decide_false,eq_self,if_pos,if_neg,PO,Pg,Nz.b0]
  ·simp (disch:=omega) only[NC,Nj,Nq,wrap64,MV,M_,dec_not,dec_and,OV,Oi,cond_true,cond_false,ag3,ag6,aha,ahh,ahg,ahc,ag9,ag_,ahf,ahb,ag4,ag7,ahj,ahd,ahi,if_true,if_false,and_self,true_and,and_true,and_false,false_and,or_true,true_or,or_false,false_or,not_true_eq_false,not_false_eq_true,decide_true,decide_false,eq_self,if_pos,if_neg,PO,Pg]
 ·rw[cond_pos (by simp (disch:=omega) only[NC,Nj,Nq,wrap64,MV,M_,dec_not,dec_and,OV,Oi,cond_true,cond_false,ag3,ag6,aha,ahh,ahg,ahc,ag9,ag_,ahf,ahb,ag4,ag7,ahj,ahd,ahi,if_true,if_false,and_self,true_and,and_true,and_false,false_and,or_true,true_or,or_false,false_or,not_true_eq_false,not_false_eq_true,decide_true,decide_false,eq_self,if_pos,if_neg,PO,Pg]),M_ (fun q=>hl (by rw[q]))]
theorem texts_eq(a b:List (List Int))(ha:a.length<9223372036854775808)(hb:b.length<9223372036854775808):Ob.run .lim (a,b,())=some (decide (a=b)):=by
 simp only[Ob.run,Nh ha,Nh hb,cond_true];by_cases hl:a.length=b.length
 ·have e:=Ue (f:=Ob.l0 .lim) (fun k=>(a,b,(k:Int),())) a.length (fun k=> !decide (rd ([]:List Int) a k=rd ([]:List Int) b k)) (some (.inl (false,()))) (fun k hk=>by
   rw[Ob.q0];have w:=wk k (by omega);simp (disch:=omega) only[NC,Nj,Nq,wrap64,MV,M_,dec_not,dec_and,OV,Oi,cond_true,cond_false,ag3,ag6,aha,ahh,ahg,ahc,ag9,ag_,ahf,ahb,ag4,ag7,ahj,ahd,ahi,if_true,if_false,and_self,true_and,and_true,and_false,false_and,or_true,true_or,or_false,false_or,not_true_eq_false,not_false_eq_true,decide_true,decide_false,eq_self,if_pos,if_neg,PO,Pg,Ob.b0,w])
  rw[Zz hl]at e;rw[cond_neg (by simp (disch:=omega) only[NC,Nj,Nq,wrap64,MV,M_,dec_not,dec_and,OV,Oi,cond_true,cond_false,ag3,ag6,aha,ahh,ahg,ahc,ag9,ag_,ahf,ahb,ag4,ag7,ahj,ahd,ahi,if_true,if_false,and_self,true_and,and_true,and_false,false_and,or_true,true_or,or_false,false_or,not_true_eq_false,not_false_eq_true,decide_true,decide_false,eq_self,if_pos,if_neg,PO,Pg]),show (0:Int)=((0:Nat):Int)from rfl,e];by_cases h:a=b
  ·simp (disch:=omega) only[NC,Nj,Nq,wrap64,MV,M_,dec_not,dec_and,OV,Oi,cond_true,cond_false,ag3,ag6,aha,ahh,ahg,ahc,ag9,ag_,ahf,ahb,ag4,ag7,ahj,ahd,ahi,if_true,if_false,and_self,true_and,and_true,and_false,false_and,or_true,true_or,or_false,false_or,not_true_eq_false,not_false_eq_true,decide_true,decide_false,eq_self,if_pos,if_neg,PO,Pg];rw[Ob.q0];simp (disch:=omega) only[NC,Nj,Nq,wrap64,MV,M_,dec_not,dec_and,OV,Oi,cond_true,cond_false,ag3,ag6,aha,ahh,ahg,ahc,ag9,ag_,ahf,ahb,ag4,ag7,ahj,ahd,ahi,if_true,if_false,and_self,true_and,and_true,and_false,false_and,or_true,true_or,or_false,false_or,not_true_eq_false,not_false_eq_true,decide_true,decide_false,eq_self,if_pos,if_neg,PO,Pg,Ob.b0]
  ·simp (disch:=omega) only[NC,Nj,Nq,wrap64,MV,M_,dec_not,dec_and,OV,Oi,cond_true,cond_false,ag3,ag6,aha,ahh,ahg,ahc,ag9,ag_,ahf,ahb,ag4,ag7,ahj,ahd,ahi,if_true,if_false,and_self,true_and,and_true,and_false,false_and,or_true,true_or,or_false,false_or,not_true_eq_false,not_false_eq_true,decide_true,decide_false,eq_self,if_pos,if_neg,PO,Pg]
 ·rw[cond_pos (by simp (disch:=omega) only[NC,Nj,Nq,wrap64,MV,M_,dec_not,dec_and,OV,Oi,cond_true,cond_false,ag3,ag6,aha,ahh,ahg,ahc,ag9,ag_,ahf,ahb,ag4,ag7,ahj,ahd,ahi,if_true,if_false,and_self,true_and,and_true,and_false,false_and,or_true,true_or,or_false,false_or,not_true_eq_false,not_false_eq_true,decide_true,decide_false,eq_self,if_pos,if_neg,PO,Pg]),M_ (fun q=>hl (by rw[q]))]
def U3(a b:KK):Bool:=decide (a.1=b.1)&&decide (a.2.2.1=b.2.2.1)&&decide (a.2.1=b.2.1)
theorem YJ(a b:KK):U3 a b=U3 b a:=by
 unfold U3;rw[show decide (a.1=b.1)=decide (b.1=a.1)from by congr 1;exact propext ⟨aip,aip⟩,show decide (a.2.2.1=b.2.2.1)=decide (b.2.2.1=a.2.2.1)from by congr 1;exact propext ⟨aip,aip⟩,show decide (a.2.1=b.2.1)=decide (b.2.1=a.2.1)from by congr 1;exact propext ⟨aip,aip⟩]
theorem abp(a b:KK)(ha:a.2.1.length<9223372036854775808)(hb:b.2.1.length<9223372036854775808):RZ.run .lim (a,b,())=some (U3 a b):=by
 simp only[RZ.run,YR _ _ ha hb];unfold U3;cases decide (a.1=b.1)&&decide (a.2.2.1=b.2.2.1)<;>rfl
theorem X0(a b:KK)(ha:a.2.1.length<9223372036854775808)(hb:b.2.1.length<9223372036854775808):OQ.run .lim (a,b,())=some (U3 a b):=by
 simp only[OQ.run,texts_eq _ _ ha hb];unfold U3;cases decide (a.1=b.1)&&decide (a.2.2.1=b.2.2.1)<;>rfl
def byteOf(n:Int)(k:Nat):Int:=(n/256^k)%256
def TU(n:Int):List Int:=(aho 16).map fun i=>byteOf n (15-i)
def txt(n:Int)(plain:List Int):List Int:=TU n++ahm plain.length 0
theorem ae2: ∀n:Nat,ES [0] n=ahm n 0
 |0=>rfl
 |n+1=>by rw[ES,ae2 n];rfl
def part(n:Int)(k:Nat):List Int:=(aho 16).map fun i=>if i<16-k then 0 else byteOf n (15-i)
theorem XZ(n:Int):part n 0=ahm 16 0:=by
 unfold part;rw[List.eq_replicate_iff];refine⟨by simp,fun b hb=> ?_⟩;obtain⟨i,hi,rfl⟩:=ain.1 hb;rw[if_pos (by have:=ahv.1 hi;omega)]
theorem Xg(n:Int)(k:Nat):(part n k).length=16:=by simp[part]
theorem Y7(n:Int)(k:Nat)(hk:k<16):(part n k).set (15-k) (byteOf n k)=part n (k+1):=by
 apply List.ext_getElem (by simp[part])
 intro i h1 h2;have hi:i<16:=by rw[ahW,Xg]at h1;exact h1
 rw[List.getElem_set];simp only[part,List.getElem_map,List.getElem_range];split
 ·rw[if_neg (by omega)];congr 1;omega
 ·by_cases h:i<16-(k+1)
  ·rw[if_pos (by omega),if_pos h]
  ·rw[if_neg (by omega),if_neg h]
theorem abX(n:Int):part n 16=TU n:=by
 unfold part TU;apply aij
 intro i _;rw[if_neg (by omega)]
theorem YK{n:Int}(h0:0<=n)(h1:n<9223372036854775808){k:Nat}(hk:8<=k):byteOf n k=0:=by
 unfold byteOf;rw[Int.ediv_eq_zero_of_lt h0];· rfl
 obtain⟨j,rfl⟩: ∃j,k=8+j:=⟨k-8,by omega⟩;rw[Int.pow_add];have:(0:Int)<256^j:=ah5 (by omega);have h2:(256:Int)^8*1<=256^8*256^j:=Int.mul_le_mul_of_nonneg_left (by omega) (by decide);have h3:(256:Int)^8=18446744073709551616:=by decide
 rw[h3]at h2 ⊢;omega
theorem ae0{n:Int}(h0:0<=n)(h1:n<9223372036854775808):part n 8=TU n:=by
 unfold part TU;apply aij
 intro i _;split
 ·rw[YK h0 h1 (by omega)]
 ·rfl
theorem number_eq(n:Int)(plain:List Int)(h0:0<=n)(h1:n<9223372036854775808)(hp:plain.length<=100000):Pj.run .lim (n,plain,())=some (txt n plain):=by
 have e:=Oh (f:=Pj.l0 .lim) (fun k=>(n,plain,(k:Int),part n k,())) (n:=8) (fun k hk=>by
  rw[Pj.q0];have w:=wk k (by omega);have w2:ahe.wrap ((8:Int)*k)=((8*k:Nat):Int):=by rw[wrap64 (by omega) (by omega)];omega
  have w3:ahe.wrap ((15:Int)-k)=((15-k:Nat):Int):=by rw[wrap64 (by omega) (by omega)];omega
  have hb:ag8.wrap (Je .i64 n ((8*k:Nat):Int))=byteOf n k:=by
   rw[PN];unfold Je byteOf;rw[ahq,show min (8*k) (IntKind.bits .i64)=8*k from by show min (8*k) 64=_;omega,Int.fdiv_eq_ediv_of_nonneg _ (aib (ah5 (by omega))),Int.pow_mul];rfl
  simp (disch:=omega) only[NC,Nj,Nq,wrap64,MV,M_,dec_not,dec_and,OV,Oi,cond_true,cond_false,ag3,ag6,aha,ahh,ahg,ahc,ag9,ag_,ahf,ahb,ag4,ag7,ahj,ahd,ahi,if_true,if_false,and_self,true_and,and_true,and_false,false_and,or_true,true_or,or_false,false_or,not_true_eq_false,not_false_eq_true,decide_true,decide_false,eq_self,if_pos,if_neg,PO,Pg,Pj.b0,w,w2,w3,hb,ahq,Y7])
 rw[XZ,show ((0:Nat):Int)=0 from rfl]at e;simp only[Pj.run,e];rw[Pj.q0];have hr:strings_Repeat.run .lim ([0],(plain.length:Int),())=some (ahm plain.length 0):=by
  show Ld _=_;unfold Ld;rw[cond_pos (by simp;omega),ahq,ae2]
 simp (disch:=omega) only[NC,Nj,Nq,wrap64,MV,M_,dec_not,dec_and,OV,Oi,cond_true,cond_false,ag3,ag6,aha,ahh,ahg,ahc,ag9,ag_,ahf,ahb,ag4,ag7,ahj,ahd,ahi,if_true,if_false,and_self,true_and,and_true,and_false,false_and,or_true,true_or,or_false,false_or,not_true_eq_false,not_false_eq_true,decide_true,decide_false,eq_self,if_pos,if_neg,PO,Pg,Pj.b0,Nh (show plain.length<9223372036854775808 by omega),hr];rw[ae0 h0 h1,ahB,ahn (by simp[TU]),if_pos]
 ·rfl
 ·rw[ahz,TU,ahV,ah4];unfold maxStr;omega
theorem Zc(n:Int)(plain:List Int)(h0:0<=n)(h1:n<9223372036854775808)(hp:plain.length<=100000):Oe.run .lim (n,plain,())=some (txt n plain):=by
 have w0:ahe.wrap ((16:Int)+plain.length)=((16+plain.length:Nat):Int):=by rw[wrap64 (by omega) (by omega)];omega
 have e:=Oh (f:=Oe.l0 .lim) (fun k=>(n/256^k,(15:Int)-k,part n k++ahm plain.length 0,())) (n:=16) (fun k hk=>by
  rw[Oe.q0];have hn:0<=n/256^k:=aiq h0 (aib (ah5 (by omega)));have hn2:n/256^k<=n:=aio _ h0;have w1:ahe.wrap ((n/256^k).tdiv 256)=n/256^(k+1):=by
   rw[aht hn,Int.ediv_ediv_of_nonneg (aib (ah5 (by omega))),show (256:Int)^k*256=256^(k+1)from(Int.pow_succ _ _).symm];have:n/256^(k+1)<=n:=aio _ h0;have:0<=n/256^(k+1):=aiq h0 (aib (ah5 (by omega)));rw[wrap64 (by omega) (by omega)]
  have w2:ahe.wrap ((15:Int)-k-1)=(15:Int)-(k+1:Nat):=by rw[wrap64 (by omega) (by omega)];omega
  have hb:ag8.wrap ((n/256^k).tmod 256)=byteOf n k:=by rw[PN,ahw hn];unfold byteOf;omega
  have hl:(part n k++ahm plain.length 0).length=16+plain.length:=by simp[Xg]
  have ht:((15:Int)-k).toNat=15-k:=by omega
  have hs:(part n k++ahm plain.length (0:Int)).set (15-k) (byteOf n k)=part n (k+1)++ahm plain.length 0:=by rw[List.set_append_left _ _ (by rw[Xg];omega),Y7 n k hk]
  simp (disch:=omega) only[NC,Nj,Nq,wrap64,MV,M_,dec_not,dec_and,OV,Oi,cond_true,cond_false,ag3,ag6,aha,ahh,ahg,ahc,ag9,ag_,ahf,ahb,ag4,ag7,ahj,ahd,ahi,if_true,if_false,and_self,true_and,and_true,and_false,false_and,or_true,true_or,or_false,false_or,not_true_eq_false,not_false_eq_true,decide_true,decide_false,eq_self,if_pos,if_neg,PO,Pg,Oe.b0,w1,w2,hb,hl,ht,hs])
 have hz:ahm (16+plain.length) (0:Int)=part n 0++ahm plain.length 0:=by rw[XZ,List.replicate_append_replicate]
 rw[aiA,aiz,show (15:Int)-((0:Nat):Int)=15 from rfl]at e;simp only[Oe.run,w0,ahq,hz,e];rw[Oe.q0];simp (disch:=omega) only[NC,Nj,Nq,wrap64,MV,M_,dec_not,dec_and,OV,Oi,cond_true,cond_false,ag3,ag6,aha,ahh,ahg,ahc,ag9,ag_,ahf,ahb,ag4,ag7,ahj,ahd,ahi,if_true,if_false,and_self,true_and,and_true,and_false,false_and,or_true,true_or,or_false,false_or,not_true_eq_false,not_false_eq_true,decide_true,decide_false,eq_self,if_pos,if_neg,PO,Pg,Oe.b0,Nh (show plain.length<9223372036854775808 by omega)];rw[cond_pos (by rw[aiy];omega),abX];rfl
end Go.AM
end
section
namespace Go.AM
abbrev VV:=Bool×List KK
def Zt(k:KK):Prop:=k.1.length<9223372036854775808/\k.2.1.length<9223372036854775808/\(∀s∈k.2.1,s.length<9223372036854775808)/\k.2.2.1.length<9223372036854775808/\k.2.2.2.length<9223372036854775808
def okV(v:VV):Prop:=v.2.length<9223372036854775808/\ ∀k∈v.2,Zt k
theorem okV.at{v:VV}(h:okV v){k:Nat}(hk:k<v.2.length):Zt (rd k0 v.2 (k:Int)):=h.2 _ (Ol (by omega) (by omega))
def Ru(k:KK):Int:=if k.1.length≠32/\k.1.length≠64 then 13 else if k.2.1.length>126 then 18 else 0
theorem Xj(k:KK)(h:k.1.length<9223372036854775808)(h2:k.2.1.length<9223372036854775808):Qp.run .lim (k,())=some (Ru k):=by
 unfold Ru;simp only[Qp.run,Nh h,Nh h2,cond_true,aha];by_cases h3:k.1.length≠32/\k.1.length≠64
 ·rw[cond_pos (by simp (disch:=omega) only[NC,Nj,Nq,wrap64,MV,M_,dec_not,dec_and,OV,Oi,cond_true,cond_false,ag3,ag6,aha,ahh,ahg,ahc,ag9,ag_,ahf,ahb,ag4,ag7,ahj,ahd,ahi,if_true,if_false,and_self,true_and,and_true,and_false,false_and,or_true,true_or,or_false,false_or,not_true_eq_false,not_false_eq_true,decide_true,decide_false,eq_self,if_pos,if_neg,PO,Pg,MV (show ¬((k.1.length:Int)=32) by omega),MV (show ¬((k.1.length:Int)=64) by omega)]),if_pos h3]
 ·rw[cond_neg,if_neg h3]
  ·by_cases h4:k.2.1.length>126<;>simp (disch:=omega) only[NC,Nj,Nq,wrap64,MV,M_,dec_not,dec_and,OV,Oi,cond_true,cond_false,ag3,ag6,aha,ahh,ahg,ahc,ag9,ag_,ahf,ahb,ag4,ag7,ahj,ahd,ahi,if_true,if_false,and_self,true_and,and_true,and_false,false_and,or_true,true_or,or_false,false_or,not_true_eq_false,not_false_eq_true,decide_true,decide_false,eq_self,if_pos,if_neg,PO,Pg]
  ·by_cases h4:k.1.length=32
   ·simp (disch:=omega) only[NC,Nj,Nq,wrap64,MV,M_,dec_not,dec_and,OV,Oi,cond_true,cond_false,ag3,ag6,aha,ahh,ahg,ahc,ag9,ag_,ahf,ahb,ag4,ag7,ahj,ahd,ahi,if_true,if_false,and_self,true_and,and_true,and_false,false_and,or_true,true_or,or_false,false_or,not_true_eq_false,not_false_eq_true,decide_true,decide_false,eq_self,if_pos,if_neg,PO,Pg]
   ·simp (disch:=omega) only[NC,Nj,Nq,wrap64,MV,M_,dec_not,dec_and,OV,Oi,cond_true,cond_false,ag3,ag6,aha,ahh,ahg,ahc,ag9,ag_,ahf,ahb,ag4,ag7,ahj,ahd,ahi,if_true,if_false,and_self,true_and,and_true,and_false,false_and,or_true,true_or,or_false,false_or,not_true_eq_false,not_false_eq_true,decide_true,decide_false,eq_self,if_pos,if_neg,PO,Pg]
def XD(xs:List KK)(i:Nat):Bool:=
 !decide (Ru (rd k0 xs i)=0)||decide ((rd k0 xs i).2.2.1.length>65536)|| !decide ((rd k0 xs i).2.2.2=txt ((i:Int)+1) (rd k0 xs i).2.2.1)||(aho i).any fun j=>U3 (rd k0 xs j) (rd k0 xs i)
def Pq(v:VV):Bool:=bif v.1 then decide (v.2.length<=2048)&& !((aho v.2.length).any (XD v.2))else decide (v.2.length=0)
theorem ac0(xs:List KK)(i:Nat)(q:KK)(b:Bool)(hi:i<=xs.length)(hy:xs.length<9223372036854775808)(hok: ∀k∈xs,Zt k)(hq:Zt q):
  NP.l0 .lim ((i:Int),0,b,xs,q.1,q.2.1,q.2.2.1,q.2.2.2,())=bif(aho i).any (fun j=>U3 (rd k0 xs j) q)then some (.inl (false,()))else some (.inr ((i:Int),b,xs,())):=by
 have e:=Ue (f:=NP.l0 .lim) (fun j=>((i:Int),(j:Int),b,xs,q.1,q.2.1,q.2.2.1,q.2.2.2,())) i (fun j=>U3 (rd k0 xs j) q) (some (.inl (false,()))) (fun k hk=>by
  rw[NP.q0];have ha:=X0 q (rd k0 xs k) hq.2.1 (hok _ (Ol (by omega) (by omega))).2.1;rw[YJ]at ha;have ha:OQ.run .lim ((q.1,q.2.1,q.2.2.1,q.2.2.2),rd k0 xs k,())=some (U3 (rd k0 xs k) q):=ha;simp (disch:=omega) only[NC,Nj,Nq,wrap64,MV,M_,dec_not,dec_and,OV,Oi,cond_true,cond_false,ag3,ag6,aha,ahh,ahg,ahc,ag9,ag_,ahf,ahb,ag4,ag7,ahj,ahd,ahi,if_true,if_false,and_self,true_and,and_true,and_false,false_and,or_true,true_or,or_false,false_or,not_true_eq_false,not_false_eq_true,decide_true,decide_false,eq_self,if_pos,if_neg,PO,Pg,NP.b0,wk k (by omega),ha])
 refine e.trans ?_;rw[NP.q0];simp (disch:=omega) only[NC,Nj,Nq,wrap64,MV,M_,dec_not,dec_and,OV,Oi,cond_true,cond_false,ag3,ag6,aha,ahh,ahg,ahc,ag9,ag_,ahf,ahb,ag4,ag7,ahj,ahd,ahi,if_true,if_false,and_self,true_and,and_true,and_false,false_and,or_true,true_or,or_false,false_or,not_true_eq_false,not_false_eq_true,decide_true,decide_false,eq_self,if_pos,if_neg,PO,Pg,NP.b0]
theorem afy(q:KK):((!decide ((q.1.length:Int)=32)&& !decide ((q.1.length:Int)=64))||decide ((q.2.1.length:Int)>126))= !decide (Ru q=0):=by
 unfold Ru;by_cases h1:q.1.length≠32/\q.1.length≠64
 ·rw[if_pos h1,M_ (show ¬(q.1.length:Int)=32 by omega),M_ (show ¬(q.1.length:Int)=64 by omega)];rfl
 ·rw[if_neg h1];have:(!decide ((q.1.length:Int)=32)&& !decide ((q.1.length:Int)=64))=false:=by
   by_cases h2:q.1.length=32
   ·rw[MV (by omega)];rfl
   ·rw[MV (show (q.1.length:Int)=64 by omega),ag4,ag9]
  rw[this,ahb];by_cases h3:q.2.1.length>126
  ·rw[if_pos h3,MV (by omega)];rfl
  ·rw[if_neg h3,M_ (by omega)];rfl
theorem acZ(v:VV)(h:okV v):NP.run .lim (v,())=some (Pq v):=by
 obtain⟨b,xs⟩:=v;have hx:xs.length<9223372036854775808:=h.1;unfold Pq;simp only[NP.run,Nh hx];cases b with
 |false=>simp only[cond_true,cond_false,ag3,ag6,aha,ahh,ahg,ahc,ag9,ag_,ahf,ahb,ag4,ag7,ahj,ahd,ahi];congr 2;simp
 |true=>
  simp only[cond_true,cond_false,ag3,ag6,aha,ahh,ahg,ahc,ag9,ag_,ahf,ahb,ag4,ag7,ahj,ahd,ahi];by_cases h1:xs.length<=2048
  ·obtain⟨j,_,e⟩:=abL (f:=NP.l1 .lim) (fun k=>((k:Int),true,xs,())) xs.length (XD xs) (fun k=>bif(!decide (Ru (rd k0 xs k)=0)||decide ((rd k0 xs k).2.2.1.length>65536)|| !decide ((rd k0 xs k).2.2.2=txt ((k:Int)+1) (rd k0 xs k).2.2.1))then some (.inl (false,()))else some (.inr (.inl (false,())))) (fun k hk=>by
    rw[NP.q1];have w:=wk k (by omega);have hk':Zt (rd k0 xs k):=h.at (v:=(true,xs)) hk;have hn:=fun hh=>Zc ((k:Int)+1) (rd k0 xs k).2.2.1 (by omega) (by omega) hh
    have e2:=ac0 xs k (rd k0 xs k) true (by omega) hx h.2 hk';unfold XD;simp only[NP.b1,Nh hx,MV (show (k:Int)<(xs.length:Int) by omega),Nj (show (0:Int)<=k by omega) (show (k:Int)<xs.length by omega),Nh hk'.1,Nh hk'.2.1,Nh hk'.2.2.2.1,w,afy];rw[show ((k+1:Nat):Int)=(k:Int)+1 by omega];simp only[cond_true,cond_false,ag3,ag6,aha,ahh,ahg,ahc,ag9,ag_,ahf,ahb,ag4,ag7,ahj,ahd,ahi];by_cases c1:Ru (rd k0 xs k)=0
    ·by_cases c2:(rd k0 xs k).2.2.1.length>65536
     ·simp only[MV c1,MV c2,MV (show ((rd k0 xs k).2.2.1.length:Int)>65536 by omega)];simp only[cond_true,cond_false,ag3,ag6,aha,ahh,ahg,ahc,ag9,ag_,ahf,ahb,ag4,ag7,ahj,ahd,ahi]
     ·simp only[MV c1,M_ c2,M_ (show ¬((rd k0 xs k).2.2.1.length:Int)>65536 by omega)];simp only[cond_true,cond_false,ag3,ag6,aha,ahh,ahg,ahc,ag9,ag_,ahf,ahb,ag4,ag7,ahj,ahd,ahi];rw[hn (by omega)];simp only[cond_true,cond_false,ag3,ag6,aha,ahh,ahg,ahc,ag9,ag_,ahf,ahb,ag4,ag7,ahj,ahd,ahi];by_cases c3:(rd k0 xs k).2.2.2=txt ((k:Int)+1) (rd k0 xs k).2.2.1
      ·simp only[MV c3];simp only[cond_true,cond_false,ag3,ag6,aha,ahh,ahg,ahc,ag9,ag_,ahf,ahb,ag4,ag7,ahj,ahd,ahi];rw[e2];cases (aho k).any fun j=>U3 (rd k0 xs j) (rd k0 xs k)
       ·simp only[cond_true,cond_false,ag3,ag6,aha,ahh,ahg,ahc,ag9,ag_,ahf,ahb,ag4,ag7,ahj,ahd,ahi];rw[show ahe.wrap ((k:Int)+1)=(k:Int)+1 by rw[w];omega]
       ·simp only[cond_true,cond_false,ag3,ag6,aha,ahh,ahg,ahc,ag9,ag_,ahf,ahb,ag4,ag7,ahj,ahd,ahi]
      ·simp only[M_ c3];simp only[cond_true,cond_false,ag3,ag6,aha,ahh,ahg,ahc,ag9,ag_,ahf,ahb,ag4,ag7,ahj,ahd,ahi]
    ·simp only[M_ c1];simp only[cond_true,cond_false,ag3,ag6,aha,ahh,ahg,ahc,ag9,ag_,ahf,ahb,ag4,ag7,ahj,ahd,ahi])
   rw[show ((0:Nat):Int)=0 from rfl]at e;rw[cond_neg (by simp (disch:=omega) only[NC,Nj,Nq,wrap64,MV,M_,dec_not,dec_and,OV,Oi,cond_true,cond_false,ag3,ag6,aha,ahh,ahg,ahc,ag9,ag_,ahf,ahb,ag4,ag7,ahj,ahd,ahi,if_true,if_false,and_self,true_and,and_true,and_false,false_and,or_true,true_or,or_false,false_or,not_true_eq_false,not_false_eq_true,decide_true,decide_false,eq_self,if_pos,if_neg,PO,Pg]),e,NP.q1];simp (disch:=omega) only[NC,Nj,Nq,wrap64,MV,M_,dec_not,dec_and,OV,Oi,cond_true,cond_false,ag3,ag6,aha,ahh,ahg,ahc,ag9,ag_,ahf,ahb,ag4,ag7,ahj,ahd,ahi,if_true,if_false,and_self,true_and,and_true,and_false,false_and,or_true,true_or,or_false,false_or,not_true_eq_false,not_false_eq_true,decide_true,decide_false,eq_self,if_pos,if_neg,PO,Pg,NP.b1,Nh hx];cases (aho xs.length).any (XD xs)
   ·rfl
   ·simp only[cond_true,cond_false,ag3,ag6,aha,ahh,ahg,ahc,ag9,ag_,ahf,ahb,ag4,ag7,ahj,ahd,ahi];split<;>rfl
  ·rw[cond_pos (by simp (disch:=omega) only[NC,Nj,Nq,wrap64,MV,M_,dec_not,dec_and,OV,Oi,cond_true,cond_false,ag3,ag6,aha,ahh,ahg,ahc,ag9,ag_,ahf,ahb,ag4,ag7,ahj,ahd,ahi,if_true,if_false,and_self,true_and,and_true,and_false,false_and,or_true,true_or,or_false,false_or,not_true_eq_false,not_false_eq_true,decide_true,decide_false,eq_self,if_pos,if_neg,PO,Pg]),M_ h1];simp only[cond_true,cond_false,ag3,ag6,aha,ahh,ahg,ahc,ag9,ag_,ahf,ahb,ag4,ag7,ahj,ahd,ahi]
theorem XU(v:VV)(h:okV v): ∃r,Nr.run .lim (v,())=some r/\(r=true->v.2.length<=300):=by
 obtain⟨b,xs⟩:=v;have hx:xs.length<9223372036854775808:=h.1
 -- the inner loop
 have inner: ∀(n:Nat) (left:Int) (j:Nat) (i:Int) (q:KK),Zt q->j+n=q.2.1.length-> -9223372036854775808<=left->left<9223372036854775808-> ∃l:Int,-9223372036854775808<=l/\l<9223372036854775808/\Nr.l0 .lim (left,i,(j:Int),b,xs,q.1,q.2.1,q.2.2.1,q.2.2.2,())=some (l,i,b,xs,()):=by
  intro n
  induction n with
  |zero=>
   intro left j i q hq hj h1 h2;refine⟨left,h1,h2,?_⟩;rw[Nr.q0];simp (disch:=omega) only[NC,Nj,Nq,wrap64,MV,M_,dec_not,dec_and,OV,Oi,cond_true,cond_false,ag3,ag6,aha,ahh,ahg,ahc,ag9,ag_,ahf,ahb,ag4,ag7,ahj,ahd,ahi,if_true,if_false,and_self,true_and,and_true,and_false,false_and,or_true,true_or,or_false,false_or,not_true_eq_false,not_false_eq_true,decide_true,decide_false,eq_self,if_pos,if_neg,PO,Pg,Nr.b0,Nh hq.2.1]
  |succ n ih=>
   intro left j i q hq hj h1 h2;have hb:= @V5 (left-((rd ([]:List Int) q.2.1 (j:Int)).length:Int));have hs:=hq.2.2.1 (rd ([]:List Int) q.2.1 (j:Int)) (Ol (by omega) (by omega));by_cases hl:left>=0
   ·obtain⟨l,l1,l2,e⟩:=ih (ahe.wrap (left-((rd ([]:List Int) q.2.1 (j:Int)).length:Int))) (j+1) i q hq (by omega) hb.1 hb.2;refine⟨l,l1,l2,?_⟩;rw[Nr.q0,<-e];have hj':=hq.2.1;simp only[Nr.b0,Nh hq.2.1,wk j (by omega),Nh hs,MV hl,MV (show (j:Int)<(q.2.1.length:Int) by omega),Nj (show (0:Int)<=j by omega) (show (j:Int)<q.2.1.length by omega)];simp only[cond_true,cond_false,ag3,ag6,aha,ahh,ahg,ahc,ag9,ag_,ahf,ahb,ag4,ag7,ahj,ahd,ahi]
   ·refine⟨left,h1,h2,?_⟩;rw[Nr.q0];simp (disch:=omega) only[NC,Nj,Nq,wrap64,MV,M_,dec_not,dec_and,OV,Oi,cond_true,cond_false,ag3,ag6,aha,ahh,ahg,ahc,ag9,ag_,ahf,ahb,ag4,ag7,ahj,ahd,ahi,if_true,if_false,and_self,true_and,and_true,and_false,false_and,or_true,true_or,or_false,false_or,not_true_eq_false,not_false_eq_true,decide_true,decide_false,eq_self,if_pos,if_neg,PO,Pg,Nr.b0,Nh hq.2.1]
 have outer: ∀(n:Nat) (left:Int) (i:Nat),i+n=xs.length-> -9223372036854775808<=left->left<9223372036854775808-> ∃l:Int,Nr.l1 .lim (left,(i:Int),b,xs,())=some (l,b,xs,()):=by
  intro n
  induction n with
  |zero=>
   intro left i hi h1 h2;refine⟨left,?_⟩;rw[Nr.q1];simp (disch:=omega) only[NC,Nj,Nq,wrap64,MV,M_,dec_not,dec_and,OV,Oi,cond_true,cond_false,ag3,ag6,aha,ahh,ahg,ahc,ag9,ag_,ahf,ahb,ag4,ag7,ahj,ahd,ahi,if_true,if_false,and_self,true_and,and_true,and_false,false_and,or_true,true_or,or_false,false_or,not_true_eq_false,not_false_eq_true,decide_true,decide_false,eq_self,if_pos,if_neg,PO,Pg,Nr.b1,Nh hx]
  |succ n ih=>
   intro left i hi h1 h2;by_cases hl:left>=0
   ·have hk:Zt (rd k0 xs i):=h.at (v:=(b,xs)) (by show i<xs.length;omega);rw[Nr.q1];simp only[Nr.b1,Nh hx,Nh hk.1,Nh hk.2.1,Nh hk.2.2.2.1,Nh hk.2.2.2.2,MV hl,MV (show (i:Int)<(xs.length:Int) by omega),Nj (show (0:Int)<=i by omega) (show (i:Int)<xs.length by omega)];simp only[cond_true,cond_false,ag3,ag6,aha,ahh,ahg,ahc,ag9,ag_,ahf,ahb,ag4,ag7,ahj,ahd,ahi];obtain⟨l,l1,l2,e⟩:=inner _ (ahe.wrap (ahe.wrap (ahe.wrap (ahe.wrap (ahe.wrap (left-10)-((rd k0 xs i).1.length:Int))-((rd k0 xs i).2.2.1.length:Int))-((rd k0 xs i).2.2.2.length:Int))-((rd k0 xs i).2.1.length:Int))) 0 (i:Int) (rd k0 xs i) hk (Nat.zero_add _) V5.1 V5.2;rw[show ((0:Nat):Int)=0 from rfl]at e;rw[e];obtain⟨l',e'⟩:=ih l (i+1) (by omega) l1 l2;refine⟨l',?_⟩;rw[<-e'];simp (disch:=omega) only[NC,Nj,Nq,wrap64,MV,M_,dec_not,dec_and,OV,Oi,cond_true,cond_false,ag3,ag6,aha,ahh,ahg,ahc,ag9,ag_,ahf,ahb,ag4,ag7,ahj,ahd,ahi,if_true,if_false,and_self,true_and,and_true,and_false,false_and,or_true,true_or,or_false,false_or,not_true_eq_false,not_false_eq_true,decide_true,decide_false,eq_self,if_pos,if_neg,PO,Pg,wk i (by omega)]
   ·refine⟨left,?_⟩;rw[Nr.q1];simp (disch:=omega) only[NC,Nj,Nq,wrap64,MV,M_,dec_not,dec_and,OV,Oi,cond_true,cond_false,ag3,ag6,aha,ahh,ahg,ahc,ag9,ag_,ahf,ahb,ag4,ag7,ahj,ahd,ahi,if_true,if_false,and_self,true_and,and_true,and_false,false_and,or_true,true_or,or_false,false_or,not_true_eq_false,not_false_eq_true,decide_true,decide_false,eq_self,if_pos,if_neg,PO,Pg,Nr.b1,Nh hx]
 obtain⟨l,e⟩:=outer xs.length 400000 0 (by omega) (by omega) (by omega);rw[show ((0:Nat):Int)=0 from rfl]at e;refine⟨decide (l>=0)&&decide ((xs.length:Int)<=300),?_,fun q=> ?_⟩
 ·simp only[Nr.run,e,Nh hx];simp only[cond_true,cond_false,ag3,ag6,aha,ahh,ahg,ahc,ag9,ag_,ahf,ahb,ag4,ag7,ahj,ahd,ahi,Nh hx]
 ·rw[ahr,decide_eq_true_eq,decide_eq_true_eq]at q;show xs.length<=300;omega
theorem ZJ(v:VV)(h:okV v): ∃r,Nr.run .lim (v,())=some r:=by
 obtain⟨r,e,_⟩:=XU v h;exact⟨r,e⟩
end Go.AM
end
section
namespace Go.AM
def hit(key:List Int)(ad:List (List Int))(t:List Int)(k:KK):Bool:=decide (k.2.2.2=t)&&decide (k.1=key)&&decide (k.2.1=ad)
theorem Vw{n:Nat}(h:n<=140737488351232):n<9223372036854775808:=by omega
theorem afs{v:VV}(h:Ty.ok (.pair .bool (.lst (.pair .str (.pair (.lst .str) (.pair .str .str))))) v):okV v:=by
 obtain⟨_,h1,h2⟩:=h;refine⟨Vw h1,fun k hk=> ?_⟩;obtain⟨a,⟨b1,b2⟩,c,d⟩:=h2 k hk;exact⟨Vw a.1,Vw b1,fun s hs=>Vw (b2 s hs).1,Vw c.1,Vw d.1⟩
end Go.AM
end
section
namespace Go.AM
theorem N7{n:Nat}(h:n<9223372036854775808):n<Nw:=h
def Qr(a b:List Int):List Int:=tab a.length fun i=>H8 .u8 (rd 0 a (i:Int)) (rd 0 b (i:Int))
@[simp] theorem OZ(a b:List Int):(Qr a b).length=a.length:=P7
theorem acr(a b:List Int):Bs (Qr a b):=Yc fun _ _=>Wp _ _
theorem U8{a b:List Int}{k:Nat}(h:k<a.length):rd 0 (Qr a b) (k:Int)=H8 .u8 (rd 0 a (k:Int)) (rd 0 b (k:Int)):=Rt h
theorem abb{a b:List Int}(h:a.length=b.length):Qr a b=Qr b a:=by unfold Qr;rw[h];exact P_ fun k _=>xor_comm _ _
theorem XB{a b c:List Int}(h:a.length=b.length):Qr (Qr a b) c=Qr a (Qr b c):=by
 show tab (Qr a b).length _=tab a.length _;rw[OZ];refine P_ fun k hk=> ?_
 rw[U8 hk,U8 (show k<b.length by omega),xor_assoc]
theorem aa_{a b:List Int}(h:a.length<=b.length)(ha:Bs a):Qr (Qr a b) b=a:=by
 refine VU (d:=0) (by simp) fun k hk=> ?_
 rw[OZ,OZ]at hk;rw[U8 (by simpa using hk),U8 hk,xor_assoc,xor_self,xor_zero (ha _ (Ol (by omega) (by omega)))]
theorem SQ{a b:List Int}(h:a.length<=b.length)(hb:b.length<1000000000000):Py.run .lim (a,b,())=some (Qr a b):=by
 have e:=PY (f:=Py.l0 .lim) (fun k m=>(b,(a.length:Int),(k:Int),m,())) (fun k v=>H8 .u8 v (rd 0 b (k:Int))) a rfl (fun k hk m' hm hj=>by
  rw[Py.q0];simp only[Py.b0,MV (show (k:Int)<(a.length:Int) by omega),hm,Nj (show (0:Int)<=k by omega) (show (k:Int)<(a.length:Int) by omega),Nj (show (0:Int)<=k by omega) (show (k:Int)<(b.length:Int) by omega),cond_true,QU k (by omega),hj k (ahQ _),ahq])
 simp only[Py.run,Nh (show a.length<9223372036854775808 by omega),cond_true];rw[show (0:Int)=((0:Nat):Int)from rfl,e,Py.q0];simp only[Py.b0,M_ (show ¬(a.length:Int)<(a.length:Int) by omega),cond_false,ag3];rfl
theorem Rw{a b:List Int}(h:a.length<=b.length)(hb:b.length<1000000000000):ND.run .lim (a,b,())=some (Qr a b):=by
 have e:=Oh (f:=ND.l0 .lim) (fun k=>(a,b,(k:Int),RD a.length k (fun i=>H8 .u8 (rd 0 a (i:Int)) (rd 0 b (i:Int))),())) (n:=a.length) (fun k hk=>by
  rw[ND.q0];simp only[ND.b0,Nh (show a.length<9223372036854775808 by omega),U1,MV (show (k:Int)<(a.length:Int) by omega),Nj (show (0:Int)<=k by omega) (show (k:Int)<(a.length:Int) by omega),Nj (show (0:Int)<=k by omega) (show (k:Int)<(b.length:Int) by omega),cond_true,QU k (by omega),ahq];rw[Sv rfl])
 have hb2:Nat.blt a.length 70368744177664=true:=by rw[aiy];omega
 rw[RJ,show ((0:Nat):Int)=0 from rfl]at e;simp only[ND.run,Nh (show a.length<9223372036854775808 by omega),cond_true,MV (show (0:Int)<=(a.length:Int) by omega),MV (ahp (a.length:Int)),ahq,hb2,ahd,e];rw[ND.q0];simp only[ND.b0,Nh (show a.length<9223372036854775808 by omega),M_ (show ¬(a.length:Int)<(a.length:Int) by omega),cond_true,cond_false,ag3,Uj];rfl
theorem adu: ∀n:Nat,ES [0] n=ahm n 0
 |0=>rfl
 |n+1=>by rw[ES,adu n];rfl
theorem TJ{n:Nat}(h:n<=1000000):PW.run .lim ((n:Int),())=some (ahm n 0):=by
 have:strings_Repeat.run .lim ([0],(n:Int),())=some (ahm n 0):=by
  show Ld _=_;unfold Ld;rw[cond_pos (by simp;omega),ahq,adu]
 simp only[PW.run,this,ag3]
theorem U_{n:Nat}(h:n<=1000000):Oo.run .lim ((n:Int),())=some (ahm n 0):=by
 have hb2:Nat.blt n 70368744177664=true:=by rw[aiy];omega
 simp only[Oo.run,MV (show (0:Int)<=(n:Int) by omega),MV (ahp (n:Int)),ahq,hb2,ahd,cond_true]
def YI(b:List Int)(i:Nat):Int:=if i=15 then Jd .u8 (rd 0 b 15) 1 else KY .u8 (Jd .u8 (rd 0 b (i:Int)) 1) (Je .u8 (rd 0 b ((i+1:Nat):Int)) 7)
def VH(b:List Int):List Int:=if rd 0 b 0>=128 then(tab 16 (YI b)).set 15 (H8 .u8 (Jd .u8 (rd 0 b 15) 1) 135)else tab 16 (YI b)
theorem adA(b:List Int)(i:Nat):B8 (YI b i):=by unfold YI;split<;>first|exact aay _ _|exact aft _ _
theorem Q8(b:List Int):V6 (VH b):=by
 unfold VH;split
 ·refine⟨by simp,fun x hx=> ?_⟩;rcases List.mem_or_eq_of_mem_set hx with h|rfl
  ·exact Yc (fun k _=>adA b k) x h
  ·exact Wp _ _
 ·exact⟨P7,Yc fun k _=>adA b k⟩
theorem or_zero{a:Int}(h:B8 a):KY .u8 a 0=a:=by
 show ag8.wrap (ahS 8 a ||| ahS 8 0).toNat=a;rw[show ahS 8 0=0#8 from rfl,BitVec.or_zero,aik,PN];unfold B8 at h;omega
def twP(b:List Int)(k:Nat):List Int:=tab 16 fun i=>if k<=i then YI b i else rd 0 b (i:Int)
theorem adg{b:List Int}{k:Nat}(hk:k<16):(twP b (k+1)).set k (YI b k)=twP b k:=by
 unfold twP;rw[WH];refine P_ fun i _=> ?_
 by_cases h1:i=k
 ·subst h1;rw[if_pos rfl,if_pos (ahQ _)]
 ·rw[if_neg h1];by_cases h2:k<=i
  ·rw[if_pos h2,if_pos (by omega)]
  ·rw[if_neg h2,if_neg (by omega)]
theorem ad5{b:List Int}{k:Nat}(hk:k<16):rd 0 (twP b (k+1)) (k:Int)=rd 0 b (k:Int):=by unfold twP;rw[Rt hk,if_neg (by omega)]
theorem adR{x:Int}(h:B8 x):ag8.wrap (Je .u8 x 7*135)=if x>=128 then 135 else 0:=
 Qa (p:=fun x=>ag8.wrap (Je .u8 x 7*135)=if x>=128 then 135 else 0) (by decide+kernel) h
theorem aa6{b:List Int}(hb:V6 b):Qy.run .lim (b,())=some (VH b,0,()):=by
 obtain⟨hl,hB⟩:=hb;have h0: ∀(b:List Int),tab 16 (fun i=>if 16<=i then YI b i else rd 0 b (i:Int))=tab 16 fun i=>rd 0 b (i:Int):=fun b=>P_ fun i hi=>by rw[if_neg (by omega)]
 have e:=Oh (f:=Qy.l0 .lim) (fun k=>((15:Int)-(k:Int),(if k=0 then 0 else Je .u8 (rd 0 b ((16-k:Nat):Int)) 7:Int),twP b (16-k),())) (n:=16) (fun k hk=>by
  rw[Qy.q0];have ei:(15:Int)-(k:Int)=((15-k:Nat):Int):=by omega
  have w1:ahe.wrap (((15-k:Nat):Int)-1)=(15:Int)-((k+1:Nat):Int):=by rw[wrap64 (by omega) (by omega)];omega
  have hr:=ad5 (b:=b) (k:=15-k) (by omega);have hs:=adg (b:=b) (k:=15-k) (by omega);rw[show 15-k+1=16-k by omega]at hr hs;have hx:B8 (rd 0 b ((15-k:Nat):Int)):=hB _ (Ol (by omega) (by omega));have hg:KY .u8 (Jd .u8 (rd 0 b ((15-k:Nat):Int)) 1) (if k=0 then 0 else Je .u8 (rd 0 b ((16-k:Nat):Int)) 7)=YI b (15-k):=by
   unfold YI;by_cases hk0:k=0
   ·subst hk0;rw[if_pos rfl,if_pos (by omega),or_zero (aay _ _)];rfl
   ·rw[if_neg hk0,if_neg (by omega),show 15-k+1=16-k by omega]
  have hl2:(twP b (16-k)).length=16:=P7;rw[ei];simp only[Qy.b0,MV (show ((15-k:Nat):Int)>=0 by omega),hl2,Nj (show (0:Int)<=((15-k:Nat):Int) by omega) (show ((15-k:Nat):Int)<((16:Nat):Int) by omega),cond_true,hr,w1,ahq,hg,hs];rw[if_neg (by omega),show 16-(k+1)=15-k by omega])
 have hst:twP b 16=b:=by unfold twP;rw[h0,<-Xy hl]
 have w0:ahe.wrap ((b.length:Int)-1)=15:=by rw[wrap64 (by omega) (by omega)];omega
 rw[ahL,hst,if_pos rfl,show (15:Int)-((0:Nat):Int)=15 from rfl,if_neg (by omega),aiD]at e;have e0:twP b 0=tab 16 (YI b):=P_ fun i _=>by rw[if_pos (ait _)]
 simp only[Qy.run,Nh (show b.length<9223372036854775808 by omega),cond_true,MV (show (b.length:Int)=16 by omega),ag4,cond_false,w0,e,e0];rw[Qy.q0];have hx0:B8 (rd 0 b ((0:Nat):Int)):=hB _ (Ol (by omega) (by omega));simp only[Qy.b0,M_ (show ¬((15:Int)-((16:Nat):Int)>=0) by omega),cond_false,ag3,P7,Nj (show (0:Int)<=15 by omega) (show (15:Int)<((16:Nat):Int) by omega),cond_true,adR hx0];have h15:rd 0 (tab 16 (YI b)) 15=Jd .u8 (rd 0 b 15) 1:=by
  have:=Rt (n:=16) (g:=YI b) (k:=15) (by omega);rw[show ((15:Nat):Int)=15 from rfl]at this;rw[this];rfl
 rw[h15];unfold VH;rw[show ((0:Nat):Int)=0 from rfl];by_cases hc:rd 0 b 0>=128
 ·rw[if_pos hc,if_pos hc]
 ·rw[if_neg hc,if_neg hc,xor_zero (aay _ _),WH];congr 2
theorem Ut{b:List Int}(hb:V6 b):QL.run .lim (b,())=some (VH b):=by simp only[QL.run,aa6 hb,ag3]
theorem U9{b:List Int}(hb:V6 b):NQ.run .lim (b,())=some (VH b):=by
 obtain⟨hl,hB⟩:=hb;have e:=Oh (f:=NQ.l0 .lim) (fun k=>(b,(k:Int),RD 16 k (YI b),())) (n:=16) (fun k hk=>by
  rw[NQ.q0];have hg1:k<15->KY .u8 (Jd .u8 (rd 0 b (k:Int)) 1) (Je .u8 (rd 0 b ((k+1:Nat):Int)) 7)=YI b k:=fun h=>by unfold YI;rw[if_neg (by omega)]
  simp only[NQ.b0,MV (show (k:Int)<16 by omega),hl,U1,ahW,Nj (show (0:Int)<=k by omega) (show (k:Int)<((16:Nat):Int) by omega),cond_true,QU k (by omega),ahq];by_cases afg:k<15
  ·rw[MV (show (k:Int)<15 by omega),Nj (show (0:Int)<=((k+1:Nat):Int) by omega) (show ((k+1:Nat):Int)<((16:Nat):Int) by omega),Ur (by simpa using hk),hg1 afg,List.set_set,Sv rfl];rfl
  ·have:k=15:=by omega
   subst this;rw[M_ (show ¬((15:Nat):Int)<15 by omega),Sv (by unfold YI;rw[if_pos rfl];rfl)];rfl)
 rw[RJ,show ((0:Nat):Int)=0 from rfl]at e;simp only[NQ.run,show Nat.blt 16 70368744177664=true from rfl,cond_true,e];rw[NQ.q0];have h15:rd 0 (tab 16 (YI b)) 15=Jd .u8 (rd 0 b 15) 1:=by
  have:=Rt (n:=16) (g:=YI b) (k:=15) (by omega);rw[show ((15:Nat):Int)=15 from rfl]at this;rw[this];rfl
 simp only[NQ.b0,M_ (show ¬((16:Nat):Int)<16 by omega),cond_false,ag3,hl,Nj (show (0:Int)<=0 by omega) (show (0:Int)<((16:Nat):Int) by omega),cond_true,Uj,P7,Nj (show (0:Int)<=15 by omega) (show (15:Int)<((16:Nat):Int) by omega),h15];unfold VH;by_cases hc:rd 0 b 0>=128
 ·rw[MV hc,if_pos hc];rfl
 ·rw[M_ hc,if_neg hc];rfl
def UO(s:List Int):List Int:=s++(128::ahm (15-s.length) 0)
theorem Rq{s:List Int}(h:s.length<16):(UO s).length=16:=by simp[UO];omega
noncomputable def Wy(key s:List Int):Nat->List Int
 |0=>WO
 |k+1=>encS key (Qr (Wy key s k) ((s.drop (16*k)).take 16))
theorem Yh(key s:List Int): ∀k,V6 (Wy key s k)
 |0=>⟨rfl,fun x hx=>by rw[(ah2.1 hx).2];exact⟨by decide,by decide⟩⟩
 |_+1=>SH _ _
noncomputable def Ve(key:List Int):List Int:=VH (encS key WO)
noncomputable def SE(key s:List Int):List Int:=if s.length=16 then Qr s (Ve key)else Qr (UO s) (VH (Ve key))
noncomputable def Zk(key s:List Int):List Int:=encS key (Qr (Wy key s ((s.length-1)/16)) (SE key (s.drop (16*((s.length-1)/16)))))
theorem Vl(key s:List Int):V6 (Zk key s):=SH _ _
theorem U6{key b:List Int}(hk:key.length=16\/key.length=32)(hb:b.length=16):encR key b=(encS key b,0):=by unfold encR;rw[if_pos hk,if_pos hb]
theorem aaP{key s:List Int}(h:s.length<=16):(SE key s).length=16:=by
 unfold SE;split
 ·simpa
 ·rw[OZ,Rq (by omega)]
section
variable {key s:List Int}
theorem VF(hk:key.length=16\/key.length=32)(hkb:Bs key)(hs:s.length<Nw):OB.run .lim ((key,Ve key,VH (Ve key)),s,())=some (Zk key s):=by
 have z:=TJ (n:=16) (by omega);have hloop:=Oh (f:=OB.l0 .lim) (fun k=>(s.drop (16*k),key,Ve key,VH (Ve key),Wy key s k,key,Ve key,VH (Ve key),())) (n:=(s.length-1)/16) (fun k hk'=>by
  rw[OB.q0];have hl:(s.drop (16*k)).length=s.length-16*k:=ahk;have hc:=Yh key s k;have h1:cut (s.drop (16*k)) 0 16=(s.drop (16*k)).take 16:=by have:=Ri (s.drop (16*k)) 0 16;simpa using this
  have h2:cut (s.drop (16*k)) 16 ((s.drop (16*k)).length:Int)=s.drop (16*(k+1)):=by
   have:=Ri (s.drop (16*k)) 16 (s.drop (16*k)).length;rw[show ((16:Nat):Int)=16 from rfl]at this;rw[this,ahR,ahn (by rw[ahk];omega)];congr 1
  have hx:=SQ (a:=Wy key s k) (b:=(s.drop (16*k)).take 16) (by rw[hc.1,ahl];omega) (by rw[ahl];omega);have he:=UF (key:=key) (b:=Qr (Wy key s k) ((s.drop (16*k)).take 16)) (N7 (by omega)) (by rw[OZ,hc.1];decide) hkb;rw[U6 hk (by rw[OZ,hc.1])]at he;have hlim:s.length<9223372036854775808:=hs;simp only[OB.b0,Nh (show (s.drop (16*k)).length<9223372036854775808 by omega),MV (show ((s.drop (16*k)).length:Int)>16 by omega),Nq (show (0:Int)<=0 by omega) (show (0:Int)<=16 by omega) (show (16:Int)<=((s.drop (16*k)).length:Int) by omega),Nq (show (0:Int)<=16 by omega) (show (16:Int)<=((s.drop (16*k)).length:Int) by omega) (ahp _),cond_true,h1,h2,hx,he,ag3];rfl)
 simp only[OB.run];rw[show (16:Int)=((16:Nat):Int)from rfl,z];simp only[ag3];rw[aiC,ahB,show Wy key s 0=WO from rfl]at hloop;rw[hloop];generalize hq:(s.length-1)/16=q;have hl:(s.drop (16*q)).length=s.length-16*q:=ahk;have hlim:s.length<9223372036854775808:=hs;rw[OB.q0];have hc:=Yh key s q;have h16:(s.drop (16*q)).length<=16:=by omega
 simp only[OB.b0,Nh (show (s.drop (16*q)).length<9223372036854775808 by omega),M_ (show ¬((s.drop (16*q)).length:Int)>16 by omega),cond_true,cond_false,ag3];have he:=UF (key:=key) (b:=Qr (Wy key s q) (SE key (s.drop (16*q)))) (N7 (by omega)) (by rw[OZ,hc.1];decide) hkb;rw[U6 hk (by rw[OZ,hc.1])]at he;have hll:=aaP (key:=key) h16;have hx2:=SQ (a:=Wy key s q) (b:=SE key (s.drop (16*q))) (by rw[hc.1,hll];omega) (by omega);have hcm:Zk key s=encS key (Qr (Wy key s q) (SE key (s.drop (16*q)))):=by unfold Zk;rw[hq]
 rw[hcm];generalize hm:s.drop (16*q)=m at*;by_cases h3:m.length=16
 ·rw[MV (show (m.length:Int)=((16:Nat):Int) by omega)];have hx1:=SQ (a:=m) (b:=Ve key) (by rw[h3,show (Ve key).length=16 from(Q8 _).1];omega) (by rw[show (Ve key).length=16 from(Q8 _).1];omega);have hls:SE key m=Qr m (Ve key):=by unfold SE;rw[if_pos h3]
  rw[hls]at hx2 he ⊢
  simp only[cond_true,hx1,ag3,hx2,he]
 ·rw[M_ (show ¬(m.length:Int)=((16:Nat):Int) by omega)];have hls:SE key m=Qr (UO m) (VH (Ve key)):=by unfold SE;rw[if_neg h3]
  have w15:ahe.wrap (15-(m.length:Int))=((15-m.length:Nat):Int):=by rw[wrap64 (by omega) (by omega)];omega
  have hz:=TJ (n:=15-m.length) (by omega);have adS:(m++[128])++ahm (15-m.length) (0:Int)=UO m:=by unfold UO;simp
  have hx1:=SQ (a:=UO m) (b:=VH (Ve key)) (by rw[Rq (by omega),(Q8 _).1];omega) (by rw[(Q8 _).1];omega);rw[hls]at hx2 he ⊢
  simp only[cond_false];rw[cond_pos (MV (by unfold maxStr;simp;omega)),w15,hz];simp only[ag3];rw[cond_pos (MV (by unfold maxStr;simp;omega)),adS,hx1];simp only[ag3,hx2,he]
theorem X9{m:List Int}(h:m.length<16):O_.run .lim (m,())=some (UO m):=by
 have hz:=U_ (n:=16) (by omega);simp only[O_.run];rw[cond_pos (MV (by unfold maxStr;simp;omega)),show (16:Int)=((16:Nat):Int)from rfl,hz];simp only[ag3];rw[cond_pos (MV (by unfold maxStr;simp;omega)),cond_pos (Nq (by omega) (by omega) (by simp;omega))];congr 1;have:=Ri ((m++[128])++ahm 16 (0:Int)) 0 16;rw[show ((0:Nat):Int)=0 from rfl]at this;rw[this,ahB,ahL,ahs,List.take_append,ahn (by omega)];unfold UO;congr 1;obtain⟨p,hp⟩: ∃p,16-m.length=p+1:=⟨15-m.length,by omega⟩;rw[hp,show 15-m.length=p by omega,List.singleton_append,List.take_succ_cons,List.take_replicate];congr 2;omega
theorem UQ(hk:key.length=16\/key.length=32)(hkb:Bs key)(hs:s.length<Nw):NS.run .lim (key,s,())=some (Zk key s):=by
 have z:=U_ (n:=16) (by omega);have abD:(ahm 16 (0:Int)).length=16:=rfl;have e0:=Us (key:=key) (b:=WO) (N7 (by omega)) (by rw[abD];decide) hkb;rw[U6 hk abD]at e0;have hloop:=Oh (f:=NS.l0 .lim) (fun k=>(key,s.drop (16*k),Ve key,Wy key s k,())) (n:=(s.length-1)/16) (fun k hk'=>by
  rw[NS.q0];have hl:(s.drop (16*k)).length=s.length-16*k:=ahk;have hc:=Yh key s k;have h1:cut (s.drop (16*k)) 0 16=(s.drop (16*k)).take 16:=by have:=Ri (s.drop (16*k)) 0 16;simpa using this
  have h2:cut (s.drop (16*k)) 16 ((s.drop (16*k)).length:Int)=s.drop (16*(k+1)):=by
   have:=Ri (s.drop (16*k)) 16 (s.drop (16*k)).length;rw[show ((16:Nat):Int)=16 from rfl]at this;rw[this,ahR,ahn (by rw[ahk];omega)];congr 1
  have hx:=Rw (a:=Wy key s k) (b:=(s.drop (16*k)).take 16) (by rw[hc.1,ahl];omega) (by rw[ahl];omega);have he:=Us (key:=key) (b:=Qr (Wy key s k) ((s.drop (16*k)).take 16)) (N7 (by omega)) (by rw[OZ,hc.1];decide) hkb;rw[U6 hk (by rw[OZ,hc.1])]at he;have hlim:s.length<9223372036854775808:=hs;simp only[NS.b0,Nh (show (s.drop (16*k)).length<9223372036854775808 by omega),MV (show ((s.drop (16*k)).length:Int)>16 by omega),Nq (show (0:Int)<=0 by omega) (show (0:Int)<=16 by omega) (show (16:Int)<=((s.drop (16*k)).length:Int) by omega),Nq (show (0:Int)<=16 by omega) (show (16:Int)<=((s.drop (16*k)).length:Int) by omega) (ahp _),cond_true,h1,h2,hx,he,ag3];rfl)
 simp only[NS.run];rw[show (16:Int)=((16:Nat):Int)from rfl,z];simp only[ag3,e0,U9 (SH _ _)];rw[aiC,ahB,show Wy key s 0=WO from rfl]at hloop;rw[show VH (encS key WO)=Ve key from rfl,hloop];generalize hq:(s.length-1)/16=q;have hl:(s.drop (16*q)).length=s.length-16*q:=ahk;have hlim:s.length<9223372036854775808:=hs;rw[NS.q0];have hc:=Yh key s q;have h16:(s.drop (16*q)).length<=16:=by omega
 have he:=Us (key:=key) (b:=Qr (Wy key s q) (SE key (s.drop (16*q)))) (N7 (by omega)) (by rw[OZ,hc.1];decide) hkb;rw[U6 hk (by rw[OZ,hc.1])]at he;have hcm:Zk key s=encS key (Qr (Wy key s q) (SE key (s.drop (16*q)))):=by unfold Zk;rw[hq]
 rw[hcm];simp only[NS.b0,Nh (show (s.drop (16*q)).length<9223372036854775808 by omega),M_ (show ¬((s.drop (16*q)).length:Int)>16 by omega),cond_true,cond_false,ag3];generalize hm:s.drop (16*q)=m at*;have hk1:(Ve key).length=16:=(Q8 _).1;by_cases h3:m.length=16
 ·rw[M_ (show ¬(m.length:Int)<((16:Nat):Int) by omega)];have hx1:=Rw (a:=Wy key s q) (b:=m) (by rw[h3,hc.1];omega) (by omega);have hx2:=Rw (a:=Qr (Wy key s q) m) (b:=Ve key) (by rw[OZ,hc.1,hk1];omega) (by omega);have hls:Qr (Qr (Wy key s q) m) (Ve key)=Qr (Wy key s q) (SE key m):=by unfold SE;rw[if_pos h3,XB (by rw[hc.1,h3])]
  simp only[cond_false,hx1,ag3,hx2,hls,he]
 ·rw[MV (show (m.length:Int)<((16:Nat):Int) by omega)];have hp:=Rq (s:=m) (by omega);have ht:(VH (Ve key)).length=16:=(Q8 _).1;have hx1:=Rw (a:=Wy key s q) (b:=UO m) (by rw[hp,hc.1];omega) (by omega);have hx2:=Rw (a:=Qr (Wy key s q) (UO m)) (b:=VH (Ve key)) (by rw[OZ,hc.1,ht];omega) (by omega);have hls:Qr (Qr (Wy key s q) (UO m)) (VH (Ve key))=Qr (Wy key s q) (SE key m):=by unfold SE;rw[if_neg h3,XB (by rw[hc.1,hp])]
  simp only[cond_true,X9 (show m.length<16 by omega),U9 (show V6 (Ve key)from Q8 _),hx1,ag3,hx2,hls,he]
end
end Go.AM
end
section
namespace Go.AM
noncomputable def Zu(key:List Int)(l:List (List Int)):Nat->List Int
 |0=>Zk key WO
 |k+1=>Qr (VH (Zu key l k)) (Zk key (rd [] l (k:Int)))
noncomputable def s2E(key d s:List Int):List Int:=
 if s.length<16 then Zk key (Qr (UO s) (VH d))else Zk key (s.take (s.length-16)++Qr (s.drop (s.length-16)) d)
noncomputable def Zv(key:List Int)(l:List (List Int)):List Int:=
 if l.length=0 then Zk key (ahm 15 0++[1])else s2E key (Zu key l (l.length-1)) (rd [] l ((l.length-1:Nat):Int))
theorem Yv(key:List Int)(l:List (List Int)): ∀k,V6 (Zu key l k)
 |0=>Vl _ _
 |k+1=>⟨by rw[Zu,OZ,(Q8 _).1],acr _ _⟩
theorem VY(key:List Int)(l:List (List Int)):V6 (Zv key l):=by
 unfold Zv s2E;split
 ·exact Vl _ _
 ·split<;>exact Vl _ _
theorem adV(key:List Int):V6 (Ve key):=Q8 _
theorem aa0{key:List Int}(hk:key.length=16\/key.length=32)(hkb:Bs key):Ui.run .lim (key,())=some ((key,(Ve key,VH (Ve key))),0,()):=by
 have z:=TJ (n:=16) (by omega);have abD:(ahm 16 (0:Int)).length=16:=rfl;have he:=UF (key:=key) (b:=WO) (N7 (by omega)) (by rw[abD];decide) hkb;rw[U6 hk abD]at he;simp only[Ui.run];rw[show (16:Int)=((16:Nat):Int)from rfl,z];simp only[ag3,he,decide_true,ag4,cond_false,Ut (SH key WO)];rw[show VH (encS key WO)=Ve key from rfl,Ut (adV key)];rfl
section
variable {key:List Int}
theorem aaz{l:List (List Int)}(hk:key.length=16\/key.length=32)(hkb:Bs key)(hl:l.length<Nw)(hs: ∀s∈l,s.length<Nw):
  OL.run .lim ((key,(Ve key,VH (Ve key))),l,())=some (Zv key l):=by
 have hlim:l.length<9223372036854775808:=hl;simp only[OL.run,Nh hlim,cond_true];unfold Zv;by_cases h0:l.length=0
 ·rw[MV (show (l.length:Int)=0 by omega),if_pos h0];have z:=TJ (n:=15) (by omega);simp only[cond_true];rw[show (15:Int)=((15:Nat):Int)from rfl,z];simp only[ag3];rw[cond_pos (by decide),VF hk hkb (by decide)];rfl
 ·rw[M_ (show ¬(l.length:Int)=0 by omega),if_neg h0];have z:=TJ (n:=16) (by omega);have w1:ahe.wrap ((l.length:Int)-1)=((l.length-1:Nat):Int):=by rw[wrap64 (by omega) (by omega)];omega
  have hc:cut l 0 ((l.length-1:Nat):Int)=l.take (l.length-1):=by
   have:=Ri l 0 (l.length-1);rw[show ((0:Nat):Int)=0 from rfl]at this;rw[this,ahB,ahL]
  have htl:(l.take (l.length-1)).length=l.length-1:=by rw[ahl];omega
  generalize hs1:rd ([]:List Int) l ((l.length-1:Nat):Int)=s;have hsl:s.length<9223372036854775808:=by rw[<-hs1];exact hs _ (Ol (by omega) (by omega))
  have hloop:=Oh (f:=OL.l0 .lim) (fun k=>(Zu key l k,s,l.take (l.length-1),((l.length-1:Nat):Int),(k:Int),key,Ve key,VH (Ve key),())) (n:=l.length-1) (fun k hk'=>by
   rw[OL.q0];have hok:=Yv key l k;have ht:=VF (key:=key) (s:=rd [] l (k:Int)) hk hkb (hs _ (Ol (by omega) (by omega)));have hx:=SQ (a:=VH (Zu key l k)) (b:=Zk key (rd [] l (k:Int))) (by rw[(Q8 _).1,(Vl _ _).1];omega) (by rw[(Vl _ _).1];omega);simp only[OL.b0,MV (show (k:Int)<((l.length-1:Nat):Int) by omega),htl,Nj (show (0:Int)<=k by omega) (show (k:Int)<((l.length-1:Nat):Int) by omega),SL (d:=([]:List Int)) (xs:=l) hk',cond_true,Ut hok,ag3,ht,hx,wk k (by omega)];rfl)
  rw[show Zu key l 0=Zk key WO from rfl,show ((0:Nat):Int)=0 from rfl]at hloop;simp only[cond_false];rw[show (16:Int)=((16:Nat):Int)from rfl,z];simp only[ag3,VF hk hkb (show (ahm 16 (0:Int)).length<Nw by decide),w1,Nj (show (0:Int)<=((l.length-1:Nat):Int) by omega) (show ((l.length-1:Nat):Int)<(l.length:Int) by omega),Nq (ahp 0) (show (0:Int)<=((l.length-1:Nat):Int) by omega) (show ((l.length-1:Nat):Int)<=(l.length:Int) by omega),cond_true,hc,htl,Nh (show l.length-1<9223372036854775808 by omega),hs1];rw[hloop,OL.q0];simp only[OL.b0,M_ (show ¬((l.length-1:Nat):Int)<((l.length-1:Nat):Int) by omega),cond_false,ag3,Nh hsl,cond_true];have w2:ahe.wrap ((s.length:Int)-((16:Nat):Int))=(s.length:Int)-16:=by rw[wrap64 (by omega) (by omega)];omega
  rw[w2];have hd:=Yv key l (l.length-1);unfold s2E;by_cases h3:s.length<16
  ·rw[M_ (show ¬((s.length:Int)-16>=0) by omega),if_pos h3];have w15:ahe.wrap (15-(s.length:Int))=((15-s.length:Nat):Int):=by rw[wrap64 (by omega) (by omega)];omega
   have hz:=TJ (n:=15-s.length) (by omega);have adS:(s++[128])++ahm (15-s.length) (0:Int)=UO s:=by unfold UO;simp
   have hx:=SQ (a:=UO s) (b:=VH (Zu key l (l.length-1))) (by rw[Rq h3,(Q8 _).1];omega) (by rw[(Q8 _).1];omega);simp only[cond_false];rw[cond_pos (MV (by unfold maxStr;simp;omega)),w15,hz];simp only[ag3];rw[cond_pos (MV (by unfold maxStr;simp;omega)),adS];simp only[Ut hd,ag3,hx];rw[VF hk hkb (by rw[OZ,Rq h3];decide)];rfl
  ·rw[MV (show (s.length:Int)-16>=0 by omega),if_neg h3];have e16:(s.length:Int)-16=((s.length-16:Nat):Int):=by omega
   have hc1:cut s ((s.length-16:Nat):Int) (s.length:Int)=s.drop (s.length-16):=by rw[Ri,ahn (by rw[ahk];omega)]
   have hc2:cut s 0 ((s.length-16:Nat):Int)=s.take (s.length-16):=by
    have:=Ri s 0 (s.length-16);rw[show ((0:Nat):Int)=0 from rfl]at this;rw[this,ahB,ahL]
   have hx:=SQ (a:=s.drop (s.length-16)) (b:=Zu key l (l.length-1)) (by rw[ahk,hd.1];omega) (by rw[hd.1];omega);have adT:(s.take (s.length-16)++Qr (s.drop (s.length-16)) (Zu key l (l.length-1))).length=s.length:=by rw[ag5,OZ,ahl,ahk];omega
   simp only[e16,cond_true,Nq (ahp 0) (show (0:Int)<=((s.length-16:Nat):Int) by omega) (show ((s.length-16:Nat):Int)<=(s.length:Int) by omega),Nq (show (0:Int)<=((s.length-16:Nat):Int) by omega) (show ((s.length-16:Nat):Int)<=(s.length:Int) by omega) (ahp _),hc1,hc2,hx,ag3];rw[cond_pos (MV (by rw[OZ,ahl,ahk];unfold maxStr;omega)),VF hk hkb (by rw[adT];exact hsl)];rfl
theorem ac5{l:List (List Int)}(hk:key.length=16\/key.length=32)(hkb:Bs key)(hl:l.length<=127)(hs: ∀s∈l,s.length<Nw):
  Ox.run .lim (key,l,())=some (Zv key l,0,()):=by
 have hsz:P6.run .lim (key,())=some true:=by
  have Xb:key.length<9223372036854775808:=by omega
  simp only[P6.run,Nh Xb,cond_true,aha];rcases hk with h|h
  ·rw[MV (show (key.length:Int)=16 by omega)];rfl
  ·rw[MV (show (key.length:Int)=32 by omega),aha]
 simp only[Ox.run,hsz,ag3,ag4,cond_false,Nh (show l.length<9223372036854775808 by omega),cond_true,M_ (show ¬(l.length:Int)>127 by omega)];unfold Zv;by_cases h0:l.length=0
 ·rw[MV (show (l.length:Int)=0 by omega),if_pos h0];have z:=U_ (n:=15) (by omega);simp only[cond_true];rw[show (15:Int)=((15:Nat):Int)from rfl,z];simp only[ag3];rw[cond_pos (by decide),UQ hk hkb (by decide)];rfl
 ·rw[M_ (show ¬(l.length:Int)=0 by omega),if_neg h0];have z:=U_ (n:=16) (by omega);have w1:ahe.wrap ((l.length:Int)-1)=((l.length-1:Nat):Int):=by rw[wrap64 (by omega) (by omega)];omega
  have hloop:=Oh (f:=Ox.l0 .lim) (fun k=>(key,l,Zu key l k,(k:Int),())) (n:=l.length-1) (fun k hk'=>by
   rw[Ox.q0];have hok:=Yv key l k;have ht:=UQ (key:=key) (s:=rd [] l (k:Int)) hk hkb (hs _ (Ol (by omega) (by omega)));have hx:=Rw (a:=VH (Zu key l k)) (b:=Zk key (rd [] l (k:Int))) (by rw[(Q8 _).1,(Vl _ _).1];omega) (by rw[(Vl _ _).1];omega);simp only[Ox.b0,Nh (show l.length<9223372036854775808 by omega),w1,MV (show (k:Int)<((l.length-1:Nat):Int) by omega),Nj (show (0:Int)<=k by omega) (show (k:Int)<(l.length:Int) by omega),cond_true,U9 hok,ag3,ht,hx,wk k (by omega)];rfl)
  rw[show Zu key l 0=Zk key WO from rfl,show ((0:Nat):Int)=0 from rfl]at hloop;simp only[cond_false];rw[show (16:Int)=((16:Nat):Int)from rfl,z];simp only[ag3,UQ hk hkb (show (ahm 16 (0:Int)).length<Nw by decide)];rw[hloop,Ox.q0];generalize hs1:rd ([]:List Int) l ((l.length-1:Nat):Int)=s;have hsl:s.length<9223372036854775808:=by rw[<-hs1];exact hs _ (Ol (by omega) (by omega))
  simp only[Ox.b0,Nh (show l.length<9223372036854775808 by omega),w1,M_ (show ¬((l.length-1:Nat):Int)<((l.length-1:Nat):Int) by omega),cond_false,ag3,cond_true,Nj (show (0:Int)<=((l.length-1:Nat):Int) by omega) (show ((l.length-1:Nat):Int)<(l.length:Int) by omega),hs1,Nh hsl];have w2:ahe.wrap ((s.length:Int)-((16:Nat):Int))=(s.length:Int)-16:=by rw[wrap64 (by omega) (by omega)];omega
  rw[w2];have hd:=Yv key l (l.length-1);unfold s2E;by_cases h3:s.length<16
  ·rw[MV (show (s.length:Int)<((16:Nat):Int) by omega),if_pos h3];have hx:=Rw (a:=VH (Zu key l (l.length-1))) (b:=UO s) (by rw[Rq h3,(Q8 _).1];omega) (by rw[Rq h3];omega);rw[abb (by rw[Rq h3,(Q8 _).1])]at hx;simp only[cond_true,U9 hd,X9 h3,ag3,hx];rw[UQ hk hkb (by rw[OZ,Rq h3];decide)];rfl
  ·rw[M_ (show ¬(s.length:Int)<((16:Nat):Int) by omega),if_neg h3];have e16:(s.length:Int)-16=((s.length-16:Nat):Int):=by omega
   have hc1:cut s ((s.length-16:Nat):Int) (s.length:Int)=s.drop (s.length-16):=by rw[Ri,ahn (by rw[ahk];omega)]
   have hc2:cut s 0 ((s.length-16:Nat):Int)=s.take (s.length-16):=by
    have:=Ri s 0 (s.length-16);rw[show ((0:Nat):Int)=0 from rfl]at this;rw[this,ahB,ahL]
   have hx:=Rw (a:=s.drop (s.length-16)) (b:=Zu key l (l.length-1)) (by rw[ahk,hd.1];omega) (by rw[hd.1];omega);have adT:(s.take (s.length-16)++Qr (s.drop (s.length-16)) (Zu key l (l.length-1))).length=s.length:=by rw[ag5,OZ,ahl,ahk];omega
   simp only[e16,cond_false,Nq (ahp 0) (show (0:Int)<=((s.length-16:Nat):Int) by omega) (show ((s.length-16:Nat):Int)<=(s.length:Int) by omega),Nq (show (0:Int)<=((s.length-16:Nat):Int) by omega) (show ((s.length-16:Nat):Int)<=(s.length:Int) by omega) (ahp _),cond_true,hc1,hc2,hx,ag3];rw[cond_pos (MV (by rw[OZ,ahl,ahk];unfold maxStr;omega)),UQ hk hkb (by rw[adT];exact hsl)];rfl
def Vy(v:List Int):List Int:=(v.set 8 (Jc .u8 (rd 0 v 8) 127)).set 12 (Jc .u8 (rd 0 (v.set 8 (Jc .u8 (rd 0 v 8) 127)) 12) 127)
theorem U7(v:List Int):(Vy v).length=v.length:=by simp[Vy]
noncomputable def UC(key v s:List Int):List Int:=Qr s (Z7 key (Vy v) s.length)
theorem RI(key v s:List Int):(UC key v s).length=s.length:=OZ _ _
theorem aaB(key v s:List Int):Bs (UC key v s):=acr _ _
theorem Z8(key v:List Int){s:List Int}(h:Bs s):UC key v (UC key v s)=s:=by
 unfold UC;rw[OZ,aa_ (by rw[U0];omega) h]
theorem aaA{key v:List Int}{n:Nat}(hk:key.length=16\/key.length=32)(hv:v.length=16)(hn:n<=65536):aa5 key v (n:Int)=Z7 key v n:=by
 unfold aa5 aa4;rw[if_neg (show ¬((n:Int)<0\/(n:Int)>65536) by omega),if_pos hk,if_pos hv,if_pos rfl,ahq]
theorem Xx{v s:List Int}(hk:key.length=16\/key.length=32)(hkb:Bs key)(hv:v.length=16)(hs:s.length<=65536):Q7.run .lim (key,v,s,())=some (UC key v s):=by
 have ha:=ZA (key:=key) (at_:=Vy v) (n:=(s.length:Int)) (N7 (by omega)) (by rw[U7,hv];decide) hkb;rw[aaA hk (by rw[U7,hv]) hs]at ha;have hx:=SQ (a:=s) (b:=Z7 key (Vy v) s.length) (by rw[U0];omega) (by rw[U0];omega);unfold Vy at ha hx;simp only[Q7.run,ahW,hv,Nj (show (0:Int)<=8 by omega) (show (8:Int)<((16:Nat):Int) by omega),Nj (show (0:Int)<=12 by omega) (show (12:Int)<((16:Nat):Int) by omega),Nh (show s.length<9223372036854775808 by omega),cond_true,ha,ag3,hx];rfl
theorem VD{v s:List Int}(hk:key.length=16\/key.length=32)(hkb:Bs key)(hv:v.length=16)(hs:s.length<=65536):OH.run .lim (key,v,s,())=some (UC key v s):=by
 have ha:=Z5 (key:=key) (at_:=Vy v) (n:=(s.length:Int)) (N7 (by omega)) (by rw[U7,hv];decide) hkb;rw[aaA hk (by rw[U7,hv]) hs]at ha;have hx:=Rw (a:=s) (b:=Z7 key (Vy v) s.length) (by rw[U0];omega) (by rw[U0];omega);unfold Vy at ha hx;simp only[OH.run,ahW,hv,Nj (show (0:Int)<=8 by omega) (show (8:Int)<((16:Nat):Int) by omega),Nj (show (0:Int)<=12 by omega) (show (12:Int)<((16:Nat):Int) by omega),Nh (show s.length<9223372036854775808 by omega),cond_true,ha,ag3,hx];rfl
abbrev QN(key:List Int):List Int:=key.take (key.length/2)
abbrev Uy(key:List Int):List Int:=key.drop (key.length/2)
def Sr(key:List Int)(ad:List (List Int)):Int:=if key.length=32\/key.length=64 then(if ad.length>=127 then 18 else 0)else 13
noncomputable def TG(key:List Int)(ad:List (List Int))(plain:List Int):List Int:=
 Zv (QN key) (ad++[plain])++UC (Uy key) (Zv (QN key) (ad++[plain])) plain
noncomputable def TF(key:List Int)(ad:List (List Int))(plain:List Int):List Int×Int:=
 if Sr key ad=0 then(if plain.length>65536 then([],12)else(TG key ad plain,0))else([],Sr key ad)
noncomputable def Q_(key sealed:List Int):List Int:=UC (Uy key) (sealed.take 16) (sealed.drop 16)
noncomputable def Vh(key:List Int)(ad:List (List Int))(sealed:List Int):List Int×Int:=
 if Sr key ad=0 then(if sealed.length<16 then([],11)else if sealed.length>65552 then([],12)else
  if Zv (QN key) (ad++[Q_ key sealed])=sealed.take 16 then(Q_ key sealed,0)else([],17))else([],Sr key ad)
theorem U5{s:List Int}(h:Bs s)(n:Nat):Bs (s.take n):=fun x hx=>h x (ahT hx)
theorem Wx{s:List Int}(h:Bs s)(n:Nat):Bs (s.drop n):=fun x hx=>h x (aif hx)
theorem Tz{key:List Int}(h:key.length=32\/key.length=64):((QN key).length=16\/(QN key).length=32)/\((Uy key).length=16\/(Uy key).length=32):=by
 unfold QN Uy;rw[ahl,ahk];omega
theorem Xv{ad:List (List Int)}(hk:key.length<Nw)(hkb:Bs key)(ha:ad.length<Nw):
  ∃r r1,Q5.run .lim (key,ad,())=some (r,r1,Sr key ad,())/\(Sr key ad=0->r=(QN key,(Ve (QN key),VH (Ve (QN key))))/\r1=Uy key):=by
 have Xb:key.length<9223372036854775808:=hk;have abA:ad.length<9223372036854775808:=ha;have hd:(key.length:Int).tdiv 2=((key.length/2:Nat):Int):=by rw[aht (ah0 _)];simp
 have w1:ahe.wrap ((key.length:Int).tdiv 2)=((key.length/2:Nat):Int):=by rw[hd,wrap64 (by omega) (by omega)]
 unfold Sr;simp only[Q5.run,Nh Xb,Nh abA,cond_true,aha,w1];by_cases h1:key.length=32\/key.length=64
 ·have:(!decide ((key.length:Int)=32)&& !decide ((key.length:Int)=64))=false:=by
   rcases h1 with h|h
   ·rw[MV (show (key.length:Int)=32 by omega)];rfl
   ·rw[MV (show (key.length:Int)=64 by omega),ag4,ag9]
  rw[this,if_pos h1];simp only[cond_false];by_cases h2:ad.length>=127
  ·rw[MV (show (ad.length:Int)>=127 by omega),if_pos h2];exact⟨_,_,rfl,fun h=>absurd h (by decide)⟩
  ·rw[M_ (show ¬(ad.length:Int)>=127 by omega),if_neg h2];have hc1:cut key 0 ((key.length/2:Nat):Int)=QN key:=by
    have:=Ri key 0 (key.length/2);rw[show ((0:Nat):Int)=0 from rfl]at this;rw[this,ahB,ahL]
   have hc2:cut key ((key.length/2:Nat):Int) (key.length:Int)=Uy key:=by rw[Ri,ahn (by rw[ahk];omega)]
   simp only[cond_false,Nq (ahp 0) (show (0:Int)<=((key.length/2:Nat):Int) by omega) (show ((key.length/2:Nat):Int)<=(key.length:Int) by omega),Nq (show (0:Int)<=((key.length/2:Nat):Int) by omega) (show ((key.length/2:Nat):Int)<=(key.length:Int) by omega) (ahp _),cond_true,hc1,hc2,aa0 (Tz h1).1 (U5 hkb _),ag3];exact⟨_,_,rfl,fun _=>⟨rfl,rfl⟩⟩
 ·rw[M_ (show ¬(key.length:Int)=32 by omega),M_ (show ¬(key.length:Int)=64 by omega),if_neg h1];exact⟨_,_,rfl,fun h=>absurd h (by decide)⟩
theorem Wj{ad:List (List Int)}(hk:key.length<Nw)(ha:ad.length<Nw):OW.run .lim (key,ad,())=some (Sr key ad):=by
 have Xb:key.length<9223372036854775808:=hk;have abA:ad.length<9223372036854775808:=ha;unfold Sr;simp only[OW.run,Nh Xb,Nh abA,cond_true,aha];by_cases h1:key.length=32\/key.length=64
 ·have:(!decide ((key.length:Int)=32)&& !decide ((key.length:Int)=64))=false:=by
   rcases h1 with h|h
   ·rw[MV (show (key.length:Int)=32 by omega)];rfl
   ·rw[MV (show (key.length:Int)=64 by omega),ag4,ag9]
  rw[this,if_pos h1];by_cases h2:ad.length>=127
  ·rw[MV (show (ad.length:Int)>=127 by omega),if_pos h2];rfl
  ·rw[M_ (show ¬(ad.length:Int)>=127 by omega),if_neg h2];rfl
 ·rw[M_ (show ¬(key.length:Int)=32 by omega),M_ (show ¬(key.length:Int)=64 by omega),if_neg h1];rfl
theorem Tc{ad:List (List Int)}(h:Sr key ad=0):(key.length=32\/key.length=64)/\ad.length<127:=by
 unfold Sr at h;split at h
 ·split at h
  ·exact absurd h (by decide)
  ·exact⟨by assumption,by omega⟩
 ·exact absurd h (by decide)
theorem WT{ad:List (List Int)}(h:ad.length<4398046511104):NI.run .lim (ad,())=some ad:=by
 simp only[NI.run];rw[cond_pos (MV (by simpa using h)),ahI]
theorem aci{ad:List (List Int)}{plain:List Int}(hk:key.length<Nw)(hkb:Bs key)(ha:ad.length<Nw)(had: ∀s∈ad,s.length<Nw)(hp:plain.length<Nw):
  UY.run .lim (key,ad,plain,())=some ((TF key ad plain).1,(TF key ad plain).2,()):=by
 obtain⟨r,r1,e,hz⟩:=Xv hk hkb ha;have hp63:plain.length<9223372036854775808:=hp;unfold TF;simp only[UY.run,e,ag3,Nh hp63,cond_true];by_cases h0:Sr key ad=0
 ·obtain⟨rfl,rfl⟩:=hz h0;obtain⟨h1,h2⟩:=Tc h0;obtain⟨g1,g2⟩:=Tz h1;rw[MV h0,if_pos h0];simp only[ag4,cond_false];by_cases h3:plain.length>65536
  ·rw[MV (show (plain.length:Int)>65536 by omega),if_pos h3];rfl
  ·rw[M_ (show ¬(plain.length:Int)>65536 by omega),if_neg h3];have hall: ∀s∈ad++[plain],s.length<Nw:=fun s hs=>by
    rcases ahu.1 hs with hs|hs
    ·exact had s hs
    ·rw[ahx.1 hs];exact hp
   have hv:=(VY (QN key) (ad++[plain])).1;simp only[cond_false,WT (show ad.length<4398046511104 by omega),ag3];rw[cond_pos (MV (by simp;omega)),aaz g1 (U5 hkb _) (N7 (by simp;omega)) hall];simp only[ag3,Xx g2 (Wx hkb _) hv (show plain.length<=65536 by omega)];rw[cond_pos (MV (by rw[hv,RI];unfold maxStr;omega))];rfl
 ·rw[M_ h0,if_neg h0];rfl
theorem aaq{ad:List (List Int)}{plain:List Int}(hk:key.length=16\/key.length=32)(hkb:Bs key)(ha:ad.length<127)(hs: ∀s∈ad++[plain],s.length<Nw):Pv.run .lim (key,ad,plain,())=some (Zv key (ad++[plain])):=by
 simp only[Pv.run];rw[cond_pos (MV (by omega)),cond_pos (MV (by simp;omega)),ac5 hk hkb (by simp;omega) hs];rfl
theorem ab7{ad:List (List Int)}{plain:List Int}(hk:key.length<Nw)(hkb:Bs key)(ha:ad.length<Nw)(had: ∀s∈ad,s.length<Nw)(hp:plain.length<Nw):
  Qg.run .lim (key,ad,plain,())=some ((TF key ad plain).1,(TF key ad plain).2,()):=by
 have hp63:plain.length<9223372036854775808:=hp;have Xb:key.length<9223372036854775808:=hk;have hd:(key.length:Int).tdiv 2=((key.length/2:Nat):Int):=by rw[aht (ah0 _)];simp
 have w1:ahe.wrap ((key.length:Int).tdiv 2)=((key.length/2:Nat):Int):=by rw[hd,wrap64 (by omega) (by omega)]
 unfold TF;simp only[Qg.run,Wj hk ha,ag3,Nh hp63,Nh Xb,cond_true,w1];by_cases h0:Sr key ad=0
 ·obtain⟨h1,h2⟩:=Tc h0;obtain⟨g1,g2⟩:=Tz h1;rw[MV h0,if_pos h0];simp only[ag4,cond_false];by_cases h3:plain.length>65536
  ·rw[MV (show (plain.length:Int)>65536 by omega),if_pos h3];rfl
  ·rw[M_ (show ¬(plain.length:Int)>65536 by omega),if_neg h3];have hall: ∀s∈ad++[plain],s.length<Nw:=fun s hs=>by
    rcases ahu.1 hs with hs|hs
    ·exact had s hs
    ·rw[ahx.1 hs];exact hp
   have hc1:cut key 0 ((key.length/2:Nat):Int)=QN key:=by
    have:=Ri key 0 (key.length/2);rw[show ((0:Nat):Int)=0 from rfl]at this;rw[this,ahB,ahL]
   have hc2:cut key ((key.length/2:Nat):Int) (key.length:Int)=Uy key:=by rw[Ri,ahn (by rw[ahk];omega)]
   have hv:=(VY (QN key) (ad++[plain])).1;simp only[cond_false,Nq (ahp 0) (show (0:Int)<=((key.length/2:Nat):Int) by omega) (show ((key.length/2:Nat):Int)<=(key.length:Int) by omega),Nq (show (0:Int)<=((key.length/2:Nat):Int) by omega) (show ((key.length/2:Nat):Int)<=(key.length:Int) by omega) (ahp _),cond_true,hc1,hc2,aaq g1 (U5 hkb _) h2 hall,ag3,VD g2 (Wx hkb _) hv (show plain.length<=65536 by omega)];rw[cond_pos (MV (by rw[hv,RI];unfold maxStr;omega))];rfl
 ·rw[M_ h0,if_neg h0];rfl
theorem abd{a b:List Int}(h:a.length=b.length)(ha:Bs a)(hb:Bs b):Qr a b=ahm a.length 0 ↔ b=a:=by
 constructor
 ·intro e;refine(VU (d:=0) h.symm fun k hk=> ?_);have h1:rd 0 (Qr a b) (k:Int)=0:=by rw[e,Qz (by simp;omega)];simp
  rw[U8 (by omega)]at h1;have:=xor_assoc (rd 0 a (k:Int)) (rd 0 b (k:Int)) (rd 0 b (k:Int));rw[h1,xor_self,zero_xor (hb _ (Ol (by omega) (by omega))),xor_zero (ha _ (Ol (by omega) (by omega)))]at this;exact this
 ·rintro rfl
  refine VU (d:=0) (by simp) fun k hk=> ?_
  rw[OZ]at hk;rw[U8 hk,xor_self,Qz (by simpa using hk)];simp
theorem acg{ad:List (List Int)}{sealed:List Int}(hk:key.length<Nw)(hkb:Bs key)(ha:ad.length<Nw)(had: ∀s∈ad,s.length<Nw)(hp:sealed.length<Nw)(hpb:Bs sealed):
  UW.run .lim (key,ad,sealed,())=some ((Vh key ad sealed).1,(Vh key ad sealed).2,()):=by
 obtain⟨r,r1,e,hz⟩:=Xv hk hkb ha;have hp63:sealed.length<9223372036854775808:=hp;unfold Vh;simp only[UW.run,e,ag3,Nh hp63,cond_true];by_cases h0:Sr key ad=0
 ·obtain⟨rfl,rfl⟩:=hz h0;obtain⟨h1,h2⟩:=Tc h0;obtain⟨g1,g2⟩:=Tz h1;rw[MV h0,if_pos h0];simp only[ag4,cond_false];by_cases h3:sealed.length<16
  ·rw[MV (show (sealed.length:Int)<16 by omega),if_pos h3];rfl
  ·rw[M_ (show ¬(sealed.length:Int)<16 by omega),if_neg h3];simp only[cond_false];by_cases h4:sealed.length>65552
   ·rw[MV (show (sealed.length:Int)>65552 by omega),if_pos h4];rfl
   ·rw[M_ (show ¬(sealed.length:Int)>65552 by omega),if_neg h4];have hc1:cut sealed 0 16=sealed.take 16:=by
     have:=Ri sealed 0 16;simpa using this
    have hc2:cut sealed 16 (sealed.length:Int)=sealed.drop 16:=by
     have:=Ri sealed 16 sealed.length;rw[show ((16:Nat):Int)=16 from rfl]at this;rw[this,ahn (by rw[ahk];omega)]
    have ht:(sealed.take 16).length=16:=by rw[ahl];omega
    have hdl:(sealed.drop 16).length=sealed.length-16:=ahk;have hol:(Q_ key sealed).length=sealed.length-16:=by unfold Q_;rw[RI,hdl]
    have hall: ∀s∈ad++[Q_ key sealed],s.length<Nw:=fun s hs=>by
     rcases ahu.1 hs with hs|hs
     ·exact had s hs
     ·rw[ahx.1 hs,hol];exact N7 (by omega)
    have hv:=VY (QN key) (ad++[Q_ key sealed]);have z:=TJ (n:=16) (by omega);have hx:=SQ (a:=sealed.take 16) (b:=Zv (QN key) (ad++[Q_ key sealed])) (by rw[ht,hv.1];omega) (by rw[hv.1];omega);have hst:=Xx (v:=sealed.take 16) (s:=sealed.drop 16) g2 (Wx hkb _) ht (by omega);rw[show UC (Uy key) (sealed.take 16) (sealed.drop 16)=Q_ key sealed from rfl]at hst;simp only[cond_false,Nq (ahp 0) (show (0:Int)<=16 by omega) (show (16:Int)<=(sealed.length:Int) by omega),Nq (show (0:Int)<=16 by omega) (show (16:Int)<=(sealed.length:Int) by omega) (ahp _),cond_true,hc1,hc2,hst,ag3,WT (show ad.length<4398046511104 by omega)];rw[cond_pos (MV (by simp;omega)),aaz g1 (U5 hkb _) (N7 (by simp;omega)) hall];simp only[ag3,hx];rw[show (16:Int)=((16:Nat):Int)from rfl,z];simp only[ag3];have hiff:=abd (a:=sealed.take 16) (b:=Zv (QN key) (ad++[Q_ key sealed])) (by rw[ht,hv.1]) (U5 hpb _) hv.2;rw[ht]at hiff;by_cases h5:Zv (QN key) (ad++[Q_ key sealed])=sealed.take 16
    ·rw[MV (hiff.2 h5),if_pos h5];rfl
    ·rw[M_ (fun q=>h5 (hiff.1 q)),if_neg h5];rfl
 ·rw[M_ h0,if_neg h0];rfl
theorem ab5{ad:List (List Int)}{sealed:List Int}(hk:key.length<Nw)(hkb:Bs key)(ha:ad.length<Nw)(had: ∀s∈ad,s.length<Nw)(hp:sealed.length<Nw):
  Qe.run .lim (key,ad,sealed,())=some ((Vh key ad sealed).1,(Vh key ad sealed).2,()):=by
 have hp63:sealed.length<9223372036854775808:=hp;have Xb:key.length<9223372036854775808:=hk;have hd:(key.length:Int).tdiv 2=((key.length/2:Nat):Int):=by rw[aht (ah0 _)];simp
 have w1:ahe.wrap ((key.length:Int).tdiv 2)=((key.length/2:Nat):Int):=by rw[hd,wrap64 (by omega) (by omega)]
 unfold Vh;simp only[Qe.run,Wj hk ha,ag3,Nh hp63,Nh Xb,cond_true,w1];by_cases h0:Sr key ad=0
 ·obtain⟨h1,h2⟩:=Tc h0;obtain⟨g1,g2⟩:=Tz h1;rw[MV h0,if_pos h0];simp only[ag4,cond_false];by_cases h3:sealed.length<16
  ·rw[MV (show (sealed.length:Int)<16 by omega),if_pos h3];rfl
  ·rw[M_ (show ¬(sealed.length:Int)<16 by omega),if_neg h3];simp only[cond_false];by_cases h4:sealed.length>65552
   ·rw[MV (show (sealed.length:Int)>65552 by omega),if_pos h4];rfl
   ·rw[M_ (show ¬(sealed.length:Int)>65552 by omega),if_neg h4];have hc1:cut sealed 0 16=sealed.take 16:=by
     have:=Ri sealed 0 16;simpa using this
    have hc2:cut sealed 16 (sealed.length:Int)=sealed.drop 16:=by
     have:=Ri sealed 16 sealed.length;rw[show ((16:Nat):Int)=16 from rfl]at this;rw[this,ahn (by rw[ahk];omega)]
    have hc3:cut key 0 ((key.length/2:Nat):Int)=QN key:=by
     have:=Ri key 0 (key.length/2);rw[show ((0:Nat):Int)=0 from rfl]at this;rw[this,ahB,ahL]
    have hc4:cut key ((key.length/2:Nat):Int) (key.length:Int)=Uy key:=by rw[Ri,ahn (by rw[ahk];omega)]
    have ht:(sealed.take 16).length=16:=by rw[ahl];omega
    have hdl:(sealed.drop 16).length=sealed.length-16:=ahk;have hol:(Q_ key sealed).length=sealed.length-16:=by unfold Q_;rw[RI,hdl]
    have hall: ∀s∈ad++[Q_ key sealed],s.length<Nw:=fun s hs=>by
     rcases ahu.1 hs with hs|hs
     ·exact had s hs
     ·rw[ahx.1 hs,hol];exact N7 (by omega)
    have hst:=VD (v:=sealed.take 16) (s:=sealed.drop 16) g2 (Wx hkb _) ht (by omega);rw[show UC (Uy key) (sealed.take 16) (sealed.drop 16)=Q_ key sealed from rfl]at hst;simp only[cond_false,Nq (ahp 0) (show (0:Int)<=16 by omega) (show (16:Int)<=(sealed.length:Int) by omega),Nq (show (0:Int)<=16 by omega) (show (16:Int)<=(sealed.length:Int) by omega) (ahp _),Nq (ahp 0) (show (0:Int)<=((key.length/2:Nat):Int) by omega) (show ((key.length/2:Nat):Int)<=(key.length:Int) by omega),Nq (show (0:Int)<=((key.length/2:Nat):Int) by omega) (show ((key.length/2:Nat):Int)<=(key.length:Int) by omega) (ahp _),cond_true,hc1,hc2,hc3,hc4,hst,ag3,aaq g1 (U5 hkb _) h2 hall];by_cases h5:Zv (QN key) (ad++[Q_ key sealed])=sealed.take 16
    ·rw[MV h5,if_pos h5];rfl
    ·rw[M_ h5,if_neg h5];rfl
 ·rw[M_ h0,if_neg h0];rfl
end
theorem aaT{key:List Int}{ad:List (List Int)}{plain:List Int}(h0:Sr key ad=0)(hp:plain.length<=65536)(hpb:Bs plain):Vh key ad (TG key ad plain)=(plain,0):=by
 have hv:=VY (QN key) (ad++[plain]);have ht:(TG key ad plain).take 16=Zv (QN key) (ad++[plain]):=by unfold TG;rw[ahH (by rw[hv.1];omega),ahn (by rw[hv.1];omega)]
 have hd:(TG key ad plain).drop 16=UC (Uy key) (Zv (QN key) (ad++[plain])) plain:=by unfold TG;rw[ahG (by rw[hv.1];omega),ahP (by rw[hv.1];omega),ahI]
 have hl:(TG key ad plain).length=plain.length+16:=by unfold TG;rw[ag5,hv.1,RI];omega
 have ho:Q_ key (TG key ad plain)=plain:=by unfold Q_;rw[ht,hd,Z8 _ _ hpb]
 unfold Vh;rw[if_pos h0,if_neg (by omega),if_neg (by omega),ho,ht,if_pos rfl]
theorem aa1(key:List Int)(ad:List (List Int))(plain:List Int):(TG key ad plain).length=plain.length+16:=by unfold TG;rw[ag5,(VY _ _).1,RI];omega
theorem ac7(key:List Int)(ad:List (List Int))(plain:List Int):Bs (TG key ad plain):=fun x h=>by
 unfold TG at h;rcases ahu.1 h with h|h
 ·exact(VY _ _).2 x h
 ·exact aaB _ _ _ x h
end Go.AM
end
section
namespace Go.AM
def Sj(key:List Int)(ad:List (List Int))(n:Nat):Int:=if Ru (key,ad,[],[])=0 then(if n>65536 then 12 else 0)else Ru (key,ad,[],[])
theorem Yr(key:List Int)(ad:List (List Int))(p t:List Int):Ru (key,ad,p,t)=Ru (key,ad,[],[]):=rfl
noncomputable def Sm(xs:List KK)(key:List Int)(ad:List (List Int))(plain:List Int):List KK×List Int×Int:=
 if Sj key ad plain.length=0 then
  match (aho xs.length).find? (fun j:Nat=>U3 (rd k0 xs (j:Int)) (key,ad,plain,[]))with
  |some k=>(xs,(rd k0 xs (k:Int)).2.2.2,0)
  |none=>if xs.length>=2048 then(xs,[],18)else(xs++[(key,ad,plain,txt (xs.length+1) plain)],txt (xs.length+1) plain,0)
 else(xs,[],Sj key ad plain.length)
noncomputable def VA(xs:List KK)(key:List Int)(ad:List (List Int))(t:List Int):List Int×Int:=
 if Ru (key,ad,[],[])=0 then(if t.length<16 then([],11)else if t.length>65552 then([],12)else
  match (aho xs.length).find? (fun j:Nat=>hit key ad t (rd k0 xs (j:Int)))with
  |some k=>((rd k0 xs (k:Int)).2.2.1,0)
  |none=>([],17))else([],Ru (key,ad,[],[]))
noncomputable def NZ(v:VV)(key:List Int)(ad:List (List Int))(plain:List Int):VV×List Int×Int:=
 bif v.1 then((true,(Sm v.2 key ad plain).1),(Sm v.2 key ad plain).2)else(v,TF key ad plain)
noncomputable def O9(v:VV)(key:List Int)(ad:List (List Int))(t:List Int):List Int×Int:=bif v.1 then VA v.2 key ad t else Vh key ad t
structure Vs(key:List Int)(ad:List (List Int))(s:List Int):Prop where
 k:key.length<Nw
 kb:Bs key
 a:ad.length<Nw
 al: ∀t∈ad,t.length<Nw
 s:s.length<Nw
theorem UR(key:List Int)(ad:List (List Int)):Sr key ad=Ru (key,ad,[],[]):=by
 show _=if key.length≠32/\key.length≠64 then 13 else if ad.length>126 then 18 else 0
 unfold Sr;by_cases h:key.length=32\/key.length=64
 ·rw[if_pos h,if_neg (show ¬(key.length≠32/\key.length≠64) by omega)];by_cases h2:ad.length>=127
  ·rw[if_pos h2,if_pos (show ad.length>126 by omega)]
  ·rw[if_neg h2,if_neg (show ¬ad.length>126 by omega)]
 ·rw[if_neg h,if_pos (show key.length≠32/\key.length≠64 by omega)]
theorem aaJ{xs:List KK}(h:xs.length<2048):NY.run .lim (xs,())=some xs:=by
 simp only[NY.run];rw[cond_pos (MV (by simp;omega)),ahI]
theorem aa2(xs:List KK)(key:List Int)(ad:List (List Int))(plain:List Int)(b:Bool)(hx:xs.length<Nw)(hok: ∀k∈xs,Zt k)(ha:ad.length<Nw):
  Pm.l0 .lim (xs,(xs.length:Int),0,key,ad,plain,[],xs,b,xs,false,())=match (aho xs.length).find? (fun j:Nat=>U3 (rd k0 xs (j:Int)) (key,ad,plain,[]))with
   |some k=>some (.inl ((k:Int),xs,key,ad,plain,[],b,xs,false,()))
   |none=>some (.inr (xs,key,ad,plain,[],b,xs,false,())):=by
 have UH:xs.length<9223372036854775808:=hx;have e:=Qq (f:=Pm.l0 .lim) (fun k=>(xs,(xs.length:Int),(k:Int),key,ad,plain,[],xs,b,xs,false,())) xs.length (fun j:Nat=>U3 (rd k0 xs (j:Int)) (key,ad,plain,[])) (fun k=>some (.inl ((k:Int),xs,key,ad,plain,[],b,xs,false,()))) (fun k hk=>by
  rw[Pm.q0];have hm:Zt (rd k0 xs k):=hok _ (Ol (by omega) (by omega));simp only[Pm.b0,abp (rd k0 xs k) (key,ad,plain,[]) hm.2.1 ha,wk k (by omega),MV (show (k:Int)<(xs.length:Int) by omega),Nj (show (0:Int)<=k by omega) (show (k:Int)<(xs.length:Int) by omega),cond_true,ag3])
 rw[show ((0:Nat):Int)=0 from rfl]at e;rw[e];cases (aho xs.length).find? (fun j:Nat=>U3 (rd k0 xs (j:Int)) (key,ad,plain,[]))with
 |some k=>rfl
 |none=>
  simp only;rw[Pm.q0];simp only[Pm.b0,M_ (show ¬(xs.length:Int)<(xs.length:Int) by omega),cond_false]
theorem aav{v:VV}(hv:okV v)(hf:Pq v=true){key:List Int}{ad:List (List Int)}{plain:List Int}(T:Vs key ad plain):
  Pm.run .lim (v,key,ad,plain,())=some ((NZ v key ad plain).1,(NZ v key ad plain).2.1,(NZ v key ad plain).2.2,()):=by
 obtain⟨b,xs⟩:=v;have hx:xs.length<Nw:=hv.1;have hp63:plain.length<9223372036854775808:=T.s;have UH:xs.length<9223372036854775808:=hx;unfold NZ;cases b with
 |false=>
  have hn:xs=[]:=by
   unfold Pq at hf;simpa using hf
  subst hn;have hs:=aci T.k T.kb T.a T.al T.s;simp only[Pm.run,QJ.run,hs,ag3,cond_false];unfold TF;by_cases h0:Sr key ad=0
  ·rw[if_pos h0];by_cases h1:plain.length>65536
   ·rw[if_pos h1];rfl
   ·rw[if_neg h1];rfl
  ·rw[if_neg h0,M_ h0];rfl
 |true=>
  have hr:=Xj (key,ad,plain,[]) T.k T.a;rw[Yr]at hr;have hf':=aa2 xs key ad plain true hx hv.2 T.a;simp only[Pm.run,hr,ag3,Nh hp63,Nh UH,cond_true,hf'];unfold Sm Sj;by_cases h0:Ru (key,ad,[],[])=0
  ·rw[MV h0,if_pos h0];simp only[ag4,cond_false];by_cases h1:plain.length>65536
   ·rw[MV (show (plain.length:Int)>65536 by omega),if_pos h1,if_neg (by decide)];rfl
   ·rw[M_ (show ¬(plain.length:Int)>65536 by omega),if_neg h1,if_pos rfl];simp only[cond_false];cases hq:(aho xs.length).find? (fun j:Nat=>U3 (rd k0 xs (j:Int)) (key,ad,plain,[]))with
    |some k=>
     have hk:k<xs.length:=ahv.1 (ahE hq);simp only[ag3];rw[cond_pos (MV (by omega)),cond_pos (Nj (by omega) (by omega))]
    |none=>
     simp only[ag3,Nh UH,cond_true];by_cases h2:xs.length>=2048
     ·rw[MV (show (xs.length:Int)>=2048 by omega),if_pos h2];rfl
     ·rw[M_ (show ¬(xs.length:Int)>=2048 by omega),if_neg h2];have aeG:ad.length<=126:=by
       have:=Tc (key:=key) (ad:=ad) (by rw[UR];exact h0);omega
      have w1:ahe.wrap ((xs.length:Int)+1)=(xs.length:Int)+1:=wrap64 (by omega) (by omega);simp only[cond_false,WT (show ad.length<4398046511104 by omega),ag3,w1,number_eq ((xs.length:Int)+1) plain (by omega) (by omega) (by omega),aaJ (show xs.length<2048 by omega)];rw[cond_pos (MV (by simp;omega))]
  ·rw[M_ h0,if_neg h0,if_neg h0];rfl
theorem Z4(xs:List KK)(key:List Int)(ad:List (List Int))(plain:List Int)(hx:xs.length<Nw)(hok: ∀k∈xs,Zt k)(ha:ad.length<Nw):
  NU.l0 .lim (plain,0,true,xs,false,key,plain,[],ad,())=match (aho xs.length).find? (fun j:Nat=>U3 (rd k0 xs (j:Int)) (key,ad,plain,[]))with
   |some k=>some (.inl ((rd k0 xs (k:Int)).2.2.2,0,true,xs,()))
   |none=>some (.inr (plain,true,xs,false,key,plain,[],ad,())):=by
 have UH:xs.length<9223372036854775808:=hx;have e:=Qq (f:=NU.l0 .lim) (fun k=>(plain,(k:Int),true,xs,false,key,plain,[],ad,())) xs.length (fun j:Nat=>U3 (rd k0 xs (j:Int)) (key,ad,plain,[])) (fun k=>some (.inl ((rd k0 xs (k:Int)).2.2.2,0,true,xs,()))) (fun k hk=>by
  rw[NU.q0];have hm:Zt (rd k0 xs k):=hok _ (Ol (by omega) (by omega));have hr:=X0 (key,ad,plain,[]) (rd k0 xs k) ha hm.2.1;rw[YJ]at hr;simp only[NU.b0,Nh UH,hr,wk k (by omega),MV (show (k:Int)<(xs.length:Int) by omega),Nj (show (0:Int)<=k by omega) (show (k:Int)<(xs.length:Int) by omega),cond_true,ag3])
 rw[show ((0:Nat):Int)=0 from rfl]at e;rw[e];cases (aho xs.length).find? (fun j:Nat=>U3 (rd k0 xs (j:Int)) (key,ad,plain,[]))with
 |some k=>rfl
 |none=>
  simp only;rw[NU.q0];simp only[NU.b0,Nh UH,M_ (show ¬(xs.length:Int)<(xs.length:Int) by omega),cond_false,cond_true]
theorem Vj{key:List Int}{ad:List (List Int)}(hk:key.length<Nw)(ha:ad.length<Nw)(n:Nat):OX.run .lim (key,ad,(n:Int),())=some (Sj key ad n):=by
 have Xb:key.length<9223372036854775808:=hk;have abA:ad.length<9223372036854775808:=ha;unfold Sj Ru;simp only[OX.run,Nh Xb,Nh abA,cond_true,aha];by_cases h1:key.length≠32/\key.length≠64
 ·rw[if_pos h1,M_ (show ¬(key.length:Int)=32 by omega),M_ (show ¬(key.length:Int)=64 by omega)];rfl
 ·rw[if_neg h1];have:(!decide ((key.length:Int)=32)&& !decide ((key.length:Int)=64))=false:=by
   by_cases h:key.length=32
   ·rw[MV (show (key.length:Int)=32 by omega)];rfl
   ·rw[MV (show (key.length:Int)=64 by omega),ag4,ag9]
  rw[this];by_cases h2:ad.length>126
  ·rw[MV (show (ad.length:Int)>126 by omega),if_pos h2];rfl
  ·rw[M_ (show ¬(ad.length:Int)>126 by omega),if_neg h2,if_pos rfl];by_cases h3:n>65536
   ·rw[MV (show (n:Int)>65536 by omega),if_pos h3];rfl
   ·rw[M_ (show ¬(n:Int)>65536 by omega),if_neg h3];rfl
theorem X7{v:VV}(hv:okV v){key:List Int}{ad:List (List Int)}{plain:List Int}(T:Vs key ad plain):
  NU.run .lim (v,key,ad,plain,())=some ((NZ v key ad plain).1,(NZ v key ad plain).2.1,(NZ v key ad plain).2.2,()):=by
 obtain⟨b,xs⟩:=v;have hx:xs.length<Nw:=hv.1;have hp63:plain.length<9223372036854775808:=T.s;have UH:xs.length<9223372036854775808:=hx;unfold NZ;cases b with
 |false=>
  have hs:=ab7 T.k T.kb T.a T.al T.s;simp only[NU.run,hs,ag3,cond_false,ag7,cond_true]
 |true=>
  have hr:=Vj T.k T.a plain.length;have hf':=Z4 xs key ad plain hx hv.2 T.a;simp only[NU.run,hr,ag3,Nh hp63,Nh UH,cond_true,cond_false,ag4,hf'];unfold Sm;by_cases h0:Sj key ad plain.length=0
  ·rw[MV h0,if_pos h0];have h00:Ru (key,ad,[],[])=0/\plain.length<=65536:=by
    unfold Sj at h0;split at h0
    ·split at h0
     ·exact absurd h0 (by decide)
     ·exact⟨by assumption,by omega⟩
    ·exact absurd h0 (by assumption)
   have aeG:ad.length<=126:=by
    have:=Tc (key:=key) (ad:=ad) (by rw[UR];exact h00.1);omega
   simp only[ag4,cond_false];rw[cond_pos (MV (show ad.length<4398046511104 by omega))];cases hq:(aho xs.length).find? (fun j:Nat=>U3 (rd k0 xs (j:Int)) (key,ad,plain,[]))with
   |some k=>rfl
   |none=>
    simp only[ag3,Nh UH,cond_true];by_cases h2:xs.length>=2048
    ·rw[MV (show (xs.length:Int)>=2048 by omega),if_pos h2];rfl
    ·rw[M_ (show ¬(xs.length:Int)>=2048 by omega),if_neg h2];have w1:ahe.wrap ((xs.length:Int)+1)=(xs.length:Int)+1:=wrap64 (by omega) (by omega);simp only[cond_false,w1,Zc ((xs.length:Int)+1) plain (by omega) (by omega) (by omega),ag3];rw[cond_pos (MV (by omega)),cond_pos (MV (by simp;omega))]
  ·rw[M_ h0,if_neg h0];rfl
theorem ZT(xs:List KK)(key:List Int)(ad:List (List Int))(t:List Int)(hx:xs.length<Nw)(hok: ∀k∈xs,Zt k)(ha:ad.length<Nw):
  O1.l0 .lim (xs,(xs.length:Int),0,key,ad,[],t,xs,())=match (aho xs.length).find? (fun j:Nat=>hit key ad t (rd k0 xs (j:Int)))with
   |some k=>some (.inl ((k:Int),xs,()))
   |none=>some (.inr (xs,())):=by
 have UH:xs.length<9223372036854775808:=hx;have e:=Qq (f:=O1.l0 .lim) (fun k=>(xs,(xs.length:Int),(k:Int),key,ad,[],t,xs,())) xs.length (fun j:Nat=>hit key ad t (rd k0 xs (j:Int))) (fun k=>some (.inl ((k:Int),xs,()))) (fun k hk=>by
  rw[O1.q0];have hm:Zt (rd k0 xs k):=hok _ (Ol (by omega) (by omega));simp only[O1.b0,YR _ _ hm.2.1 ha,wk k (by omega),MV (show (k:Int)<(xs.length:Int) by omega),Nj (show (0:Int)<=k by omega) (show (k:Int)<xs.length by omega)];unfold hit;cases decide ((rd k0 xs k).2.2.2=t)&&decide ((rd k0 xs k).1=key)<;>simp only[cond_true,cond_false,ag3,ag6,aha,ahh,ahg,ahc,ag9,ag_,ahf,ahb,ag4,ag7,ahj,ahd,ahi])
 rw[show ((0:Nat):Int)=0 from rfl]at e;rw[e];cases (aho xs.length).find? (fun j:Nat=>hit key ad t (rd k0 xs (j:Int)))with
 |some k=>rfl
 |none=>
  simp only;rw[O1.q0];simp only[O1.b0,M_ (show ¬(xs.length:Int)<(xs.length:Int) by omega),cond_false]
theorem ZY(xs:List KK)(key:List Int)(ad:List (List Int))(t:List Int)(hx:xs.length<Nw)(hok: ∀k∈xs,Zt k)(ha:ad.length<Nw):
  NR.l0 .lim (key,ad,t,0,true,xs,())=match (aho xs.length).find? (fun j:Nat=>hit key ad t (rd k0 xs (j:Int)))with
   |some k=>some (.inl ((rd k0 xs (k:Int)).2.2.1,0,()))
   |none=>some (.inr (())):=by
 have UH:xs.length<9223372036854775808:=hx;have e:=Qq (f:=NR.l0 .lim) (fun k=>(key,ad,t,(k:Int),true,xs,())) xs.length (fun j:Nat=>hit key ad t (rd k0 xs (j:Int))) (fun k=>some (.inl ((rd k0 xs (k:Int)).2.2.1,0,()))) (fun k hk=>by
  rw[NR.q0];have hm:Zt (rd k0 xs k):=hok _ (Ol (by omega) (by omega));simp only[NR.b0,Nh UH,texts_eq _ _ hm.2.1 ha,wk k (by omega),MV (show (k:Int)<(xs.length:Int) by omega),Nj (show (0:Int)<=k by omega) (show (k:Int)<xs.length by omega)];unfold hit;cases decide ((rd k0 xs k).2.2.2=t)&&decide ((rd k0 xs k).1=key)<;>simp only[cond_true,cond_false,ag3,ag6,aha,ahh,ahg,ahc,ag9,ag_,ahf,ahb,ag4,ag7,ahj,ahd,ahi])
 rw[show ((0:Nat):Int)=0 from rfl]at e;rw[e];cases (aho xs.length).find? (fun j:Nat=>hit key ad t (rd k0 xs (j:Int)))with
 |some k=>rfl
 |none=>
  simp only;rw[NR.q0];simp only[NR.b0,Nh UH,cond_true,M_ (show ¬(xs.length:Int)<(xs.length:Int) by omega),cond_false]
theorem Xf{v:VV}(hv:okV v){key:List Int}{ad:List (List Int)}{t:List Int}(T:Vs key ad t)(htb:Bs t):
  O1.run .lim (v,key,ad,t,())=some ((O9 v key ad t).1,(O9 v key ad t).2,()):=by
 obtain⟨b,xs⟩:=v;have hx:xs.length<Nw:=hv.1;have hp63:t.length<9223372036854775808:=T.s;have UH:xs.length<9223372036854775808:=hx;unfold O9;cases b with
 |false=>
  have hs:=acg T.k T.kb T.a T.al T.s htb;simp only[O1.run,QI.run,hs,ag3,cond_false]
 |true=>
  have hr:=Xj (key,ad,[],t) T.k T.a;rw[Yr]at hr;have hf':=ZT xs key ad t hx hv.2 T.a;simp only[O1.run,hr,ag3,Nh hp63,Nh UH,cond_true,hf'];unfold VA;by_cases h0:Ru (key,ad,[],[])=0
  ·rw[MV h0,if_pos h0];simp only[ag4,cond_false];by_cases h1:t.length<16
   ·rw[MV (show (t.length:Int)<16 by omega),if_pos h1];rfl
   ·rw[M_ (show ¬(t.length:Int)<16 by omega),if_neg h1];by_cases h2:t.length>65552
    ·rw[MV (show (t.length:Int)>65552 by omega),if_pos h2];rfl
    ·rw[M_ (show ¬(t.length:Int)>65552 by omega),if_neg h2];simp only[cond_false];cases hq:(aho xs.length).find? (fun j:Nat=>hit key ad t (rd k0 xs (j:Int)))with
     |some k=>
      have hk:k<xs.length:=ahv.1 (ahE hq);simp only[ag3];rw[cond_neg (M_ (by omega)),cond_pos (Nj (by omega) (by omega))]
     |none=>rfl
  ·rw[M_ h0,if_neg h0];rfl
theorem X6{v:VV}(hv:okV v){key:List Int}{ad:List (List Int)}{t:List Int}(T:Vs key ad t):
  NR.run .lim (v,key,ad,t,())=some ((O9 v key ad t).1,(O9 v key ad t).2,()):=by
 obtain⟨b,xs⟩:=v;have hx:xs.length<Nw:=hv.1;have hp63:t.length<9223372036854775808:=T.s;have UH:xs.length<9223372036854775808:=hx;unfold O9;cases b with
 |false=>
  have hs:=ab5 T.k T.kb T.a T.al T.s;simp only[NR.run,hs,ag3,cond_false,ag7,cond_true]
 |true=>
  have hr:=Vj T.k T.a 0;have h00:Sj key ad 0=Ru (key,ad,[],[]):=by
   unfold Sj;by_cases h:Ru (key,ad,[],[])=0
   ·rw[if_pos h,if_neg (by omega),h]
   ·rw[if_neg h]
  rw[h00,show ((0:Nat):Int)=0 from rfl]at hr;have hf':=ZY xs key ad t hx hv.2 T.a;simp only[NR.run,hr,ag3,Nh hp63,Nh UH,cond_true,cond_false,ag4,hf'];unfold VA;by_cases h0:Ru (key,ad,[],[])=0
  ·rw[MV h0,if_pos h0];simp only[ag4,cond_false];by_cases h1:t.length<16
   ·rw[MV (show (t.length:Int)<16 by omega),if_pos h1];rfl
   ·rw[M_ (show ¬(t.length:Int)<16 by omega),if_neg h1];by_cases h2:t.length>65552
    ·rw[MV (show (t.length:Int)>65552 by omega),if_pos h2];rfl
    ·rw[M_ (show ¬(t.length:Int)>65552 by omega),if_neg h2];simp only[cond_false];cases hq:(aho xs.length).find? (fun j:Nat=>hit key ad t (rd k0 xs (j:Int)))with
     |some k=>rfl
     |none=>rfl
  ·rw[M_ h0,if_neg h0];rfl
end Go.AM
end
section
namespace Go.AM
theorem acV{key:List Int}{ad:List (List Int)}{plain:List Int}(T:Vs key ad plain)(hp:plain.length<=65536)(n:Int):Zt (key,ad,plain,txt n plain):=
 ⟨T.k,T.a,T.al,T.s,by simp only[txt,TU,ag5,ahV,ah4,ahz];omega⟩
theorem Vq{key:List Int}{ad:List (List Int)}{n:Nat}(h0:Sj key ad n=0):Ru (key,ad,[],[])=0/\n<=65536:=by
 unfold Sj at h0;split at h0
 ·split at h0
  ·exact absurd h0 (by decide)
  ·exact⟨by assumption,by omega⟩
 ·exact absurd h0 (by assumption)
theorem Rf(xs:List KK)(key:List Int)(ad:List (List Int))(plain:List Int):
  ((Sm xs key ad plain).2.2≠0/\(Sm xs key ad plain).1=xs/\(Sm xs key ad plain).2.1=[])\/
  (Sj key ad plain.length=0/\(∃k,k<xs.length/\U3 (rd k0 xs (k:Int)) (key,ad,plain,[])=true/\Sm xs key ad plain=(xs,(rd k0 xs (k:Int)).2.2.2,0)))\/
  (Sj key ad plain.length=0/\xs.length<2048/\(∀k,k<xs.length->U3 (rd k0 xs (k:Int)) (key,ad,plain,[])=false)/\Sm xs key ad plain=(xs++[(key,ad,plain,txt (xs.length+1) plain)],txt (xs.length+1) plain,0)):=by
 unfold Sm;by_cases h0:Sj key ad plain.length=0
 ·rw[if_pos h0];cases hq:(aho xs.length).find? (fun j:Nat=>U3 (rd k0 xs (j:Int)) (key,ad,plain,[]))with
  |some k=>exact .inr (.inl ⟨h0,k,ahv.1 (ahE hq),by simpa using aie hq,rfl⟩)
  |none=>
   simp only;by_cases h2:xs.length>=2048
   ·rw[if_pos h2];exact .inl ⟨show (18:Int)≠0 by decide,rfl,rfl⟩
   ·rw[if_neg h2];refine .inr (.inr ⟨h0,by omega,fun k hk=> ?_,rfl⟩);have:=ah1.1 hq k (ahv.2 hk);simpa using this
 ·rw[if_neg h0];exact .inl ⟨h0,rfl,rfl⟩
theorem Y5{v:VV}(hv:okV v){key:List Int}{ad:List (List Int)}{plain:List Int}(T:Vs key ad plain):okV (NZ v key ad plain).1:=by
 obtain⟨b,xs⟩:=v;unfold NZ;cases b with
 |false=>exact hv
 |true=>
  simp only[cond_true];rcases Rf xs key ad plain with⟨_,h,_⟩|⟨_,k,_,_,h⟩|⟨h0,h1,_,h⟩
  ·rw[h];exact hv
  ·rw[h];exact hv
  ·rw[h];refine⟨by simp;omega,fun q hq=> ?_⟩;rcases ahu.1 hq with hq|hq
   ·exact hv.2 q hq
   ·rw[ahx.1 hq];exact acV T (Vq h0).2 _
theorem Yk{xs:List KK}(h:Pq (true,xs)=true):xs.length<=2048/\ ∀i,i<xs.length->XD xs i=false:=by
 unfold Pq at h;simp only[cond_true,ahr,decide_eq_true_eq,ahM,ah3,ahv]at h;exact⟨h.1,fun i hi=>by simpa using h.2 i hi⟩
theorem abt{xs:List KK}{q:KK}{i:Nat}(hi:i<xs.length):XD (xs++[q]) i=XD xs i:=by
 unfold XD;rw[VT hi,any_congr (d:=fun j=>U3 (rd k0 xs (j:Int)) (rd k0 xs (i:Int))) fun j hj=>by rw[VT (by omega)]]
theorem aak{α:Type}{d:α}{xs:List α}{q:α}:rd d (xs++[q]) (xs.length:Int)=q:=by rw[Qz (by simp)];simp
theorem Uc{v:VV}(hf:Pq v=true)(key:List Int)(ad:List (List Int))(plain:List Int):Pq (NZ v key ad plain).1=true:=by
 obtain⟨b,xs⟩:=v;unfold NZ;cases b with
 |false=>exact hf
 |true=>
  simp only[cond_true];obtain⟨f1,f2⟩:=Yk hf;rcases Rf xs key ad plain with⟨_,h,_⟩|⟨_,k,_,_,h⟩|⟨h0,h1,h2,h⟩
  ·rw[h];exact hf
  ·rw[h];exact hf
  ·rw[h];obtain⟨g1,g2⟩:=Vq h0;unfold Pq;simp only[cond_true,ahr,decide_eq_true_eq,ahM,ah3,ahv,ag5,List.length_singleton];refine⟨by omega,fun i hi=> ?_⟩;by_cases hl:i<xs.length
   ·rw[abt hl,f2 i hl];simp
   ·obtain rfl:i=xs.length:=by omega
    unfold XD;rw[aak];rw[any_congr (d:=fun _=>false) fun j hj=>by
     rw[VT hj];have:=h2 j hj;unfold U3 at this ⊢
     exact this]
    rw[Yr,g1,MV rfl,M_ (show ¬plain.length>65536 by omega),MV rfl];simp
theorem aaI(n:Int)(k:Nat):0<=byteOf n k/\byteOf n k<256:=by unfold byteOf;omega
theorem adh{a b:Nat}(ha:a<65536)(hb:b<65536){p q:List Int}(h:txt (a:Int) p=txt (b:Int) q):a=b/\p.length=q.length:=by
 have h1:TU (a:Int)=TU (b:Int)/\p.length=q.length:=by
  unfold txt at h;have hl:=congrArg ahU h;simp only[ag5,ahz,TU,ahV,ah4]at hl;exact⟨(List.append_inj h (by simp[TU])).1,by omega⟩
 refine⟨?_,h1.2⟩;have e:=h1.1;unfold TU at e;have e1:=(ail.1 e) 15 (by simp);have e2:=(ail.1 e) 14 (by simp);unfold byteOf at e1 e2;simp only[aiD,aiA,aiz]at e1;simp only[show 15-14=1 from rfl,Int.pow_one]at e2;omega
theorem Xa{xs:List KK}(h:Pq (true,xs)=true){i:Nat}(hi:i<xs.length):(rd k0 xs (i:Int)).2.2.2=txt ((i+1:Nat):Int) (rd k0 xs (i:Int)).2.2.1/\(rd k0 xs (i:Int)).2.2.1.length<=65536:=by
 have:=(Yk h).2 i hi;unfold XD at this;simp only[Bool.or_eq_false_iff,Bool.not_eq_false',decide_eq_true_eq,decide_eq_false_iff_not]at this;exact⟨by rw[this.1.2];congr 1,by omega⟩
theorem Yz(n:Int)(p:List Int):(txt n p).length=p.length+16:=by simp[txt,TU];omega
theorem ae9(n:Int)(p:List Int):Bs (txt n p):=fun x hx=>by
 unfold txt at hx;rcases ahu.1 hx with h|h
 ·obtain⟨i,_,rfl⟩:=ain.1 h;exact aaI _ _
 ·rw[(ah2.1 h).2];exact⟨by decide,by decide⟩
theorem abz{xs:List KK}(h:Pq (true,xs)=true){key:List Int}{ad:List (List Int)}{plain:List Int}{k:Nat}(hk:k<xs.length)(ha:U3 (rd k0 xs (k:Int)) (key,ad,plain,[])=true):
  (aho xs.length).find? (fun j:Nat=>hit key ad (rd k0 xs (k:Int)).2.2.2 (rd k0 xs (j:Int)))=some k:=by
 have hl:=(Yk h).1;rw[ahN];unfold U3 at ha;simp only[ahr,decide_eq_true_eq]at ha;refine⟨?_,ahv.2 hk,fun j hj=> ?_⟩
 ·unfold hit;rw[MV rfl,MV ha.1.1,MV ha.2];rfl
 ·unfold hit;rw[M_]
  ·simp
  ·intro q;rw[(Xa h (show j<xs.length by omega)).1,(Xa h hk).1]at q;have:=(adh (by omega) (by omega) q).1;omega
theorem abW{xs:List KK}(h:Pq (true,xs)=true){key:List Int}{ad:List (List Int)}{plain:List Int}{k:Nat}(hk:k<xs.length)(ha:U3 (rd k0 xs (k:Int)) (key,ad,plain,[])=true)(h0:Ru (key,ad,[],[])=0)(hp:plain.length<=65536):
  VA xs key ad (rd k0 xs (k:Int)).2.2.2=(plain,0):=by
 have hf:=abz h hk ha;have ht:=(Xa h hk).1;have hpl:(rd k0 xs (k:Int)).2.2.1=plain:=by
  unfold U3 at ha;simp only[ahr,decide_eq_true_eq]at ha;exact ha.1.2
 have hl:(rd k0 xs (k:Int)).2.2.2.length=plain.length+16:=by rw[ht,Yz,hpl]
 unfold VA;rw[if_pos h0,if_neg (by omega),if_neg (by omega),hf];simp only[hpl]
end Go.AM
end
section
namespace Go.AM
def vB(v:VV):Prop:= ∀k∈v.2,Bs k.2.2.1
def Ext(v w:VV):Prop:=v.1=w.1/\ ∃l,w.2=v.2++l
theorem Ext.rfl'(v:VV):Ext v v:=⟨rfl,[],by simp⟩
theorem Ext.trans{u v w:VV}(a:Ext u v)(b:Ext v w):Ext u w:=by
 obtain⟨l,hl⟩:=a.2;obtain⟨m,hm⟩:=b.2;exact⟨a.1.trans b.1,l++m,by rw[hm,hl,ahs]⟩
theorem WX(v:VV)(key:List Int)(ad:List (List Int))(s:List Int):Ext v (NZ v key ad s).1:=by
 obtain⟨b,xs⟩:=v;cases b with
 |false=>exact Ext.rfl' _
 |true=>
  simp only[NZ,cond_true];rcases Rf xs key ad s with⟨_,h,_⟩|⟨_,_,_,_,h⟩|⟨_,_,_,h⟩
  ·rw[h];exact Ext.rfl' _
  ·rw[h];exact Ext.rfl' _
  ·rw[h];exact⟨rfl,_,rfl⟩
theorem aaw{v:VV}{key:List Int}{ad:List (List Int)}{s:List Int}(he:(NZ v key ad s).2.2≠0):(NZ v key ad s).1=v/\(NZ v key ad s).2.1=[]:=by
 obtain⟨b,xs⟩:=v;cases b with
 |false=>
  refine⟨rfl,?_⟩;simp only[NZ,cond_false]at he ⊢
  unfold TF at he ⊢
  by_cases h:Sr key ad=0
  ·rw[if_pos h]at he ⊢
   by_cases h':s.length>65536
   ·rw[if_pos h']
   ·rw[if_neg h']at he;exact absurd rfl he
  ·rw[if_neg h]
 |true=>
  simp only[NZ,cond_true]at he ⊢
  rcases Rf xs key ad s with⟨_,h,h'⟩|⟨_,_,_,_,h⟩|⟨_,_,_,h⟩
  ·rw[h,h'];exact⟨rfl,rfl⟩
  ·rw[h]at he;exact absurd rfl he
  ·rw[h]at he;exact absurd rfl he
theorem Xr{xs:List KK}{key:List Int}{ad:List (List Int)}{s:List Int}(hf:Pq (true,xs)=true)(he:(Sm xs key ad s).2.2=0):
  Sj key ad s.length=0/\ ∃k,k<(Sm xs key ad s).1.length/\rd k0 (Sm xs key ad s).1 (k:Int)=(key,ad,s,(Sm xs key ad s).2.1):=by
 rcases Rf xs key ad s with⟨h,_,_⟩|⟨h0,k,hk,ha,h⟩|⟨h0,h1,h2,h⟩
 ·exact absurd he h
 ·rw[h];refine⟨h0,k,hk,?_⟩;unfold U3 at ha;simp only[ahr,decide_eq_true_eq]at ha;obtain⟨⟨a1,a2⟩,a3⟩:=ha;rw[<-a1,<-a2,<-a3]
 ·rw[h];exact⟨h0,xs.length,by simp,aak⟩
theorem abq(key:List Int)(ad:List (List Int))(s t:List Int):U3 (key,ad,s,t) (key,ad,s,[])=true:=by unfold U3;simp
theorem Uh{v:VV}{key:List Int}{ad:List (List Int)}{s:List Int}(hf:Pq v=true)(he:(NZ v key ad s).2.2=0):
  Ru (key,ad,[],[])=0/\s.length<=65536/\(NZ v key ad s).2.1.length=s.length+16/\Bs (NZ v key ad s).2.1:=by
 have hfw:=Uc hf key ad s;obtain⟨b,xs⟩:=v;cases b with
 |false=>
  simp only[NZ,cond_false]at he ⊢
  have h0:Sr key ad=0/\s.length<=65536:=by
   unfold TF at he;by_cases h:Sr key ad=0
   ·rw[if_pos h]at he;by_cases h':s.length>65536
    ·rw[if_pos h']at he;exact absurd he (by decide)
    ·exact⟨h,by omega⟩
   ·rw[if_neg h]at he;exact absurd he h
  have hr:TF key ad s=(TG key ad s,0):=by unfold TF;rw[if_pos h0.1,if_neg (by omega)]
  rw[hr];exact⟨by rw[<-UR];exact h0.1,h0.2,aa1 _ _ _,ac7 _ _ _⟩
 |true=>
  simp only[NZ,cond_true]at he hfw ⊢
  obtain⟨h0,k,hk,e⟩:=Xr hf he;obtain⟨g1,g2⟩:=Vq h0;have ht:=(Xa hfw hk).1;rw[e]at ht;simp only at ht;refine⟨g1,g2,by rw[ht,Yz],by rw[ht];exact ae9 _ _⟩
theorem Ya{v w:VV}{key:List Int}{ad:List (List Int)}{s:List Int}(hf:Pq v=true)(he:(NZ v key ad s).2.2=0)(hsb:Bs s)(x:Ext (NZ v key ad s).1 w)(hw:Pq w=true):
  O9 w key ad (NZ v key ad s).2.1=(s,0):=by
 obtain⟨g1,g2,_,_⟩:=Uh hf he;obtain⟨b,xs⟩:=v;obtain⟨b',ys⟩:=w;obtain⟨x1,l,x2⟩:=x;cases b with
 |false=>
  simp only[NZ,cond_false]at he x1 x2 ⊢
  subst x1;have h0:Sr key ad=0:=by rw[UR];exact g1
  have hr:TF key ad s=(TG key ad s,0):=by unfold TF;rw[if_pos h0,if_neg (by omega)]
  rw[hr];exact aaT h0 g2 hsb
 |true=>
  simp only[NZ,cond_true]at he x1 x2 ⊢
  subst x1;subst x2;obtain⟨h0,k,hk,e⟩:=Xr hf he;have e':rd k0 ((Sm xs key ad s).1++l) (k:Int)=(key,ad,s,(Sm xs key ad s).2.1):=by rw[<-e];exact VT hk
  have:=abW hw (k:=k) (key:=key) (ad:=ad) (plain:=s) (by simp;omega) (by rw[e'];exact abq _ _ _ _) g1 g2;rw[e']at this;exact this
theorem ZR{xs:List KK}{key:List Int}{ad:List (List Int)}{t:List Int}(h:(VA xs key ad t).2=0):
  ∃k,k<xs.length/\rd k0 xs (k:Int)=(key,ad,(VA xs key ad t).1,t):=by
 unfold VA at h ⊢
 by_cases h0:Ru (key,ad,[],[])=0
 ·rw[if_pos h0]at h ⊢
  by_cases h1:t.length<16
  ·rw[if_pos h1]at h;exact absurd h (by decide)
  ·rw[if_neg h1]at h ⊢
   by_cases h2:t.length>65552
   ·rw[if_pos h2]at h;exact absurd h (by decide)
   ·rw[if_neg h2]at h ⊢
    cases hq:(aho xs.length).find? (fun j:Nat=>hit key ad t (rd k0 xs (j:Int)))with
    |none=>rw[hq]at h;exact absurd h (show (17:Int)≠0 by decide)
    |some k=>
     have hh:hit key ad t (rd k0 xs (k:Int))=true:=by simpa using aie hq
     unfold hit at hh;simp only[ahr,decide_eq_true_eq]at hh;obtain⟨⟨a1,a2⟩,a3⟩:=hh;refine⟨k,ahv.1 (ahE hq),?_⟩;simp only;rw[<-a1,<-a2,<-a3]
 ·rw[if_neg h0]at h;exact absurd h h0
theorem UN{v:VV}{key:List Int}{ad:List (List Int)}{t:List Int}(hf:Pq v=true)(hb:vB v)(h:(O9 v key ad t).2=0):
  Ru (key,ad,[],[])=0/\(O9 v key ad t).1.length<=65536/\t.length=(O9 v key ad t).1.length+16/\Bs (O9 v key ad t).1:=by
 obtain⟨b,xs⟩:=v;cases b with
 |false=>
  simp only[O9,cond_false]at h ⊢
  unfold Vh at h ⊢
  by_cases h0:Sr key ad=0
  ·rw[if_pos h0]at h ⊢
   by_cases h1:t.length<16
   ·rw[if_pos h1]at h;exact absurd h (by decide)
   ·rw[if_neg h1]at h ⊢
    by_cases h2:t.length>65552
    ·rw[if_pos h2]at h;exact absurd h (by decide)
    ·rw[if_neg h2]at h ⊢
     split at h
     ·rename_i q;rw[if_pos q];have hl:(Q_ key t).length=t.length-16:=by unfold Q_;rw[RI,ahk]
      refine⟨by rw[<-UR];exact h0,by rw[hl];omega,by rw[hl];omega,?_⟩;unfold Q_;exact aaB _ _ _
     ·exact absurd h (by decide)
  ·rw[if_neg h0]at h;exact absurd h h0
 |true=>
  simp only[O9,cond_true]at h ⊢
  obtain⟨k,hk,e⟩:=ZR h;obtain⟨f1,f2⟩:=Xa hf hk;rw[e]at f1 f2;simp only at f1 f2;refine⟨?_,f2,(congrArg ahU f1).trans (Yz _ _),?_⟩
  ·unfold VA at h;by_cases h0:Ru (key,ad,[],[])=0
   ·exact h0
   ·rw[if_neg h0]at h;exact absurd h h0
  ·have:=hb (rd k0 xs (k:Int)) (Ol (by omega) (by show (k:Int)<(xs.length:Int);omega));rw[e]at this;exact this
theorem WI{v:VV}(hb:vB v){key:List Int}{ad:List (List Int)}{s:List Int}(hs:Bs s):vB (NZ v key ad s).1:=by
 obtain⟨b,xs⟩:=v;cases b with
 |false=>exact hb
 |true=>
  simp only[NZ,cond_true];rcases Rf xs key ad s with⟨_,h,_⟩|⟨_,_,_,_,h⟩|⟨_,_,_,h⟩
  ·rw[h];exact hb
  ·rw[h];exact hb
  ·rw[h];intro k hk;rcases ahu.1 hk with hk|hk
   ·exact hb k hk
   ·rw[ahx.1 hk];exact hs
theorem v_B{v:VV}(h:Ty.ok (.pair .bool (.lst (.pair .str (.pair (.lst .str) (.pair .str .str))))) v):vB v:=by
 obtain⟨_,h1,h2⟩:=h;intro k hk;obtain⟨a,⟨b1,b2⟩,c,d⟩:=h2 k hk;exact c.2
end Go.AM
end
section
namespace Go.AM
def findF(l:List FF)(kind:Int):List Int:=((aho l.length).filter fun k:Nat=>decide ((rd f0 l (k:Int)).1=kind)).map fun k:Nat=>(k:Int)
def Vf(l:List FF)(kind:Int)(n:Nat):List Int:=((aho n).filter fun k:Nat=>decide ((rd f0 l (k:Int)).1=kind)).map fun k:Nat=>(k:Int)
theorem VQ(l:List FF)(kind:Int)(n:Nat):(Vf l kind n).length<=n:=by
 unfold Vf;rw[ahV];exact aiB (List.length_filter_le _ _) (by simp)
theorem WY(l:List FF)(kind:Int)(n:Nat):Vf l kind (n+1)=if(rd f0 l (n:Int)).1=kind then Vf l kind n++[(n:Int)]else Vf l kind n:=by
 unfold Vf;rw[List.range_succ,List.filter_append,List.map_append];by_cases h:(rd f0 l (n:Int)).1=kind
 ·rw[if_pos h,ah7 (by simpa using h)];rfl
 ·rw[if_neg h,ah6 (by simpa using h)];simp
theorem VJ{l:List FF}(kind:Int)(hl:l.length<=140737488351232)(h2:l.length<8796093022208):OM.run .lim (l,kind,())=some (findF l kind):=by
 have e:=Oh (f:=OM.l0 .lim) (fun k=>(kind,l,(l.length:Int),(k:Int),Vf l kind k,())) (n:=l.length) (fun k hk=>by
  rw[OM.q0];have hn:=VQ l kind k;simp only[OM.b0,MV (show (k:Int)<(l.length:Int) by omega),Nj (show (0:Int)<=(k:Int) by omega) (show (k:Int)<(l.length:Int) by omega),cond_true,QU k (by omega),WY];by_cases h:(rd f0 l (k:Int)).1=kind
  ·rw[MV h,if_pos h];simp only[cond_true];rw[cond_pos (MV (show (Vf l kind k).length+[(k:Int)].length<8796093022208 by simp;omega))]
  ·rw[M_ h,if_neg h];rfl)
 have e0:OM.l0 .lim (kind,l,(l.length:Int),0,([]:List Int),())=_:=e;simp only[OM.run,Nh (show l.length<9223372036854775808 by omega),cond_true,e0];rw[OM.q0];simp only[OM.b0,M_ (show ¬(l.length:Int)<(l.length:Int) by omega),cond_false,ag3];rfl
theorem Xn{l:List FF}(kind:Int)(hl:l.length<=140737488351232)(h2:l.length<8796093022208):NJ.run .lim (l,kind,())=some (findF l kind):=by
 have e:=Oh (f:=NJ.l0 .lim) (fun k=>(l,kind,(k:Int),Vf l kind k,())) (n:=l.length) (fun k hk=>by
  rw[NJ.q0];have hn:=VQ l kind k;simp only[NJ.b0,Nh (show l.length<9223372036854775808 by omega),MV (show (k:Int)<(l.length:Int) by omega),Nj (show (0:Int)<=(k:Int) by omega) (show (k:Int)<(l.length:Int) by omega),cond_true,QU k (by omega),WY];by_cases h:(rd f0 l (k:Int)).1=kind
  ·rw[MV h,if_pos h];simp only[cond_true];rw[cond_pos (MV (show (Vf l kind k).length+[(k:Int)].length<8796093022208 by simp;omega))]
  ·rw[M_ h,if_neg h];rfl)
 have e0:NJ.l0 .lim (l,kind,0,([]:List Int),())=_:=e;simp only[NJ.run,e0];rw[NJ.q0];simp only[NJ.b0,Nh (show l.length<9223372036854775808 by omega),M_ (show ¬(l.length:Int)<(l.length:Int) by omega),cond_true,cond_false,ag3];rfl
def RG(l:List FF)(kind:Int):Option Nat:=(aho l.length).find? fun k:Nat=>decide ((rd f0 l (k:Int)).1=kind)
theorem V7{α:Type}(p:α->Bool): ∀l:List α,l.find? p=(l.filter p).head?
 |[]=>rfl
 |a::l=>by
  cases h:p a with
  |true=>rw[List.find?_cons_of_pos h,ah7 h];rfl
  |false=>rw[List.find?_cons_of_neg (by simp[h]),ah6 (by simp[h]),V7 p l]
theorem Q9(l:List FF)(kind:Int):(RG l kind=none/\findF l kind=[])\/ ∃k r,RG l kind=some k/\findF l kind=(k:Int)::r/\k<l.length/\(rd f0 l (k:Int)).1=kind:=by
 unfold RG findF;rw[V7];cases h:(aho l.length).filter (fun k:Nat=>decide ((rd f0 l (k:Int)).1=kind))with
 |nil=>exact .inl ⟨rfl,rfl⟩
 |cons k r=>
  have hm:k∈(aho l.length).filter (fun k:Nat=>decide ((rd f0 l (k:Int)).1=kind)):=by rw[h];exact .head _
  obtain⟨h1,h2⟩:=List.mem_filter.1 hm;exact .inr ⟨k,_,rfl,rfl,ahv.1 h1,by simpa using h2⟩
theorem QH(l:List FF)(kind:Int):(findF l kind).length<=l.length:=VQ l kind l.length
def PZ(l:List FF)(kind:Int):List Int×Int:=
 if(findF l kind).length=0 then([],19)else if(findF l kind).length=1 then((rd f0 l (rd 0 (findF l kind) 0)).2,0)else([],24)
theorem ZP{l:List FF}{kind:Int}(h:(findF l kind).length≠0):inB 0 ((findF l kind).length:Int)=true/\inB (rd 0 (findF l kind) 0) (l.length:Int)=true:=by
 refine⟨Nj (by omega) (by omega),?_⟩;rcases Q9 l kind with⟨_,q⟩|⟨k,r,_,q,hk,_⟩
 ·rw[q]at h;exact absurd rfl h
 ·rw[q];exact Nj (show (0:Int)<=(k:Int) by omega) (show (k:Int)<(l.length:Int) by omega)
theorem abV{l:List FF}(kind:Int)(hl:l.length<8796093022208):RP.run .lim (l,kind,())=some ((PZ l kind).1,(PZ l kind).2,()):=by
 have hn:=QH l kind;simp only[RP.run,VJ kind (by omega) hl,ag3,Nh (show (findF l kind).length<9223372036854775808 by omega),cond_true];unfold PZ;by_cases h0:(findF l kind).length=0
 ·rw[MV (show ((findF l kind).length:Int)=0 by omega),if_pos h0];rfl
 ·rw[M_ (show ¬((findF l kind).length:Int)=0 by omega),if_neg h0];obtain⟨i1,i2⟩:=ZP h0;by_cases h1:(findF l kind).length=1
  ·rw[MV (show ((findF l kind).length:Int)=1 by omega),if_pos h1];simp only[cond_true,cond_false,i1,i2]
  ·rw[M_ (show ¬((findF l kind).length:Int)=1 by omega),if_neg h1];rfl
theorem ac3{l:List FF}(kind:Int)(hl:l.length<8796093022208):PS.run .lim (l,kind,())=some ((PZ l kind).1,(PZ l kind).2,()):=by
 have hn:=QH l kind;simp only[PS.run,Xn kind (by omega) hl,ag3,Nh (show (findF l kind).length<9223372036854775808 by omega),cond_true];unfold PZ;by_cases h0:(findF l kind).length=0
 ·rw[MV (show ((findF l kind).length:Int)=0 by omega),if_pos h0];rfl
 ·rw[M_ (show ¬((findF l kind).length:Int)=0 by omega),if_neg h0];obtain⟨i1,i2⟩:=ZP h0;by_cases h1:(findF l kind).length=1
  ·rw[M_ (show ¬((findF l kind).length:Int)>1 by omega),if_pos h1];simp only[cond_true,cond_false,i1,i2]
  ·rw[MV (show ((findF l kind).length:Int)>1 by omega),if_neg h1];rfl
def Ry(n:Nat):Nat:=(4-n%4)%4
def SB(s:List Int):List Int:=s++ahm (Ry s.length) 0
theorem X4: ∀n,ES [0] n=ahm n (0:Int)
 |0=>rfl
 |n+1=>by rw[ES,X4 n];rfl
theorem aen(n:Int):Jc .i64 n 3=n%4:=by
 show ahe.wrap ((ahS 64 n &&& ahS 64 3).toNat:Int)=_;rw[BitVec.toNat_and,aik,show (ahS 64 3).toNat=2^2-1 from rfl,Nat.and_two_pow_sub_one_eq_mod];rw[wrap64 (by omega) (by omega)];omega
theorem XO{s:List Int}(h:s.length<4611686018427387904):QZ.run .lim (s,())=some (SB s):=by
 have w:ahe.wrap (0-(s.length:Int))= -(s.length:Int):=by rw[wrap64 (by omega) (by omega)];omega
 have e:Jc .i64 (-(s.length:Int)) 3=(Ry s.length:Int):=by rw[aen];unfold Ry;omega
 have hp:Ry s.length<4:=by unfold Ry;omega
 simp only[QZ.run,Nh (show s.length<9223372036854775808 by omega),cond_true,w,e];have hr:strings_Repeat.run .lim ([0],(Ry s.length:Int),())=some (ahm (Ry s.length) 0):=by
  show Ld ([0],(Ry s.length:Int),())=_;unfold Ld;simp only[ahq];rw[MV (show (0:Int)<=(Ry s.length:Int) by omega),Nat.ble_eq_true_of_le (show [(0:Int)].length*Ry s.length<=140737488355328 by simp;omega),X4];rfl
 simp only[hr,ag3];rw[cond_pos (MV (show s.length+(ahm (Ry s.length) (0:Int)).length<=maxStr by rw[ahz];unfold maxStr;omega))];rfl
theorem Yt: ∀(d:Nat) (s:List Int),s.length+d<4611686018427387904->Ry s.length=d->NW.l0 .lim (s,())=some (s++ahm d 0,()):=by
 intro d
 induction d with
 |zero=>
  intro s h hd;rw[NW.q0];have:(s.length:Int).tmod 4=0:=by rw[ahw (by omega)];unfold Ry at hd;omega
  simp only[NW.b0,Nh (show s.length<9223372036854775808 by omega),cond_true,MV this,ag4,cond_false,List.replicate_zero,List.append_nil]
 |succ d ih=>
  intro s h hd;rw[NW.q0];have: ¬(s.length:Int).tmod 4=0:=by rw[ahw (by omega)];unfold Ry at hd;omega
  simp only[NW.b0,Nh (show s.length<9223372036854775808 by omega),cond_true,M_ this,ag7];rw[cond_pos (MV (show s.length+[(0:Int)].length<=maxStr by simp;unfold maxStr;omega)),ih (s++[0]) (by simp;omega) (by unfold Ry at hd ⊢;simp;omega),ahs];rfl
theorem Xm{s:List Int}(h:s.length<4611686018427387900):NW.run .lim (s,())=some (SB s):=by
 have hp:Ry s.length<4:=by unfold Ry;omega
 simp only[NW.run,Yt _ s (by omega) rfl,ag3];rfl
def TN(b:List Int):Nat:=(rd 0 b 2*256+rd 0 b 3).toNat
def UZ(b:List Int):Prop:= ¬(rd 0 b 0*256+rd 0 b 1=16)\/b.length<20+TN b\/b.drop 20≠SB ((b.take (20+TN b)).drop 20)
open Classical in
noncomputable def UE(b:List Int):List Int×List Int×Int:=
 if b.length<4 then([],[],11)else if UZ b then([],[],10)else((b.take 20).drop 4,(b.take (20+TN b)).drop 20,0)
end Go.AM
end
section
namespace Go.AM
theorem Y_{b:List Int}(hb:Bs b){k:Nat}(h:k<b.length):B8 (rd 0 b (k:Int)):=hb _ (Ol (by omega) (by omega))
theorem aaj{α:Type}{d:α}{xs:List α}{n k:Nat}:rd d (xs.drop n) (k:Int)=rd d xs ((n+k:Nat):Int):=by unfold rd;rw[ahq,ahq,ahY,ahY,List.getElem?_drop]
theorem Rj{α:Type}{s:List α}{b:Nat}{j:Int}(hj:j=(b:Int)):cut s 0 j=s.take b:=by subst hj;rfl
theorem Zf{b:List Int}(hb:Bs b)(hl:b.length<1000000):RH.run .lim (b,())=some ((UE b).1,(UE b).2.1,(UE b).2.2,()):=by
 simp only[RH.run,Nh (show b.length<9223372036854775808 by omega),cond_true];have hc0:cut b 2 (b.length:Int)=b.drop 2:=SG (a:=2) rfl;have hc1:cut b 0 2=b.take 2:=Rj (b:=2) rfl;simp only[hc0,hc1];unfold UE;by_cases h2:b.length<2
 ·rw[MV (show (b.length:Int)<2 by omega),if_pos (by omega)];rfl
 rw[M_ (show ¬(b.length:Int)<2 by omega)];have l2:(b.drop 2).length=b.length-2:=ahk;have lt2:(b.take 2).length=2:=by rw[ahl];omega
 simp only[cond_false,Nq (show (0:Int)<=0 by omega) (show (0:Int)<=2 by omega) (show (2:Int)<=(b.length:Int) by omega),Nq (show (0:Int)<=2 by omega) (show (2:Int)<=(b.length:Int) by omega) (ahp _),cond_true,lt2,
  Nj (show (0:Int)<=0 by omega) (show (0:Int)<((2:Nat):Int) by omega),Nj (show (0:Int)<=1 by omega) (show (1:Int)<((2:Nat):Int) by omega),Nh (show (b.drop 2).length<9223372036854775808 by omega)]
 by_cases h4:b.length<4
 ·rw[MV (show ((b.drop 2).length:Int)<2 by omega),if_pos h4];rfl
 rw[M_ (show ¬((b.drop 2).length:Int)<2 by omega),if_neg h4];have hc2:cut (b.drop 2) 0 2=(b.drop 2).take 2:=Rj (b:=2) rfl;have hc3:cut (b.drop 2) 2 ((b.drop 2).length:Int)=b.drop 4:=(show cut (b.drop 2) 2 ((b.drop 2).length:Int)=(b.drop 2).drop 2 from SG (a:=2) rfl).trans (by rw[ahR]);have lt3:((b.drop 2).take 2).length=2:=by rw[ahl];omega
 have l4:(b.drop 4).length=b.length-4:=ahk;have r0:rd 0 (b.take 2) 0=rd 0 b 0:=SL (k:=0) (n:=2) (by decide);have r1:rd 0 (b.take 2) 1=rd 0 b 1:=SL (k:=1) (n:=2) (by decide);have r2:rd 0 ((b.drop 2).take 2) 0=rd 0 b 2:=(SL (k:=0) (n:=2) (by decide)).trans (aaj (n:=2) (k:=0));have r3:rd 0 ((b.drop 2).take 2) 1=rd 0 b 3:=(SL (k:=1) (n:=2) (by decide)).trans (aaj (n:=2) (k:=1));have b0:B8 (rd 0 b 0):=Y_ hb (k:=0) (by omega);have b1:B8 (rd 0 b 1):=Y_ hb (k:=1) (by omega);have b2:B8 (rd 0 b 2):=Y_ hb (k:=2) (by omega);have b3:B8 (rd 0 b 3):=Y_ hb (k:=3) (by omega);have hm:rd 0 b 2*256+rd 0 b 3=(TN b:Int):=by unfold TN;omega
 have hm2:TN b<65536:=by unfold TN;omega
 simp only[cond_false,hc2,hc3,lt3,r0,r1,r2,r3,ad2 b0 b1,ad2 b2 b3,hm,Nq (show (0:Int)<=0 by omega) (show (0:Int)<=2 by omega) (show (2:Int)<=((b.drop 2).length:Int) by omega),Nq (show (0:Int)<=2 by omega) (show (2:Int)<=((b.drop 2).length:Int) by omega) (ahp _),cond_true,
  Nj (show (0:Int)<=0 by omega) (show (0:Int)<((2:Nat):Int) by omega),Nj (show (0:Int)<=1 by omega) (show (1:Int)<((2:Nat):Int) by omega)]
 by_cases hn:rd 0 b 0*256+rd 0 b 1=16
 ·simp only[hn,decide_true,ag4,cond_false,Nh (show (b.drop 4).length<9223372036854775808 by omega),cond_true];by_cases h20:b.length<20
  ·rw[MV (show ((b.drop 4).length:Int)<16 by omega),if_pos (show UZ b from .inr (.inl (by omega)))];rfl
  rw[M_ (show ¬((b.drop 4).length:Int)<16 by omega)];have hc4:cut (b.drop 4) 0 16=(b.take 20).drop 4:=(show cut (b.drop 4) 0 16=(b.drop 4).take 16 from Rj (b:=16) rfl).trans (by rw[aii]);have hc5:cut (b.drop 4) 16 ((b.drop 4).length:Int)=b.drop 20:=(show cut (b.drop 4) 16 ((b.drop 4).length:Int)=(b.drop 4).drop 16 from SG (a:=16) rfl).trans (by rw[ahR]);have l20:(b.drop 20).length=b.length-20:=ahk;simp only[cond_false,hc4,hc5,Nq (show (0:Int)<=0 by omega) (show (0:Int)<=16 by omega) (show (16:Int)<=((b.drop 4).length:Int) by omega),Nq (show (0:Int)<=16 by omega) (show (16:Int)<=((b.drop 4).length:Int) by omega) (ahp _),cond_true,Nh (show (b.drop 20).length<9223372036854775808 by omega)];by_cases hmm:b.length<20+TN b
  ·rw[MV (show ((b.drop 20).length:Int)<(TN b:Int) by omega),if_pos (show UZ b from .inr (.inl hmm))];rfl
  rw[M_ (show ¬((b.drop 20).length:Int)<(TN b:Int) by omega)];have hc6:cut (b.drop 20) 0 (TN b:Int)=(b.drop 20).take (TN b):=Rj rfl;have hc7:cut (b.drop 20) (TN b:Int) ((b.drop 20).length:Int)=(b.drop 20).drop (TN b):=SG rfl;have ls:((b.drop 20).take (TN b)).length=TN b:=by rw[ahl];omega
  have hst:(b.take (20+TN b)).drop 20=(b.drop 20).take (TN b):=by rw[aii];congr 1;omega
  have afi:((b.drop 20).take (TN b)).length+((b.drop 20).drop (TN b)).length<=maxStr:=by rw[ls,ahk];unfold maxStr;omega
  simp only[cond_false,hc6,hc7,Nq (show (0:Int)<=0 by omega) (show (0:Int)<=(TN b:Int) by omega) (show (TN b:Int)<=((b.drop 20).length:Int) by omega),Nq (show (0:Int)<=(TN b:Int) by omega) (show (TN b:Int)<=((b.drop 20).length:Int) by omega) (ahp _),cond_true];rw[cond_pos (MV afi),XO (show ((b.drop 20).take (TN b)).length<4611686018427387904 by omega)];simp only[ag3,ahJ];by_cases hf:b.drop 20=SB ((b.drop 20).take (TN b))
  ·rw[MV hf,if_neg (show ¬UZ b from fun q=>by
    rcases q with q|q|q
    ·exact q hn
    ·exact hmm q
    ·exact q (by rw[hst];exact hf)),hst];rfl
  ·rw[M_ hf,if_pos (show UZ b from .inr (.inr (by rw[hst];exact hf)))];rfl
 ·rw[M_ hn,if_pos (show UZ b from .inl hn)];rfl
theorem aaZ{b:List Int}(hb:Bs b)(hl:b.length<1000000):Pz.run .lim (b,())=some ((UE b).1,(UE b).2.1,(UE b).2.2,()):=by
 simp only[Pz.run,Nh (show b.length<9223372036854775808 by omega),cond_true];unfold UE;by_cases h4:b.length<4
 ·rw[MV (show (b.length:Int)<4 by omega),if_pos h4];rfl
 rw[M_ (show ¬(b.length:Int)<4 by omega),if_neg h4];have b0:B8 (rd 0 b 0):=Y_ hb (k:=0) (by omega);have b1:B8 (rd 0 b 1):=Y_ hb (k:=1) (by omega);have b2:B8 (rd 0 b 2):=Y_ hb (k:=2) (by omega);have b3:B8 (rd 0 b 3):=Y_ hb (k:=3) (by omega);have hm:rd 0 b 2*256+rd 0 b 3=(TN b:Int):=by unfold TN;omega
 have hm2:TN b<65536:=by unfold TN;omega
 have i: ∀a:Int,0<=a->a<4->inB a (b.length:Int)=true:=fun a x y=>Nj x (by omega)
 simp only[cond_false,i 0 (by decide) (by decide),i 1 (by decide) (by decide),i 2 (by decide) (by decide),i 3 (by decide) (by decide),cond_true,abT b0 b1,abT b2 b3,hm,aha];by_cases hn:rd 0 b 0*256+rd 0 b 1=16
 ·have w1:ahe.wrap (4+16)=20:=by decide
  have w2:ahe.wrap (20+(TN b:Int))=((20+TN b:Nat):Int):=by rw[wrap64 (by omega) (by omega)];omega
  simp only[hn,decide_true,ag4,ahb,w1,w2];by_cases hmm:b.length<20+TN b
  ·rw[MV (show (b.length:Int)<((20+TN b:Nat):Int) by omega),if_pos (show UZ b from .inr (.inl hmm))];rfl
  rw[M_ (show ¬(b.length:Int)<((20+TN b:Nat):Int) by omega)];have hc4:cut b 4 20=(b.take 20).drop 4:=Qk (a:=4) (b:=20) rfl rfl;have hc5:cut b 20 (b.length:Int)=b.drop 20:=SG (a:=20) rfl;have hc6:cut b 20 ((20+TN b:Nat):Int)=(b.take (20+TN b)).drop 20:=Qk (a:=20) rfl rfl;have ls:((b.take (20+TN b)).drop 20).length=TN b:=by rw[Uo (by omega)];omega
  simp only[cond_false,hc4,hc5,hc6,Nq (show (0:Int)<=20 by omega) (show (20:Int)<=((20+TN b:Nat):Int) by omega) (show ((20+TN b:Nat):Int)<=(b.length:Int) by omega),Nq (show (0:Int)<=20 by omega) (show (20:Int)<=(b.length:Int) by omega) (ahp _),Nq (show (0:Int)<=4 by omega) (show (4:Int)<=20 by omega) (show (20:Int)<=(b.length:Int) by omega),cond_true,
   Xm (show ((b.take (20+TN b)).drop 20).length<4611686018427387900 by omega),ag3]
  by_cases hf:b.drop 20=SB ((b.take (20+TN b)).drop 20)
  ·rw[MV hf,if_neg (show ¬UZ b from fun q=>by
    rcases q with q|q|q
    ·exact q hn
    ·exact hmm q
    ·exact q hf)];rfl
  ·rw[M_ hf,if_pos (show UZ b from .inr (.inr hf))];rfl
 ·rw[M_ hn,if_pos (show UZ b from .inl hn)];rfl
theorem adw{b:List Int}(hb:Bs b):Bs (UE b).1/\Bs (UE b).2.1/\(UE b).1.length<=b.length/\(UE b).2.1.length<=b.length:=by
 unfold UE;split
 ·exact⟨fun x h=>(by cases h),fun x h=>(by cases h),by simp,by simp⟩
 ·split
  ·exact⟨fun x h=>(by cases h),fun x h=>(by cases h),by simp,by simp⟩
  ·exact⟨(hb.take _).drop _,(hb.take _).drop _,by rw[ahk,ahl];omega,by rw[ahk,ahl];omega⟩
abbrev NT:=PK×List FF×List FF
abbrev n0:NT:=(p0,([],[]))
end Go.AM
end
section
namespace Go.AM
noncomputable def UJ(v:VV)(s key:List Int):NT×Int:=
 if Ws s=0 then
  match RG (Po s).fs 1028 with
  |none=>(n0,19)
  |some k=>
   if(UE (rd f0 (Po s).fs (k:Int)).2).2.2=0 then
    if(O9 v key [s.take (48+(Nk ((Po s).fs.take k)).length),(UE (rd f0 (Po s).fs (k:Int)).2).1] (UE (rd f0 (Po s).fs (k:Int)).2).2.1).2=0 then
     if(Vd (O9 v key [s.take (48+(Nk ((Po s).fs.take k)).length),(UE (rd f0 (Po s).fs (k:Int)).2).1] (UE (rd f0 (Po s).fs (k:Int)).2).2.1).1.length (O9 v key [s.take (48+(Nk ((Po s).fs.take k)).length),(UE (rd f0 (Po s).fs (k:Int)).2).1] (UE (rd f0 (Po s).fs (k:Int)).2).2.1).1 []).2=0 then
      ((PK.cut (Po s) [],((Po s).fs.take k,(Vd (O9 v key [s.take (48+(Nk ((Po s).fs.take k)).length),(UE (rd f0 (Po s).fs (k:Int)).2).1] (UE (rd f0 (Po s).fs (k:Int)).2).2.1).1.length (O9 v key [s.take (48+(Nk ((Po s).fs.take k)).length),(UE (rd f0 (Po s).fs (k:Int)).2).1] (UE (rd f0 (Po s).fs (k:Int)).2).2.1).1 []).1)),0)
     else(n0,(Vd (O9 v key [s.take (48+(Nk ((Po s).fs.take k)).length),(UE (rd f0 (Po s).fs (k:Int)).2).1] (UE (rd f0 (Po s).fs (k:Int)).2).2.1).1.length (O9 v key [s.take (48+(Nk ((Po s).fs.take k)).length),(UE (rd f0 (Po s).fs (k:Int)).2).1] (UE (rd f0 (Po s).fs (k:Int)).2).2.1).1 []).2)
    else(n0,(O9 v key [s.take (48+(Nk ((Po s).fs.take k)).length),(UE (rd f0 (Po s).fs (k:Int)).2).1] (UE (rd f0 (Po s).fs (k:Int)).2).2.1).2)
   else(n0,(UE (rd f0 (Po s).fs (k:Int)).2).2.2)
 else(n0,Ws s)
theorem abw{l:List FF}(hb: ∀f∈l,f.2.length<65532): ∀j,(Nk (l.take j)).length<=j*65536:=fun j=>by
 induction j with
 |zero=>exact ait _
 |succ j ih=>
  rw[Nat.add_mul];by_cases hjl:j<l.length
  ·rw[Tq hjl,ag5,Qb];have:=hb _ (Ol (d:=f0) (xs:=l) (i:=(j:Int)) (by omega) (by omega));omega
  ·have e1:l.take (j+1)=l:=ahn (by omega);have e2:l.take j=l:=ahn (by omega);rw[e2]at ih;rw[e1];exact aiB ih (Nat.le_add_right _ _)
theorem abO{v:VV}{key:List Int}{r:PK}(h:r.fs.length<=16):
  Qc.l0 .lim (r.2.2.2.2.2.2.2.2.2.2.2.2.2,(r.2.2.2.2.2.2.2.2.2.2.2.2.2.length:Int),0,key,v.1,v.2,0,0,0,0,0,0,0,0,0,0,0,0,0,r.1,r.2.1,r.2.2.1,r.2.2.2.1,r.2.2.2.2.1,r.2.2.2.2.2.1,r.2.2.2.2.2.2.1,r.2.2.2.2.2.2.2.1,r.2.2.2.2.2.2.2.2.1,r.2.2.2.2.2.2.2.2.2.1,r.2.2.2.2.2.2.2.2.2.2.1,r.2.2.2.2.2.2.2.2.2.2.2.1,r.2.2.2.2.2.2.2.2.2.2.2.2.1,r.2.2.2.2.2.2.2.2.2.2.2.2.2,())=match RG r.fs 1028 with
   |some k=>some (.inl ((k:Int),key,v.1,v.2,0,0,0,0,0,0,0,0,0,0,0,0,0,r.1,r.2.1,r.2.2.1,r.2.2.2.1,r.2.2.2.2.1,r.2.2.2.2.2.1,r.2.2.2.2.2.2.1,r.2.2.2.2.2.2.2.1,r.2.2.2.2.2.2.2.2.1,r.2.2.2.2.2.2.2.2.2.1,r.2.2.2.2.2.2.2.2.2.2.1,r.2.2.2.2.2.2.2.2.2.2.2.1,r.2.2.2.2.2.2.2.2.2.2.2.2.1,r.2.2.2.2.2.2.2.2.2.2.2.2.2,()))
   |none=>some (.inr (key,v.1,v.2,0,0,0,0,0,0,0,0,0,0,0,0,0,r.1,r.2.1,r.2.2.1,r.2.2.2.1,r.2.2.2.2.1,r.2.2.2.2.2.1,r.2.2.2.2.2.2.1,r.2.2.2.2.2.2.2.1,r.2.2.2.2.2.2.2.2.1,r.2.2.2.2.2.2.2.2.2.1,r.2.2.2.2.2.2.2.2.2.2.1,r.2.2.2.2.2.2.2.2.2.2.2.1,r.2.2.2.2.2.2.2.2.2.2.2.2.1,r.2.2.2.2.2.2.2.2.2.2.2.2.2,())):=by
 have h:r.2.2.2.2.2.2.2.2.2.2.2.2.2.length<=16:=h;have e:=Qq (f:=Qc.l0 .lim) (fun j=>(r.2.2.2.2.2.2.2.2.2.2.2.2.2,(r.2.2.2.2.2.2.2.2.2.2.2.2.2.length:Int),(j:Int),key,v.1,v.2,0,0,0,0,0,0,0,0,0,0,0,0,0,r.1,r.2.1,r.2.2.1,r.2.2.2.1,r.2.2.2.2.1,r.2.2.2.2.2.1,r.2.2.2.2.2.2.1,r.2.2.2.2.2.2.2.1,r.2.2.2.2.2.2.2.2.1,r.2.2.2.2.2.2.2.2.2.1,r.2.2.2.2.2.2.2.2.2.2.1,r.2.2.2.2.2.2.2.2.2.2.2.1,r.2.2.2.2.2.2.2.2.2.2.2.2.1,r.2.2.2.2.2.2.2.2.2.2.2.2.2,())) r.2.2.2.2.2.2.2.2.2.2.2.2.2.length (fun j:Nat=>decide ((rd f0 r.2.2.2.2.2.2.2.2.2.2.2.2.2 (j:Int)).1=1028)) (fun j=>some (.inl ((j:Int),key,v.1,v.2,0,0,0,0,0,0,0,0,0,0,0,0,0,r.1,r.2.1,r.2.2.1,r.2.2.2.1,r.2.2.2.2.1,r.2.2.2.2.2.1,r.2.2.2.2.2.2.1,r.2.2.2.2.2.2.2.1,r.2.2.2.2.2.2.2.2.1,r.2.2.2.2.2.2.2.2.2.1,r.2.2.2.2.2.2.2.2.2.2.1,r.2.2.2.2.2.2.2.2.2.2.2.1,r.2.2.2.2.2.2.2.2.2.2.2.2.1,r.2.2.2.2.2.2.2.2.2.2.2.2.2,()))) (fun k hk=>by
  rw[Qc.q0];have hr:Un.run .lim (rd ((0:Int),([]:List Int)) r.2.2.2.2.2.2.2.2.2.2.2.2.2 (k:Int),())=some (decide ((rd f0 r.2.2.2.2.2.2.2.2.2.2.2.2.2 (k:Int)).1=1028)):=rfl;simp only[Qc.b0,MV (show (k:Int)<(r.2.2.2.2.2.2.2.2.2.2.2.2.2.length:Int) by omega),Nj (show (0:Int)<=(k:Int) by omega) (show (k:Int)<(r.2.2.2.2.2.2.2.2.2.2.2.2.2.length:Int) by omega),cond_true,hr,ag3,QU k (by omega)])
 have e0:Qc.l0 .lim (r.2.2.2.2.2.2.2.2.2.2.2.2.2,(r.2.2.2.2.2.2.2.2.2.2.2.2.2.length:Int),0,key,v.1,v.2,0,0,0,0,0,0,0,0,0,0,0,0,0,r.1,r.2.1,r.2.2.1,r.2.2.2.1,r.2.2.2.2.1,r.2.2.2.2.2.1,r.2.2.2.2.2.2.1,r.2.2.2.2.2.2.2.1,r.2.2.2.2.2.2.2.2.1,r.2.2.2.2.2.2.2.2.2.1,r.2.2.2.2.2.2.2.2.2.2.1,r.2.2.2.2.2.2.2.2.2.2.2.1,r.2.2.2.2.2.2.2.2.2.2.2.2.1,r.2.2.2.2.2.2.2.2.2.2.2.2.2,())=_:=e;rw[e0];unfold RG;cases hq:(aho r.fs.length).find? (fun k:Nat=>decide ((rd f0 r.fs (k:Int)).1=1028))with
 |some k=>
  have hq:(aho r.2.2.2.2.2.2.2.2.2.2.2.2.2.length).find? (fun k:Nat=>decide ((rd f0 r.2.2.2.2.2.2.2.2.2.2.2.2.2 (k:Int)).1=1028))=some k:=hq;simp only[hq]
 |none=>
  have hq:(aho r.2.2.2.2.2.2.2.2.2.2.2.2.2.length).find? (fun k:Nat=>decide ((rd f0 r.2.2.2.2.2.2.2.2.2.2.2.2.2 (k:Int)).1=1028))=none:=hq;simp only[hq];rw[Qc.q0];simp only[Qc.b0,M_ (show ¬(r.2.2.2.2.2.2.2.2.2.2.2.2.2.length:Int)<(r.2.2.2.2.2.2.2.2.2.2.2.2.2.length:Int) by omega),cond_false]
theorem ac2{v:VV}{s key at_:List Int}{r:PK}{k:Nat}(h:r.fs.length<=16)(hk:k<r.fs.length)(hb: ∀f∈r.fs,f.2.length<65532)(hat:rd 0 at_ 0=(k:Int))(hal:0<at_.length):
  N8.l0 .lim (s,key,48,0,v.1,v.2,0,0,0,0,0,0,0,0,0,0,0,0,0,r.1,r.2.1,r.2.2.1,r.2.2.2.1,r.2.2.2.2.1,r.2.2.2.2.2.1,r.2.2.2.2.2.2.1,r.2.2.2.2.2.2.2.1,r.2.2.2.2.2.2.2.2.1,r.2.2.2.2.2.2.2.2.2.1,r.2.2.2.2.2.2.2.2.2.2.1,r.2.2.2.2.2.2.2.2.2.2.2.1,r.2.2.2.2.2.2.2.2.2.2.2.2.1,r.2.2.2.2.2.2.2.2.2.2.2.2.2,at_,())=some (s,key,((48+(Nk (r.fs.take k)).length:Nat):Int),v.1,v.2,0,0,0,0,0,0,0,0,0,0,0,0,0,r.1,r.2.1,r.2.2.1,r.2.2.2.1,r.2.2.2.2.1,r.2.2.2.2.2.1,r.2.2.2.2.2.2.1,r.2.2.2.2.2.2.2.1,r.2.2.2.2.2.2.2.2.1,r.2.2.2.2.2.2.2.2.2.1,r.2.2.2.2.2.2.2.2.2.2.1,r.2.2.2.2.2.2.2.2.2.2.2.1,r.2.2.2.2.2.2.2.2.2.2.2.2.1,r.2.2.2.2.2.2.2.2.2.2.2.2.2,at_,()):=by
 have h:r.2.2.2.2.2.2.2.2.2.2.2.2.2.length<=16:=h;have hk:k<r.2.2.2.2.2.2.2.2.2.2.2.2.2.length:=hk;have hal2:inB 0 (at_.length:Int)=true:=Nj (by omega) (by omega);have hle:=abw hb;have e:=Oh (f:=N8.l0 .lim) (fun j=>(s,key,((48+(Nk (r.fs.take j)).length:Nat):Int),(j:Int),v.1,v.2,0,0,0,0,0,0,0,0,0,0,0,0,0,r.1,r.2.1,r.2.2.1,r.2.2.2.1,r.2.2.2.2.1,r.2.2.2.2.2.1,r.2.2.2.2.2.2.1,r.2.2.2.2.2.2.2.1,r.2.2.2.2.2.2.2.2.1,r.2.2.2.2.2.2.2.2.2.1,r.2.2.2.2.2.2.2.2.2.2.1,r.2.2.2.2.2.2.2.2.2.2.2.1,r.2.2.2.2.2.2.2.2.2.2.2.2.1,r.2.2.2.2.2.2.2.2.2.2.2.2.2,at_,())) (n:=k) (fun j hj=>by
  rw[N8.q0];have hl:=hle j;have hf:=hb _ (Ol (d:=f0) (xs:=r.fs) (i:=(j:Int)) (by omega) (show (j:Int)<(r.2.2.2.2.2.2.2.2.2.2.2.2.2.length:Int) by omega));have es:(Nk (r.fs.take (j+1))).length=(Nk (r.fs.take j)).length+(4+(rd f0 r.2.2.2.2.2.2.2.2.2.2.2.2.2 (j:Int)).2.length):=by rw[Tq (show j<r.fs.length by show j<r.2.2.2.2.2.2.2.2.2.2.2.2.2.length;omega),ag5,Qb]
  have w:ahe.wrap (ahe.wrap (((48+(Nk (r.fs.take j)).length:Nat):Int)+4)+((rd f0 r.2.2.2.2.2.2.2.2.2.2.2.2.2 (j:Int)).2.length:Int))=((48+(Nk (r.fs.take (j+1))).length:Nat):Int):=by
   have hf:(rd f0 r.2.2.2.2.2.2.2.2.2.2.2.2.2 (j:Int)).2.length<65532:=hf;rw[wrap64 (n:=((48+(Nk (r.fs.take j)).length:Nat):Int)+4) (by omega) (by omega),wrap64 (by omega) (by omega),es];omega
  simp only[N8.b0,hal2,cond_true,hat,MV (show (j:Int)<(k:Int) by omega),Nj (show (0:Int)<=(j:Int) by omega) (show (j:Int)<(r.2.2.2.2.2.2.2.2.2.2.2.2.2.length:Int) by omega),Nh (show (rd f0 r.2.2.2.2.2.2.2.2.2.2.2.2.2 (j:Int)).2.length<9223372036854775808 from Nat.lt_of_lt_of_le hf (by decide)),w,QU j (by omega)])
 have e0:N8.l0 .lim (s,key,48,0,v.1,v.2,0,0,0,0,0,0,0,0,0,0,0,0,0,r.1,r.2.1,r.2.2.1,r.2.2.2.1,r.2.2.2.2.1,r.2.2.2.2.2.1,r.2.2.2.2.2.2.1,r.2.2.2.2.2.2.2.1,r.2.2.2.2.2.2.2.2.1,r.2.2.2.2.2.2.2.2.2.1,r.2.2.2.2.2.2.2.2.2.2.1,r.2.2.2.2.2.2.2.2.2.2.2.1,r.2.2.2.2.2.2.2.2.2.2.2.2.1,r.2.2.2.2.2.2.2.2.2.2.2.2.2,at_,())=_:=e;rw[e0,N8.q0];simp only[N8.b0,hal2,cond_true,hat,M_ (show ¬(k:Int)<(k:Int) by omega),cond_false]
theorem abP:Bs []:=fun x h=>by cases h
theorem abS{v:VV}(hv:okV v)(hf:Pq v=true)(hvb:vB v){s key:List Int}(hs:Bs s)(hl:s.length<9223372036854775808)(hk:key.length<Nw)(hkb:Bs key):
  Qc.run .lim (v,s,key,())=some ((UJ v s key).1,(UJ v s key).2,())/\N8.run .lim (v,s,key,())=some ((UJ v s key).1,(UJ v s key).2,()):=by
 simp only[Qc.run,N8.run,Yq hs hl,ab6 hs hl,ag3];unfold UJ;by_cases h0:Ws s=0
 case neg=>rw[M_ h0,if_neg h0];exact⟨rfl,rfl⟩
 rw[MV h0,if_pos h0];have w:=was hs h0;have hfew:=w.few;have hok:=w.ok;have hwb:=Xz hs h0;have hsl:s.length=48+(Nk (Po s).fs).length:=by
  have:=congrArg ahU w.st;rw[ag5,ahl,ahK w.l0]at this;exact this
 have afh:=w.l1;generalize Po s=r at hfew hok hwb hsl;have hfs:r.2.2.2.2.2.2.2.2.2.2.2.2.2.length<=16:=hfew;have hff:=Xn (l:=r.fs) 1028 (by omega) (by omega);have hff:NJ.run .lim (r.2.2.2.2.2.2.2.2.2.2.2.2.2,1028,())=some (findF r.fs 1028):=hff;have adq:=QH r.fs 1028;simp only[ag4,cond_false,Nh (show r.2.2.2.2.2.2.2.2.2.2.2.2.2.length<9223372036854775808 by omega),cond_true,hff,ag3,Nh (show (findF r.fs 1028).length<9223372036854775808 by omega)];rw[abO hfew];rcases Q9 r.fs 1028 with⟨q1,q2⟩|⟨k,l,q1,q2,hkl,hkd⟩
 ·simp only[q1,q2];exact⟨rfl,rfl⟩
 have hmem:rd f0 r.fs (k:Int)∈r.fs:=Ol (by omega) (by omega);have hfo:=hok _ hmem;have hal:0<(findF r.fs 1028).length:=by rw[q2];simp
 have hat:rd 0 (findF r.fs 1028) 0=(k:Int):=by rw[q2];rfl
 have hkl':k<r.2.2.2.2.2.2.2.2.2.2.2.2.2.length:=hkl;rw[ac2 hfew hkl (fun f hf=>(hok f hf).l1) hat hal];simp only[q1,ag3,M_ (show ¬((findF r.fs 1028).length:Int)=0 by omega),cond_false,M_ (show ¬(k:Int)<0 by omega),Nq (show (0:Int)<=0 by omega) (show (0:Int)<=(k:Int) by omega) (ahp _),MV (show (k:Int)<=(r.2.2.2.2.2.2.2.2.2.2.2.2.2.length:Int) by omega),ahd,cond_true,
  Nj (show (0:Int)<=(k:Int) by omega) (show (k:Int)<(r.2.2.2.2.2.2.2.2.2.2.2.2.2.length:Int) by omega),Nj (show (0:Int)<=0 by omega) (show (0:Int)<((findF r.fs 1028).length:Int) by omega),hat]
 have hbb:Bs (rd f0 r.fs (k:Int)).2:=hfo.b;have hbl:(rd f0 r.fs (k:Int)).2.length<65532:=hfo.l1;have sp:=Zf hbb (by omega);have rsp:=aaZ hbb (by omega);have sp:RH.run .lim ((rd ((0:Int),([]:List Int)) r.2.2.2.2.2.2.2.2.2.2.2.2.2 (k:Int)).2,())=_:=sp;have rsp:Pz.run .lim ((rd ((0:Int),([]:List Int)) r.2.2.2.2.2.2.2.2.2.2.2.2.2 (k:Int)).2,())=_:=rsp;obtain⟨sB1,sB2,sL1,sL2⟩:=adw hbb;simp only[sp,rsp,ag3];generalize UE (rd f0 r.fs (k:Int)).2=g at sB1 sB2 sL1 sL2;obtain⟨MW,sealed,e⟩:=g;simp only at sB1 sB2 sL1 sL2 ⊢
 by_cases he:e=0
 case neg=>rw[M_ he,if_neg he];exact⟨rfl,rfl⟩
 rw[MV he,if_pos he];have hcz:cut r.2.2.2.2.2.2.2.2.2.2.2.2.2 0 (k:Int)=r.2.2.2.2.2.2.2.2.2.2.2.2.2.take k:=Rj rfl;have hw:=hwb k;have hw:Nu.run .lim ((r.1,r.2.1,r.2.2.1,r.2.2.2.1,r.2.2.2.2.1,r.2.2.2.2.2.1,r.2.2.2.2.2.2.1,r.2.2.2.2.2.2.2.1,r.2.2.2.2.2.2.2.2.1,r.2.2.2.2.2.2.2.2.2.1,r.2.2.2.2.2.2.2.2.2.2.1,r.2.2.2.2.2.2.2.2.2.2.2.1,r.2.2.2.2.2.2.2.2.2.2.2.2.1,r.2.2.2.2.2.2.2.2.2.2.2.2.2.take k),())=some (s.take (48+(Nk (r.fs.take k)).length),0,()):=hw;have hle:=WV r.fs k;generalize hN:48+(Nk (r.fs.take k)).length=N at hw;have hNs:N<=s.length:=by omega
 have hcn:cut s 0 (N:Int)=s.take N:=Rj rfl;have T:Vs key [s.take N,MW] sealed:=⟨hk,hkb,by simp[Nw],fun t ht=>by
  simp only[ahD,ahA,or_false]at ht;rcases ht with rfl|rfl
  ·rw[ahl];exact N7 (by omega)
  ·exact N7 (by omega),N7 (by omega)⟩
 have op:=Xf hv T sB2;have rop:=X6 hv T;have op:O1.run .lim ((v.1,v.2),key,[s.take N,MW],sealed,())=_:=op;have rop:NR.run .lim ((v.1,v.2),key,[s.take N,MW],sealed,())=_:=rop;simp only[ag4,cond_false,hcz,hw,ag3,op,rop,hcn,Nq (show (0:Int)<=0 by omega) (show (0:Int)<=(N:Int) by omega) (show (N:Int)<=(s.length:Int) by omega),cond_true];by_cases ho:(O9 v key [s.take N,MW] sealed).2=0
 case neg=>rw[M_ ho,if_neg ho];exact⟨rfl,rfl⟩
 rw[MV ho,if_pos ho];obtain⟨_,ol,_,oB⟩:=UN hf hvb ho;generalize (O9 v key [s.take N,MW] sealed).1=p at ol oB;simp only[ag4,cond_false,acp oB (show p.length<9223372036854775808 by omega),ab9 oB (show p.length<9223372036854775808 by omega),ag3];by_cases ht:(Vd p.length p []).2=0
 case neg=>rw[M_ ht,if_neg ht];exact⟨rfl,rfl⟩
 rw[MV ht,if_pos ht];simp only[ag4,cond_false,Nq (show (0:Int)<=0 by omega) (show (0:Int)<=(k:Int) by omega) (show (k:Int)<=(r.2.2.2.2.2.2.2.2.2.2.2.2.2.length:Int) by omega),cond_true]
 first|exact⟨rfl,rfl⟩|exact⟨trivial,rfl⟩|exact⟨rfl,trivial⟩|trivial
end Go.AM
end
section
namespace Go.AM
theorem ZF{f:FF}(h:Wq f)(x:List Int):OI (QS f++x)=4+f.2.length/\ ¬Vm (QS f++x)/\fOf (QS f++x)=f/\(QS f++x).drop (OI (QS f++x))=x:=by
 have h1:=h.k0;have h2:=h.k1;have h3:=h.l0;have h4:=h.l4;have h5:=h.l1;have hl:=Qb f;have e4:(QS f++x).take 4=twoS f.1++twoS ((f.2.length:Int)+4):=by
  unfold QS;rw[ahs,ahH (by simp[twoS]),ahn (by simp[twoS])]
 have eL:OI (QS f++x)=4+f.2.length:=by
  unfold OI;rw[e4,ahG (by simp[twoS]),ahP (by simp[twoS]),ahI,val_two (by omega) (by omega)];omega
 have e2:(QS f++x).take 2=twoS f.1:=by
  have:(QS f++x).take 2=((QS f++x).take 4).take 2:=by rw[aix];rfl
  rw[this,e4,ahH (by simp[twoS]),ahn (by simp[twoS])]
 have eT:(QS f++x).take (4+f.2.length)=QS f:=by rw[<-hl,aiw]
 refine⟨eL,?_,?_,?_⟩
 ·unfold Vm;rw[eL,ag5,hl];omega
 ·unfold fOf;rw[eL,e2,eT,val_two h1 h2];unfold QS;rw[ahG (by simp[twoS]),ahP (by simp[twoS]),ahI]
 ·rw[eL,<-hl,aiu]
theorem aaC: ∀(l:List FF) (n:Nat) (acc:List FF),(∀f∈l,Wq f)->(Nk l).length<=n->acc.length+l.length<=16->Vd n (Nk l) acc=(acc++l,0):=by
 intro l
 induction l with
 |nil=>
  intro n acc _ _ _;have e:Nk []=[]:=rfl;rw[e];cases n with
  |zero=>simp[Vd]
  |succ n=>simp[Vd]
 |cons f l ih=>
  intro n acc hf hn hl;have hfo:=hf f (.head _);have he:Nk (f::l)=QS f++Nk l:=by simp[Nk]
  rw[he]at hn ⊢
  obtain⟨p1,p2,p3,p4⟩:=ZF hfo (Nk l);have hlen:=Qb f;cases n with
  |zero=>rw[ag5]at hn;omega
  |succ n=>
   have hne: ¬(QS f++Nk l=[]):=fun q=>by
    have:=congrArg ahU q;rw[ag5,hlen]at this;simp at this
   rw[ah8]at hl;rw[Vd,if_neg hne,if_neg p2,if_neg (by omega),p3,p4];have:=ih n (acc++[f]) (fun g hg=>hf g (.tail _ hg)) (by rw[ag5]at hn;omega) (by simp;omega);rw[this,ahs];rfl
theorem YE{n:Int}(h0:0<=n)(h1:n<4294967296):OJ (ZB (ahC.wrap n))=n:=by
 rw[show ahC.wrap n=n by rw[SX];omega];have s1:=O8 n 0 24 .u64 (by decide);have s2:=O8 n 0 16 .u64 (by decide);have s3:=O8 n 0 8 .u64 (by decide);have s4:=O8 n 0 0 .u64 (by decide);unfold ZB Ua OJ;simp only[s1,s2,s3,s4,PN,air,aiv];omega
theorem WL{n:Int}(h0:0<=n)(h1:n<18446744073709551616):OJ (by8 n)=n:=by
 have s1:=O8 n 0 56 .u64 (by decide);have s2:=O8 n 0 48 .u64 (by decide);have s3:=O8 n 0 40 .u64 (by decide);have s4:=O8 n 0 32 .u64 (by decide);have s5:=O8 n 0 24 .u64 (by decide);have s6:=O8 n 0 16 .u64 (by decide);have s7:=O8 n 0 8 .u64 (by decide);have s8:=O8 n 0 0 .u64 (by decide);unfold by8 Ua OJ;simp only[s1,s2,s3,s4,s5,s6,s7,s8,PN,air,aiv];omega
structure POk(p:PK):Prop where
 hd:Vt p=true
 a:0<=p.2.2.2.2.2.2.1/\p.2.2.2.2.2.2.1<4294967296
 b:0<=p.2.2.2.2.2.2.2.1/\p.2.2.2.2.2.2.2.1<4294967296
 c:0<=p.2.2.2.2.2.2.2.2.1/\p.2.2.2.2.2.2.2.2.1<4294967296
 d:0<=p.2.2.2.2.2.2.2.2.2.1/\p.2.2.2.2.2.2.2.2.2.1<18446744073709551616
 e:0<=p.2.2.2.2.2.2.2.2.2.2.1/\p.2.2.2.2.2.2.2.2.2.2.1<18446744073709551616
 f:0<=p.2.2.2.2.2.2.2.2.2.2.2.1/\p.2.2.2.2.2.2.2.2.2.2.2.1<18446744073709551616
 g:0<=p.2.2.2.2.2.2.2.2.2.2.2.2.1/\p.2.2.2.2.2.2.2.2.2.2.2.2.1<18446744073709551616
theorem acM: ∀a:Nat,a<4-> ∀b:Nat,b<8-> ∀c:Nat,c<8->b0S a b c/64=a/\b0S a b c/8%8=b/\b0S a b c%8=c:=by decide+kernel
theorem aax: ∀n:Nat,n<256->sg (ag8.wrap ((n:Int)-128))=(n:Int)-128:=by decide+kernel
theorem abZ{p:PK}(h:POk p)(x:List Int)(fs:List FF):rdP (TK p++x) fs=PK.cut p fs:=by
 obtain⟨a,b,c,d,e,g,r1,r2,r3,q1,q2,q3,q4,l⟩:=p;obtain⟨h0,h1,h2,h3,h4,h5,h6,h7⟩:=h;unfold Vt WE at h0;simp only[ahr,decide_eq_true_eq]at h0 h1 h2 h3 h4 h5 h6 h7;obtain⟨⟨⟨⟨⟨ha,hb⟩,hc⟩,hd⟩,he⟩,hg⟩:=h0;have hB:=acM a.toNat (by omega) b.toNat (by omega) c.toNat (by omega);rw[ahF ha.1,ahF hb.1,ahF hc.1]at hB;have he':=aax (e+128).toNat (by omega);rw[ahF (by omega),show e+128-128=e by omega]at he';have hg':=aax (g+128).toNat (by omega);rw[ahF (by omega),show g+128-128=g by omega]at hg';have hd':ag8.wrap d=d:=by rw[PN];omega
 have v1:=YE h1.1 h1.2;have v2:=YE h2.1 h2.2;have v3:=YE h3.1 h3.2;have v4:=WL h4.1 h4.2;have v5:=WL h5.1 h5.2;have v6:=WL h6.1 h6.2;have v7:=WL h7.1 h7.2;show (b0S a b c/64,b0S a b c/8%8,b0S a b c%8,ag8.wrap d,sg (ag8.wrap e),sg (ag8.wrap g),OJ (ZB (ahC.wrap r1)),OJ (ZB (ahC.wrap r2)),OJ (ZB (ahC.wrap r3)),OJ (by8 q1),OJ (by8 q2),OJ (by8 q3),OJ (by8 q4),fs)=(a,b,c,d,e,g,r1,r2,r3,q1,q2,q3,q4,fs);rw[hB.1,hB.2.1,hB.2.2,hd',he',hg',v1,v2,v3,v4,v5,v6,v7]
theorem X3{p:PK}(h:POk p)(hf: ∀f∈p.fs,Wq f)(h16:p.fs.length<=16)(hl:(Nk p.fs).length<=1232):Ws (TK p++Nk p.fs)=0/\Po (TK p++Nk p.fs)=p:=by
 have hd:(TK p++Nk p.fs).drop 48=Nk p.fs:=aiu (l₁:=TK p);have hlen:(TK p++Nk p.fs).length=48+(Nk p.fs).length:=by rw[ag5,TQ]
 have ht:=aaC p.fs (Nk p.fs).length [] hf (ahQ _) (by simpa using h16);have he:Ws (TK p++Nk p.fs)=0:=by
  unfold Ws;rw[if_neg (by omega),if_neg (by omega),hd,ht]
 refine⟨he,?_⟩;unfold Po;rw[if_pos he,hd,ht,abZ h];rfl
theorem adp(p:PK):Bs (TK p):=fun x hx=>by
 unfold TK ZB by8 Ua b0S at hx;simp only[ahu,ahD,ahA,or_false]at hx;rcases hx with (h|h|h|h)|(h|h|h|h)|(h|h|h|h)|(h|h|h|h)|(h|h|h|h|h|h|h|h)|(h|h|h|h|h|h|h|h)|(h|h|h|h|h|h|h|h)|h|h|h|h|h|h|h|h<;>(rw[h];exact Uk _)
theorem WA{l:List FF}(h: ∀f∈l,Bs f.2):Bs (Nk l):=fun x hx=>by
 unfold Nk at hx;obtain⟨t,ht,hx⟩:=List.mem_flatten.1 hx;obtain⟨f,hf,rfl⟩:=ain.1 ht;unfold QS at hx;rcases ahu.1 hx with hx|hx
 ·rcases ahu.1 hx with hx|hx
  ·exact Yy _ x hx
  ·exact Yy _ x hx
 ·exact h f hf x hx
end Go.AM
end
section
namespace Go.AM
def QE(MW sealed:List Int):List Int:=((twoS 16++twoS (sealed.length:Int))++MW)++SB sealed
theorem VO{MW sealed:List Int}(hn:MW.length=16):(QE MW sealed).length=20+sealed.length+Ry sealed.length:=by
 unfold QE SB;simp only[ag5,OD,ahz];omega
theorem acP{s:List Int}(h:Bs s):Bs (SB s):=h.app fun x hx=>by rw[(ah2.1 hx).2];decide
theorem acJ{MW sealed:List Int}(hn:Bs MW)(hs:Bs sealed):Bs (QE MW sealed):=(((Yy _).app (Yy _)).app hn).app (acP hs)
theorem ac8{MW sealed:List Int}(hn:MW.length=16)(hs:sealed.length<65536):UE (QE MW sealed)=(MW,sealed,0):=by
 have hl:=VO (sealed:=sealed) hn;have h0:rd 0 (QE MW sealed) 0=ag8.wrap (Je .i64 16 8):=rfl;have h1:rd 0 (QE MW sealed) 1=ag8.wrap 16:=rfl;have h2:rd 0 (QE MW sealed) 2=ag8.wrap (Je .i64 (sealed.length:Int) 8):=rfl;have h3:rd 0 (QE MW sealed) 3=ag8.wrap (sealed.length:Int):=rfl;have hm:TN (QE MW sealed)=sealed.length:=by
  unfold TN;rw[h2,h3,acf,PN,PN];omega
 have e20:(QE MW sealed).drop 20=SB sealed:=by
  unfold QE;exact aic (by simp only[ag5,OD];omega)
 have ha:QE MW sealed=(((twoS 16++twoS (sealed.length:Int))++MW)++sealed)++ahm (Ry sealed.length) 0:=by
  unfold QE SB;rw[ahs];rw[ahs,ahs,ahs,ahs]
 have eS:((QE MW sealed).take (20+sealed.length)).drop 20=sealed:=by
  rw[ha,ahX (by simp only[ag5,OD];omega)];exact aic (by simp only[ag5,OD];omega)
 have eN:((QE MW sealed).take 20).drop 4=MW:=by
  unfold QE;rw[ahX (by simp only[ag5,OD];omega)];exact aic (by simp only[ag5,OD])
 unfold UE;rw[if_neg (by omega),if_neg,hm,eN,eS];unfold UZ;rw[hm,e20,eS,h0,h1];intro q;rcases q with q|q|q
 ·exact q (by decide)
 ·omega
 ·exact q rfl
noncomputable def QB(v:VV)(key MW ahead:List Int)(inner:List FF):VV×FF×Int:=
 if MW.length=16 then
  if ahead.length>1280 then(v,f0,12)else
  if Rl inner=0 then
   if(NZ v key [ahead,MW] (QW inner)).2.2=0 then((NZ v key [ahead,MW] (QW inner)).1,(1028,QE MW (NZ v key [ahead,MW] (QW inner)).2.1),0)
   else(v,f0,(NZ v key [ahead,MW] (QW inner)).2.2)
  else(v,f0,Rl inner)
 else(v,f0,10)
theorem V3{v:VV}{key:List Int}{ad:List (List Int)}{s:List Int}(hf:Pq v=true)(hs:s.length<=65536):(NZ v key ad s).2.1.length<=s.length+16:=by
 by_cases he:(NZ v key ad s).2.2=0
 ·rw[(Uh hf he).2.2.1];exact ahQ _
 ·rw[(aaw he).2];simp
theorem acK{v:VV}(hv:okV v)(hf:Pq v=true){key MW ahead:List Int}{inner:List FF}(hk:key.length<Nw)(hkb:Bs key)(hn:MW.length<Nw)(ha:ahead.length<Nw)(hi:FL inner):
  UL.run .lim (v,key,MW,ahead,inner,())=some ((QB v key MW ahead inner).1,(QB v key MW ahead inner).2.1,(QB v key MW ahead inner).2.2,()):=by
 have hn':MW.length<9223372036854775808:=hn;have ha':ahead.length<9223372036854775808:=ha;simp only[UL.run,Nh hn',Nh ha',cond_true];unfold QB;by_cases h1:MW.length=16
 case neg=>rw[M_ (show ¬(MW.length:Int)=16 by omega),if_neg h1];rfl
 rw[MV (show (MW.length:Int)=16 by omega),if_pos h1];by_cases h2:ahead.length>1280
 ·rw[MV (show (ahead.length:Int)>1280 by omega),if_pos h2];rfl
 rw[M_ (show ¬(ahead.length:Int)>1280 by omega),if_neg h2];simp only[ag4,cond_false,XM hi,ag3];by_cases h3:Rl inner=0
 case neg=>rw[M_ h3,if_neg h3];rfl
 rw[MV h3,if_pos h3];have hfl:=Tv (l:=inner);have T:Vs key [ahead,MW] (QW inner):=⟨hk,hkb,by simp[Nw],fun t ht=>by
  simp only[ahD,ahA,or_false]at ht;rcases ht with rfl|rfl
  ·exact ha
  ·exact hn,N7 (by omega)⟩
 simp only[ag4,cond_false,aav hv hf T,ag3];have hsl:=V3 (key:=key) (ad:=[ahead,MW]) hf (show (QW inner).length<=65536 by omega);generalize NZ v key [ahead,MW] (QW inner)=w at hsl;obtain⟨w1,w2,w3⟩:=w;simp only at hsl ⊢
 by_cases h4:w3=0
 case neg=>rw[M_ h4,if_neg h4];rfl
 rw[MV h4,if_pos h4];have hp:Ry w2.length<4:=by unfold Ry;omega
 have hfs:(SB w2).length<=w2.length+4:=by unfold SB;rw[ag5,ahz];omega
 have t1: ∀n,Vz.run .lim (n,())=some (twoS n):=fun n=>rfl
 simp only[ag4,cond_false,t1,ag3,Nh (show w2.length<9223372036854775808 by omega),cond_true];rw[cond_pos (MV (show (twoS 16).length+(twoS (w2.length:Int)).length<=maxStr by rw[OD,OD];decide)),cond_pos (MV (show (twoS 16++twoS (w2.length:Int)).length+MW.length<=maxStr by rw[ag5,OD,OD,h1];decide)),
  XO (show w2.length<4611686018427387904 by omega)]
 simp only[ag3];rw[cond_pos (MV (show ((twoS 16++twoS (w2.length:Int))++MW).length+(SB w2).length<=maxStr by rw[ag5,ag5,OD,OD,h1];unfold maxStr;omega))];rfl
noncomputable def QF(v:VV)(p:PK)(key MW:List Int)(inner:List FF):VV×List Int×Int:=
 if(findF p.fs 1028).length>0 then(v,[],23)else
 if VK p=0 then
  if(QB v key MW (Vr p) inner).2.2=0 then
   if VK (PK.cut p (p.fs++[(QB v key MW (Vr p) inner).2.1]))=0 then((QB v key MW (Vr p) inner).1,Vr (PK.cut p (p.fs++[(QB v key MW (Vr p) inner).2.1])),0)
   else(v,[],VK (PK.cut p (p.fs++[(QB v key MW (Vr p) inner).2.1])))
  else(v,[],(QB v key MW (Vr p) inner).2.2)
 else(v,[],VK p)
theorem YF(p:PK):(Vr p).length<=1280:=by
 unfold Vr;split
 ·rename_i h;rw[ag5,TQ];have hf:Rl p.fs=0:=by
   unfold VK at h;split at h
   ·exact h
   ·exact absurd h (by decide)
  have:=Tv (l:=p.fs);unfold QW at this;rw[if_pos hf]at this;omega
 ·simp
theorem XH{v:VV}(hf:Pq v=true){key MW ahead:List Int}{inner:List FF}:(QB v key MW ahead inner).2.1.2.length<=100000:=by
 unfold QB;split
 ·rename_i hn;split
  ·simp
  ·split
   ·split
    ·rename_i h;have hfl:=Tv (l:=inner);have hsl:=V3 (v:=v) (key:=key) (ad:=[ahead,MW]) (s:=QW inner) hf (by omega);show (QE MW _).length<=_;rw[VO hn];have:Ry (NZ v key [ahead,MW] (QW inner)).2.1.length<4:=by unfold Ry;omega
     omega
    ·simp
   ·simp
 ·simp
theorem abQ{v:VV}(hv:okV v)(hf:Pq v=true){p:PK}{key MW:List Int}{inner:List FF}(hp:FL p.fs)(hpl:p.fs.length<=1000000000)(hk:key.length<Nw)(hkb:Bs key)(hn:MW.length<Nw)(hi:FL inner):
  Si.run .lim (v,p,key,MW,inner,())=some ((QF v p key MW inner).1,(QF v p key MW inner).2.1,(QF v p key MW inner).2.2,()):=by
 have hff:=QH p.fs 1028;have hfe:=VJ (l:=p.fs) 1028 (by omega) (by omega);have hfe:OM.run .lim (p.2.2.2.2.2.2.2.2.2.2.2.2.2,1028,())=_:=hfe;simp only[Si.run,hfe,ag3,Nh (show (findF p.fs 1028).length<9223372036854775808 by omega),cond_true];unfold QF;by_cases h1:(findF p.fs 1028).length>0
 ·rw[MV (show ((findF p.fs 1028).length:Int)>0 by omega),if_pos h1];rfl
 rw[M_ (show ¬((findF p.fs 1028).length:Int)>0 by omega),if_neg h1];simp only[cond_false,VL hp,ag3];by_cases h2:VK p=0
 case neg=>rw[M_ h2,if_neg h2];rfl
 rw[MV h2,if_pos h2];have hwl:=YF p;simp only[ag4,cond_false,acK hv hf hk hkb hn (N7 (show (Vr p).length<9223372036854775808 by omega)) hi,ag3];have hal:=XH (v:=v) hf (key:=key) (MW:=MW) (ahead:=Vr p) (inner:=inner);generalize QB v key MW (Vr p) inner=a at hal;obtain⟨a1,a2,a3⟩:=a;simp only at hal ⊢
 by_cases h3:a3=0
 case neg=>rw[M_ h3,if_neg h3];rfl
 rw[MV h3,if_pos h3];have hcl:N_.run .lim (p.2.2.2.2.2.2.2.2.2.2.2.2.2,())=some p.fs:=by
  simp only[N_.run];rw[cond_pos (MV (show ([]:List FF).length+p.fs.length<2932031007402 by simp;omega))];rfl
 have hq:FL (PK.fs (PK.cut p (p.fs++[a2]))):=by
  refine⟨?_,fun f hf=> ?_⟩
  ·show (p.fs++[a2]).length<_;rw[ag5];simp;omega
  ·rcases ahu.1 hf with hf|hf
   ·exact hp.2 f hf
   ·rw[ahx.1 hf];omega
 have hw:=VL hq;have hw:Nu.run .lim ((p.1,p.2.1,p.2.2.1,p.2.2.2.1,p.2.2.2.2.1,p.2.2.2.2.2.1,p.2.2.2.2.2.2.1,p.2.2.2.2.2.2.2.1,p.2.2.2.2.2.2.2.2.1,p.2.2.2.2.2.2.2.2.2.1,p.2.2.2.2.2.2.2.2.2.2.1,p.2.2.2.2.2.2.2.2.2.2.2.1,p.2.2.2.2.2.2.2.2.2.2.2.2.1,p.fs++[a2]),())=_:=hw;simp only[ag4,cond_false,hcl,ag3];rw[cond_pos (MV (show p.fs.length+[a2].length<2932031007402 by simp;omega)),hw];simp only[ag3];by_cases h4:VK (PK.cut p (p.fs++[a2]))=0
 ·rw[MV h4,if_pos h4];rfl
 ·rw[M_ h4,if_neg h4];rfl
end Go.AM
end
section
namespace Go.AM
theorem PV{n:Int}(h0:0<=n)(h1:n<18446744073709551616){k:Nat}{m:List Int}(hk:k<m.length)(hm:m.length<=8):
  Nb.l0 .lim (n,(k:Int),m,())=Nb.l0 .lim (n/256,(k:Int)-1,m.set k (ag8.wrap n),()):=by
 have e1:ahC.wrap (n.tdiv 256)=n/256:=by rw[aht h0,SX];omega
 have e2:ag8.wrap (n.tmod 256)=ag8.wrap n:=by rw[ahw h0,PN,PN];omega
 rw[Nb.q0];simp only[Nb.b0,e1,e2];rw[cond_pos (MV (show (k:Int)>=0 by omega)),Nj (by omega) (by omega),cond_true,wrap64 (by omega) (by omega),ahq]
theorem Xo(n:Int)(m:List Int):Nb.l0 .lim (n,-1,m,())=some (m,()):=by rw[Nb.q0];rfl
theorem adv{n:Int}(h0:0<=n)(h1:n<65536):Nb.run .lim (n,2,())=some (twoS n):=by
 show (Nb.l0 .lim (n,((1:Nat):Int),[0,0],())).bind _=_;rw[PV h0 (by omega) (by simp) (by simp)];show (Nb.l0 .lim (n/256,((0:Nat):Int),[0,ag8.wrap n],())).bind _=_;rw[PV (by omega) (by omega) (by simp) (by simp)];show (Nb.l0 .lim (n/256/256,-1,[ag8.wrap (n/256),ag8.wrap n],())).bind _=_;rw[Xo];unfold twoS;rw[acf];rfl
theorem SA(n:Int)(k:Nat)(hk:k<=64):Ua n k=ag8.wrap (n/2^k):=by unfold Ua;rw[O8 n 0 k .u64 hk]
theorem ae3{n:Int}(h0:0<=n)(h1:n<18446744073709551616):Nb.run .lim (n,4,())=some (ZB n):=by
 show (Nb.l0 .lim (n,((3:Nat):Int),[0,0,0,0],())).bind _=_;rw[PV h0 h1 (by simp) (by simp)];show (Nb.l0 .lim (n/256,((2:Nat):Int),[0,0,0,ag8.wrap n],())).bind _=_;rw[PV (by omega) (by omega) (by simp) (by simp)];show (Nb.l0 .lim (n/256/256,((1:Nat):Int),[0,0,ag8.wrap (n/256),ag8.wrap n],())).bind _=_;rw[PV (by omega) (by omega) (by simp) (by simp)];show (Nb.l0 .lim (n/256/256/256,((0:Nat):Int),[0,ag8.wrap (n/256/256),ag8.wrap (n/256),ag8.wrap n],())).bind _=_;rw[PV (by omega) (by omega) (by simp) (by simp)];show (Nb.l0 .lim (n/256/256/256/256,-1,[ag8.wrap (n/256/256/256),ag8.wrap (n/256/256),ag8.wrap (n/256),ag8.wrap n],())).bind _=_;rw[Xo];unfold ZB;rw[SA n 24 (by decide),SA n 16 (by decide),SA n 8 (by decide),SA n 0 (by decide)];have e1:n/256/256/256=n/2^24:=by show _=n/16777216;omega
 have e2:n/256/256=n/2^16:=by show _=n/65536;omega
 have e3:n/2^0=n:=by show n/1=n;omega
 rw[e1,e2,e3];rfl
theorem aao{n:Int}(h0:0<=n)(h1:n<18446744073709551616):Nb.run .lim (n,8,())=some (by8 n):=by
 show (Nb.l0 .lim (n,((7:Nat):Int),[0,0,0,0,0,0,0,0],())).bind _=_;rw[PV h0 h1 (by simp) (by simp)];have d1:0<=n/256/\n/256<18446744073709551616:=by omega
 have e1:n/256=n/2^8:=rfl;generalize hb1:n/256=b1 at*;show (Nb.l0 .lim (b1,((6:Nat):Int),[0,0,0,0,0,0,0,ag8.wrap n],())).bind _=_;rw[PV d1.1 d1.2 (by simp) (by simp)];have d2:0<=b1/256/\b1/256<18446744073709551616:=by omega
 have e2:b1/256=n/2^16:=by show _=n/65536;omega
 generalize hb2:b1/256=b2 at*;show (Nb.l0 .lim (b2,((5:Nat):Int),[0,0,0,0,0,0,ag8.wrap b1,ag8.wrap n],())).bind _=_;rw[PV d2.1 d2.2 (by simp) (by simp)];have d3:0<=b2/256/\b2/256<18446744073709551616:=by omega
 have e3:b2/256=n/2^24:=by show _=n/16777216;omega
 generalize hb3:b2/256=b3 at*;show (Nb.l0 .lim (b3,((4:Nat):Int),[0,0,0,0,0,ag8.wrap b2,ag8.wrap b1,ag8.wrap n],())).bind _=_;rw[PV d3.1 d3.2 (by simp) (by simp)];have d4:0<=b3/256/\b3/256<18446744073709551616:=by omega
 have e4:b3/256=n/2^32:=by show _=n/4294967296;omega
 generalize hb4:b3/256=b4 at*;show (Nb.l0 .lim (b4,((3:Nat):Int),[0,0,0,0,ag8.wrap b3,ag8.wrap b2,ag8.wrap b1,ag8.wrap n],())).bind _=_;rw[PV d4.1 d4.2 (by simp) (by simp)];have d5:0<=b4/256/\b4/256<18446744073709551616:=by omega
 have e5:b4/256=n/2^40:=by show _=n/1099511627776;omega
 generalize hb5:b4/256=b5 at*;show (Nb.l0 .lim (b5,((2:Nat):Int),[0,0,0,ag8.wrap b4,ag8.wrap b3,ag8.wrap b2,ag8.wrap b1,ag8.wrap n],())).bind _=_;rw[PV d5.1 d5.2 (by simp) (by simp)];have d6:0<=b5/256/\b5/256<18446744073709551616:=by omega
 have e6:b5/256=n/2^48:=by show _=n/281474976710656;omega
 generalize hb6:b5/256=b6 at*;show (Nb.l0 .lim (b6,((1:Nat):Int),[0,0,ag8.wrap b5,ag8.wrap b4,ag8.wrap b3,ag8.wrap b2,ag8.wrap b1,ag8.wrap n],())).bind _=_;rw[PV d6.1 d6.2 (by simp) (by simp)];have d7:0<=b6/256/\b6/256<18446744073709551616:=by omega
 have e7:b6/256=n/2^56:=by show _=n/72057594037927936;omega
 generalize hb7:b6/256=b7 at*;show (Nb.l0 .lim (b7,((0:Nat):Int),[0,ag8.wrap b6,ag8.wrap b5,ag8.wrap b4,ag8.wrap b3,ag8.wrap b2,ag8.wrap b1,ag8.wrap n],())).bind _=_;rw[PV d7.1 d7.2 (by simp) (by simp)];show (Nb.l0 .lim (b7/256,-1,[ag8.wrap b7,ag8.wrap b6,ag8.wrap b5,ag8.wrap b4,ag8.wrap b3,ag8.wrap b2,ag8.wrap b1,ag8.wrap n],())).bind _=_;rw[Xo];unfold by8;rw[SA n 56 (by decide),SA n 48 (by decide),SA n 40 (by decide),SA n 32 (by decide),SA n 24 (by decide),SA n 16 (by decide),SA n 8 (by decide),SA n 0 (by decide),<-e1,<-e2,<-e3,<-e4,<-e5,<-e6,<-e7];have e0:n/2^0=n:=by show n/1=n;omega
 rw[e0];rfl
theorem Xl{l:List FF}(hl:FL l):NM.run .lim (l,())=some (QW l,Rl l,()):=by
 obtain⟨h1,h2⟩:=hl;simp only[NM.run,Nh h1,cond_true];by_cases h16:l.length>16
 ·rw[MV (show (l.length:Int)>16 by omega)];have:Rl l=18:=by unfold Rl;rw[if_pos h16]
  unfold QW;rw[this];rfl
 rw[M_ (show ¬(l.length:Int)>16 by omega)];have e:=Qq (f:=NM.l0 .lim) (fun k=>(l,SI l k,((min (Nk (l.take k)).length 1233:Nat):Int),(k:Int),())) l.length (fun k:Nat=> !decide (fE (rd f0 l (k:Int))=0))
  (fun k=>if fE (rd f0 l (k:Int))=13 then some (.inl (([]:List Int),13,()))else some (.inr (.inl (([]:List Int),10,())))) (fun k hk=>by
  have hm:=Ol (d:=f0) (xs:=l) (i:=(k:Int)) (by omega) (by omega);have hb:=h2 _ hm;rw[NM.q0];generalize hg:rd f0 l (k:Int)=f at hm hb;simp only[NM.b0,Nh h1,MV (show (k:Int)<(l.length:Int) by omega),Nj (show (0:Int)<=(k:Int) by omega) (show (k:Int)<(l.length:Int) by omega),cond_true,hg,Nh (show f.2.length<9223372036854775808 by omega),aha];unfold fE;by_cases hk1:f.1<0\/f.1>=65536
  ·rw[if_pos hk1];have:((decide (f.1<0))||(decide (f.1>65535)))=true:=by rw[aia,decide_eq_true_eq,decide_eq_true_eq];omega
   simp only[this,cond_true];rfl
  ·rw[if_neg hk1];have:((decide (f.1<0))||(decide (f.1>65535)))=false:=by rw[M_ (show ¬f.1<0 by omega),M_ (show ¬f.1>65535 by omega)];rfl
   simp only[this,cond_false];have h3:(f.2.length:Int).tmod 4=((f.2.length%4:Nat):Int):=by rw[ahw (by omega)];omega
   by_cases hk2:f.2.length<12\/f.2.length%4≠0
   ·rw[if_pos hk2];have:((decide ((f.2.length:Int)<12))||(!(decide ((f.2.length:Int).tmod 4=0))))=true:=by
     rw[h3];rcases hk2 with q|q
     ·rw[MV (show (f.2.length:Int)<12 by omega)];rfl
     ·rw[M_ (show ¬((f.2.length%4:Nat):Int)=0 by omega)];simp
    simp only[this,cond_true];rfl
   ·rw[if_neg hk2];have:((decide ((f.2.length:Int)<12))||(!(decide ((f.2.length:Int).tmod 4=0))))=false:=by rw[h3,M_ (show ¬(f.2.length:Int)<12 by omega),MV (show ((f.2.length%4:Nat):Int)=0 by omega)];rfl
    simp only[this,cond_false,decide_true,ag4,cond_false];have es:=Tq hk;have el:(Nk (l.take (k+1))).length=(Nk (l.take k)).length+(4+f.2.length):=by rw[es,ag5,Qb,hg]
    have ew:mn (ahe.wrap ((ahe.wrap (((min (Nk (l.take k)).length 1233:Nat):Int)+4))+(f.2.length:Int))) 1233=((min (Nk (l.take (k+1))).length 1233:Nat):Int):=by rw[Pg,wrap64 (n:=((min (Nk (l.take k)).length 1233:Nat):Int)+4) (by omega) (by omega),wrap64 (by omega) (by omega)];omega
    simp only[ew];by_cases hl2:(Nk (l.take (k+1))).length>1232
    ·have e3:SI l (k+1)=SI l k:=by rw[SI,if_pos hl2]
     rw[cond_neg (M_ (by omega)),e3,QU k (by omega)]
    ·have e3:SI l (k+1)=SI l k++QS f:=by rw[SI,if_neg hl2,hg]
     have eo:=WG (l:=l) k (by omega) (by omega);have ol:(SI l k).length<=1232:=by rw[eo];omega
     have e4:ahC.wrap (ahe.wrap ((f.2.length:Int)+4))=(f.2.length:Int)+4:=by rw[wrap64 (by omega) (by omega),SX];omega
     have e5:ahC.wrap f.1=f.1:=by rw[SX];omega
     rw[cond_pos (MV (by omega)),e4,e5,adv (by omega) (by omega),ag3,cond_pos (MV (by rw[OD];unfold maxStr;omega)),adv (by omega) (by omega),ag3,
      cond_pos (MV (by rw[ag5,OD,OD];unfold maxStr;omega)),cond_pos (MV (by rw[ag5,ag5,OD,OD];unfold maxStr;omega)),QU k (by omega),e3]
     unfold QS;simp only[ahs])
 have e0:NM.l0 .lim (l,([]:List Int),0,0,())=_:=e;rw[cond_false,e0];unfold QW Rl;rw[if_neg h16];cases hq:(aho l.length).find? (fun k:Nat=> !decide (fE (rd f0 l (k:Int))=0))with
 |some k=>
  have hk:=aie hq;simp only[ahM,decide_eq_false_iff_not]at hk;simp only;have:fE (rd f0 l (k:Int))=13\/fE (rd f0 l (k:Int))=10:=by
   unfold fE at hk ⊢
   split
   ·exact .inl rfl
   ·split
    ·exact .inr rfl
    ·rename_i q1 q2;rw[if_neg q1,if_neg q2]at hk;exact absurd rfl hk
  rw[if_neg hk];rcases this with q|q
  ·rw[if_pos q,q];rfl
  ·rw[if_neg (by omega),q];rfl
 |none=>
  simp only[ah9];rw[NM.q0];simp only[NM.b0,Nh h1,cond_true,M_ (show ¬(l.length:Int)<(l.length:Int) by omega),cond_false,ag3];by_cases hl:(Nk l).length>1232
  ·rw[cond_pos (MV (by omega)),if_pos hl];rfl
  ·rw[cond_neg (M_ (by omega)),if_neg hl,WG l.length (ahQ _) (by rw[ah9];omega),ah9];rfl
theorem adi{α:Type}(r0 r1 r2 r3 r4 r5:Bool)(E K:Option α):((some r0).bind fun r=>((bif !!r then some r1 else some false)).bind fun r1=>((bif !(!r|| !r1)then some r2 else some false)).bind fun r2=>((bif !((!r|| !r1)|| !r2)then some r3 else some false)).bind fun r3=>
  ((bif !(((!r|| !r1)|| !r2)|| !r3)then some r4 else some false)).bind fun r4=>((bif !((((!r|| !r1)|| !r2)|| !r3)|| !r4)then some r5 else some false)).bind fun r5=>
  bif(((((!r|| !r1)|| !r2)|| !r3)|| !r4)|| !r5)then E else K)=bif(((((r0&&r1)&&r2)&&r3)&&r4)&&r5)then K else E:=by
 cases r0<;>cases r1<;>cases r2<;>cases r3<;>cases r4<;>cases r5<;>rfl
theorem rb0: ∀a:Nat,a<4-> ∀b:Nat,b<8-> ∀c:Nat,c<8->ag8.wrap (ahe.wrap (ahe.wrap (ahe.wrap ((a:Int)*64)+ahe.wrap ((b:Int)*8))+(c:Int)))=b0S a b c:=by decide+kernel
theorem aae{n a b:Int}:WE n a b=true ↔ a<=n/\n<=b:=by unfold WE;rw[ahr,decide_eq_true_eq,decide_eq_true_eq]
structure HU(p:PK):Prop where
 a:0<=p.2.2.2.2.2.2.2.2.2.1/\p.2.2.2.2.2.2.2.2.2.1<18446744073709551616
 b:0<=p.2.2.2.2.2.2.2.2.2.2.1/\p.2.2.2.2.2.2.2.2.2.2.1<18446744073709551616
 c:0<=p.2.2.2.2.2.2.2.2.2.2.2.1/\p.2.2.2.2.2.2.2.2.2.2.2.1<18446744073709551616
 d:0<=p.2.2.2.2.2.2.2.2.2.2.2.2.1/\p.2.2.2.2.2.2.2.2.2.2.2.2.1<18446744073709551616
theorem uB(n:Int):0<=ahC.wrap n/\ahC.wrap n<18446744073709551616:=by rw[SX];omega
theorem VX{p:PK}(hl:FL p.fs)(hu:HU p):Ov.run .lim (p,())=some (Vr p,VK p,()):=by
 have hw: ∀n a b,Oy.run .lim (n,a,b,())=some (WE n a b):=fun _ _ _=>rfl
 have hf:NM.run .lim (p.2.2.2.2.2.2.2.2.2.2.2.2.2,())=some (QW p.fs,Rl p.fs,()):=Xl hl;simp only[Ov.run,hw];refine(adi _ _ _ _ _ _ _ _).trans ?_;show (bif Vt p then _ else _)=_;cases hok:Vt p with
 |false=>
  have:VK p=13:=by unfold VK;rw[hok];rfl
  unfold Vr;rw[this];rfl
 |true=>
  rw[cond_true,hf,ag3];have hE:VK p=Rl p.fs:=by unfold VK;rw[if_pos hok]
  simp only;unfold Vr;rw[hE];by_cases h0:Rl p.fs=0
  ·rw[cond_neg (by rw[MV h0];rfl),if_pos h0,h0];have hS:QW p.fs=Nk p.fs:=by unfold QW;rw[if_pos h0]
   have hlen:=Tv (l:=p.fs);rw[hS]at hlen;have hh:=hok;unfold Vt at hh;simp only[ahr,aae]at hh;obtain⟨⟨⟨⟨⟨a1,a2⟩,a3⟩,a4⟩,a5⟩,a6⟩:=hh;obtain⟨x,hx⟩:=ahO a1.1;obtain⟨y,hy⟩:=ahO a2.1;obtain⟨z,hz⟩:=ahO a3.1;have hb:=rb0 x (by omega) y (by omega) z (by omega);have hb:ag8.wrap (ahe.wrap (ahe.wrap (ahe.wrap (p.1*64)+ahe.wrap (p.2.1*8))+p.2.2.1))=b0S p.1 p.2.1 p.2.2.1:=by rw[hx,hy,hz];exact hb
   have l4: ∀n,(ZB n).length=4:=fun n=>rfl
   have l8: ∀n,(by8 n).length=8:=fun n=>rfl
   simp only[hb,ae3 (uB _).1 (uB _).2,aao hu.a.1 hu.a.2,aao hu.b.1 hu.b.2,aao hu.c.1 hu.c.2,aao hu.d.1 hu.d.2,ag3,hS];have hL: ∀a:List Int,a.length<=2000->a.length<=maxStr:=fun a h=>by unfold maxStr;omega
   iterate 7 rw[cond_pos (MV (by simp only[ag5,ah8,ais,l4,l8];decide))]
   rw[cond_pos (MV (by simp only[ag5,ah8,ais,l4,l8];unfold maxStr;omega))];unfold TK;simp only[ahs]
  ·rw[cond_pos (by rw[M_ h0];rfl),if_neg h0]
end Go.AM
end
section
set_option maxRecDepth 100000
namespace Go.AM
theorem aar{n:Int}(h0:0<=n)(h1:n<65536):PU.run .lim (n,())=some (twoS n):=by
 have e1:ahe.wrap (n.tdiv 256)=n/256:=by rw[aht h0,wrap64 (by omega) (by omega)]
 have e2:ag8.wrap (n.tmod 256)=ag8.wrap n:=by rw[ahw h0,PN,PN];omega
 simp only[PU.run,e1,e2];unfold twoS;rw[acf]
theorem HU.cut{p:PK}(h:HU p)(l:List FF):HU (PK.cut p l):=⟨h.a,h.b,h.c,h.d⟩
theorem abY{v:VV}(hv:okV v)(hf:Pq v=true){key MW ahead:List Int}{inner:List FF}(hk:key.length<Nw)(hkb:Bs key)(hn:MW.length<Nw)(ha:ahead.length<Nw)(hi:FL inner):
  Qi.run .lim (v,key,MW,ahead,inner,())=some ((QB v key MW ahead inner).1,(QB v key MW ahead inner).2.1,(QB v key MW ahead inner).2.2,()):=by
 have hn':MW.length<9223372036854775808:=hn;have ha':ahead.length<9223372036854775808:=ha;simp only[Qi.run,Nh hn',Nh ha',cond_true];unfold QB;by_cases h1:MW.length=16
 case neg=>rw[M_ (show ¬(MW.length:Int)=16 by omega),if_neg h1];rfl
 rw[MV (show (MW.length:Int)=16 by omega),if_pos h1];by_cases h2:ahead.length>1280
 ·rw[MV (show (ahead.length:Int)>1280 by omega),if_pos h2];rfl
 rw[M_ (show ¬(ahead.length:Int)>1280 by omega),if_neg h2];simp only[ag4,cond_false,Xl hi,ag3];by_cases h3:Rl inner=0
 case neg=>rw[M_ h3,if_neg h3];rfl
 rw[MV h3,if_pos h3];have hfl:=Tv (l:=inner);have T:Vs key [ahead,MW] (QW inner):=⟨hk,hkb,by simp[Nw],fun t ht=>by
  simp only[ahD,ahA,or_false]at ht;rcases ht with rfl|rfl
  ·exact ha
  ·exact hn,N7 (by omega)⟩
 simp only[ag4,cond_false,X7 hv T,ag3];have hsl:=V3 (key:=key) (ad:=[ahead,MW]) hf (show (QW inner).length<=65536 by omega);generalize NZ v key [ahead,MW] (QW inner)=w at hsl;obtain⟨w1,w2,w3⟩:=w;simp only at hsl ⊢
 by_cases h4:w3=0
 case neg=>rw[M_ h4,if_neg h4];rfl
 rw[MV h4,if_pos h4];have hp:Ry w2.length<4:=by unfold Ry;omega
 have hfs:(SB w2).length<=w2.length+4:=by unfold SB;rw[ag5,ahz];omega
 simp only[ag4,cond_false,aar (show (0:Int)<=16 by decide) (show (16:Int)<65536 by decide),aar (show (0:Int)<=(w2.length:Int) by omega) (show (w2.length:Int)<65536 by omega),ag3,Nh (show w2.length<9223372036854775808 by omega),cond_true];rw[cond_pos (MV (show (twoS 16).length+(twoS (w2.length:Int)).length<=maxStr by rw[OD,OD];decide)),cond_pos (MV (show (twoS 16++twoS (w2.length:Int)).length+MW.length<=maxStr by rw[ag5,OD,OD,h1];decide)),
  Xm (show w2.length<4611686018427387900 by omega)]
 simp only[ag3];rw[cond_pos (MV (show ((twoS 16++twoS (w2.length:Int))++MW).length+(SB w2).length<=maxStr by rw[ag5,ag5,OD,OD,h1];unfold maxStr;omega))];rfl
theorem aaW{v:VV}(hv:okV v)(hf:Pq v=true){p:PK}{key MW:List Int}{inner:List FF}(hp:FL p.fs)(hu:HU p)(hpl:p.fs.length<=1000000000)(hk:key.length<Nw)(hkb:Bs key)(hn:MW.length<Nw)(hi:FL inner):
  PG.run .lim (v,p,key,MW,inner,())=some ((QF v p key MW inner).1,(QF v p key MW inner).2.1,(QF v p key MW inner).2.2,()):=by
 have hff:=QH p.fs 1028;have hfe:=Xn (l:=p.fs) 1028 (by omega) (by omega);have hfe:NJ.run .lim (p.2.2.2.2.2.2.2.2.2.2.2.2.2,1028,())=_:=hfe;simp only[PG.run,hfe,ag3,Nh (show (findF p.fs 1028).length<9223372036854775808 by omega),cond_true];unfold QF;by_cases h1:(findF p.fs 1028).length>0
 ·rw[MV (show ((findF p.fs 1028).length:Int)>0 by omega),if_pos h1];rfl
 rw[M_ (show ¬((findF p.fs 1028).length:Int)>0 by omega),if_neg h1];simp only[cond_false,VX hp hu,ag3];by_cases h2:VK p=0
 case neg=>rw[M_ h2,if_neg h2];rfl
 rw[MV h2,if_pos h2];have hwl:=YF p;simp only[ag4,cond_false,abY hv hf hk hkb hn (N7 (show (Vr p).length<9223372036854775808 by omega)) hi,ag3];have hal:=XH (v:=v) hf (key:=key) (MW:=MW) (ahead:=Vr p) (inner:=inner);generalize QB v key MW (Vr p) inner=a at hal;obtain⟨a1,a2,a3⟩:=a;simp only at hal ⊢
 by_cases h3:a3=0
 case neg=>rw[M_ h3,if_neg h3];rfl
 rw[MV h3,if_pos h3];have hpl':p.2.2.2.2.2.2.2.2.2.2.2.2.2.length<=1000000000:=hpl;have hq:FL (PK.fs (PK.cut p (p.fs++[a2]))):=by
  refine⟨?_,fun f hf=> ?_⟩
  ·show (p.fs++[a2]).length<_;rw[ag5];simp;omega
  ·rcases ahu.1 hf with hf|hf
   ·exact hp.2 f hf
   ·rw[ahx.1 hf];omega
 have hw:=VX hq (hu.cut (p.fs++[a2]));have hw:Ov.run .lim ((p.1,p.2.1,p.2.2.1,p.2.2.2.1,p.2.2.2.2.1,p.2.2.2.2.2.1,p.2.2.2.2.2.2.1,p.2.2.2.2.2.2.2.1,p.2.2.2.2.2.2.2.2.1,p.2.2.2.2.2.2.2.2.2.1,p.2.2.2.2.2.2.2.2.2.2.1,p.2.2.2.2.2.2.2.2.2.2.2.1,p.2.2.2.2.2.2.2.2.2.2.2.2.1,p.2.2.2.2.2.2.2.2.2.2.2.2.2++[a2]),())=_:=hw;simp only[ag4,cond_false];rw[cond_pos (MV (show p.2.2.2.2.2.2.2.2.2.2.2.2.2.length<2932031007402 by omega)),cond_pos (MV (show p.2.2.2.2.2.2.2.2.2.2.2.2.2.length+[a2].length<2932031007402 by simp;omega)),hw];simp only[ag3];by_cases h4:VK (PK.cut p (p.fs++[a2]))=0
 ·rw[MV h4,if_pos h4];rfl
 ·rw[M_ h4,if_neg h4];rfl
end Go.AM
end
section
set_option maxRecDepth 100000
namespace Go.AM
end Go.AM
end
section
set_option maxRecDepth 100000
namespace Go.AM
theorem aaS{v:VV}(hv:okV v)(hf:Pq v=true)(hvb:vB v){s key:List Int}(hs:Bs s)(hl:s.length<9223372036854775808)(hk:key.length<Nw)(hkb:Bs key):
  Qc.run .lim (v,s,key,())=some ((UJ v s key).1,(UJ v s key).2,()):=by
 simp only[Qc.run,Yq hs hl,ag3];unfold UJ;by_cases h0:Ws s=0
 case neg=>rw[M_ h0,if_neg h0];rfl
 rw[MV h0,if_pos h0];have w:=was hs h0;have hfew:=w.few;have hok:=w.ok;have hwb:=Xz hs h0;have hsl:s.length=48+(Nk (Po s).fs).length:=by
  have:=congrArg ahU w.st;rw[ag5,ahl,ahK w.l0]at this;exact this
 have afh:=w.l1;generalize Po s=r at hfew hok hwb hsl;have hfs:r.2.2.2.2.2.2.2.2.2.2.2.2.2.length<=16:=hfew;have adq:=QH r.fs 1028;simp only[ag4,cond_false,Nh (show r.2.2.2.2.2.2.2.2.2.2.2.2.2.length<9223372036854775808 by omega),cond_true,ag3,Nh (show (findF r.fs 1028).length<9223372036854775808 by omega)];rw[abO hfew];rcases Q9 r.fs 1028 with⟨q1,q2⟩|⟨k,l,q1,q2,hkl,hkd⟩
 ·simp only[q1,q2];rfl
 have hmem:rd f0 r.fs (k:Int)∈r.fs:=Ol (by omega) (by omega);have hfo:=hok _ hmem;have hal:0<(findF r.fs 1028).length:=by rw[q2];simp
 have hat:rd 0 (findF r.fs 1028) 0=(k:Int):=by rw[q2];rfl
 have hkl':k<r.2.2.2.2.2.2.2.2.2.2.2.2.2.length:=hkl;simp only[q1,ag3,M_ (show ¬((findF r.fs 1028).length:Int)=0 by omega),cond_false,M_ (show ¬(k:Int)<0 by omega),Nq (show (0:Int)<=0 by omega) (show (0:Int)<=(k:Int) by omega) (ahp _),MV (show (k:Int)<=(r.2.2.2.2.2.2.2.2.2.2.2.2.2.length:Int) by omega),ahd,cond_true,
  Nj (show (0:Int)<=(k:Int) by omega) (show (k:Int)<(r.2.2.2.2.2.2.2.2.2.2.2.2.2.length:Int) by omega),Nj (show (0:Int)<=0 by omega) (show (0:Int)<((findF r.fs 1028).length:Int) by omega),hat]
 have hbb:Bs (rd f0 r.fs (k:Int)).2:=hfo.b;have hbl:(rd f0 r.fs (k:Int)).2.length<65532:=hfo.l1;have sp:=Zf hbb (by omega);have sp:RH.run .lim ((rd ((0:Int),([]:List Int)) r.2.2.2.2.2.2.2.2.2.2.2.2.2 (k:Int)).2,())=_:=sp;obtain⟨sB1,sB2,sL1,sL2⟩:=adw hbb;simp only[sp,ag3];generalize UE (rd f0 r.fs (k:Int)).2=g at sB1 sB2 sL1 sL2;obtain⟨MW,sealed,e⟩:=g;simp only at sB1 sB2 sL1 sL2 ⊢
 by_cases he:e=0
 case neg=>rw[M_ he,if_neg he];rfl
 rw[MV he,if_pos he];have hcz:cut r.2.2.2.2.2.2.2.2.2.2.2.2.2 0 (k:Int)=r.2.2.2.2.2.2.2.2.2.2.2.2.2.take k:=Rj rfl;have hw:=hwb k;have hw:Nu.run .lim ((r.1,r.2.1,r.2.2.1,r.2.2.2.1,r.2.2.2.2.1,r.2.2.2.2.2.1,r.2.2.2.2.2.2.1,r.2.2.2.2.2.2.2.1,r.2.2.2.2.2.2.2.2.1,r.2.2.2.2.2.2.2.2.2.1,r.2.2.2.2.2.2.2.2.2.2.1,r.2.2.2.2.2.2.2.2.2.2.2.1,r.2.2.2.2.2.2.2.2.2.2.2.2.1,r.2.2.2.2.2.2.2.2.2.2.2.2.2.take k),())=some (s.take (48+(Nk (r.fs.take k)).length),0,()):=hw;have hle:=WV r.fs k;generalize hN:48+(Nk (r.fs.take k)).length=N at hw;have hNs:N<=s.length:=by omega
 have hcn:cut s 0 (N:Int)=s.take N:=Rj rfl;have T:Vs key [s.take N,MW] sealed:=⟨hk,hkb,by simp[Nw],fun t ht=>by
  simp only[ahD,ahA,or_false]at ht;rcases ht with rfl|rfl
  ·rw[ahl];exact N7 (by omega)
  ·exact N7 (by omega),N7 (by omega)⟩
 have op:=Xf hv T sB2;have op:O1.run .lim ((v.1,v.2),key,[s.take N,MW],sealed,())=_:=op;simp only[ag4,cond_false,hcz,hw,ag3,op,hcn,Nq (show (0:Int)<=0 by omega) (show (0:Int)<=(N:Int) by omega) (show (N:Int)<=(s.length:Int) by omega),cond_true];by_cases ho:(O9 v key [s.take N,MW] sealed).2=0
 case neg=>rw[M_ ho,if_neg ho];rfl
 rw[MV ho,if_pos ho];obtain⟨_,ol,_,oB⟩:=UN hf hvb ho;generalize (O9 v key [s.take N,MW] sealed).1=p at ol oB;simp only[ag4,cond_false,acp oB (show p.length<9223372036854775808 by omega),ag3];by_cases ht:(Vd p.length p []).2=0
 case neg=>rw[M_ ht,if_neg ht];rfl
 rw[MV ht,if_pos ht];simp only[ag4,cond_false,Nq (show (0:Int)<=0 by omega) (show (0:Int)<=(k:Int) by omega) (show (k:Int)<=(r.2.2.2.2.2.2.2.2.2.2.2.2.2.length:Int) by omega),cond_true]
end Go.AM
end
section
set_option maxRecDepth 100000
namespace Go.AM
theorem Zd{v:VV}{key:List Int}{ad:List (List Int)}{s:List Int}(hk:key.length=32\/key.length=64)(ha:ad.length<=126)(hs:s.length<=65536)(hr:v.2.length<2048):
  (NZ v key ad s).2.2=0/\(NZ v key ad s).1.2.length<=v.2.length+1:=by
 obtain⟨b,xs⟩:=v;have h1:Sr key ad=0:=by unfold Sr;rw[if_pos hk,if_neg (by omega)]
 have h2:Sj key ad s.length=0:=by
  have:Ru (key,ad,[],[])=0:=by
   unfold Ru;rw[if_neg (show ¬(key.length≠32/\key.length≠64) by omega),if_neg (show ¬ad.length>126 by omega)]
  unfold Sj;rw[if_pos this,if_neg (by omega)]
 have hr:xs.length<2048:=hr;cases b with
 |false=>
  simp only[NZ,cond_false];unfold TF;rw[if_pos h1,if_neg (by omega)];exact⟨rfl,Nat.le_succ _⟩
 |true=>
  simp only[NZ,cond_true];unfold Sm;rw[if_pos h2];cases (aho xs.length).find? (fun j:Nat=>U3 (rd k0 xs (j:Int)) (key,ad,s,[]))with
  |some k=>exact⟨rfl,Nat.le_succ _⟩
  |none=>
   simp only;rw[if_neg (by omega)];exact⟨rfl,by simp⟩
theorem XP{l:List FF}{g:FF}{kind:Int}(h:findF l kind=[])(hg:g.1=kind):RG (l++[g]) kind=some l.length:=by
 have hno:RG l kind=none:=by
  rcases Q9 l kind with⟨q,_⟩|⟨k,r,_,q,_,_⟩
  ·exact q
  ·rw[q]at h;cases h
 unfold RG at hno ⊢
 rw[ahN];refine⟨?_,ahv.2 (by simp),fun j hj=> ?_⟩
 ·rw[Qz (by simp),ahZ (by rfl)];exact MV hg
 ·have:=ah1.1 hno j (ahv.2 hj);rw[Qz (by simp;omega),List.getElem_append_left hj];rw[Qz hj]at this;simpa using this
theorem ab1{l:List FF}{g:FF}:rd f0 (l++[g]) (l.length:Int)=g:=by rw[Qz (by simp),ahZ (by rfl)]
structure Mk(v:VV)(p:PK)(key MW:List Int)(inner:List FF):Prop where
 hv:Pq v=true
 po:POk p
 no:findF p.fs 1028=[]
 fo: ∀f∈p.fs,Wq f
 io: ∀f∈inner,Wq f
 i16:inner.length<=16
 p16:p.fs.length+1<=16
 len:(Nk p.fs).length+(Nk inner).length+44<=1232
 n:MW.length=16
 nb:Bs MW
 ok:(NZ v key [TK p++Nk p.fs,MW] (Nk inner)).2.2=0
noncomputable def Mk.G(v:VV)(p:PK)(key MW:List Int)(inner:List FF):FF:=(1028,QE MW (NZ v key [TK p++Nk p.fs,MW] (Nk inner)).2.1)
noncomputable def Mk.T(v:VV)(p:PK)(key MW:List Int)(inner:List FF):List Int:=TK p++Nk (p.fs++[Mk.G v p key MW inner])
section
variable {v:VV} {p:PK} {key MW:List Int} {inner:List FF}
theorem Mk.sealed(m:Mk v p key MW inner):(NZ v key [TK p++Nk p.fs,MW] (Nk inner)).2.1.length=(Nk inner).length+16/\Bs (NZ v key [TK p++Nk p.fs,MW] (Nk inner)).2.1:=(Uh m.hv m.ok).2.2
theorem Mk.gok(m:Mk v p key MW inner):Wq (Mk.G v p key MW inner)/\(Mk.G v p key MW inner).2.length<=(Nk inner).length+39:=by
 have hs:=m.sealed;have hp:Ry (NZ v key [TK p++Nk p.fs,MW] (Nk inner)).2.1.length<4/\((NZ v key [TK p++Nk p.fs,MW] (Nk inner)).2.1.length+Ry (NZ v key [TK p++Nk p.fs,MW] (Nk inner)).2.1.length)%4=0:=by unfold Ry;omega
 have hl:=VO (sealed:=(NZ v key [TK p++Nk p.fs,MW] (Nk inner)).2.1) m.n;have:=m.len;exact⟨⟨by show (0:Int)<=1028;decide,by show (1028:Int)<65536;decide,by show 12<=(QE _ _).length;omega,by show (QE _ _).length%4=0;omega,by show (QE _ _).length<65532;omega,acJ m.nb hs.2⟩,by show (QE _ _).length<=_;omega⟩
theorem Mk.adO(m:Mk v p key MW inner):(Nk (p.fs++[Mk.G v p key MW inner])).length<=1232/\(Nk (p.fs++[Mk.G v p key MW inner])).length<=(Nk p.fs).length+(Nk inner).length+43:=by
 have:=m.gok.2;have:=m.len;rw[S_,Ub,ag5,Qb];omega
theorem Mk.fok(m:Mk v p key MW inner): ∀f∈p.fs++[Mk.G v p key MW inner],Wq f:=fun f hf=>by
 rcases ahu.1 hf with hf|hf
 ·exact m.fo f hf
 ·rw[ahx.1 hf];exact m.gok.1
theorem Mk.made(m:Mk v p key MW inner):QF v p key MW inner=((NZ v key [TK p++Nk p.fs,MW] (Nk inner)).1,Mk.T v p key MW inner,0):=by
 have hl:=m.len;have w1:VK p=0:=by unfold VK;rw[if_pos m.po.hd];exact Um m.fo (by have:=m.p16;omega) (by omega)
 have w2:Vr p=TK p++Nk p.fs:=by unfold Vr;rw[if_pos w1]
 have hi:Rl inner=0:=Um m.io m.i16 (by omega);have hi2:QW inner=Nk inner:=by unfold QW;rw[if_pos hi]
 have ha:QB v key MW (TK p++Nk p.fs) inner=((NZ v key [TK p++Nk p.fs,MW] (Nk inner)).1,Mk.G v p key MW inner,0):=by
  unfold QB;rw[if_pos m.n,if_neg (show ¬(TK p++Nk p.fs).length>1280 by rw[ag5,TQ];omega),if_pos hi,hi2,if_pos m.ok];rfl
 have w3:VK (PK.cut p (p.fs++[Mk.G v p key MW inner]))=0:=by
  unfold VK;rw[if_pos (show Vt (PK.cut p (p.fs++[Mk.G v p key MW inner]))=true from m.po.hd)];exact Um (l:=p.fs++[Mk.G v p key MW inner]) m.fok (by have:=m.p16;simp;omega) m.adO.1
 have w4:Vr (PK.cut p (p.fs++[Mk.G v p key MW inner]))=Mk.T v p key MW inner:=by unfold Vr;rw[if_pos w3];rfl
 unfold QF;rw[m.no,if_neg (by decide),if_pos w1,w2,ha,if_pos rfl,if_pos w3,w4]
theorem Mk.read(m:Mk v p key MW inner):Ws (Mk.T v p key MW inner)=0/\Po (Mk.T v p key MW inner)=PK.cut p (p.fs++[Mk.G v p key MW inner]):=by
 have h:=m.po;exact X3 (p:=PK.cut p (p.fs++[Mk.G v p key MW inner])) ⟨h.hd,h.a,h.b,h.c,h.d,h.e,h.f,h.g⟩ m.fok (by have:=m.p16;show (p.fs++[Mk.G v p key MW inner]).length<=16;simp;omega) m.adO.1
theorem Mk.bytes(m:Mk v p key MW inner):Bs (Mk.T v p key MW inner)/\(Mk.T v p key MW inner).length<=1280:=by
 refine⟨(adp _).app (WA fun f hf=>(m.fok f hf).b),?_⟩;have:=m.adO.1;unfold Mk.T;rw[ag5,TQ];omega
theorem Mk.opens(m:Mk v p key MW inner){u:VV}(x:Ext (NZ v key [TK p++Nk p.fs,MW] (Nk inner)).1 u)(hu:Pq u=true):UJ u (Mk.T v p key MW inner) key=((PK.cut p [],(p.fs,inner)),0):=by
 have hl:=m.len;have e1:(Po (Mk.T v p key MW inner)).fs=p.fs++[Mk.G v p key MW inner]:=by rw[m.read.2]
 have e2:RG (Po (Mk.T v p key MW inner)).fs 1028=some p.fs.length:=by rw[e1];exact XP m.no rfl
 have e3:UE (rd f0 (Po (Mk.T v p key MW inner)).fs (p.fs.length:Int)).2=(MW,(NZ v key [TK p++Nk p.fs,MW] (Nk inner)).2.1,0):=by rw[e1,ab1];exact ac8 m.n (by have:=m.sealed.1;omega)
 have e4:(Po (Mk.T v p key MW inner)).fs.take p.fs.length=p.fs:=by rw[e1,ahX];rfl
 have e5:(Mk.T v p key MW inner).take (48+(Nk p.fs).length)=TK p++Nk p.fs:=by
  unfold Mk.T;rw[S_,<-ahs];exact ahX (by rw[ag5,TQ])
 have e6:=Ya m.hv m.ok (WA fun f hf=>(m.io f hf).b) x hu;have e7:=aaC inner _ [] m.io (ahQ _) (by have:=m.i16;simp;omega);unfold UJ;rw[if_pos m.read.1,e2];simp only[e3,e4,e5,e6,e7,if_true,ahI];rw[m.read.2]
end
end Go.AM
end
section
namespace Go.AM
abbrev RK:=Int×List Int×Int
abbrev r0:RK:=(0,([],0))
abbrev RR:=List RK×Int
abbrev CK:=Int×List Int×List Int
def V9(a:Int):Int:=if a=15 then 32 else if a=17 then 64 else 0
theorem abI(a:Int):Ro.run .lim (a,())=some (V9 a):=by
 simp only[Ro.run];unfold V9;by_cases h:a=15
 ·rw[MV h,if_pos h];rfl
 ·rw[M_ h,if_neg h];by_cases h2:a=17
  ·rw[MV h2,if_pos h2];rfl
  ·rw[M_ h2,if_neg h2];rfl
theorem aaV(a:Int):PE.run .lim (a,())=some (V9 a):=by
 simp only[PE.run];unfold V9;by_cases h:a=15
 ·rw[MV h,if_pos h];rfl
 ·rw[M_ h,if_neg h];by_cases h2:a=17
  ·rw[MV h2,if_pos h2];rfl
  ·rw[M_ h2,if_neg h2];rfl
def QV(k:CK):Bool:=decide (V9 k.1>0)&&decide ((k.2.1.length:Int)=V9 k.1)&&decide ((k.2.2.length:Int)=V9 k.1)
structure KOk(k:CK):Prop where
 a:k.2.1.length<Nw
 b:k.2.2.length<Nw
theorem aac{k:CK}(h:KOk k):RV.run .lim (k,())=some (QV k):=by
 have h1:k.2.1.length<9223372036854775808:=h.a;have h2:k.2.2.length<9223372036854775808:=h.b;simp only[RV.run,abI,ag3,Nh h1,Nh h2,aha,cond_true];rfl
theorem Xh{k:CK}(h:KOk k):OA.run .lim (k,())=some (QV k):=by
 have h1:k.2.1.length<9223372036854775808:=h.a;have h2:k.2.2.length<9223372036854775808:=h.b;simp only[OA.run,aaV,ag3,Nh h1,Nh h2,aha,cond_true];rfl
theorem Ql{k:CK}(h:QV k=true):(k.1=15/\k.2.1.length=32/\k.2.2.length=32)\/(k.1=17/\k.2.1.length=64/\k.2.2.length=64):=by
 unfold QV V9 at h;simp only[ahr,decide_eq_true_eq]at h;by_cases h1:k.1=15
 ·rw[if_pos h1]at h;omega
 ·rw[if_neg h1]at h;by_cases h2:k.1=17
  ·rw[if_pos h2]at h;omega
  ·rw[if_neg h2]at h;omega
def O6(k:CK):List Int:=[0,k.1,0,0]++k.2.1++k.2.2
theorem TB{k:CK}:(O6 k).length=4+k.2.1.length+k.2.2.length:=by simp[O6];omega
theorem XL{k:CK}(h:QV k=true):QY.run .lim (k,())=some (O6 k):=by
 have hs:=Ql h;simp only[QY.run];have e1:ag8.wrap (Je .i64 k.1 8)=0:=by rcases hs with⟨q,_⟩|⟨q,_⟩<;>rw[q]<;>decide
 have e2:ag8.wrap k.1=k.1:=by rcases hs with⟨q,_⟩|⟨q,_⟩<;>rw[q]<;>decide
 rw[e1,e2,cond_pos (MV (by unfold maxStr;simp;omega)),cond_pos (MV (by unfold maxStr;simp;omega))];rfl
theorem Xi{k:CK}(h:QV k=true):OU.run .lim (k,())=some (O6 k):=by
 have hs:=Ql h;simp only[OU.run];have e1:ag8.wrap (ahe.wrap (k.1.tdiv 256))=0:=by rcases hs with⟨q,_⟩|⟨q,_⟩<;>rw[q]<;>decide
 have e2:ag8.wrap (k.1.tmod 256)=k.1:=by rcases hs with⟨q,_⟩|⟨q,_⟩<;>rw[q]<;>decide
 rw[e1,e2,cond_pos (MV (by unfold maxStr;simp;omega)),cond_pos (MV (by unfold maxStr;simp;omega))];rfl
def TL(id:Int):List Int:=[ag8.wrap (Je .u32 id 24),ag8.wrap (Je .u32 id 16),ag8.wrap (Je .u32 id 8),ag8.wrap id]
theorem aeH(id:Int):Bs (TL id):=fun x h=>by
 simp only[TL,ahD,ahA,or_false]at h;rcases h with rfl|rfl|rfl|rfl<;>exact Uk _
structure ROk(r:RR):Prop where
 len:1<=r.1.length/\r.1.length<=8
 key: ∀k∈r.1,k.2.1.length=32
 kb: ∀k∈r.1,Bs k.2.1
def Oq(r:RR):RK:=rd r0 r.1 ((r.1.length-1:Nat):Int)
theorem Qm{r:RR}(h:ROk r):Oq r∈r.1:=Ol (by omega) (by have:=h.len.1;omega)
noncomputable def mkS(v:VV)(m:RK)(k:CK)(MW:List Int):VV×List Int×Int:=
 if QV k=true then(if MW.length=16 then(
   if(NZ v m.2.1 [TL m.1,MW] (O6 k)).2.2=0 then((NZ v m.2.1 [TL m.1,MW] (O6 k)).1,(TL m.1++MW)++(NZ v m.2.1 [TL m.1,MW] (O6 k)).2.1,0)
   else(v,[],(NZ v m.2.1 [TL m.1,MW] (O6 k)).2.2))else(v,[],10))else(v,[],13)
theorem abu{m:RK}(hk:m.2.1.length=32)(hkb:Bs m.2.1){k:CK}(hf:QV k=true){MW:List Int}(hn:MW.length=16):Vs m.2.1 [TL m.1,MW] (O6 k):=by
 have:=Ql hf;refine⟨N7 (by omega),hkb,(show (2:Nat)<Nw by decide),fun t ht=> ?_,N7 (by rw[TB];omega)⟩;simp only[ahD,ahA,or_false]at ht;rcases ht with rfl|rfl
 ·exact(by decide:4<Nw)
 ·exact N7 (by omega)
theorem Xt{v:VV}(hf:Pq v=true)(key:List Int)(ad:List (List Int))(s:List Int):(NZ v key ad s).2.1.length<=65552:=by
 by_cases he:(NZ v key ad s).2.2=0
 ·have:=Uh hf he;omega
 ·rw[(aaw he).2];exact ait _
theorem aaf{id:Int}{MW s:List Int}(hn:MW.length=16)(hs:s.length<9223372036854775000):decide ((TL id).length+MW.length<=maxStr)=true/\decide ((TL id++MW).length+s.length<=maxStr)=true:=by
 have:(TL id).length=4:=rfl;exact⟨MV (by rw[this];unfold maxStr;omega),MV (by rw[ag5,this];unfold maxStr;omega)⟩
end Go.AM
end
section
namespace Go.AM
theorem abK{r:RR}(h:ROk r):ahe.wrap ((r.1.length:Int)-1)=((r.1.length-1:Nat):Int):=by have:=h.len;rw[wrap64 (by omega) (by omega)];omega
end Go.AM
end
section
namespace Go.AM
theorem ab4{v:VV}{r:RR}{k:CK}{MW:List Int}(hv:okV v)(hf:Pq v=true)(hr:ROk r)(hk:KOk k)(hn:MW.length<Nw):
  Qj.run .lim (v,r,k,MW,())=some ((mkS v (Oq r) k MW).1,(mkS v (Oq r) k MW).2.1,(mkS v (Oq r) k MW).2.2,()):=by
 have hn63:MW.length<9223372036854775808:=hn;have hl:=hr.len;have hm:=Qm hr;unfold mkS;simp only[Qj.run,Nh (show r.1.length<9223372036854775808 by omega),abK hr,Nj (show (0:Int)<=((r.1.length-1:Nat):Int) by omega) (show ((r.1.length-1:Nat):Int)<(r.1.length:Int) by omega),cond_true,Xh hk,ag3,Nh hn63];by_cases h1:QV k=true
 ·rw[h1,if_pos rfl];simp only[ag4,cond_false];by_cases h2:MW.length=16
  ·rw[MV (show (MW.length:Int)=16 by omega),if_pos h2];have T:=abu (hr.key _ hm) (hr.kb _ hm) h1 h2;have hs:=X7 hv T;have hsl:(NZ v (Oq r).2.1 [TL (Oq r).1,MW] (O6 k)).2.1.length<9223372036854775000:=by
    have:=Xt hf (Oq r).2.1 [TL (Oq r).1,MW] (O6 k);omega
   obtain⟨j1,j2⟩:=aaf (id:=(Oq r).1) h2 hsl;unfold Oq TL at*;simp only[ag4,cond_false,Xi h1,Qn.run,ag3,hs,j1,j2,cond_true];by_cases h3:(NZ v (rd r0 r.1 ((r.1.length-1:Nat):Int)).2.1 [[ag8.wrap (Je .u32 (rd r0 r.1 ((r.1.length-1:Nat):Int)).1 24),ag8.wrap (Je .u32 (rd r0 r.1 ((r.1.length-1:Nat):Int)).1 16),ag8.wrap (Je .u32 (rd r0 r.1 ((r.1.length-1:Nat):Int)).1 8),ag8.wrap (rd r0 r.1 ((r.1.length-1:Nat):Int)).1],MW] (O6 k)).2.2=0
   ·rw[MV h3,if_pos h3];rfl
   ·rw[M_ h3,if_neg h3];rfl
  ·rw[M_ (show ¬(MW.length:Int)=16 by omega),if_neg h2];rfl
 ·have h1':QV k=false:=by simpa using h1
  rw[h1',if_neg (by decide)];rfl
def SC(xs:List RK)(id:Int):Int:=match (aho xs.length).find? (fun j:Nat=>decide ((rd r0 xs (j:Int)).1=id))with
 |some k=>(k:Int)
 |none=> -1
theorem ad7{r:RR}(id:Int)(h:r.1.length<Nw):Qx.run .lim (r,id,())=some (SC r.1 id):=by
 have h63:r.1.length<9223372036854775808:=h;have e:=Qq (f:=Qx.l0 .lim) (fun j=>(r.1,(r.1.length:Int),(j:Int),id,())) r.1.length (fun j=>decide ((rd r0 r.1 (j:Int)).1=id)) (fun j=>some (.inl ((j:Int),()))) (fun k hk=>by
  rw[Qx.q0];simp only[Qx.b0,MV (show (k:Int)<(r.1.length:Int) by omega),Nj (show (0:Int)<=(k:Int) by omega) (show (k:Int)<(r.1.length:Int) by omega),cond_true,wk k (by omega)])
 rw[show ((0:Nat):Int)=0 from rfl]at e;simp only[Qx.run,Nh h63,cond_true,e];unfold SC;cases hq:(aho r.1.length).find? (fun j:Nat=>decide ((rd r0 r.1 (j:Int)).1=id))with
 |some k=>rfl
 |none=>
  simp only;rw[Qx.q0];simp only[Qx.b0,M_ (show ¬(r.1.length:Int)<(r.1.length:Int) by omega),cond_false,ag3]
theorem ac1{r:RR}(id:Int)(h:r.1.length<Nw):Ot.run .lim (r,id,())=some (SC r.1 id):=by
 have h63:r.1.length<9223372036854775808:=h;have e:=Qq (f:=Ot.l0 .lim) (fun j=>(id,(j:Int),r.1,r.2,())) r.1.length (fun j=>decide ((rd r0 r.1 (j:Int)).1=id)) (fun j=>some (.inl ((j:Int),()))) (fun k hk=>by
  rw[Ot.q0];simp only[Ot.b0,Nh h63,MV (show (k:Int)<(r.1.length:Int) by omega),Nj (show (0:Int)<=(k:Int) by omega) (show (k:Int)<(r.1.length:Int) by omega),cond_true,wk k (by omega)])
 rw[show ((0:Nat):Int)=0 from rfl]at e;simp only[Ot.run,e];unfold SC;cases hq:(aho r.1.length).find? (fun j:Nat=>decide ((rd r0 r.1 (j:Int)).1=id))with
 |some k=>rfl
 |none=>
  simp only;rw[Ot.q0];simp only[Ot.b0,Nh h63,M_ (show ¬(r.1.length:Int)<(r.1.length:Int) by omega),cond_true,cond_false,ag3]
theorem WZ{xs:List RK}{id:Int}:(SC xs id= -1/\ ∀k,k<xs.length->(rd r0 xs (k:Int)).1≠id)\/ ∃k,k<xs.length/\SC xs id=(k:Int)/\(rd r0 xs (k:Int)).1=id/\ ∀j,j<k->(rd r0 xs (j:Int)).1≠id:=by
 unfold SC;cases hq:(aho xs.length).find? (fun j:Nat=>decide ((rd r0 xs (j:Int)).1=id))with
 |some k=>
  obtain⟨h1,h2,h3⟩:=ahN.1 hq;exact .inr ⟨k,ahv.1 h2,rfl,by simpa using h1,fun j hj=>by simpa using h3 j hj⟩
 |none=>
  refine .inl ⟨rfl,fun k hk=> ?_⟩;have:=ah1.1 hq k (ahv.2 hk);simpa using this
def Vp(s:List Int):Int:=((rd 0 s 0*256+rd 0 s 1)*256+rd 0 s 2)*256+rd 0 s 3
theorem XI{s:List Int}(h:Bs s){i:Int}(h1:0<=i)(h2:i<s.length):B8 (rd 0 s i):=h _ (Ol h1 h2)
def Zl(p:List Int):CK:=(rd 0 p 0*256+rd 0 p 1,cut p 4 ((2+p.length/2:Nat):Int),cut p ((2+p.length/2:Nat):Int) (p.length:Int))
def Vu(p:List Int):CK×Int:=if 4<=p.length/\QV (Zl p)=true/\O6 (Zl p)=p then(Zl p,0)else((0,([],[])),10)
noncomputable def Qw(v:VV)(r:RR)(s:List Int):CK×Int:=
 if s.length<20 then((0,([],[])),11)else
 if SC r.1 (Vp s)<0 then((0,([],[])),19)else
 if(O9 v (rd r0 r.1 (SC r.1 (Vp s))).2.1 [cut s 0 4,cut s 4 20] (cut s 20 (s.length:Int))).2=0 then
  Vu (O9 v (rd r0 r.1 (SC r.1 (Vp s))).2.1 [cut s 0 4,cut s 4 20] (cut s 20 (s.length:Int))).1
 else((0,([],[])),(O9 v (rd r0 r.1 (SC r.1 (Vp s))).2.1 [cut s 0 4,cut s 4 20] (cut s 20 (s.length:Int))).2)
theorem RY{α:Type}{s:List α}{a b:Nat}(h1:a<=b)(h2:b<=s.length):(cut s (a:Int) (b:Int)).length=b-a:=by unfold cut;simp;omega
theorem ZC{s:List Int}(h:Bs s)(a b:Int):Bs (cut s a b):=fun x hx=>by
 unfold cut at hx;exact h x (ahT (aif hx))
theorem abU{p:List Int}(h:p.length<Nw)(h4:4<=p.length):KOk (Zl p):=by
 have h':p.length<9223372036854775808:=h;unfold Zl;refine⟨?_,?_⟩
 ·show (cut p ((4:Nat):Int) ((2+p.length/2:Nat):Int)).length<Nw;rw[RY (by omega) (by omega)];exact N7 (by omega)
 ·show (cut p ((2+p.length/2:Nat):Int) (p.length:Int)).length<Nw;rw[RY (by omega) (by omega)];exact N7 (by omega)
theorem YL{v:VV}{r:RR}{s:List Int}(hv:okV v)(hf:Pq v=true)(hb:vB v)(hr:ROk r)(hs:s.length<Nw)(hsb:Bs s):
  S9.run .lim (v,r,s,())=some ((Qw v r s).1,(Qw v r s).2,()):=by
 have hs63:s.length<9223372036854775808:=hs;have hl:=hr.len;unfold Qw;simp only[S9.run,Nh hs63,cond_true];by_cases h1:s.length<20
 ·rw[MV (show (s.length:Int)<20 by omega),if_pos h1];rfl
 ·rw[M_ (show ¬(s.length:Int)<20 by omega),if_neg h1];have hi: ∀i:Int,0<=i->i<4->B8 (rd 0 s i):=fun i a b=>XI hsb a (by omega)
  have hn:KY .u32 (KY .u32 (KY .u32 (Jd .u32 (ahy.wrap (rd 0 s 0)) 24) (Jd .u32 (ahy.wrap (rd 0 s 1)) 16)) (Jd .u32 (ahy.wrap (rd 0 s 2)) 8)) (ahy.wrap (rd 0 s 3))=Vp s:=
   aeZ (hi 0 (by omega) (by omega)) (hi 1 (by omega) (by omega)) (hi 2 (by omega) (by omega)) (hi 3 (by omega) (by omega))
  simp only[cond_false,Nj (show (0:Int)<=0 by omega) (show (0:Int)<(s.length:Int) by omega),Nj (show (0:Int)<=1 by omega) (show (1:Int)<(s.length:Int) by omega),Nj (show (0:Int)<=2 by omega) (show (2:Int)<(s.length:Int) by omega),Nj (show (0:Int)<=3 by omega) (show (3:Int)<(s.length:Int) by omega),cond_true,hn,ad7 (Vp s) (show r.1.length<Nw from N7 (by omega)),ag3];rcases WZ (xs:=r.1) (id:=Vp s)with⟨e,_⟩|⟨k,hk,e,_,_⟩
  ·rw[e,MV (show (-1:Int)<0 by decide),if_pos (show (-1:Int)<0 by decide)];rfl
  ·rw[e,M_ (show ¬(k:Int)<0 by omega),if_neg (show ¬(k:Int)<0 by omega)];have hm:rd r0 r.1 (k:Int)∈r.1:=Ol (by omega) (by omega);have T:Vs (rd r0 r.1 (k:Int)).2.1 [cut s 0 4,cut s 4 20] (cut s 20 (s.length:Int)):=by
    have c1:(cut s 0 4).length=4:=RY (a:=0) (b:=4) (by omega) (by omega);have c2:(cut s 4 20).length=16:=RY (a:=4) (b:=20) (by omega) (by omega);have c3:(cut s 20 (s.length:Int)).length=s.length-20:=RY (a:=20) (b:=s.length) (by omega) (by omega);refine⟨N7 (by rw[hr.key _ hm];omega),hr.kb _ hm,(show (2:Nat)<Nw by decide),fun t ht=> ?_,N7 (by omega)⟩;simp only[ahD,ahA,or_false]at ht;rcases ht with rfl|rfl
    ·exact N7 (by omega)
    ·exact N7 (by omega)
   simp only[cond_false,Nj (show (0:Int)<=(k:Int) by omega) (show (k:Int)<(r.1.length:Int) by omega),Nq (show (0:Int)<=0 by omega) (show (0:Int)<=4 by omega) (show (4:Int)<=(s.length:Int) by omega),
    Nq (show (0:Int)<=4 by omega) (show (4:Int)<=20 by omega) (show (20:Int)<=(s.length:Int) by omega),Nq (show (0:Int)<=20 by omega) (show (20:Int)<=(s.length:Int) by omega) (show (s.length:Int)<=(s.length:Int) by omega),cond_true,Xf hv T (ZC hsb _ _),ag3]
   by_cases h0:(O9 v (rd r0 r.1 (k:Int)).2.1 [cut s 0 4,cut s 4 20] (cut s 20 (s.length:Int))).2=0
   ·obtain⟨_,y2,_,y4⟩:=UN hf hb h0;rw[MV h0,if_pos h0];generalize (O9 v (rd r0 r.1 (k:Int)).2.1 [cut s 0 4,cut s 4 20] (cut s 20 (s.length:Int))).1=p at y2 y4 ⊢
    unfold Vu;simp only[ag4,cond_false,Nh (show p.length<9223372036854775808 by omega),cond_true];by_cases h4:p.length<4
    ·rw[MV (show (p.length:Int)<4 by omega),if_neg (by omega)];rfl
    ·have hm2:ahe.wrap (2+ahe.wrap ((p.length:Int).tdiv 2))=((2+p.length/2:Nat):Int):=by rw[aht (by omega),wrap64 (n:=(p.length:Int)/2) (by omega) (by omega),wrap64 (by omega) (by omega)];omega
     have hn2:=ad2 (XI y4 (show (0:Int)<=0 by omega) (show (0:Int)<(p.length:Int) by omega)) (XI y4 (show (0:Int)<=1 by omega) (show (1:Int)<(p.length:Int) by omega));have hko:=abU (p:=p) (N7 (by omega)) (by omega);rw[M_ (show ¬(p.length:Int)<4 by omega)];simp only[cond_false,Nj (show (0:Int)<=0 by omega) (show (0:Int)<(p.length:Int) by omega),Nj (show (0:Int)<=1 by omega) (show (1:Int)<(p.length:Int) by omega),cond_true,hm2,hn2,
      Nq (show (0:Int)<=4 by omega) (show (4:Int)<=((2+p.length/2:Nat):Int) by omega) (show ((2+p.length/2:Nat):Int)<=(p.length:Int) by omega),
      Nq (show (0:Int)<=((2+p.length/2:Nat):Int) by omega) (show ((2+p.length/2:Nat):Int)<=(p.length:Int) by omega) (show (p.length:Int)<=(p.length:Int) by omega)]
     change (RV.run .lim (Zl p,())).bind _=_
     rw[aac hko,ag3];by_cases hq:QV (Zl p)=true
     ·have hpl:=XL hq;unfold Zl at hq hpl ⊢
      rw[hq];simp only[ag4,ag7,cond_true,hpl,ag3,ahb];by_cases hw:O6 (rd 0 p 0*256+rd 0 p 1,cut p 4 ((2+p.length/2:Nat):Int),cut p ((2+p.length/2:Nat):Int) (p.length:Int))=p
      ·rw[MV hw,if_pos ⟨by omega,by first|rfl|trivial,hw⟩];rfl
      ·rw[M_ hw,if_neg (fun z=>hw z.2.2)];rfl
     ·have hq':QV (Zl p)=false:=by simpa using hq
      rw[if_neg (fun z=>hq z.2.1)];rw[hq'];rfl
   ·rw[M_ h0,if_neg h0];rfl
theorem aaU{v:VV}{r:RR}{s:List Int}(hv:okV v)(hf:Pq v=true)(hb:vB v)(hr:ROk r)(hs:s.length<Nw)(hsb:Bs s):
  O5.run .lim (v,r,s,())=some ((Qw v r s).1,(Qw v r s).2,()):=by
 have hs63:s.length<9223372036854775808:=hs;have hl:=hr.len;unfold Qw;simp only[O5.run,Nh hs63,cond_true];by_cases h1:s.length<20
 ·rw[MV (show (s.length:Int)<20 by omega),if_pos h1];rfl
 ·rw[M_ (show ¬(s.length:Int)<20 by omega),if_neg h1];have hi: ∀i:Int,0<=i->i<4->B8 (rd 0 s i):=fun i a b=>XI hsb a (by omega)
  have hn:KY .u32 (KY .u32 (KY .u32 (Jd .u32 (ahy.wrap (rd 0 s 0)) 24) (Jd .u32 (ahy.wrap (rd 0 s 1)) 16)) (Jd .u32 (ahy.wrap (rd 0 s 2)) 8)) (ahy.wrap (rd 0 s 3))=Vp s:=
   aeZ (hi 0 (by omega) (by omega)) (hi 1 (by omega) (by omega)) (hi 2 (by omega) (by omega)) (hi 3 (by omega) (by omega))
  simp only[cond_false,Nj (show (0:Int)<=0 by omega) (show (0:Int)<(s.length:Int) by omega),Nj (show (0:Int)<=1 by omega) (show (1:Int)<(s.length:Int) by omega),Nj (show (0:Int)<=2 by omega) (show (2:Int)<(s.length:Int) by omega),Nj (show (0:Int)<=3 by omega) (show (3:Int)<(s.length:Int) by omega),cond_true,hn,ac1 (Vp s) (show r.1.length<Nw from N7 (by omega)),ag3];rcases WZ (xs:=r.1) (id:=Vp s)with⟨e,_⟩|⟨k,hk,e,_,_⟩
  ·rw[e,MV (show (-1:Int)<0 by decide),if_pos (show (-1:Int)<0 by decide)];rfl
  ·rw[e,M_ (show ¬(k:Int)<0 by omega),if_neg (show ¬(k:Int)<0 by omega)];have hm:rd r0 r.1 (k:Int)∈r.1:=Ol (by omega) (by omega);have T:Vs (rd r0 r.1 (k:Int)).2.1 [cut s 0 4,cut s 4 20] (cut s 20 (s.length:Int)):=by
    have c1:(cut s 0 4).length=4:=RY (a:=0) (b:=4) (by omega) (by omega);have c2:(cut s 4 20).length=16:=RY (a:=4) (b:=20) (by omega) (by omega);have c3:(cut s 20 (s.length:Int)).length=s.length-20:=RY (a:=20) (b:=s.length) (by omega) (by omega);refine⟨N7 (by rw[hr.key _ hm];omega),hr.kb _ hm,(show (2:Nat)<Nw by decide),fun t ht=> ?_,N7 (by omega)⟩;simp only[ahD,ahA,or_false]at ht;rcases ht with rfl|rfl
    ·exact N7 (by omega)
    ·exact N7 (by omega)
   simp only[cond_false,Nj (show (0:Int)<=(k:Int) by omega) (show (k:Int)<(r.1.length:Int) by omega),Nq (show (0:Int)<=0 by omega) (show (0:Int)<=4 by omega) (show (4:Int)<=(s.length:Int) by omega),
    Nq (show (0:Int)<=4 by omega) (show (4:Int)<=20 by omega) (show (20:Int)<=(s.length:Int) by omega),Nq (show (0:Int)<=20 by omega) (show (20:Int)<=(s.length:Int) by omega) (show (s.length:Int)<=(s.length:Int) by omega),cond_true,X6 hv T,ag3]
   by_cases h0:(O9 v (rd r0 r.1 (k:Int)).2.1 [cut s 0 4,cut s 4 20] (cut s 20 (s.length:Int))).2=0
   ·obtain⟨_,y2,_,y4⟩:=UN hf hb h0;rw[MV h0,if_pos h0];generalize (O9 v (rd r0 r.1 (k:Int)).2.1 [cut s 0 4,cut s 4 20] (cut s 20 (s.length:Int))).1=p at y2 y4 ⊢
    unfold Vu;simp only[ag4,cond_false,Nh (show p.length<9223372036854775808 by omega),cond_true];by_cases h4:p.length<4
    ·rw[M_ (show ¬(p.length:Int)>=4 by omega),if_neg (by omega)];rfl
    ·have hm2:ahe.wrap (4+ahe.wrap ((ahe.wrap ((p.length:Int)-4)).tdiv 2))=((2+p.length/2:Nat):Int):=by rw[wrap64 (n:=(p.length:Int)-4) (by omega) (by omega),aht (by omega),wrap64 (n:=((p.length:Int)-4)/2) (by omega) (by omega),wrap64 (by omega) (by omega)];omega
     have hn2:=abT (XI y4 (show (0:Int)<=0 by omega) (show (0:Int)<(p.length:Int) by omega)) (XI y4 (show (0:Int)<=1 by omega) (show (1:Int)<(p.length:Int) by omega));have hko:=abU (p:=p) (N7 (by omega)) (by omega);rw[MV (show (p.length:Int)>=4 by omega)];simp only[cond_false,Nj (show (0:Int)<=0 by omega) (show (0:Int)<(p.length:Int) by omega),Nj (show (0:Int)<=1 by omega) (show (1:Int)<(p.length:Int) by omega),cond_true,hm2,hn2,
      Nq (show (0:Int)<=4 by omega) (show (4:Int)<=((2+p.length/2:Nat):Int) by omega) (show ((2+p.length/2:Nat):Int)<=(p.length:Int) by omega),
      Nq (show (0:Int)<=((2+p.length/2:Nat):Int) by omega) (show ((2+p.length/2:Nat):Int)<=(p.length:Int) by omega) (show (p.length:Int)<=(p.length:Int) by omega)]
     change (OA.run .lim (Zl p,())).bind _=_
     rw[Xh hko,ag3];by_cases hq:QV (Zl p)=true
     ·have hpl:=Xi hq;unfold Zl at hq hpl ⊢
      rw[hq];simp only[ag4,ag7,cond_true,hpl,ag3,ahb];by_cases hw:O6 (rd 0 p 0*256+rd 0 p 1,cut p 4 ((2+p.length/2:Nat):Int),cut p ((2+p.length/2:Nat):Int) (p.length:Int))=p
      ·rw[MV hw,if_pos ⟨by omega,by first|rfl|trivial,hw⟩];rfl
      ·rw[M_ hw,if_neg (fun z=>hw z.2.2)];rfl
     ·have hq':QV (Zl p)=false:=by simpa using hq
      rw[if_neg (fun z=>hq z.2.1)];rw[hq'];rfl
   ·rw[M_ h0,if_neg h0];rfl
end Go.AM
end
section
namespace Go.AM
def badR(r:RR)(i:Nat):Bool:=
 ((!decide ((rd r0 r.1 (i:Int)).2.1.length=32))||(!decide ((rd r0 r.1 (i:Int)).1=(r.2-((r.1.length-i:Nat):Int))%4294967296)))||(decide (0<i)&&decide ((rd r0 r.1 (i:Int)).2.2<(rd r0 r.1 ((i-1:Nat):Int)).2.2))
def W9(r:RR):Bool:=decide (1<=r.1.length/\r.1.length<=8)&& !((aho r.1.length).any (badR r))
theorem acQ{r:RR}(hl:r.1.length<Nw)(hk: ∀k∈r.1,k.2.1.length<Nw):Oz.run .lim (r,())=some (W9 r):=by
 have hl63:r.1.length<9223372036854775808:=hl;simp only[Oz.run,Nh hl63,cond_true];unfold W9;by_cases h:1<=r.1.length/\r.1.length<=8
 ·have hn:(decide ((r.1.length:Int)<1)||decide ((r.1.length:Int)>8))=false:=by rw[M_ (show ¬(r.1.length:Int)<1 by omega),M_ (show ¬(r.1.length:Int)>8 by omega)];rfl
  have e:=Ue (f:=Oz.l0 .lim) (fun j=>((r.1.length:Int),(j:Int),r.1,r.2,())) r.1.length (badR r) (some (.inl (false,()))) (fun k hk'=>by
   have hkl:=hk _ (Ol (d:=r0) (xs:=r.1) (i:=(k:Int)) (by omega) (by omega));have abC:(rd r0 r.1 (k:Int)).2.1.length<9223372036854775808:=hkl;rw[Oz.q0];have hw:ahy.wrap (r.2-ahy.wrap (ahe.wrap ((r.1.length:Int)-(k:Int))))=(r.2-((r.1.length-k:Nat):Int))%4294967296:=by rw[wrap64 (by omega) (by omega),SS,SS];omega
   have hd:decide (((rd r0 r.1 (k:Int)).2.1.length:Int)=32)=decide ((rd r0 r.1 (k:Int)).2.1.length=32):=by
    by_cases q:(rd r0 r.1 (k:Int)).2.1.length=32
    ·rw[MV q,MV (by omega)]
    ·rw[M_ q,M_ (by omega)]
   simp only[Oz.b0,MV (show (k:Int)<(r.1.length:Int) by omega),Nj (show (0:Int)<=(k:Int) by omega) (show (k:Int)<(r.1.length:Int) by omega),cond_true,Nh abC,hw,hd,wk k (by omega)];unfold badR;by_cases h0:0<k
   ·have w1:ahe.wrap ((k:Int)-1)=((k-1:Nat):Int):=by rw[wrap64 (by omega) (by omega)];omega
    rw[w1,Nj (show (0:Int)<=((k-1:Nat):Int) by omega) (show ((k-1:Nat):Int)<(r.1.length:Int) by omega),MV h0,MV (show (k:Int)>0 by omega)];simp only[aha,cond_true,ahc]
   ·rw[M_ h0,M_ (show ¬(k:Int)>0 by omega)];simp only[ag9,ag7,ahh,cond_true,ag_,ahf])
  rw[show ((0:Nat):Int)=0 from rfl]at e;rw[hn,MV h];simp only[cond_false,ahc,e];cases hb:(aho r.1.length).any (badR r)with
  |true=>rfl
  |false=>
   simp only[cond_false];rw[Oz.q0];simp only[Oz.b0,M_ (show ¬(r.1.length:Int)<(r.1.length:Int) by omega),cond_false,ag3,ag7]
 ·have hn:(decide ((r.1.length:Int)<1)||decide ((r.1.length:Int)>8))=true:=by
   by_cases q:r.1.length<1
   ·rw[MV (show (r.1.length:Int)<1 by omega)];rfl
   ·rw[MV (show (r.1.length:Int)>8 by omega),aha]
  rw[hn,M_ h];rfl
theorem XQ{r:RR}(h:W9 r=true):(1<=r.1.length/\r.1.length<=8)/\ ∀i,i<r.1.length->(rd r0 r.1 (i:Int)).2.1.length=32/\(rd r0 r.1 (i:Int)).1=(r.2-((r.1.length-i:Nat):Int))%4294967296/\(0<i->(rd r0 r.1 ((i-1:Nat):Int)).2.2<=(rd r0 r.1 (i:Int)).2.2):=by
 unfold W9 at h;simp only[ahr,decide_eq_true_eq,ahM,ah3,ahv]at h;refine⟨h.1,fun i hi=> ?_⟩;have:=h.2 i hi;unfold badR at this;simp only[aia,ahM,decide_eq_false_iff_not,ahr,decide_eq_true_eq,not_or,not_and,Decidable.not_not]at this;exact⟨this.1.1,this.1.2,fun h0=>by have:=this.2 h0;omega⟩
structure RB(r:RR):Prop where
 l:r.1.length<Nw
 k: ∀k∈r.1,k.2.1.length<Nw/\Bs k.2.1
theorem Yp{r:RR}(h:W9 r=true)(b:RB r):ROk r:=by
 obtain⟨h1,h2⟩:=XQ h;refine⟨h1,fun k hk=> ?_,fun k hk=>(b.k k hk).2⟩;obtain⟨i,hi,e⟩:=List.getElem_of_mem hk;have:=(h2 i hi).1;rw[Qz hi,e]at this;exact this
end Go.AM
end
section
namespace Go.AM
def Wh(r:RR)(k:Nat):Int:=if k=0 then(rd r0 r.1 0).2.2 else(rd r0 r.1 ((k-1:Nat):Int)).2.2
theorem aby{c:Nat->Bool}{n:Nat}:(aho n).any c=((aho n).find? c).isSome:=by rw[ah_,List.any_eq_true,List.find?_isSome]
theorem ZW{r:RR}(hl:r.1.length<Nw)(hk: ∀k∈r.1,k.2.1.length<Nw):QA.run .lim (r,())=some (W9 r):=by
 have hl63:r.1.length<9223372036854775808:=hl;simp only[QA.run,Nh hl63,aha,cond_true];unfold W9;by_cases h:1<=r.1.length/\r.1.length<=8
 ·have hn:(decide ((r.1.length:Int)<1)||decide ((r.1.length:Int)>8))=false:=by rw[M_ (show ¬(r.1.length:Int)<1 by omega),M_ (show ¬(r.1.length:Int)>8 by omega)];rfl
  rw[cond_neg hn,Nj (by decide) (by omega),cond_true,MV h,ahc];have e:=Qq (f:=QA.l0 .lim) (fun j=>((r.2-((r.1.length-j:Nat):Int))%4294967296,r.1,(r.1.length:Int),(j:Int),false,Wh r j,())) r.1.length (badR r) (fun j=>some (.inl (false,Wh r j,()))) (fun k hk'=>by
   have hkl:=hk _ (Ol (d:=r0) (xs:=r.1) (i:=(k:Int)) (by omega) (by omega));have abC:(rd r0 r.1 (k:Int)).2.1.length<9223372036854775808:=hkl;rw[QA.q0];simp only[QA.b0];rw[cond_pos (MV (show (k:Int)<(r.1.length:Int) by omega)),Nj (by omega) (show (k:Int)<(r.1.length:Int) by omega),cond_true,Nh abC,cond_true];have e1:decide (((rd r0 r.1 (k:Int)).2.1.length:Int)=32)=decide ((rd r0 r.1 (k:Int)).2.1.length=32):=by
    by_cases q:(rd r0 r.1 (k:Int)).2.1.length=32
    ·rw[MV q,MV (by omega)]
    ·rw[M_ q,M_ (by omega)]
   have e2:decide ((rd r0 r.1 (k:Int)).2.2<Wh r k)=(decide (0<k)&&decide ((rd r0 r.1 (k:Int)).2.2<(rd r0 r.1 ((k-1:Nat):Int)).2.2)):=by
    unfold Wh;by_cases q:k=0
    ·subst q;rw[if_pos rfl,M_ (show ¬0<0 by omega),ag_];exact M_ (Int.lt_irrefl _)
    ·rw[if_neg q,MV (show 0<k by omega),ahc]
   have e3:((!(decide (((rd r0 r.1 (k:Int)).2.1.length:Int)=32)))||(!(decide ((rd r0 r.1 (k:Int)).1=(r.2-((r.1.length-k:Nat):Int))%4294967296)))||(decide ((rd r0 r.1 (k:Int)).2.2<Wh r k)))=badR r k:=by rw[e1,e2];rfl
   have e4:ahy.wrap ((r.2-((r.1.length-k:Nat):Int))%4294967296+1)=(r.2-((r.1.length-(k+1):Nat):Int))%4294967296:=by rw[SS];omega
   have e5:(rd r0 r.1 (k:Int)).2.2=Wh r (k+1):=by unfold Wh;rw[if_neg (by omega)];rfl
   have e3':(((!(decide (((((rd ((0:Int),(([]:List Int),(0:Int))) r.1 (k:Int)).2).1).length:Int)=32)))||(!(decide (((rd ((0:Int),(([]:List Int),(0:Int))) r.1 (k:Int)).1)=(r.2-((r.1.length-k:Nat):Int))%4294967296))))||(decide ((((rd ((0:Int),(([]:List Int),(0:Int))) r.1 (k:Int)).2).2)<Wh r k)))=badR r k:=e3;rw[e3',e4,QU k (by omega)]
   first|rfl|(congr 1;rw[<-e5]))
  have hw:ahy.wrap (r.2-ahy.wrap (r.1.length:Int))=(r.2-((r.1.length-0:Nat):Int))%4294967296:=by rw[SS,SS];omega
  have e0:QA.l0 .lim ((r.2-((r.1.length-0:Nat):Int))%4294967296,r.1,(r.1.length:Int),0,false,((rd ((0:Int),(([]:List Int),(0:Int))) r.1 0).2).2,())=_:=e;rw[hw,e0,aby];cases hq:(aho r.1.length).find? (badR r)with
  |some k=>rfl
  |none=>
   simp only;rw[QA.q0];simp only[QA.b0];rw[cond_neg (M_ (by omega))];rfl
 ·rw[cond_pos (by
   rw[aia,decide_eq_true_eq,decide_eq_true_eq];omega),M_ h,ag_]
theorem ad8(x y:RK):(decide (x.1=y.1)&&(decide (x.2.1=y.2.1)&&decide (x.2.2=y.2.2)))=decide (x=y):=by
 obtain⟨a,b,c⟩:=x;obtain⟨a',b',c'⟩:=y;rw[ah_];simp only[ahr,decide_eq_true_eq,Prod.mk.injEq]
def aat(a b:RR):Bool:=decide (a.2=b.2)&&decide (a.1=b.1)
theorem Yu{a b:RR}(ha':a.1.length<4611686018427387904)(hb':b.1.length<4611686018427387904):N9.run .lim (a,b,())=some (aat a b):=by
 have ha:a.1.length<9223372036854775808:=by omega
 have hb:b.1.length<9223372036854775808:=by omega
 simp only[N9.run,Nh ha,Nh hb,aha,cond_true];unfold aat;by_cases h:a.2=b.2
 ·rw[MV h,ag4,ahb,ahc];by_cases hl:a.1.length=b.1.length
  ·rw[cond_neg (by rw[MV (show (a.1.length:Int)=(b.1.length:Int) by omega)];rfl)];have e:=Ue (f:=N9.l0 .lim) (fun k=>((k:Int),a.1,a.2,b.1,b.2,())) a.1.length (fun k=> !decide (rd r0 a.1 (k:Int)=rd r0 b.1 (k:Int))) (some (.inl (false,()))) (fun k hk=>by
    rw[N9.q0];simp only[N9.b0,Nh ha,cond_true];rw[cond_pos (MV (show (k:Int)<(a.1.length:Int) by omega)),Nj (by omega) (show (k:Int)<(a.1.length:Int) by omega),cond_true,Nj (by omega) (show (k:Int)<(b.1.length:Int) by omega),cond_true,ad8,QU k (by omega)])
   have e0:N9.l0 .lim (0,a.1,a.2,b.1,b.2,())=_:=e;rw[e0,Zz hl];by_cases h:a.1=b.1
   ·rw[MV h,ag4,cond_false,N9.q0];simp only[N9.b0,Nh ha,cond_true];rw[cond_neg (M_ (by omega))];rfl
   ·rw[M_ h];rfl
  ·rw[cond_pos (by rw[M_ (show ¬(a.1.length:Int)=(b.1.length:Int) by omega)];rfl),M_ (fun h=>hl (by rw[h]))]
 ·rw[cond_pos (by rw[M_ h];rfl),M_ h,ag_]
abbrev SV:=RR×(Int×(Int×(Int×(Int×(Int×(Int×(Int×Int)))))))
def SOk(x:SV):Prop:=x.1.1.length<Nw/\ ∀k∈x.1.1,k.2.1.length<Nw
def W_(x:SV):Bool:=((((W9 x.1&&(decide (x.2.1>0)))&&(decide (x.2.1<16)))&&(decide (x.2.2.1>=(-128))))&&(decide (x.2.2.1<128)))
theorem aaK{x:SV}(h:SOk x):V4.run .lim (x,())=some (W_ x)/\Qo.run .lim (x,())=some (W_ x):=by
 refine⟨?_,?_⟩
 ·simp only[V4.run,ZW h.1 h.2,ag3];rfl
 ·simp only[Qo.run,acQ h.1 h.2,ag3];congr 1;unfold W_;rw[ah_];simp only[ahr,decide_eq_true_eq];constructor<;>rintro⟨⟨⟨⟨a,b⟩,c⟩,d⟩,e⟩<;>exact⟨⟨⟨⟨a,by omega⟩,by omega⟩,by omega⟩,by omega⟩
end Go.AM
end
