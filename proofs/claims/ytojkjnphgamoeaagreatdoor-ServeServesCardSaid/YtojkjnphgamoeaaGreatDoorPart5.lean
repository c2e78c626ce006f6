import Derived.Test.YtojkjnphgamoeaaGreatDoorPart4

/-! The functions that the laws of this seat reach, as plain functions, and what these answer; no condition. -/
set_option linter.unusedSimpArgs false
set_option linter.unusedVariables false
set_option linter.unusedSectionVars false

open Bool renaming not_true->ag6,not_false->ag9,and_eq_true->ahm,or_self->aht,or_true->ahu,or_eq_true->ahy,or_eq_false_iff->ahA,false_or->ahD,not_eq_true'->ahF,true_or->ahK
open Go.IntKind renaming i64->ahj,u64->ahk,u8->ahG,max->ahM,min->ahN
open Int renaming toNat_natCast->ahg,tmod_eq_emod_of_nonneg->ahh
open List renaming length_append->ag4,replicate->ag5,mem_singleton->ag7,length_singleton->ag8,take_of_length_le->ag_,length_replicate->aha,length_map->ahb,mem_append->ahc,drop_append_of_le_length->ahd,take_append_of_le_length->ahe,drop_of_length_le->ahf,not_mem_nil->ahi,append_assoc->ahl,length_cons->ahn,length_drop->aho,mem_of_mem_take->ahp,mem_cons->ahq,length_nil->ahr,nil_append->ahs,mem_map->ahv,mem_range->ahw,length_take->ahx,range->ahz,replicate_succ'->ahB,mem_replicate->ahE,filter_cons->ahH,length->ahO
open Nat renaming le_refl->ahC,zero_le->ahI,le_trans->ahL
open Option renaming bind_some->ag3,bind->ahJ
section
set_option maxRecDepth 100000
namespace Go.AM
abbrev RQ:=PK×List Int×List Int×Int
abbrev q0:RQ:=(p0,([],([],0)))
def QO(l:List FF):List FF:=match RG l 1028 with|some k=>l.take k|none=>l
def srF(l:List FF):Int:=
 if(PZ l 260).2≠0 then(PZ l 260).2 else if(PZ l 516).2≠0 then(PZ l 516).2 else
 if(PZ l 260).1.length<32\/(PZ l 260).1.length>64\/(PZ l 516).1.length>256 then 12 else 0
def srE(s:List Int):Int:=
 if Ws s≠0 then Ws s else if(Po s).2.1≠4\/(Po s).2.2.1≠3 then 23 else srF (QO (Po s).fs)
theorem abx{l:List FF}{kind:Int}{j:Nat}(h:j<(findF l kind).length):0<=rd 0 (findF l kind) (j:Int)/\rd 0 (findF l kind) (j:Int)<(l.length:Int):=by
 have hm:=Ol (d:=0) (xs:=findF l kind) (i:=(j:Int)) (by omega) (by omega);unfold findF at hm ⊢
 obtain⟨k,hk,he⟩:=ahv.1 hm;have:=ahw.1 (List.mem_filter.1 hk).1;rw[<-he];omega
def TR(l:List FF)(c:List Int)(j:Nat):Int:=min 8 (1+((((findF l 772).take j).filter fun i=>decide (((rd f0 l i).2.length:Int)=(c.length:Int))).length:Int))
def Xc(l:List FF)(c:List Int):Int:=TR l c (findF l 772).length
theorem YT(l:List FF)(c:List Int)(j:Nat):1<=TR l c j/\TR l c j<=8:=by unfold TR;omega
theorem ZG{l:List FF}{c:List Int}{j:Nat}(h:j<(findF l 772).length):TR l c (j+1)=bif decide (((rd f0 l (rd 0 (findF l 772) (j:Int))).2.length:Int)=(c.length:Int))then mn (TR l c j+1) 8 else TR l c j:=by
 unfold TR;rw[Vb (d:=0) h,List.filter_append,ag4,Pg];cases e:decide (((rd f0 l (rd 0 (findF l 772) (j:Int))).2.length:Int)=(c.length:Int))with
 |true=>simp only[ahH,e,if_true,cond_true];simp;omega
 |false=>simp only[ahH,e,cond_false];simp
theorem ach{l:List FF}(p:PK)(u c:List Int)(hl: ∀f∈l,f.2.length<65536)(hc:c.length<65536): ∀(d j:Nat),(findF l 772).length-j=d->j<=(findF l 772).length->(findF l 772).length<100->
  Px.l0 .lim (l,((findF l 772).length:Int),(j:Int),0,0,0,0,0,0,0,0,0,0,0,0,0,[],[],0,p.1,p.2.1,p.2.2.1,p.2.2.2.1,p.2.2.2.2.1,p.2.2.2.2.2.1,p.2.2.2.2.2.2.1,p.2.2.2.2.2.2.2.1,p.2.2.2.2.2.2.2.2.1,p.2.2.2.2.2.2.2.2.2.1,p.2.2.2.2.2.2.2.2.2.2.1,p.2.2.2.2.2.2.2.2.2.2.2.1,p.2.2.2.2.2.2.2.2.2.2.2.2.1,p.2.2.2.2.2.2.2.2.2.2.2.2.2,u,c,TR l c j,findF l 772,())=
  some (0,0,0,0,0,0,0,0,0,0,0,0,0,[],[],0,p.1,p.2.1,p.2.2.1,p.2.2.2.1,p.2.2.2.2.1,p.2.2.2.2.2.1,p.2.2.2.2.2.2.1,p.2.2.2.2.2.2.2.1,p.2.2.2.2.2.2.2.2.1,p.2.2.2.2.2.2.2.2.2.1,p.2.2.2.2.2.2.2.2.2.2.1,p.2.2.2.2.2.2.2.2.2.2.2.1,p.2.2.2.2.2.2.2.2.2.2.2.2.1,p.2.2.2.2.2.2.2.2.2.2.2.2.2,u,c,Xc l c,()):=by
 intro d
 induction d with
 |zero=>
  intro j h1 h2 h3;have hj:j=(findF l 772).length:=by omega
  rw[Px.q0];simp only[Px.b0];rw[cond_neg (M_ (show ¬(j:Int)<((findF l 772).length:Int) by omega)),hj];rfl
 |succ d ih=>
  intro j h1 h2 h3;obtain⟨i1,i2⟩:=abx (l:=l) (kind:=772) (j:=j) (by omega);have hm:=hl _ (Ol (d:=f0) i1 i2);have hc63:c.length<9223372036854775808:=by omega
  have hm63:(rd f0 l (rd 0 (findF l 772) (j:Int))).2.length<9223372036854775808:=by omega
  have hb:=YT l c j;have hw:ahj.wrap (TR l c j+1)=TR l c j+1:=wrap64 (by omega) (by omega);have a:=ih (j+1) (by omega) (by omega) h3;rw[Px.q0];simp only[Px.b0,hw,QU j (show j<4611686018427387904 by omega)];rw[cond_pos (MV (show (j:Int)<((findF l 772).length:Int) by omega)),Nj (show (0:Int)<=(j:Int) by omega) (show (j:Int)<((findF l 772).length:Int) by omega),cond_true,Nj i1 i2,cond_true,Nh hm63,cond_true,Nh hc63,cond_true];rw[ZG (by omega)]at a;rw[<-a];cases decide (((rd f0 l (rd 0 (findF l 772) (j:Int))).2.length:Int)=(c.length:Int))with
  |true=>rfl
  |false=>rfl
noncomputable def ady(p:PK)(fs:List FF):Option (RQ×Int×Unit):=
  (RP.run .lim (fs,260,())).bind fun (r8,r9,())=>
  bif !(decide (r9=0))then
   some (q0,r9,())
  else
   (RP.run .lim (fs,516,())).bind fun (r10,r11,())=>
   bif !(decide (r11=0))then
   some (q0,r11,())
   else
   bif vZ (r8.length:Int)then
   bif((!(!(decide ((r8.length:Int)<32))))||(vZ (r8.length:Int)))then
   bif((!(!((decide ((r8.length:Int)<32))||(decide ((r8.length:Int)>64)))))||(vZ (r10.length:Int)))then
   bif(((decide ((r8.length:Int)<32))||(decide ((r8.length:Int)>64)))||(decide ((r10.length:Int)>256)))then
    some (q0,12,())
   else
    (OM.run .lim (fs,772,())).bind fun r12=>
    bif vZ (r12.length:Int)then
    (Px.l0 .lim (fs,(r12.length:Int),0,0,0,0,0,0,0,0,0,0,0,0,0,0,([]:List Int),([]:List Int),0,p.1,p.2.1,p.2.2.1,p.2.2.2.1,p.2.2.2.2.1,p.2.2.2.2.2.1,p.2.2.2.2.2.2.1,p.2.2.2.2.2.2.2.1,p.2.2.2.2.2.2.2.2.1,p.2.2.2.2.2.2.2.2.2.1,p.2.2.2.2.2.2.2.2.2.2.1,p.2.2.2.2.2.2.2.2.2.2.2.1,p.2.2.2.2.2.2.2.2.2.2.2.2.1,p.2.2.2.2.2.2.2.2.2.2.2.2.2,r8,r10,1,r12,())).bind fun (Vo,XV,YG,XW,YH,m38,Zm,Zn,m41,ZK,ZL,ZM,Zo,ZN,m47,m48,m49,m50,m51,m52,Zp,Y2,ZO,Zq,Zr,m58,m59,m60,m61,m62,m63,m64,m65,())=>
    some (((m49,(m50,(m51,(m52,(Zp,(Y2,(ZO,(Zq,(Zr,(m58,(m59,(m60,(m61,m62))))))))))))),(m63,(m64,m65))),0,())else none else none else none else none
theorem Zg(p:PK){l:List FF}(hf:l.length<=16)(hl: ∀f∈l,f.2.length<65536): ∃r,ady p l=some (r,srF l,())/\(srF l=0->r=(p,((PZ l 260).1,((PZ l 516).1,Xc l (PZ l 516).1))))/\(srF l≠0->r=q0):=by
 have o1:=abV (l:=l) 260 (by omega);have o2:=abV (l:=l) 516 (by omega);have hlen: ∀k:Int,(PZ l k).1.length<65536:=fun k=>by
  unfold PZ;split
  ·simp
  ·rename_i h;split
   ·obtain⟨i1,i2⟩:=ZP h;simp only[inB,ahm,decide_eq_true_eq]at i2;exact hl _ (Ol i2.1 i2.2)
   ·simp
 unfold ady srF;rw[o1,ag3];simp only;by_cases h0:(PZ l 260).2=0
 case neg=>rw[cond_pos (by rw[M_ h0];rfl),if_pos h0];exact⟨_,rfl,fun h=>absurd h h0,fun _=>rfl⟩
 rw[cond_neg (by rw[MV h0];rfl),if_neg (fun h=>h h0),o2,ag3];simp only;by_cases h1:(PZ l 516).2=0
 case neg=>rw[cond_pos (by rw[M_ h1];rfl),if_pos h1];exact⟨_,rfl,fun h=>absurd h h1,fun _=>rfl⟩
 rw[cond_neg (by rw[MV h1];rfl),if_neg (fun h=>h h1)];have l1:=hlen 260;have l2:=hlen 516;generalize (PZ l 260).1=u at l1 ⊢
 generalize (PZ l 516).1=c at l2 ⊢
 simp only[Nh (show u.length<9223372036854775808 by omega),Nh (show c.length<9223372036854775808 by omega),ahu,cond_true];by_cases h2:u.length<32\/u.length>64\/c.length>256
 ·rw[cond_pos (by simp only[ahy,decide_eq_true_eq];omega),if_pos h2];exact⟨_,rfl,(fun h=>by cases h),fun _=>rfl⟩
 ·rw[cond_neg (by simp only[ahA,decide_eq_false_iff_not];omega),if_neg h2,VJ 772 (by omega) (by omega),ag3,Nh (show (findF l 772).length<9223372036854775808 by have:=QH l 772;omega),cond_true];have a3:=ach (l:=l) p u c hl (by omega) _ 0 rfl (by omega) (by have:=QH l 772;omega);have a0:TR l c 0=1:=by unfold TR;rw[List.take_zero];rfl
  rw[a0]at a3;have a3:Px.l0 .lim (l,((findF l 772).length:Int),0,_)=_:=a3;rw[a3];exact⟨_,rfl,fun _=>rfl,fun h=>absurd rfl h⟩
theorem Xw{s:List Int}(hs:Bs s)(hl:s.length<9223372036854775808): ∃r,Px.run .lim (s,())=some (r,srE s,())/\(srE s=0->r=(Po s,((PZ (QO (Po s).fs) 260).1,((PZ (QO (Po s).fs) 516).1,Xc (QO (Po s).fs) (PZ (QO (Po s).fs) 516).1))))/\(srE s≠0->r=q0):=by
 simp only[Px.run,Yq hs hl,ag3];unfold srE;by_cases h0:Ws s=0
 case neg=>rw[cond_pos (by rw[M_ h0];rfl),if_pos h0];exact⟨_,rfl,fun h=>absurd h h0,fun _=>rfl⟩
 rw[cond_neg (by rw[MV h0];rfl),if_neg (fun h=>h h0)];have w:=was hs h0;have hfew:=w.few;have hok:=w.ok;generalize Po s=p at hfew hok ⊢
 by_cases h1:p.2.1≠4\/p.2.2.1≠3
 ·rw[cond_pos (by simp only[ahy,ahF,decide_eq_false_iff_not];omega),if_pos h1];exact⟨_,rfl,(fun h=>by cases h),fun _=>rfl⟩
 rw[cond_neg (by simp only[ahA,Bool.not_eq_false',decide_eq_true_eq];omega),if_neg h1];have hfs:p.2.2.2.2.2.2.2.2.2.2.2.2.2.length<=16:=hfew;have adq:=QH p.fs 1028;have hl': ∀f∈p.fs,f.2.length<65536:=fun f hf=>by have:=(hok f hf).l1;omega
 have e:OM.run .lim (p.2.2.2.2.2.2.2.2.2.2.2.2.2,1028,())=some (findF p.fs 1028):=VJ 1028 (by omega) (by omega);rw[e,ag3,Nh (show (findF p.fs 1028).length<9223372036854775808 by omega),cond_true];unfold QO;rcases Q9 p.fs 1028 with⟨q1,q2⟩|⟨k,r,q1,q2,hkl,hkd⟩
 ·rw[q1,q2];rw[cond_neg (show decide ((([]:List Int).length:Int)>0)=false from rfl)];exact Zg p hfew hl'
 ·rw[q1,q2];have hkl':k<p.2.2.2.2.2.2.2.2.2.2.2.2.2.length:=hkl;rw[cond_pos (MV (show (((k:Int)::r).length:Int)>0 by simp only[ahn];omega)),Nj (show (0:Int)<=0 by omega) (show (0:Int)<(((k:Int)::r).length:Int) by simp only[ahn];omega),cond_true,
   show rd 0 ((k:Int)::r) 0=(k:Int)from rfl,Nq (show (0:Int)<=0 by omega) (show (0:Int)<=(k:Int) by omega) (show (k:Int)<=(p.2.2.2.2.2.2.2.2.2.2.2.2.2.length:Int) by omega),cond_true]
  have hc:cut p.2.2.2.2.2.2.2.2.2.2.2.2.2 0 (k:Int)=p.fs.take k:=Rj rfl;rw[hc];exact Zg p (by rw[ahx];omega) (fun f hf=>hl' f (ahp hf))
end Go.AM
end
section
set_option maxRecDepth 100000
namespace Go.AM
abbrev tV6:Ty:= .pair .bool (.lst (.pair .str (.pair (.lst .str) (.pair .str .str))))
abbrev tS6:Ty:= .pair (.pair (.lst (.pair (.int .u32) (.pair .str (.int .i64)))) (.int .u32)) (.pair (.int .i64) (.pair (.int .i64) (.pair (.int .u32) (.pair (.int .u32) (.pair (.int .u32) (.pair (.int .u64) (.pair (.int .u64) (.int .u64))))))))
abbrev OT:=Int×List Int×List Int×List Int×Int×Int
def YQ(x:SV):SV:=(x.1,(x.2.1,(x.2.2.1,(x.2.2.2.1,(x.2.2.2.2.1,(x.2.2.2.2.2.1,(x.2.2.2.2.2.2.1,(x.2.2.2.2.2.2.2.1,(ahk.wrap (x.2.2.2.2.2.2.2.2+1))))))))))
def adZ(x:SV):SV:=(x.1,(x.2.1,(x.2.2.1,(x.2.2.2.1,(x.2.2.2.2.1,(x.2.2.2.2.2.1,(x.2.2.2.2.2.2.1,((ahk.wrap (x.2.2.2.2.2.2.2.1+1)),x.2.2.2.2.2.2.2.2))))))))
def Wn(x:SV):SV:=(x.1,(x.2.1,(x.2.2.1,(x.2.2.2.1,(x.2.2.2.2.1,(x.2.2.2.2.2.1,((ahk.wrap (x.2.2.2.2.2.2.1+1)),x.2.2.2.2.2.2.2)))))))
abbrev YP:OT:=(0,([],([],([],(0,0)))))
theorem adt:Td.run .lim ([78,84,83,78],())=some 1314149198:=by
 have ht:SN.run .lim ([78,84,83,78],[65,66,67,68,69,70,71,72,73,74,75,76,77,78,79,80,81,82,83,84,85,86,87,88,89,90],())=some []:=by decide
 have hv:=VI (s:=[78,84,83,78]) (fun x hx=>by simp only[ahq,ahi,or_false]at hx;rcases hx with rfl|rfl|rfl|rfl<;>decide) (by decide);simp only[Td.run,ht,hv,ag3];rfl
abbrev Y4(t:Int)(u:List Int):PK:=(0,(4,(4,(0,(0,(0,(0,(0,(1314149198,(0,(t,(0,(0,[(260,u)])))))))))))))
theorem XY{t:Int}{u:List Int}(hu:Wq (260,u))(hl:u.length<=64):Nu.run .lim (Y4 t u,())=some (TK (Y4 t u)++Nk [(260,u)],0,()):=by
 have e:VK (Y4 t u)=0:=by
  unfold VK;rw[if_pos (show Vt (Y4 t u)=true from rfl)];refine Um (l:=[(260,u)]) (fun f hf=> ?_) (by simp) ?_
  ·rw[ag7.1 hf];exact hu
  ·rw[Ub,Qb];show 4+u.length<=1232;omega
 have h:=VL (p:=Y4 t u) ⟨by show (1:Nat)<_;decide,fun f hf=>by rw[ag7.1 hf];show u.length<=_;omega⟩;rw[h,e];unfold Vr;rw[if_pos e]
theorem YS{v:VV}{x:SV}{s:List Int}{recv Og:Int}{draws:List (List Int)}(hs:Bs s)(hl:s.length<9223372036854775808)(h:srE s≠0):
  Oc.run .lim (v,x,s,recv,Og,draws,())=some (v,YQ x,YP,()):=by
 obtain⟨r,hr,_⟩:=Xw hs hl;simp only[Oc.run,hr,ag3];rw[cond_pos (by rw[M_ h];rfl)];rfl
theorem aai{l:List FF}{kind:Int}(h:(PZ l kind).2=0):(kind,(PZ l kind).1)∈l:=by
 unfold PZ at h ⊢
 by_cases h0:(findF l kind).length=0
 ·rw[if_pos h0]at h;cases h
 rw[if_neg h0]at h ⊢
 by_cases h1:(findF l kind).length=1
 ·rw[if_pos h1];rcases Q9 l kind with⟨_,q⟩|⟨k,r,_,q,hk,he⟩
  ·rw[q]at h0;exact absurd rfl h0
  ·have e:rd 0 (findF l kind) 0=(k:Int):=by rw[q];rfl
   have hm:rd f0 l (k:Int)∈l:=Ol (by omega) (by omega);rw[e];have:(kind,(rd f0 l (k:Int)).2)=rd f0 l (k:Int):=by rw[<-he]
   rw[this];exact hm
 ·rw[if_neg h1]at h;cases h
theorem YM{l:List FF}{f:FF}(h:f∈QO l):f∈l:=by
 unfold QO at h;split at h
 ·exact ahp h
 ·exact h
structure SR(s:List Int):Prop where
 e0:Ws s=0
 md:(Po s).2.1=4/\(Po s).2.2.1=3
 u:Wq (260,(PZ (QO (Po s).fs) 260).1)
 ul:32<=(PZ (QO (Po s).fs) 260).1.length/\(PZ (QO (Po s).fs) 260).1.length<=64
 c:Wq (516,(PZ (QO (Po s).fs) 516).1)
 cl:(PZ (QO (Po s).fs) 516).1.length<=256
theorem adx{s:List Int}(hs:Bs s)(h:srE s=0):SR s:=by
 unfold srE at h;by_cases h0:Ws s=0
 case neg=>rw[if_pos h0]at h;exact absurd h h0
 rw[if_neg (fun k=>k h0)]at h;split at h
 ·cases h
 rename_i h1;unfold srF at h;split at h
 ·rename_i k;exact absurd h k
 rename_i h2;split at h
 ·rename_i k;exact absurd h k
 rename_i h3;split at h
 ·cases h
 rename_i h4;have w:=(was hs h0).ok;exact⟨h0,by omega,w _ (YM (aai (by omega))),by omega,w _ (YM (aai (by omega))),by omega⟩
theorem aad{v:VV}{x:SV}{s:List Int}{recv Og:Int}{draws:List (List Int)}(hs:Bs s)(hl:s.length<9223372036854775808)(h:srE s=0)
  (ho:S9.run .lim (v,x.1,(PZ (QO (Po s).fs) 516).1,())=some ((Qw v x.1 (PZ (QO (Po s).fs) 516).1).1,(Qw v x.1 (PZ (QO (Po s).fs) 516).1).2,()))
  (hn:(Qw v x.1 (PZ (QO (Po s).fs) 516).1).2≠0):
  Oc.run .lim (v,x,s,recv,Og,draws,())=some (v,adZ x,(2,((PZ (QO (Po s).fs) 260).1,(s,(TK (Y4 (Po s).2.2.2.2.2.2.2.2.2.2.2.2.1 (PZ (QO (Po s).fs) 260).1)++Nk [(260,(PZ (QO (Po s).fs) 260).1)],(recv,Og))))),()):=by
 obtain⟨r,hr,hr2,_⟩:=Xw hs hl;have he:=hr2 h;subst he;have q:=adx hs h;have hw:=XY (t:=(Po s).2.2.2.2.2.2.2.2.2.2.2.2.1) q.u q.ul.2;simp only[Oc.run,hr,h,ag3,ho];rw[cond_neg (by decide),cond_neg (M_ hn),cond_pos (by rw[M_ hn];rfl)];simp only[adt,ag3,hw];rfl
theorem awB{n:Nat}{x:Int}(h:B8 x):Bs (ag5 n x):=fun y hy=>by rw[(ahE.1 hy).2];exact h
abbrev awK:List Int:=ag5 32 107
abbrev awZ:List Int:=ag5 104 0
theorem aeb:NH.l0 .lim ([],0,())=some (awK,()):=by
 have e:=Oh (f:=NH.l0 .lim) (fun j=>(ag5 j (107:Int),(j:Int),())) (n:=32) (fun k hk=>by
  rw[NH.q0];have hl: ∀x:Int,decide ((ag5 k x).length+[x].length<=maxStr)=true:=fun x=>MV (by unfold maxStr;simp;omega)
  simp only[NH.b0,MV (show (k:Int)<32 by omega),cond_true,hl,QU k (by omega)];rw[ahB])
 refine(show NH.l0 .lim ([],0,())=NH.l0 .lim (ag5 32 (107:Int),((32:Nat):Int),())from e).trans ?_;rw[NH.q0];rfl
abbrev awX:SV:=(([(1,(awK,0))],2),(1,(0,(0,(0,(0,(0,(0,0))))))))
abbrev awV:VV:=(false,[])
abbrev awP:PK:=(0,(4,(3,(0,(0,(0,(0,(0,(0,(0,(0,(0,(0,[(260,awK),(516,awZ)])))))))))))))
abbrev awT:List Int:=TK awP++Nk awP.fs
theorem aeo:QC.run .lim (awK,0,())=some (awX.1,0,()):=rfl
theorem Yg: ∀f∈awP.fs,Wq f:=fun f hf=>by
 have hf:f∈[((260:Int),awK),(516,awZ)]:=hf;simp only[ahq,ahi,or_false]at hf;rcases hf with rfl|rfl
 ·exact⟨by decide,by decide,by decide,by decide,by decide,awB (by decide)⟩
 ·exact⟨by decide,by decide,by decide,by decide,by decide,awB (by decide)⟩
theorem Yf:(Nk awP.fs).length=144:=by decide+kernel
theorem acL:Ov.run .lim (awP,())=some (awT,0,()):=by
 have e:VK awP=0:=by
  unfold VK;rw[if_pos (show Vt awP=true from rfl)];exact Um Yg (by decide) (by rw[Yf];decide)
 have h:=VX (p:=awP) ⟨by show (2:Nat)<_;decide,fun f hf=>by have:=(Yg f hf).l1;omega⟩ ⟨by decide,by decide,by decide,by decide⟩;rw[h,e];unfold Vr;rw[if_pos e]
theorem WS:Ws awT=0/\Po awT=awP:=X3 ⟨rfl,by decide,by decide,by decide,by decide,by decide,by decide,by decide⟩ Yg (by decide) (by rw[Yf];decide)
theorem aep:Bs awT:=(adp _).app (WA fun f hf=>(Yg f hf).b)
theorem aer:awT.length=192:=by rw[ag4,TQ,Yf]
theorem WR:PZ (QO awP.fs) 260=(awK,0)/\PZ (QO awP.fs) 516=(awZ,0):=by decide+kernel
theorem afc:srE awT=0:=by
 unfold srE;rw[WS.1,WS.2];unfold srF;rw[WR.1,WR.2];rfl
theorem QX:NH.run .lim ()=some true:=by
 have h1:=YS (v:=awV) (x:=awX) (s:=[]) (recv:=1) (Og:=2) (draws:=[]) abP (by decide) (by decide);have hc:Qw awV awX.1 awZ=((0,([],[])),19):=by
  unfold Qw;rw[if_neg (by decide),if_pos (by decide)]
 have h2:=aad (v:=awV) (x:=awX) (s:=awT) (recv:=1) (Og:=2) (draws:=[]) aep (by rw[aer];decide) afc
  (by
   rw[WS.2,WR.2];exact YL ⟨by decide,fun k hk=>nomatch hk⟩ rfl (fun k hk=>nomatch hk) ⟨by decide,fun k hk=>by rw[ag7.1 hk];rfl,fun k hk=>by rw[ag7.1 hk];exact awB (by decide)⟩ (N7 (by decide)) (awB (by decide)))
  (by rw[WS.2,WR.2,hc];decide)
 rw[WS.2,WR.1]at h2;have hlen:(TK (Y4 awP.2.2.2.2.2.2.2.2.2.2.2.2.1 awK)++Nk [(260,awK)]).length=84:=by rw[ag4,TQ,Ub,Qb];rfl
 simp only[NH.run,aeb,aeo,ag3];have h1:Oc.run .lim (abv,awX,([]:List Int),1,2,([]:List (List Int)),())=_:=h1;have h2:Oc.run .lim (abv,awX,awT,1,2,([]:List (List Int)),())=_:=h2;rw[h1];simp only[ag3,acL];rw[h2];simp only[ag3,hlen];rfl
theorem ae7{x:SV}(h:Ty.ok (.lst (.pair (.int .u32) (.pair .str (.int .i64)))) x.1.1):SOk x:=⟨N7 (by have:x.1.1.length<=140737488351232:=h.1;omega),fun k hk=>N7 (by have:k.2.1.length<=140737488351232:=(h.2 k hk).2.1.1;omega)⟩
end Go.AM
end
section
namespace Go.AM
theorem acU{id:Int}(h0:0<=id)(h1:id<4294967296)(s:List Int):Vp (TL id++s)=id:=by
 have e: ∀m:Nat,m<=32->Je .u32 id (m:Int)=id/2^m:=fun m hm=>O8 id 0 m .u32 hm
 unfold Vp;have r: ∀i:Nat,i<4->rd 0 (TL id++s) (i:Int)=rd 0 (TL id) (i:Int):=fun i hi=>VT (by exact hi)
 rw[show (0:Int)=((0:Nat):Int)from rfl,show (1:Int)=((1:Nat):Int)from rfl,show (2:Int)=((2:Nat):Int)from rfl,show (3:Int)=((3:Nat):Int)from rfl,
  show rd ((0:Nat):Int) (TL id++s) ((0:Nat):Int)=_ from r 0 (by omega),show rd ((0:Nat):Int) (TL id++s) ((1:Nat):Int)=_ from r 1 (by omega),show rd ((0:Nat):Int) (TL id++s) ((2:Nat):Int)=_ from r 2 (by omega),show rd ((0:Nat):Int) (TL id++s) ((3:Nat):Int)=_ from r 3 (by omega)]
 show ((ahG.wrap (Je .u32 id ((24:Nat):Int))*256+ahG.wrap (Je .u32 id ((16:Nat):Int)))*256+ahG.wrap (Je .u32 id ((8:Nat):Int)))*256+ahG.wrap id=id;rw[e 24 (by omega),e 16 (by omega),e 8 (by omega),PN,PN,PN,PN];omega
theorem aff{a b c:List Int}(ha:a.length=4)(hb:b.length=16):
  cut ((a++b)++c) 0 4=a/\cut ((a++b)++c) 4 20=b/\cut ((a++b)++c) 20 ((((a++b)++c).length:Nat):Int)=c:=by
 unfold cut;refine⟨?_,?_,?_⟩
 ·show (((a++b)++c).take 4).drop 0=a;rw[List.drop_zero,ahl,ahe (by omega),ag_ (by omega)]
 ·show (((a++b)++c).take 20).drop 4=b;rw[ahe (by simp;omega),ag_ (by simp;omega),ahd (by omega),ahf (by omega),ahs]
 ·rw[ahg,ag_ (ahC _)];show ((a++b)++c).drop 20=c;rw[ahd (by simp;omega),ahf (by simp;omega),ahs]
structure KB(k:CK):Prop where
 a:Bs k.2.1
 b:Bs k.2.2
theorem Y8{k:CK}(hf:QV k=true)(b:KB k):Bs (O6 k):=fun x h=>by
 have hs:=Ql hf;unfold O6 at h;rcases ahc.1 h with h|h
 ·rcases ahc.1 h with h|h
  ·simp only[ahq,ahi,or_false]at h;rcases h with rfl|rfl|rfl|rfl
   ·exact⟨by decide,by decide⟩
   ·rcases hs with⟨q,_⟩|⟨q,_⟩<;>rw[q]<;>exact⟨by decide,by decide⟩
   ·exact⟨by decide,by decide⟩
   ·exact⟨by decide,by decide⟩
  ·exact b.a x h
 ·exact b.b x h
theorem aaO{k:CK}(hf:QV k=true):Zl (O6 k)=k:=by
 have hs:=Ql hf;obtain⟨a,x,y⟩:=k;have hxy:x.length=y.length:=by rcases hs with⟨_,p,q⟩|⟨_,p,q⟩<;>exact p.trans q.symm
 have hl:(O6 (a,x,y)).length=4+x.length+x.length:=by rw[TB];simp only;omega
 unfold Zl;rw[hl,show 2+(4+x.length+x.length)/2=4+x.length by omega];refine Prod.ext ?_ (Prod.ext ?_ ?_)
 ·show (0:Int)*256+a=a;omega
 ·show ((([0,a,0,0]++x)++y).take (((4+x.length:Nat):Int)).toNat).drop 4=x;rw[ahg,ahe (by simp;omega),ag_ (by simp;omega)];rfl
 ·show ((([0,a,0,0]++x)++y).take (((4+x.length+x.length:Nat):Int)).toNat).drop (((4+x.length:Nat):Int)).toNat=y;rw[ahg,ahg,ag_ (by simp;omega),ahd (by simp;omega),ahf (by simp;omega),ahs]
theorem Y0{k:CK}(hf:QV k=true):Vu (O6 k)=(k,0):=by
 unfold Vu;rw[aaO hf,if_pos ⟨by rw[TB];omega,hf,rfl⟩]
theorem Rn{v:VV}{m:RK}{k:CK}{MW:List Int}(h:(mkS v m k MW).2.2=0):
  QV k=true/\MW.length=16/\(NZ v m.2.1 [TL m.1,MW] (O6 k)).2.2=0/\mkS v m k MW=((NZ v m.2.1 [TL m.1,MW] (O6 k)).1,(TL m.1++MW)++(NZ v m.2.1 [TL m.1,MW] (O6 k)).2.1,0):=by
 unfold mkS at h ⊢
 by_cases h1:QV k=true
 ·rw[if_pos h1]at h ⊢
  by_cases h2:MW.length=16
  ·rw[if_pos h2]at h ⊢
   by_cases h3:(NZ v m.2.1 [TL m.1,MW] (O6 k)).2.2=0
   ·rw[if_pos h3];exact⟨h1,h2,h3,rfl⟩
   ·rw[if_neg h3]at h;exact absurd h h3
  ·rw[if_neg h2]at h;exact absurd h (show (10:Int)≠0 by decide)
 ·rw[if_neg h1]at h;exact absurd h (show (13:Int)≠0 by decide)
theorem Yn{v:VV}{m:RK}{k:CK}{MW:List Int}(h:(mkS v m k MW).2.2≠0):(mkS v m k MW).1=v/\(mkS v m k MW).2.1=[]:=by
 unfold mkS at h ⊢
 by_cases h1:QV k=true
 ·rw[if_pos h1]at h ⊢
  by_cases h2:MW.length=16
  ·rw[if_pos h2]at h ⊢
   by_cases h3:(NZ v m.2.1 [TL m.1,MW] (O6 k)).2.2=0
   ·rw[if_pos h3]at h;exact absurd rfl h
   ·rw[if_neg h3];exact⟨rfl,rfl⟩
  ·rw[if_neg h2];exact⟨rfl,rfl⟩
 ·rw[if_neg h1];exact⟨rfl,rfl⟩
theorem aag{v:VV}{m:RK}{k:CK}{MW:List Int}(hf:Pq v=true)(h:(mkS v m k MW).2.2=0):(mkS v m k MW).2.1.length=40+k.2.1.length+k.2.2.length:=by
 obtain⟨h1,h2,h3,e⟩:=Rn h;rw[e];have:=(Uh hf h3).2.2.1;simp only[ag4,this,TB,h2];have:(TL m.1).length=4:=rfl;omega
theorem aeW{v:VV}{m:RK}{k:CK}{MW:List Int}(hf:Pq v=true)(hn:Bs MW)(h:(mkS v m k MW).2.2=0):Bs (mkS v m k MW).2.1:=by
 obtain⟨h1,h2,h3,e⟩:=Rn h;rw[e];intro x hx;rcases ahc.1 hx with hx|hx
 ·rcases ahc.1 hx with hx|hx
  ·exact aeH _ x hx
  ·exact hn x hx
 ·exact(Uh hf h3).2.2.2 x hx
theorem ZQ{v w:VV}{m:RK}{k:CK}{MW:List Int}{r:RR}{i:Nat}(hf:Pq v=true)(h:(mkS v m k MW).2.2=0)(kb:KB k)(h0:0<=m.1)(h1:m.1<4294967296)
  (x:Ext (mkS v m k MW).1 w) (hw:Pq w=true) (hi:SC r.1 m.1=(i:Int)) (hm:(rd r0 r.1 (i:Int)).2.1=m.2.1):Qw w r (mkS v m k MW).2.1=(k,0):=by
 have hl:=aag hf h;obtain⟨g1,g2,g3,e⟩:=Rn h;rw[e]at x hl ⊢
 simp only at x hl ⊢
 have hso:=Ya hf g3 (Y8 g1 kb) x hw;generalize (NZ v m.2.1 [TL m.1,MW] (O6 k)).2.1=t at hl hso ⊢
 obtain⟨c1,c2,c3⟩:=aff (a:=TL m.1) (b:=MW) (c:=t) rfl g2;have hn:Vp ((TL m.1++MW)++t)=m.1:=by rw[ahl];exact acU h0 h1 _
 unfold Qw;rw[if_neg (by omega),hn,hi,if_neg (by omega),hm,c1,c2,c3,hso,if_pos rfl];exact Y0 g1
end Go.AM
end
section
set_option maxRecDepth 100000
namespace Go.AM
theorem Xe{v:VV}(hf:Pq v=true)(m:RK)(k:CK)(MW:List Int):Pq (mkS v m k MW).1=true:=by
 by_cases h:(mkS v m k MW).2.2=0
 ·rw[(Rn h).2.2.2];exact Uc hf _ _ _
 ·rw[(Yn h).1];exact hf
theorem aah{v:VV}(hv:okV v){m:RK}(hk:m.2.1.length=32)(hkb:Bs m.2.1)(k:CK)(MW:List Int):okV (mkS v m k MW).1:=by
 by_cases h:(mkS v m k MW).2.2=0
 ·obtain⟨h1,h2,_,e⟩:=Rn h;rw[e];exact Y5 hv (abu hk hkb h1 h2)
 ·rw[(Yn h).1];exact hv
noncomputable def Qs(m:RK)(k:CK):VV->List (List Int)->List (List Int)->VV×List (List Int)×Int
 |v,out,[]=>(v,out,0)
 |v,out,n::l=>if(mkS v m k n).2.2=0 then Qs m k (mkS v m k n).1 (out++[(mkS v m k n).2.1]) l else(v,out,(mkS v m k n).2.2)
theorem drop_cons{α:Type}{z:α}{xs l:List α}{n:α}{j:Nat}(h:xs.drop j=n::l):j<xs.length/\rd z xs (j:Int)=n/\xs.drop (j+1)=l:=by
 have hj:j<xs.length:=by
  rcases Nat.lt_or_ge j xs.length with q|q
  ·exact q
  ·rw[ahf q]at h;exact absurd h (by simp)
 rw[List.drop_eq_getElem_cons hj]at h;have:=List.cons.inj h;exact⟨hj,by rw[Qz hj];exact this.1,this.2⟩
theorem aaN{m:RK}(hk:m.2.1.length=32)(hkb:Bs m.2.1){k:CK}(ko:KOk k)(v0:VV)(Oj:List (List Int))(hn: ∀n∈Oj,n.length<Nw)(h8:Oj.length<=8):
  ∀(l:List (List Int)) (j:Nat) (v:VV) (out:List (List Int)),Oj.drop j=l->okV v->Pq v=true->out.length<=j->
   ((Qs m k v out l).2.2=0->Qv.l0 .lim (Oj,(Oj.length:Int),(j:Int),v0.1,v0.2,false,v.1,v.2,m.1,m.2.1,m.2.2,k.1,k.2.1,k.2.2,0,out,())=
    some (.inr (v0.1,v0.2,false,(Qs m k v out l).1.1,(Qs m k v out l).1.2,m.1,m.2.1,m.2.2,k.1,k.2.1,k.2.2,0,(Qs m k v out l).2.1,())))/\
   ((Qs m k v out l).2.2≠0-> ∃a b o,Qv.l0 .lim (Oj,(Oj.length:Int),(j:Int),v0.1,v0.2,false,v.1,v.2,m.1,m.2.1,m.2.2,k.1,k.2.1,k.2.2,0,out,())=
    some (.inl (v0.1,v0.2,false,a,b,m.1,m.2.1,m.2.2,k.1,k.2.1,k.2.2,(Qs m k v out l).2.2,o,()))):=by
 intro l
 induction l with
 |nil=>
  intro j v out hl hv hf ho;have hj:Oj.length<=j:=by
   have:=congrArg ahO hl;rw[aho]at this;simp only[ahr]at this;omega
  refine⟨fun _=> ?_,fun h=>absurd rfl h⟩;rw[Qv.q0];simp only[Qv.b0,M_ (show ¬(j:Int)<(Oj.length:Int) by omega),cond_false];rfl
 |cons n l ih=>
  intro j v out hl hv hf ho;obtain⟨hj,hr,hl'⟩:=drop_cons (z:=[]) hl;have hn63:n.length<9223372036854775808:=hn n (by rw[<-hr];exact Ol (by omega) (by omega));have hm:=aac ko;rw[Qv.q0];simp only[Qv.b0,MV (show (j:Int)<(Oj.length:Int) by omega),Nj (show (0:Int)<=(j:Int) by omega) (show (j:Int)<(Oj.length:Int) by omega),cond_true,hm,hr,Nh hn63,ag3,wk j (by omega)];rw[Qs];by_cases h1:QV k=true
  ·by_cases h2:n.length=16
   ·have T:=abu (m:=m) hk hkb h1 h2;have hs:=aav hv hf T;have hsl:=Xt hf m.2.1 [TL m.1,n] (O6 k);obtain⟨j1,j2⟩:=aaf (id:=m.1) (s:=(NZ v m.2.1 [TL m.1,n] (O6 k)).2.1) h2 (by omega);have hcap:decide (out.length+([((TL m.1++n)++(NZ v m.2.1 [TL m.1,n] (O6 k)).2.1)]:List (List Int)).length<4398046511104)=true:=MV (by simp only[ag8];omega);have hv2:=aah hv hk hkb k n;have hf2:=Xe hf m k n;unfold TL at hs j1 j2 hcap;rw[h1,MV (show (n.length:Int)=16 by omega)];simp only[ag6,cond_false,XL h1,ag3,hs,j1,j2,cond_true];by_cases h3:(NZ v m.2.1 [TL m.1,n] (O6 k)).2.2=0
    ·have he:mkS v m k n=((NZ v m.2.1 [TL m.1,n] (O6 k)).1,(TL m.1++n)++(NZ v m.2.1 [TL m.1,n] (O6 k)).2.1,0):=by unfold mkS;rw[if_pos h1,if_pos h2,if_pos h3]
     have:=ih (j+1) (mkS v m k n).1 (out++[(mkS v m k n).2.1]) hl' hv2 hf2 (by simp only[ag4,ag8];omega);rw[if_pos (show (mkS v m k n).2.2=0 by rw[he])];rw[he]at this ⊢
     unfold TL at h3 this ⊢
     rw[MV h3];simp only[ag6,ag9,cond_true,hcap,aht,cond_false,h3];exact this
    ·have he:mkS v m k n=(v,[],(NZ v m.2.1 [TL m.1,n] (O6 k)).2.2):=by unfold mkS;rw[if_pos h1,if_pos h2,if_neg h3]
     rw[he];simp only;rw[if_neg h3];unfold TL at h3 ⊢
     rw[M_ h3];simp only[ag6,ag9,cond_true,ahu,cond_false];exact⟨fun q=>absurd q h3,fun _=>⟨_,_,_,rfl⟩⟩
   ·have he:mkS v m k n=(v,[],10):=by unfold mkS;rw[if_pos h1,if_neg h2]
    rw[h1,M_ (show ¬(n.length:Int)=16 by omega),he];exact⟨fun q=>absurd q (show (10:Int)≠0 by decide),fun _=>⟨_,_,_,rfl⟩⟩
  ·have h1':QV k=false:=by simpa using h1
   have he:mkS v m k n=(v,[],13):=by unfold mkS;rw[if_neg h1]
   rw[h1',he];exact⟨fun q=>absurd q (show (13:Int)≠0 by decide),fun _=>⟨_,_,_,rfl⟩⟩
noncomputable def TM(v:VV)(m:RK)(k:CK)(Oj:List (List Int)):VV×List (List Int)×Int:=
 if Oj.length>8 then(v,[],18)else if(Qs m k v [] Oj).2.2=0 then Qs m k v [] Oj else(v,[],(Qs m k v [] Oj).2.2)
theorem acT{v:VV}{r:RR}{k:CK}{Oj:List (List Int)}(hv:okV v)(hf:Pq v=true)(ro:ROk r)(ko:KOk k)(hl:Oj.length<Nw)(hn: ∀n∈Oj,n.length<Nw):
  Qv.run .lim (v,r,k,Oj,())=some ((TM v (Oq r) k Oj).1,(TM v (Oq r) k Oj).2.1,(TM v (Oq r) k Oj).2.2,()):=by
 have hl63:Oj.length<9223372036854775808:=hl;have hr:=ro.len;have hm:=Qm ro;have hw:=abK ro;unfold TM;simp only[Qv.run,Nh hl63,cond_true];by_cases h8:Oj.length>8
 ·rw[MV (show (Oj.length:Int)>8 by omega),if_pos h8];rfl
 ·rw[M_ (show ¬(Oj.length:Int)>8 by omega),if_neg h8];have J:=aaN (ro.key _ hm) (ro.kb _ hm) ko v Oj hn (by omega) Oj 0 v [] rfl hv hf (ahC _);rw[show ((0:Nat):Int)=0 from rfl]at J;have el:rd r0 r.1 ((r.1.length-1:Nat):Int)=Oq r:=rfl;simp only[cond_false,Nh (show r.1.length<9223372036854775808 by omega),hw,el,Nj (show (0:Int)<=((r.1.length-1:Nat):Int) by omega) (show ((r.1.length-1:Nat):Int)<(r.1.length:Int) by omega),cond_true];by_cases h0:(Qs (Oq r) k v [] Oj).2.2=0
  ·rw[J.1 h0,if_pos h0,h0];rfl
  ·obtain⟨a,b,o,e⟩:=J.2 h0;rw[e,if_neg h0];simp only[ag3,M_ h0,ag9,cond_true]
theorem YZ{m:RK}(hk:m.2.1.length=32)(hkb:Bs m.2.1){k:CK}: ∀(l:List (List Int)) (v:VV) (out:List (List Int)),okV v->okV (Qs m k v out l).1/\(Qs m k v out l).2.1.length<=out.length+l.length
 |[],v,out,h=>⟨h,by rw[Qs];simp⟩
 |n::l,v,out,h=>by
  rw[Qs];by_cases h0:(mkS v m k n).2.2=0
  ·rw[if_pos h0];have:=YZ hk hkb (k:=k) l (mkS v m k n).1 (out++[(mkS v m k n).2.1]) (aah h hk hkb k n);refine⟨this.1,ahL this.2 ?_⟩;simp only[ag4,ag8,ahn,ahr];omega
  ·rw[if_neg h0];exact⟨h,Nat.le_add_right _ _⟩
theorem Yl{v:VV}(hv:okV v){m:RK}(hk:m.2.1.length=32)(hkb:Bs m.2.1){k:CK}{Oj:List (List Int)}:okV (TM v m k Oj).1/\(TM v m k Oj).2.1.length<=8:=by
 unfold TM;by_cases h8:Oj.length>8
 ·rw[if_pos h8];exact⟨hv,ahI _⟩
 ·rw[if_neg h8];have:=YZ hk hkb (k:=k) Oj v [] hv;by_cases h0:(Qs m k v [] Oj).2.2=0
  ·rw[if_pos h0];exact⟨this.1,ahL this.2 (by simp only[ahr];omega)⟩
  ·rw[if_neg h0];exact⟨hv,ahI _⟩
theorem abN{v:VV}(hf:Pq v=true)(m:RK)(k:CK)(MW:List Int):(mkS v m k MW).2.1.length<=65600:=by
 unfold mkS;split
 ·split
  ·rename_i h;split
   ·have:=Xt hf m.2.1 [TL m.1,MW] (O6 k);simp only[ag4];have:(TL m.1).length=4:=rfl;omega
   ·simp
  ·simp
 ·simp
theorem XT{m:RK}{k:CK}: ∀(l:List (List Int)) (v:VV) (out:List (List Int)),Pq v=true->(∀c∈out,c.length<=65600)->Pq (Qs m k v out l).1=true/\ ∀c∈(Qs m k v out l).2.1,c.length<=65600
 |[],v,out,h,ho=>⟨h,ho⟩
 |n::l,v,out,h,ho=>by
  rw[Qs];by_cases h0:(mkS v m k n).2.2=0
  ·rw[if_pos h0];refine XT l _ _ (Xe h m k n) fun c hc=> ?_
   rcases ahc.1 hc with hc|hc
   ·exact ho c hc
   ·rw[ag7.1 hc];exact abN h m k n
  ·rw[if_neg h0];exact⟨h,ho⟩
theorem YX{v:VV}(hf:Pq v=true){m:RK}{k:CK}{Oj:List (List Int)}:Pq (TM v m k Oj).1=true/\ ∀c∈(TM v m k Oj).2.1,c.length<=65600:=by
 unfold TM;split
 ·exact⟨hf,fun c hc=>nomatch hc⟩
 ·split
  ·exact XT Oj v [] hf fun c hc=>nomatch hc
  ·exact⟨hf,fun c hc=>nomatch hc⟩
end Go.AM
end
section
set_option maxRecDepth 100000
namespace Go.AM
theorem adQ{m m1 m2 m3 m4 m5 m6 m7 m8 m9 m10 m11 m12 m13 m14 m15 m16 m17 m18 m19 m20 m21 m22 m23 m24 Uf TS Uz TT Ul Vx VN m32 Vo XV YG XW YH m38 Zm Zn m41 ZK ZL ZM Zo ZN m47 m48 m49 m50 m51 m52 Zp Y2 ZO Zq Zr m59 m60 m61 m62 m63 m64 m65 m66 m67 m68 m69 m70 m71 m72 m73 m74 m75 m76 m77 m78 m79 m80 m81 m82 m83 m84 m85 m86 m87 m88 m89}(J:List (List Int))(hJ:J.length<=8): ∀(l:List (List Int)) (j:Nat) (i:Int) (acc:List FF),i=(j:Int)->J.drop j=l->acc.length<=j->
  Oc.l0 .lim ((J.length:Int),i,m,m1,m2,m3,m4,m5,m6,m7,m8,m9,m10,m11,m12,m13,m14,m15,m16,m17,m18,m19,m20,m21,m22,m23,m24,Uf,TS,Uz,TT,Ul,Vx,VN,m32,Vo,XV,YG,XW,YH,m38,Zm,Zn,m41,ZK,ZL,ZM,Zo,ZN,m47,m48,m49,m50,m51,m52,Zp,Y2,ZO,Zq,Zr,J,m59,m60,m61,m62,m63,m64,m65,m66,m67,m68,m69,m70,m71,m72,m73,m74,m75,m76,m77,m78,m79,m80,m81,m82,m83,m84,m85,m86,m87,m88,m89,acc,())=some (m,m1,m2,m3,m4,m5,m6,m7,m8,m9,m10,m11,m12,m13,m14,m15,m16,m17,m18,m19,m20,m21,m22,m23,m24,Uf,TS,Uz,TT,Ul,Vx,VN,m32,Vo,XV,YG,XW,YH,m38,Zm,Zn,m41,ZK,ZL,ZM,Zo,ZN,m47,m48,m49,m50,m51,m52,Zp,Y2,ZO,Zq,Zr,m59,m60,m61,m62,m63,m64,m65,m66,m67,m68,m69,m70,m71,m72,m73,m74,m75,m76,m77,m78,m79,m80,m81,m82,m83,m84,m85,m86,m87,m88,m89,acc++l.map (fun c=>((516:Int),c)),()):=by
 intro l
 induction l with
 |nil=>
  intro j i acc hi hl ha;subst hi;have hj:J.length<=j:=by
   have:=congrArg ahO hl;rw[aho]at this;simp only[ahr]at this;omega
  rw[Oc.q0];simp only[Oc.b0,M_ (show ¬(j:Int)<(J.length:Int) by omega),cond_false,List.map_nil,List.append_nil]
 |cons n l ih=>
  intro j i acc hi hl ha;subst hi;obtain⟨hj,hr,hl'⟩:=drop_cons (z:=[]) hl;have hcap:decide (acc.length+([(516,n)]:List FF).length<2932031007402)=true:=MV (by simp only[ag8];omega);rw[Oc.q0];simp only[Oc.b0,MV (show (j:Int)<(J.length:Int) by omega),Nj (show (0:Int)<=(j:Int) by omega) (show (j:Int)<(J.length:Int) by omega),cond_true,hr,hcap,wk j (by omega)];rw[ih (j+1) _ (acc++[(516,n)]) rfl hl' (by simp only[ag4,ag8];omega),ahl];rfl
theorem abH{p:List Int}(h:(Vu p).2=0):QV (Vu p).1=true/\(Vu p).1=Zl p:=by
 unfold Vu at h ⊢
 split at h
 ·rename_i q;rw[if_pos q];exact⟨q.2.1,rfl⟩
 ·cases h
theorem Y6{v:VV}{r:RR}{s:List Int}(hf:Pq v=true)(hb:vB v)(h:(Qw v r s).2=0):QV (Qw v r s).1=true/\Bs (Qw v r s).1.2.1/\Bs (Qw v r s).1.2.2:=by
 unfold Qw at h ⊢
 by_cases h1:s.length<20
 ·rw[if_pos h1]at h;cases h
 rw[if_neg h1]at h ⊢
 by_cases h2:SC r.1 (Vp s)<0
 ·rw[if_pos h2]at h;cases h
 rw[if_neg h2]at h ⊢
 by_cases h3:(O9 v (rd r0 r.1 (SC r.1 (Vp s))).2.1 [cut s 0 4,cut s 4 20] (cut s 20 (s.length:Int))).2=0
 ·rw[if_pos h3]at h ⊢
  obtain⟨_,_,_,y⟩:=UN hf hb h3;obtain⟨a,b⟩:=abH h;exact⟨a,by rw[b];exact ZC y _ _,by rw[b];exact ZC y _ _⟩
 ·rw[if_neg h3]at h;exact absurd h h3
def hU(s:List Int):List Int:=(PZ (QO (Po s).fs) 260).1
def hC(s:List Int):List Int:=(PZ (QO (Po s).fs) 516).1
def hN(s:List Int):Int:=Xc (QO (Po s).fs) (hC s)
abbrev hP(x:SV)(recv Og:Int)(q:PK)(u:List Int):PK:=(0,(4,(4,(x.2.1,(q.2.2.2.2.1,(x.2.2.1,(x.2.2.2.2.1,(x.2.2.2.2.2.1,(x.2.2.2.1,(recv,(q.2.2.2.2.2.2.2.2.2.2.2.2.1,(recv,(Og,[(260,u)])))))))))))))
noncomputable def aaL(v:VV)(x:SV)(s:List Int)(draws:List (List Int)):VV×List (List Int)×Int:=
 TM v (Oq x.1) (Qw v x.1 (hC s)).1 (cut draws 1 (1+mn (hN s) ((draws.length:Int)-1)))
noncomputable def V8(v:VV)(x:SV)(s:List Int)(recv Og:Int)(draws:List (List Int)):VV×List Int×Int:=
 QF (aaL v x s draws).1 (hP x recv Og (UJ v s (Qw v x.1 (hC s)).1.2.1).1.1 (hU s)) (Qw v x.1 (hC s)).1.2.2 (rd [] draws 0) ((aaL v x s draws).2.1.map fun c=>((516:Int),c))
def aeY(s:List Int)(recv Og:Int):OT:=(2,(hU s,(s,(TK (Y4 (Po s).2.2.2.2.2.2.2.2.2.2.2.2.1 (hU s))++Nk [(260,hU s)],(recv,Og)))))
noncomputable def Vg(v:VV)(x:SV)(s:List Int)(recv Og:Int)(draws:List (List Int)):VV×SV×OT:=
 if srE s≠0 then(v,YQ x,YP)else
 if(Qw v x.1 (hC s)).2≠0 then(v,adZ x,aeY s recv Og)else
 if(UJ v s (Qw v x.1 (hC s)).1.2.1).2≠0 then(v,adZ x,aeY s recv Og)else
 if draws.length=0 then(v,YQ x,YP)else
 if(aaL v x s draws).2.2≠0 then(v,YQ x,YP)else
 if(V8 v x s recv Og draws).2.2≠0 then(v,YQ x,YP)else
 ((V8 v x s recv Og draws).1,Wn x,(1,(hU s,(s,((V8 v x s recv Og draws).2.1,(recv,Og))))))
theorem Yi{α:Type}{l:List α}{a b:Int}{q:α}(h:q∈cut l a b):q∈l:=ahp (List.mem_of_mem_drop h)
theorem aaM{v:VV}{x:SV}{s:List Int}{recv Og:Int}{draws:List (List Int)}(hv:okV v)(hf:Pq v=true)(hb:vB v)(hx:ROk x.1)(hs:Bs s)(hl:s.length<9223372036854775808)(hd:draws.length<1000)(hdn: ∀d∈draws,d.length<Nw):
  Oc.run .lim (v,x,s,recv,Og,draws,())=some ((Vg v x s recv Og draws).1,(Vg v x s recv Og draws).2.1,(Vg v x s recv Og draws).2.2,()):=by
 unfold Vg;by_cases h:srE s=0
 case neg=>rw[if_pos h];exact YS hs hl h
 rw[if_neg (fun k=>k h)];have q:=adx hs h;have ho:=YL (v:=v) (r:=x.1) (s:=hC s) hv hf hb hx (N7 (by have:=q.cl;show (PZ (QO (Po s).fs) 516).1.length<_;omega)) q.c.b;by_cases h1:(Qw v x.1 (hC s)).2=0
 case neg=>rw[if_pos h1];exact aad hs hl h ho h1
 rw[if_neg (fun k=>k h1)];obtain⟨k1,k2,k3⟩:=Y6 hf hb h1;obtain⟨r,hr,hr2,_⟩:=Xw hs hl;have he:=hr2 h;subst he;have hw:=XY (t:=(Po s).2.2.2.2.2.2.2.2.2.2.2.2.1) q.u q.ul.2;have hnb:=YT (QO (Po s).fs) (hC s) (findF (QO (Po s).fs) 772).length;have hnb:1<=hN s/\hN s<=8:=hnb;have hu:(PZ (QO (Po s).fs) 260).1=hU s:=rfl;have hc:(PZ (QO (Po s).fs) 516).1=hC s:=rfl;have hn':Xc (QO (Po s).fs) (hC s)=hN s:=rfl;have hUl:(hU s).length<=64:=q.ul.2;rw[hu]at hw;unfold V8 aaL;simp only[Oc.run,hr,h,ag3,ho,hu,hc,hn',h1,decide_true,cond_true,ag6,cond_false];generalize (Qw v x.1 (hC s)).1=K at k1 k2 k3 ⊢
 have ks:=Ql k1;have kl:K.2.1.length<Nw/\K.2.2.length<Nw:=⟨N7 (by omega),N7 (by omega)⟩;rw[aaS hv hf hb hs hl kl.1 k2,ag3];simp only;by_cases h2:(UJ v s K.2.1).2=0
 case neg=>
  rw[if_pos h2,cond_pos (by rw[M_ h2];rfl)];simp only[adt,ag3,hw];rfl
 rw[if_neg (fun k=>k h2),cond_neg (by rw[MV h2];rfl),Nh (show draws.length<9223372036854775808 by omega),cond_true];generalize (UJ v s K.2.1).1=a;by_cases h3:draws.length=0
 ·rw[if_pos h3,cond_pos (MV (by omega))];rfl
 rw[if_neg h3,cond_neg (M_ (by omega)),cond_true];have hmb:0<=mn (hN s) ((draws.length:Int)-1)/\mn (hN s) ((draws.length:Int)-1)<=8/\mn (hN s) ((draws.length:Int)-1)<=(draws.length:Int)-1:=by rw[Pg];omega
 have w1:ahj.wrap ((draws.length:Int)-1)=(draws.length:Int)-1:=wrap64 (by omega) (by omega);have w2:ahj.wrap (1+mn (hN s) ((draws.length:Int)-1))=1+mn (hN s) ((draws.length:Int)-1):=wrap64 (by omega) (by omega);rw[w1,w2,Nq (show (0:Int)<=1 by omega) (show (1:Int)<=1+mn (hN s) ((draws.length:Int)-1) by omega) (show 1+mn (hN s) ((draws.length:Int)-1)<=(draws.length:Int) by omega),cond_true];have ko:KOk K:=⟨kl.1,kl.2⟩;have hcl:(cut draws 1 (1+mn (hN s) ((draws.length:Int)-1))).length<=draws.length:=by unfold cut;rw[aho,ahx];omega
 have hj:=acT (Oj:=cut draws 1 (1+mn (hN s) ((draws.length:Int)-1))) hv hf hx ko (N7 (by omega)) (fun d hd'=>hdn d (Yi hd'));have hj1:=Yl hv (hx.key _ (Qm hx)) (hx.kb _ (Qm hx)) (k:=K) (Oj:=cut draws 1 (1+mn (hN s) ((draws.length:Int)-1)));have hj2:=YX hf (m:=Oq x.1) (k:=K) (Oj:=cut draws 1 (1+mn (hN s) ((draws.length:Int)-1)));rw[hj,ag3];generalize TM v (Oq x.1) K (cut draws 1 (1+mn (hN s) ((draws.length:Int)-1)))=J at hj1 hj2 ⊢
 obtain⟨⟨V1,V2⟩,J,e⟩:=J;simp only at hj1 hj2 ⊢
 by_cases h4:e=0
 case neg=>
  rw[if_pos h4,cond_pos (by rw[M_ h4];rfl),cond_pos (by rw[M_ h4];rfl)];rfl
 rw[if_neg (fun k=>k h4),cond_neg (by rw[MV h4];rfl),Nh (show J.length<9223372036854775808 by omega),cond_true];have hM:=abQ (v:=(V1,V2)) (p:=hP x recv Og a.1 (hU s)) (key:=K.2.2) (MW:=rd [] draws 0) (inner:=J.map fun c=>((516:Int),c)) hj1.1 hj2.1
  ⟨by show (1:Nat)<_;decide,fun f hf=>by rw[ag7.1 hf];show (hU s).length<=_;omega⟩ (by show (1:Nat)<=_;decide) kl.2 k3 (hdn _ (Ol (by omega) (by omega)))
  ⟨by rw[ahb];omega,fun f hf=>by obtain⟨c,hc,e⟩:=ahv.1 hf;rw[<-e];have:=hj2.2 c hc;show c.length<=_;omega⟩
 rw[adQ J hj1.2 J 0 0 [] rfl rfl (ahC _)];simp only[ag3,ahs];rw[Nj (show (0:Int)<=0 by omega) (show (0:Int)<(draws.length:Int) by omega),cond_true,hM,ag3];simp only;generalize QF (V1,V2) (hP x recv Og a.1 (hU s)) K.2.2 (rd [] draws 0) (J.map fun c=>((516:Int),c))=M;by_cases h5:M.2.2=0
 ·rw[cond_neg (by rw[MV h5];rfl),if_neg (fun k=>k h5)];rfl
 ·rw[cond_pos (by rw[M_ h5];rfl),if_pos h5];rfl
end Go.AM
end
section
set_option maxRecDepth 100000
namespace Go.AM
theorem adP{v:VV}{x:SV}{s:List Int}{draws:List (List Int)}(hv:okV v)(hx:SOk x)(hs:s.length<9223372036854775808)(hd:draws.length<9223372036854775808):
  ∃l,Nr.run .lim (v,())=some l/\Qd.run .lim (v,x,s,draws,())=some ((((l&&Pq v)&&W_ x)&&decide ((s.length:Int)<=4000))&&decide ((draws.length:Int)<=40)):=by
 obtain⟨l,hl⟩:=ZJ v hv;refine⟨l,hl,?_⟩;simp only[Qd.run,hl,acZ v hv,(aaK hx).2,ag3,Nh hs,Nh hd,ahu,cond_true];cases l<;>cases Pq v<;>cases W_ x<;>rfl
theorem ad4{r:RR}(h:Ty.ok (.pair (.lst (.pair (.int .u32) (.pair .str (.int .i64)))) (.int .u32)) r):RB r:=by
 obtain⟨⟨h1,h2⟩,_⟩:=h;exact⟨Vw h1,fun k hk=>⟨Vw (h2 k hk).2.1.1,(h2 k hk).2.1.2⟩⟩
end Go.AM
end
section
set_option maxRecDepth 100000
namespace Go.AM
end Go.AM
end
section
set_option maxRecDepth 100000
namespace Go.AM
end Go.AM
end
section
set_option maxRecDepth 100000
namespace Go.AM
theorem abr{v:VV}(hv:okV v){key MW ahead:List Int}{inner:List FF}(hk:key.length<Nw)(hkb:Bs key)(hn:MW.length<Nw)(ha:ahead.length<Nw):okV (QB v key MW ahead inner).1:=by
 have hfl:=Tv (l:=inner);have T:Vs key [ahead,MW] (QW inner):=⟨hk,hkb,by simp[Nw],fun t ht=>by
  simp only[ahq,ahi,or_false]at ht;rcases ht with rfl|rfl
  ·exact ha
  ·exact hn,N7 (by omega)⟩
 have h:=Y5 hv T;unfold QB
 repeat' split
 all_goals first|exact hv|exact h
theorem Y3{v:VV}(hv:okV v){p:PK}{key MW:List Int}{inner:List FF}(hk:key.length<Nw)(hkb:Bs key)(hn:MW.length<Nw):okV (QF v p key MW inner).1:=by
 have hwl:=YF p;have h:=abr hv (inner:=inner) hk hkb hn (N7 (show (Vr p).length<9223372036854775808 by omega));unfold QF
 repeat' split
 all_goals first|exact hv|exact h
theorem abB{v:VV}{x:SV}{s:List Int}{recv Og:Int}{draws:List (List Int)}(hv:okV v)(hf:Pq v=true)(hb:vB v)(hx:ROk x.1)(hdn: ∀d∈draws,d.length<Nw):
  okV (Vg v x s recv Og draws).1/\(Vg v x s recv Og draws).2.1.1=x.1:=by
 unfold Vg;split
 ·exact⟨hv,rfl⟩
 split
 ·exact⟨hv,rfl⟩
 rename_i h1;split
 ·exact⟨hv,rfl⟩
 split
 ·exact⟨hv,rfl⟩
 rename_i h3;split
 ·exact⟨hv,rfl⟩
 split
 ·exact⟨hv,rfl⟩
 refine⟨?_,rfl⟩;obtain⟨k1,k2,k3⟩:=Y6 (v:=v) (r:=x.1) (s:=hC s) hf hb (Classical.byContradiction fun k=>h1 k);have ks:=Ql k1;exact Y3 (Yl hv (hx.key _ (Qm hx)) (hx.kb _ (Qm hx))).1 (N7 (by omega)) k3 (hdn _ (Ol (by omega) (by omega)))
theorem YB{n:Int}(h:Ty.ok (.int .u64) n):0<=n/\n<18446744073709551616:=by
 obtain⟨h3,h4⟩:=h;have h1:(ahN .u64)=0:=by decide
 have h2:(ahM .u64)=18446744073709551615:=by decide
 rw[h1]at h3;rw[h2]at h4;omega
end Go.AM
end
section
set_option maxRecDepth 100000
namespace Go.AM
theorem aaQ{r:RR}(h:W9 r=true):SC r.1 (Oq r).1=((r.1.length-1:Nat):Int)/\0<=(Oq r).1/\(Oq r).1<4294967296:=by
 obtain⟨⟨h1,h8⟩,hs⟩:=XQ h;have b:=(hs (r.1.length-1) (by omega)).2.1;have e:(ahz r.1.length).find? (fun j:Nat=>decide ((rd r0 r.1 (j:Int)).1=(Oq r).1))=some (r.1.length-1):=by
  rw[List.find?_range_eq_some];refine⟨MV rfl,ahw.2 (by omega),fun j hj=> ?_⟩;have a:=(hs j (by omega)).2.1;unfold Oq;rw[M_ (by rw[a,b];omega)];rfl
 refine⟨by unfold SC;rw[e],?_⟩;unfold Oq;rw[b];omega
theorem adX{v:VV}{m:RK}{k:CK}{n:List Int}(hm:m.2.1.length=32)(kf:QV k=true)(hn:n.length=16)(hr:v.2.length<2048):(mkS v m k n).2.2=0/\(mkS v m k n).1.2.length<=v.2.length+1:=by
 have ks:=Ql kf;obtain⟨s1,s2⟩:=Zd (v:=v) (key:=m.2.1) (ad:=[TL m.1,n]) (s:=O6 k) (.inl hm) (by simp) (by rw[TB];omega) hr;unfold mkS;rw[if_pos kf,if_pos hn,if_pos s1];exact⟨rfl,s2⟩
theorem adY(v:VV)(m:RK)(k:CK)(n:List Int):Ext v (mkS v m k n).1:=by
 by_cases h:(mkS v m k n).2.2=0
 ·rw[(Rn h).2.2.2];exact WX _ _ _ _
 ·rw[(Yn h).1];exact Ext.rfl' v
theorem ads{v:VV}(hb:vB v)(m:RK){k:CK}(kb:KB k)(MW:List Int):vB (mkS v m k MW).1:=by
 by_cases h:(mkS v m k MW).2.2=0
 ·obtain⟨h1,_,_,e⟩:=Rn h;rw[e];exact WI hb (Y8 h1 kb)
 ·rw[(Yn h).1];exact hb
def Made(m:RK)(k:CK)(c:List Int)(w:VV):Prop:= ∃v n,Pq v=true/\Bs n/\(mkS v m k n).2.2=0/\c=(mkS v m k n).2.1/\Ext (mkS v m k n).1 w
theorem Made.mono{m:RK}{k:CK}{c:List Int}{w u:VV}(h:Made m k c w)(x:Ext w u):Made m k c u:=by
 obtain⟨v,n,a,b,d,e,f⟩:=h;exact⟨v,n,a,b,d,e,f.trans x⟩
theorem Made.len{m:RK}{k:CK}{c:List Int}{w:VV}(h:Made m k c w):c.length=40+k.2.1.length+k.2.2.length/\Bs c/\QV k=true:=by
 obtain⟨v,n,a,b,d,e,f⟩:=h;rw[e];exact⟨aag a d,aeW a b d,(Rn d).1⟩
theorem Made.opens{r:RR}(hr:W9 r=true){k:CK}(kb:KB k){c:List Int}{w:VV}(h:Made (Oq r) k c w)(hw:Pq w=true):Qw w r c=(k,0):=by
 obtain⟨v,n,a,b,d,e,f⟩:=h;obtain⟨f1,f2,f3⟩:=aaQ hr;rw[e];exact ZQ a d kb f2 f3 f hw f1 rfl
theorem Made.fok{m:RK}{k:CK}{c:List Int}{w:VV}(h:Made m k c w):Wq (516,c)/\c.length<=168:=by
 obtain⟨l,b,f⟩:=h.len;have ks:=Ql f;exact⟨⟨by show (0:Int)<=516;decide,by show (516:Int)<65536;decide,by show 12<=c.length;omega,by show c.length%4=0;omega,by show c.length<65532;omega,b⟩,by omega⟩
theorem XR{m:RK}(hm:m.2.1.length=32){k:CK}(kf:QV k=true)(kb:KB k): ∀(l:List (List Int)) (v:VV) (out:List (List Int)),Pq v=true->vB v->(∀n∈l,n.length=16)->(∀n∈l,Bs n)->v.2.length+l.length<=2048->(∀c∈out,Made m k c v)->
  (Qs m k v out l).2.2=0/\(Qs m k v out l).2.1.length=out.length+l.length/\Ext v (Qs m k v out l).1/\(Qs m k v out l).1.2.length<=v.2.length+l.length/\vB (Qs m k v out l).1/\ ∀c∈(Qs m k v out l).2.1,Made m k c (Qs m k v out l).1
 |[],v,out,h1,h2,h3,h4,h5,h6=>⟨rfl,rfl,Ext.rfl' v,ahC _,h2,h6⟩
 |n::l,v,out,h1,h2,h3,h4,h5,h6=>by
  have h5:v.2.length+(l.length+1)<=2048:=h5;obtain⟨c1,c2⟩:=adX (v:=v) hm kf (h3 n (.head _)) (by omega);have x:=adY v m k n;obtain⟨a1,a2,a3,a4,a5,a6⟩:=XR hm kf kb l (mkS v m k n).1 (out++[(mkS v m k n).2.1]) (Xe h1 m k n) (ads h2 m kb n) (fun q hq=>h3 q (.tail _ hq)) (fun q hq=>h4 q (.tail _ hq)) (by omega) (fun c hc=>by
   rcases ahc.1 hc with hc|hc
   ·exact(h6 c hc).mono x
   ·exact⟨v,n,h1,h4 n (.head _),c1,ag7.1 hc,Ext.rfl' _⟩)
  rw[Qs,if_pos c1];refine⟨a1,?_,x.trans a3,?_,a5,a6⟩
  ·rw[a2,ag4];show out.length+1+l.length=out.length+(l.length+1);omega
  ·show _<=v.2.length+(l.length+1);omega
theorem abG{m:RK}(hm:m.2.1.length=32){k:CK}(kf:QV k=true)(kb:KB k){l:List (List Int)}{v:VV}(h1:Pq v=true)(h2:vB v)(h3: ∀n∈l,n.length=16)(h4: ∀n∈l,Bs n)(h5:v.2.length+l.length<=2048)(h8:l.length<=8):
  (TM v m k l).2.2=0/\(TM v m k l).2.1.length=l.length/\Ext v (TM v m k l).1/\(TM v m k l).1.2.length<=v.2.length+l.length/\vB (TM v m k l).1/\ ∀c∈(TM v m k l).2.1,Made m k c (TM v m k l).1:=by
 obtain⟨a1,a2,a3⟩:=XR hm kf kb l v [] h1 h2 h3 h4 h5 (fun c hc=>nomatch hc);unfold TM;rw[if_neg (by omega),if_pos a1];exact⟨a1,by rw[a2];simp,a3⟩
def QT(u c:List Int)(n:Nat):List FF:=[(260,u),(516,c)]++ag5 n (772,ag5 c.length 0)
def QK(u c:List Int)(n:Nat)(t:Int):PK:=((0:Int),(4,(3,(0,(0,(0,(0,(0,(0,(0,(0,(0,(t,QT u c n)))))))))))))
theorem X5(u c:List Int): ∀ {n:Nat},n<=5->findF (QT u c n) 1028=[]/\PZ (QT u c n) 260=(u,0)/\PZ (QT u c n) 516=(c,0)
 |0,_=>⟨rfl,rfl,rfl⟩
 |1,_=>⟨rfl,rfl,rfl⟩
 |2,_=>⟨rfl,rfl,rfl⟩
 |3,_=>⟨rfl,rfl,rfl⟩
 |4,_=>⟨rfl,rfl,rfl⟩
 |5,_=>⟨rfl,rfl,rfl⟩
 |n+6,h=>absurd h (by omega)
theorem ab2(u c:List Int): ∀ {n:Nat},n<=5->findF (QT u c n) 772=(ahz n).map fun k:Nat=>((k+2:Nat):Int)
 |0,_=>rfl
 |1,_=>rfl
 |2,_=>rfl
 |3,_=>rfl
 |4,_=>rfl
 |5,_=>rfl
 |n+6,h=>absurd h (by omega)
theorem Xk(u c:List Int)(n:Nat):(QT u c n).length=n+2:=by unfold QT;rw[ag4,aha];show 2+n=n+2;omega
theorem ab3(u c:List Int){n:Nat}(h:n<=5):Xc (QT u c n) c=(n:Int)+1:=by
 unfold Xc TR;rw[List.take_length,ab2 u c h,List.filter_eq_self.2 (fun i hi=>by
  obtain⟨k,hk,e⟩:=ahv.1 hi;have hk:=ahw.1 hk;have e2:rd f0 (QT u c n) ((k+2:Nat):Int)=(772,ag5 c.length 0):=by
   rw[Qz (by rw[Xk];omega)];unfold QT;rw[List.getElem_append_right (by simp),List.getElem_replicate]
  rw[<-e,e2];exact MV (by show ((ag5 c.length (0:Int)).length:Int)=_;simp)),ahb,List.length_range]
 omega
theorem WW(f:FF): ∀n:Nat,(Nk (ag5 n f)).length=n*(4+f.2.length)
 |0=>by rw[Nat.zero_mul];rfl
 |n+1=>by
  have e:Nk (ag5 (n+1) f)=QS f++Nk (ag5 n f):=by simp[Nk,List.replicate_succ]
  rw[e,ag4,Qb,WW f n,Nat.add_mul,Nat.one_mul];omega
theorem acY(u c:List Int)(n:Nat):(Nk (QT u c n)).length=8+u.length+c.length+n*(4+c.length):=by
 unfold QT;rw[S_,ag4,WW];have:Nk [((260:Int),u),(516,c)]=QS (260,u)++QS (516,c):=by simp[Nk]
 rw[this,ag4,Qb,Qb];simp only[aha];omega
theorem aeD{u:List Int}(h32:32<=u.length)(h64:u.length<=64)(h4:u.length%4=0)(hb:Bs u):Wq (260,u):=
 ⟨by show (0:Int)<=260;decide,by show (260:Int)<65536;decide,by show 12<=u.length;omega,h4,by show u.length<65532;omega,hb⟩
theorem ad6{u c:List Int}(hu:Wq (260,u))(hc:Wq (516,c))(n:Nat): ∀f∈QT u c n,Wq f:=fun f hf=>by
 unfold QT at hf;rcases ahc.1 hf with hf|hf
 ·simp only[ahq,ahi,or_false]at hf;rcases hf with rfl|rfl
  ·exact hu
  ·exact hc
 ·rw[(ahE.1 hf).2];exact⟨by show (0:Int)<=772;decide,by show (772:Int)<65536;decide,by show 12<=(ag5 c.length (0:Int)).length;rw[aha];exact hc.l0,by show (ag5 c.length (0:Int)).length%4=0;rw[aha];exact hc.l4,by show (ag5 c.length (0:Int)).length<65532;rw[aha];exact hc.l1,awB (by decide)⟩
theorem acO{l:List FF}{b:Nat}(h: ∀f∈l,f.2.length<=b):(Nk l).length<=l.length*(4+b):=by
 induction l with
 |nil=>exact ahI _
 |cons f l ih=>
  have e:Nk (f::l)=QS f++Nk l:=by simp[Nk]
  have:=ih fun g hg=>h g (.tail _ hg)
  have:=h f (.head _);rw[e,ag4,Qb,ahn,Nat.add_mul,Nat.one_mul];omega
end Go.AM
end
section
set_option maxRecDepth 100000
namespace Go.AM
noncomputable def acj(x:SV)(K:CK)(u:List Int)(t recv Og:Int)(draws:List (List Int))(n:Int)(r7:VV)(r8:List Int):Option Bool:=
   (Oc.run .lim (r7,x,r8,recv,Og,draws,())).bind fun (r12,r13,XC,())=>
   ((bif !((((((!(decide (XC.1=1)))||(!(decide (XC.2.1=u))))||(!(decide (XC.2.2.1=r8))))||(!(decide (r13.2.2.2.2.2.2.1=(ahk.wrap (x.2.2.2.2.2.2.1+1))))))||(!(decide (r13.2.2.2.2.2.2.2.1=x.2.2.2.2.2.2.2.1))))||(!(decide (r13.2.2.2.2.2.2.2.2=x.2.2.2.2.2.2.2.2))))then N9.run .lim (x.1,r13.1,())else some false)).bind fun r15=>
   bif(((((((!(decide (XC.1=1)))||(!(decide (XC.2.1=u))))||(!(decide (XC.2.2.1=r8))))||(!(decide (r13.2.2.2.2.2.2.1=(ahk.wrap (x.2.2.2.2.2.2.1+1))))))||(!(decide (r13.2.2.2.2.2.2.2.1=x.2.2.2.2.2.2.2.1))))||(!(decide (r13.2.2.2.2.2.2.2.2=x.2.2.2.2.2.2.2.2))))|| !r15)then
   some false
   else
   (N8.run .lim (r12,XC.2.2.2.1,K.2.2,())).bind fun (r16,r17,())=>
   bif((!(!(((((!(decide (r17=0)))||(!(decide (r16.1.2.2.2.2.2.2.2.2.2.2.1=t))))||(!(decide (r16.1.2.2.2.2.2.2.2.2.2.2.2.1=recv))))||(!(decide (r16.1.2.2.2.2.2.2.2.2.2.2.2.2.1=Og))))||(!(decide (r16.1.2.2.2.1=x.2.1))))))||(vZ (r16.2.2.length:Int)))then
   bif((!(!(((((!(decide (r17=0)))||(!(decide (r16.1.2.2.2.2.2.2.2.2.2.2.1=t))))||(!(decide (r16.1.2.2.2.2.2.2.2.2.2.2.2.1=recv))))||(!(decide (r16.1.2.2.2.2.2.2.2.2.2.2.2.2.1=Og))))||(!(decide (r16.1.2.2.2.1=x.2.1))))))||(vZ (draws.length:Int)))then
   bif((((((!(decide (r17=0)))||(!(decide (r16.1.2.2.2.2.2.2.2.2.2.2.1=t))))||(!(decide (r16.1.2.2.2.2.2.2.2.2.2.2.2.1=recv))))||(!(decide (r16.1.2.2.2.2.2.2.2.2.2.2.2.2.1=Og))))||(!(decide (r16.1.2.2.2.1=x.2.1))))||(!(decide ((r16.2.2.length:Int)=(mn (ahj.wrap (n+1)) (ahj.wrap ((draws.length:Int)-1)))))))then
    some false
   else
    (PS.run .lim (r16.2.1,260,())).bind fun (r18,r19,())=>
    bif((!(decide (r19=0)))||(!(decide (r18=u))))then
    some false
    else
    bif vZ (r16.2.2.length:Int)then
    (Nc.l2 .lim (r16.2.2,(r16.2.2.length:Int),0,K.1,K.2.1,K.2.2,r12.1,r12.2,r13.1.1,r13.1.2,r13.2.1,r13.2.2.1,r13.2.2.2.1,r13.2.2.2.2.1,r13.2.2.2.2.2.1,r13.2.2.2.2.2.2.1,r13.2.2.2.2.2.2.2.1,r13.2.2.2.2.2.2.2.2,())).bind fun g_=>match g_ with
    | .inl (t4,())=>
     some t4
    | .inr (())=>
     (NH.run .lim (())).bind fun r20=>
     some r20 else none else none else none
structure aaH(x:SV)(K:CK)(u:List Int)(t recv Og:Int)(draws:List (List Int)):Prop where
 ring:W9 x.1=true
 rb:RB x.1
 st:0<x.2.1/\x.2.1<16
 pr: -128<=x.2.2.1/\x.2.2.1<128
 a:0<=x.2.2.2.1/\x.2.2.2.1<4294967296
 b:0<=x.2.2.2.2.1/\x.2.2.2.2.1<4294967296
 c:0<=x.2.2.2.2.2.1/\x.2.2.2.2.2.1<4294967296
 kf:QV K=true
 kb:KB K
 u32:32<=u.length/\u.length<=64
 uf:Wq (260,u)
 t:0<=t/\t<18446744073709551616
 r:0<=recv/\recv<18446744073709551616
 x:0<=Og/\Og<18446744073709551616
 d0:0<draws.length/\draws.length<=40
 d: ∀d∈draws,d.length=16/\Bs d
theorem acX{u c:List Int}{n:Nat}{t:Int}(ht:0<=t/\t<18446744073709551616):POk (QK u c n t):=by
 have z:(0:Int)<=0/\(0:Int)<18446744073709551616:=by decide
 have y:(0:Int)<=0/\(0:Int)<4294967296:=by decide
 exact⟨rfl,y,y,y,z,z,z,ht⟩
theorem aeF{x:SV}{K:CK}{u:List Int}{t recv Og:Int}{draws:List (List Int)}(h:aaH x K u t recv Og draws){q:PK}(hq:q=PK.cut (QK u [] 0 t) []):POk (hP x recv Og q u):=by
 subst hq;have h1:Vt (hP x recv Og (PK.cut (QK u [] 0 t) []) u)=true:=by
  have:=h.st;have:=h.pr;unfold Vt;show (((((WE 0 0 3&&WE 4 0 7)&&WE 4 0 7)&&WE x.2.1 0 255)&&WE 0 (-128) 127)&&WE x.2.2.1 (-128) 127)=true;simp only[ahm,aae];omega
 exact⟨h1,h.b,h.c,h.a,h.r,h.t,h.r,h.x⟩
structure OY(v:VV)(x:SV)(K:CK)(u c MW:List Int)(n:Nat)(t:Int):Prop where
 hv:okV v
 hf:Pq v=true
 hb:vB v
 n5:n<=5
 made:Made (Oq x.1) K c v
 m:Mk v (QK u c n t) K.2.1 MW []
 room:(NZ v K.2.1 [TK (QK u c n t)++Nk (QT u c n),MW] []).1.2.length<=300
 w:okV (NZ v K.2.1 [TK (QK u c n t)++Nk (QT u c n),MW] []).1
noncomputable def OY.W(v:VV)(K:CK)(u c MW:List Int)(n:Nat)(t:Int):VV:=(NZ v K.2.1 [TK (QK u c n t)++Nk (QT u c n),MW] []).1
noncomputable def OY.S(v:VV)(K:CK)(u c MW:List Int)(n:Nat)(t:Int):List Int:=Mk.T v (QK u c n t) K.2.1 MW []
theorem acn{v:VV}{x:SV}{K:CK}{u c MW:List Int}{n:Nat}{t recv Og:Int}{draws:List (List Int)}(h:aaH x K u t recv Og draws)(q:OY v x K u c MW n t):
  srE (OY.S v K u c MW n t)=0/\hU (OY.S v K u c MW n t)=u/\hC (OY.S v K u c MW n t)=c/\hN (OY.S v K u c MW n t)=(n:Int)+1:=by
 have e1:=q.m.read;have e1:Ws (OY.S v K u c MW n t)=0/\Po (OY.S v K u c MW n t)=PK.cut (QK u c n t) (QT u c n++[Mk.G v (QK u c n t) K.2.1 MW []]):=e1;have ec:QO (Po (OY.S v K u c MW n t)).fs=QT u c n:=by
  have e2:RG (QT u c n++[Mk.G v (QK u c n t) K.2.1 MW []]) 1028=some (QT u c n).length:=XP q.m.no rfl;rw[e1.2];unfold QO;show (match RG (QT u c n++[Mk.G v (QK u c n t) K.2.1 MW []]) 1028 with|some k=>(QT u c n++[Mk.G v (QK u c n t) K.2.1 MW []]).take k|none=>_)=_;rw[e2];exact List.take_left' rfl
 obtain⟨f1,f2,f3⟩:=X5 u c q.n5;have hc:=q.made.fok.2;have hu:=h.u32;unfold hN hC hU;rw[ec,f2,f3];refine⟨?_,rfl,rfl,ab3 u c q.n5⟩;unfold srE;rw[if_neg (fun k=>k e1.1),ec];rw[if_neg (by rw[e1.2];show ¬((4:Int)≠4\/(3:Int)≠3);decide)];unfold srF;rw[f2,f3,if_neg (fun k=>k rfl),if_neg (fun k=>k rfl),if_neg (show ¬(u.length<32\/u.length>64\/c.length>256) by omega)]
structure ael(x:SV)(K:CK)(u:List Int)(t recv Og:Int)(draws:List (List Int))(n:Nat)(w:VV)(T:List Int)(J:List (List Int)):Prop where
 ok:okV w
 fit:Pq w=true
 vb:vB w
 tb:Bs T/\T.length<=1280
 op:UJ w T K.2.2=((PK.cut (hP x recv Og (PK.cut (QK u [] 0 t) []) u) [],([(260,u)],J.map fun c=>((516:Int),c))),0)
 len:(J.length:Int)=mn ((n:Int)+1) ((draws.length:Int)-1)
 made: ∀c∈J,Made (Oq x.1) K c w
theorem ac_{v:VV}{x:SV}{K:CK}{u c MW:List Int}{n:Nat}{t recv Og:Int}{draws:List (List Int)}(h:aaH x K u t recv Og draws)(q:OY v x K u c MW n t):
  ∃w T J,Vg (OY.W v K u c MW n t) x (OY.S v K u c MW n t) recv Og draws=(w,Wn x,(1,(u,(OY.S v K u c MW n t,(T,(recv,Og))))))/\ael x K u t recv Og draws n w T J:=by
 obtain⟨s1,s2,s3,s4⟩:=acn h q;have hWf:Pq (OY.W v K u c MW n t)=true:=Uc q.hf _ _ _;have hWb:vB (OY.W v K u c MW n t):=WI q.hb abP;have hWo:okV (OY.W v K u c MW n t):=q.w;have hWr:(OY.W v K u c MW n t).2.length<=300:=q.room;have ro:=Yp h.ring h.rb;have hlk:=ro.key _ (Qm ro);have hlb:=ro.kb _ (Qm ro);have mW:Made (Oq x.1) K c (OY.W v K u c MW n t):=q.made.mono (WX _ _ _ _);have eC:Qw (OY.W v K u c MW n t) x.1 c=(K,0):=mW.opens h.ring h.kb hWf;have eN:UJ (OY.W v K u c MW n t) (OY.S v K u c MW n t) K.2.1=((PK.cut (QK u c n t) [],(QT u c n,[])),0):=q.m.opens (Ext.rfl' _) hWf;have hd:=h.d0;have hmb:0<=mn ((n:Int)+1) ((draws.length:Int)-1)/\mn ((n:Int)+1) ((draws.length:Int)-1)<=6/\mn ((n:Int)+1) ((draws.length:Int)-1)<=(draws.length:Int)-1:=by have:=q.n5;rw[Pg];omega
 have hNl:((cut draws 1 (1+mn ((n:Int)+1) ((draws.length:Int)-1))).length:Int)=mn ((n:Int)+1) ((draws.length:Int)-1):=by unfold cut;rw[aho,ahx];omega
 have hJ:=abG hlk h.kf h.kb (l:=cut draws 1 (1+mn ((n:Int)+1) ((draws.length:Int)-1))) hWf hWb (fun d hd'=>(h.d d (Yi hd')).1) (fun d hd'=>(h.d d (Yi hd')).2) (by omega) (by omega);have hJo:=Yl hWo hlk hlb (k:=K) (Oj:=cut draws 1 (1+mn ((n:Int)+1) ((draws.length:Int)-1)));have hJf:=(YX hWf (m:=Oq x.1) (k:=K) (Oj:=cut draws 1 (1+mn ((n:Int)+1) ((draws.length:Int)-1)))).1;have eJ:aaL (OY.W v K u c MW n t) x (OY.S v K u c MW n t) draws=TM (OY.W v K u c MW n t) (Oq x.1) K (cut draws 1 (1+mn ((n:Int)+1) ((draws.length:Int)-1))):=by unfold aaL;rw[s3,s4,eC]
 have hh0:=abB (v:=OY.W v K u c MW n t) (x:=x) (s:=OY.S v K u c MW n t) (recv:=recv) (Og:=Og) (draws:=draws) hWo hWf hWb ro (fun d hd'=>N7 (by have:=(h.d d hd').1;omega));generalize hV:TM (OY.W v K u c MW n t) (Oq x.1) K (cut draws 1 (1+mn ((n:Int)+1) ((draws.length:Int)-1)))=V at hJ hJo hJf eJ;obtain⟨j1,j2,j3,j4,j5,j6⟩:=hJ;have hd0:=h.d _ (Ol (d:=([]:List Int)) (xs:=draws) (i:=0) (by omega) (by omega));have ks:=Ql h.kf;have hin: ∀f∈V.2.1.map (fun c=>((516:Int),c)),Wq f/\f.2.length<=168:=fun f hf=>by
  obtain⟨c',hc',e⟩:=ahv.1 hf;rw[<-e];exact(j6 c' hc').fok
 have hie:=acO (fun f hf=>(hin f hf).2);rw[ahb]at hie;have hue:(Nk [(260,u)]).length<=68:=by have:=h.u32;rw[Ub,Qb];show 4+u.length<=68;omega
 have hsc:=Zd (v:=V.1) (key:=K.2.2) (ad:=[TK (hP x recv Og (PK.cut (QK u c n t) []) u)++Nk [(260,u)],rd [] draws 0]) (s:=Nk (V.2.1.map fun c=>((516:Int),c))) (by omega) (by simp) (by omega) (by omega);have M:Mk V.1 (hP x recv Og (PK.cut (QK u c n t) []) u) K.2.2 (rd [] draws 0) (V.2.1.map fun c=>((516:Int),c)):= {
  hv:=hJf,po:=aeF h rfl,no:=rfl
  fo:=fun f hf=>by rw[ag7.1 hf];exact h.uf
  io:=fun f hf=>(hin f hf).1
  i16:=by rw[ahb];omega
  p16:=by show 1+1<=16;decide
  len:=by show (Nk [(260,u)]).length+_+44<=1232;omega
  n:=hd0.1,nb:=hd0.2,ok:=hsc.1}
 have eM:V8 (OY.W v K u c MW n t) x (OY.S v K u c MW n t) recv Og draws=((NZ V.1 K.2.2 [TK (hP x recv Og (PK.cut (QK u c n t) []) u)++Nk [(260,u)],rd [] draws 0] (Nk (V.2.1.map fun c=>((516:Int),c)))).1,Mk.T V.1 (hP x recv Og (PK.cut (QK u c n t) []) u) K.2.2 (rd [] draws 0) (V.2.1.map fun c=>((516:Int),c)),0):=by
  unfold V8;rw[eJ,s2,s3,eC];show QF V.1 (hP x recv Og (UJ (OY.W v K u c MW n t) (OY.S v K u c MW n t) K.2.1).1.1 u) K.2.2 (rd [] draws 0) _=_;rw[eN];exact M.made
 have eH:Vg (OY.W v K u c MW n t) x (OY.S v K u c MW n t) recv Og draws=((V8 (OY.W v K u c MW n t) x (OY.S v K u c MW n t) recv Og draws).1,Wn x,(1,(hU (OY.S v K u c MW n t),(OY.S v K u c MW n t,((V8 (OY.W v K u c MW n t) x (OY.S v K u c MW n t) recv Og draws).2.1,(recv,Og)))))):=by
  unfold Vg;rw[if_neg (fun k=>k s1),s3,eC,if_neg (fun k=>k rfl),eN,if_neg (fun k=>k rfl),if_neg (by omega),eJ,if_neg (fun k=>k j1),eM,if_neg (fun k=>k rfl)]
 rw[eM,s2]at eH;rw[eH]at hh0;refine⟨_,_,V.2.1,eH,{ok:=hh0.1,fit:=Uc hJf _ _ _,vb:=WI j5 (WA fun f hf=>(hin f hf).1.b),tb:=M.bytes,op:=M.opens (Ext.rfl' _) (Uc hJf _ _ _),len:=by rw[j2,hNl],made:=fun c' hc'=>(j6 c' hc').mono (WX _ _ _ _)}⟩
end Go.AM
end
section
set_option maxRecDepth 100000
namespace Go.AM
theorem ae6{x:SV}{K:CK}{w:VV}{L:List FF}(hL:L.length<100)(h: ∀f∈L,f.1=516/\O5.run .lim (w,x.1,f.2,())=some (K,0,())):
  Nc.l2 .lim (L,(L.length:Int),0,K.1,K.2.1,K.2.2,w.1,w.2,x.1.1,x.1.2,x.2.1,x.2.2.1,x.2.2.2.1,x.2.2.2.2.1,x.2.2.2.2.2.1,x.2.2.2.2.2.2.1,x.2.2.2.2.2.2.2.1,x.2.2.2.2.2.2.2.2,())=some (.inr ()):=by
 have e:=Oh (f:=Nc.l2 .lim) (fun j=>(L,(L.length:Int),(j:Int),K.1,K.2.1,K.2.2,w.1,w.2,x.1.1,x.1.2,x.2.1,x.2.2.1,x.2.2.2.1,x.2.2.2.2.1,x.2.2.2.2.2.1,x.2.2.2.2.2.2.1,x.2.2.2.2.2.2.2.1,x.2.2.2.2.2.2.2.2,())) (n:=L.length) (fun k hk=>by
  obtain⟨a1,a2⟩:=h _ (Ol (d:=((0:Int),([]:List Int))) (xs:=L) (i:=(k:Int)) (by omega) (by omega));have a2:O5.run .lim ((w.1,w.2),(x.1.1,x.1.2),(rd ((0:Int),([]:List Int)) L (k:Int)).2,())=some (K,0,()):=a2;rw[Nc.q2];simp only[Nc.b2,MV (show (k:Int)<(L.length:Int) by omega),Nj (show (0:Int)<=(k:Int) by omega) (show (k:Int)<(L.length:Int) by omega),cond_true,a2,ag3,a1,decide_true,Bool.and_self,ag6,aht,cond_false,QU k (show k<4611686018427387904 by omega)])
 have e0:Nc.l2 .lim (L,(L.length:Int),0,K.1,K.2.1,K.2.2,w.1,w.2,x.1.1,x.1.2,x.2.1,x.2.2.1,x.2.2.2.1,x.2.2.2.2.1,x.2.2.2.2.2.1,x.2.2.2.2.2.2.1,x.2.2.2.2.2.2.2.1,x.2.2.2.2.2.2.2.2,())=_:=e;rw[e0,Nc.q2];simp only[Nc.b2,M_ (show ¬(L.length:Int)<(L.length:Int) by omega),cond_false]
theorem Zh{v:VV}{x:SV}{K:CK}{u c MW:List Int}{n:Nat}{t recv Og:Int}{draws:List (List Int)}(h:aaH x K u t recv Og draws)(q:OY v x K u c MW n t):
  acj x K u t recv Og draws (n:Int) (OY.W v K u c MW n t) (OY.S v K u c MW n t)=some true:=by
 obtain⟨w,T,J,eH,o⟩:=ac_ h q;have ro:=Yp h.ring h.rb;have ks:=Ql h.kf;have hd:=h.d0;have n5:=q.n5;have hh:=aaM (v:=OY.W v K u c MW n t) (x:=x) (s:=OY.S v K u c MW n t) (recv:=recv) (Og:=Og) (draws:=draws) q.w (Uc q.hf _ _ _) (WI q.hb abP) ro q.m.bytes.1 (by have h8:(OY.S v K u c MW n t).length<=1280:=q.m.bytes.2;omega) (by omega) (fun d hd'=>N7 (by have:=(h.d d hd').1;omega));rw[eH]at hh;have ho:=(abS (v:=w) (s:=T) (key:=K.2.2) o.ok o.fit o.vb o.tb.1 (by have:=o.tb.2;omega) (N7 (by omega)) h.kb.b).2;rw[o.op]at ho;have hs:=Yu (a:=x.1) (b:=x.1) (by have:=ro.len;omega) (by have:=ro.len;omega);have hs1:aat x.1 x.1=true:=by unfold aat;simp
 rw[hs1]at hs;have h1:=ac3 (l:=[((260:Int),u)]) 260 (by show (1:Nat)<8796093022208;decide);have h1':PZ [((260:Int),u)] 260=(u,0):=rfl;rw[h1']at h1;have hl2:=ae6 (x:=Wn x) (K:=K) (w:=w) (L:=J.map fun c=>((516:Int),c)) (by rw[ahb];have:=o.len;rw[Pg]at this;omega) (fun f hf=>by
  obtain⟨c',hc',e⟩:=ahv.1 hf;have m:=o.made c' hc';rw[<-e];refine⟨rfl,?_⟩;show O5.run .lim (w,x.1,c',())=_;rw[aaU o.ok o.fit o.vb ro (N7 (by have:=m.fok.2;omega)) m.len.2.1,m.opens h.ring h.kb o.fit])
 have hJl:((J.map fun c=>((516:Int),c)).length:Int)=mn (ahj.wrap ((n:Int)+1)) (ahj.wrap ((draws.length:Int)-1)):=by rw[ahb,o.len,wrap64 (by omega) (by omega),wrap64 (by omega) (by omega)]
 have sJ:vZ ((J.map fun c=>((516:Int),c)).length:Int)=true:=Nh (by rw[ahb];have:=o.len;rw[Pg]at this;omega);have sD:vZ (draws.length:Int)=true:=Nh (by omega);unfold acj;rw[hh,ag3];generalize (J.map fun c=>((516:Int),c))=L at ho hl2 hJl sJ;have hs:N9.run .lim (x.1,(Wn x).1,())=some true:=hs;have g1:(Wn x).2.2.2.2.2.2.1=ahk.wrap (x.2.2.2.2.2.2.1+1):=rfl;have g2:(Wn x).2.2.2.2.2.2.2.1=x.2.2.2.2.2.2.2.1:=rfl;have g3:(Wn x).2.2.2.2.2.2.2.2=x.2.2.2.2.2.2.2.2:=rfl;simp only[hs,g1,g2,g3,decide_true,ag6,aht,ag9,cond_true,cond_false,ag3,ho,sJ,sD,ahu];have p1:decide ((PK.cut (hP x recv Og (PK.cut (QK u [] 0 t) []) u) []).2.2.2.2.2.2.2.2.2.2.1=t)=true:=MV rfl;have p2:decide ((PK.cut (hP x recv Og (PK.cut (QK u [] 0 t) []) u) []).2.2.2.2.2.2.2.2.2.2.2.1=recv)=true:=MV rfl;have p3:decide ((PK.cut (hP x recv Og (PK.cut (QK u [] 0 t) []) u) []).2.2.2.2.2.2.2.2.2.2.2.2.1=Og)=true:=MV rfl;have p4:decide ((PK.cut (hP x recv Og (PK.cut (QK u [] 0 t) []) u) []).2.2.2.1=x.2.1)=true:=MV rfl;refine(cond_neg (by simp only[p1,p2,p3,p4,hJl,decide_true,ag6,aht])).trans ?_;rw[h1,ag3];simp only[decide_true,ag6,aht,cond_false];refine(congrArg (ahJ · _) hl2).trans ?_;simp only[ag3,QX]
theorem ae4{u MW:List Int}{Qu t recv Og:Int}{draws:List (List Int)}(hd:draws.length<1000)(hs: ∀d∈draws,d.length<Nw)(z):
  Nc.l0 .lim (u,MW,Qu,t,recv,Og,draws,draws,(draws.length:Int),0,z)=bif(ahz draws.length).any (fun k:Nat=> !decide ((rd ([]:List Int) draws (k:Int)).length=16))then some (.inl (true,()))else some (.inr (u,MW,Qu,t,recv,Og,draws,z)):=by
 have e:=Ue (f:=Nc.l0 .lim) (fun k=>(u,MW,Qu,t,recv,Og,draws,draws,(draws.length:Int),(k:Int),z)) draws.length (fun k:Nat=> !decide ((rd ([]:List Int) draws (k:Int)).length=16)) (some (.inl (true,()))) (fun k hk=>by
  have hm:=hs _ (Ol (d:=([]:List Int)) (xs:=draws) (i:=(k:Int)) (by omega) (by omega));have hm63:(rd ([]:List Int) draws (k:Int)).length<9223372036854775808:=hm;rw[Nc.q0];simp only[Nc.b0,MV (show (k:Int)<(draws.length:Int) by omega),Nj (show (0:Int)<=(k:Int) by omega) (show (k:Int)<(draws.length:Int) by omega),Nh hm63,cond_true,QX,ag3,QU k (show k<4611686018427387904 by omega)];by_cases h:(rd ([]:List Int) draws (k:Int)).length=16
  ·rw[MV h,MV (by omega)]
  ·rw[M_ h,M_ (by omega)])
 have e0:Nc.l0 .lim (u,MW,Qu,t,recv,Og,draws,draws,(draws.length:Int),0,z)=_:=e;rw[e0,Nc.q0];simp only[Nc.b0,M_ (show ¬(draws.length:Int)<(draws.length:Int) by omega),cond_false]
theorem ae5{u MW c:List Int}{t recv Og:Int}{draws:List (List Int)}{n:Nat}{m m1 m2 m3 m4 m5 m6 m7 m8 m9 m10 m11 m12 m13 m14}(hn:n<=5)(hc:c.length<=1000):
  Nc.l1 .lim (u,MW,t,recv,Og,draws,(n:Int),c,(n:Int),0,m,m1,m2,m3,m4,m5,m6,m7,m8,m9,m10,m11,m12,m13,m14,[(260,u),(516,c)],())=some (u,MW,t,recv,Og,draws,(n:Int),m,m1,m2,m3,m4,m5,m6,m7,m8,m9,m10,m11,m12,m13,m14,QT u c n,()):=by
 have e:=Oh (f:=Nc.l1 .lim) (fun j=>(u,MW,t,recv,Og,draws,(n:Int),c,(n:Int),(j:Int),m,m1,m2,m3,m4,m5,m6,m7,m8,m9,m10,m11,m12,m13,m14,QT u c j,())) (n:=n) (fun k hk=>by
  have hl:=Xk u c k;have hcap:decide ((QT u c k).length+([(772,(ag5 c.length 0))]:List FF).length<2932031007402)=true:=MV (by rw[hl,ag8];omega);have hb:(((decide (0<=(c.length:Int)))&&(decide ((c.length:Int)<=(c.length:Int))))&&(Nat.blt c.length 70368744177664))=true:=by
   rw[MV (by omega),MV (Int.le_refl _)];exact Nat.ble_eq_true_of_le (by omega)
  rw[Nc.q1];simp only[Nc.b1,MV (show (k:Int)<(n:Int) by omega),Nh (show c.length<9223372036854775808 by omega),hb,cond_true,ahg,hcap,QU k (show k<4611686018427387904 by omega)];congr 1;unfold QT;rw[ahl,ahB])
 have e0:Nc.l1 .lim (u,MW,t,recv,Og,draws,(n:Int),c,(n:Int),0,m,m1,m2,m3,m4,m5,m6,m7,m8,m9,m10,m11,m12,m13,m14,[(260,u),(516,c)],())=_:=e;rw[e0,Nc.q1];simp only[Nc.b1,M_ (show ¬(n:Int)<(n:Int) by omega),cond_false]
end Go.AM
end
section
set_option maxRecDepth 100000
namespace Go.AM
theorem aeX{v:VV}{p:PK}{key MW:List Int}(hv:Pq v=true)(po:POk p)(no:findF p.fs 1028=[])(fo: ∀f∈p.fs,Wq f)(p16:p.fs.length+1<=16)(len:(Nk p.fs).length+44<=1232)(n:MW.length=16)(nb:Bs MW):
  Mk v p key MW []\/(QF v p key MW []).2.2≠0:=by
 by_cases ok:(NZ v key [TK p++Nk p.fs,MW] (Nk [])).2.2=0
 ·exact .inl ⟨hv,po,no,fo,(fun f hf=>nomatch hf),by decide,p16,len,n,nb,ok⟩
 ·refine .inr ?_;have w1:VK p=0:=by unfold VK;rw[if_pos po.hd];exact Um fo (by omega) (by omega)
  have w2:Vr p=TK p++Nk p.fs:=by unfold Vr;rw[if_pos w1]
  have hi:Rl []=0:=rfl;have hi2:QW []=Nk []:=rfl;have ha:(QB v key MW (TK p++Nk p.fs) []).2.2=(NZ v key [TK p++Nk p.fs,MW] (Nk [])).2.2:=by
   unfold QB;rw[if_pos n,if_neg (show ¬(TK p++Nk p.fs).length>1280 by rw[ag4,TQ];omega),if_pos hi,hi2,if_neg ok]
  unfold QF;rw[no,if_neg (by decide),if_pos w1,w2,ha,if_neg ok];exact ok
theorem ada{v:VV}{x:SV}{K:CK}{u MW:List Int}{n:Nat}{t recv Og:Int}{draws:List (List Int)}(h:aaH x K u t recv Og draws)(hv:okV v)(hf:Pq v=true)(hb:vB v)(hnb:Bs MW)(h0:(mkS v (Oq x.1) K MW).2.2=0)(n5:n<=5):
  PG.run .lim ((mkS v (Oq x.1) K MW).1,QK u (mkS v (Oq x.1) K MW).2.1 n t,K.2.1,MW,[],())=some ((QF (mkS v (Oq x.1) K MW).1 (QK u (mkS v (Oq x.1) K MW).2.1 n t) K.2.1 MW []).1,(QF (mkS v (Oq x.1) K MW).1 (QK u (mkS v (Oq x.1) K MW).2.1 n t) K.2.1 MW []).2.1,(QF (mkS v (Oq x.1) K MW).1 (QK u (mkS v (Oq x.1) K MW).2.1 n t) K.2.1 MW []).2.2,())/\
  ((QF (mkS v (Oq x.1) K MW).1 (QK u (mkS v (Oq x.1) K MW).2.1 n t) K.2.1 MW []).2.2=0->
   Mk (mkS v (Oq x.1) K MW).1 (QK u (mkS v (Oq x.1) K MW).2.1 n t) K.2.1 MW []/\
   QF (mkS v (Oq x.1) K MW).1 (QK u (mkS v (Oq x.1) K MW).2.1 n t) K.2.1 MW []=(OY.W (mkS v (Oq x.1) K MW).1 K u (mkS v (Oq x.1) K MW).2.1 MW n t,OY.S (mkS v (Oq x.1) K MW).1 K u (mkS v (Oq x.1) K MW).2.1 MW n t,0)/\
   okV (OY.W (mkS v (Oq x.1) K MW).1 K u (mkS v (Oq x.1) K MW).2.1 MW n t)):=by
 have ro:=Yp h.ring h.rb;have ks:=Ql h.kf;have hm:Made (Oq x.1) K (mkS v (Oq x.1) K MW).2.1 (mkS v (Oq x.1) K MW).1:=⟨v,MW,hf,hnb,h0,rfl,Ext.rfl' _⟩;have hn16:=(Rn h0).2.1;have hv1:=aah hv (ro.key _ (Qm ro)) (ro.kb _ (Qm ro)) K MW;have hf1:=Xe hf (Oq x.1) K MW;generalize mkS v (Oq x.1) K MW=M at hm hv1 hf1;obtain⟨V,c,e⟩:=M;simp only at hm hv1 hf1 ⊢
 have hc:=hm.fok;have hu:=h.u32;have hF:=ad6 h.uf hc.1 n;have he:=acY u c n;have hel:(Nk (QT u c n)).length<=1108:=by
  have:n*(4+c.length)<=5*172:=Nat.mul_le_mul n5 (by omega);omega
 have hlen:=Xk u c n;have z:(0:Int)<=0/\(0:Int)<18446744073709551616:=by decide
 have hmk:=aaW (v:=V) (p:=QK u c n t) (key:=K.2.1) (MW:=MW) (inner:=[]) hv1 hf1 ⟨by show (QT u c n).length<_;omega,fun f hf=>by have:=(hF f hf).l1;omega⟩ ⟨z,z,z,h.t⟩ (by show (QT u c n).length<=_;omega) (N7 (by omega)) h.kb.a (N7 (by omega)) ⟨by decide,fun f hf=>nomatch hf⟩;refine⟨hmk,fun he0=> ?_⟩;rcases aeX (v:=V) (p:=QK u c n t) (key:=K.2.1) (MW:=MW) hf1 (acX h.t) (X5 u c n5).1 hF (by show (QT u c n).length+1<=16;omega) (by show (Nk (QT u c n)).length+44<=1232;omega) hn16 hnb with m|m
 ·have hw:=Y3 (v:=V) (p:=QK u c n t) (key:=K.2.1) (MW:=MW) (inner:=[]) hv1 (N7 (by omega)) h.kb.a (N7 (by omega));rw[m.made]at hw;exact⟨m,m.made,hw⟩
 ·exact absurd he0 m
theorem Ze{v:VV}{x:SV}{K:CK}{u MW:List Int}{Qu t recv Og:Int}{draws:List (List Int)}(hv:okV v)(hb:vB v)(hx:SOk x)(hr:RB x.1)(hK:KOk K)(kb:KB K)(hu:u.length<9223372036854775808)(hub:Bs u)(hn:MW.length<Nw)(hnb:Bs MW)
  (ht:0<=t/\t<18446744073709551616) (h5:0<=recv/\recv<18446744073709551616) (h6:0<=Og/\Og<18446744073709551616) (ha:0<=x.2.2.2.1/\x.2.2.2.1<4294967296) (hb':0<=x.2.2.2.2.1/\x.2.2.2.2.1<4294967296) (hc:0<=x.2.2.2.2.2.1/\x.2.2.2.2.2.1<4294967296)
  (hd:draws.length<9223372036854775808) (hdn: ∀d∈draws,d.length<Nw/\Bs d):
  Nc.run .lim (v,x,K,u,MW,Qu,t,recv,Og,draws,())=some true:=by
 obtain⟨l,_,hg⟩:=adP (s:=[]) hv hx (by decide) hd;simp only[Nc.run,hg,ag3,Xh hK,Nh hu,Nh hd,ahu,cond_true];cases hG:((((l&&Pq v)&&W_ x)&&decide ((([]:List Int).length:Int)<=4000))&&decide ((draws.length:Int)<=40))with
 |false=>
  simp only[ag9,ag6,cond_false,ag3,ahK,cond_true,QX]
 |true=>
 simp only[ag6,ag9,cond_true,ag3,ahD];by_cases hq:QV K=true/\32<=u.length/\u.length<=64/\u.length%4=0/\draws.length≠0
 case neg=>
  refine(cond_pos ?_).trans (by simp only[QX,ag3]);have e4:((u.length:Int).tmod 4)=((u.length%4:Nat):Int):=by rw[ahh (by omega)];omega
  rw[e4];cases hf:QV K with
  |false=>simp
  |true=>
   simp only[hf,true_and]at hq;simp only[ag6,ahD,ahy,decide_eq_true_eq,ahF,decide_eq_false_iff_not];omega
 obtain⟨kf,q1,q2,q3,q4⟩:=hq;have e4:((u.length:Int).tmod 4)=0:=by rw[ahh (by omega)];omega
 refine(cond_neg (by rw[kf,e4,M_ (show ¬(u.length:Int)<32 by omega),M_ (show ¬(u.length:Int)>64 by omega),M_ (show ¬(draws.length:Int)=0 by omega)];rfl)).trans ?_;simp only[ahm,decide_eq_true_eq]at hG;obtain⟨⟨⟨⟨_,hf⟩,hfx⟩,_⟩,h40⟩:=hG;unfold W_ at hfx;simp only[ahm,decide_eq_true_eq]at hfx;obtain⟨⟨⟨⟨hR,x1⟩,x2⟩,x3⟩,x4⟩:=hfx;have ro:=Yp hR hr;rw[ae4 (by omega) (fun d hd'=>(hdn d hd').1)];by_cases h16:(ahz draws.length).any (fun k:Nat=> !decide ((rd ([]:List Int) draws (k:Int)).length=16))=true
 ·rw[h16];rfl
 have aeE:(ahz draws.length).any (fun k:Nat=> !decide ((rd ([]:List Int) draws (k:Int)).length=16))=false:=by simpa using h16
 rw[aeE,cond_false,ag3];have hI:aaH x K u t recv Og draws:=⟨hR,hr,⟨x1,x2⟩,⟨x3,x4⟩,ha,hb',hc,kf,kb,⟨q1,q2⟩,aeD q1 q2 q3 hub,ht,h5,h6,⟨by omega,by omega⟩,fun d hd'=>⟨by
  obtain⟨k,hk,e⟩:=List.getElem_of_mem hd';have:=List.any_eq_false.1 aeE k (ahw.2 hk);rw[Qz hk,e]at this;simpa using this,(hdn d hd').2⟩⟩
 simp only;have hmk:=ab4 (v:=v) (r:=x.1) (k:=K) (MW:=MW) hv hf ro hK hn;refine(congrArg (ahJ · _) hmk).trans ?_;simp only[ag3];by_cases h0:(mkS v (Oq x.1) K MW).2.2=0
 case neg=>rw[cond_pos (by rw[M_ h0];rfl),QX];rfl
 rw[cond_neg (by rw[MV h0];rfl)];obtain⟨n,hn5,hne⟩: ∃n:Nat,n<=5/\ahj.wrap ((ahk.wrap Qu).tmod 6)=(n:Int):=by
  have:=uB Qu;rw[ahh this.1,wrap64 (by omega) (by omega)];exact⟨(ahk.wrap Qu%6).toNat,by omega,by omega⟩
 have hmd:Made (Oq x.1) K (mkS v (Oq x.1) K MW).2.1 (mkS v (Oq x.1) K MW).1:=⟨v,MW,hf,hnb,h0,rfl,Ext.rfl' _⟩;have hb1:=ads hb (Oq x.1) kb MW;have hv1:=aah hv (ro.key _ (Qm ro)) (ro.kb _ (Qm ro)) K MW;have hf1:=Xe hf (Oq x.1) K MW;obtain⟨y1,y2⟩:=ada (n:=n) hI hv hf hb hnb h0 hn5;rw[hne,ae5 hn5 (by have:=hmd.fok.2;omega),ag3];simp only;refine(congrArg (ahJ · _) y1).trans ?_;simp only[ag3];by_cases h7:(QF (mkS v (Oq x.1) K MW).1 (QK u (mkS v (Oq x.1) K MW).2.1 n t) K.2.1 MW []).2.2=0
 case neg=>simp only[M_ h7,ag9,ag6,cond_false,ag3,ahK,cond_true,QX]
 obtain⟨m,e,w⟩:=y2 h7;rw[e];obtain⟨z,l1,l2⟩:=XU _ w;simp only[decide_true,ag6,ag9,cond_true,l1,ag3,ahD];cases z with
 |false=>simp only[ag9,cond_true,QX,ag3]
 |true=>
  refine(cond_neg (show (!true)=false from rfl)).trans ?_;exact Zh hI ⟨hv1,hf1,hb1,hn5,hmd,m,l2 rfl,w⟩
theorem YA{n:Int}(h:Ty.ok (.int .u32) n):0<=n/\n<4294967296:=by
 obtain⟨h3,h4⟩:=h;have h1:(ahN .u32)=0:=by decide
 have h2:(ahM .u32)=4294967295:=by decide
 rw[h1]at h3;rw[h2]at h4;omega
abbrev tK6:Ty:= .pair (.int .i64) (.pair .str .str)
theorem Xu: ∀x,oks [.ag tV6,.ag tS6,.ag tK6,.one .str,.one .str,.one (.int .i64),.one (.int .u64),.one (.int .u64),.one (.int .u64),.one (.lst .str)] x->Nc.run .lim x=some true:=by
 intro x h
 match x with
 |(v,x,k,u,MW,Qu,t,recv,Og,draws,())=>
  obtain⟨h1,h2,h3,h4,h5,h6,h7,h8,h9,h10,_⟩:=h;exact Ze (afs h1) (v_B h1) (ae7 h2.1.1) (ad4 h2.1) ⟨N7 (Vw h3.2.1.1),N7 (Vw h3.2.2.1)⟩ ⟨h3.2.1.2,h3.2.2.2⟩ (Vw h4.1) h4.2 (N7 (Vw h5.1)) h5.2 (YB h7) (YB h8) (YB h9) (YA h2.2.2.2.1) (YA h2.2.2.2.2.1) (YA h2.2.2.2.2.2.1) (Vw h10.1) (fun d hd=>⟨N7 (Vw (h10.2 d hd).1),(h10.2 d hd).2⟩)
end Go.AM
end
