import Derived.Test.YtojkjnphgamoeaaGreatDoorPart4

/-! The functions that the laws of this seat reach, as plain functions, and what these answer; no condition. -/
set_option linter.unusedSimpArgs false
set_option linter.unusedVariables false
set_option linter.unusedSectionVars false

open Bool renaming not_true->aho,or_eq_false_iff->aht,and_eq_true->ahy,or_eq_true->ahz,or_true->ahE,not_false->ahF,not_eq_false'->ahG,not_eq_true'->ahH,and_self->ahQ
open Go.IntKind renaming u64->ahA,i64->ahB,u8->ahT
open List renaming length_append->ahl,length_singleton->ahm,mem_singleton->ahn,length_drop->ahp,length_take->ahq,not_mem_nil->ahr,length_nil->ahs,mem_of_mem_take->ahu,replicate->ahv,length_cons->ahw,mem_cons->ahx,length->ahC,append_assoc->ahI,mem_map->ahJ,filter_cons->ahK,append_nil->ahL,length_map->ahM,mem_append->ahN,nil_append->ahO,take_zero->ahP,map_nil->ahR
open Nat renaming le_refl->ahD,le_trans->ahS
open Option renaming bind_some->ahk
section
set_option maxRecDepth 100000
namespace Go.AM
abbrev RQ:=PK×List Int×List Int×Int
abbrev q0:RQ:=(p0,([],([],0)))
def QB(l:List FF):List FF:=match Uw l 1028 with|some k=>l.take k|none=>l
def srF(l:List FF):Int:=
 if(PD l 260).2≠0 then(PD l 260).2 else if(PD l 516).2≠0 then(PD l 516).2 else
 if(PD l 260).1.length<32\/(PD l 260).1.length>64\/(PD l 516).1.length>256 then 12 else 0
def VW(s:List Int):Int:=
 if Wv s≠0 then Wv s else if(Pq s).2.1≠4\/(Pq s).2.2.1≠3 then 23 else srF (QB (Pq s).fs)
theorem Ze{l:List FF}{kind:Int}{j:Nat}(h:j<(findF l kind).length):0<=rd 0 (findF l kind) (j:Int)/\rd 0 (findF l kind) (j:Int)<(l.length:Int):=by
 have hm:=Oj (d:=0) (xs:=findF l kind) (i:=(j:Int)) (by omega) (by omega);unfold findF at hm ⊢
 obtain⟨k,hk,he⟩:=ahJ.1 hm;have:=List.mem_range.1 (List.mem_filter.1 hk).1;rw[<-he];omega
def QG(l:List FF)(c:List Int)(j:Nat):Int:=min 8 (1+((((findF l 772).take j).filter fun i=>decide (((rd f0 l i).2.length:Int)=(c.length:Int))).length:Int))
def Wn(l:List FF)(c:List Int):Int:=QG l c (findF l 772).length
theorem Vw(l:List FF)(c:List Int)(j:Nat):1<=QG l c j/\QG l c j<=8:=by unfold QG;omega
theorem Xx{l:List FF}{c:List Int}{j:Nat}(h:j<(findF l 772).length):QG l c (j+1)=bif decide (((rd f0 l (rd 0 (findF l 772) (j:Int))).2.length:Int)=(c.length:Int))then mn (QG l c j+1) 8 else QG l c j:=by
 unfold QG;rw[U5 (d:=0) h,List.filter_append,ahl,OW];cases e:decide (((rd f0 l (rd 0 (findF l 772) (j:Int))).2.length:Int)=(c.length:Int))with
 |true=>simp only[ahK,e,if_true,cond_true];simp;omega
 |false=>simp only[ahK,e,cond_false];simp
theorem acC{l:List FF}(p:PK)(u c:List Int)(hl: ∀f∈l,f.2.length<65536)(hc:c.length<65536): ∀(d j:Nat),(findF l 772).length-j=d->j<=(findF l 772).length->(findF l 772).length<100->
  Pg.l0 .lim (l,((findF l 772).length:Int),(j:Int),0,0,0,0,0,0,0,0,0,0,0,0,0,[],[],0,p.1,p.2.1,p.2.2.1,p.2.2.2.1,p.2.2.2.2.1,p.2.2.2.2.2.1,p.2.2.2.2.2.2.1,p.2.2.2.2.2.2.2.1,p.2.2.2.2.2.2.2.2.1,p.2.2.2.2.2.2.2.2.2.1,p.2.2.2.2.2.2.2.2.2.2.1,p.2.2.2.2.2.2.2.2.2.2.2.1,p.2.2.2.2.2.2.2.2.2.2.2.2.1,p.2.2.2.2.2.2.2.2.2.2.2.2.2,u,c,QG l c j,findF l 772,())=
  some (0,0,0,0,0,0,0,0,0,0,0,0,0,[],[],0,p.1,p.2.1,p.2.2.1,p.2.2.2.1,p.2.2.2.2.1,p.2.2.2.2.2.1,p.2.2.2.2.2.2.1,p.2.2.2.2.2.2.2.1,p.2.2.2.2.2.2.2.2.1,p.2.2.2.2.2.2.2.2.2.1,p.2.2.2.2.2.2.2.2.2.2.1,p.2.2.2.2.2.2.2.2.2.2.2.1,p.2.2.2.2.2.2.2.2.2.2.2.2.1,p.2.2.2.2.2.2.2.2.2.2.2.2.2,u,c,Wn l c,()):=by
 intro d
 induction d with
 |zero=>
  intro j h1 h2 h3;have hj:j=(findF l 772).length:=by omega
  rw[Pg.q0];simp only[Pg.b0];rw[cond_neg (MR (show ¬(j:Int)<((findF l 772).length:Int) by omega)),hj];rfl
 |succ d ih=>
  intro j h1 h2 h3;obtain⟨i1,i2⟩:=Ze (l:=l) (kind:=772) (j:=j) (by omega);have hm:=hl _ (Oj (d:=f0) i1 i2);have hc63:c.length<9223372036854775808:=by omega
  have hm63:(rd f0 l (rd 0 (findF l 772) (j:Int))).2.length<9223372036854775808:=by omega
  have hb:=Vw l c j;have hw:ahB.wrap (QG l c j+1)=QG l c j+1:=wrap64 (by omega) (by omega);have a:=ih (j+1) (by omega) (by omega) h3;rw[Pg.q0];simp only[Pg.b0,hw,QO j (show j<4611686018427387904 by omega)];rw[cond_pos (MO (show (j:Int)<((findF l 772).length:Int) by omega)),MX (show (0:Int)<=(j:Int) by omega) (show (j:Int)<((findF l 772).length:Int) by omega),cond_true,MX i1 i2,cond_true,MS hm63,cond_true,MS hc63,cond_true];rw[Xx (by omega)]at a;rw[<-a];cases decide (((rd f0 l (rd 0 (findF l 772) (j:Int))).2.length:Int)=(c.length:Int))with
  |true=>rfl
  |false=>rfl
noncomputable def adV(p:PK)(fs:List FF):Option (RQ×Int×Unit):=
  (RD.run .lim (fs,260,())).bind fun (r8,r9,())=>
  bif !(decide (r9=0))then
   some (q0,r9,())
  else
   (RD.run .lim (fs,516,())).bind fun (r10,r11,())=>
   bif !(decide (r11=0))then
   some (q0,r11,())
   else
   bif vT (r8.length:Int)then
   bif((!(!(decide ((r8.length:Int)<32))))||(vT (r8.length:Int)))then
   bif((!(!((decide ((r8.length:Int)<32))||(decide ((r8.length:Int)>64)))))||(vT (r10.length:Int)))then
   bif(((decide ((r8.length:Int)<32))||(decide ((r8.length:Int)>64)))||(decide ((r10.length:Int)>256)))then
    some (q0,12,())
   else
    (OV.run .lim (fs,772,())).bind fun r12=>
    bif vT (r12.length:Int)then
    (Pg.l0 .lim (fs,(r12.length:Int),0,0,0,0,0,0,0,0,0,0,0,0,0,0,([]:List Int),([]:List Int),0,p.1,p.2.1,p.2.2.1,p.2.2.2.1,p.2.2.2.2.1,p.2.2.2.2.2.1,p.2.2.2.2.2.2.1,p.2.2.2.2.2.2.2.1,p.2.2.2.2.2.2.2.2.1,p.2.2.2.2.2.2.2.2.2.1,p.2.2.2.2.2.2.2.2.2.2.1,p.2.2.2.2.2.2.2.2.2.2.2.1,p.2.2.2.2.2.2.2.2.2.2.2.2.1,p.2.2.2.2.2.2.2.2.2.2.2.2.2,r8,r10,1,r12,())).bind fun (Ue,Vx,Vs,Vy,V3,XB,WH,WI,XC,WY,V4,WZ,WJ,W9,W_,Xa,V5,X7,Y1,YL,X8,WL,XD,Xb,Xc,Ya,Y2,Y3,Y4,m62,m63,m64,m65,())=>
    some (((V5,(X7,(Y1,(YL,(X8,(WL,(XD,(Xb,(Xc,(Ya,(Y2,(Y3,(Y4,m62))))))))))))),(m63,(m64,m65))),0,())else none else none else none else none
theorem ZF(p:PK){l:List FF}(hf:l.length<=16)(hl: ∀f∈l,f.2.length<65536): ∃r,adV p l=some (r,srF l,())/\(srF l=0->r=(p,((PD l 260).1,((PD l 516).1,Wn l (PD l 516).1))))/\(srF l≠0->r=q0):=by
 have o1:=ace (l:=l) 260 (by omega);have o2:=ace (l:=l) 516 (by omega);have hlen: ∀k:Int,(PD l k).1.length<65536:=fun k=>by
  unfold PD;split
  ·simp
  ·rename_i h;split
   ·obtain⟨i1,i2⟩:=YM h;simp only[inB,ahy,decide_eq_true_eq]at i2;exact hl _ (Oj i2.1 i2.2)
   ·simp
 unfold adV srF;rw[o1,ahk];simp only;by_cases h0:(PD l 260).2=0
 case neg=>rw[cond_pos (by rw[MR h0];rfl),if_pos h0];exact⟨_,rfl,fun h=>absurd h h0,fun _=>rfl⟩
 rw[cond_neg (by rw[MO h0];rfl),if_neg (fun h=>h h0),o2,ahk];simp only;by_cases h1:(PD l 516).2=0
 case neg=>rw[cond_pos (by rw[MR h1];rfl),if_pos h1];exact⟨_,rfl,fun h=>absurd h h1,fun _=>rfl⟩
 rw[cond_neg (by rw[MO h1];rfl),if_neg (fun h=>h h1)];have l1:=hlen 260;have l2:=hlen 516;generalize (PD l 260).1=u at l1 ⊢
 generalize (PD l 516).1=c at l2 ⊢
 simp only[MS (show u.length<9223372036854775808 by omega),MS (show c.length<9223372036854775808 by omega),ahE,cond_true];by_cases h2:u.length<32\/u.length>64\/c.length>256
 ·rw[cond_pos (by simp only[ahz,decide_eq_true_eq];omega),if_pos h2];exact⟨_,rfl,(fun h=>by cases h),fun _=>rfl⟩
 ·rw[cond_neg (by simp only[aht,decide_eq_false_iff_not];omega),if_neg h2,VT 772 (by omega) (by omega),ahk,MS (show (findF l 772).length<9223372036854775808 by have:=Qu l 772;omega),cond_true];have a3:=acC (l:=l) p u c hl (by omega) _ 0 rfl (by omega) (by have:=Qu l 772;omega);have a0:QG l c 0=1:=by unfold QG;rw[ahP];rfl
  rw[a0]at a3;have a3:Pg.l0 .lim (l,((findF l 772).length:Int),0,_)=_:=a3;rw[a3];exact⟨_,rfl,fun _=>rfl,fun h=>absurd rfl h⟩
theorem VJ{s:List Int}(hs:Bs s)(hl:s.length<9223372036854775808): ∃r,Pg.run .lim (s,())=some (r,VW s,())/\(VW s=0->r=(Pq s,((PD (QB (Pq s).fs) 260).1,((PD (QB (Pq s).fs) 516).1,Wn (QB (Pq s).fs) (PD (QB (Pq s).fs) 516).1))))/\(VW s≠0->r=q0):=by
 simp only[Pg.run,YP hs hl,ahk];unfold VW;by_cases h0:Wv s=0
 case neg=>rw[cond_pos (by rw[MR h0];rfl),if_pos h0];exact⟨_,rfl,fun h=>absurd h h0,fun _=>rfl⟩
 rw[cond_neg (by rw[MO h0];rfl),if_neg (fun h=>h h0)];have w:=was hs h0;have hfew:=w.few;have hok:=w.ok;generalize Pq s=p at hfew hok ⊢
 by_cases h1:p.2.1≠4\/p.2.2.1≠3
 ·rw[cond_pos (by simp only[ahz,ahH,decide_eq_false_iff_not];omega),if_pos h1];exact⟨_,rfl,(fun h=>by cases h),fun _=>rfl⟩
 rw[cond_neg (by simp only[aht,ahG,decide_eq_true_eq];omega),if_neg h1];have hfs:p.2.2.2.2.2.2.2.2.2.2.2.2.2.length<=16:=hfew;have abS:=Qu p.fs 1028;have hl': ∀f∈p.fs,f.2.length<65536:=fun f hf=>by have:=(hok f hf).l1;omega
 have e:OV.run .lim (p.2.2.2.2.2.2.2.2.2.2.2.2.2,1028,())=some (findF p.fs 1028):=VT 1028 (by omega) (by omega);rw[e,ahk,MS (show (findF p.fs 1028).length<9223372036854775808 by omega),cond_true];unfold QB;rcases QZ p.fs 1028 with⟨q1,q2⟩|⟨k,r,q1,q2,hkl,hkd⟩
 ·rw[q1,q2];rw[cond_neg (show decide ((([]:List Int).length:Int)>0)=false from rfl)];exact ZF p hfew hl'
 ·rw[q1,q2];have hkl':k<p.2.2.2.2.2.2.2.2.2.2.2.2.2.length:=hkl;rw[cond_pos (MO (show (((k:Int)::r).length:Int)>0 by simp only[ahw];omega)),MX (show (0:Int)<=0 by omega) (show (0:Int)<(((k:Int)::r).length:Int) by simp only[ahw];omega),cond_true,
   show rd 0 ((k:Int)::r) 0=(k:Int)from rfl,Na (show (0:Int)<=0 by omega) (show (0:Int)<=(k:Int) by omega) (show (k:Int)<=(p.2.2.2.2.2.2.2.2.2.2.2.2.2.length:Int) by omega),cond_true]
  have hc:cut p.2.2.2.2.2.2.2.2.2.2.2.2.2 0 (k:Int)=p.fs.take k:=QM rfl;rw[hc];exact ZF p (by rw[ahq];omega) (fun f hf=>hl' f (ahu hf))
end Go.AM
end
section
set_option maxRecDepth 100000
namespace Go.AM
abbrev tV6:Ty:= .pair .bool (.lst (.pair .str (.pair (.lst .str) (.pair .str .str))))
abbrev tS6:Ty:= .pair (.pair (.lst (.pair (.int .u32) (.pair .str (.int .i64)))) (.int .u32)) (.pair (.int .i64) (.pair (.int .i64) (.pair (.int .u32) (.pair (.int .u32) (.pair (.int .u32) (.pair (.int .u64) (.pair (.int .u64) (.int .u64))))))))
abbrev OT:=Int×List Int×List Int×List Int×Int×Int
def Va(x:SV):SV:=(x.1,(x.2.1,(x.2.2.1,(x.2.2.2.1,(x.2.2.2.2.1,(x.2.2.2.2.2.1,(x.2.2.2.2.2.2.1,(x.2.2.2.2.2.2.2.1,(ahA.wrap (x.2.2.2.2.2.2.2.2+1))))))))))
def aa2(x:SV):SV:=(x.1,(x.2.1,(x.2.2.1,(x.2.2.2.1,(x.2.2.2.2.1,(x.2.2.2.2.2.1,(x.2.2.2.2.2.2.1,((ahA.wrap (x.2.2.2.2.2.2.2.1+1)),x.2.2.2.2.2.2.2.2))))))))
def adT(x:SV):SV:=(x.1,(x.2.1,(x.2.2.1,(x.2.2.2.1,(x.2.2.2.2.1,(x.2.2.2.2.2.1,((ahA.wrap (x.2.2.2.2.2.2.1+1)),x.2.2.2.2.2.2.2)))))))
abbrev U_:OT:=(0,([],([],([],(0,0)))))
theorem adP:SX.run .lim ([78,84,83,78],())=some 1314149198:=by
 have ht:SB.run .lim ([78,84,83,78],[65,66,67,68,69,70,71,72,73,74,75,76,77,78,79,80,81,82,83,84,85,86,87,88,89,90],())=some []:=by decide
 have hv:=VQ (s:=[78,84,83,78]) (fun x hx=>by simp only[ahx,ahr,or_false]at hx;rcases hx with rfl|rfl|rfl|rfl<;>decide) (by decide);simp only[SX.run,ht,hv,ahk];rfl
abbrev VA(t:Int)(u:List Int):PK:=(0,(4,(4,(0,(0,(0,(0,(0,(1314149198,(0,(t,(0,(0,[(260,u)])))))))))))))
theorem Yk{t:Int}{u:List Int}(hu:FOk (260,u))(hl:u.length<=64):Nl.run .lim (VA t u,())=some (X_ (VA t u)++Nv [(260,u)],0,()):=by
 have e:WR (VA t u)=0:=by
  unfold WR;rw[if_pos (show WG (VA t u)=true from rfl)];refine WW (l:=[(260,u)]) (fun f hf=> ?_) (by simp) ?_
  ·rw[ahn.1 hf];exact hu
  ·rw[UW,QN];show 4+u.length<=1232;omega
 have h:=VU (p:=VA t u) ⟨by show (1:Nat)<_;decide,fun f hf=>by rw[ahn.1 hf];show u.length<=_;omega⟩;rw[h,e];unfold WB;rw[if_pos e]
theorem Zh{v:VV}{x:SV}{s:List Int}{recv N8:Int}{draws:List (List Int)}(hs:Bs s)(hl:s.length<9223372036854775808)(h:VW s≠0):
  Oh.run .lim (v,x,s,recv,N8,draws,())=some (v,Va x,U_,()):=by
 obtain⟨r,hr,_⟩:=VJ hs hl;simp only[Oh.run,hr,ahk];rw[cond_pos (by rw[MR h];rfl)];rfl
theorem aav{l:List FF}{kind:Int}(h:(PD l kind).2=0):(kind,(PD l kind).1)∈l:=by
 unfold PD at h ⊢
 by_cases h0:(findF l kind).length=0
 ·rw[if_pos h0]at h;cases h
 rw[if_neg h0]at h ⊢
 by_cases h1:(findF l kind).length=1
 ·rw[if_pos h1];rcases QZ l kind with⟨_,q⟩|⟨k,r,_,q,hk,he⟩
  ·rw[q]at h0;exact absurd rfl h0
  ·have e:rd 0 (findF l kind) 0=(k:Int):=by rw[q];rfl
   have hm:rd f0 l (k:Int)∈l:=Oj (by omega) (by omega);rw[e];have:(kind,(rd f0 l (k:Int)).2)=rd f0 l (k:Int):=by rw[<-he]
   rw[this];exact hm
 ·rw[if_neg h1]at h;cases h
theorem Za{l:List FF}{f:FF}(h:f∈QB l):f∈l:=by
 unfold QB at h;split at h
 ·exact ahu h
 ·exact h
structure SR(s:List Int):Prop where
 e0:Wv s=0
 md:(Pq s).2.1=4/\(Pq s).2.2.1=3
 u:FOk (260,(PD (QB (Pq s).fs) 260).1)
 ul:32<=(PD (QB (Pq s).fs) 260).1.length/\(PD (QB (Pq s).fs) 260).1.length<=64
 c:FOk (516,(PD (QB (Pq s).fs) 516).1)
 cl:(PD (QB (Pq s).fs) 516).1.length<=256
theorem Yw{s:List Int}(hs:Bs s)(h:VW s=0):SR s:=by
 unfold VW at h;by_cases h0:Wv s=0
 case neg=>rw[if_pos h0]at h;exact absurd h h0
 rw[if_neg (fun k=>k h0)]at h;split at h
 ·cases h
 rename_i h1;unfold srF at h;split at h
 ·rename_i k;exact absurd h k
 rename_i h2;split at h
 ·rename_i k;exact absurd h k
 rename_i h3;split at h
 ·cases h
 rename_i h4;have w:=(was hs h0).ok;exact⟨h0,by omega,w _ (Za (aav (by omega))),by omega,w _ (Za (aav (by omega))),by omega⟩
theorem aat{v:VV}{x:SV}{s:List Int}{recv N8:Int}{draws:List (List Int)}(hs:Bs s)(hl:s.length<9223372036854775808)(h:VW s=0)
  (ho:SL.run .lim (v,x.1,(PD (QB (Pq s).fs) 516).1,())=some ((Qr v x.1 (PD (QB (Pq s).fs) 516).1).1,(Qr v x.1 (PD (QB (Pq s).fs) 516).1).2,()))
  (hn:(Qr v x.1 (PD (QB (Pq s).fs) 516).1).2≠0):
  Oh.run .lim (v,x,s,recv,N8,draws,())=some (v,aa2 x,(2,((PD (QB (Pq s).fs) 260).1,(s,(X_ (VA (Pq s).2.2.2.2.2.2.2.2.2.2.2.2.1 (PD (QB (Pq s).fs) 260).1)++Nv [(260,(PD (QB (Pq s).fs) 260).1)],(recv,N8))))),()):=by
 obtain⟨r,hr,hr2,_⟩:=VJ hs hl;have he:=hr2 h;subst he;have q:=Yw hs h;have hw:=Yk (t:=(Pq s).2.2.2.2.2.2.2.2.2.2.2.2.1) q.u q.ul.2;simp only[Oh.run,hr,h,ahk,ho];rw[cond_neg (by decide),cond_neg (MR hn),cond_pos (by rw[MR hn];rfl)];simp only[adP,ahk,hw];rfl
theorem awB{n:Nat}{x:Int}(h:B8 x):Bs (ahv n x):=fun y hy=>by rw[(List.mem_replicate.1 hy).2];exact h
abbrev awK:List Int:=ahv 32 107
abbrev awZ:List Int:=ahv 104 0
theorem aeW:NW.l0 .lim ([],0,())=some (awK,()):=by
 have e:=Om (f:=NW.l0 .lim) (fun j=>(ahv j (107:Int),(j:Int),())) (n:=32) (fun k hk=>by
  rw[NW.q0];have hl: ∀x:Int,decide ((ahv k x).length+[x].length<=maxStr)=true:=fun x=>MO (by unfold maxStr;simp;omega)
  simp only[NW.b0,MO (show (k:Int)<32 by omega),cond_true,hl,QO k (by omega)];rw[List.replicate_succ'])
 refine(show NW.l0 .lim ([],0,())=NW.l0 .lim (ahv 32 (107:Int),((32:Nat):Int),())from e).trans ?_;rw[NW.q0];rfl
abbrev awX:SV:=(([(1,(awK,0))],2),(1,(0,(0,(0,(0,(0,(0,0))))))))
abbrev awV:VV:=(false,[])
abbrev awP:PK:=(0,(4,(3,(0,(0,(0,(0,(0,(0,(0,(0,(0,(0,[(260,awK),(516,awZ)])))))))))))))
abbrev awT:List Int:=X_ awP++Nv awP.fs
theorem ae8:QC.run .lim (awK,0,())=some (awX.1,0,()):=rfl
theorem YC: ∀f∈awP.fs,FOk f:=fun f hf=>by
 have hf:f∈[((260:Int),awK),(516,awZ)]:=hf;simp only[ahx,ahr,or_false]at hf;rcases hf with rfl|rfl
 ·exact⟨by decide,by decide,by decide,by decide,by decide,awB (by decide)⟩
 ·exact⟨by decide,by decide,by decide,by decide,by decide,awB (by decide)⟩
theorem YB:(Nv awP.fs).length=144:=by decide+kernel
theorem ac1:Ob.run .lim (awP,())=some (awT,0,()):=by
 have e:WR awP=0:=by
  unfold WR;rw[if_pos (show WG awP=true from rfl)];exact WW YC (by decide) (by rw[YB];decide)
 have h:=U2 (p:=awP) ⟨by show (2:Nat)<_;decide,fun f hf=>by have:=(YC f hf).l1;omega⟩ ⟨by decide,by decide,by decide,by decide⟩;rw[h,e];unfold WB;rw[if_pos e]
theorem Xm:Wv awT=0/\Pq awT=awP:=aa6 ⟨rfl,by decide,by decide,by decide,by decide,by decide,by decide,by decide⟩ YC (by decide) (by rw[YB];decide)
theorem ae9:Bs awT:=(afl _).app (ac4 fun f hf=>(YC f hf).b)
theorem ae_:awT.length=192:=by rw[ahl,WX,YB]
theorem Xl:PD (QB awP.fs) 260=(awK,0)/\PD (QB awP.fs) 516=(awZ,0):=by decide+kernel
theorem afN:VW awT=0:=by
 unfold VW;rw[Xm.1,Xm.2];unfold srF;rw[Xl.1,Xl.2];rfl
theorem Xn:NW.run .lim ()=some true:=by
 have h1:=Zh (v:=awV) (x:=awX) (s:=[]) (recv:=1) (N8:=2) (draws:=[]) afC (by decide) (by decide);have hc:Qr awV awX.1 awZ=((0,([],[])),19):=by
  unfold Qr;rw[if_neg (by decide),if_pos (by decide)]
 have h2:=aat (v:=awV) (x:=awX) (s:=awT) (recv:=1) (N8:=2) (draws:=[]) ae9 (by rw[ae_];decide) afN
  (by
   rw[Xm.2,Xl.2];exact Y_ ⟨by decide,fun k hk=>nomatch hk⟩ rfl (fun k hk=>nomatch hk) ⟨by decide,fun k hk=>by rw[ahn.1 hk];rfl,fun k hk=>by rw[ahn.1 hk];exact awB (by decide)⟩ (Oe (by decide)) (awB (by decide)))
  (by rw[Xm.2,Xl.2,hc];decide)
 rw[Xm.2,Xl.1]at h2;have hlen:(X_ (VA awP.2.2.2.2.2.2.2.2.2.2.2.2.1 awK)++Nv [(260,awK)]).length=84:=by rw[ahl,WX,UW,QN];rfl
 simp only[NW.run,aeW,ae8,ahk];have h1:Oh.run .lim (abL,awX,([]:List Int),1,2,([]:List (List Int)),())=_:=h1;have h2:Oh.run .lim (abL,awX,awT,1,2,([]:List (List Int)),())=_:=h2;rw[h1];simp only[ahk,ac1];rw[h2];simp only[ahk,hlen];rfl
theorem afI{x:SV}(h:Ty.ok (.lst (.pair (.int .u32) (.pair .str (.int .i64)))) x.1.1):SOk x:=⟨Oe (by have:x.1.1.length<=140737488351232:=h.1;omega),fun k hk=>Oe (by have:k.2.1.length<=140737488351232:=(h.2 k hk).2.1.1;omega)⟩
end Go.AM
end
section
namespace Go.AM
theorem Zn{v:VV}{m:RK}{k:CK}{MZ:List Int}(h:(mkS v m k MZ).2.2=0):
  Ti k=true/\MZ.length=16/\(OY v m.2.1 [Vd m.1,MZ] (PO k)).2.2=0/\mkS v m k MZ=((OY v m.2.1 [Vd m.1,MZ] (PO k)).1,(Vd m.1++MZ)++(OY v m.2.1 [Vd m.1,MZ] (PO k)).2.1,0):=by
 unfold mkS at h ⊢
 by_cases h1:Ti k=true
 ·rw[if_pos h1]at h ⊢
  by_cases h2:MZ.length=16
  ·rw[if_pos h2]at h ⊢
   by_cases h3:(OY v m.2.1 [Vd m.1,MZ] (PO k)).2.2=0
   ·rw[if_pos h3];exact⟨h1,h2,h3,rfl⟩
   ·rw[if_neg h3]at h;exact absurd h h3
  ·rw[if_neg h2]at h;exact absurd h (show (10:Int)≠0 by decide)
 ·rw[if_neg h1]at h;exact absurd h (show (13:Int)≠0 by decide)
theorem ab5{v:VV}{m:RK}{k:CK}{MZ:List Int}(h:(mkS v m k MZ).2.2≠0):(mkS v m k MZ).1=v/\(mkS v m k MZ).2.1=[]:=by
 unfold mkS at h ⊢
 by_cases h1:Ti k=true
 ·rw[if_pos h1]at h ⊢
  by_cases h2:MZ.length=16
  ·rw[if_pos h2]at h ⊢
   by_cases h3:(OY v m.2.1 [Vd m.1,MZ] (PO k)).2.2=0
   ·rw[if_pos h3]at h;exact absurd rfl h
   ·rw[if_neg h3];exact⟨rfl,rfl⟩
  ·rw[if_neg h2];exact⟨rfl,rfl⟩
 ·rw[if_neg h1];exact⟨rfl,rfl⟩
end Go.AM
end
section
set_option maxRecDepth 100000
namespace Go.AM
theorem ZY{v:VV}(hf:P_ v=true)(m:RK)(k:CK)(MZ:List Int):P_ (mkS v m k MZ).1=true:=by
 by_cases h:(mkS v m k MZ).2.2=0
 ·rw[(Zn h).2.2.2];exact Zf hf _ _ _
 ·rw[(ab5 h).1];exact hf
theorem ab6{v:VV}(hv:okV v){m:RK}(hk:m.2.1.length=32)(hkb:Bs m.2.1)(k:CK)(MZ:List Int):okV (mkS v m k MZ).1:=by
 by_cases h:(mkS v m k MZ).2.2=0
 ·obtain⟨h1,h2,_,e⟩:=Zn h;rw[e];exact Zo hv (abI hk hkb h1 h2)
 ·rw[(ab5 h).1];exact hv
noncomputable def Qq(m:RK)(k:CK):VV->List (List Int)->List (List Int)->VV×List (List Int)×Int
 |v,out,[]=>(v,out,0)
 |v,out,n::l=>if(mkS v m k n).2.2=0 then Qq m k (mkS v m k n).1 (out++[(mkS v m k n).2.1]) l else(v,out,(mkS v m k n).2.2)
theorem drop_cons{α:Type}{z:α}{xs l:List α}{n:α}{j:Nat}(h:xs.drop j=n::l):j<xs.length/\rd z xs (j:Int)=n/\xs.drop (j+1)=l:=by
 have hj:j<xs.length:=by
  rcases Nat.lt_or_ge j xs.length with q|q
  ·exact q
  ·rw[List.drop_of_length_le q]at h;exact absurd h (by simp)
 rw[List.drop_eq_getElem_cons hj]at h;have:=List.cons.inj h;exact⟨hj,by rw[Rj hj];exact this.1,this.2⟩
theorem aaZ{m:RK}(hk:m.2.1.length=32)(hkb:Bs m.2.1){k:CK}(ko:KOk k)(v0:VV)(Nw:List (List Int))(hn: ∀n∈Nw,n.length<Nr)(h8:Nw.length<=8):
  ∀(l:List (List Int)) (j:Nat) (v:VV) (out:List (List Int)),Nw.drop j=l->okV v->P_ v=true->out.length<=j->
   ((Qq m k v out l).2.2=0->Qs.l0 .lim (Nw,(Nw.length:Int),(j:Int),v0.1,v0.2,false,v.1,v.2,m.1,m.2.1,m.2.2,k.1,k.2.1,k.2.2,0,out,())=
    some (.inr (v0.1,v0.2,false,(Qq m k v out l).1.1,(Qq m k v out l).1.2,m.1,m.2.1,m.2.2,k.1,k.2.1,k.2.2,0,(Qq m k v out l).2.1,())))/\
   ((Qq m k v out l).2.2≠0-> ∃a b o,Qs.l0 .lim (Nw,(Nw.length:Int),(j:Int),v0.1,v0.2,false,v.1,v.2,m.1,m.2.1,m.2.2,k.1,k.2.1,k.2.2,0,out,())=
    some (.inl (v0.1,v0.2,false,a,b,m.1,m.2.1,m.2.2,k.1,k.2.1,k.2.2,(Qq m k v out l).2.2,o,()))):=by
 intro l
 induction l with
 |nil=>
  intro j v out hl hv hf ho;have hj:Nw.length<=j:=by
   have:=congrArg ahC hl;rw[ahp]at this;simp only[ahs]at this;omega
  refine⟨fun _=> ?_,fun h=>absurd rfl h⟩;rw[Qs.q0];simp only[Qs.b0,MR (show ¬(j:Int)<(Nw.length:Int) by omega),cond_false];rfl
 |cons n l ih=>
  intro j v out hl hv hf ho;obtain⟨hj,hr,hl'⟩:=drop_cons (z:=[]) hl;have hn63:n.length<9223372036854775808:=hn n (by rw[<-hr];exact Oj (by omega) (by omega));have hm:=aaq ko;rw[Qs.q0];simp only[Qs.b0,MO (show (j:Int)<(Nw.length:Int) by omega),MX (show (0:Int)<=(j:Int) by omega) (show (j:Int)<(Nw.length:Int) by omega),cond_true,hm,hr,MS hn63,ahk,wk j (by omega)];rw[Qq];by_cases h1:Ti k=true
  ·by_cases h2:n.length=16
   ·have T:=abI (m:=m) hk hkb h1 h2;have hs:=aaG hv hf T;have hsl:=XY hf m.2.1 [Vd m.1,n] (PO k);obtain⟨j1,j2⟩:=aau (id:=m.1) (s:=(OY v m.2.1 [Vd m.1,n] (PO k)).2.1) h2 (by omega);have hcap:decide (out.length+([((Vd m.1++n)++(OY v m.2.1 [Vd m.1,n] (PO k)).2.1)]:List (List Int)).length<4398046511104)=true:=MO (by simp only[ahm];omega);have hv2:=ab6 hv hk hkb k n;have hf2:=ZY hf m k n;unfold Vd at hs j1 j2 hcap;rw[h1,MO (show (n.length:Int)=16 by omega)];simp only[aho,cond_false,Yg h1,ahk,hs,j1,j2,cond_true];by_cases h3:(OY v m.2.1 [Vd m.1,n] (PO k)).2.2=0
    ·have he:mkS v m k n=((OY v m.2.1 [Vd m.1,n] (PO k)).1,(Vd m.1++n)++(OY v m.2.1 [Vd m.1,n] (PO k)).2.1,0):=by unfold mkS;rw[if_pos h1,if_pos h2,if_pos h3]
     have:=ih (j+1) (mkS v m k n).1 (out++[(mkS v m k n).2.1]) hl' hv2 hf2 (by simp only[ahl,ahm];omega);rw[if_pos (show (mkS v m k n).2.2=0 by rw[he])];rw[he]at this ⊢
     unfold Vd at h3 this ⊢
     rw[MO h3];simp only[aho,ahF,cond_true,hcap,Bool.or_self,cond_false,h3];exact this
    ·have he:mkS v m k n=(v,[],(OY v m.2.1 [Vd m.1,n] (PO k)).2.2):=by unfold mkS;rw[if_pos h1,if_pos h2,if_neg h3]
     rw[he];simp only;rw[if_neg h3];unfold Vd at h3 ⊢
     rw[MR h3];simp only[aho,ahF,cond_true,ahE,cond_false];exact⟨fun q=>absurd q h3,fun _=>⟨_,_,_,rfl⟩⟩
   ·have he:mkS v m k n=(v,[],10):=by unfold mkS;rw[if_pos h1,if_neg h2]
    rw[h1,MR (show ¬(n.length:Int)=16 by omega),he];exact⟨fun q=>absurd q (show (10:Int)≠0 by decide),fun _=>⟨_,_,_,rfl⟩⟩
  ·have h1':Ti k=false:=by simpa using h1
   have he:mkS v m k n=(v,[],13):=by unfold mkS;rw[if_neg h1]
   rw[h1',he];exact⟨fun q=>absurd q (show (13:Int)≠0 by decide),fun _=>⟨_,_,_,rfl⟩⟩
noncomputable def Sm(v:VV)(m:RK)(k:CK)(Nw:List (List Int)):VV×List (List Int)×Int:=
 if Nw.length>8 then(v,[],18)else if(Qq m k v [] Nw).2.2=0 then Qq m k v [] Nw else(v,[],(Qq m k v [] Nw).2.2)
theorem ac9{v:VV}{r:RR}{k:CK}{Nw:List (List Int)}(hv:okV v)(hf:P_ v=true)(ro:Y6 r)(ko:KOk k)(hl:Nw.length<Nr)(hn: ∀n∈Nw,n.length<Nr):
  Qs.run .lim (v,r,k,Nw,())=some ((Sm v (Px r) k Nw).1,(Sm v (Px r) k Nw).2.1,(Sm v (Px r) k Nw).2.2,()):=by
 have hl63:Nw.length<9223372036854775808:=hl;have hr:=ro.len;have hm:=QJ ro;have hw:=abZ ro;unfold Sm;simp only[Qs.run,MS hl63,cond_true];by_cases h8:Nw.length>8
 ·rw[MO (show (Nw.length:Int)>8 by omega),if_pos h8];rfl
 ·rw[MR (show ¬(Nw.length:Int)>8 by omega),if_neg h8];have J:=aaZ (ro.key _ hm) (ro.kb _ hm) ko v Nw hn (by omega) Nw 0 v [] rfl hv hf (ahD _);rw[show ((0:Nat):Int)=0 from rfl]at J;have el:rd r0 r.1 ((r.1.length-1:Nat):Int)=Px r:=rfl;simp only[cond_false,MS (show r.1.length<9223372036854775808 by omega),hw,el,MX (show (0:Int)<=((r.1.length-1:Nat):Int) by omega) (show ((r.1.length-1:Nat):Int)<(r.1.length:Int) by omega),cond_true];by_cases h0:(Qq (Px r) k v [] Nw).2.2=0
  ·rw[J.1 h0,if_pos h0,h0];rfl
  ·obtain⟨a,b,o,e⟩:=J.2 h0;rw[e,if_neg h0];simp only[ahk,MR h0,ahF,cond_true]
theorem Zl{m:RK}(hk:m.2.1.length=32)(hkb:Bs m.2.1){k:CK}: ∀(l:List (List Int)) (v:VV) (out:List (List Int)),okV v->okV (Qq m k v out l).1/\(Qq m k v out l).2.1.length<=out.length+l.length
 |[],v,out,h=>⟨h,by rw[Qq];simp⟩
 |n::l,v,out,h=>by
  rw[Qq];by_cases h0:(mkS v m k n).2.2=0
  ·rw[if_pos h0];have:=Zl hk hkb (k:=k) l (mkS v m k n).1 (out++[(mkS v m k n).2.1]) (ab6 h hk hkb k n);refine⟨this.1,ahS this.2 ?_⟩;simp only[ahl,ahm,ahw,ahs];omega
  ·rw[if_neg h0];exact⟨h,Nat.le_add_right _ _⟩
theorem YJ{v:VV}(hv:okV v){m:RK}(hk:m.2.1.length=32)(hkb:Bs m.2.1){k:CK}{Nw:List (List Int)}:okV (Sm v m k Nw).1/\(Sm v m k Nw).2.1.length<=8:=by
 unfold Sm;by_cases h8:Nw.length>8
 ·rw[if_pos h8];exact⟨hv,Nat.zero_le _⟩
 ·rw[if_neg h8];have:=Zl hk hkb (k:=k) Nw v [] hv;by_cases h0:(Qq m k v [] Nw).2.2=0
  ·rw[if_pos h0];exact⟨this.1,ahS this.2 (by simp only[ahs];omega)⟩
  ·rw[if_neg h0];exact⟨hv,Nat.zero_le _⟩
theorem ab4{v:VV}(hf:P_ v=true)(m:RK)(k:CK)(MZ:List Int):(mkS v m k MZ).2.1.length<=65600:=by
 unfold mkS;split
 ·split
  ·rename_i h;split
   ·have:=XY hf m.2.1 [Vd m.1,MZ] (PO k);simp only[ahl];have:(Vd m.1).length=4:=rfl;omega
   ·simp
  ·simp
 ·simp
theorem Yj{m:RK}{k:CK}: ∀(l:List (List Int)) (v:VV) (out:List (List Int)),P_ v=true->(∀c∈out,c.length<=65600)->P_ (Qq m k v out l).1=true/\ ∀c∈(Qq m k v out l).2.1,c.length<=65600
 |[],v,out,h,ho=>⟨h,ho⟩
 |n::l,v,out,h,ho=>by
  rw[Qq];by_cases h0:(mkS v m k n).2.2=0
  ·rw[if_pos h0];refine Yj l _ _ (ZY h m k n) fun c hc=> ?_
   rcases ahN.1 hc with hc|hc
   ·exact ho c hc
   ·rw[ahn.1 hc];exact ab4 h m k n
  ·rw[if_neg h0];exact⟨h,ho⟩
theorem Zk{v:VV}(hf:P_ v=true){m:RK}{k:CK}{Nw:List (List Int)}:P_ (Sm v m k Nw).1=true/\ ∀c∈(Sm v m k Nw).2.1,c.length<=65600:=by
 unfold Sm;split
 ·exact⟨hf,fun c hc=>nomatch hc⟩
 ·split
  ·exact Yj Nw v [] hf fun c hc=>nomatch hc
  ·exact⟨hf,fun c hc=>nomatch hc⟩
end Go.AM
end
section
set_option maxRecDepth 100000
namespace Go.AM
end Go.AM
end
section
set_option maxRecDepth 100000
namespace Go.AM
theorem aa4{v:VV}(hv:okV v)(hf:P_ v=true)(hvb:vB v){s key:List Int}(hs:Bs s)(hl:s.length<9223372036854775808)(hk:key.length<Nr)(hkb:Bs key):
  Qc.run .lim (v,s,key,())=some ((QT v s key).1,(QT v s key).2,()):=by
 simp only[Qc.run,YP hs hl,ahk];unfold QT;by_cases h0:Wv s=0
 case neg=>rw[MR h0,if_neg h0];rfl
 rw[MO h0,if_pos h0];have w:=was hs h0;have hfew:=w.few;have hok:=w.ok;have hwb:=X4 hs h0;have hsl:s.length=48+(Nv (Pq s).fs).length:=by
  have:=congrArg ahC w.st;rw[ahl,ahq,Nat.min_eq_left w.l0]at this;exact this
 have afR:=w.l1;generalize Pq s=r at hfew hok hwb hsl;have hfs:r.2.2.2.2.2.2.2.2.2.2.2.2.2.length<=16:=hfew;have abS:=Qu r.fs 1028;simp only[aho,cond_false,MS (show r.2.2.2.2.2.2.2.2.2.2.2.2.2.length<9223372036854775808 by omega),cond_true,ahk,MS (show (findF r.fs 1028).length<9223372036854775808 by omega)];rw[ab7 hfew];rcases QZ r.fs 1028 with⟨q1,q2⟩|⟨k,l,q1,q2,hkl,hkd⟩
 ·simp only[q1,q2];rfl
 have hmem:rd f0 r.fs (k:Int)∈r.fs:=Oj (by omega) (by omega);have hfo:=hok _ hmem;have hal:0<(findF r.fs 1028).length:=by rw[q2];simp
 have hat:rd 0 (findF r.fs 1028) 0=(k:Int):=by rw[q2];rfl
 have hkl':k<r.2.2.2.2.2.2.2.2.2.2.2.2.2.length:=hkl;simp only[q1,ahk,MR (show ¬((findF r.fs 1028).length:Int)=0 by omega),cond_false,MR (show ¬(k:Int)<0 by omega),Na (show (0:Int)<=0 by omega) (show (0:Int)<=(k:Int) by omega) (Int.le_refl _),MO (show (k:Int)<=(r.2.2.2.2.2.2.2.2.2.2.2.2.2.length:Int) by omega),ahQ,cond_true,
  MX (show (0:Int)<=(k:Int) by omega) (show (k:Int)<(r.2.2.2.2.2.2.2.2.2.2.2.2.2.length:Int) by omega),MX (show (0:Int)<=0 by omega) (show (0:Int)<((findF r.fs 1028).length:Int) by omega),hat]
 have hbb:Bs (rd f0 r.fs (k:Int)).2:=hfo.b;have hbl:(rd f0 r.fs (k:Int)).2.length<65532:=hfo.l1;have sp:=ZE hbb (by omega);have sp:Rx.run .lim ((rd ((0:Int),([]:List Int)) r.2.2.2.2.2.2.2.2.2.2.2.2.2 (k:Int)).2,())=_:=sp;obtain⟨sB1,sB2,sL1,sL2⟩:=adU hbb;simp only[sp,ahk];generalize U8 (rd f0 r.fs (k:Int)).2=g at sB1 sB2 sL1 sL2;obtain⟨MZ,sealed,e⟩:=g;simp only at sB1 sB2 sL1 sL2 ⊢
 by_cases he:e=0
 case neg=>rw[MR he,if_neg he];rfl
 rw[MO he,if_pos he];have hcz:cut r.2.2.2.2.2.2.2.2.2.2.2.2.2 0 (k:Int)=r.2.2.2.2.2.2.2.2.2.2.2.2.2.take k:=QM rfl;have hw:=hwb k;have hw:Nl.run .lim ((r.1,r.2.1,r.2.2.1,r.2.2.2.1,r.2.2.2.2.1,r.2.2.2.2.2.1,r.2.2.2.2.2.2.1,r.2.2.2.2.2.2.2.1,r.2.2.2.2.2.2.2.2.1,r.2.2.2.2.2.2.2.2.2.1,r.2.2.2.2.2.2.2.2.2.2.1,r.2.2.2.2.2.2.2.2.2.2.2.1,r.2.2.2.2.2.2.2.2.2.2.2.2.1,r.2.2.2.2.2.2.2.2.2.2.2.2.2.take k),())=some (s.take (48+(Nv (r.fs.take k)).length),0,()):=hw;have hle:=Xr r.fs k;generalize hN:48+(Nv (r.fs.take k)).length=N at hw;have hNs:N<=s.length:=by omega
 have hcn:cut s 0 (N:Int)=s.take N:=QM rfl;have T:Vu key [s.take N,MZ] sealed:=⟨hk,hkb,by simp[Nr],fun t ht=>by
  simp only[ahx,ahr,or_false]at ht;rcases ht with rfl|rfl
  ·rw[ahq];exact Oe (by omega)
  ·exact Oe (by omega),Oe (by omega)⟩
 have op:=XG hv T sB2;have op:O5.run .lim ((v.1,v.2),key,[s.take N,MZ],sealed,())=_:=op;simp only[aho,cond_false,hcz,hw,ahk,op,hcn,Na (show (0:Int)<=0 by omega) (show (0:Int)<=(N:Int) by omega) (show (N:Int)<=(s.length:Int) by omega),cond_true];by_cases ho:(Pm v key [s.take N,MZ] sealed).2=0
 case neg=>rw[MR ho,if_neg ho];rfl
 rw[MO ho,if_pos ho];obtain⟨_,ol,_,oB⟩:=UA hf hvb ho;generalize (Pm v key [s.take N,MZ] sealed).1=p at ol oB;simp only[aho,cond_false,acF oB (show p.length<9223372036854775808 by omega),ahk];by_cases ht:(U6 p.length p []).2=0
 case neg=>rw[MR ht,if_neg ht];rfl
 rw[MO ht,if_pos ht];simp only[aho,cond_false,Na (show (0:Int)<=0 by omega) (show (0:Int)<=(k:Int) by omega) (show (k:Int)<=(r.2.2.2.2.2.2.2.2.2.2.2.2.2.length:Int) by omega),cond_true]
end Go.AM
end
section
set_option maxRecDepth 100000
namespace Go.AM
theorem aee{m m1 m2 m3 m4 m5 m6 m7 m8 m9 m10 m11 m12 m13 m14 m15 m16 m17 m18 m19 m20 m21 m22 m23 m24 SN RZ TK RX Tv Ug Ur m32 Ue Vx Vs Vy V3 XB WH WI XC WY V4 WZ WJ W9 W_ Xa V5 X7 Y1 YL X8 WL XD Xb Xc Y2 Y3 Y4 m62 m63 m64 m65 m66 m67 m68 m69 m70 m71 m72 m73 m74 m75 m76 m77 m78 m79 m80 m81 m82 m83 m84 m85 m86 m87 m88 m89}(J:List (List Int))(hJ:J.length<=8): ∀(l:List (List Int)) (j:Nat) (i:Int) (acc:List FF),i=(j:Int)->J.drop j=l->acc.length<=j->
  Oh.l0 .lim ((J.length:Int),i,m,m1,m2,m3,m4,m5,m6,m7,m8,m9,m10,m11,m12,m13,m14,m15,m16,m17,m18,m19,m20,m21,m22,m23,m24,SN,RZ,TK,RX,Tv,Ug,Ur,m32,Ue,Vx,Vs,Vy,V3,XB,WH,WI,XC,WY,V4,WZ,WJ,W9,W_,Xa,V5,X7,Y1,YL,X8,WL,XD,Xb,Xc,J,Y2,Y3,Y4,m62,m63,m64,m65,m66,m67,m68,m69,m70,m71,m72,m73,m74,m75,m76,m77,m78,m79,m80,m81,m82,m83,m84,m85,m86,m87,m88,m89,acc,())=some (m,m1,m2,m3,m4,m5,m6,m7,m8,m9,m10,m11,m12,m13,m14,m15,m16,m17,m18,m19,m20,m21,m22,m23,m24,SN,RZ,TK,RX,Tv,Ug,Ur,m32,Ue,Vx,Vs,Vy,V3,XB,WH,WI,XC,WY,V4,WZ,WJ,W9,W_,Xa,V5,X7,Y1,YL,X8,WL,XD,Xb,Xc,Y2,Y3,Y4,m62,m63,m64,m65,m66,m67,m68,m69,m70,m71,m72,m73,m74,m75,m76,m77,m78,m79,m80,m81,m82,m83,m84,m85,m86,m87,m88,m89,acc++l.map (fun c=>((516:Int),c)),()):=by
 intro l
 induction l with
 |nil=>
  intro j i acc hi hl ha;subst hi;have hj:J.length<=j:=by
   have:=congrArg ahC hl;rw[ahp]at this;simp only[ahs]at this;omega
  rw[Oh.q0];simp only[Oh.b0,MR (show ¬(j:Int)<(J.length:Int) by omega),cond_false,ahR,ahL]
 |cons n l ih=>
  intro j i acc hi hl ha;subst hi;obtain⟨hj,hr,hl'⟩:=drop_cons (z:=[]) hl;have hcap:decide (acc.length+([(516,n)]:List FF).length<2932031007402)=true:=MO (by simp only[ahm];omega);rw[Oh.q0];simp only[Oh.b0,MO (show (j:Int)<(J.length:Int) by omega),MX (show (0:Int)<=(j:Int) by omega) (show (j:Int)<(J.length:Int) by omega),cond_true,hr,hcap,wk j (by omega)];rw[ih (j+1) _ (acc++[(516,n)]) rfl hl' (by simp only[ahl,ahm];omega),ahI];rfl
theorem abW{p:List Int}(h:(Xz p).2=0):Ti (Xz p).1=true/\(Xz p).1=kOf p:=by
 unfold Xz at h ⊢
 split at h
 ·rename_i q;rw[if_pos q];exact⟨q.2.1,rfl⟩
 ·cases h
theorem XE{v:VV}{r:RR}{s:List Int}(hf:P_ v=true)(hb:vB v)(h:(Qr v r s).2=0):Ti (Qr v r s).1=true/\Bs (Qr v r s).1.2.1/\Bs (Qr v r s).1.2.2:=by
 unfold Qr at h ⊢
 by_cases h1:s.length<20
 ·rw[if_pos h1]at h;cases h
 rw[if_neg h1]at h ⊢
 by_cases h2:TY r.1 (WM s)<0
 ·rw[if_pos h2]at h;cases h
 rw[if_neg h2]at h ⊢
 by_cases h3:(Pm v (rd r0 r.1 (TY r.1 (WM s))).2.1 [cut s 0 4,cut s 4 20] (cut s 20 (s.length:Int))).2=0
 ·rw[if_pos h3]at h ⊢
  obtain⟨_,_,_,y⟩:=UA hf hb h3;obtain⟨a,b⟩:=abW h;exact⟨a,by rw[b];exact ZT y _ _,by rw[b];exact ZT y _ _⟩
 ·rw[if_neg h3]at h;exact absurd h h3
def hU(s:List Int):List Int:=(PD (QB (Pq s).fs) 260).1
def hC(s:List Int):List Int:=(PD (QB (Pq s).fs) 516).1
def hN(s:List Int):Int:=Wn (QB (Pq s).fs) (hC s)
abbrev hP(x:SV)(recv N8:Int)(q:PK)(u:List Int):PK:=(0,(4,(4,(x.2.1,(q.2.2.2.2.1,(x.2.2.1,(x.2.2.2.2.1,(x.2.2.2.2.2.1,(x.2.2.2.1,(recv,(q.2.2.2.2.2.2.2.2.2.2.2.2.1,(recv,(N8,[(260,u)])))))))))))))
noncomputable def abP(v:VV)(x:SV)(s:List Int)(draws:List (List Int)):VV×List (List Int)×Int:=
 Sm v (Px x.1) (Qr v x.1 (hC s)).1 (cut draws 1 (1+mn (hN s) ((draws.length:Int)-1)))
noncomputable def Zg(v:VV)(x:SV)(s:List Int)(recv N8:Int)(draws:List (List Int)):VV×List Int×Int:=
 R_ (abP v x s draws).1 (hP x recv N8 (QT v s (Qr v x.1 (hC s)).1.2.1).1.1 (hU s)) (Qr v x.1 (hC s)).1.2.2 (rd [] draws 0) ((abP v x s draws).2.1.map fun c=>((516:Int),c))
def aa1(s:List Int)(recv N8:Int):OT:=(2,(hU s,(s,(X_ (VA (Pq s).2.2.2.2.2.2.2.2.2.2.2.2.1 (hU s))++Nv [(260,hU s)],(recv,N8)))))
noncomputable def Tq(v:VV)(x:SV)(s:List Int)(recv N8:Int)(draws:List (List Int)):VV×SV×OT:=
 if VW s≠0 then(v,Va x,U_)else
 if(Qr v x.1 (hC s)).2≠0 then(v,aa2 x,aa1 s recv N8)else
 if(QT v s (Qr v x.1 (hC s)).1.2.1).2≠0 then(v,aa2 x,aa1 s recv N8)else
 if draws.length=0 then(v,Va x,U_)else
 if(abP v x s draws).2.2≠0 then(v,Va x,U_)else
 if(Zg v x s recv N8 draws).2.2≠0 then(v,Va x,U_)else
 ((Zg v x s recv N8 draws).1,adT x,(1,(hU s,(s,((Zg v x s recv N8 draws).2.1,(recv,N8))))))
theorem YF{α:Type}{l:List α}{a b:Int}{q:α}(h:q∈cut l a b):q∈l:=ahu (List.mem_of_mem_drop h)
theorem aaY{v:VV}{x:SV}{s:List Int}{recv N8:Int}{draws:List (List Int)}(hv:okV v)(hf:P_ v=true)(hb:vB v)(hx:Y6 x.1)(hs:Bs s)(hl:s.length<9223372036854775808)(hd:draws.length<1000)(hdn: ∀d∈draws,d.length<Nr):
  Oh.run .lim (v,x,s,recv,N8,draws,())=some ((Tq v x s recv N8 draws).1,(Tq v x s recv N8 draws).2.1,(Tq v x s recv N8 draws).2.2,()):=by
 unfold Tq;by_cases h:VW s=0
 case neg=>rw[if_pos h];exact Zh hs hl h
 rw[if_neg (fun k=>k h)];have q:=Yw hs h;have ho:=Y_ (v:=v) (r:=x.1) (s:=hC s) hv hf hb hx (Oe (by have:=q.cl;show (PD (QB (Pq s).fs) 516).1.length<_;omega)) q.c.b;by_cases h1:(Qr v x.1 (hC s)).2=0
 case neg=>rw[if_pos h1];exact aat hs hl h ho h1
 rw[if_neg (fun k=>k h1)];obtain⟨k1,k2,k3⟩:=XE hf hb h1;obtain⟨r,hr,hr2,_⟩:=VJ hs hl;have he:=hr2 h;subst he;have hw:=Yk (t:=(Pq s).2.2.2.2.2.2.2.2.2.2.2.2.1) q.u q.ul.2;have hnb:=Vw (QB (Pq s).fs) (hC s) (findF (QB (Pq s).fs) 772).length;have hnb:1<=hN s/\hN s<=8:=hnb;have hu:(PD (QB (Pq s).fs) 260).1=hU s:=rfl;have hc:(PD (QB (Pq s).fs) 516).1=hC s:=rfl;have hn':Wn (QB (Pq s).fs) (hC s)=hN s:=rfl;have hUl:(hU s).length<=64:=q.ul.2;rw[hu]at hw;unfold Zg abP;simp only[Oh.run,hr,h,ahk,ho,hu,hc,hn',h1,decide_true,cond_true,aho,cond_false];generalize (Qr v x.1 (hC s)).1=K at k1 k2 k3 ⊢
 have ks:=Ru k1;have kl:K.2.1.length<Nr/\K.2.2.length<Nr:=⟨Oe (by omega),Oe (by omega)⟩;rw[aa4 hv hf hb hs hl kl.1 k2,ahk];simp only;by_cases h2:(QT v s K.2.1).2=0
 case neg=>
  rw[if_pos h2,cond_pos (by rw[MR h2];rfl)];simp only[adP,ahk,hw];rfl
 rw[if_neg (fun k=>k h2),cond_neg (by rw[MO h2];rfl),MS (show draws.length<9223372036854775808 by omega),cond_true];generalize (QT v s K.2.1).1=a;by_cases h3:draws.length=0
 ·rw[if_pos h3,cond_pos (MO (by omega))];rfl
 rw[if_neg h3,cond_neg (MR (by omega)),cond_true];have hmb:0<=mn (hN s) ((draws.length:Int)-1)/\mn (hN s) ((draws.length:Int)-1)<=8/\mn (hN s) ((draws.length:Int)-1)<=(draws.length:Int)-1:=by rw[OW];omega
 have w1:ahB.wrap ((draws.length:Int)-1)=(draws.length:Int)-1:=wrap64 (by omega) (by omega);have w2:ahB.wrap (1+mn (hN s) ((draws.length:Int)-1))=1+mn (hN s) ((draws.length:Int)-1):=wrap64 (by omega) (by omega);rw[w1,w2,Na (show (0:Int)<=1 by omega) (show (1:Int)<=1+mn (hN s) ((draws.length:Int)-1) by omega) (show 1+mn (hN s) ((draws.length:Int)-1)<=(draws.length:Int) by omega),cond_true];have ko:KOk K:=⟨kl.1,kl.2⟩;have hcl:(cut draws 1 (1+mn (hN s) ((draws.length:Int)-1))).length<=draws.length:=by unfold cut;rw[ahp,ahq];omega
 have hj:=ac9 (Nw:=cut draws 1 (1+mn (hN s) ((draws.length:Int)-1))) hv hf hx ko (Oe (by omega)) (fun d hd'=>hdn d (YF hd'));have hj1:=YJ hv (hx.key _ (QJ hx)) (hx.kb _ (QJ hx)) (k:=K) (Nw:=cut draws 1 (1+mn (hN s) ((draws.length:Int)-1)));have hj2:=Zk hf (m:=Px x.1) (k:=K) (Nw:=cut draws 1 (1+mn (hN s) ((draws.length:Int)-1)));rw[hj,ahk];generalize Sm v (Px x.1) K (cut draws 1 (1+mn (hN s) ((draws.length:Int)-1)))=J at hj1 hj2 ⊢
 obtain⟨⟨V1,V2⟩,J,e⟩:=J;simp only at hj1 hj2 ⊢
 by_cases h4:e=0
 case neg=>
  rw[if_pos h4,cond_pos (by rw[MR h4];rfl),cond_pos (by rw[MR h4];rfl)];rfl
 rw[if_neg (fun k=>k h4),cond_neg (by rw[MO h4];rfl),MS (show J.length<9223372036854775808 by omega),cond_true];have hM:=ab8 (v:=(V1,V2)) (p:=hP x recv N8 a.1 (hU s)) (key:=K.2.2) (MZ:=rd [] draws 0) (inner:=J.map fun c=>((516:Int),c)) hj1.1 hj2.1
  ⟨by show (1:Nat)<_;decide,fun f hf=>by rw[ahn.1 hf];show (hU s).length<=_;omega⟩ (by show (1:Nat)<=_;decide) kl.2 k3 (hdn _ (Oj (by omega) (by omega)))
  ⟨by rw[ahM];omega,fun f hf=>by obtain⟨c,hc,e⟩:=ahJ.1 hf;rw[<-e];have:=hj2.2 c hc;show c.length<=_;omega⟩
 rw[aee J hj1.2 J 0 0 [] rfl rfl (ahD _)];simp only[ahk,ahO];rw[MX (show (0:Int)<=0 by omega) (show (0:Int)<(draws.length:Int) by omega),cond_true,hM,ahk];simp only;generalize R_ (V1,V2) (hP x recv N8 a.1 (hU s)) K.2.2 (rd [] draws 0) (J.map fun c=>((516:Int),c))=M;by_cases h5:M.2.2=0
 ·rw[cond_neg (by rw[MO h5];rfl),if_neg (fun k=>k h5)];rfl
 ·rw[cond_pos (by rw[MR h5];rfl),if_pos h5];rfl
end Go.AM
end
section
set_option maxRecDepth 100000
namespace Go.AM
theorem aed{v:VV}{x:SV}{s:List Int}{draws:List (List Int)}(hv:okV v)(hx:SOk x)(hs:s.length<9223372036854775808)(hd:draws.length<9223372036854775808):
  ∃l,Nq.run .lim (v,())=some l/\Qd.run .lim (v,x,s,draws,())=some ((((l&&P_ v)&&Xv x)&&decide ((s.length:Int)<=4000))&&decide ((draws.length:Int)<=40)):=by
 obtain⟨l,hl⟩:=ZX v hv;refine⟨l,hl,?_⟩;simp only[Qd.run,hl,adr v hv,(aaX hx).2,ahk,MS hs,MS hd,ahE,cond_true];cases l<;>cases P_ v<;>cases Xv x<;>rfl
theorem aeM:Bs [78,84,83,78]:=fun x hx=>by
 simp only[ahx,ahr,or_false]at hx;rcases hx with rfl|rfl|rfl|rfl<;>decide
theorem afG:NQ.run .lim ([78,84,83,78],())=some 1314149198:=by
 have e0:NQ.l0 .lim ([78,84,83,78],0,())=some (.inr ([78,84,83,78],())):=by
  rw[NQ.q0];show NQ.l0 .lim ([78,84,83,78],1,())=_;rw[NQ.q0];show NQ.l0 .lim ([78,84,83,78],2,())=_;rw[NQ.q0];show NQ.l0 .lim ([78,84,83,78],3,())=_;rw[NQ.q0];show NQ.l0 .lim ([78,84,83,78],4,())=_;rw[NQ.q0];rfl
 have hv:=U1 aeM (by decide);simp only[NQ.run,e0,hv,ahk];rfl
theorem afM{t:List Int}(h:Bs t)(hl:t.length=8):0<=OI t/\OI t<18446744073709551616:=by
 have:=VP h 8 (by omega);rw[List.take_of_length_le (by omega)]at this;have e:(256:Int)^8=18446744073709551616:=by decide
 rwa [e]at this
theorem Zu{s:List Int}(hs:Bs s)(h:Wv s=0):0<=(Pq s).2.2.2.2.2.2.2.2.2.2.2.2.1/\(Pq s).2.2.2.2.2.2.2.2.2.2.2.2.1<18446744073709551616:=by
 have w:=was hs h;rw[w.eq];exact afM ((hs.take 48).drop 40) (TL w.l0)
theorem aeP{r:RR}(h:Ty.ok (.pair (.lst (.pair (.int .u32) (.pair .str (.int .i64)))) (.int .u32)) r):RB r:=by
 obtain⟨⟨h1,h2⟩,_⟩:=h;exact⟨XA h1,fun k hk=>⟨XA (h2 k hk).2.1.1,(h2 k hk).2.1.2⟩⟩
end Go.AM
end
section
set_option maxRecDepth 100000
namespace Go.AM
theorem aaE{n:Int}(h0:0<=n)(h1:n<65536):PV.run .lim (n,())=some (twoS n):=by
 have e1:ahB.wrap (n.tdiv 256)=n/256:=by rw[Int.tdiv_eq_ediv_of_nonneg h0,wrap64 (by omega) (by omega)]
 have e2:ahT.wrap (n.tmod 256)=ahT.wrap n:=by rw[Int.tmod_eq_emod_of_nonneg h0,Qx,Qx];omega
 simp only[PV.run,e1,e2];unfold twoS;rw[adA]
theorem HU.cut{p:PK}(h:HU p)(l:List FF):HU (PK.cut p l):=⟨h.a,h.b,h.c,h.d⟩
theorem acg{v:VV}(hv:okV v)(hf:P_ v=true){key MZ ahead:List Int}{inner:List FF}(hk:key.length<Nr)(hkb:Bs key)(hn:MZ.length<Nr)(ha:ahead.length<Nr)(hi:FL inner):
  Qh.run .lim (v,key,MZ,ahead,inner,())=some ((QY v key MZ ahead inner).1,(QY v key MZ ahead inner).2.1,(QY v key MZ ahead inner).2.2,()):=by
 have hn':MZ.length<9223372036854775808:=hn;have ha':ahead.length<9223372036854775808:=ha;simp only[Qh.run,MS hn',MS ha',cond_true];unfold QY;by_cases h1:MZ.length=16
 case neg=>rw[MR (show ¬(MZ.length:Int)=16 by omega),if_neg h1];rfl
 rw[MO (show (MZ.length:Int)=16 by omega),if_pos h1];by_cases h2:ahead.length>1280
 ·rw[MO (show (ahead.length:Int)>1280 by omega),if_pos h2];rfl
 rw[MR (show ¬(ahead.length:Int)>1280 by omega),if_neg h2];simp only[aho,cond_false,XO hi,ahk];by_cases h3:Rw inner=0
 case neg=>rw[MR h3,if_neg h3];rfl
 rw[MO h3,if_pos h3];have hfl:=Tj (l:=inner);have T:Vu key [ahead,MZ] (Q_ inner):=⟨hk,hkb,by simp[Nr],fun t ht=>by
  simp only[ahx,ahr,or_false]at ht;rcases ht with rfl|rfl
  ·exact ha
  ·exact hn,Oe (by omega)⟩
 simp only[aho,cond_false,Yp hv T,ahk];have hsl:=V8 (key:=key) (ad:=[ahead,MZ]) hf (show (Q_ inner).length<=65536 by omega);generalize OY v key [ahead,MZ] (Q_ inner)=w at hsl;obtain⟨w1,w2,w3⟩:=w;simp only at hsl ⊢
 by_cases h4:w3=0
 case neg=>rw[MR h4,if_neg h4];rfl
 rw[MO h4,if_pos h4];have hp:Sv w2.length<4:=by unfold Sv;omega
 have hfs:(TW w2).length<=w2.length+4:=by unfold TW;rw[ahl,List.length_replicate];omega
 simp only[aho,cond_false,aaE (show (0:Int)<=16 by decide) (show (16:Int)<65536 by decide),aaE (show (0:Int)<=(w2.length:Int) by omega) (show (w2.length:Int)<65536 by omega),ahk,MS (show w2.length<9223372036854775808 by omega),cond_true];rw[cond_pos (MO (show (twoS 16).length+(twoS (w2.length:Int)).length<=maxStr by rw[O9,O9];decide)),cond_pos (MO (show (twoS 16++twoS (w2.length:Int)).length+MZ.length<=maxStr by rw[ahl,O9,O9,h1];decide)),
  XP (show w2.length<4611686018427387900 by omega)]
 simp only[ahk];rw[cond_pos (MO (show ((twoS 16++twoS (w2.length:Int))++MZ).length+(TW w2).length<=maxStr by rw[ahl,ahl,O9,O9,h1];unfold maxStr;omega))];rfl
theorem abb{v:VV}(hv:okV v)(hf:P_ v=true){p:PK}{key MZ:List Int}{inner:List FF}(hp:FL p.fs)(hu:HU p)(hpl:p.fs.length<=1000000000)(hk:key.length<Nr)(hkb:Bs key)(hn:MZ.length<Nr)(hi:FL inner):
  Ot.run .lim (v,p,key,MZ,inner,())=some ((R_ v p key MZ inner).1,(R_ v p key MZ inner).2.1,(R_ v p key MZ inner).2.2,()):=by
 have hff:=Qu p.fs 1028;have hfe:=UF (l:=p.fs) 1028 (by omega) (by omega);have hfe:Nk.run .lim (p.2.2.2.2.2.2.2.2.2.2.2.2.2,1028,())=_:=hfe;simp only[Ot.run,hfe,ahk,MS (show (findF p.fs 1028).length<9223372036854775808 by omega),cond_true];unfold R_;by_cases h1:(findF p.fs 1028).length>0
 ·rw[MO (show ((findF p.fs 1028).length:Int)>0 by omega),if_pos h1];rfl
 rw[MR (show ¬((findF p.fs 1028).length:Int)>0 by omega),if_neg h1];simp only[cond_false,U2 hp hu,ahk];by_cases h2:WR p=0
 case neg=>rw[MR h2,if_neg h2];rfl
 rw[MO h2,if_pos h2];have hwl:=YZ p;simp only[aho,cond_false,acg hv hf hk hkb hn (Oe (show (WB p).length<9223372036854775808 by omega)) hi,ahk];have hal:=Yd (v:=v) hf (key:=key) (MZ:=MZ) (ahead:=WB p) (inner:=inner);generalize QY v key MZ (WB p) inner=a at hal;obtain⟨a1,a2,a3⟩:=a;simp only at hal ⊢
 by_cases h3:a3=0
 case neg=>rw[MR h3,if_neg h3];rfl
 rw[MO h3,if_pos h3];have hpl':p.2.2.2.2.2.2.2.2.2.2.2.2.2.length<=1000000000:=hpl;have hq:FL (PK.fs (PK.cut p (p.fs++[a2]))):=by
  refine⟨?_,fun f hf=> ?_⟩
  ·show (p.fs++[a2]).length<_;rw[ahl];simp;omega
  ·rcases ahN.1 hf with hf|hf
   ·exact hp.2 f hf
   ·rw[ahn.1 hf];omega
 have hw:=U2 hq (hu.cut (p.fs++[a2]));have hw:Ob.run .lim ((p.1,p.2.1,p.2.2.1,p.2.2.2.1,p.2.2.2.2.1,p.2.2.2.2.2.1,p.2.2.2.2.2.2.1,p.2.2.2.2.2.2.2.1,p.2.2.2.2.2.2.2.2.1,p.2.2.2.2.2.2.2.2.2.1,p.2.2.2.2.2.2.2.2.2.2.1,p.2.2.2.2.2.2.2.2.2.2.2.1,p.2.2.2.2.2.2.2.2.2.2.2.2.1,p.2.2.2.2.2.2.2.2.2.2.2.2.2++[a2]),())=_:=hw;simp only[aho,cond_false];rw[cond_pos (MO (show p.2.2.2.2.2.2.2.2.2.2.2.2.2.length<2932031007402 by omega)),cond_pos (MO (show p.2.2.2.2.2.2.2.2.2.2.2.2.2.length+[a2].length<2932031007402 by simp;omega)),hw];simp only[ahk];by_cases h4:WR (PK.cut p (p.fs++[a2]))=0
 ·rw[MO h4,if_pos h4];rfl
 ·rw[MR h4,if_neg h4];rfl
end Go.AM
end
section
set_option maxRecDepth 100000
namespace Go.AM
theorem aae{r:RR}(ro:Y6 r){k:CK}(ko:KOk k)(v0:VV)(Nw:List (List Int))(hn: ∀n∈Nw,n.length<Nr)(h8:Nw.length<=8):
  ∀(l:List (List Int)) (j:Nat) (v:VV) (out:List (List Int)),Nw.drop j=l->okV v->P_ v=true->out.length<=j->
   ((Qq (Px r) k v out l).2.2=0->NM.l0 .lim (Nw,(j:Int),v0.1,v0.2,r.1,r.2,k.1,k.2.1,k.2.2,false,v.1,v.2,out,())=
    some (.inr (false,(Qq (Px r) k v out l).1.1,(Qq (Px r) k v out l).1.2,(Qq (Px r) k v out l).2.1,())))/\
   ((Qq (Px r) k v out l).2.2≠0->NM.l0 .lim (Nw,(j:Int),v0.1,v0.2,r.1,r.2,k.1,k.2.1,k.2.2,false,v.1,v.2,out,())=
    some (.inl ((Qq (Px r) k v out l).2.2,v0.1,v0.2,()))):=by
 have hm:=QJ ro;intro l
 induction l with
 |nil=>
  intro j v out hl hv hf ho;have hj:Nw.length<=j:=by
   have:=congrArg ahC hl;rw[ahp]at this;simp only[ahs]at this;omega
  refine⟨fun _=> ?_,fun h=>absurd rfl h⟩;rw[NM.q0];simp only[NM.b0,MS (show Nw.length<9223372036854775808 by omega),MR (show ¬(j:Int)<(Nw.length:Int) by omega),cond_true,cond_false];rfl
 |cons n l ih=>
  intro j v out hl hv hf ho;obtain⟨hj,hr,hl'⟩:=drop_cons (z:=[]) hl;have hn':=hn n (by rw[<-hr];exact Oj (by omega) (by omega));have hmk:=acp hv hf ro ko hn';rw[NM.q0];simp only[NM.b0,MS (show Nw.length<9223372036854775808 by omega),MO (show (j:Int)<(Nw.length:Int) by omega),MX (show (0:Int)<=(j:Int) by omega) (show (j:Int)<(Nw.length:Int) by omega),cond_true,hr,hmk,ahk,wk j (by omega)];rw[Qq];by_cases h0:(mkS v (Px r) k n).2.2=0
  ·have hcap:decide (out.length+([(mkS v (Px r) k n).2.1]:List (List Int)).length<4398046511104)=true:=MO (by simp only[ahm];omega);rw[MO h0,if_pos h0];simp only[aho,cond_false,hcap,cond_true];exact ih (j+1) (mkS v (Px r) k n).1 (out++[(mkS v (Px r) k n).2.1]) hl' (ab6 hv (ro.key _ hm) (ro.kb _ hm) k n) (ZY hf _ k n) (by simp only[ahl,ahm];omega)
  ·rw[MR h0,if_neg h0];exact⟨fun q=>absurd q h0,fun _=>rfl⟩
theorem acn{v:VV}{r:RR}{k:CK}{Nw:List (List Int)}(hv:okV v)(hf:P_ v=true)(ro:Y6 r)(ko:KOk k)(hl:Nw.length<Nr)(hn: ∀n∈Nw,n.length<Nr):
  NM.run .lim (v,r,k,Nw,())=some ((Sm v (Px r) k Nw).1,(Sm v (Px r) k Nw).2.1,(Sm v (Px r) k Nw).2.2,()):=by
 have hl63:Nw.length<9223372036854775808:=hl;unfold Sm;simp only[NM.run,MS hl63,cond_true];by_cases h8:Nw.length>8
 ·rw[MO (show (Nw.length:Int)>8 by omega),if_pos h8];rfl
 ·rw[MR (show ¬(Nw.length:Int)>8 by omega),if_neg h8];have J:=aae ro ko v Nw hn (by omega) Nw 0 v [] rfl hv hf (ahD _);rw[show ((0:Nat):Int)=0 from rfl]at J;simp only[cond_false];by_cases h0:(Qq (Px r) k v [] Nw).2.2=0
  ·rw[J.1 h0,if_pos h0,h0];rfl
  ·rw[J.2 h0,if_neg h0];rfl
end Go.AM
end
section
set_option maxRecDepth 100000
namespace Go.AM
theorem acZ{l:List FF}(u c:List Int)(hl: ∀f∈l,f.2.length<65536)(hc:c.length<65536): ∀(d j:Nat) (i:Int),i=(j:Int)->(findF l 772).length-j=d->j<=(findF l 772).length->(findF l 772).length<100->
  NS.l0 .lim (l,u,c,QG l c j,i,findF l 772,())=some (u,c,Wn l c,()):=by
 intro d
 induction d with
 |zero=>
  intro j i hi h1 h2 h3;subst hi;have hj:j=(findF l 772).length:=by omega
  rw[NS.q0];simp only[NS.b0,MS (show (findF l 772).length<9223372036854775808 by omega),cond_true];rw[cond_neg (MR (show ¬(j:Int)<((findF l 772).length:Int) by omega)),hj];rfl
 |succ d ih=>
  intro j i hi h1 h2 h3;subst hi;obtain⟨i1,i2⟩:=Ze (l:=l) (kind:=772) (j:=j) (by omega);have hm:=hl _ (Oj (d:=f0) i1 i2);have hc63:c.length<9223372036854775808:=by omega
  have hm63:(rd f0 l (rd 0 (findF l 772) (j:Int))).2.length<9223372036854775808:=by omega
  have hb:=Vw l c j;have hw:ahB.wrap (QG l c j+1)=QG l c j+1:=wrap64 (by omega) (by omega);have a:=ih (j+1) _ rfl (by omega) (by omega) h3;rw[NS.q0];simp only[NS.b0,MS (show (findF l 772).length<9223372036854775808 by omega),hw,QO j (show j<4611686018427387904 by omega),cond_true];rw[cond_pos (MO (show (j:Int)<((findF l 772).length:Int) by omega)),MX (show (0:Int)<=(j:Int) by omega) (show (j:Int)<((findF l 772).length:Int) by omega),cond_true,MX i1 i2,cond_true,MS hm63,cond_true,MS hc63,cond_true];rw[Xx (by omega)]at a;rw[<-a];cases e:decide (((rd f0 l (rd 0 (findF l 772) (j:Int))).2.length:Int)=(c.length:Int))with
  |true=>
   by_cases h8:QG l c j<8
   ·rw[MO h8,OW,show min (QG l c j+1) 8=QG l c j+1 by omega];rfl
   ·rw[MR h8,OW,show min (QG l c j+1) 8=QG l c j by omega];rfl
  |false=>rfl
noncomputable def adM(fs:List FF):Option (List Int×List Int×Int×Int×Unit):=
  (OE.run .lim (fs,260,())).bind fun (r8,r9,())=>
  bif !(decide (r9=0))then
   some (([]:List Int),([]:List Int),0,r9,())
  else
   (OE.run .lim (fs,516,())).bind fun (r10,r11,())=>
   bif !(decide (r11=0))then
   some (([]:List Int),([]:List Int),0,r11,())
   else
   bif vT (r8.length:Int)then
   bif((!(!(decide ((r8.length:Int)<32))))||(vT (r8.length:Int)))then
   bif((!(!((decide ((r8.length:Int)<32))||(decide ((r8.length:Int)>64)))))||(vT (r10.length:Int)))then
   bif(((decide ((r8.length:Int)<32))||(decide ((r8.length:Int)>64)))||(decide ((r10.length:Int)>256)))then
    some (([]:List Int),([]:List Int),0,12,())
   else
    (Nk.run .lim (fs,772,())).bind fun r12=>
    (NS.l0 .lim (fs,r8,r10,1,0,r12,())).bind fun (SE,YE,n1,())=>
    some (SE,YE,n1,0,())else none else none else none
theorem Y8{l:List FF}(hf:l.length<=16)(hl: ∀f∈l,f.2.length<65536): ∃r:List Int×List Int×Int,adM l=some (r.1,r.2.1,r.2.2,srF l,())/\(srF l=0->r=((PD l 260).1,((PD l 516).1,Wn l (PD l 516).1)))/\(srF l≠0->r=([],([],0))):=by
 have o1:=aaB (l:=l) 260 (by omega);have o2:=aaB (l:=l) 516 (by omega);have hlen: ∀k:Int,(PD l k).1.length<65536:=fun k=>by
  unfold PD;split
  ·simp
  ·rename_i h;split
   ·obtain⟨i1,i2⟩:=YM h;simp only[inB,ahy,decide_eq_true_eq]at i2;exact hl _ (Oj i2.1 i2.2)
   ·simp
 unfold adM srF;rw[o1,ahk];simp only;by_cases h0:(PD l 260).2=0
 case neg=>rw[cond_pos (by rw[MR h0];rfl),if_pos h0];exact⟨([],([],0)),rfl,fun h=>absurd h h0,fun _=>rfl⟩
 rw[cond_neg (by rw[MO h0];rfl),if_neg (fun h=>h h0),o2,ahk];simp only;by_cases h1:(PD l 516).2=0
 case neg=>rw[cond_pos (by rw[MR h1];rfl),if_pos h1];exact⟨([],([],0)),rfl,fun h=>absurd h h1,fun _=>rfl⟩
 rw[cond_neg (by rw[MO h1];rfl),if_neg (fun h=>h h1)];have l1:=hlen 260;have l2:=hlen 516;generalize (PD l 260).1=u at l1 ⊢
 generalize (PD l 516).1=c at l2 ⊢
 simp only[MS (show u.length<9223372036854775808 by omega),MS (show c.length<9223372036854775808 by omega),ahE,cond_true];by_cases h2:u.length<32\/u.length>64\/c.length>256
 ·rw[cond_pos (by simp only[ahz,decide_eq_true_eq];omega),if_pos h2];exact⟨([],([],0)),rfl,(fun h=>by cases h),fun _=>rfl⟩
 ·rw[cond_neg (by simp only[aht,decide_eq_false_iff_not];omega),if_neg h2,UF 772 (by omega) (by omega),ahk];have a3:=acZ (l:=l) u c hl (by omega) _ 0 0 rfl rfl (by omega) (by have:=Qu l 772;omega);have a0:QG l c 0=1:=by unfold QG;rw[ahP];rfl
  rw[a0]at a3;rw[a3];exact⟨(u,(c,Wn l c)),rfl,fun _=>rfl,fun h=>absurd rfl h⟩
def Xk(s:List Int):List Int×List Int×Int:=if VW s=0 then(hU s,(hC s,hN s))else([],([],0))
theorem acY{s:List Int}(hs:Bs s)(hl:s.length<9223372036854775808):TD.run .lim (s,())=some ((Xk s).1,(Xk s).2.1,(Xk s).2.2,VW s,()):=by
 obtain⟨r,h1,h2,h3⟩:=VJ hs hl;simp only[TD.run,h1,ahk];unfold Xk;by_cases h:VW s=0
 ·rw[if_pos h,h2 h];rfl
 ·rw[if_neg h,h3 h]
theorem VE{s:List Int}(hs:Bs s)(hl:s.length<9223372036854775808):NS.run .lim (s,())=some ((Xk s).1,(Xk s).2.1,(Xk s).2.2,VW s,()):=by
 have key: ∃r:List Int×List Int×Int,NS.run .lim (s,())=some (r.1,r.2.1,r.2.2,VW s,())/\(VW s=0->r=(hU s,(hC s,hN s)))/\(VW s≠0->r=([],([],0))):=by
  unfold hN hC hU;simp only[NS.run,XT hs hl,ahk];unfold VW;by_cases h0:Wv s=0
  case neg=>rw[cond_pos (by rw[MR h0];rfl),if_pos h0];exact⟨([],([],0)),rfl,fun h=>absurd h h0,fun _=>rfl⟩
  rw[cond_neg (by rw[MO h0];rfl),if_neg (fun h=>h h0)];have w:=was hs h0;have hfew:=w.few;have hok:=w.ok;generalize Pq s=p at hfew hok ⊢
  by_cases h1:p.2.1≠4\/p.2.2.1≠3
  ·rw[cond_pos (by simp only[ahz,ahH,decide_eq_false_iff_not];omega),if_pos h1];exact⟨([],([],0)),rfl,(fun h=>by cases h),fun _=>rfl⟩
  rw[cond_neg (by simp only[aht,ahG,decide_eq_true_eq];omega),if_neg h1];have hfs:p.2.2.2.2.2.2.2.2.2.2.2.2.2.length<=16:=hfew;have abS:=Qu p.fs 1028;have hl': ∀f∈p.fs,f.2.length<65536:=fun f hf=>by have:=(hok f hf).l1;omega
  have e:Nk.run .lim (p.2.2.2.2.2.2.2.2.2.2.2.2.2,1028,())=some (findF p.fs 1028):=UF 1028 (by omega) (by omega);rw[e,ahk,MS (show (findF p.fs 1028).length<9223372036854775808 by omega),cond_true];unfold QB;rcases QZ p.fs 1028 with⟨q1,q2⟩|⟨k,r,q1,q2,hkl,hkd⟩
  ·rw[q1,q2];rw[cond_neg (show decide ((([]:List Int).length:Int)>0)=false from rfl)];exact Y8 hfew hl'
  ·rw[q1,q2];have hkl':k<p.2.2.2.2.2.2.2.2.2.2.2.2.2.length:=hkl;rw[cond_pos (MO (show (((k:Int)::r).length:Int)>0 by simp only[ahw];omega)),MX (show (0:Int)<=0 by omega) (show (0:Int)<(((k:Int)::r).length:Int) by simp only[ahw];omega),cond_true,
    show rd 0 ((k:Int)::r) 0=(k:Int)from rfl,Na (show (0:Int)<=0 by omega) (show (0:Int)<=(k:Int) by omega) (show (k:Int)<=(p.2.2.2.2.2.2.2.2.2.2.2.2.2.length:Int) by omega),cond_true]
   have hc:cut p.2.2.2.2.2.2.2.2.2.2.2.2.2 0 (k:Int)=p.fs.take k:=QM rfl;rw[hc];exact Y8 (by rw[ahq];omega) (fun f hf=>hl' f (ahu hf))
 obtain⟨r,h1,h2,h3⟩:=key;rw[h1];unfold Xk;by_cases h:VW s=0
 ·rw[if_pos h,h2 h]
 ·rw[if_neg h,h3 h]
theorem adu{s recv N8 draws unique m m1 m2 m3 m4 m5 m6 m7 m8 m9 m10 m11 m12 m13 m14 m15 m16 m17 m18 m19 m20 m21 m22 m23 m24 SN RZ TK RX Tv Ug Ur m32 Ue Vx Vs Vy V3 XB WH WI XC WY V4 WZ WJ W9 W_ Xa}(J:List (List Int))(hJ:J.length<=8): ∀(l:List (List Int)) (j:Nat) (i:Int) (acc:List FF),i=(j:Int)->J.drop j=l->acc.length<=j->
  Nj.l0 .lim (s,recv,N8,draws,unique,i,m,m1,m2,m3,m4,m5,m6,m7,m8,m9,m10,m11,m12,m13,m14,m15,m16,m17,m18,m19,m20,m21,m22,m23,m24,SN,RZ,TK,RX,Tv,Ug,Ur,m32,Ue,Vx,Vs,Vy,V3,XB,WH,WI,XC,WY,V4,WZ,WJ,W9,W_,Xa,J,acc,())=some (s,recv,N8,draws,unique,m,m1,m2,m3,m4,m5,m6,m7,m8,m9,m10,m11,m12,m13,m14,m15,m16,m17,m18,m19,m20,m21,m22,m23,m24,SN,RZ,TK,RX,Tv,Ug,Ur,m32,Ue,Vx,Vs,Vy,V3,XB,WH,WI,XC,WY,V4,WZ,WJ,W9,W_,Xa,acc++l.map (fun c=>((516:Int),c)),()):=by
 intro l
 induction l with
 |nil=>
  intro j i acc hi hl ha;subst hi;have hj:J.length<=j:=by
   have:=congrArg ahC hl;rw[ahp]at this;simp only[ahs]at this;omega
  rw[Nj.q0];simp only[Nj.b0,MS (show J.length<9223372036854775808 by omega),MR (show ¬(j:Int)<(J.length:Int) by omega),cond_true,cond_false,ahR,ahL]
 |cons n l ih=>
  intro j i acc hi hl ha;subst hi;obtain⟨hj,hr,hl'⟩:=drop_cons (z:=[]) hl;have hcap:decide (acc.length+([(516,n)]:List FF).length<2932031007402)=true:=MO (by simp only[ahm];omega);rw[Nj.q0];simp only[Nj.b0,MS (show J.length<9223372036854775808 by omega),MO (show (j:Int)<(J.length:Int) by omega),MX (show (0:Int)<=(j:Int) by omega) (show (j:Int)<(J.length:Int) by omega),cond_true,hr,hcap,wk j (by omega)];rw[ih (j+1) _ (acc++[(516,n)]) rfl hl' (by simp only[ahl,ahm];omega),ahI];rfl
theorem aaf{t:Int}{u:List Int}(ht:0<=t/\t<18446744073709551616)(hu:FOk (260,u))(hl:u.length<=64):Ob.run .lim (VA t u,())=some (X_ (VA t u)++Nv [(260,u)],0,()):=by
 have e:WR (VA t u)=0:=by
  unfold WR;rw[if_pos (show WG (VA t u)=true from rfl)];refine WW (l:=[(260,u)]) (fun f hf=> ?_) (by simp) ?_
  ·rw[ahn.1 hf];exact hu
  ·rw[UW,QN];show 4+u.length<=1232;omega
 have z:(0:Int)<=0/\(0:Int)<18446744073709551616:=by decide
 have h:=U2 (p:=VA t u) ⟨by show (1:Nat)<_;decide,fun f hf=>by rw[ahn.1 hf];show u.length<=_;omega⟩ ⟨z,ht,z,z⟩;rw[h,e];unfold WB;rw[if_pos e]
theorem UN{x:SV}{s:List Int}(hs:Bs s)(hl:s.length<9223372036854775808)(h:VW s=0):
  OM.run .lim (x,s,hU s,())=some (aa2 x,(2,(hU s,(s,(X_ (VA (Pq s).2.2.2.2.2.2.2.2.2.2.2.2.1 (hU s))++Nv [(260,hU s)],(0,0))))),()):=by
 have q:=Yw hs h;have hw:=aaf (Zu hs q.e0) q.u q.ul.2;have hu:(PD (QB (Pq s).fs) 260).1=hU s:=rfl;rw[hu]at hw;simp only[OM.run,XT hs hl,afG,ahk,hw];rfl
theorem Uf(v:VV)(x:SV):Nh.run .lim (v,x,())=some (v,Va x,U_,()):=rfl
theorem ado{v:VV}{s key:List Int}(h:(QT v s key).2=0):(QT v s key).1.1=PK.cut (Pq s) []:=by
 by_cases h0:Wv s=0
 case neg=>unfold QT at h;rw[if_neg h0]at h;exact absurd h h0
 unfold QT at h ⊢
 rw[if_pos h0]at h ⊢
 revert h;cases Uw (Pq s).fs 1028 with
 |none=>intro h;cases h
 |some k=>
  intro h;simp only at h ⊢
  split at h
  ·rename_i a1;rw[if_pos a1];split at h
   ·rename_i a2;rw[if_pos a2];split at h
    ·rename_i a3;rw[if_pos a3]
    ·rename_i a3;exact absurd h a3
   ·rename_i a2;exact absurd h a2
  ·rename_i a1;exact absurd h a1
noncomputable def Wj(v:VV)(x:SV)(K:CK)(recv N8:Int)(draws:List (List Int))(u s:List Int)(a:NT)(N:List (List Int)):VV×SV×OT:=
 if(Sm v (Px x.1) K N).2.2≠0 then(v,Va x,U_)else
 if(R_ (Sm v (Px x.1) K N).1 (hP x recv N8 a.1 u) K.2.2 (rd [] draws 0) ((Sm v (Px x.1) K N).2.1.map fun c=>((516:Int),c))).2.2≠0 then(v,Va x,U_)else
 ((R_ (Sm v (Px x.1) K N).1 (hP x recv N8 a.1 u) K.2.2 (rd [] draws 0) ((Sm v (Px x.1) K N).2.1.map fun c=>((516:Int),c))).1,adT x,(1,(u,(s,((R_ (Sm v (Px x.1) K N).1 (hP x recv N8 a.1 u) K.2.2 (rd [] draws 0) ((Sm v (Px x.1) K N).2.1.map fun c=>((516:Int),c))).2.1,(recv,N8))))))
noncomputable def adS(v:VV)(x:SV)(K:CK)(recv N8:Int)(draws:List (List Int))(u s:List Int)(a:NT)(N:List (List Int)):Option (VV×SV×OT×Unit):=
   (NM.run .lim (v,x.1,K,N,())).bind fun (r16,r17,r18,())=>
   bif !(decide (r18=0))then
    (Nh.run .lim (v,x,())).bind fun (r19)=>
    some (r19)
   else
    (Nj.l0 .lim (s,recv,N8,draws,u,0,v.1,v.2,x.1.1,x.1.2,x.2.1,x.2.2.1,x.2.2.2.1,x.2.2.2.2.1,x.2.2.2.2.2.1,x.2.2.2.2.2.2.1,x.2.2.2.2.2.2.2.1,x.2.2.2.2.2.2.2.2,false,0,0,0,0,0,0,0,0,0,0,([]:List Int),([]:List Int),([]:List Int),0,0,K.1,K.2.1,K.2.2,a.1.1,a.1.2.1,a.1.2.2.1,a.1.2.2.2.1,a.1.2.2.2.2.1,a.1.2.2.2.2.2.1,a.1.2.2.2.2.2.2.1,a.1.2.2.2.2.2.2.2.1,a.1.2.2.2.2.2.2.2.2.1,a.1.2.2.2.2.2.2.2.2.2.1,a.1.2.2.2.2.2.2.2.2.2.2.1,a.1.2.2.2.2.2.2.2.2.2.2.2.1,a.1.2.2.2.2.2.2.2.2.2.2.2.2.1,a.1.2.2.2.2.2.2.2.2.2.2.2.2.2,a.2.1,a.2.2,r16.1,r16.2,r17,([]:List (Int×List Int)),())).bind fun (s1,UE,WC,Uu,unique,m,m1,m2,m3,m4,m5,m6,m7,m8,m9,m10,m11,m12,m13,m14,m15,m16,m17,m18,m19,m20,m21,m22,m23,m24,SN,RZ,TK,RX,Tv,Ug,Ur,m32,Ue,Vx,Vs,Vy,V3,XB,WH,WI,XC,WY,V4,WZ,WJ,W9,W_,Xa,V5,())=>
    bif inB 0 (Uu.length:Int)then
    (Ot.run .lim ((W_,Xa),(0,(4,(4,(m4,(Vs,(m5,(m7,(m8,(m6,(UE,(V4,(UE,(WC,([(260,unique)]:List (Int×List Int))))))))))))))),Ug,(rd ([]:List Int) Uu 0),V5,())).bind fun (r22,r23,r24,())=>
    bif !(decide (r24=0))then
    (Nh.run .lim ((m,m1),((m2,m3),(m4,(m5,(m6,(m7,(m8,(m9,(m10,m11)))))))),())).bind fun (r25)=>
    some (r25)
    else
    some (r22,((m2,m3),(m4,(m5,(m6,(m7,(m8,((ahA.wrap (m9+1)),(m10,m11)))))))),(1,(unique,(s1,(r23,(UE,WC))))),())else none
theorem Zz{v:VV}{x:SV}{K:CK}{recv N8:Int}{draws:List (List Int)}{u s:List Int}{a:NT}(hv:okV v)(hf:P_ v=true)(hx:Y6 x.1)(ko:KOk K)(k3:Bs K.2.2)(hUl:u.length<=64)(hP:HU (hP x recv N8 a.1 u))
  (h1:0<draws.length) (h2:draws.length<1000) (hdn: ∀d∈draws,d.length<Nr) (N:List (List Int)) (hNd: ∀d∈N,d.length<Nr) (hNl:N.length<1000):
  adS v x K recv N8 draws u s a N=some ((Wj v x K recv N8 draws u s a N).1,(Wj v x K recv N8 draws u s a N).2.1,(Wj v x K recv N8 draws u s a N).2.2,()):=by
 unfold adS Wj;have hj:=acn (Nw:=N) hv hf hx ko (Oe (by omega)) hNd;have hj1:=YJ hv (hx.key _ (QJ hx)) (hx.kb _ (QJ hx)) (k:=K) (Nw:=N);have hj2:=Zk hf (m:=Px x.1) (k:=K) (Nw:=N);rw[hj,ahk];generalize Sm v (Px x.1) K N=J at hj1 hj2 ⊢
 obtain⟨⟨V1,V2⟩,J,e⟩:=J;simp only at hj1 hj2 ⊢
 by_cases h4:e=0
 case neg=>
  rw[if_pos h4,cond_pos (by rw[MR h4];rfl),Uf];rfl
 rw[if_neg (fun k=>k h4),cond_neg (by rw[MO h4];rfl)];have hM:=abb (v:=(V1,V2)) (p:=Go.AM.hP x recv N8 a.1 u) (key:=K.2.2) (MZ:=rd [] draws 0) (inner:=J.map fun c=>((516:Int),c)) hj1.1 hj2.1
  ⟨by show (1:Nat)<_;decide,fun f hf=>by rw[ahn.1 hf];show u.length<=_;omega⟩ hP (by show (1:Nat)<=_;decide) ko.b k3 (hdn _ (Oj (by omega) (by omega)))
  ⟨by rw[ahM];omega,fun f hf=>by obtain⟨c,hc,e⟩:=ahJ.1 hf;rw[<-e];have:=hj2.2 c hc;show c.length<=_;omega⟩
 rw[adu J hj1.2 J 0 0 [] rfl rfl (ahD _)];simp only[ahk,ahO];rw[MX (show (0:Int)<=0 by omega) (show (0:Int)<(draws.length:Int) by omega),cond_true,hM,ahk];simp only;generalize R_ (V1,V2) (Go.AM.hP x recv N8 a.1 u) K.2.2 (rd [] draws 0) (J.map fun c=>((516:Int),c))=M;by_cases h5:M.2.2=0
 ·rw[cond_neg (by rw[MO h5];rfl),if_neg (fun k=>k h5)];rfl
 ·rw[cond_pos (by rw[MR h5];rfl),if_pos h5,Uf];rfl
theorem aa7{v:VV}{x:SV}{s:List Int}{recv N8:Int}{draws:List (List Int)}(hv:okV v)(hf:P_ v=true)(hb:vB v)(hx:Y6 x.1)(hs:Bs s)(hl:s.length<9223372036854775808)(hd:draws.length<1000)(hdn: ∀d∈draws,d.length<Nr)
  (hr:0<=recv/\recv<18446744073709551616) (ht:0<=N8/\N8<18446744073709551616) (h:VW s≠0):Nj.run .lim (v,x,s,recv,N8,draws,())=some (v,Va x,U_,()):=by
 have ha:=VE hs hl;unfold Xk at ha;rw[if_neg h]at ha;simp only[Nj.run,ha,ahk];rw[cond_pos (by rw[MR h];rfl),Uf];rfl
theorem aa8{v:VV}{x:SV}{s:List Int}{recv N8:Int}{draws:List (List Int)}(hv:okV v)(hf:P_ v=true)(hb:vB v)(hx:Y6 x.1)(hs:Bs s)(hl:s.length<9223372036854775808)(hd:draws.length<1000)(hdn: ∀d∈draws,d.length<Nr)
  (hr:0<=recv/\recv<18446744073709551616) (ht:0<=N8/\N8<18446744073709551616) (h:VW s=0) (h1:(Qr v x.1 (hC s)).2≠0):Nj.run .lim (v,x,s,recv,N8,draws,())=some (v,aa2 x,aa1 s recv N8,()):=by
 have ha:=VE hs hl;unfold Xk at ha;rw[if_pos h]at ha;have q:=Yw hs h;have ho:=Ym (v:=v) (r:=x.1) (s:=hC s) hv hf hb hx (Oe (by have:=q.cl;show (PD (QB (Pq s).fs) 516).1.length<_;omega)) q.c.b;have hun:=UN (x:=x) hs hl h;simp only[Nj.run,ha,ahk,ho,h];rw[cond_neg (by decide),cond_neg (MR h1),cond_pos (by rw[MR h1];rfl),hun];unfold aa1;simp only[ahk]
noncomputable def Vl(v:VV)(x:SV)(s:List Int)(recv N8:Int)(draws:List (List Int))(K:CK):Option (VV×SV×OT×Unit):=
  (NJ.run .lim (v,s,K.2.1,())).bind fun (r9,r10,())=>
  bif((!(decide ((0:Int)=0)))||(!(decide (r10=0))))then
  (OM.run .lim (x,s,(hU s),())).bind fun (r11,r12,())=>
  some (v,r11,(r12.1,(r12.2.1,(r12.2.2.1,(r12.2.2.2.1,(recv,N8))))),())
  else
  bif vT (draws.length:Int)then
  bif decide ((draws.length:Int)=0)then
   (Nh.run .lim (v,x,())).bind fun (r13)=>
   some (r13)
  else
   bif sK 1 (draws.length:Int) (draws.length:Int)then
   bif vT ((cut draws 1 (draws.length:Int)).length:Int)then
   bif decide (((cut draws 1 (draws.length:Int)).length:Int)>(hN s))then
   bif sK 0 (hN s) ((cut draws 1 (draws.length:Int)).length:Int)then
   (NM.run .lim (v,x.1,K,(cut (cut draws 1 (draws.length:Int)) 0 (hN s)),())).bind fun (r16,r17,r18,())=>
   bif !(decide (r18=0))then
    (Nh.run .lim (v,x,())).bind fun (r19)=>
    some (r19)
   else
    (Nj.l0 .lim (s,recv,N8,draws,(hU s),0,v.1,v.2,x.1.1,x.1.2,x.2.1,x.2.2.1,x.2.2.2.1,x.2.2.2.2.1,x.2.2.2.2.2.1,x.2.2.2.2.2.2.1,x.2.2.2.2.2.2.2.1,x.2.2.2.2.2.2.2.2,false,0,0,0,0,0,0,0,0,0,0,([]:List Int),([]:List Int),([]:List Int),0,0,K.1,K.2.1,K.2.2,r9.1.1,r9.1.2.1,r9.1.2.2.1,r9.1.2.2.2.1,r9.1.2.2.2.2.1,r9.1.2.2.2.2.2.1,r9.1.2.2.2.2.2.2.1,r9.1.2.2.2.2.2.2.2.1,r9.1.2.2.2.2.2.2.2.2.1,r9.1.2.2.2.2.2.2.2.2.2.1,r9.1.2.2.2.2.2.2.2.2.2.2.1,r9.1.2.2.2.2.2.2.2.2.2.2.2.1,r9.1.2.2.2.2.2.2.2.2.2.2.2.2.1,r9.1.2.2.2.2.2.2.2.2.2.2.2.2.2,r9.2.1,r9.2.2,r16.1,r16.2,r17,([]:List (Int×List Int)),())).bind fun (s1,UE,WC,Uu,unique,m,m1,m2,m3,m4,m5,m6,m7,m8,m9,m10,m11,m12,m13,m14,m15,m16,m17,m18,m19,m20,m21,m22,m23,m24,SN,RZ,TK,RX,Tv,Ug,Ur,m32,Ue,Vx,Vs,Vy,V3,XB,WH,WI,XC,WY,V4,WZ,WJ,W9,W_,Xa,V5,())=>
    bif inB 0 (Uu.length:Int)then
    (Ot.run .lim ((W_,Xa),(0,(4,(4,(m4,(Vs,(m5,(m7,(m8,(m6,(UE,(V4,(UE,(WC,([(260,unique)]:List (Int×List Int))))))))))))))),Ug,(rd ([]:List Int) Uu 0),V5,())).bind fun (r22,r23,r24,())=>
    bif !(decide (r24=0))then
    (Nh.run .lim ((m,m1),((m2,m3),(m4,(m5,(m6,(m7,(m8,(m9,(m10,m11)))))))),())).bind fun (r25)=>
    some (r25)
    else
    some (r22,((m2,m3),(m4,(m5,(m6,(m7,(m8,((ahA.wrap (m9+1)),(m10,m11)))))))),(1,(unique,(s1,(r23,(UE,WC))))),())else none else none
   else
   (NM.run .lim (v,x.1,K,(cut draws 1 (draws.length:Int)),())).bind fun (r28,r29,r30,())=>
   bif !(decide (r30=0))then
    (Nh.run .lim (v,x,())).bind fun (r31)=>
    some (r31)
   else
    (Nj.l0 .lim (s,recv,N8,draws,(hU s),0,v.1,v.2,x.1.1,x.1.2,x.2.1,x.2.2.1,x.2.2.2.1,x.2.2.2.2.1,x.2.2.2.2.2.1,x.2.2.2.2.2.2.1,x.2.2.2.2.2.2.2.1,x.2.2.2.2.2.2.2.2,false,0,0,0,0,0,0,0,0,0,0,([]:List Int),([]:List Int),([]:List Int),0,0,K.1,K.2.1,K.2.2,r9.1.1,r9.1.2.1,r9.1.2.2.1,r9.1.2.2.2.1,r9.1.2.2.2.2.1,r9.1.2.2.2.2.2.1,r9.1.2.2.2.2.2.2.1,r9.1.2.2.2.2.2.2.2.1,r9.1.2.2.2.2.2.2.2.2.1,r9.1.2.2.2.2.2.2.2.2.2.1,r9.1.2.2.2.2.2.2.2.2.2.2.1,r9.1.2.2.2.2.2.2.2.2.2.2.2.1,r9.1.2.2.2.2.2.2.2.2.2.2.2.2.1,r9.1.2.2.2.2.2.2.2.2.2.2.2.2.2,r9.2.1,r9.2.2,r28.1,r28.2,r29,([]:List (Int×List Int)),())).bind fun (s2,XL,ZI,Xp,SE,X7,Y1,YL,X8,WL,XD,Xb,Xc,Ya,Y2,Y3,Y4,m62,m63,m64,m65,m66,m67,m68,m69,m70,m71,m72,m73,m74,m75,m76,m77,m78,m79,m80,m81,m82,m83,m84,m85,m86,m87,m88,m89,m90,m91,m92,m93,m94,m95,m96,m97,m98,m99,())=>
    bif inB 0 (Xp.length:Int)then
    (Ot.run .lim ((m97,m98),(0,(4,(4,(WL,(m85,(XD,(Xc,(Ya,(Xb,(XL,(m93,(XL,(ZI,([(260,SE)]:List (Int×List Int))))))))))))))),m80,(rd ([]:List Int) Xp 0),m99,())).bind fun (r34,r35,r36,())=>
    bif !(decide (r36=0))then
    (Nh.run .lim ((X7,Y1),((YL,X8),(WL,(XD,(Xb,(Xc,(Ya,(Y2,(Y3,Y4)))))))),())).bind fun (r37)=>
    some (r37)
    else
    some (r34,((YL,X8),(WL,(XD,(Xb,(Xc,(Ya,((ahA.wrap (Y2+1)),(Y3,Y4)))))))),(1,(SE,(s2,(r35,(XL,ZI))))),())else none else none else none else none
theorem aa9{v:VV}{x:SV}{s:List Int}{recv N8:Int}{draws:List (List Int)}(hv:okV v)(hf:P_ v=true)(hb:vB v)(hx:Y6 x.1)(hs:Bs s)(hl:s.length<9223372036854775808)(hd:draws.length<1000)(hdn: ∀d∈draws,d.length<Nr)
  (hr:0<=recv/\recv<18446744073709551616) (ht:0<=N8/\N8<18446744073709551616) (h:VW s=0) (h1:(Qr v x.1 (hC s)).2=0):Nj.run .lim (v,x,s,recv,N8,draws,())=Vl v x s recv N8 draws (Qr v x.1 (hC s)).1:=by
 have ha:=VE hs hl;unfold Xk at ha;rw[if_pos h]at ha;have q:=Yw hs h;have ho:=Ym (v:=v) (r:=x.1) (s:=hC s) hv hf hb hx (Oe (by have:=q.cl;show (PD (QB (Pq s).fs) 516).1.length<_;omega)) q.c.b;have hun:=UN (x:=x) hs hl h;simp only[Nj.run,ha,ahk,ho,h];rw[cond_neg (by decide),cond_pos (MO h1),h1];rfl
theorem Z_{v:VV}{x:SV}{s:List Int}{recv N8:Int}{draws:List (List Int)}{K:CK}(hs:Bs s)(hl:s.length<9223372036854775808)(h:VW s=0)(ho:NJ.run .lim (v,s,K.2.1,())=some ((QT v s K.2.1).1,(QT v s K.2.1).2,()))(h2:(QT v s K.2.1).2≠0):
  Vl v x s recv N8 draws K=some (v,aa2 x,aa1 s recv N8,()):=by
 have hun:=UN (x:=x) hs hl h;unfold Vl;rw[ho,ahk];simp only;rw[cond_pos (by rw[MR h2];rfl),hun];unfold aa1;simp only[ahk]
theorem aa5{v:VV}{x:SV}{s:List Int}{recv N8:Int}{draws:List (List Int)}{K:CK}(hv:okV v)(hf:P_ v=true)(hx:Y6 x.1)(hs:Bs s)(hd:draws.length<1000)(hdn: ∀d∈draws,d.length<Nr)
  (hr:0<=recv/\recv<18446744073709551616) (ht:0<=N8/\N8<18446744073709551616) (h:VW s=0) (k1:Ti K=true) (k3:Bs K.2.2)
  (ho:NJ.run .lim (v,s,K.2.1,())=some ((QT v s K.2.1).1,(QT v s K.2.1).2,())) (h2:(QT v s K.2.1).2=0) (h3:draws.length≠0):
  Vl v x s recv N8 draws K=some ((Wj v x K recv N8 draws (hU s) s (QT v s K.2.1).1 (cut draws 1 (1+mn (hN s) ((draws.length:Int)-1)))).1,(Wj v x K recv N8 draws (hU s) s (QT v s K.2.1).1 (cut draws 1 (1+mn (hN s) ((draws.length:Int)-1)))).2.1,(Wj v x K recv N8 draws (hU s) s (QT v s K.2.1).1 (cut draws 1 (1+mn (hN s) ((draws.length:Int)-1)))).2.2,()):=by
 have q:=Yw hs h;have hnb:=Vw (QB (Pq s).fs) (hC s) (findF (QB (Pq s).fs) 772).length;have hnb:1<=hN s/\hN s<=8:=hnb;have hUl:(hU s).length<=64:=q.ul.2;have hX:=Zu hs q.e0;have ks:=Ru k1;have kl:K.2.1.length<Nr/\K.2.2.length<Nr:=⟨Oe (by omega),Oe (by omega)⟩;unfold Vl;rw[ho,ahk];simp only;have hA:(QT v s K.2.1).1.1=PK.cut (Pq s) []:=ado h2;rw[cond_neg (by rw[MO h2];rfl),MS (show draws.length<9223372036854775808 by omega),cond_true];generalize (QT v s K.2.1).1=a at hA ⊢
 rw[cond_neg (MR (by omega)),Na (show (0:Int)<=1 by omega) (show (1:Int)<=(draws.length:Int) by omega) (Int.le_refl _),cond_true];have hc1:(cut draws 1 (draws.length:Int)).length=draws.length-1:=Q8 (a:=1) (b:=draws.length) (by omega) (ahD _);have ko:KOk K:=⟨kl.1,kl.2⟩;have hP:HU (hP x recv N8 a.1 (hU s)):=⟨hr,by rw[hA];exact hX,hr,ht⟩;have hN1:vT ((cut draws 1 (draws.length:Int)).length:Int)=true:=MS (by omega);rw[hN1,cond_true];by_cases h4:((cut draws 1 (draws.length:Int)).length:Int)>hN s
 ·have e1:cut (cut draws 1 (draws.length:Int)) 0 (hN s)=cut draws 1 (1+mn (hN s) ((draws.length:Int)-1)):=by
   have e2:mn (hN s) ((draws.length:Int)-1)=hN s:=by rw[OW];omega
   rw[e2];unfold cut;rw[Int.toNat_natCast,List.take_length,show (0:Int).toNat=0 from rfl,List.drop_zero,show (1:Int).toNat=1 from rfl,List.take_drop,show 1+(hN s).toNat=(1+hN s).toNat by omega]
  rw[cond_pos (MO h4),Na (show (0:Int)<=0 by omega) (show (0:Int)<=hN s by omega) (show hN s<=((cut draws 1 (draws.length:Int)).length:Int) by omega),cond_true,e1];exact Zz hv hf hx ko k3 hUl hP (by omega) (by omega) hdn _ (fun d hd'=>hdn d (YF hd')) (by rw[<-e1];unfold cut;rw[ahp,ahq];unfold cut at hc1;omega)
 ·have e1:cut draws 1 (draws.length:Int)=cut draws 1 (1+mn (hN s) ((draws.length:Int)-1)):=by
   have e2:1+mn (hN s) ((draws.length:Int)-1)=(draws.length:Int):=by rw[OW];omega
   rw[e2]
  rw[cond_neg (MR h4),e1];exact Zz hv hf hx ko k3 hUl hP (by omega) (by omega) hdn _ (fun d hd'=>hdn d (YF hd')) (by rw[<-e1];omega)
theorem Zr{v:VV}{x:SV}{s:List Int}{recv N8:Int}{draws:List (List Int)}{K:CK}(h3:draws.length=0)
  (ho:NJ.run .lim (v,s,K.2.1,())=some ((QT v s K.2.1).1,(QT v s K.2.1).2,())) (h2:(QT v s K.2.1).2=0):
  Vl v x s recv N8 draws K=some (v,Va x,U_,()):=by
 unfold Vl;rw[ho,ahk];simp only;rw[cond_neg (by rw[MO h2];rfl),MS (show draws.length<9223372036854775808 by omega),cond_true,cond_pos (MO (by omega)),Uf];rfl
theorem aac{v:VV}{x:SV}{s:List Int}{recv N8:Int}{draws:List (List Int)}(hv:okV v)(hf:P_ v=true)(hb:vB v)(hx:Y6 x.1)(hs:Bs s)(hl:s.length<9223372036854775808)(hd:draws.length<1000)(hdn: ∀d∈draws,d.length<Nr)
  (hr:0<=recv/\recv<18446744073709551616) (ht:0<=N8/\N8<18446744073709551616):
  Nj.run .lim (v,x,s,recv,N8,draws,())=some ((Tq v x s recv N8 draws).1,(Tq v x s recv N8 draws).2.1,(Tq v x s recv N8 draws).2.2,()):=by
 unfold Tq;by_cases h:VW s=0
 case neg=>rw[if_pos h,aa7 hv hf hb hx hs hl hd hdn hr ht h]
 rw[if_neg (fun k=>k h)];by_cases h1:(Qr v x.1 (hC s)).2=0
 case neg=>rw[if_pos h1,aa8 hv hf hb hx hs hl hd hdn hr ht h h1]
 rw[if_neg (fun k=>k h1),aa9 hv hf hb hx hs hl hd hdn hr ht h h1];obtain⟨k1,k2,k3⟩:=XE hf hb h1;unfold Zg abP;generalize (Qr v x.1 (hC s)).1=K at k1 k2 k3 ⊢
 have ks:=Ru k1;have ho:=(ab9 hv hf hb hs hl (key:=K.2.1) (Oe (by omega)) k2).2;by_cases h2:(QT v s K.2.1).2=0
 case neg=>rw[if_pos h2,Z_ hs hl h ho h2]
 rw[if_neg (fun k=>k h2)];by_cases h3:draws.length=0
 ·rw[if_pos h3,Zr h3 ho h2]
 ·rw[if_neg h3,aa5 hv hf hx hs hd hdn hr ht h k1 k3 ho h2 h3];unfold Wj;rfl
end Go.AM
end
section
set_option maxRecDepth 100000
namespace Go.AM
theorem abG{v:VV}(hv:okV v){key MZ ahead:List Int}{inner:List FF}(hk:key.length<Nr)(hkb:Bs key)(hn:MZ.length<Nr)(ha:ahead.length<Nr):okV (QY v key MZ ahead inner).1:=by
 have hfl:=Tj (l:=inner);have T:Vu key [ahead,MZ] (Q_ inner):=⟨hk,hkb,by simp[Nr],fun t ht=>by
  simp only[ahx,ahr,or_false]at ht;rcases ht with rfl|rfl
  ·exact ha
  ·exact hn,Oe (by omega)⟩
 have h:=Zo hv T;unfold QY
 repeat' split
 all_goals first|exact hv|exact h
theorem ab2{v:VV}(hv:okV v){p:PK}{key MZ:List Int}{inner:List FF}(hk:key.length<Nr)(hkb:Bs key)(hn:MZ.length<Nr):okV (R_ v p key MZ inner).1:=by
 have hwl:=YZ p;have h:=abG hv (inner:=inner) hk hkb hn (Oe (show (WB p).length<9223372036854775808 by omega));unfold R_
 repeat' split
 all_goals first|exact hv|exact h
theorem abR{v:VV}{x:SV}{s:List Int}{recv N8:Int}{draws:List (List Int)}(hv:okV v)(hf:P_ v=true)(hb:vB v)(hx:Y6 x.1)(hdn: ∀d∈draws,d.length<Nr):
  okV (Tq v x s recv N8 draws).1/\(Tq v x s recv N8 draws).2.1.1=x.1:=by
 unfold Tq;split
 ·exact⟨hv,rfl⟩
 split
 ·exact⟨hv,rfl⟩
 rename_i h1;split
 ·exact⟨hv,rfl⟩
 split
 ·exact⟨hv,rfl⟩
 rename_i h3;split
 ·exact⟨hv,rfl⟩
 split
 ·exact⟨hv,rfl⟩
 refine⟨?_,rfl⟩;obtain⟨k1,k2,k3⟩:=XE (v:=v) (r:=x.1) (s:=hC s) hf hb (Classical.byContradiction fun k=>h1 k);have ks:=Ru k1;exact ab2 (YJ hv (hx.key _ (QJ hx)) (hx.kb _ (QJ hx))).1 (Oe (by omega)) k3 (hdn _ (Oj (by omega) (by omega)))
theorem YI{v:VV}{x:SV}{s:List Int}{recv N8:Int}{draws:List (List Int)}(hv:okV v)(hb:vB v)(hx:SOk x)(hr:RB x.1)(hs:Bs s)(hl:s.length<9223372036854775808)(hd:draws.length<9223372036854775808)(hdn: ∀d∈draws,d.length<Nr)
  (h5:0<=recv/\recv<18446744073709551616) (h6:0<=N8/\N8<18446744073709551616):
  O6.run .lim (v,x,s,recv,N8,draws,())=some true:=by
 obtain⟨l,_,hg⟩:=aed hv hx hl hd;simp only[O6.run,hg,ahk];cases hG:((((l&&P_ v)&&Xv x)&&decide ((s.length:Int)<=4000))&&decide ((draws.length:Int)<=40))with
 |false=>rw[cond_pos (show (!false)=true from rfl),Xn];rfl
 |true=>
  simp only[ahy,decide_eq_true_eq]at hG;obtain⟨⟨⟨⟨_,hf⟩,hfx⟩,h4⟩,h40⟩:=hG;have hR:YH x.1=true:=by unfold Xv at hfx;simp only[ahy]at hfx;exact hfx.1.1.1.1
  have ro:=aeQ hR hr;have h8:=ro.len.2;obtain⟨o1,o2⟩:=abR (v:=v) (x:=x) (s:=s) (recv:=recv) (N8:=N8) (draws:=draws) hv hf hb ro hdn;rw[cond_neg (show (!true)=false from rfl),aaY hv hf hb ro hs hl (by omega) hdn,aac hv hf hb ro hs hl (by omega) hdn h5 h6,acY hs hl,VE hs hl];have hlen:(Tq v x s recv N8 draws).2.1.1.1.length<4611686018427387904:=by rw[o2];omega
  have s1:=acs _ _ o1 o1;have s2:=(aak (x:=(Tq v x s recv N8 draws).2.1) (y:=(Tq v x s recv N8 draws).2.1) hlen hlen).2;rw[ZB]at s2;rw[MO rfl]at s1;generalize Tq v x s recv N8 draws=H at s1 s2 ⊢
  obtain⟨H1,H2,H3⟩:=H;simp only[ahk,s1,s2,cond_true,decide_true,ahQ,Xn]
theorem aaQ{n:Int}(h:Ty.ok (.int .u64) n):0<=n/\n<18446744073709551616:=by
 obtain⟨h3,h4⟩:=h;have h1:(IntKind.min .u64)=0:=by decide
 have h2:(IntKind.max .u64)=18446744073709551615:=by decide
 rw[h1]at h3;rw[h2]at h4;omega
theorem WO: ∀x,oks [.ag tV6,.ag tS6,.one .str,.one (.int .u64),.one (.int .u64),.one (.lst .str)] x->O6.run .lim x=some true:=by
 intro x h
 match x with
 |(v,x,s,recv,N8,draws,())=>
  obtain⟨h1,h2,h3,h4,h5,h6,_⟩:=h;exact YI (agw h1) (v_B h1) (afI h2.1.1) (aeP h2.1) h3.2 (XA h3.1) (XA h6.1) (fun d hd=>Oe (XA (h6.2 d hd).1)) (aaQ h4) (aaQ h5)
end Go.AM
end
