import Derived.Test.YtbpfiolmmdmapaaGreatPart4

/-! The functions that the laws of this seat reach, as plain functions, and what these answer; no condition. -/
set_option linter.unusedSimpArgs false
set_option linter.unusedVariables false
set_option linter.unusedSectionVars false

open Bool renaming not_eq_true'->ahE,or_true->ahH,and_eq_true->ahI,decide_and->ahL,or_eq_true->ahM,and_self->ahN,not_true->ahO
open Classical renaming not_not->ahF
open Go.IntKind renaming i64->ahA
open Int renaming toNat_natCast->ahG
open List renaming replicate->ahx,length_append->ahy,mem_singleton->ahz,replicate_succ'->ahB,length_cons->ahJ,take_length->ahK,mem_cons->ahP
open Nat renaming mul_le_mul_right->ahC,succ_mul->ahQ
open Option renaming bind_some->ahw,bind->ahD
section
set_option maxRecDepth 100000
namespace Go.AM
theorem ab8{u MS c:List Int}{t1:Int}{J:List (List Int)}{m m1 m2 m3 m4 m6 m7 m8 m9 m10 m11 m12 m13 m14 m15 m16 m17 m18 m19 m20 m21 m22 m23}(h8:J.length<=8)(hc:c.length<=256):
  N9.l0 .lim (u,MS,t1,c,ahA.wrap (128+(c.length:Int)),0,m,m1,m2,m3,m4,J,m6,m7,m8,m9,m10,m11,m12,m13,m14,m15,m16,m17,m18,m19,m20,m21,m22,m23,[(260,u),(516,c)],())=some (u,MS,t1,m,m1,m2,m3,m4,J,m6,m7,m8,m9,m10,m11,m12,m13,m14,m15,m16,m17,m18,m19,m20,m21,m22,m23,Vq u c (holdN J.length c.length),()):=by
 have hw8:ahA.wrap (8-(J.length:Int))=((8-J.length:Nat):Int):=by rw[wrap64 (by omega) (by omega)];omega
 have hw0:ahA.wrap (128+(c.length:Int))=((124+(0+1)*(4+c.length):Nat):Int):=by rw[wrap64 (by omega) (by omega)];omega
 have hN:holdN J.length c.length=min (8-J.length) (1156/(4+c.length)-1):=rfl;have hD:=Nat.div_mul_le_self 1156 (4+c.length);have hD2:=Nat.lt_div_mul_add (a:=1156) (b:=4+c.length) (by omega);have hD4:4<=1156/(4+c.length):=(Nat.le_div_iff_mul_le (by omega)).2 (by omega);have step: ∀j:Nat,j<=8->ahA.wrap (ahA.wrap (((124+(j+1)*(4+c.length):Nat):Int)+4)+(c.length:Int))=((124+(j+1+1)*(4+c.length):Nat):Int):=fun j hj=>by
  have h1:(j+1)*(4+c.length)<=9*260:=Nat.mul_le_mul (by omega) (by omega);have h2:(j+1+1)*(4+c.length)=(j+1)*(4+c.length)+(4+c.length):=ahQ _ _;rw[wrap64 (n:=((124+(j+1)*(4+c.length):Nat):Int)+4) (by omega) (by omega),wrap64 (by omega) (by omega)];omega
 have e:=NU (f:=N9.l0 .lim) (fun j=>(u,MS,t1,c,((124+(j+1)*(4+c.length):Nat):Int),(j:Int),m,m1,m2,m3,m4,J,m6,m7,m8,m9,m10,m11,m12,m13,m14,m15,m16,m17,m18,m19,m20,m21,m22,m23,Vq u c j,())) (n:=holdN J.length c.length) (fun k hk=>by
  have hcap:decide ((Vq u c k).length+([(772,(ahx c.length 0))]:List FF).length<2932031007402)=true:=MK (by unfold Vq;simp;omega);have hb:(((decide (0<=(c.length:Int)))&&(decide ((c.length:Int)<=(c.length:Int))))&&(Nat.blt c.length 70368744177664))=true:=by
   rw[MK (by omega),MK (Int.le_refl _)];exact Nat.ble_eq_true_of_le (by omega)
  have hle:(k+1+1)*(4+c.length)<=1156/(4+c.length)*(4+c.length):=ahC _ (by omega);rw[N9.q0];simp only[N9.b0,MR (show J.length<9223372036854775808 by omega),MR (show c.length<9223372036854775808 by omega),hw8,step k (by omega),MK (show (k:Int)<((8-J.length:Nat):Int) by omega),MK (show ((124+(k+1+1)*(4+c.length):Nat):Int)<=1280 by omega),ahN,ahH,cond_true,ahG,hb,hcap,Qz k (show k<4611686018427387904 by omega)];congr 1;unfold Vq;rw[List.append_assoc,ahB])
 rw[hw0];have e0:N9.l0 .lim (u,MS,t1,c,((124+(0+1)*(4+c.length):Nat):Int),0,m,m1,m2,m3,m4,J,m6,m7,m8,m9,m10,m11,m12,m13,m14,m15,m16,m17,m18,m19,m20,m21,m22,m23,[(260,u),(516,c)],())=_:=e;rw[e0,N9.q0];simp only[N9.b0,MR (show J.length<9223372036854775808 by omega),MR (show c.length<9223372036854775808 by omega),hw8,step _ (U4 _ _),ahH,cond_true];rw[cond_neg];by_cases q:holdN J.length c.length<8-J.length
 ·have hge:(1156/(4+c.length)+1)*(4+c.length)<=(holdN J.length c.length+1+1)*(4+c.length):=ahC _ (by omega);rw[ahQ]at hge;rw[MO (show ¬((124+(holdN J.length c.length+1+1)*(4+c.length):Nat):Int)<=1280 by omega),Bool.and_false]
 ·rw[MO (by omega),Bool.false_and]
theorem ab3{c:List Int}(h:UQ c=true):c.length<=256:=by
 unfold UQ at h;simp only[ahI,decide_eq_true_eq]at h;exact h.1.2
theorem ab7{v:VV}(hv:okV v)(hf:Ri v=true){x:AS}(hx:AOk x)(hj:JOk x.2.1){u MS:List Int}(hu:u.length<=140737488351232)(hn:MS.length<NC){t1:Int}(ht:0<=t1/\t1<18446744073709551616):
  N9.run .lim (v,x,u,MS,t1,())=some ((Ue v x u MS t1).1,(Ue v x u MS t1).2.1,(Ue v x u MS t1).2.2.1,(Ue v x u MS t1).2.2.2,()):=by
 have agd:=hx.j;simp only[N9.run,MR (UN hu),MR hx.j,cond_true];unfold Ue;by_cases h32:u.length=32
 case neg=>rw[cond_pos (by rw[MO (show ¬(u.length:Int)=32 by omega)];rfl),if_pos h32]
 rw[cond_neg (by rw[MK (show (u.length:Int)=32 by omega)];rfl),if_neg (not_not_intro h32)];obtain⟨ky,j,q⟩:=x;cases j with
 |nil=>rfl
 |cons c rest=>
  have hm:UQ c=true:=hj.may c (.head _);have hcl:c.length<=256:=ab3 hm;have h8:(c::rest).length<=8:=hj.few;have hl':(c::rest).length=rest.length+1:=rfl;have hL:=Y2 (u:=u) (c:=c) (n:=holdN (rest.length+1) c.length) (U4 _ _) hu (by omega);have z:(0:Int)<=0/\(0:Int)<18446744073709551616:=by decide
  have hM:=ZQ (v:=v) (p:=Wy u c (holdN (rest.length+1) c.length) t1) (key:=ky.2.1) (MS:=MS) (inner:=[]) hv hf hL.1 ⟨z,z,z,ht⟩ (by show (Vq u c _).length<=_;rw[hL.2];have:=U4 (rest.length+1) c.length;omega) hx.k.a hx.kb.1 hn ⟨by decide,fun f hf=>nomatch hf⟩;have hr0:rd ([]:List Int) (c::rest) 0=c:=rfl;have hcut:cut (c::rest) 1 ((c::rest).length:Int)=rest:=by
   show ((c::rest).take (Int.toNat _)).drop 1=_;rw[ahG,ahK];rfl
  simp only[hr0];rw[cond_neg (MO (show ¬((c::rest).length:Int)=0 by rw[hl'];omega)),MV (show (0:Int)<=0 by omega) (show (0:Int)<((c::rest).length:Int) by rw[hl'];omega),cond_true,MR (show c.length<9223372036854775808 by omega),cond_true,ab8 h8 hcl,ahw];simp only;refine(congrArg (ahD · _) hM).trans ?_;simp only[ahw,hcut];by_cases h0:(QC v (Wy u c (holdN (rest.length+1) c.length) t1) ky.2.1 MS []).2.2=0
  ·rw[cond_neg (by rw[MK h0];rfl),if_pos h0,M_ (show (0:Int)<=1 by omega) (show (1:Int)<=((c::rest).length:Int) by rw[hl'];omega) (Int.le_refl _),cond_true,cond_pos (MK (show rest.length<4398046511104 by omega))]
  ·rw[cond_pos (by rw[MO h0];rfl),if_neg h0]
theorem Xy(x:AS):Pg.run .lim (x,())=some ((x.1,(x.2.1,(([]:List Int),(([]:List Int),(0,x.2.2.2.2.2))))):AS):=rfl
theorem aa2{t:List FF}(h16:t.length<=16)(hb: ∀f∈t,f.2.length<9223372036854775808){m m1 m2 m3 m4 m5 m6 m7 m8 m9 m10 m11 m12 m13 m14 m15 m16 m17 m18 m19 m20 m21 m22 m23 m24 Tz Tc TG RX SY UG UO m32 Ux UZ Vo U0 VW Xh V_ Wh Xi VJ VX VY U5 U6 VK VZ U7 Vp Vx Xl V3 WJ Xj Xw V4 YJ m59 m60 m61 ZJ m64 m65 m66 m67 m68 m69 m70 m71 m72 m73}{J:List (List Int)}(h8:J.length<=8):
  N7.l0 .lim (0,m,m1,m2,m3,m4,m5,m6,m7,m8,m9,m10,m11,m12,m13,m14,m15,m16,m17,m18,m19,m20,m21,m22,m23,m24,Tz,Tc,TG,RX,SY,UG,UO,m32,Ux,UZ,Vo,U0,VW,Xh,V_,Wh,Xi,VJ,VX,VY,U5,U6,VK,VZ,U7,Vp,Vx,Xl,V3,WJ,Xj,Xw,V4,YJ,m59,m60,m61,t,ZJ,m64,m65,m66,m67,m68,m69,m70,m71,m72,m73,J,())=some (m,m1,m2,m3,m4,m5,m6,m7,m8,m9,m10,m11,m12,m13,m14,m15,m16,m17,m18,m19,m20,m21,m22,m23,m24,Tz,Tc,TG,RX,SY,UG,UO,m32,Ux,UZ,Vo,U0,VW,Xh,V_,Wh,Xi,VJ,VX,VY,U5,U6,ZJ,m64,m65,m66,m67,m68,m69,m70,m71,m72,m73,Rt J t,()):=by
 have e:=NU (f:=N7.l0 .lim) (fun j=>((j:Int),m,m1,m2,m3,m4,m5,m6,m7,m8,m9,m10,m11,m12,m13,m14,m15,m16,m17,m18,m19,m20,m21,m22,m23,m24,Tz,Tc,TG,RX,SY,UG,UO,m32,Ux,UZ,Vo,U0,VW,Xh,V_,Wh,Xi,VJ,VX,VY,U5,U6,VK,VZ,U7,Vp,Vx,Xl,V3,WJ,Xj,Xw,V4,YJ,m59,m60,m61,t,ZJ,m64,m65,m66,m67,m68,m69,m70,m71,m72,m73,Rt J (t.take j),())) (n:=t.length) (fun k hk=>by
  have hf:=hb _ (OB (d:=((0:Int),([]:List Int))) (xs:=t) (i:=(k:Int)) (by omega) (by omega));have hle:=U2 (t:=t.take k) h8;rw[N7.q0];simp only[N7.b0,MR (show t.length<9223372036854775808 by omega),MK (show (k:Int)<(t.length:Int) by omega),MV (show (0:Int)<=(k:Int) by omega) (show (k:Int)<(t.length:Int) by omega),cond_true,Sr (Ze hf),ahw,Sr (Zd (l:=Rt J (t.take k)) (s:=(rd ((0:Int),([]:List Int)) t (k:Int)).2) (by omega)),MR (show (Rt J (t.take k)).length<9223372036854775808 by omega),ahH,Qz k (show k<4611686018427387904 by omega)];rw[WC hk];have hcap:decide ((Rt J (t.take k)).length+([(rd ((0:Int),([]:List Int)) t (k:Int)).2]:List (List Int)).length<4398046511104)=true:=MK (by rw[List.length_singleton];omega);have e8:decide (((Rt J (t.take k)).length:Int)<8)=decide ((Rt J (t.take k)).length<8):=decide_eq_decide.2 (by omega);rw[hcap,e8];unfold Xu Yc;generalize Rt J (t.take k)=Q;show (bif _ then _ else _)=_;cases decide ((rd f0 t (k:Int)).1=516)<;>cases UQ (rd f0 t (k:Int)).2<;>cases decide ((rd f0 t (k:Int)).2∈Q)<;>cases decide (Q.length<8)<;>rfl)
 have e0:N7.l0 .lim (0,m,m1,m2,m3,m4,m5,m6,m7,m8,m9,m10,m11,m12,m13,m14,m15,m16,m17,m18,m19,m20,m21,m22,m23,m24,Tz,Tc,TG,RX,SY,UG,UO,m32,Ux,UZ,Vo,U0,VW,Xh,V_,Wh,Xi,VJ,VX,VY,U5,U6,VK,VZ,U7,Vp,Vx,Xl,V3,WJ,Xj,Xw,V4,YJ,m59,m60,m61,t,ZJ,m64,m65,m66,m67,m68,m69,m70,m71,m72,m73,J,())=_:=e;rw[e0,N7.q0,ahK];simp only[N7.b0,MR (show t.length<9223372036854775808 by omega),MO (show ¬(t.length:Int)<(t.length:Int) by omega),cond_true,cond_false]
def Y8(x:AS)(s:List Int):Bool×Bool:=
 if x.2.2.1=[]\/ ¬Xn s=0\/ ¬(O1 s).2.1=4\/ ¬(O1 s).2.2.1=4 then(false,false)else
 match QF (O1 s).fs 1028 with
 |none=>(decide ((Q5 (O1 s).fs 260).2=0)&&decide ((Q5 (O1 s).fs 260).1=x.2.2.1),false)
 |some k=>(decide ((Q5 ((O1 s).fs.take k) 260).2=0)&&decide ((Q5 ((O1 s).fs.take k) 260).1=x.2.2.1),true)
theorem aa4{x:AS}{s:List Int}(hs:Bs s)(hl:s.length<9223372036854775808):Qd.run .lim (x,s,())=some ((Y8 x s).1,(Y8 x s).2,()):=by
 simp only[Qd.run,Yo hs hl,ahw];unfold Y8;by_cases h1:x.2.2.1=[]\/ ¬Xn s=0\/ ¬(O1 s).2.1=4\/ ¬(O1 s).2.2.1=4
 ·rw[if_pos h1,cond_pos (by simp only[ahM,decide_eq_true_eq,ahE,decide_eq_false_iff_not];rcases h1 with h|h|h|h<;>simp[h])]
 rw[if_neg h1];simp only[not_or,ahF]at h1;obtain⟨a1,a2,a3,a4⟩:=h1;rw[cond_neg (by rw[MO a1,MK a2,MK a3,MK a4];rfl)];have w:=was hs a2;have hfew:=w.few;generalize O1 s=p at hfew ⊢
 have hfs:p.2.2.2.2.2.2.2.2.2.2.2.2.2.length<=16:=hfew;have acH:=Rh p.fs 1028;have e:Nk.run .lim (p.2.2.2.2.2.2.2.2.2.2.2.2.2,1028,())=some (findF p.fs 1028):=Vb 1028 (by omega) (by omega);rw[e,ahw,MR (show (findF p.fs 1028).length<9223372036854775808 by omega),cond_true];rcases Ru p.fs 1028 with⟨q1,q2⟩|⟨k,r,q1,q2,hkl,hkd⟩
 ·have o:=Zg (l:=p.fs) 260 (by omega);have o:O7.run .lim (p.2.2.2.2.2.2.2.2.2.2.2.2.2,260,())=_:=o;rw[q1,q2,cond_neg (show decide ((([]:List Int).length:Int)>0)=false from rfl),o,ahw];rfl
 ·have hkl':k<p.2.2.2.2.2.2.2.2.2.2.2.2.2.length:=hkl;have hc:cut p.2.2.2.2.2.2.2.2.2.2.2.2.2 0 (k:Int)=p.fs.take k:=QB rfl;have o:=Zg (l:=p.fs.take k) 260 (by rw[List.length_take];omega);have hlen:((((k:Int)::r).length:Nat):Int)>0:=by simp only[ahJ];omega
  rw[q1,q2,cond_pos (MK hlen),MV (show (0:Int)<=0 by omega) hlen,cond_true,
   show rd 0 ((k:Int)::r) 0=(k:Int)from rfl,M_ (show (0:Int)<=0 by omega) (show (0:Int)<=(k:Int) by omega) (show (k:Int)<=(p.2.2.2.2.2.2.2.2.2.2.2.2.2.length:Int) by omega),cond_true,hc,o,ahw]
  have hsm:wB ((((k:Int)::r).length:Nat):Int)=true:=MR (by rw[<-q2];omega);simp only[MK hlen,hsm,cond_true]
theorem aa1{v:VV}(hv:okV v)(hf:Ri v=true)(hvb:vB v){x:AS}(hx:AOk x)(h8:x.2.1.length<=8){s:List Int}(hs:Bs s)(hl:s.length<9223372036854775808)(t4:Int):
  N7.run .lim (v,x,s,t4,())=some ((U3 v x s t4).1,(U3 v x s t4).2,()):=by
 simp only[N7.run,aa4 hs hl,ahw];unfold U3 Y8;by_cases h1:x.2.2.1=[]\/ ¬Xn s=0\/ ¬(O1 s).2.1=4\/ ¬(O1 s).2.2.1=4
 ·rw[if_pos h1,if_pos h1];rfl
 rw[if_neg h1,if_neg h1];have ho:=(aaQ hv hf hvb hs hl (key:=x.1.2.2) hx.k.b hx.kb.2).2;cases hq:QF (O1 s).fs 1028 with
 |none=>
  simp only;by_cases h2:(Q5 (O1 s).fs 260).2=0/\(Q5 (O1 s).fs 260).1=x.2.2.1
  ·rw[if_pos h2,MK h2.1,MK h2.2];rfl
  ·rw[if_neg h2];have:(decide ((Q5 (O1 s).fs 260).2=0)&&decide ((Q5 (O1 s).fs 260).1=x.2.2.1))=false:=by rw[<-ahL];exact MO h2
   rw[this];rfl
 |some k=>
  simp only;by_cases h2:(Q5 ((O1 s).fs.take k) 260).2=0/\(Q5 ((O1 s).fs.take k) 260).1=x.2.2.1
  case neg=>
   rw[if_neg h2];have:(decide ((Q5 ((O1 s).fs.take k) 260).2=0)&&decide ((Q5 ((O1 s).fs.take k) 260).1=x.2.2.1))=false:=by rw[<-ahL];exact MO h2
   rw[this];rfl
  rw[if_pos h2,MK h2.1,MK h2.2,cond_neg (show (!(true&&true))=false from rfl),cond_neg (show (!true)=false from rfl),ho,ahw];simp only;by_cases h3: ¬(Qu v s x.1.2.2).2=0\/ ¬(Qu v s x.1.2.2).1.1.orig=x.2.2.2.2.1\/(Qu v s x.1.2.2).1.1.2.2.2.1>15
  ·rw[if_pos h3,cond_pos (by simp only[ahM,decide_eq_true_eq,ahE,decide_eq_false_iff_not];rcases h3 with h|h|h;exact .inl (.inl h);exact .inl (.inr h);exact .inr h)]
  rw[if_neg h3];simp only[not_or,ahF]at h3;obtain⟨b1,b2,b3⟩:=h3;obtain⟨i1,i2⟩:=Y9 hf hvb b1;have b2:(Qu v s x.1.2.2).1.1.2.2.2.2.2.2.2.2.2.2.1=x.2.2.2.2.1:=b2;rw[cond_neg (by rw[MK b1,MK b2,MO b3];rfl),Xy,ahw];by_cases h4:(Qu v s x.1.2.2).1.1.2.2.2.1=0
  ·rw[if_pos h4,cond_pos (MK h4)]
  rw[if_neg h4,cond_neg (MO h4),aa3,ahw,cond_pos (MK (show x.2.1.length<4398046511104 by omega)),
   aa2 i1 (fun f hf=>by have:=(i2 f hf).l1;omega) h8]
  rfl
end Go.AM
end
section
set_option maxRecDepth 100000
namespace Go.AM
abbrev Ub:List Int:=ahx 32 107
abbrev X3:List Int:=ahx 16 107
abbrev UY:List Int:=ahx 104 0
abbrev Zy:VV:=(false,[])
theorem aax:okV Zy:=⟨by decide,fun k hk=>nomatch hk⟩
theorem X7:Bs Ub:=aa0 (by decide)
theorem aaw:Bs UY:=aa0 (by decide)
abbrev bwX:AS:=((15,(Ub,Ub)),([UY],([],([],(0,(0,(0,(0,0))))))))
theorem ac2:NH.l0 .lim ([],0,())=some (Ub,()):=by
 have e:=NU (f:=NH.l0 .lim) (fun j=>(ahx j (107:Int),(j:Int),())) (n:=32) (fun k hk=>by
  rw[NH.q0];have hl: ∀x:Int,decide ((ahx k x).length+[x].length<=maxStr)=true:=fun x=>MK (by unfold maxStr;simp;omega)
  simp only[NH.b0,MK (show (k:Int)<32 by omega),cond_true,hl,Qz k (by omega)];rw[ahB])
 refine(show NH.l0 .lim ([],0,())=NH.l0 .lim (ahx 32 (107:Int),((32:Nat):Int),())from e).trans ?_;rw[NH.q0];rfl
theorem ab2{v w:VV}{p:PK}{key MS sealed:List Int}(hd:XO p=true)(hff:findF p.fs 1028=[])(hf: ∀f∈p.fs,FOk f)(h16:p.fs.length+1<=16)(hl:(Nl p.fs).length+40<=1232)(hn:MS.length=16)(hnb:Bs MS)
  (hs:PW v key [ZF p++Nl p.fs,MS] []=(w,sealed,0)) (hsl:sealed.length=16) (hsb:Bs sealed):QC v p key MS []=(w,ZF p++Nl (p.fs++[(1028,Ql MS sealed)]),0):=by
 have hp:Ry sealed.length=0:=by rw[hsl];rfl
 have hal:(Ql MS sealed).length=36:=by rw[Vr hn,hp,hsl]
 have hG:FOk (1028,Ql MS sealed):=⟨by show (0:Int)<=1028;decide,by show (1028:Int)<65536;decide,by show 12<=(Ql MS sealed).length;omega,by show (Ql MS sealed).length%4=0;omega,by show (Ql MS sealed).length<65532;omega,abE hnb hsb⟩;have w1:Xc p=0:=by unfold Xc;rw[if_pos hd];exact XL hf (by omega) (by omega)
 have w2:VF p=ZF p++Nl p.fs:=by unfold VF;rw[if_pos w1]
 have ha:QA v key MS (ZF p++Nl p.fs) []=(w,(1028,Ql MS sealed),0):=by
  unfold QA;rw[if_pos hn,if_neg (show ¬(ZF p++Nl p.fs).length>1280 by rw[ahy,XP];omega),if_pos (show QZ []=0 from rfl)];have h:QN []=[]:=rfl;rw[h,hs,if_pos rfl]
 have he:Nl (p.fs++[(1028,Ql MS sealed)])=Nl p.fs++U1 (1028,Ql MS sealed):=by simp[Nl]
 have hfl:(Nl (p.fs++[(1028,Ql MS sealed)])).length=(Nl p.fs).length+40:=by rw[he,ahy,Sv];show _+(4+(Ql MS sealed).length)=_;omega
 have w3:Xc (PK.cut p (p.fs++[(1028,Ql MS sealed)]))=0:=by
  unfold Xc;rw[if_pos (show XO (PK.cut p (p.fs++[(1028,Ql MS sealed)]))=true from hd)];refine XL (l:=p.fs++[(1028,Ql MS sealed)]) (fun f hq=> ?_) (by simp;omega) (by omega);rcases List.mem_append.1 hq with hq|hq
  ·exact hf f hq
  ·rw[ahz.1 hq];exact hG
 have w4:VF (PK.cut p (p.fs++[(1028,Ql MS sealed)]))=ZF p++Nl (p.fs++[(1028,Ql MS sealed)]):=by unfold VF;rw[if_pos w3];rfl
 unfold QC;rw[hff,if_neg (by decide),if_pos w1,w2,ha,if_pos rfl,if_pos w3,w4]
abbrev bwP:PK:=Wy Ub UY 7 5
noncomputable abbrev bwA:List Int:=ZF bwP++Nl bwP.fs
noncomputable abbrev bwS:List Int:=WY Ub [bwA,X3] []
theorem abL:PW Zy Ub [bwA,X3] []=(Zy,bwS,0):=by
 show (Zy,Tn Ub [bwA,X3] [])=_;unfold Tn;rw[if_pos (show SN Ub [bwA,X3]=0 from rfl),if_neg (show ¬([]:List Int).length>65536 by decide)]
theorem ac1: ∀f∈bwP.fs,FOk f:=fun f hf=>by
 have hf:f∈[(260,Ub),(516,UY)]++ahx 7 ((772:Int),ahx UY.length (0:Int)):=hf;simp only[List.cons_append,List.nil_append,ahP,List.mem_replicate]at hf;rcases hf with rfl|rfl|⟨_,rfl⟩
 ·exact⟨by decide,by decide,by decide,by decide,by decide,X7⟩
 ·exact⟨by decide,by decide,by decide,by decide,by decide,aaw⟩
 ·exact⟨by decide,by decide,by decide,by decide,by decide,aaw⟩
theorem Y4:(Nl bwP.fs).length=900:=by decide+kernel
noncomputable abbrev bwT:List Int:=ZF bwP++Nl (bwP.fs++[(1028,Ql X3 bwS)])
theorem abK:QC Zy bwP Ub X3 []=(Zy,bwT,0):=
 ab2 (by decide) (by decide+kernel) ac1 (by decide) (by rw[Y4];decide) (by decide) (aa0 (by decide)) abL (VD Ub [bwA,X3] []) (Zm _ _ _)
theorem Y5:bwT.length=988:=by
 have hsl:bwS.length=16:=VD Ub [bwA,X3] [];have hp:Ry bwS.length=0:=by rw[hsl];rfl
 have hal:(Ql X3 bwS).length=36:=by rw[Vr (by decide),hp,hsl]
 have he:Nl (bwP.fs++[(1028,Ql X3 bwS)])=Nl bwP.fs++U1 (1028,Ql X3 bwS):=by simp[Nl]
 rw[ahy,XP,he,ahy,Y4,Sv];show 48+(900+(4+(Ql X3 bwS).length))=_;omega
theorem aay(e:List UInt8):(Lib.compact [e]).length=1:=rfl
theorem aaf(c:List Int):PZ.run .lim ([c],())=some false:=by
 have s1:PZ.l0 .lim ([c],1,0,[c],[],())=PZ.l0 .lim ([c],1,1,[c],[c],()):=by rw[PZ.q0];rfl
 have s2:PZ.l0 .lim ([c],1,1,[c],[c],())=some ([c],[c],()):=by rw[PZ.q0];rfl
 have hs:Ep [c]=[xA (Jv c)]:=by unfold Ep;rw[List.map_cons,List.map_nil,List.mergeSort_singleton];rfl
 have hc:(jP (Ep [c])).length=1:=by rw[hs];unfold jP;rw[List.length_map];exact aay _
 simp only[PZ.run];rw[cond_pos (show wB (([c]:List (List Int)).length:Int)=true from rfl)];show (ahD (PZ.l0 .lim ([c],1,0,[c],[],())) _)=_;rw[s1,s2];simp only[ahw,hc];rw[hs];rfl
theorem ab1:PD.run .lim ([UY],())=some 0:=by
 have hm:TB.run .lim (UY,())=some false:=by
  simp only[TB.run,aaM (s:=UY) (by decide),ahw];decide
 have s1:PD.l0 .lim ([UY],1,0,[UY],(true,18,()),())=PD.l0 .lim ([UY],1,1,[UY],(true,18,()),()):=by
  rw[PD.q0];have hr:rd ([]:List Int) [UY] 0=UY:=rfl;simp only[PD.b0,MK (show (0:Int)<1 by decide),cond_true,hr,hm,ahw,cond_false];rfl
 have s2:PD.l0 .lim ([UY],1,1,[UY],(true,18,()),())=some (.inr ([UY],(true,18,()),())):=by rw[PD.q0];rfl
 have s3:PD.l1 .lim ((true,18,()),(true,12,()),(true,24,()),())=some (0,()):=by rw[PD.q1];rfl
 simp only[PD.run,abe,ahw];rw[cond_pos (show wB (([UY]:List (List Int)).length:Int)=true from rfl)];show (ahD (PD.l0 .lim ([UY],1,0,[UY],(true,18,()),())) _)=_;rw[s1,s2];simp only[ahw,aaf,Bool.not_false,s3]
theorem Z8:Qp.run .lim ((15,(Ub,Ub)),[UY],())=some (bwX,0,()):=by
 have hk:=abM (k:=(15,(Ub,Ub))) ⟨by decide,by decide⟩;have hfk:ZE (15,(Ub,Ub))=true:=by decide
 rw[hfk]at hk;have clo:MW.run .lim ([UY],())=some [UY]:=TD (by decide);have s1:Qp.l0 .lim ((true,13,()),(true,19,()),15,Ub,Ub,[UY],0,[],[],[],[],0,0,0,0,0,())=some (0,15,Ub,Ub,[UY],0,[],[],[],[],0,0,0,0,0,()):=by
  rw[Qp.q0];simp only[Qp.b0,cond_true,ab1,ahw];rfl
 simp only[Qp.run,hk,abe,ahw];rw[cond_pos (show wB (([UY]:List (List Int)).length:Int)=true from rfl)];show (ahD (Qp.l0 .lim ((true,13,()),(true,19,()),15,Ub,Ub,[UY],0,[],[],[],[],0,0,0,0,0,())) _)=_;rw[s1];simp only[ahw,decide_true,ahO,cond_false,clo]
theorem ac3:AOk bwX:=⟨⟨by decide,by decide⟩,⟨X7,X7⟩,by decide,fun s hs=>by rw[ahz.1 hs];decide,fun s hs=>by rw[ahz.1 hs];exact aaw,by decide⟩
theorem adB:JOk [UY]:=⟨by decide,fun s hs=>by rw[ahz.1 hs];decide,by simp⟩
noncomputable abbrev bwY:AS:=((15,(Ub,Ub)),([],(Ub,(bwT,(5,(1,(0,(0,0))))))))
theorem ac4:AOk bwY:=⟨⟨by decide,by decide⟩,⟨X7,X7⟩,by decide,fun s hs=>(by cases hs),fun s hs=>(by cases hs),by decide⟩
theorem abI:Ue Zy bwX Ub X3 5=(Zy,bwY,bwT,0):=by
 unfold Ue;rw[if_neg (not_not_intro (by decide))];show (if(QC Zy bwP Ub X3 []).2.2=0 then _ else _)=_;have e:Wy Ub UY (holdN (([]:List (List Int)).length+1) UY.length) 5=bwP:=rfl;simp only[e,abK];rfl
theorem abJ:Ue Zy bwY Ub X3 6=(Zy,bwY,[],19):=by
 unfold Ue;rw[if_neg (not_not_intro (by decide))]
theorem abH:NH.run .lim ()=some true:=by
 have a1:=YB (v:=Zy) aax rfl ac3 adB (u:=Ub) (MS:=X3) (by decide) (by decide) 5;have a2:=YB (v:=Zy) aax rfl ac4 ⟨by decide,fun s hs=>(by cases hs),.nil⟩ (u:=Ub) (MS:=X3) (by decide) (by decide) 6;rw[abI]at a1;rw[abJ]at a2;have hc:cut Ub 0 16=X3:=by decide
 have hcb:sV 0 16 (Ub.length:Int)=true:=by decide
 have hb:Nat.blt 104 70368744177664=true:=rfl;simp only[NH.run,ac2,ahw,hb,cond_true,Z8,hcb,hc,a1,a2];have h5:wB ((bwT.length:Nat):Int)=true:=by rw[Y5];decide
 rw[h5,Y5];decide
end Go.AM
end
section
set_option maxRecDepth 100000
namespace Go.AM
theorem abP{x:AS}(h:aaB x=true):ZE x.1=true/\JOk x.2.1:=by
 unfold aaB at h;simp only[ahI,decide_eq_true_eq]at h;exact⟨h.1.1,abZ.1 h.1.2⟩
abbrev tyV:Ty:= .pair .bool (.lst (.pair .str (.pair (.lst .str) (.pair .str .str))))
abbrev tyA:Ty:= .pair (.pair (.int .i64) (.pair .str .str)) (.pair (.lst .str) (.pair .str (.pair .str (.pair (.int .u64) (.pair (.int .u64) (.pair (.int .u64) (.pair (.int .u64) (.int .u64))))))))
theorem adY{x:AS}(h:Ty.ok tyA x):AOk x:=by
 obtain⟨⟨_,h1,h2⟩,h3,h4,_⟩:=h;exact⟨⟨UN h1.1,UN h2.1⟩,⟨h1.2,h2.2⟩,UN h3.1,fun s hs=>UN (h3.2 s hs).1,fun s hs=>(h3.2 s hs).2,UN h4.1⟩
end Go.AM
end
section
set_option maxRecDepth 100000
namespace Go.AM
theorem Zx{v:VV}(hv:okV v){key MS ahead:List Int}{inner:List FF}(hk:key.length<NC)(hkb:Bs key)(hn:MS.length<NC)(ha:ahead.length<NC):okV (QA v key MS ahead inner).1:=by
 have hfl:=SC (l:=inner);have T:Wv key [ahead,MS] (QN inner):=⟨hk,hkb,by simp[NC],fun t ht=>by
  simp only[ahP,List.not_mem_nil,or_false]at ht;rcases ht with rfl|rfl
  ·exact ha
  ·exact hn,PL (by omega)⟩
 have h:=aaS hv T;unfold QA
 repeat' split
 all_goals first|exact hv|exact h
theorem ZK{v:VV}(hv:okV v){p:PK}{key MS:List Int}{inner:List FF}(hk:key.length<NC)(hkb:Bs key)(hn:MS.length<NC):okV (QC v p key MS inner).1:=by
 have hwl:=X0 p;have h:=Zx hv (inner:=inner) hk hkb hn (PL (show (VF p).length<9223372036854775808 by omega));unfold QC
 repeat' split
 all_goals first|exact hv|exact h
theorem abD{v:VV}(hv:okV v){x:AS}(hx:AOk x){u MS:List Int}(hn:MS.length<NC)(t1:Int):okV (Ue v x u MS t1).1/\(Ue v x u MS t1).2.1.2.1.length<9223372036854775808:=by
 have hj:=hx.j;unfold Ue;split
 ·exact⟨hv,hj⟩
 split
 ·exact⟨hv,hj⟩
 ·rename_i c rest hc;rw[hc]at hj;have hr:rest.length<9223372036854775808:=by simp only[ahJ]at hj;omega
  split
  ·exact⟨ZK hv hx.k.a hx.kb.1 hn,hr⟩
  ·exact⟨hv,by rw[hc];exact hj⟩
theorem aaF{v:VV}{x:AS}{s:List Int}(hs:Bs s)(h8:x.2.1.length<=8)(t4:Int):(U3 v x s t4).1.2.1.length<9223372036854775808/\(U3 v x s t4).2.2.2.2.1.fs.length<9223372036854775808:=by
 have a:x.2.1.length<9223372036854775808:=by omega
 have z:(([]:List FF)).length<9223372036854775808:=by decide
 have hn:=(ab5 (v:=v) (key:=x.1.2.2) hs).x;have hfl:=U2 (t:=(Qu v s x.1.2.2).1.2.2) h8;unfold U3;split
 ·exact⟨a,z⟩
 split
 ·split
  ·exact⟨a,z⟩
  ·exact⟨a,z⟩
 ·split
  ·split
   ·exact⟨a,z⟩
   ·split
    ·exact⟨a,hn⟩
    ·exact⟨by show (Rt _ _).length<_;omega,hn⟩
  ·exact⟨a,z⟩
theorem ZB{v:VV}(hv:okV v)(hvb:vB v){x:AS}(hx:AOk x){u MS s:List Int}(hu:u.length<=140737488351232)(hn:MS.length<NC)(hs:Bs s)(hl:s.length<9223372036854775808){t:Int}(ht:0<=t/\t<18446744073709551616):Pm.run .lim (v,x,u,MS,s,t,())=some true:=by
 obtain⟨r,er,hr⟩:=abR hv hx hl;simp only[Pm.run,er,ahw,abH];cases r with
 |false=>rfl
 |true=>
  obtain⟨hf,hfx,_⟩:=hr rfl;obtain⟨hk,hj⟩:=abP hfx;have h8:=hj.few;obtain⟨o1,o2⟩:=abD (u:=u) hv hx hn t;obtain⟨o3,o4⟩:=aaF (v:=v) (x:=x) hs h8 t;have sv:=aa6 _ _ o1 o1;rw[MK rfl]at sv;have s1:=TS o2;have s2:=TS o3;have s3:=Yk o4;have s4:=TS (x:=((x.1,(x.2.1,(([]:List Int),(([]:List Int),(0,x.2.2.2.2.2))))):AS)) hx.j;simp only[ahO,cond_false,YB hv hf hx hj hu hn t,ab7 hv hf hx hj hu hn ht,abU hv hf hvb hx h8 hs hl t,aa1 hv hf hvb hx h8 hs hl t,X9,Xy,ahw,sv,s1,s2,s3,s4,cond_true,decide_true,ahN]
theorem acw{n:Int}(h:Ty.ok (.int .u64) n):0<=n/\n<18446744073709551616:=by
 obtain⟨h3,h4⟩:=h;have h1:(IntKind.min .u64)=0:=by decide
 have h2:(IntKind.max .u64)=18446744073709551615:=by decide
 rw[h1]at h3;rw[h2]at h4;omega
theorem YC: ∀x,oks [.ag tyV,.ag tyA,.one .str,.one .str,.one .str,.one (.int .u64)] x->Pm.run .lim x=some true:=by
 intro x h
 match x with
 |(v,x,u,MS,s,t,())=>
  obtain⟨h1,h2,h3,h4,h5,h6,_⟩:=h;exact ZB (afp h1) (v_B h1) (adY h2) h3.1 (PL (UN h4.1)) h5.2 (UN h5.1) (acw h6)
end Go.AM
end
