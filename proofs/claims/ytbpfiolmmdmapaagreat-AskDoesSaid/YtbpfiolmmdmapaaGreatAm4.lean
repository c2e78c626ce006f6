import Derived.Test.YtbpfiolmmdmapaaGreatAm3
import Derived.Sort.Grow
import Derived.Sort.EncStr
import Derived.Lib.SlicesCompact
import Derived.Lib.RowBridge
import Derived.Shelf.Strings.Repeat

/-! An abstract machine over plain data, shown to be sound for the given program model: what it tells is what the call does. -/
set_option linter.unusedSimpArgs false
set_option linter.unusedVariables false
set_option linter.unusedSectionVars false

open Bool renaming and_eq_true->MO
open Go.IntKind renaming max->MW,min->Nh
open Go.Lib renaming compact->MP,compact_length_le->MZ,repeatL->Ns
open Go.Sort renaming putRow->MQ,ahead->MR,Holds->MV
open Go.Value renaming int->Nl
open List renaming length_map->ML,length_replicate->M_,map_append->Na,map_map->Nb,replicate->Nc,map_congr_left->Nj,length_append->Np,getElem?_map->Nq,mem_map->Nr,map_cons->Nu,map_id->Ny
open Nat renaming eq_of_beq_eq_true->MN,le_of_ble_eq_true->MS,beq->MX,le_refl->Nk,ble->Nv,zero_add->Nw
open Option.some renaming inj->MK
open UInt8 renaming ofNat->Nz
section
namespace Go.AM
variable [Tabs]
open Go.RowKit Go.Lib
structure BK where
 T:TypeId
 e:TypeId
 ws:FuncId
 str:FuncId
 len:FuncId
structure BK.OK(P:Program)(K:BK):Prop where
 e1:(aW P K.ws []).isSome=true
 e2:(aW P K.str []).isSome=true
 e3:(aW P K.len []).isSome=true
 ws: ∀(b:Nat) (v:Value) (bs:List Value) (s:ByteArray) (w:World),sN K.T K.e b v bs w->bs.length+s.size<=140737488355328->
  Calls P K.ws #[.pointer (some ⟨b,0,none⟩),.string s] w fun e w'=>e= .returned (.tuple #[.int .i64 s.size,.nilIface])/\Only b v.ownBlock w w'/\ ∃v',sN K.T K.e b v' (bs++strCells s) w'/\ ∀k,v'.ownBlock=some k->v.ownBlock=some k\/w.heap.size<=k
 str: ∀(b:Nat) (v:Value) (l:List UInt8) (w:World),sN K.T K.e b v (byteCells l) w->
  Calls P K.str #[.pointer (some ⟨b,0,none⟩)] w fun e w'=>e= .returned (.string ⟨l.toArray⟩)/\Only b v.ownBlock w w'/\sN K.T K.e b v (byteCells l) w'
 len: ∀(b:Nat) (v:Value) (bs:List Value) (w:World),sN K.T K.e b v bs w->
  Calls P K.len #[.pointer (some ⟨b,0,none⟩)] w fun e w'=>e= .returned (.int .i64 bs.length)/\w'=w
def GH(n:Nat):Option Unit:=bif Nv n 140737488355328 then some ()else none
def zX(h:Hp)(K:BK):AV->Option (Nat×List Int)
 | .ptr b 0 0 []=>(match h.get b with
  |some (.iZ T e xs)=>bif MX T K.T&&MX e K.e then some (b,xs)else none
  |_=>none)
 |_=>none
def IK(K:BK):iL:=fun f vs h _=>
 bif MX f K.ws then(match vs with
  |[p,.str s]=>(match zX h K p with
   |some x=>some ⟨Unit,(),GH (x.2.length+s.length),fun _=>(.gG [.int .i64 s.length,.nilIface],[(x.1,.iZ K.T K.e (x.2++s))])⟩
   |none=>none)
  |_=>none)
 else bif MX f K.str then(match vs with
  |[p]=>(match zX h K p with|some x=>yG (.str x.2) []|none=>none)
  |_=>none)
 else bif MX f K.len then(match vs with
  |[p]=>(match zX h K p with|some x=>yG (.int .i64 x.2.length) []|none=>none)
  |_=>none)
 else none
theorem wE(s:ByteArray):strCells s=(bytesOf s).map fun n=>Nl .u8 n:=by
 unfold strCells bytesOf;rw[Nb];rfl
theorem sS(l:List UInt8):byteCells l=(l.map fun b=>(b.toNat:Int)).map fun n=>Nl .u8 n:=by
 unfold byteCells;rw[Nb];rfl
theorem FH(l:List UInt8): ∀n∈l.map (fun b=>(b.toNat:Int)),ak .u8 n=true:=by
 intro n hn;obtain⟨b,_,rfl⟩:=Nr.1 hn;have:=b.toNat_lt;have h1:(Nh .u8)=0:=by decide
 have h2:(MW .u8)=255:=by decide
 simp only[ak,h1,h2,MO,decide_eq_true_eq];omega
theorem rE: ∀xs:List Int,(∀n∈xs,ak .u8 n=true)-> ∃l:List UInt8,xs=l.map fun b=>(b.toNat:Int)
 |[],_=>⟨[],rfl⟩
 |n::xs,h=>by
  obtain⟨l,hl⟩:=rE xs fun m hm=>h m (.tail _ hm)
  have:=h n (.head _);have h1:(Nh .u8)=0:=by decide
  have h2:(MW .u8)=255:=by decide
  simp only[ak,h1,h2,MO,decide_eq_true_eq]at this;refine⟨Nz n.toNat::l,?_⟩;rw[hl,Nu];congr 1;rw[UInt8.toNat_ofNat'];omega
section
variable {P:Program} {S0:Base} {w0:World} {C:Cx} {h h':Hp}
theorem vK{f:FuncId}(he:(aW P f []).isSome=true){vs:Array Value}{w:World}{Q:Ending->World->Prop}(hc:Calls P f vs w Q)(cs:List Frame){v:Value}(hQ: ∀e w',Q e w'->e= .returned v):
  ∃w',Q (.returned v) w'/\xk P cs ((callFunc f vs).run P w) v w':=by
 obtain⟨e,w',fr,q,s1,s2,s3⟩:=hc cs;obtain rfl:=hQ _ _ q;obtain⟨g,hg⟩:=fM he [];exact⟨w',q,.inr (.inr ⟨f,vs,w,bG hg vs w,fr,s1,s2,s3⟩)⟩
theorem nS{K:BK}{p:AV}{x:Nat×List Int}(hs:bP h' h)(e:zX h' K p=some x):p= .ptr x.1 0 0 []/\h.get x.1=some (.iZ K.T K.e x.2):=by
 unfold zX at e;split at e
 ·rename_i b;split at e
  ·rename_i T t xs hg;simp only[cond_eq_ite]at e;split at e
   ·rename_i hk;simp only[MO]at hk;have h1:=MN hk.1;have h2:=MN hk.2;subst h1;subst h2;obtain rfl:=MK e;exact⟨rfl,hs _ _ hg⟩
   ·simp at e
  ·simp at e
 ·simp at e
theorem sN.Jc{T e:TypeId}{b:Nat}{v:Value}{bs:List Value}{w:World}(k:sN T e b v bs w):bs.length<=maxLen:=by
 rcases k.row.2 with⟨_,z⟩|⟨g,cap,cur,fz,_,_,_,_,z,z2,_⟩
 ·rw[z];exact Nat.zero_le _
 ·omega
theorem Hg{K:BK}(O:K.OK P):bW P S0 w0 (IK K):=by
 intro f args h' nx o g e hg cs C h I hs hM vs hv;unfold IK at e;simp only[cond_eq_ite]at e;split at e
 ·rename_i hf;have hf:=MN hf;subst hf;split at e
  ·rename_i p s;split at e
   ·rename_i x hx;obtain rfl:=MK e;obtain⟨rfl,hb⟩:=nS hs hx;cases hv with
    |cons hp hv=>
     cases hv with
     |cons h2 hv=>
      cases hv;cases h2 with
      | @str sb _ hsb=>
       have hr:ak .u8=ak .u8:=rfl;have hroom:x.2.length+s.length<=140737488355328:=by
        have hg:GH (x.2.length+s.length)=some g:=hg;unfold GH at hg;simp only[cond_eq_ite]at hg;split at hg
        ·rename_i z;exact MS z
        ·cases hg
       have hsr: ∀n∈s,ak .u8 n=true:=by rw[<-hsb];exact FH _
       have hsz:sb.size=s.length:=by rw[<-hsb];unfold bytesOf;rw[ML];rfl
       obtain⟨_,_,_,_,hxr⟩:=I.obj _ _ hb;obtain⟨en,c,v,k1,k2,k3,k4,k5,k6,k7⟩:=I.zI hb (ys:=x.2++s) (fun n hn=>by
        rcases List.mem_append.1 hn with z|z
        ·exact hxr n z
        ·exact hsr n z)
       cases hp with
       |ptr q1 q2 q3 q4=>
        rw[k1]at q1;obtain rfl:=MK q1;obtain⟨c',z1,z2,z3⟩:=q3 k3.symm;rw[k4]at z1;obtain rfl:=MK z1;subst z2;obtain⟨w',⟨-,ho,v',hv',hn⟩,hl⟩:=vK O.e1 (O.ws c v _ sb C.w k6 (by rw[ML,hsz];exact hroom)) cs (v:= .tuple #[.int .i64 sb.size,.nilIface]) (fun _ _ q=>q.1);have hv':sN K.T K.e c v' ((x.2++s).map fun n=>Nl .u8 n) w':=by rw[Na,<-hsb,<-wE];exact hv'
        obtain⟨le,I'⟩:=k7 w' v' ho hv' hn;refine⟨_,⟨w',C.RO,C.M⟩,hl,I',le,?_,fun z hz=> .inl hz⟩;rw[hsz];refine .gG (.cons (.int ?_) (.cons .nilIface .nil));have h1:(Nh .i64)= -9223372036854775808:=by decide
        have h2:(MW .i64)=9223372036854775807:=by decide
        simp only[ak,h1,h2,MO,decide_eq_true_eq];omega
   ·cases e
  ·cases e
 ·split at e
  ·rename_i hf;have hf:=MN hf;subst hf;split at e
   ·rename_i p;split at e
    ·rename_i x hx;obtain rfl:=MK e;obtain⟨rfl,hb⟩:=nS hs hx;cases hv with
     |cons hp hv=>
      cases hv;obtain⟨en,c,v,k1,k2,k3,k4,k5,k6,k7⟩:=I.zI hb (ys:=x.2) (by
        obtain⟨_,_,_,_,z⟩:=I.obj _ _ hb;exact z)
      cases hp with
      |ptr q1 q2 q3 q4=>
       rw[k1]at q1;obtain rfl:=MK q1;obtain⟨c',z1,z2,z3⟩:=q3 k3.symm;rw[k4]at z1;obtain rfl:=MK z1;subst z2;obtain⟨l,hl0⟩:=rE x.2 k5;have hcells:(x.2.map fun n=>Nl .u8 n)=byteCells l:=by rw[hl0,sS]
       rw[hcells]at k6;obtain⟨w',⟨-,ho,hv'⟩,hl⟩:=vK O.e2 (O.str c v l C.w k6) cs (v:= .string ⟨l.toArray⟩) (fun _ _ q=>q.1);rw[<-hcells]at hv';obtain⟨le,I'⟩:=k7 w' v ho hv' (fun k hk=> .inl hk);refine⟨_,⟨w',C.RO,C.M⟩,hl,I'.congr fun b=> ?_,le,.str ?_,fun z hz=> .inl hz⟩
       ·show Hp.get ((x.1,.iZ K.T K.e x.2)::h) b=Hp.get h b;rw[Hp.aB];split
        ·rename_i z;subst z;exact hb.symm
        ·rfl
       ·rw[hl0];unfold bytesOf;simp
    ·cases e
   ·cases e
  ·split at e
   ·rename_i hf;have hf:=MN hf;subst hf;split at e
    ·rename_i p;split at e
     ·rename_i x hx;obtain rfl:=MK e;obtain⟨rfl,hb⟩:=nS hs hx;cases hv with
      |cons hp hv=>
       cases hv;obtain⟨en,c,v,k1,k2,k3,k4,k5,k6,k7⟩:=I.zI hb (ys:=x.2) (by
        obtain⟨_,_,_,_,z⟩:=I.obj _ _ hb;exact z)
       cases hp with
       |ptr q1 q2 q3 q4=>
        rw[k1]at q1;obtain rfl:=MK q1;obtain⟨c',z1,z2,z3⟩:=q3 k3.symm;rw[k4]at z1;obtain rfl:=MK z1;subst z2;obtain⟨w',⟨-,hw⟩,hl⟩:=vK O.e3 (O.len c v _ C.w k6) cs (v:= .int .i64 ((x.2.map fun n=>Nl .u8 n).length:Int)) (fun _ _ q=>q.1);subst hw;have hll:=k6.Jc;rw[ML]at hl hll;refine⟨_,C,hl,I,.refl C,.int ?_,fun z hz=> .inl hz⟩;have h1:(Nh .i64)= -9223372036854775808:=by decide
        have h2:(MW .i64)=9223372036854775807:=by decide
        simp only[maxLen]at hll;simp only[ak,h1,h2,MO,decide_eq_true_eq];omega
     ·cases e
    ·cases e
   ·cases e
end
end Go.AM
end
section
namespace Go.AM
variable [Tabs]
structure OO(P:Program) where
 o:iL
 ok: ∀S0 w0,bW P S0 w0 o
structure CO(P:Program) where
 c:Callee
 ok:c.OK P
structure SO(P:Program)(f:FuncId) where
 s:Seg
 ok: ∀S0 w0 cs0,bM P S0 w0 cs0 f s
def lI{P:Program}(l:List (CO P)):OO P:=⟨Gu (l.map CO.c),fun _ _=>Ed fun k hk=>by
 obtain⟨x,_,rfl⟩:=Nr.1 hk;exact x.ok⟩
def MG{P:Program}(a b:OO P):OO P:=⟨both a.o b.o,fun S0 w0=>both_ok (a.ok S0 w0) (b.ok S0 w0)⟩
def MI{P:Program}{l:List (FuncId×XK)}(h: ∀x∈l,x.2.OK P x.1):OO P:=⟨exts l,fun _ _=>DJ h⟩
def MF{P:Program}{K:BK}(h:K.OK P):OO P:=⟨IK K,fun _ _=>Hg h⟩
def MH{P:Program}{l:List Proc}(h: ∀k∈l,k.OK P):OO P:=⟨procs l,fun _ _=>A_ h⟩
abbrev Lp(l:List FuncId):FuncId->Bool:=fun f=>l.any (MX f)
theorem Eo{P:Program}{f:FuncId}(aK:List (SO P f))(S0:Base)(w0:World)(cs0:List Frame): ∀s∈aK.map SO.s,bM P S0 w0 cs0 f s:=fun s hs=>by
 obtain⟨y,_,rfl⟩:=Nr.1 hs;exact y.ok S0 w0 cs0
abbrev KQ{P:Program}(f:FuncId)(O:OO P)(l:List FuncId)(e:Spec)(x:List Spec)(aK:List (SO P f))(b:(Known e.dH->Option (Exits x))->Known e.dH->Option (Exits x)):Prop:=KS P O.o (Lp l) e x (aK.map SO.s) b
noncomputable def so{P:Program}{f:FuncId}{O:OO P}{l:List FuncId}{e:Spec}{x:List Spec}{aK:List (SO P f)}{b:(Known e.dH->Option (Exits x))->Known e.dH->Option (Exits x)}(m:Dq)(h:KQ f O l e x aK b)
  (h1:e.ok=true:=by rfl) (h2:x.all Spec.ok=true:=by rfl):SO P f:=
 ⟨⟨e,x,loop m b⟩,fun S0 w0 cs0=>Jk m (O.ok S0 w0) (Eo aK S0 w0 cs0) h1 h2 h⟩
abbrev KT{P:Program}(O:OO P)(l:List FuncId)(c:Callee)(aK:List (SO P c.f)):Prop:=KR P O.o (Lp l) (aK.map SO.s) c
noncomputable def co{P:Program}{O:OO P}{l:List FuncId}{c:Callee}{aK:List (SO P c.f)}(h:KT O l c aK)(h1:(aW P c.f []).isSome=true:=by kernel_rfl)(h2:c.res.pU=true:=by rfl):CO P:=
 ⟨c,KR.ok O.ok h1 h2 (fun S0 w0 cs0=>Eo aK S0 w0 cs0) h⟩
abbrev fs(f:FuncId)(items:List aP)(slots:List (Nat×Sl)):gB:=⟨f,items,slots,none,[],false⟩
def JY:Nat->Nat->Path->Path
 |0,_,a=>a
 |k+1,n,a=>bif Nv n 1 then a else JY k (n/2) ((bif MX (n%2) 1 then Dir.r else Dir.l)::a)
abbrev KP(n:Nat):Path:=JY 100 n []
abbrev aP.q(n:Nat):aP:= .code (KP n)
abbrev aP.z(n:Nat):aP:= .inLoop (KP n)
abbrev aP.v(n:Nat)(l:List Nat):aP:= .inRegion (KP n) l
abbrev Sl.oy(b:Nat):Sl:= .own b (.int .u8)
abbrev Sl.ry:Sl:= .row (.int .u8)
end Go.AM
end
section
namespace Go.AM
variable [Tabs]
open Go.RowKit Go.Sort Go.Proofs
structure SK where
 sort:FuncId
 cmp:FuncId
structure SK.OK(P:Program)(K:SK):Prop where
 e1:(aW P K.sort []).isSome=true
 e2:(aW P K.cmp []).isSome=true
 sort: ∀(blk off cap:Nat) (ss:List (List UInt8)) (w:World),MV encStr w blk off ss.toArray->blk<w.heap.size->ss.length<4611686018427387904->
  Calls P K.sort #[.slice (some ⟨blk,off,none⟩) ss.length cap] w fun e w'=>e= .returned (.tuple #[])/\ ∃n os,w'=grow (MQ encStr (MR w n) blk off (ss.mergeSort fun x y=>decide (x<=y)).toArray) os
 J3: ∀(p:Option Addr) (cap:Nat) (w:World),Calls P K.sort #[.slice p 0 cap] w fun e w'=>e= .returned (.tuple #[])/\w'=w
 cmp: ∀(blk off cap:Nat) (zs:List (List UInt8)) (w:World),MV encStr w blk off zs.toArray->zs.length<=9223372036854775807->zs.length<=cap->
  Calls P K.cmp #[.slice (some ⟨blk,off,none⟩) zs.length cap] w fun e w'=>e= .returned (.slice (some ⟨blk,off,none⟩) (MP zs).length cap)/\ ∃q,w'=MQ encStr (MR w q) blk off (MP zs++Nc (zs.length-(MP zs).length) []).toArray
 cmp0: ∀(p:Option Addr) (cap:Nat) (w:World),Calls P K.cmp #[.slice p 0 cap] w fun e w'=>e= .returned (.slice p 0 cap)/\w'=w
def Jv(l:List Int):List UInt8:=l.map fun n=>Nz n.toNat
def xA(l:List UInt8):List Int:=l.map fun b=>(b.toNat:Int)
theorem Il(l:List UInt8):Jv (xA l)=l:=by
 unfold Jv xA;rw[Nb]
 conv=>rhs;rw[<-Ny l]
 refine Nj fun b _=> ?_
 simp
def Ep(xs:List (List Int)):List (List Int):=((xs.map Jv).mergeSort fun x y=>decide (x<=y)).map xA
def jP(xs:List (List Int)):List (List Int):=(MP (xs.map Jv)).map xA
def Dz(xs:List (List Int)):List (List Int):=jP xs++Nc (xs.length-(jP xs).length) []
theorem qj(xs:List (List Int)):(Ep xs).length=xs.length:=by unfold Ep;simp
theorem oP(xs:List (List Int)):(jP xs).length<=xs.length:=by
 unfold jP;rw[ML];have:=MZ (xs.map Jv);rw[ML]at this;exact this
theorem oQ(xs:List (List Int)):(Dz xs).length=xs.length:=by
 have:=oP xs;unfold Dz;rw[Np,M_];omega
def Eh(n:Nat):Option Unit:=bif Nv n 4611686018427387903 then some ()else none
def zC(h:Hp)(v:AV):Option (Nat×Nat×List (List Int)):=
 match v with
 | .own b ver t=>(match h.row b ver with
  |some (true,u)=>bif MX t.size 1 then(match rD .str u with|some xs=>some (b,ver,xs)|none=>none)else none
  |_=>none)
 |_=>none
def sorts(K:SK):iL:=fun f vs h _=>
 bif MX f K.sort then(match vs with
  |[v]=>(match zC h v with
   |some x=>some ⟨Unit,(),Eh x.2.2.length,fun _=>(.gG [],[(x.1,.cells x.2.1 false [.row .str (Ep x.2.2)])])⟩
   |none=>none)
  |_=>none)
 else bif MX f K.cmp then(match vs with
  |[v]=>(match zC h v with
   |some x=>some ⟨Unit,(),Eh x.2.2.length,fun _=>(.slc x.1 x.2.1 0 none .str 0 (jP x.2.2).length,[(x.1,.cells x.2.1 false [.row .str (Dz x.2.2)])])⟩
   |none=>none)
  |_=>none)
 else none
section
variable {P:Program} {S0:Base} {w0:World} {C:Cx} {h h':Hp}
theorem oH: ∀ {xs:List (List Int)} {pre:List Value},Cat (Rep C .str) xs pre-> ∃ss:List (List UInt8),xs=ss.map xA/\pre=ss.map encStr
 |[],_,h=>⟨[],rfl,h⟩
 |x::xs,_,⟨c1,c2,e,⟨s,h1,h2⟩,h3⟩=>by
  obtain⟨ss,k1,k2⟩:=oH h3;refine⟨s.data.toList::ss,?_,?_⟩
  ·rw[Nu,<-k1,<-h2];rfl
  ·rw[e,h1,k2];rfl
theorem uQ: ∀ss:List (List UInt8),Cat (Rep C .str) (ss.map xA) (ss.map encStr)
 |[]=>rfl
 |s::ss=>⟨[encStr s],ss.map encStr,rfl,⟨⟨s.toArray⟩,rfl,by unfold bytesOf xA;simp⟩,uQ ss⟩
structure Puts(w w':World)(c:Nat)(ss:List (List UInt8)):Prop where
 os:w'.os=w.os
 tape:w'.tape=w.tape
 output:w'.output=w.output
 size:w.heap.size<=w'.heap.size
 block: ∀k,k<w.heap.size->k≠c->w'.heap[k]?=w.heap[k]?
 cell: ∀j (v:Value),(ss.map encStr)[j]?=some v->w'.cell? ⟨c,j,none⟩=some v
 some: ∀j,(w.cell? ⟨c,j,none⟩).isSome=true->(w'.cell? ⟨c,j,none⟩).isSome=true
 IW: ∀j,(w'.cell? ⟨c,j,none⟩).isSome=true->(w.cell? ⟨c,j,none⟩).isSome=true/\w'.frozen? ⟨c,j,none⟩=w.frozen? ⟨c,j,none⟩
theorem Ef{w:World}{c n:Nat}{os:Array Obj}{s0 ss:List (List UInt8)}(hc:c<w.heap.size)(h0:MV encStr w c 0 s0.toArray)(hl:ss.length=s0.length):
  Puts w (grow (MQ encStr (MR w n) c 0 ss.toArray) os) c ss:=by
 have hc':c<(MQ encStr (MR w n) c 0 ss.toArray).heap.size:=by rw[size_putRow];exact hc
 have hcell: ∀j,j<ss.length->(grow (MQ encStr (MR w n) c 0 ss.toArray) os).cell? ⟨c,j,none⟩=some (encStr (ss.toArray[j]!)):=fun j hj=>by
  rw[cell?_grow _ _ _ hc'];have:=cell?_putRow encStr (MR w n) c 0 s0.toArray ss.toArray h0 (by simpa using hl) j (by simpa using hj);simpa using this
 have hoth: ∀j,ss.length<=j->(grow (MQ encStr (MR w n) c 0 ss.toArray) os).cell? ⟨c,j,none⟩=w.cell? ⟨c,j,none⟩:=fun j hj=>by
  rw[cell?_grow _ _ _ hc',cell?_putRow_other _ _ _ _ _ _ (.inr (.inr (by simpa using hj)))];rfl
 have hss: ∀j,(w.cell? ⟨c,j,none⟩).isSome=true ↔ ((grow (MQ encStr (MR w n) c 0 ss.toArray) os).cell? ⟨c,j,none⟩).isSome=true:=fun j=>by
  by_cases hj:j<ss.length
  ·rw[hcell j hj];have:=(h0 j (by simpa using (hl▸hj))).1;rw[Nw]at this;rw[this];simp
  ·rw[hoth j (by omega)]
 refine⟨rfl,rfl,rfl,?_,fun k hk hkc=> ?_,fun j v hj=> ?_,fun j hj=>(hss j).1 hj,fun j hj=>⟨(hss j).2 hj,?_⟩⟩
 ·rw[size_grow,size_putRow];show w.heap.size<=w.heap.size+os.size;omega
 ·rw[heap_grow_old _ _ (by rw[size_putRow];exact hk)];show (w.heap.modify c _)[k]?=_;rw[Array.getElem?_modify,if_neg (Ne.symm hkc)]
 ·rw[Nq]at hj;obtain⟨s,hs,rfl⟩:=Option.map_eq_some_iff.1 hj;have hlt:j<ss.length:=by rw[List.getElem?_eq_some_iff]at hs;exact hs.1
  rw[hcell j hlt];have:ss.toArray[j]! =s:=by
   simp only[List.getElem!_toArray];rw[List.getElem!_eq_getElem?_getD,hs];rfl
  rw[this]
 ·rw[frozen?_grow _ _ _ hc',frozen?_putRow];rfl
theorem sH{v:AV}{x:Nat×Nat×List (List Int)}(e:zC h' v=some x): ∃t,v= .own x.1 x.2.1 t/\t.size=1/\h'.row x.1 x.2.1=some (true,⟨.str,x.2.2⟩):=by
 unfold zC at e;split at e
 ·rename_i b ver t;split at e
  ·rename_i u hu;simp only[cond_eq_ite]at e;split at e
   ·rename_i hz;split at e
    ·rename_i xs hxs;obtain rfl:=MK e;rw[iY hxs]at hu;exact⟨t,rfl,MN hz,hu⟩
    ·simp at e
   ·simp at e
  ·simp at e
 ·simp at e
theorem tX(I:Inv P S0 w0 C h)(hs:bP h' h){b ver:Nat}{xs ys:List (List Int)}(hr:h'.row b ver=some (true,⟨.str,xs⟩))(hl:ys.length=xs.length){w':World}{en:tC}(hM:C.M b=some en)
  (hp: ∀c,en.cb=some c-> ∃ss,ys=ss.map xA/\Puts C.w w' c ss) (h0:en.cb=none->w'=C.w):
  C.Le ⟨w',C.RO,fun x=>if x=b then some en else C.M x⟩/\Inv P S0 w0 ⟨w',C.RO,fun x=>if x=b then some en else C.M x⟩ ((b,.cells ver false [.row .str ys])::h):=by
 obtain⟨ro,en',g1,g2,g3,g4,g5,g6,g7⟩:=I.rowLen hs hr;rw[hM]at g3;cases MK g3;have hro:ro=false:=by simpa using g2
 subst hro;have y5: ∀c j,en.cb=some c->C.RO c j->False:=fun c j hc hr=>by
  obtain⟨v',ps,q,_⟩:=I.w_ b en c j hM hc hr;rw[g1]at q;cases q
 have bel:Keep S0.io w0 w'/\C.w.heap.size<=w'.heap.size/\ ∀k,k<C.w.heap.size->en.cb≠some k->w'.heap[k]?=C.w.heap[k]?:=by
  cases hcb:en.cb with
  |none=>rw[h0 hcb];exact⟨I.below,Nk _,fun _ _ _=>rfl⟩
  |some c=>
   obtain⟨ss,_,p⟩:=hp c hcb;refine⟨⟨p.os.trans I.below.os,p.tape.trans I.below.tape,p.output.trans I.below.output,Nat.le_trans I.below.size p.size,fun i hi hx=> ?_⟩,p.size,fun k hk hne=>p.block k hk fun q=>hne (by rw[q])⟩;refine(p.block i (by have:=I.below.size;omega) fun q=> ?_).trans (I.below.block i hi hx);subst q;rcases (I.loc b en i hM hcb).1 with q|q
   ·exact hx q
   ·omega
 refine I.turn (b:=b) (e:=en) (e':=en) (ao:= .cells ver false [.row .str ys]) (w':=w') hM (Nk _) (fun _=>rfl) (fun _=>rfl) bel.1 bel.2.1 bel.2.2
  (fun c j hc hr=>(y5 c j hc hr).elim) (fun c j hc hj=> ?_) (fun c hc=> .inl hc) (fun c j hc _ hr=>(y5 c j hc hr).elim)
  (fun le=>⟨g4,g5,fun t' xs' hm=> ?_,?_⟩)
 ·obtain⟨ss,_,p⟩:=hp c hc;exact p.some j hj
 ·simp only[List.mem_singleton]at hm;cases hm;exact g6.trans hl.symm
 ·cases hcb:en.cb with
  |none=>
   rw[hcb]at g7;have g7:xs=[]:=g7;have:ys=[]:=List.eq_nil_of_length_eq_zero (by rw[hl,g7];rfl);subst this;exact⟨.str,rfl⟩
  |some c=>
   rw[hcb]at g7;obtain⟨pre,p1,p2,p3⟩:=g7;obtain⟨ss,e,p⟩:=hp c hcb;refine⟨ss.map encStr,PR.lU ?_,fun j v hj=> ?_,fun j hj=> ?_⟩
   ·rw[e];exact uQ ss
   ·have:=p.cell j v hj;simpa using this
   ·obtain⟨z1,z2⟩:=p.IW j hj;show w'.frozen? ⟨c,j,none⟩=false;rw[z2];exact p3 j z1
theorem holds_of{w:World}{c:Nat}{ss:List (List UInt8)}(h1: ∀j (v:Value),(ss.map encStr)[j]?=some v->w.cell? ⟨c,j,none⟩=some v)(h2: ∀j,(w.cell? ⟨c,j,none⟩).isSome=true->w.frozen? ⟨c,j,none⟩=false):MV encStr w c 0 ss.toArray:=fun j hj=>by
 have hj:j<ss.length:=by simpa using hj
 have e:ss.toArray[j]! =ss[j]:=by simp[hj]
 have:=h1 j (encStr ss[j]) (by rw[Nq,List.getElem?_eq_getElem hj];rfl);rw[Nw,e];exact⟨this,h2 j (by rw[this];rfl)⟩
theorem Bd{n:Nat}{g:Unit}(h:Eh n=some g):n<4611686018427387904:=by
 unfold Eh at h;simp only[cond_eq_ite]at h;split at h
 ·rename_i z;have:=MS z;omega
 ·cases h
theorem mV{f:FuncId}(he:(aW P f []).isSome=true){vs:Array Value}{w:World}{Q:Ending->World->Prop}(hc:Calls P f vs w Q)(cs:List Frame){v:Value}(hQ: ∀e w',Q e w'->e= .returned v):
  ∃w',Q (.returned v) w'/\xk P cs ((callFunc f vs).run P w) v w':=by
 obtain⟨e,w',fr,q,s1,s2,s3⟩:=hc cs;obtain rfl:=hQ _ _ q;obtain⟨g,hg⟩:=fM he [];exact⟨w',q,.inr (.inr ⟨f,vs,w,bG hg vs w,fr,s1,s2,s3⟩)⟩
theorem DZ(ss:List (List UInt8)):(ss.map xA).map Jv=ss:=by
 rw[Nb]
 conv=>rhs;rw[<-Ny ss]
 exact Nj fun s _=>Il s
theorem GN{K:SK}(O:K.OK P):bW P S0 w0 (sorts K):=by
 intro f args h' nx o g e hg cs C h I hs hM vs hv;unfold sorts at e;simp only[cond_eq_ite]at e;split at e
 ·rename_i hf;have hf:=MN hf;subst hf;split at e
  ·rename_i v;split at e
   ·rename_i x hx;obtain rfl:=MK e;obtain⟨t,rfl,hz,hr⟩:=sH hx;obtain⟨b,ver,xs⟩:=x;have hlt:=Bd (n:=xs.length) hg;obtain⟨ro,en,g1,g2,g3,g4,g5,g6,g7⟩:=I.rowLen hs hr;cases hv with
    |cons hp hv=>
     cases hv;cases hp with
     |own q1 q2 q3 q4=>
      rw[g3]at q1;obtain rfl:=MK q1;have q3:=q3 g4.symm;have keep: ∀z,(if z=b then some en else C.M z)≠none->C.M z≠none\/z=nx:=fun z hz=>by
       by_cases hq:z=b
       ·subst hq;exact .inl (by rw[g3];simp)
       ·exact .inl (by simpa[hq]using hz)
      unfold dO at q3;cases hcb:en.cb with
      |none=>
       rw[hcb]at q3 g7;obtain⟨q5,rfl⟩:=q3;obtain⟨w',⟨-,hw⟩,hl⟩:=mV O.e1 (O.J3 none 0 C.w) cs (v:= .tuple #[]) (fun _ _ q=>q.1);subst hw;have T:=tX I hs hr (qj xs) (w':=C.w) g3 (fun c hc=>by rw[hcb]at hc;cases hc) (fun _=>rfl);exact⟨_,⟨C.w,C.RO,fun y=>if y=b then some en else C.M y⟩,hl,T.2,T.1,.gG .nil,keep⟩
      |some c=>
       rw[hcb]at q3 g7;obtain⟨cap,rfl,q5,q6⟩:=q3;obtain⟨pre,p1,p2,p3⟩:=g7;obtain⟨ss,rfl,rfl⟩:=oH p1;have hH:MV encStr C.w c 0 ss.toArray:=holds_of (fun j v hj=>by have:=p2 j v hj;simpa using this) p3;have hlen:en.len=ss.length:=by
        have:en.len=(ss.map xA).length:=g6;rw[this,ML]
       have hss:ss.length<4611686018427387904:=by
        have:(ss.map xA).length<4611686018427387904:=hlt;rw[ML]at this;exact this
       obtain⟨w',⟨-,n,os,hw⟩,hl⟩:=mV O.e1 (O.sort c 0 cap ss C.w hH (I.loc b en c g3 hcb).2 hss) cs (v:= .tuple #[]) (fun _ _ q=>q.1);rw[<-hlen]at hl;have T:=tX I hs hr (qj (ss.map xA)) (w':=w') g3 (fun c' hc=>by
        rw[hcb]at hc;obtain rfl:=MK hc;refine⟨_,by unfold Ep;rw[DZ],?_⟩;rw[hw];exact Ef (I.loc b en c g3 hcb).2 hH (by simp)) (fun hc=>by rw[hcb]at hc;cases hc)
       exact⟨_,_,hl,T.2,T.1,.gG .nil,keep⟩
   ·cases e
  ·cases e
 ·split at e
  ·rename_i hf;have hf:=MN hf;subst hf;split at e
   ·rename_i v;split at e
    ·rename_i x hx;obtain rfl:=MK e;obtain⟨t,rfl,hz,hr⟩:=sH hx;obtain⟨b,ver,xs⟩:=x;have hlt:=Bd (n:=xs.length) hg;obtain⟨ro,en,g1,g2,g3,g4,g5,g6,g7⟩:=I.rowLen hs hr;have hcl:=oP xs;have Ld:en.len=xs.length:=g6;cases hv with
     |cons hp hv=>
      cases hv;cases hp with
      |own q1 q2 q3 q4=>
       rw[g3]at q1;obtain rfl:=MK q1;have q3:=q3 g4.symm;have keep: ∀z,(if z=b then some en else C.M z)≠none->C.M z≠none\/z=nx:=fun z hz=>by
        by_cases hq:z=b
        ·subst hq;exact .inl (by rw[g3];simp)
        ·exact .inl (by simpa[hq]using hz)
       unfold dO at q3;cases hcb:en.cb with
       |none=>
        rw[hcb]at q3 g7;obtain⟨q5,rfl⟩:=q3;obtain⟨w',⟨-,hw⟩,hl⟩:=mV O.e2 (O.cmp0 none 0 C.w) cs (v:= .slice none 0 0) (fun _ _ q=>q.1);subst hw;have T:=tX I hs hr (oQ xs) (w':=C.w) g3 (fun c hc=>by rw[hcb]at hc;cases hc) (fun _=>rfl);have hx0:xs.length=0:=by rw[<-Ld,q5]
        refine⟨_,⟨C.w,C.RO,fun y=>if y=b then some en else C.M y⟩,hl,T.2,T.1,.slc (e:=en) (by simp) (by rw[g4];exact Nk _) (fun _=> ?_) ⟨_,_,_,rfl⟩,keep⟩;unfold iW;refine⟨by omega,by show (0:Int)<=((jP xs).length:Int);omega,by show (0:Int)+((jP xs).length:Int)<=(en.len:Int);omega,?_⟩;show match en.cb with|none=>_|some c=>_
        rw[hcb];exact⟨rfl,q5,rfl⟩
       |some c=>
        rw[hcb]at q3 g7;obtain⟨cap,rfl,q5,q6⟩:=q3;obtain⟨pre,p1,p2,p3⟩:=g7;obtain⟨ss,rfl,rfl⟩:=oH p1;have hH:MV encStr C.w c 0 ss.toArray:=holds_of (fun j v hj=>by have:=p2 j v hj;simpa using this) p3;have hlen:en.len=ss.length:=by rw[Ld,ML]
        have hss:ss.length<4611686018427387904:=by
         have:(ss.map xA).length<4611686018427387904:=hlt;rw[ML]at this;exact this
        have hcm:jP (ss.map xA)=(MP ss).map xA:=by unfold jP;rw[DZ]
        have hcn:(jP (ss.map xA)).length=(MP ss).length:=by rw[hcm,ML]
        obtain⟨w',⟨-,n,hw⟩,hl⟩:=mV O.e2 (O.cmp c 0 cap ss C.w hH (by omega) (by omega)) cs (v:= .slice (some ⟨c,0,none⟩) (MP ss).length cap) (fun _ _ q=>q.1);rw[<-hlen]at hl;have hP:Puts C.w w' c (MP ss++Nc (ss.length-(MP ss).length) []):=by
         rw[hw,<-Sort.grow_empty (MQ encStr _ c 0 _)];refine Ef (I.loc b en c g3 hcb).2 hH ?_;have:=MZ ss;rw[Np,M_];omega
        have T:=tX I hs hr (oQ (ss.map xA)) (w':=w') g3 (fun c' hc=>by
         rw[hcb]at hc;obtain rfl:=MK hc;refine⟨_,?_,hP⟩;unfold Dz;rw[hcm,Na,ML,ML,List.map_replicate];rfl) (fun hc=>by rw[hcb]at hc;cases hc)
        refine⟨_,_,hl,T.2,T.1,.slc (e:=en) (by simp) (by rw[g4];exact Nk _) (fun _=> ?_) ⟨_,_,_,rfl⟩,keep⟩;unfold iW;refine⟨by omega,by show (0:Int)<=((jP (ss.map xA)).length:Int);omega,by show (0:Int)+((jP (ss.map xA)).length:Int)<=(en.len:Int);omega,?_⟩;show match en.cb with|none=>_|some c=>_
        rw[hcb];refine⟨⟨c,0,none⟩,cap,?_,fun _=>by simp,?_,fun j hj=> ?_⟩
        ·show _=Value.slice _ ((jP (ss.map xA)).length:Int).toNat cap;rw[hcn];simp
        ·show en.len<=(0:Int).toNat+cap;simpa using q5
        ·have hj:j<cap:=by simpa[Ty.size]using hj
         have:=hP.some j (q6 j (by rw[hz];omega));exact this
    ·cases e
   ·cases e
  ·cases e
end
def ors{P:Program}{K:SK}(h:K.OK P):OO P:=⟨sorts K,fun _ _=>GN h⟩
end Go.AM
end
section
namespace Go.AM
variable [Tabs]
open Go.RowKit Go.Proofs
section
variable {P:Program}
theorem Callee.Gq{k:Callee}(hen:(aW P k.f []).isSome=true)(hok:k.res.pU=true)
  (h: ∀RO w x vs r,bg ⟨w,RO,fun _=>none⟩ (encs k.args x) vs->k.F x=some r->Calls P k.f vs.toArray w fun e w'=> ∃val,e= .returned val/\Below w.heap.size w w'/\ ∀J8,oK ⟨w',J8,fun _=>none⟩ none k.res r val):k.OK P:=by
 refine⟨fun vs w=> ?_,hok,fun RO w x vs r Fj _ hv hF cs=> ?_⟩
 ·obtain⟨g,hg⟩:=fM hen [];exact bG hg vs w
 ·obtain⟨e,w',fr,⟨val,rfl,h1,h2⟩,s1,s2,s3⟩:=h RO w x vs r hv hF cs;exact⟨fr,w',val,none,s1,s2,s3,h1,fun c hc=>by simp at hc,h2 _⟩
def EW(l:List Int):Nat->List Int
 |0=>[]
 |k+1=>l++EW l k
def KW:List Int×Int×Unit->Option (List Int):=fun v=>
 bif decide (0<=v.2.1)&&Nv (v.1.length*v.2.1.toNat) 140737488355328 then some (EW v.1 v.2.1.toNat)else none
theorem uO(s:ByteArray): ∀k,bytesOf ⟨(Ns s.data.toList k).toArray⟩=EW (bytesOf s) k
 |0=>rfl
 |k+1=>by
  have:=uO s k;simp only[bytesOf,Ns,EW,Na]at*;rw[this]
theorem Jt{f:FuncId}(hen:(aW P f []).isSome=true)
  (h: ∀(s:ByteArray) (c:Nat) (w:World),c<=9223372036854775807->s.size*c<=140737488355328->Calls P f #[.string s,.int .i64 c] w fun e w'=>e= .returned (.string ⟨(Ns s.data.toList c).toArray⟩)/\Below w.heap.size w w'):
  Callee.OK P ⟨f,[.one .str,.one (.int .i64)],.one (.sh (.one .str)),KW⟩:=by
 refine Callee.Gq hen rfl fun RO w x vs r hv hF=> ?_
 obtain⟨l,n,⟨⟩⟩:=x;revert hv hF;generalize hl:(l:List Int)=l';generalize hn:(n:Int)=n';clear hl hn l n;revert l' n';intro (l:List Int) (n:Int) hv hF;have hv:bg ⟨w,RO,fun _=>none⟩ [.str l,.int .i64 n] vs:=hv;have hF:(bif decide (0<=n)&&Nv (l.length*n.toNat) 140737488355328 then some (EW l n.toNat)else none)=some r:=hF;cases hv with
 |cons h1 h2=>
  cases h2 with
  |cons h2 h3=>
   cases h3;cases h1 with
   | @str s _ hs=>
    cases h2 with
    |int hr=>
     simp only[cond_eq_ite]at hF;split at hF
     ·rename_i hc;simp only[MO,decide_eq_true_eq]at hc;obtain⟨h0,hc⟩:=hc;have hc:=MS hc;obtain rfl:=MK hF;obtain⟨c,rfl⟩:=Int.eq_ofNat_of_zero_le h0;simp only[ak,MO,decide_eq_true_eq]at hr;have hm:(MW .i64)=9223372036854775807:=by decide
      rw[hm]at hr;have hsz:s.size=l.length:=by rw[<-hs];unfold bytesOf;rw[ML];rfl
      refine(h s c w (by omega) ?_).mono ?_
      ·rw[hsz];exact hc
      ·rintro e w' ⟨rfl,hb⟩
       refine⟨_,rfl,hb,fun J8=> ?_⟩;show VR _ (.str (EW l (Int.toNat c))) _;refine .str ?_;rw[uO,hs];rfl
     ·simp at hF
end
end Go.AM
end
