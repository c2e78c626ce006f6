import Derived.Test.YtojkjnphgamoeaaGreatDoorAm3
import Derived.Laws.LoneSync

/-! An abstract machine over plain data, shown to be sound for the given program model: what it tells is what the call does. -/
set_option linter.unusedSimpArgs false
set_option linter.unusedVariables false
set_option linter.unusedSectionVars false

open Array renaming getElem?_eq_getElem->MZ
open Bool renaming and_eq_true->MX
open Go.Extern.Atomic renaming storeT->Nq,update->Nr,loadT->Ns,casT->Nu
open Go.IntKind renaming max->Nc,min->Nh
open Go.Value renaming int->Nj
open Go.World renaming cell?_setCells_out->M_
open List renaming length_map->Na,mem_map->Nk,map_map->Nl
open Nat renaming eq_of_beq_eq_true->MW,beq->Nb,add_zero->Np
open Option.some renaming inj->MV
section
namespace Go.AM
variable [Tabs]
open Go.RowKit
inductive XK where
 |Gg (m:Mark)
 |Gh (m:Addr->Mark)
 |load (k:IntKind)|store|cas (k:IntKind)|add (k:IntKind)
def XK.ext:XK->Array Value->Sem Value
 | .Gg m=>fun _=>do mark m;pure Extern.Race.none_
 | .Gh m=>Extern.Race.marked m
 | .load k=>Ns (.int k)
 | .store=>Nq
 | .cas k=>Nu (.int k)
 | .add k=>Nr (Op.intArith .add) k true
def XK.OK(P:Program)(f:FuncId)(x:XK):Prop:=
 ∃fn,P.funcs[f]?=some fn/\(fn.name== "runtime.NumGoroutine")=false/\fn.body.isNone=true/\Extern.findNext fn=none/\Extern.find fn=some x.ext
def vC(h:Hp)(k:IntKind):AV->Option (Bool×List AV×Int)
 | .ptr b v o path=>(match h.cells b v with
  |some (w,ps)=>(match f_ ps o path 1 with
   |some [.int k' n]=>bif decide (k'=k)then some (w,ps,n)else none
   |_=>none)
  |none=>none)
 |_=>none
def wF(v:AV)(u:h_):Option Hg:=some ⟨Unit,(),some (),fun _=>(v,u)⟩
def setInt(h:Hp)(k:IntKind)(a:AV)(y:Int)(res:AV):Option Hg:=
 match a,vC h k a with
 | .ptr b v o path,some (true,ps,_)=>(match gq ps o path [.int k y] 1 with
  |some l=>wF res [(b,.cells v false l)]
  |none=>none)
 |_,_=>none
def XK.lI(h:Hp):XK->List AV->Option Hg
 | .Gg _,[]=>wF (.iF []) []
 | .Gh _,[.ptr _ _ _ _]=>wF (.iF []) []
 | .load k,[a]=>(match vC h k a with|some x=>wF (.int k x.2.2) []|none=>none)
 | .store,[a,.int k y]=>setInt h k a y (.iF [])
 | .cas k,[a,.int k1 x,.int k2 y]=>bif decide (k1=k)&&decide (k2=k)then(match vC h k a with
  |some z=>setInt h k a (bif decide (z.2.2=x)then y else z.2.2) (.bool (decide (z.2.2=x)))
  |none=>none)else none
 | .add k,[a,.int k1 y]=>bif decide (k1=k)then(match vC h k a with
  |some z=>setInt h k a (k.wrap (z.2.2+y)) (.int k (k.wrap (z.2.2+y)))
  |none=>none)else none
 |_,_=>none
def exts:List (FuncId×XK)->iO
 |[],_,_,_,_=>none
 |x::r,f,vs,h,nx=>bif Nb x.1 f then x.2.lI h vs else exts r f vs h nx
section
variable {P:Program} {S0:Base} {w0:World} {C:Cx} {h h':Hp}
theorem lF(I:Inv P S0 w0 C h)(hs:bQ h' h){k:IntKind}{a:AV}{v:Value}{x:Bool×List AV×Int}(e:vC h' k a=some x)(hv:VR C a v):
  ∃b ver o path c,a= .ptr b ver o path/\v= .pointer (some ⟨c,o+aG path,none⟩)/\h'.cells b ver=some (x.1,x.2.1)/\C.w.cell? ⟨c,o+aG path,none⟩=some (.int k x.2.2)/\C.w.frozen? ⟨c,o+aG path,none⟩=false/\aj k x.2.2=true/\
   ∀y,aj k y=true-> ∀l,x.1=true->gq x.2.1 o path [.int k y] 1=some l->
    ∃C',C'.w=C.w.setCell ⟨c,o+aG path,none⟩ (.int k y)/\C.Le C'/\Inv P S0 w0 C' ((b,.cells ver false l)::h)/\ ∀z,C'.M z≠none->C.M z≠none:=by
 unfold vC at e;split at e
 ·rename_i b ver o path;split at e
  ·rename_i w ps hc;split at e
   ·rename_i k' n hl;simp only[cond_eq_ite]at e;split at e
    ·rename_i hk;have hk:k'=k:=by simpa using hk
     subst hk;obtain rfl:=MV e;obtain⟨ro,en,g1,g2,g3,g4,g5,g6,g7⟩:=I.block hs hc;cases hv with
     |ptr k1 k2 k3 k4=>
      rw[g3]at k1;obtain rfl:=MV k1;obtain⟨c,q1,q2,q3⟩:=k3 g4.symm;rw[q1]at g7;obtain⟨pre,p1,p2,p3⟩:=g7;obtain⟨s1,s2⟩:=p1.f_ g6 hl q3;have s2:=s2 (by decide);have hcell:(pre.drop (o+aG path)).take 1=[.int k' n]/\aj k' n=true:=by
       generalize (pre.drop (o+aG path)).take 1=cs at s1;cases s1 with
       |sc h1 _ _ h4=>cases h4;cases h1 with|int hr=>exact⟨rfl,hr⟩
      have hget:pre[o+aG path]?=some (.int k' n):=by
       have:=congrArg (fun l=>l[0]?) hcell.1;simpa using this
      have hcl:C.w.cell? ⟨c,o+aG path,none⟩=some (.int k' n):=by
       have:=p2 _ _ hget;simpa using this
      subst q2;refine⟨b,ver,o,path,c,rfl,rfl,hc,hcl,p3 _ (by rw[hcl];rfl),hcell.2,fun y hy l hw hp=> ?_⟩;have hw:w=true:=hw;subst hw;have hro:ro=false:=by cases ro<;>simp_all
      subst hro;have pu:PR C [.int k' y] [.int k' y]:= .sc (.int hy) rfl rfl .nil;obtain⟨s3,s4⟩:=p1.gq g6 hp q3 pu rfl;have hex: ∀j,j<1->(C.w.cell? ⟨c,(o+aG path)+j,none⟩).isSome=true:=fun j hj=>by
       have:j=0:=by omega
       subst this;rw[Np,hcl];rfl
      have Am: ∀j,C.RO c j->False:=fun j hj=>by
       obtain⟨v',ps',r1,_⟩:=I.yw _ _ _ _ g3 q1 hj;rw[g1]at r1;simp at r1
      have loc:=I.loc _ _ _ g3 q1;have T:=I.turn (b:=b) (e:=en) (e':=en) (ao:= .cells ver false l) (w':=C.w.setCells c (o+aG path) [.int k' y]) g3 (Nat.le_refl _) (fun _=>rfl) (fun _=>rfl)
       (Keep.setCells loc.1 _ _ I.below) (by rw[size_setCells];omega)
       (fun k _ hk=>fC _ _ _ _ (fun q=>hk (by rw[q];exact q1)))
       (fun c' j hc' hr=>by rw[q1]at hc';obtain rfl:=MV hc';exact(Am j hr).elim)
       (fun c' j hc' hr=>by
        rw[q1]at hc';obtain rfl:=MV hc';by_cases hin:j=o+aG path
        ·subst hin;have:=World.cell?_setCells_in c [.int k' y] (o+aG path) C.w hex 0 (Nat.lt_succ_self 0);rw[Np]at this;rw[this];rfl
        ·rw[M_ c _ _ _ _ (fun _ _=>by show j<o+aG path\/o+aG path+1<=j;omega)];exact hr)
       (fun c' hc'=> .inl hc')
       (fun c' j hc' _ hr=>by rw[q1]at hc';obtain rfl:=MV hc';exact(Am j hr).elim)
       (fun le=>by
        refine⟨g4,g5,jJ g6 hp,?_⟩;rw[q1];refine⟨_,s3.mono le,rW p2 (ds:=[.int k' y]) (by show o+aG path+1<=_;omega),fun j hj=> ?_⟩;rw[World.frozen?_setCells];refine p3 j ?_;by_cases hin:j=o+aG path
        ·subst hin;rw[hcl];rfl
        ·have hj:((C.w.setCells c (o+aG path) [.int k' y]).cell? ⟨c,j,none⟩).isSome=true:=hj
         rwa [M_ c _ _ _ _ (fun _ _=>by show j<o+aG path\/o+aG path+1<=j;omega)]at hj)
      exact⟨_,rfl,T.1,T.2,fun y hy=>by
       by_cases hyb:y=b
       ·subst hyb;rw[g3];simp
       ·simpa[hyb]using hy⟩
    ·simp at e
   ·simp at e
  ·simp at e
 ·simp at e
theorem zo{w:World}{a:Addr}{v:Value}(hc:w.cell? a=some v):w.setCell a v=w:=by
 have hb:=hc;unfold World.cell? at hb;split at hb
 ·rename_i c e fr hg;split at hb
  ·cases hb
  ·rename_i hs;have hs:a.spot.isSome=false:=by simpa using hs
   unfold World.setCell;obtain⟨heap,tape,drawn,os,output⟩:=w;congr 1;apply Array.ext
   ·simp
   ·intro i h1 h2;rw[Array.getElem_modify];split
    ·rename_i hi;subst hi;have:heap[a.block]= .cells c e fr:=by rw[MZ h2]at hg;exact MV hg
     rw[this];simp only[hs,Bool.false_eq_true,if_false];congr 1;apply Array.ext
     ·simp
     ·intro j h3 h4;rw[Array.getElem_setIfInBounds h4];split
      ·rename_i hj;subst hj;rw[MZ h4]at hb;exact(MV hb).symm
      ·rfl
    ·rfl
 ·cases hb
theorem zk{k:IntKind}{x y:Int}{w:World}:(Op.intArith .add k x y).run P w= .ok (.int k (k.wrap (x+y))) w:=rfl
theorem IZ{f:FuncId}{x:XK}(K:x.OK P f){args:List AV}{o:Hg}{g:o.γ}{nx:Nat}(e:x.lI h' args=some o)(hg:o.x=some g)(cs:List Frame)(I:Inv P S0 w0 C h)(hs:bQ h' h)(hM:C.M nx=none){vs:List Value}(hv:aY C args vs):
  Does P S0 w0 cs C h nx ((callFunc f vs.toArray).run P C.w) (o.enc g):=by
 obtain⟨fn,hf,hname,hb,hn,he⟩:=K
 -- a number in place of a number
 have put: ∀ {k:IntKind} {a:AV} {y:Int} {res:AV} {v r:Value},aj k y=true->setInt h' k a y res=some o->VR C a v->(∀C',C.Le C'->VR C' res r)->
   (∀ad u,C.w.cell? ad=some u->C.w.frozen? ad=false->v= .pointer (some ad)->(∀x,vC h' k a=some x->u= .int k x.2.2)->(callFunc f vs.toArray).run P C.w= .ok (.value r) (C.w.setCell ad (.int k y)))->Does P S0 w0 cs C h nx ((callFunc f vs.toArray).run P C.w) (o.enc g):=by
  intro k a y res v r hy e hva hres hrun;unfold setInt at e;split at e
  ·rename_i b ver oo path ps n hi;split at e
   ·rename_i l hl;obtain rfl:=MV e;obtain⟨b',ru,o',path',c,e1,e2,e3,e4,e5,e6,e7⟩:=lF I hs hi hva;cases e1;obtain⟨C',c1,c2,c3,c4⟩:=e7 y hy l rfl hl;refine⟨r,C',.inl ?_,c3,c2,hres C' c2,fun z hz=> .inl (c4 z hz)⟩;rw[c1];exact hrun _ _ e4 e5 e2 (fun x hx=>by rw[hi]at hx;obtain rfl:=MV hx;rfl)
   ·simp at e
  ·simp at e
 cases x with
 |Gg m=>
  cases hv with
  |nil=>
   obtain rfl:=MV e;exact⟨.tuple #[],C,.inl (run_call_mark0 hf hname hb hn m he C.w),I,.refl C,.iF .nil,fun z hz=> .inl hz⟩
  |cons h1 h2=>simp[XK.lI]at e
 |Gh m=>
  cases hv with
  |nil=>simp[XK.lI]at e
  |cons h1 h2=>
   cases h2 with
   |cons=>simp[XK.lI]at e
   |nil=>
    rename_i a v;cases a with
    |ptr b ver oo path=>
     obtain rfl:=MV e;cases h1 with
     |ptr _ _ _ k4=>
      obtain⟨ad,rfl⟩:=k4;exact⟨.tuple #[],C,.inl (run_call_marked hf hname hb hn m he ad C.w),I,.refl C,.iF .nil,fun z hz=> .inl hz⟩
    |_=>simp[XK.lI]at e
 |load k=>
  cases hv with
  |nil=>simp[XK.lI]at e
  |cons h1 h2=>
   cases h2 with
   |cons=>simp[XK.lI]at e
   |nil=>
    simp only[XK.lI]at e;split at e
    ·rename_i z hi;obtain rfl:=MV e;obtain⟨b',ru,o',path',c,e1,e2,e3,e4,e5,e6,_⟩:=lF I hs hi h1;subst e2;exact⟨_,C,.inl (run_call_load hf hname hb hn k he e4),I,.refl C,.int e6,fun z hz=> .inl hz⟩
    ·simp at e
 |store=>
  cases hv with
  |nil=>simp[XK.lI]at e
  |cons h1 h2=>
   cases h2 with
   |nil=>simp[XK.lI]at e
   |cons h2 h3=>
    cases h3 with
    |cons=>simp only[XK.lI]at e;simp at e
    |nil=>
     rename_i a v y u;cases y with
     |int k y=>
      cases h2 with
      |int hy=>
       refine put (r:= .tuple #[]) hy e h1 (fun _ _=> .iF .nil) fun ad u hc hz ha _=> ?_
       subst ha;exact run_call_store hf hname hb hn he hc hz
     |_=>simp[XK.lI]at e
 |cas k=>
  cases hv with
  |nil=>simp[XK.lI]at e
  |cons h1 h2=>
   cases h2 with
   |nil=>simp[XK.lI]at e
   |cons h2 h3=>
    cases h3 with
    |nil=>simp only[XK.lI]at e;simp at e
    |cons h3 h4=>
     cases h4 with
     |cons=>simp only[XK.lI]at e;simp at e
     |nil=>
      rename_i a v x u y u2;cases x with
      |int k1 x=>
       cases y with
       |int k2 y=>
        simp only[XK.lI]at e;rw[cond_eq_ite]at e;split at e
        ·rename_i hk;simp only[MX,decide_eq_true_eq]at hk;obtain⟨rfl,rfl⟩:=hk;split at e
         ·rename_i z hi;obtain⟨_,_,_,_,_,_,_,_,_,_,hr,_⟩:=lF I hs hi h1;cases h2 with
          |int hx=>
           cases h3 with
           |int hy=>
            by_cases hq:z.2.2=x
            ·subst hq;have hd:decide (z.2.2=z.2.2)=true:=by simp
             rw[hd]at e;refine put (r:= .bool true) hy e h1 (fun _ _=> .bool) fun ad u hc hz ha hu=> ?_
             subst ha;have:=hu _ hi;subst this;exact run_call_cas_hit hf hname hb hn _ he hc hz
            ·have hd:decide (z.2.2=x)=false:=by simp[hq]
             rw[hd]at e;refine put (r:= .bool false) hr e h1 (fun _ _=> .bool) fun ad u hc hz ha hu=> ?_
             subst ha;have:=hu _ hi;subst this;rw[zo hc];exact run_call_cas_miss hf hname hb hn _ he hc hz hq
         ·simp at e
        ·simp at e
       |_=>simp[XK.lI]at e
      |_=>simp[XK.lI]at e
 |add k=>
  cases hv with
  |nil=>simp[XK.lI]at e
  |cons h1 h2=>
   cases h2 with
   |nil=>simp[XK.lI]at e
   |cons h2 h3=>
    cases h3 with
    |cons=>simp only[XK.lI]at e;simp at e
    |nil=>
     rename_i a v y u;cases y with
     |int k1 y=>
      simp only[XK.lI]at e;rw[cond_eq_ite]at e;split at e
      ·rename_i hk;have hk:k1=k:=by simpa using hk
       subst hk;split at e
       ·rename_i z hi;cases h2 with
        |int hy=>
         refine put (r:= .int k1 (k1.wrap (z.2.2+y))) (wrap_in k1 _) e h1 (fun _ _=> .int (wrap_in k1 _)) fun ad u hc hz ha hu=> ?_
         subst ha;have:=hu _ hi;subst this;exact run_call_add hf hname hb hn _ he hc hz zk
       ·simp at e
      ·simp at e
     |_=>simp[XK.lI]at e
theorem DI: ∀ {l:List (FuncId×XK)},(∀x∈l,x.2.OK P x.1)->bW P S0 w0 (exts l)
 |[],_=>fun f args h' nx o g e=>by simp[exts]at e
 |x::l,K=>fun f args h' nx o g e hg cs C h I hs hM vs hv=>by
  simp only[exts,cond_eq_ite]at e;split at e
  ·rename_i hf;have:=MW hf;subst this;exact IZ (K x (.head _)) e hg cs I hs hM hv
  ·exact DI (fun y hy=>K y (.tail _ hy)) f args h' nx o g e hg cs C h I hs hM vs hv
end
end Go.AM
end
section
namespace Go.AM
variable [Tabs]
open Go.RowKit Go.Lib
structure BK where
 T:TypeId
 e:TypeId
 ws:FuncId
 str:FuncId
 len:FuncId
structure BK.OK(P:Program)(K:BK):Prop where
 e1:(aS P K.ws []).isSome=true
 e2:(aS P K.str []).isSome=true
 e3:(aS P K.len []).isSome=true
 ws: ∀(b:Nat) (v:Value) (bs:List Value) (s:ByteArray) (w:World),sH K.T K.e b v bs w->bs.length+s.size<=140737488355328->
  Calls P K.ws #[.pointer (some ⟨b,0,none⟩),.string s] w fun e w'=>e= .returned (.tuple #[.int .i64 s.size,.nilIface])/\Only b v.ownBlock w w'/\ ∃v',sH K.T K.e b v' (bs++strCells s) w'/\ ∀k,v'.ownBlock=some k->v.ownBlock=some k\/w.heap.size<=k
 str: ∀(b:Nat) (v:Value) (l:List UInt8) (w:World),sH K.T K.e b v (byteCells l) w->
  Calls P K.str #[.pointer (some ⟨b,0,none⟩)] w fun e w'=>e= .returned (.string ⟨l.toArray⟩)/\Only b v.ownBlock w w'/\sH K.T K.e b v (byteCells l) w'
 len: ∀(b:Nat) (v:Value) (bs:List Value) (w:World),sH K.T K.e b v bs w->
  Calls P K.len #[.pointer (some ⟨b,0,none⟩)] w fun e w'=>e= .returned (.int .i64 bs.length)/\w'=w
def GH(n:Nat):Option Unit:=bif Nat.ble n 140737488355328 then some ()else none
def zV(h:Hp)(K:BK):AV->Option (Nat×List Int)
 | .ptr b 0 0 []=>(match h.get b with
  |some (.iY T e xs)=>bif Nb T K.T&&Nb e K.e then some (b,xs)else none
  |_=>none)
 |_=>none
def IW(K:BK):iO:=fun f vs h _=>
 bif Nb f K.ws then(match vs with
  |[p,.str s]=>(match zV h K p with
   |some x=>some ⟨Unit,(),GH (x.2.length+s.length),fun _=>(.iF [.int .i64 s.length,.nilIface],[(x.1,.iY K.T K.e (x.2++s))])⟩
   |none=>none)
  |_=>none)
 else bif Nb f K.str then(match vs with
  |[p]=>(match zV h K p with|some x=>wF (.str x.2) []|none=>none)
  |_=>none)
 else bif Nb f K.len then(match vs with
  |[p]=>(match zV h K p with|some x=>wF (.int .i64 x.2.length) []|none=>none)
  |_=>none)
 else none
theorem wz(s:ByteArray):strCells s=(bytesOf s).map fun n=>Nj .u8 n:=by
 unfold strCells bytesOf;rw[Nl];rfl
theorem sO(l:List UInt8):byteCells l=(l.map fun b=>(b.toNat:Int)).map fun n=>Nj .u8 n:=by
 unfold byteCells;rw[Nl];rfl
theorem FD(l:List UInt8): ∀n∈l.map (fun b=>(b.toNat:Int)),aj .u8 n=true:=by
 intro n hn;obtain⟨b,_,rfl⟩:=Nk.1 hn;have:=b.toNat_lt;have h1:(Nh .u8)=0:=by decide
 have h2:(Nc .u8)=255:=by decide
 simp only[aj,h1,h2,MX,decide_eq_true_eq];omega
theorem rD: ∀xs:List Int,(∀n∈xs,aj .u8 n=true)-> ∃l:List UInt8,xs=l.map fun b=>(b.toNat:Int)
 |[],_=>⟨[],rfl⟩
 |n::xs,h=>by
  obtain⟨l,hl⟩:=rD xs fun m hm=>h m (.tail _ hm)
  have:=h n (.head _);have h1:(Nh .u8)=0:=by decide
  have h2:(Nc .u8)=255:=by decide
  simp only[aj,h1,h2,MX,decide_eq_true_eq]at this;refine⟨UInt8.ofNat n.toNat::l,?_⟩;rw[hl,List.map_cons];congr 1;rw[UInt8.toNat_ofNat'];omega
section
variable {P:Program} {S0:Base} {w0:World} {C:Cx} {h h':Hp}
theorem pJ{f:FuncId}(he:(aS P f []).isSome=true){vs:Array Value}{w:World}{Q:Ending->World->Prop}(hc:Calls P f vs w Q)(cs:List Frame){v:Value}(hQ: ∀e w',Q e w'->e= .returned v):
  ∃w',Q (.returned v) w'/\zN P cs ((callFunc f vs).run P w) v w':=by
 obtain⟨e,w',fr,q,s1,s2,s3⟩:=hc cs;obtain rfl:=hQ _ _ q;obtain⟨g,hg⟩:=fM he [];exact⟨w',q,.inr (.inr ⟨f,vs,w,bG hg vs w,fr,s1,s2,s3⟩)⟩
theorem nU{K:BK}{p:AV}{x:Nat×List Int}(hs:bQ h' h)(e:zV h' K p=some x):p= .ptr x.1 0 0 []/\h.get x.1=some (.iY K.T K.e x.2):=by
 unfold zV at e;split at e
 ·rename_i b;split at e
  ·rename_i T t xs hg;simp only[cond_eq_ite]at e;split at e
   ·rename_i hk;simp only[MX]at hk;have h1:=MW hk.1;have h2:=MW hk.2;subst h1;subst h2;obtain rfl:=MV e;exact⟨rfl,hs _ _ hg⟩
   ·simp at e
  ·simp at e
 ·simp at e
theorem sH.Jg{T e:TypeId}{b:Nat}{v:Value}{bs:List Value}{w:World}(k:sH T e b v bs w):bs.length<=maxLen:=by
 rcases k.row.2 with⟨_,z⟩|⟨g,cap,cur,fz,_,_,_,_,z,z2,_⟩
 ·rw[z];exact Nat.zero_le _
 ·omega
theorem Ho{K:BK}(O:K.OK P):bW P S0 w0 (IW K):=by
 intro f args h' nx o g e hg cs C h I hs hM vs hv;unfold IW at e;simp only[cond_eq_ite]at e;split at e
 ·rename_i hf;have hf:=MW hf;subst hf;split at e
  ·rename_i p s;split at e
   ·rename_i x hx;obtain rfl:=MV e;obtain⟨rfl,hb⟩:=nU hs hx;cases hv with
    |cons hp hv=>
     cases hv with
     |cons h2 hv=>
      cases hv;cases h2 with
      | @str sb _ hsb=>
       have hr:aj .u8=aj .u8:=rfl;have hroom:x.2.length+s.length<=140737488355328:=by
        have hg:GH (x.2.length+s.length)=some g:=hg;unfold GH at hg;simp only[cond_eq_ite]at hg;split at hg
        ·rename_i z;exact Nat.le_of_ble_eq_true z
        ·cases hg
       have hsr: ∀n∈s,aj .u8 n=true:=by rw[<-hsb];exact FD _
       have hsz:sb.size=s.length:=by rw[<-hsb];unfold bytesOf;rw[Na];rfl
       obtain⟨_,_,_,_,hxr⟩:=I.obj _ _ hb;obtain⟨en,c,v,k1,k2,k3,k4,k5,k6,k7⟩:=I.zF hb (ys:=x.2++s) (fun n hn=>by
        rcases List.mem_append.1 hn with z|z
        ·exact hxr n z
        ·exact hsr n z)
       cases hp with
       |ptr q1 q2 q3 q4=>
        rw[k1]at q1;obtain rfl:=MV q1;obtain⟨c',z1,z2,z3⟩:=q3 k3.symm;rw[k4]at z1;obtain rfl:=MV z1;subst z2;obtain⟨w',⟨-,ho,v',hv',hn⟩,hl⟩:=pJ O.e1 (O.ws c v _ sb C.w k6 (by rw[Na,hsz];exact hroom)) cs (v:= .tuple #[.int .i64 sb.size,.nilIface]) (fun _ _ q=>q.1);have hv':sH K.T K.e c v' ((x.2++s).map fun n=>Nj .u8 n) w':=by rw[List.map_append,<-hsb,<-wz];exact hv'
        obtain⟨le,I'⟩:=k7 w' v' ho hv' hn;refine⟨_,⟨w',C.RO,C.M⟩,hl,I',le,?_,fun z hz=> .inl hz⟩;rw[hsz];refine .iF (.cons (.int ?_) (.cons .nilIface .nil));have h1:(Nh .i64)= -9223372036854775808:=by decide
        have h2:(Nc .i64)=9223372036854775807:=by decide
        simp only[aj,h1,h2,MX,decide_eq_true_eq];omega
   ·cases e
  ·cases e
 ·split at e
  ·rename_i hf;have hf:=MW hf;subst hf;split at e
   ·rename_i p;split at e
    ·rename_i x hx;obtain rfl:=MV e;obtain⟨rfl,hb⟩:=nU hs hx;cases hv with
     |cons hp hv=>
      cases hv;obtain⟨en,c,v,k1,k2,k3,k4,k5,k6,k7⟩:=I.zF hb (ys:=x.2) (by
        obtain⟨_,_,_,_,z⟩:=I.obj _ _ hb;exact z)
      cases hp with
      |ptr q1 q2 q3 q4=>
       rw[k1]at q1;obtain rfl:=MV q1;obtain⟨c',z1,z2,z3⟩:=q3 k3.symm;rw[k4]at z1;obtain rfl:=MV z1;subst z2;obtain⟨l,hl0⟩:=rD x.2 k5;have hcells:(x.2.map fun n=>Nj .u8 n)=byteCells l:=by rw[hl0,sO]
       rw[hcells]at k6;obtain⟨w',⟨-,ho,hv'⟩,hl⟩:=pJ O.e2 (O.str c v l C.w k6) cs (v:= .string ⟨l.toArray⟩) (fun _ _ q=>q.1);rw[<-hcells]at hv';obtain⟨le,I'⟩:=k7 w' v ho hv' (fun k hk=> .inl hk);refine⟨_,⟨w',C.RO,C.M⟩,hl,I'.congr fun b=> ?_,le,.str ?_,fun z hz=> .inl hz⟩
       ·show Hp.get ((x.1,.iY K.T K.e x.2)::h) b=Hp.get h b;rw[Hp.aB];split
        ·rename_i z;subst z;exact hb.symm
        ·rfl
       ·rw[hl0];unfold bytesOf;simp
    ·cases e
   ·cases e
  ·split at e
   ·rename_i hf;have hf:=MW hf;subst hf;split at e
    ·rename_i p;split at e
     ·rename_i x hx;obtain rfl:=MV e;obtain⟨rfl,hb⟩:=nU hs hx;cases hv with
      |cons hp hv=>
       cases hv;obtain⟨en,c,v,k1,k2,k3,k4,k5,k6,k7⟩:=I.zF hb (ys:=x.2) (by
        obtain⟨_,_,_,_,z⟩:=I.obj _ _ hb;exact z)
       cases hp with
       |ptr q1 q2 q3 q4=>
        rw[k1]at q1;obtain rfl:=MV q1;obtain⟨c',z1,z2,z3⟩:=q3 k3.symm;rw[k4]at z1;obtain rfl:=MV z1;subst z2;obtain⟨w',⟨-,hw⟩,hl⟩:=pJ O.e3 (O.len c v _ C.w k6) cs (v:= .int .i64 ((x.2.map fun n=>Nj .u8 n).length:Int)) (fun _ _ q=>q.1);subst hw;have hll:=k6.Jg;rw[Na]at hl hll;refine⟨_,C,hl,I,.refl C,.int ?_,fun z hz=> .inl hz⟩;have h1:(Nh .i64)= -9223372036854775808:=by decide
        have h2:(Nc .i64)=9223372036854775807:=by decide
        simp only[maxLen]at hll;simp only[aj,h1,h2,MX,decide_eq_true_eq];omega
     ·cases e
    ·cases e
   ·cases e
end
end Go.AM
end
section
namespace Go.AM
variable [Tabs]
structure OO(P:Program) where
 o:iO
 ok: ∀S0 w0,bW P S0 w0 o
structure CO(P:Program) where
 c:Callee
 ok:c.OK P
structure SO(P:Program)(f:FuncId) where
 s:Seg
 ok: ∀S0 w0 cs0,bM P S0 w0 cs0 f s
def lI{P:Program}(l:List (CO P)):OO P:=⟨Gu (l.map CO.c),fun _ _=>Ea fun k hk=>by
 obtain⟨x,_,rfl⟩:=Nk.1 hk;exact x.ok⟩
def MO{P:Program}(a b:OO P):OO P:=⟨both a.o b.o,fun S0 w0=>both_ok (a.ok S0 w0) (b.ok S0 w0)⟩
def MR{P:Program}{l:List (FuncId×XK)}(h: ∀x∈l,x.2.OK P x.1):OO P:=⟨exts l,fun _ _=>DI h⟩
def MN{P:Program}{K:BK}(h:K.OK P):OO P:=⟨IW K,fun _ _=>Ho h⟩
def MP{P:Program}{l:List Proc}(h: ∀k∈l,k.OK P):OO P:=⟨procs l,fun _ _=>AZ h⟩
abbrev LH(l:List FuncId):FuncId->Bool:=fun f=>l.any (Nb f)
theorem Eh{P:Program}{f:FuncId}(aK:List (SO P f))(S0:Base)(w0:World)(cs0:List Frame): ∀s∈aK.map SO.s,bM P S0 w0 cs0 f s:=fun s hs=>by
 obtain⟨y,_,rfl⟩:=Nk.1 hs;exact y.ok S0 w0 cs0
abbrev KQ{P:Program}(f:FuncId)(O:OO P)(l:List FuncId)(e:Spec)(x:List Spec)(aK:List (SO P f))(b:(Known e.dH->Option (Exits x))->Known e.dH->Option (Exits x)):Prop:=KS P O.o (LH l) e x (aK.map SO.s) b
noncomputable def so{P:Program}{f:FuncId}{O:OO P}{l:List FuncId}{e:Spec}{x:List Spec}{aK:List (SO P f)}{b:(Known e.dH->Option (Exits x))->Known e.dH->Option (Exits x)}(m:Dq)(h:KQ f O l e x aK b)
  (h1:e.ok=true:=by rfl) (h2:x.all Spec.ok=true:=by rfl):SO P f:=
 ⟨⟨e,x,loop m b⟩,fun S0 w0 cs0=>Jp m (O.ok S0 w0) (Eh aK S0 w0 cs0) h1 h2 h⟩
abbrev KT{P:Program}(O:OO P)(l:List FuncId)(c:Callee)(aK:List (SO P c.f)):Prop:=KR P O.o (LH l) (aK.map SO.s) c
noncomputable def co{P:Program}{O:OO P}{l:List FuncId}{c:Callee}{aK:List (SO P c.f)}(h:KT O l c aK)(h1:(aS P c.f []).isSome=true:=by kernel_rfl)(h2:c.res.nG=true:=by rfl):CO P:=
 ⟨c,KR.ok O.ok h1 h2 (fun S0 w0 cs0=>Eh aK S0 w0 cs0) h⟩
abbrev fs(f:FuncId)(items:List aP)(slots:List (Nat×Sl)):gG:=⟨f,items,slots,none,[],false⟩
def J6:Nat->Nat->Path->Path
 |0,_,a=>a
 |k+1,n,a=>bif Nat.ble n 1 then a else J6 k (n/2) ((bif Nb (n%2) 1 then Dir.r else Dir.l)::a)
abbrev La(n:Nat):Path:=J6 100 n []
abbrev aP.q(n:Nat):aP:= .code (La n)
abbrev aP.z(n:Nat):aP:= .inLoop (La n)
abbrev aP.v(n:Nat)(l:List Nat):aP:= .inRegion (La n) l
abbrev Sl.oy(b:Nat):Sl:= .own b (.int .u8)
abbrev Sl.ry:Sl:= .row (.int .u8)
end Go.AM
end
section
namespace Go.AM
variable [Tabs]
open Go.RowKit
structure UK where
 f:FuncId
 el:TypeId
 off:Nat
 k:Int
abbrev HY:Ty:= .pair (.int .i64) .str
structure UK.OK(P:Program)(K:UK):Prop where
 e:(aS P K.f []).isSome=true
 r:aj .i64 K.k=true
 c: ∀(b:Nat) (s:ByteArray) (w:World),w.cell? ⟨b,K.off,none⟩=some (.string s)->
  Calls P K.f #[.pointer (some ⟨b,0,none⟩)] w fun e w'=>e= .returned (.slice (some ⟨w.heap.size,0,none⟩) 1 1)/\w'=w.alloc (.cells #[.int .i64 K.k,.string s] K.el)
def Lj(K:UK):iO:=fun f vs h nx=>
 bif Nb f K.f then(match vs with
  |[.ptr b v 0 []]=>(match h.cells b v with
   |some (_,ps)=>(match f_ ps K.off [] 1 with
    |some [.str u]=>wF (.own nx 0 HY) [(nx,.cells 0 false [.row HY [(K.k,(u:List Int))]])]
    |_=>none)
   |none=>none)
  |_=>none)
 else none
section
variable {P:Program} {S0:Base} {w0:World} {C:Cx} {h h':Hp}
theorem Js{K:UK}(O:K.OK P):bW P S0 w0 (Lj K):=by
 intro f args h' nx o g e hg cs C h I hs hM vs hv;unfold Lj at e;simp only[cond_eq_ite]at e;split at e
 ·rename_i hf;have hf:=MW hf;subst hf;split at e
  ·rename_i b ver;split at e
   ·rename_i w ps hc;split at e
    ·rename_i u hl;obtain rfl:=MV e;obtain⟨ro,en,g1,g2,g3,g4,g5,g6,g7⟩:=I.block hs hc;cases hv with
     |cons hp hv=>
      cases hv;cases hp with
      |ptr k1 k2 k3 k4=>
       rw[g3]at k1;obtain rfl:=MV k1;obtain⟨c,q1,q2,q3⟩:=k3 g4.symm;rw[q1]at g7;obtain⟨pre,p1,p2,p3⟩:=g7;obtain⟨s1,s2⟩:=p1.f_ g6 hl trivial;have s2:=s2 (by decide);obtain⟨sb,hcell,hsb⟩: ∃sb:ByteArray,(pre.drop (K.off+aG [])).take 1=[.string sb]/\bytesOf sb=u:=by
        generalize (pre.drop (K.off+aG [])).take 1=cs at s1;cases s1 with
        |sc h1 _ _ h4=>cases h4;cases h1 with|str hr=>exact⟨_,rfl,hr⟩
       have hget:pre[K.off]?=some (.string sb):=by
        have:=congrArg (fun l=>l[0]?) hcell;simpa[aG]using this
       have hcl:C.w.cell? ⟨c,K.off,none⟩=some (.string sb):=by
        have:=p2 _ _ hget;simpa using this
       subst q2;obtain⟨w',⟨_,hw⟩,xO⟩:=pJ O.e (O.c c sb C.w hcl) cs (v:= .slice (some ⟨C.w.heap.size,0,none⟩) 1 1) (fun e w' q=>q.1);subst hw;have ou:Cat (Rep C HY) [((K.k,u):HY.den)] [.int .i64 K.k,.string sb]:=by
        refine⟨[.int .i64 K.k,.string sb],[],rfl,?_,rfl⟩;exact⟨[.int .i64 K.k],[.string sb],rfl,⟨rfl,O.r⟩,sb,rfl,hsb⟩
       obtain⟨C',c1,c2,c3,c4,c5⟩:=I.newRow hM ou (arr:= #[.int .i64 K.k,.string sb]) (e:=K.el) (fz:=(0,0)) (cap:=1) (w':=C.w.alloc (.cells #[.int .i64 K.k,.string sb] K.el)) rfl rfl rfl rfl ⟨[],by simp⟩ (fun j _=>by simp)
        (by show 1*2<=2;decide) (Nat.le_refl _)
       refine⟨_,C',?_,c3,c2,c4,c5⟩;rw[c1];exact xO
    ·simp at e
   ·simp at e
  ·simp at e
 ·simp at e
end
def MQ{P:Program}{K:UK}(h:K.OK P):OO P:=⟨Lj K,fun _ _=>Js h⟩
end Go.AM
end
