import Derived.Test.YtojkjnphgamoeaaGreatDoorAm4

/-! The functions that the laws of this seat reach, as plain functions, and what these answer; no condition. -/
set_option linter.unusedSimpArgs false
set_option linter.unusedVariables false
set_option linter.unusedSectionVars false

open BitVec renaming ofInt->ag3,toNat_ofInt->ahe
open Go.IntKind renaming u8->ag7,signed->ahc,i64->ahd,bits->ahf,wrap->ahg
open Int renaming toNat_natCast->ag_
open List renaming getD_eq_getElem?_getD->ag4,mem_range->ag5,range->ag6,any_eq_false->ag8,any_eq_true->ag9,getElem?_eq_getElem->aha,getElem?_eq_none->ahb,ext_getElem->ahh
open Option renaming getD_some->ahi
section
namespace Go.AM
theorem wrap64{n:Int}(h1: -9223372036854775808<=n)(h2:n<9223372036854775808):ahd.wrap n=n:=by unfold ahg;simp[ahc,ahf];omega
theorem cond_pos{α:Type}{c:Bool}{a b:α}(h:c=true):(bif c then a else b)=a:=by rw[h];rfl
theorem cond_neg{α:Type}{c:Bool}{a b:α}(h:c=false):(bif c then a else b)=b:=by rw[h];rfl
theorem Oi{α:Type}{p:Prop}{i:Decidable p}{a b:α}:(bif @decide p i then a else b)=if p then a else b:=by by_cases h:p<;>simp[h]
theorem NC{n:Int}(h:n<9223372036854775808):vZ n=true:=by unfold vZ;rw[Nat.blt_eq];omega
theorem Nj{i n:Int}(h1:0<=i)(h2:i<n):inB i n=true:=by simp[inB,h1,h2]
theorem Oh{α β:Type}{f:α->Option β}(st:Nat->α){n:Nat}(h: ∀k,k<n->f (st k)=f (st (k+1))):f (st 0)=f (st n):=by
 induction n with
 |zero=>rfl
 |succ n ih=>exact(ih fun k hk=>h k (by omega)).trans (h n (by omega))
theorem Ym{α β:Type}{f:α->Option β}(st:Nat->α){n:Nat}{c:Nat->Bool}{e:Nat->Option β}(h: ∀k,k<n->f (st k)=bif c k then e k else f (st (k+1))):
  (f (st 0)=f (st n)/\ ∀k,k<n->c k=false)\/ ∃k,k<n/\c k=true/\(∀j,j<k->c j=false)/\f (st 0)=e k:=by
 induction n with
 |zero=>exact .inl ⟨rfl,fun k hk=>absurd hk (by omega)⟩
 |succ n ih=>
  rcases ih fun k hk=>h k (by omega)with⟨h1,h2⟩|⟨k,hk,h1⟩
  ·cases hc:c n with
   |false=>
    refine .inl ⟨h1.trans ((h n (by omega)).trans (by rw[hc];rfl)),fun k hk=> ?_⟩;rcases Nat.lt_succ_iff_lt_or_eq.1 hk with hk|rfl
    ·exact h2 k hk
    ·exact hc
   |true=>exact .inr ⟨n,by omega,hc,h2,h1.trans ((h n (by omega)).trans (by rw[hc];rfl))⟩
  ·exact .inr ⟨k,by omega,h1⟩
def acc(g:Nat->Int):Nat->Int
 |0=>0
 |k+1=>acc g k+g k
theorem Ol{α:Type}{d:α}{xs:List α}{i:Int}(h1:0<=i)(h2:i<xs.length):rd d xs i∈xs:=by unfold rd;rw[ag4,aha (show i.toNat<xs.length by omega),ahi];exact List.getElem_mem _
theorem PO(x y:Int):mx x y=max x y:=by unfold mx;split<;>omega
theorem Pg(x y:Int):mn x y=min x y:=by unfold mn;split<;>omega
theorem MV{p:Prop}{i:Decidable p}(h:p): @decide p i=true:=decide_eq_true h
theorem M_{p:Prop}{i:Decidable p}(h: ¬p): @decide p i=false:=decide_eq_false h
theorem dec_not{p:Prop}{i:Decidable p}:(!@decide p i)=decide (¬p):=by by_cases h:p<;>simp[h]
theorem dec_and{p q:Prop}{i:Decidable p}{j:Decidable q}:(@decide p i&& @decide q j)=decide (p/\q):=by by_cases h:p<;>simp[h]
theorem OV{p q:Prop}{i:Decidable p}{j:Decidable q}:(@decide p i|| @decide q j)=decide (p\/q):=by by_cases h:p<;>simp[h]
theorem Nq{l h n:Int}(h1:0<=l)(h2:l<=h)(h3:h<=n):sS l h n=true:=by simp[sS,h1,h2,h3]
theorem Qz{α:Type}{d:α}{xs:List α}{k:Nat}(h:k<xs.length):rd d xs (k:Int)=xs[k]:=by unfold rd;rw[ag_,ag4,aha h,ahi]
theorem SL{α:Type}{d:α}{xs:List α}{n k:Nat}(hk:k<n):rd d (xs.take n) (k:Int)=rd d xs (k:Int):=by unfold rd;rw[ag_,ag4,ag4,List.getElem?_take_of_lt hk]
theorem Vb{α:Type}{d:α}{xs:List α}{k:Nat}(h:k<xs.length):xs.take (k+1)=xs.take k++[rd d xs (k:Int)]:=by rw[Qz h,List.take_succ_eq_append_getElem h]
end Go.AM
end
section
namespace Go.AM
theorem Qq{α β:Type}{f:α->Option β}(st:Nat->α)(n:Nat)(c:Nat->Bool)(e:Nat->Option β)(h: ∀k,k<n->f (st k)=bif c k then e k else f (st (k+1))):
  f (st 0)=match (ag6 n).find? c with|some k=>e k|none=>f (st n):=by
 rcases Ym st h with⟨h1,h2⟩|⟨k,hk,h1,h2,h3⟩
 ·have:(ag6 n).find? c=none:=List.find?_eq_none.2 fun k hk=>by rw[h2 k (ag5.1 hk)];simp
  rw[this,h1]
 ·have:(ag6 n).find? c=some k:=by
   rw[List.find?_range_eq_some];exact⟨h1,ag5.2 hk,fun j hj=>by rw[h2 j hj];rfl⟩
  rw[this,h3]
theorem Ue{α β:Type}{f:α->Option β}(st:Nat->α)(n:Nat)(c:Nat->Bool)(e:Option β)(h: ∀k,k<n->f (st k)=bif c k then e else f (st (k+1))):
  f (st 0)=bif(ag6 n).any c then e else f (st n):=by
 rcases Ym st h with⟨h1,h2⟩|⟨k,hk,h1,h2,h3⟩
 ·have:(ag6 n).any c=false:=by rw[ag8];intro k hk;rw[h2 k (ag5.1 hk)];simp
  rw[this,h1];rfl
 ·have:(ag6 n).any c=true:=ag9.2 ⟨k,ag5.2 hk,h1⟩;rw[this,h3];rfl
theorem abL{α β:Type}{f:α->Option β}(st:Nat->α)(n:Nat)(c:Nat->Bool)(e:Nat->Option β)(h: ∀k,k<n->f (st k)=bif c k then e k else f (st (k+1))):
  ∃k,((ag6 n).any c=true->k<n/\c k=true/\ ∀j,j<k->c j=false)/\f (st 0)=bif(ag6 n).any c then e k else f (st n):=by
 rcases Ym st h with⟨h1,h2⟩|⟨k,hk,h1,h2,h3⟩
 ·have:(ag6 n).any c=false:=by rw[ag8];intro k hk;rw[h2 k (ag5.1 hk)];simp
  exact⟨0,fun q=>by rw[this]at q;simp at q,by rw[this,h1];rfl⟩
 ·have:(ag6 n).any c=true:=ag9.2 ⟨k,ag5.2 hk,h1⟩;exact⟨k,fun _=>⟨hk,h1,h2⟩,by rw[this,h3];rfl⟩
theorem any_congr{n:Nat}{c d:Nat->Bool}(h: ∀k,k<n->c k=d k):(ag6 n).any c=(ag6 n).any d:=by
 rw[Bool.eq_iff_iff,ag9,ag9];exact⟨fun ⟨k,hk,q⟩=>⟨k,hk,by rw[<-h k (ag5.1 hk)];exact q⟩,fun ⟨k,hk,q⟩=>⟨k,hk,by rw[h k (ag5.1 hk)];exact q⟩⟩
theorem VU{α:Type}{d:α}{a b:List α}(hl:a.length=b.length)(h: ∀k:Nat,k<a.length->rd d a (k:Int)=rd d b (k:Int)):a=b:=by
 apply ahh hl
 intro k h1 h2;have:=h k h1
 rwa [Qz h1,Qz h2]at this
theorem Zz{α:Type} [DecidableEq α]{d:α}{a b:List α}(hl:a.length=b.length):((ag6 a.length).any fun k=> !decide (rd d a (k:Int)=rd d b (k:Int)))= !decide (a=b):=by
 by_cases h:a=b
 ·subst h;rw[show (!decide (a=a))=false by simp,ag8];intro k _;simp
 ·rw[M_ h];cases hq:(ag6 a.length).any fun k=> !decide (rd d a (k:Int)=rd d b (k:Int))with
  |true=>rfl
  |false=>
   rw[ag8]at hq;exact(h (VU hl fun k hk=>by have:=hq k (ag5.2 hk);simpa using this)).elim
theorem Nh{n:Nat}(h:n<9223372036854775808):vZ (n:Int)=true:=NC (by omega)
theorem PN(n:Int):ag7.wrap n=n%256:=by unfold ahg;simp[ahc,ahf]
theorem V5{n:Int}: -9223372036854775808<=ahd.wrap n/\ahd.wrap n<9223372036854775808:=by unfold ahg;simp[ahc,ahf];omega
end Go.AM
end
section
namespace Go.AM
abbrev B8(x:Int):Prop:=0<=x/\x<256
theorem Uk(n:Int):B8 (ag7.wrap n):=by rw[PN];unfold B8;omega
theorem Tf{n:Int}(h:B8 n):ag7.wrap n=n:=by rw[PN];unfold B8 at h;omega
theorem Wp(a b:Int):B8 (H8 .u8 a b):=by unfold H8 ny;exact Uk _
theorem aft(a b:Int):B8 (KY .u8 a b):=by unfold KY ny;exact Uk _
theorem aay(a b:Int):B8 (Jd .u8 a b):=by unfold Jd;exact Uk _
theorem ad9{a k:Int}:Je .u8 a k=a/2^min k.toNat 8:=by
 unfold Je;rw[Int.fdiv_eq_ediv_of_nonneg _ (Int.le_of_lt (Int.pow_pos (by omega)))];rfl
theorem xor_comm(a b:Int):H8 .u8 a b=H8 .u8 b a:=by
 show ag7.wrap (ag3 8 a ^^^ ag3 8 b).toNat=ag7.wrap (ag3 8 b ^^^ ag3 8 a).toNat;rw[BitVec.xor_comm]
theorem V_(x:BitVec 8):ag3 8 (ag7.wrap x.toNat)=x:=by
 rw[PN];apply BitVec.eq_of_toNat_eq
 have:=x.isLt;rw[ahe];omega
theorem xor_assoc(a b c:Int):H8 .u8 (H8 .u8 a b) c=H8 .u8 a (H8 .u8 b c):=by
 show ag7.wrap (ag3 8 (ag7.wrap (ag3 8 a ^^^ ag3 8 b).toNat) ^^^ ag3 8 c).toNat=ag7.wrap (ag3 8 a ^^^ ag3 8 (ag7.wrap (ag3 8 b ^^^ ag3 8 c).toNat)).toNat;rw[V_,V_,BitVec.xor_assoc]
theorem xor_self(a:Int):H8 .u8 a a=0:=by
 show ag7.wrap (ag3 8 a ^^^ ag3 8 a).toNat=0;rw[BitVec.xor_self];rfl
theorem xor_zero{a:Int}(h:B8 a):H8 .u8 a 0=a:=by
 show ag7.wrap (ag3 8 a ^^^ ag3 8 0).toNat=a;rw[show ag3 8 0=0#8 from rfl,BitVec.xor_zero,ahe,PN];unfold B8 at h;omega
theorem zero_xor{a:Int}(h:B8 a):H8 .u8 0 a=a:=by rw[xor_comm,xor_zero h]
theorem Qa{p:Int->Prop}(h: ∀n:Nat,n<256->p n){a:Int}(ha:B8 a):p a:=by
 have:=h a.toNat (by unfold B8 at ha;omega)
 rwa [show ((a.toNat:Nat):Int)=a by unfold B8 at ha;omega]at this
def tab(n:Nat)(g:Nat->Int):List Int:=(ag6 n).map g
@[simp] theorem P7{n:Nat}{g:Nat->Int}:(tab n g).length=n:=by simp[tab]
theorem Rt{n:Nat}{g:Nat->Int}{k:Nat}(h:k<n):rd 0 (tab n g) (k:Int)=g k:=by rw[Qz (by simpa using h)];simp[tab]
theorem aal{n:Nat}{g:Nat->Int}{k:Int}(h0:0<=k)(h:k<n):rd 0 (tab n g) k=g k.toNat:=by
 have:=Rt (n:=n) (g:=g) (k:=k.toNat) (by omega)
 rwa [show ((k.toNat:Nat):Int)=k by omega]at this
theorem P_{n:Nat}{g h:Nat->Int}(e: ∀k,k<n->g k=h k):tab n g=tab n h:=by unfold tab;exact List.map_congr_left fun k hk=>e k (ag5.1 hk)
theorem WH{n:Nat}{g:Nat->Int}{k:Nat}{v:Int}:(tab n g).set k v=tab n fun i=>if i=k then v else g i:=by
 unfold tab;apply ahh (by simp)
 intro i h1 h2;simp only[List.getElem_set,List.getElem_map,List.getElem_range];by_cases h:k=i
 ·rw[if_pos h,if_pos h.symm]
 ·rw[if_neg h,if_neg (Ne.symm h)]
theorem Xy{m:List Int}{n:Nat}(h:m.length=n):m=tab n fun i=>rd 0 m (i:Int):=by
 apply VU (d:=0) (by simp[h])
 intro k hk;rw[Rt (by omega)]
def RD(n k:Nat)(g:Nat->Int):List Int:=tab n fun i=>if i<k then g i else 0
@[simp] theorem U1{n k:Nat}{g:Nat->Int}:(RD n k g).length=n:=P7
theorem RJ{n:Nat}{g:Nat->Int}:RD n 0 g=List.replicate n 0:=by
 unfold RD tab;rw[List.eq_replicate_iff];exact⟨by simp,fun b hb=>by obtain⟨i,_,rfl⟩:=List.mem_map.1 hb;simp⟩
theorem Uj{n:Nat}{g:Nat->Int}:RD n n g=tab n g:=P_ fun k hk=>by rw[if_pos hk]
theorem Sv{n k:Nat}{g:Nat->Int}{v:Int}(h:v=g k):(RD n k g).set k v=RD n (k+1) g:=by
 unfold RD;rw[WH];refine P_ fun i _=> ?_
 by_cases h1:i=k
 ·subst h1;rw[if_pos rfl,if_pos (by omega),h]
 ·rw[if_neg h1];by_cases h2:i<k
  ·rw[if_pos h2,if_pos (by omega)]
  ·rw[if_neg h2,if_neg (by omega)]
theorem acW{n k:Nat}{g:Nat->Int}(h:k<n):rd 0 (RD n k g) (k:Int)=0:=by unfold RD;rw[Rt h,if_neg (by omega)]
theorem Ur{m:List Int}{k:Nat}{v:Int}(h:k<m.length):rd 0 (m.set k v) (k:Int)=v:=by rw[Qz (by simpa using h)];simp
theorem PY{α β:Type}{f:α->Option β}(st:Nat->List Int->α)(g:Nat->Int->Int)(m:List Int){n:Nat}(hn:m.length=n)
  (h: ∀k,k<n-> ∀m':List Int,m'.length=n->(∀j,k<=j->rd 0 m' (j:Int)=rd 0 m (j:Int))->f (st k m')=f (st (k+1) (m'.set k (g k (rd 0 m (k:Int)))))):
  f (st 0 m)=f (st n (tab n fun i=>g i (rd 0 m (i:Int)))):=by
 have key: ∀k,k<=n->f (st 0 m)=f (st k (tab n fun i=>if i<k then g i (rd 0 m (i:Int))else rd 0 m (i:Int))):=by
  intro k
  induction k with
  |zero=>
   intro _;rw[show (tab n fun i=>if i<0 then g i (rd 0 m (i:Int))else rd 0 m (i:Int))=m from by
    conv=>rhs;rw[Xy hn]
    exact P_ fun i _=>by rw[if_neg (by omega)]]
  |succ k ih=>
   intro hk;rw[ih (by omega),h k (by omega) _ (by simp) fun j hj=>by
    by_cases hjn:j<n
    ·rw[Rt hjn,if_neg (by omega)]
    ·unfold rd;rw[ag_,ag4,ag4,ahb (by simp;omega),ahb (by omega)]]
   congr 2;rw[WH];refine P_ fun i _=> ?_
   by_cases h1:i=k
   ·subst h1;rw[if_pos rfl,if_pos (by omega)]
   ·rw[if_neg h1];by_cases h2:i<k
    ·rw[if_pos h2,if_pos (by omega)]
    ·rw[if_neg h2,if_neg (by omega)]
 rw[key n (Nat.le_refl _)];congr 2;exact P_ fun i hi=>by rw[if_pos hi]
theorem list4{t:List Int}(h:t.length=4):t=[rd 0 t 0,rd 0 t 1,rd 0 t 2,rd 0 t 3]:=by
 match t,h with
 |[a,b,c,d],_=>rfl
theorem QU(k:Nat)(h:k<4611686018427387904):ahd.wrap ((k:Int)+1)=((k+1:Nat):Int):=by rw[wrap64 (by omega) (by omega)];omega
end Go.AM
end
