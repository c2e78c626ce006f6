import Derived.Test.YtbpfiolmmdmapaaGreatAm4

/-! The functions that the laws of this seat reach, as plain functions, and what these answer; no condition. -/
set_option linter.unusedSimpArgs false
set_option linter.unusedVariables false
set_option linter.unusedSectionVars false

open BitVec renaming ofInt->ahw,toNat_ofInt->ahI
open Go.IntKind renaming u8->ahA,signed->ahG,i64->ahH,bits->ahJ,wrap->ahK
open Int renaming toNat_natCast->ahD
open List renaming getD_eq_getElem?_getD->ahx,mem_range->ahy,range->ahz,any_eq_false->ahB,any_eq_true->ahC,getElem?_eq_getElem->ahE,getElem?_eq_none->ahF,ext_getElem->ahL
open Option renaming getD_some->ahM
section
namespace Go.AM
theorem wrap64{n:Int}(h1: -9223372036854775808<=n)(h2:n<9223372036854775808):ahH.wrap n=n:=by unfold ahK;simp[ahG,ahJ];omega
theorem cond_pos{α:Type}{c:Bool}{a b:α}(h:c=true):(bif c then a else b)=a:=by rw[h];rfl
theorem cond_neg{α:Type}{c:Bool}{a b:α}(h:c=false):(bif c then a else b)=b:=by rw[h];rfl
theorem NM{α:Type}{p:Prop}{i:Decidable p}{a b:α}:(bif @decide p i then a else b)=if p then a else b:=by by_cases h:p<;>simp[h]
theorem Nh{n:Int}(h:n<9223372036854775808):wB n=true:=by unfold wB;rw[Nat.blt_eq];omega
theorem MV{i n:Int}(h1:0<=i)(h2:i<n):inB i n=true:=by simp[inB,h1,h2]
theorem NU{α β:Type}{f:α->Option β}(st:Nat->α){n:Nat}(h: ∀k,k<n->f (st k)=f (st (k+1))):f (st 0)=f (st n):=by
 induction n with
 |zero=>rfl
 |succ n ih=>exact(ih fun k hk=>h k (by omega)).trans (h n (by omega))
theorem XQ{α β:Type}{f:α->Option β}(st:Nat->α){n:Nat}{c:Nat->Bool}{e:Nat->Option β}(h: ∀k,k<n->f (st k)=bif c k then e k else f (st (k+1))):
  (f (st 0)=f (st n)/\ ∀k,k<n->c k=false)\/ ∃k,k<n/\c k=true/\(∀j,j<k->c j=false)/\f (st 0)=e k:=by
 induction n with
 |zero=>exact .inl ⟨rfl,fun k hk=>absurd hk (by omega)⟩
 |succ n ih=>
  rcases ih fun k hk=>h k (by omega)with⟨h1,h2⟩|⟨k,hk,h1⟩
  ·cases hc:c n with
   |false=>
    refine .inl ⟨h1.trans ((h n (by omega)).trans (by rw[hc];rfl)),fun k hk=> ?_⟩;rcases Nat.lt_succ_iff_lt_or_eq.1 hk with hk|rfl
    ·exact h2 k hk
    ·exact hc
   |true=>exact .inr ⟨n,by omega,hc,h2,h1.trans ((h n (by omega)).trans (by rw[hc];rfl))⟩
  ·exact .inr ⟨k,by omega,h1⟩
def acc(g:Nat->Int):Nat->Int
 |0=>0
 |k+1=>acc g k+g k
theorem OB{α:Type}{d:α}{xs:List α}{i:Int}(h1:0<=i)(h2:i<xs.length):rd d xs i∈xs:=by unfold rd;rw[ahx,ahE (show i.toNat<xs.length by omega),ahM];exact List.getElem_mem _
theorem O4(x y:Int):mx x y=max x y:=by unfold mx;split<;>omega
theorem OH(x y:Int):mn x y=min x y:=by unfold mn;split<;>omega
theorem MK{p:Prop}{i:Decidable p}(h:p): @decide p i=true:=decide_eq_true h
theorem MO{p:Prop}{i:Decidable p}(h: ¬p): @decide p i=false:=decide_eq_false h
theorem dec_not{p:Prop}{i:Decidable p}:(!@decide p i)=decide (¬p):=by by_cases h:p<;>simp[h]
theorem dec_and{p q:Prop}{i:Decidable p}{j:Decidable q}:(@decide p i&& @decide q j)=decide (p/\q):=by by_cases h:p<;>simp[h]
theorem Ol{p q:Prop}{i:Decidable p}{j:Decidable q}:(@decide p i|| @decide q j)=decide (p\/q):=by by_cases h:p<;>simp[h]
theorem M_{l h n:Int}(h1:0<=l)(h2:l<=h)(h3:h<=n):sV l h n=true:=by simp[sV,h1,h2,h3]
theorem Qm{α:Type}{d:α}{xs:List α}{k:Nat}(h:k<xs.length):rd d xs (k:Int)=xs[k]:=by unfold rd;rw[ahD,ahx,ahE h,ahM]
theorem RP{α:Type}{d:α}{xs:List α}{n k:Nat}(hk:k<n):rd d (xs.take n) (k:Int)=rd d xs (k:Int):=by unfold rd;rw[ahD,ahx,ahx,List.getElem?_take_of_lt hk]
theorem Vk{α:Type}{d:α}{xs:List α}{k:Nat}(h:k<xs.length):xs.take (k+1)=xs.take k++[rd d xs (k:Int)]:=by rw[Qm h,List.take_succ_eq_append_getElem h]
end Go.AM
end
section
namespace Go.AM
theorem Qn{α β:Type}{f:α->Option β}(st:Nat->α)(n:Nat)(c:Nat->Bool)(e:Nat->Option β)(h: ∀k,k<n->f (st k)=bif c k then e k else f (st (k+1))):
  f (st 0)=match (ahz n).find? c with|some k=>e k|none=>f (st n):=by
 rcases XQ st h with⟨h1,h2⟩|⟨k,hk,h1,h2,h3⟩
 ·have:(ahz n).find? c=none:=List.find?_eq_none.2 fun k hk=>by rw[h2 k (ahy.1 hk)];simp
  rw[this,h1]
 ·have:(ahz n).find? c=some k:=by
   rw[List.find?_range_eq_some];exact⟨h1,ahy.2 hk,fun j hj=>by rw[h2 j hj];rfl⟩
  rw[this,h3]
theorem QT{α β:Type}{f:α->Option β}(st:Nat->α)(n:Nat)(c:Nat->Bool)(e:Option β)(h: ∀k,k<n->f (st k)=bif c k then e else f (st (k+1))):
  f (st 0)=bif(ahz n).any c then e else f (st n):=by
 rcases XQ st h with⟨h1,h2⟩|⟨k,hk,h1,h2,h3⟩
 ·have:(ahz n).any c=false:=by rw[ahB];intro k hk;rw[h2 k (ahy.1 hk)];simp
  rw[this,h1];rfl
 ·have:(ahz n).any c=true:=ahC.2 ⟨k,ahy.2 hk,h1⟩;rw[this,h3];rfl
theorem aaL{α β:Type}{f:α->Option β}(st:Nat->α)(n:Nat)(c:Nat->Bool)(e:Nat->Option β)(h: ∀k,k<n->f (st k)=bif c k then e k else f (st (k+1))):
  ∃k,((ahz n).any c=true->k<n/\c k=true/\ ∀j,j<k->c j=false)/\f (st 0)=bif(ahz n).any c then e k else f (st n):=by
 rcases XQ st h with⟨h1,h2⟩|⟨k,hk,h1,h2,h3⟩
 ·have:(ahz n).any c=false:=by rw[ahB];intro k hk;rw[h2 k (ahy.1 hk)];simp
  exact⟨0,fun q=>by rw[this]at q;simp at q,by rw[this,h1];rfl⟩
 ·have:(ahz n).any c=true:=ahC.2 ⟨k,ahy.2 hk,h1⟩;exact⟨k,fun _=>⟨hk,h1,h2⟩,by rw[this,h3];rfl⟩
theorem any_congr{n:Nat}{c d:Nat->Bool}(h: ∀k,k<n->c k=d k):(ahz n).any c=(ahz n).any d:=by
 rw[Bool.eq_iff_iff,ahC,ahC];exact⟨fun ⟨k,hk,q⟩=>⟨k,hk,by rw[<-h k (ahy.1 hk)];exact q⟩,fun ⟨k,hk,q⟩=>⟨k,hk,by rw[h k (ahy.1 hk)];exact q⟩⟩
theorem WQ{α:Type}{d:α}{a b:List α}(hl:a.length=b.length)(h: ∀k:Nat,k<a.length->rd d a (k:Int)=rd d b (k:Int)):a=b:=by
 apply ahL hl
 intro k h1 h2;have:=h k h1
 rwa [Qm h1,Qm h2]at this
theorem Wx{α:Type} [DecidableEq α]{d:α}{a b:List α}(hl:a.length=b.length):((ahz a.length).any fun k=> !decide (rd d a (k:Int)=rd d b (k:Int)))= !decide (a=b):=by
 by_cases h:a=b
 ·subst h;rw[show (!decide (a=a))=false by simp,ahB];intro k _;simp
 ·rw[MO h];cases hq:(ahz a.length).any fun k=> !decide (rd d a (k:Int)=rd d b (k:Int))with
  |true=>rfl
  |false=>
   rw[ahB]at hq;exact(h (WQ hl fun k hk=>by have:=hq k (ahy.2 hk);simpa using this)).elim
theorem MR{n:Nat}(h:n<9223372036854775808):wB (n:Int)=true:=Nh (by omega)
theorem QK(n:Int):ahA.wrap n=n%256:=by unfold ahK;simp[ahG,ahJ]
theorem VG{n:Int}: -9223372036854775808<=ahH.wrap n/\ahH.wrap n<9223372036854775808:=by unfold ahK;simp[ahG,ahJ];omega
end Go.AM
end
section
namespace Go.AM
abbrev B8(x:Int):Prop:=0<=x/\x<256
theorem Vm(n:Int):B8 (ahA.wrap n):=by rw[QK];unfold B8;omega
theorem R_{n:Int}(h:B8 n):ahA.wrap n=n:=by rw[QK];unfold B8 at h;omega
theorem VU(a b:Int):B8 (Hz .u8 a b):=by unfold Hz nC;exact Vm _
theorem afq(a b:Int):B8 (KL .u8 a b):=by unfold KL nC;exact Vm _
theorem Zn(a b:Int):B8 (I_ .u8 a b):=by unfold I_;exact Vm _
theorem adh{a k:Int}:Ja .u8 a k=a/2^min k.toNat 8:=by
 unfold Ja;rw[Int.fdiv_eq_ediv_of_nonneg _ (Int.le_of_lt (Int.pow_pos (by omega)))];rfl
theorem xor_comm(a b:Int):Hz .u8 a b=Hz .u8 b a:=by
 show ahA.wrap (ahw 8 a ^^^ ahw 8 b).toNat=ahA.wrap (ahw 8 b ^^^ ahw 8 a).toNat;rw[BitVec.xor_comm]
theorem VL(x:BitVec 8):ahw 8 (ahA.wrap x.toNat)=x:=by
 rw[QK];apply BitVec.eq_of_toNat_eq
 have:=x.isLt;rw[ahI];omega
theorem xor_assoc(a b c:Int):Hz .u8 (Hz .u8 a b) c=Hz .u8 a (Hz .u8 b c):=by
 show ahA.wrap (ahw 8 (ahA.wrap (ahw 8 a ^^^ ahw 8 b).toNat) ^^^ ahw 8 c).toNat=ahA.wrap (ahw 8 a ^^^ ahw 8 (ahA.wrap (ahw 8 b ^^^ ahw 8 c).toNat)).toNat;rw[VL,VL,BitVec.xor_assoc]
theorem xor_self(a:Int):Hz .u8 a a=0:=by
 show ahA.wrap (ahw 8 a ^^^ ahw 8 a).toNat=0;rw[BitVec.xor_self];rfl
theorem xor_zero{a:Int}(h:B8 a):Hz .u8 a 0=a:=by
 show ahA.wrap (ahw 8 a ^^^ ahw 8 0).toNat=a;rw[show ahw 8 0=0#8 from rfl,BitVec.xor_zero,ahI,QK];unfold B8 at h;omega
theorem zero_xor{a:Int}(h:B8 a):Hz .u8 0 a=a:=by rw[xor_comm,xor_zero h]
theorem P7{p:Int->Prop}(h: ∀n:Nat,n<256->p n){a:Int}(ha:B8 a):p a:=by
 have:=h a.toNat (by unfold B8 at ha;omega)
 rwa [show ((a.toNat:Nat):Int)=a by unfold B8 at ha;omega]at this
def tab(n:Nat)(g:Nat->Int):List Int:=(ahz n).map g
@[simp] theorem PX{n:Nat}{g:Nat->Int}:(tab n g).length=n:=by simp[tab]
theorem QW{n:Nat}{g:Nat->Int}{k:Nat}(h:k<n):rd 0 (tab n g) (k:Int)=g k:=by rw[Qm (by simpa using h)];simp[tab]
theorem Zb{n:Nat}{g:Nat->Int}{k:Int}(h0:0<=k)(h:k<n):rd 0 (tab n g) k=g k.toNat:=by
 have:=QW (n:=n) (g:=g) (k:=k.toNat) (by omega)
 rwa [show ((k.toNat:Nat):Int)=k by omega]at this
theorem P6{n:Nat}{g h:Nat->Int}(e: ∀k,k<n->g k=h k):tab n g=tab n h:=by unfold tab;exact List.map_congr_left fun k hk=>e k (ahy.1 hk)
theorem Wn{n:Nat}{g:Nat->Int}{k:Nat}{v:Int}:(tab n g).set k v=tab n fun i=>if i=k then v else g i:=by
 unfold tab;apply ahL (by simp)
 intro i h1 h2;simp only[List.getElem_set,List.getElem_map,List.getElem_range];by_cases h:k=i
 ·rw[if_pos h,if_pos h.symm]
 ·rw[if_neg h,if_neg (Ne.symm h)]
theorem Xa{m:List Int}{n:Nat}(h:m.length=n):m=tab n fun i=>rd 0 m (i:Int):=by
 apply WQ (d:=0) (by simp[h])
 intro k hk;rw[QW (by omega)]
def Q8(n k:Nat)(g:Nat->Int):List Int:=tab n fun i=>if i<k then g i else 0
@[simp] theorem Ur{n k:Nat}{g:Nat->Int}:(Q8 n k g).length=n:=PX
theorem Rl{n:Nat}{g:Nat->Int}:Q8 n 0 g=List.replicate n 0:=by
 unfold Q8 tab;rw[List.eq_replicate_iff];exact⟨by simp,fun b hb=>by obtain⟨i,_,rfl⟩:=List.mem_map.1 hb;simp⟩
theorem TL{n:Nat}{g:Nat->Int}:Q8 n n g=tab n g:=P6 fun k hk=>by rw[if_pos hk]
theorem RD{n k:Nat}{g:Nat->Int}{v:Int}(h:v=g k):(Q8 n k g).set k v=Q8 n (k+1) g:=by
 unfold Q8;rw[Wn];refine P6 fun i _=> ?_
 by_cases h1:i=k
 ·subst h1;rw[if_pos rfl,if_pos (by omega),h]
 ·rw[if_neg h1];by_cases h2:i<k
  ·rw[if_pos h2,if_pos (by omega)]
  ·rw[if_neg h2,if_neg (by omega)]
theorem ab9{n k:Nat}{g:Nat->Int}(h:k<n):rd 0 (Q8 n k g) (k:Int)=0:=by unfold Q8;rw[QW h,if_neg (by omega)]
theorem TQ{m:List Int}{k:Nat}{v:Int}(h:k<m.length):rd 0 (m.set k v) (k:Int)=v:=by rw[Qm (by simpa using h)];simp
theorem PO{α β:Type}{f:α->Option β}(st:Nat->List Int->α)(g:Nat->Int->Int)(m:List Int){n:Nat}(hn:m.length=n)
  (h: ∀k,k<n-> ∀m':List Int,m'.length=n->(∀j,k<=j->rd 0 m' (j:Int)=rd 0 m (j:Int))->f (st k m')=f (st (k+1) (m'.set k (g k (rd 0 m (k:Int)))))):
  f (st 0 m)=f (st n (tab n fun i=>g i (rd 0 m (i:Int)))):=by
 have key: ∀k,k<=n->f (st 0 m)=f (st k (tab n fun i=>if i<k then g i (rd 0 m (i:Int))else rd 0 m (i:Int))):=by
  intro k
  induction k with
  |zero=>
   intro _;rw[show (tab n fun i=>if i<0 then g i (rd 0 m (i:Int))else rd 0 m (i:Int))=m from by
    conv=>rhs;rw[Xa hn]
    exact P6 fun i _=>by rw[if_neg (by omega)]]
  |succ k ih=>
   intro hk;rw[ih (by omega),h k (by omega) _ (by simp) fun j hj=>by
    by_cases hjn:j<n
    ·rw[QW hjn,if_neg (by omega)]
    ·unfold rd;rw[ahD,ahx,ahx,ahF (by simp;omega),ahF (by omega)]]
   congr 2;rw[Wn];refine P6 fun i _=> ?_
   by_cases h1:i=k
   ·subst h1;rw[if_pos rfl,if_pos (by omega)]
   ·rw[if_neg h1];by_cases h2:i<k
    ·rw[if_pos h2,if_pos (by omega)]
    ·rw[if_neg h2,if_neg (by omega)]
 rw[key n (Nat.le_refl _)];congr 2;exact P6 fun i hi=>by rw[if_pos hi]
theorem list4{t:List Int}(h:t.length=4):t=[rd 0 t 0,rd 0 t 1,rd 0 t 2,rd 0 t 3]:=by
 match t,h with
 |[a,b,c,d],_=>rfl
theorem Qz(k:Nat)(h:k<4611686018427387904):ahH.wrap ((k:Int)+1)=((k+1:Nat):Int):=by rw[wrap64 (by omega) (by omega)];omega
end Go.AM
end
