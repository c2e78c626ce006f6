import Derived.Test.YtepefklelohplaaGreatAm2
import Derived.OpenShut
import Derived.ChangeArms
import Derived.WideShapes
import Derived.ChangeSlices
import Derived.SizedLaws
import Derived.Carry
import Derived.JoinedOf
import Derived.ProofKit
import Derived.Shelf.Strings.Repeat
import Derived.Laws.LoneSync

/-! An abstract machine over plain data, shown to be sound for the given program model: what it tells is what the call does. -/
set_option linter.unusedSimpArgs false
set_option linter.unusedVariables false

section
namespace Go.AM
open Go.RowKit
section
variable {P : Program} {S0 : Base} {w0 : World} {cs0 : List Frame} {f : FuncId} {C : Cx} {st : St} {fr : Frame} {cs : List Frame} {Φ : Ora} {inl : FuncId → Bool}
theorem leaveItems {a : AFrame} {aas : List AFrame} (S : StR P S0 w0 cs0 f C st fr cs) (hs : st.frames = a :: aas) (hu : a.un = none) {out : Out} (j : Option Jump) (e : (leaveA P st a aas j).Ev out)
  (ht : (fr.todo = [] ∧ j = none) ∨ (∃ k, fr.todo = .code .ret :: k ∧ j = some .ret) ∨ (∃ i k, fr.todo = .code (.exit i) :: k ∧ exitTo i k = none ∧ j = some (.exit i))) :
  Next1 P S0 w0 cs0 f C fr cs out := by
 obtain ⟨ha, has⟩ := S.top hs
 refine leave_sim S hs e (fun hr hj => ?_) (fun c v w' b cs' hr hk he => ms_roundEnd (ha.mode hu) hk hr ?_ he)
 ·rcases ht with ⟨h1, h2⟩ | ⟨k, h1, h2⟩ | ⟨i, k, h1, _, h2⟩
  ·exact ms_leaveEnd (ha.mode hu) hr h1
  ·exact ms_leaveRet (ha.mode hu) hr h1
  ·rw [h2] at hj; simp at hj
 ·rcases ht with ⟨h1, h2⟩ | ⟨k, h1, h2⟩ | ⟨i, k, h1, h3, h2⟩
  ·exact .inl ⟨h1, by rw [h2]; rfl⟩
  ·exact .inr (.inl ⟨k, h1, by rw [h2]; rfl⟩)
  ·exact .inr (.inr ⟨i, k, h1, h3, by rw [h2]; rfl⟩)
theorem stepA_sound (O : OraOK P S0 w0 Φ) (S : StR P S0 w0 cs0 f C st fr cs) {out : Out} (e : (stepA P Φ inl st).Ev out) : Next1 P S0 w0 cs0 f C fr cs out := by
 unfold stepA at e
 split at e
 ·exact (F.ev_fail e).elim
 ·rename_i a aas hs
  obtain ⟨ha, has⟩ := S.top hs
  have ht := ha.todo
  simp only at e
  split at e
  ·rename_i ch hu
   exact unwind_sim S hs hu e
  rename_i hu
  split at e
  ·rename_i hit
   rw [hit] at ht
   refine leaveItems S hs hu none e (.inl ⟨?_, rfl⟩)
   generalize fr.todo = td at ht; cases ht; rfl
  ·rename_i k hit
   rw [hit] at ht
   refine leaveItems S hs hu (some .ret) e (.inr (.inl ?_))
   generalize fr.todo = td at ht
   cases ht with
   | cons hi hk => cases hi; exact ⟨_, rfl, rfl⟩
  ·rename_i id k hit
   rw [hit] at ht
   generalize htd : fr.todo = td at ht
   cases ht with
   | @cons _ _ _ bs hi hk =>
   cases hi
   split at e
   ·rename_i k' hx
    obtain rfl := F.ev_ret e
    obtain ⟨t, h1, h2⟩ := exitA_some hk hx
    exact Next1.to S hs h2 (ms_exit (ha.mode hu) htd h1)
   ·rename_i hx
    exact leaveItems S hs hu (some (.exit id)) e (.inr (.inr ⟨id, bs, htd, exitA_none hk hx, rfl⟩))
  ·rename_i id k hit
   rw [hit] at ht
   generalize htd : fr.todo = td at ht
   cases ht with
   | cons hi hk =>
   cases hi
   obtain rfl := F.ev_ret e
   exact Next1.to S hs hk (ms_inBlock (ha.mode hu) htd)
  ·rename_i p k hit
   rw [hit] at ht
   generalize htd : fr.todo = td at ht
   cases ht with
   | cons hi hk =>
   cases hi
   obtain rfl := F.ev_ret e
   exact Next1.to S hs hk (ms_inScope (ha.mode hu) htd)
  ·rename_i p k hit
   rw [hit] at ht
   generalize htd : fr.todo = td at ht
   cases ht with
   | cons hi hk =>
   cases hi
   obtain rfl := F.ev_ret e
   exact Next1.to S hs (.cons .code (.cons .inLoop hk)) (ms_inLoop (ha.mode hu) htd)
  ·rename_i p k hit
   have ht0 := ht
   rw [hit] at ht
   generalize htd : fr.todo = td at ht
   cases ht with
   | @cons _ _ _ bs hi hk =>
   cases hi
   have hL : ∀ {d : Dir}, ItemR P C a.fn (.code (p ++ [d])) (.code (child (codeAt P a.fn p) d)) := fun {d} => by rw [← codeAt_append]; exact .code
   split at e
   ·rename_i hc
    rw [hc] at htd
    obtain rfl := F.ev_ret e
    exact Next1.to S hs hk (ms_skip (ha.mode hu) htd)
   ·rename_i l hc
    rw [hc] at htd
    obtain rfl := F.ev_ret e
    exact Next1.to S hs hk (ms_label (ha.mode hu) htd)
   ·rename_i x y hc
    rw [hc] at htd
    obtain rfl := F.ev_ret e
    refine Next1.to S hs (.cons ?_ (.cons ?_ hk)) (ms_seq (ha.mode hu) htd)
    ·have := @hL .l; rwa [hc] at this
    ·have := @hL .r; rwa [hc] at this
   ·rename_i c x y hc
    rw [hc] at htd
    have hv := evalO_sound ha.tmps.env fr rfl c
    split at e
    ·rename_i b hb
     rw [hb] at hv
     generalize hval : fr.eval c = val at hv
     cases hv
     cases b with
     | true =>
      cases e with
      | iteT e =>
       obtain rfl := F.ev_ret e
       refine Next1.to S hs (.cons ?_ hk) (ms_cond (ha.mode hu) htd hval)
       have := @hL .l; rwa [hc] at this
     | false =>
      cases e with
      | iteF e =>
       obtain rfl := F.ev_ret e
       refine Next1.to S hs (.cons ?_ hk) (ms_cond (ha.mode hu) htd hval)
       have := @hL .r; rwa [hc] at this
    ·exact (F.ev_fail e).elim
   ·rename_i id c hc
    rw [hc] at htd
    obtain rfl := F.ev_ret e
    refine Next1.to S hs (.cons ?_ (.cons .inBlock hk)) (ms_block (ha.mode hu) htd)
    have := @hL .l; rwa [hc] at this
   ·rename_i c hc
    rw [hc] at htd
    obtain rfl := F.ev_ret e
    have h1 : codeAt P a.fn (p ++ [.l]) = c := by rw [codeAt_append, hc]; rfl
    refine Next1.to S hs (.cons ?_ (.cons ?_ hk)) (ms_loop (ha.mode hu) htd)
    ·have := @hL .l; rwa [hc] at this
    ·have := @ItemR.inLoop P C a.fn (p ++ [.l]); rwa [h1] at this
   ·rename_i c hc
    rw [hc] at htd
    obtain rfl := F.ev_ret e
    have h1 : codeAt P a.fn (p ++ [.l]) = c := by rw [codeAt_append, hc]; rfl
    refine Next1.to S hs (.cons ?_ (.cons ?_ hk)) (ms_scope (ha.mode hu) htd)
    ·have := @hL .l; rwa [hc] at this
    ·have := @ItemR.inScope P C a.fn (p ++ [.l]); rwa [h1] at this
   ·rename_i id hc
    rw [hc] at htd
    split at e
    ·rename_i k' hx
     obtain rfl := F.ev_ret e
     obtain ⟨t, h1, h2⟩ := exitA_some hk hx
     exact Next1.to S hs h2 (ms_exit (ha.mode hu) htd h1)
    ·rename_i hx
     exact leaveItems S hs hu (some (.exit id)) e (.inr (.inr ⟨id, bs, htd, exitA_none hk hx, rfl⟩))
   ·rename_i hc
    rw [hc] at htd
    exact leaveItems S hs hu (some .ret) e (.inr (.inl ⟨_, htd, rfl⟩))
   ·rename_i fo ps cA cB hc
    exact rangeA_sim S hs hu hit hc e
   ·rename_i id ops d hc
    rw [hc] at htd
    cases d with
    | true =>
     simp only [cond_true] at e
     simp only [cond_eq_ite] at e
     split at e
     ·exact (F.ev_fail e).elim
     ·rename_i hdep
      have hdep : drawOk P ops = true := by cases hq : drawOk P ops with | true => rfl | false => rw [hq] at hdep; exact (hdep rfl).elim
      split at e
      ·split at e
       ·rename_i hacy
        obtain rfl := F.ev_ret e
        exact drawBegin_sim S hs hu hit hc hdep hacy
       ·exact (F.ev_fail e).elim
      ·obtain ⟨s, h1, e⟩ := F.ev_bind e
       obtain rfl := F.ev_ret e
       exact drawn_sim O S hs hu hit hc hdep h1
    | false =>
     simp only [cond_false] at e
     obtain rfl := F.ev_ret e
     exact Next1.to S hs (.cons (.inRegion hc) hk) (ms_region (ha.mode hu) htd)
   ·exact (F.ev_fail e).elim
  ·rename_i p k hit
   rw [hit] at ht
   generalize htd : fr.todo = td at ht
   cases ht with
   | @cons _ _ _ bs hi hk =>
   obtain ⟨ops, rfl⟩ := hi.none
   obtain rfl := F.ev_ret e
   have hl := S.last
   rw [hs] at hl
   exact ⟨C, { fr with todo := bs }, cs, .one (step_region_end' (ha.mode hu) htd), .cons ⟨ha.fn, ha.ok, ⟨ha.tmps.env, fun m hm => by simp at hm⟩, hk, ha.defers, ha.modeR, ha.kind, ha.round⟩ has, S.inv, S.names, hl.head rfl rfl⟩
  ·rename_i p i r k hit
   split at e
   ·rename_i id ops d hc
    rw [cond_eq_ite] at e
    split at e
    ·rename_i hdi
     simp only [Bool.and_eq_true, Nat.blt_eq] at hdi
     obtain ⟨rfl, hib⟩ := hdi
     rw [cond_eq_ite] at e
     split at e
     ·rename_i hK
      obtain ⟨s, h1, e⟩ := F.ev_bind e
      obtain rfl := F.ev_ret e
      refine drawPart_sim O S hs hu hit hc hib ?_ hK h1
      unfold nextBar
      simp only
      split
      ·rename_i b hb
       have := List.find?_some hb
       simp only [Bool.and_eq_true] at this
       exact .inr this.2
      ·exact .inl rfl
     ·exact (F.ev_fail e).elim
    ·rw [cond_eq_ite] at e
     split at e
     rotate_left
     ·exact (F.ev_fail e).elim
     rename_i hbar
     split at e
     ·rename_i o ho
      rw [hit] at ht
      generalize htd : fr.todo = td at ht
      cases ht with
      | @cons _ _ _ bs hi hk =>
      obtain ⟨l0, rfl, hi'⟩ := hi.head hc hbar
      have hloc : ∀ {out : Out}, ((oneOp P Φ ops.toList o st.nx ⟨a.env, a.mays, st.hp⟩).bind fun s => F.ret (Out.go { frames := { a with env := s.env, mays := s.mays, items := .inRegion p r :: k } :: aas, hp := s.hp, nx := st.nx + 1 })).Ev out → Next1 P S0 w0 cs0 f C fr cs out := by
       intro out e
       obtain ⟨s, h1, e⟩ := F.ev_bind e
       obtain rfl := F.ev_ret e
       exact oneOp_sim O S hs hu hit hc hbar ho h1
      split at e
      ·rename_i hg
       rw [cond_eq_ite] at e
       split at e
       ·exact turn_sim S hs hu hit hc hbar ho hg e
       split at e
       ·rename_i g args hcal
        simp only [cond_eq_ite] at e
        split at e
        ·split at e
         ·rename_i callee hen
          obtain rfl := F.ev_ret e
          obtain ⟨c, vs, h1, h2, h3⟩ := calleeOf_spec (fun x => evalM_none ha.tmps fr rfl x) hcal
          rcases h3 with ⟨g', hg', h3⟩ | ⟨l, b, hl', _⟩
          ·obtain rfl := Fn.func.inj hg'
           refine inplace_sim S hs hen h2 (enter_step (ha.mode hu) htd ho (wanted_none hg) (fun c' q => by rw [h1] at q; simp at q) ?_)
           rw [h3]; exact run_callFunc hen _ _
          ·simp at hl'
         ·exact (F.ev_fail e).elim
        ·exact hloc e
       ·rename_i l args hcal
        obtain ⟨c, vs, h1, h2, h3⟩ := calleeOf_spec (fun x => evalM_none ha.tmps fr rfl x) hcal
        rcases h3 with ⟨g', hg', _⟩ | ⟨l', b, hl', hn, h3⟩
        ·simp at hg'
        ·obtain rfl := Fn.yield.inj hl'
         refine yieldA_sim S hs e h2 hn (fun lp tmps hlp hrun => yield_step (ha.mode hu) htd ho (wanted_none hg) (fun c' q => by rw [h1] at q; simp at q) ?_)
         rw [h3]; exact hrun
       ·exact hloc e
      ·rename_i j want hg
       split at e
       ·rename_i tg hgt
        obtain ⟨oj, hj, htgd⟩ : ∃ oj, ops.toList[j]? = some oj ∧ oj.dst = some tg := by
         unfold guardTg at hgt
         split at hgt
         ·rename_i oj hj
          exact ⟨oj, by rw [Array.getElem?_toList]; exact hj, hgt⟩
         ·simp at hgt
        split at e
        ·rename_i g args hcal
         simp only [cond_eq_ite] at e
         split at e
         ·split at e
          ·rename_i q hgo
           have hiff := guardOf_sound ha.tmps hgo
           have hwant := wanted_some (ops := ops) (tmps := fr.tmps) hg hj htgd
           cases q with
           | true =>
            cases e with
            | iteT e =>
             split at e
             ·rename_i callee hen
              obtain rfl := F.ev_ret e
              have hh := hiff.1 rfl
              obtain ⟨c, vs, h1, h2, h3⟩ := calleeOf_spec (fun x => evalM_some ha.tmps fr rfl hh x) hcal
              rcases h3 with ⟨g', hg', h3⟩ | ⟨l, b, hl', _⟩
              ·obtain rfl := Fn.func.inj hg'
               refine inplace_sim S hs hen h2 (enter_step (ha.mode hu) htd ho (hwant.2 hh) (fun c' q => by rw [h1] at q; simp at q) ?_)
               rw [h3]; exact run_callFunc hen _ _
              ·simp at hl'
             ·exact (F.ev_fail e).elim
           | false =>
            cases e with
            | iteF e => exact skip_sim S hs hu hit hc hbar ho hg hj htgd hgo e
          ·exact (F.ev_fail e).elim
         ·exact hloc e
        ·rename_i l args hcal
         split at e
         ·rename_i q hgo
          have hiff := guardOf_sound ha.tmps hgo
          have hwant := wanted_some (ops := ops) (tmps := fr.tmps) hg hj htgd
          cases q with
          | true =>
           cases e with
           | iteT e =>
            have hh := hiff.1 rfl
            obtain ⟨c, vs, h1, h2, h3⟩ := calleeOf_spec (fun x => evalM_some ha.tmps fr rfl hh x) hcal
            rcases h3 with ⟨g', hg', _⟩ | ⟨l', b, hl', hn, h3⟩
            ·simp at hg'
            ·obtain rfl := Fn.yield.inj hl'
             refine yieldA_sim S hs e h2 hn (fun lp tmps hlp hrun => yield_step (ha.mode hu) htd ho (hwant.2 hh) (fun c' q => by rw [h1] at q; simp at q) ?_)
             rw [h3]; exact hrun
          | false =>
           cases e with
           | iteF e => exact skip_sim S hs hu hit hc hbar ho hg hj htgd hgo e
         ·exact (F.ev_fail e).elim
        ·exact hloc e
       ·exact hloc e
     ·exact (F.ev_fail e).elim
   ·exact (F.ev_fail e).elim
  ·rename_i k hit
   split at e
   ·rename_i l hr
    split at e
    ·rename_i pend fn env ps p d hget
     obtain rfl := F.ev_ret e
     exact beginRound_sim S hs hu hit hr hget
    ·exact (F.ev_fail e).elim
   ·exact (F.ev_fail e).elim
  ·rename_i l k hit
   split at e
   ·exact (F.ev_fail e).elim
   ·rename_i s0 pend fn env ps p d hnb hget
    obtain rfl := F.ev_ret e
    exact endRange_sim S hs hu hit hnb hget
   ·exact (F.ev_fail e).elim
  ·exact (F.ev_fail e).elim
end
end Go.AM
end
section
namespace Go.AM
def swapN (a b n : Nat) : Nat := bif Nat.beq n a then b else bif Nat.beq n b then a else n
mutual
def AV.sw (f : Nat → Nat) : AV → AV
 | .ptr b v o p => .ptr (f b) v o p
 | .own b v t => .own (f b) v t
 | .slc b v o m t i n => .slc (f b) v o m t i n
 | .fn (.yield l) x y => .fn (.yield (f l)) (swAll f x) (swAll f y)
 | .fn g x y => .fn g (swAll f x) (swAll f y)
 | .iface t v => .iface t (v.sw f)
 | .agg ps => .agg (swAll f ps)
 | .tup vs => .tup (swAll f vs)
 | v => v
def swAll (f : Nat → Nat) : List AV → List AV
 | [] => []
 | v :: r => v.sw f :: swAll f r
end
def Env.sw (f : Nat → Nat) (e : Env) : Env := e.map fun x => (x.1, x.2.sw f)
def AObj.sw (f : Nat → Nat) : AObj → AObj
 | .cells v ro ps => .cells v ro (swAll f ps)
 | .loop st pend fn env ps p d => .loop st pend fn (Env.sw f env) ps p (f d)
 | .deferred b => .deferred b
def Hp.sw (f : Nat → Nat) (h : Hp) : Hp := h.map fun x => (f x.1, x.2.sw f)
def AItem.sw (f : Nat → Nat) : AItem → AItem
 | .inRange l => .inRange (f l)
 | .endRange l => .endRange (f l)
 | it => it
def ADef.sw (f : Nat → Nat) : ADef → ADef
 | .mark b => .mark (f b)
 | .call g args => .call g (swAll f args)
def AFrame.sw (f : Nat → Nat) (a : AFrame) : AFrame :=
 ⟨a.fn, Env.sw f a.env, [], a.items.map (AItem.sw f), a.round.map f, a.marks.map (ADef.sw f), a.un, a.dk⟩
def St.swap (a b : Nat) (st : St) : St := ⟨st.frames.map (AFrame.sw (swapN a b)), Hp.sw (swapN a b) st.hp, max st.nx (max a b + 1)⟩
inductive Sl where
 | dat (t : Ty)            -- a part of plain data
 | ag (t : Ty)             -- a struct of plain data
 | row (t : Ty)            -- (in memory) the elements of a row
 | own (b : Nat) (t : Ty)
 | slc (b o : Nat) (m : Option Nat) (t : Ty)
 | pre (b : Nat) (t : Ty)   -- a slice from its row's beginning
 | ptr (b o : Nat)
 | fn (f : Fn) (cap : List Nat)
 | nilS | nilP | nilF | nilI | any
 | ifc (t : TypeId) (s : Sl)   -- an interface value
def Sl.cons (δ : Type) : Sl → Type
 | .dat t | .ag t => t.den × δ
 | .row t => List t.den × δ
 | .slc .. => Int × Int × δ
 | .pre .. => Int × δ
 | .ifc _ s => s.cons δ
 | _ => δ
def Known : List Sl → Type
 | [] => Unit
 | s :: r => s.cons (Known r)
def asOne : List AV → AV
 | [v] => v
 | _ => .junk
def Sl.mk {δ : Type} : (s : Sl) → s.cons δ → AV × δ
 | .dat t, x => (asOne (inj t x.1), x.2)
 | .ag t, x => (.agg (inj t x.1), x.2)
 | .row t, x => (.row t x.1, x.2)
 | .own b t, x => (.own b 0 t, x)
 | .slc b o m t, x => (.slc b 0 o m t x.1 x.2.1, x.2.2)
 | .pre b t, x => (.slc b 0 0 none t 0 x.1, x.2)
 | .ptr b o, x => (.ptr b 0 o [], x)
 | .fn g cap, x => (.fn g [] (cap.map fun b => .ptr b 0 0 []), x)
 | .nilS, x => (.nilSlc, x)
 | .nilP, x => (.nilPtr, x)
 | .nilF, x => (.nilFn, x)
 | .nilI, x => (.nilIface, x)
 | .any, x => (.junk, x)
 | .ifc t s, x => (.iface t (s.mk x).1, (s.mk x).2)
def mkKnown : (l : List Sl) → Known l → List AV
 | [], _ => []
 | s :: r, v => (s.mk v).1 :: mkKnown r (s.mk v).2
inductive DSpec where
 | mark (b : Nat)
 | call (f : FuncId) (args : List Sl)
def DSpec.key : DSpec → Bool × Nat × Nat
 | .mark b => (false, b, 0)
 | .call f args => (true, f, args.length)
def DSpec.sls : DSpec → List Sl
 | .mark _ => []
 | .call _ args => args
structure FSpec where
 fn : FuncId
 items : List AItem
 slots : List (Nat × Sl)
 round : Option Nat := none
 marks : List DSpec := []
 dk : Bool := false
def FSpec.sls (f : FSpec) : List Sl := f.slots.map (·.2) ++ f.marks.flatMap DSpec.sls
inductive OSpec where
 | cells (ro : Bool) (ps : List Sl)
 | loop (st : LoopState) (pend : Option Jump) (fn : FuncId) (slots : List (Nat × Sl)) (params : List Nat) (p : Path) (defs : Nat)
 | deferred (taken : Bool)
def OSpec.sls : OSpec → List Sl
 | .cells _ ps => ps
 | .loop _ _ _ sl _ _ _ => sl.map (·.2)
 | .deferred _ => []
structure Spec where
 frames : List FSpec
 blocks : List (Nat × OSpec)
 nx : Nat
def Spec.sls (s : Spec) : List Sl := s.frames.flatMap FSpec.sls ++ s.blocks.flatMap fun b => b.2.sls
structure Eye where
 hp : Hp
 names : List Nat
def Eye.cur (y : Eye) (b : Nat) : Option Nat := match y.hp.get b with | some (.cells v _ _) => some v | _ => none
def Eye.len (y : Eye) (b : Nat) : Option Int := match y.hp.get b with | some (.cells _ _ [.row _ xs]) => some xs.length | _ => none
def Eye.born (y : Eye) (b : Nat) : Bool := match y.hp.get b with | some _ => false | none => y.names.any (Nat.beq b)
def Eye.gone (y : Eye) (l : List Nat) : Bool := l.all fun b => !(y.names.any (Nat.beq b))
def Eye.pur (y : Eye) (v : AV) : Option AV := bif y.gone (refs1 v) then pure1 y.hp v else none
def Eye.purs (y : Eye) : List AV → Option (List AV)
 | [] => some []
 | v :: r => match y.pur v, y.purs r with
  | some w, some l => some (w :: l)
  | _, _ => none
def capOk (y : Eye) : List Nat → List AV → Bool
 | [], [] => true
 | b :: r, .ptr b' v 0 [] :: vs => Nat.beq b' b && decide (y.cur b = some v) && capOk y r vs
 | _, _ => false
def seeSlc (y : Eye) (b o : Nat) (m : Option Nat) (t : Ty) (v : AV) : Option (Int × Int) :=
 match v with
 | .slc b' v o' m' t' i n => if b' = b ∧ o' = o ∧ m' = m ∧ t' = t ∧ y.cur b = some v then some (i, n) else none
 | .own b' v t' => if b' = b ∧ o = 0 ∧ m = none ∧ t' = t ∧ y.cur b = some v then (match y.len b with | some n => some (0, n) | none => none) else none
 | .nilSlc => if y.born b = true ∧ m = none then some (0, 0) else none
 | _ => none
def Sl.see (y : Eye) {δ : Type} (s : Sl) (v : AV) (d : δ) : Option (s.cons δ) :=
 match s with
 | .dat t => (match y.pur v with
  | some w => (match packAll t [w] with | some x => some (x, d) | none => none)
  | none => none)
 | .ag t => (match v with
  | .agg ps => (match y.purs ps with
   | some qs => (match packAll t qs with | some x => some (x, d) | none => none)
   | none => none)
  | _ => none)
 | .row t => (match v with | .row t' xs => if h : t' = t then some ((h ▸ xs), d) else none | _ => none)
 | .own b t => (match v with
  | .own b' v t' => if b' = b ∧ t' = t ∧ y.cur b = some v then some d else none
  | .nilSlc => if y.born b = true then some d else none
  | _ => none)
 | .slc b o m t => (match seeSlc y b o m t v with | some x => some (x.1, x.2, d) | none => none)
 | .pre b t => (match seeSlc y b 0 none t v with | some x => if x.1 = 0 then some (x.2, d) else none | none => none)
 | .ptr b o => (match v with | .ptr b' v o' [] => if b' = b ∧ o' = o ∧ y.cur b = some v then some d else none | _ => none)
 | .fn g cap => (match v with | .fn g' [] cap' => if g' = g ∧ capOk y cap cap' = true then some d else none | _ => none)
 | .nilS => (match v with | .nilSlc => some d | _ => none)
 | .nilP => (match v with | .nilPtr => some d | _ => none)
 | .nilF => (match v with | .nilFn => some d | _ => none)
 | .nilI => (match v with | .nilIface => some d | _ => none)
 | .any => some d
 | .ifc t s => (match v with | .iface t' v' => if t' = t then s.see y v' d else none | _ => none)
def seeAll (y : Eye) : (l : List Sl) → List AV → Option (Known l)
 | [], _ => some ()
 | s :: r, vs => match vs with
  | [] => none
  | v :: vs => match seeAll y r vs with
   | some d => s.see y v d
   | none => none
def lookO (o : OSpec) (x : Option AObj) : List AV :=
 match o, x with
 | .cells _ _, some (.cells _ _ ps) => ps
 | .cells _ [.row t], none => [.row t []]
 | .loop _ _ _ sl _ _ _, some (.loop _ _ _ env _ _ _) => sl.map fun x => env.get x.1
 | _, _ => []
def lookF (f : FSpec) (g : AFrame) : List AV := (f.slots.map fun x => g.env.get x.1) ++ g.marks.flatMap ADef.vals
def looks (s : Spec) (st : St) : List AV :=
 ((s.frames.zip st.frames).flatMap fun fg => lookF fg.1 fg.2) ++
 s.blocks.flatMap fun b => lookO b.2 (st.hp.get b.1)
def fillD : List DSpec → List AV → List ADef
 | [], _ => []
 | .mark b :: r, vs => .mark b :: fillD r vs
 | .call f l :: r, vs => .call f (vs.take l.length) :: fillD r (vs.drop l.length)
def fillF : List FSpec → List AV → List AFrame × List AV
 | [], vs => ([], vs)
 | f :: r, vs => (⟨f.fn, (f.slots.map (·.1)).zip (vs.take f.slots.length), [], f.items, f.round, fillD f.marks (vs.drop f.slots.length), none, f.dk⟩ :: (fillF r (vs.drop f.sls.length)).1, (fillF r (vs.drop f.sls.length)).2)
def fillO (o : OSpec) (vs : List AV) : AObj :=
 match o with
 | .cells ro _ => .cells 0 ro vs
 | .loop st pend fn sl ps p d => .loop st pend fn ((sl.map (·.1)).zip vs) ps p d
 | .deferred b => .deferred b
def fillB : List (Nat × OSpec) → List AV → Hp
 | [], _ => []
 | b :: r, vs => (b.1, fillO b.2 (vs.take b.2.sls.length)) :: fillB r (vs.drop b.2.sls.length)
def Spec.fill (s : Spec) (vs : List AV) : St := ⟨(fillF s.frames vs).1, fillB s.blocks (fillF s.frames vs).2, s.nx⟩
def Spec.mk' (s : Spec) (v : Known s.sls) : St := s.fill (mkKnown s.sls v)
def Spec.names (s : Spec) : List Nat := s.blocks.map (·.1)
def seeSt (s : Spec) (st : St) : Option (Known s.sls) := seeAll ⟨st.hp, s.names⟩ s.sls (looks s st)
structure Cut (α : Type) where
 spec : Spec
 f : Known spec.sls → Option α
def fitsO (s : OSpec) (o : Option AObj) : Bool :=
 match s, o with
 | .cells ro sl, some (.cells _ ro' ps) => (!ro' || ro) && Nat.beq ps.length sl.length
 | .cells _ [.row _], none => true
 | .loop st pend fn _ ps p d, some (.loop st' pend' fn' _ ps' p' d') => decide (st = st' ∧ pend = pend' ∧ fn = fn' ∧ ps = ps' ∧ p = p' ∧ d = d')
 | .deferred b, some (.deferred b') => b == b'
 | _, _ => false
def atHead : List AItem → List AItem → Bool
 | .code p :: _, .code q :: _ => decide (p = q)
 | [], [] => true
 | _, _ => false
def keyA (g : AFrame) : FuncId × List AItem × Option Nat × Bool := (g.fn, g.items, g.round, g.dk)
def keyF (f : FSpec) : FuncId × List AItem × Option Nat × Bool := (f.fn, f.items, f.round, f.dk)
def keyDA (g : AFrame) : List (Bool × Nat × Nat) := g.marks.map ADef.key
def keyDF (f : FSpec) : List (Bool × Nat × Nat) := f.marks.map DSpec.key
def atCut (s : Spec) (st : St) : Bool :=
 match st.frames, s.frames with
 | g :: _, f :: _ => bif (atHead g.items f.items && Nat.beq g.fn f.fn) && ((st.hp.get ioName).isNone || s.names.any (Nat.beq ioName)) then
    decide (st.frames.map keyA = s.frames.map keyF) && decide (st.frames.map keyDA = s.frames.map keyDF) && st.frames.all (fun g => g.un.isNone) && s.blocks.all fun b => fitsO b.2 (st.hp.get b.1)
   else false
 | _, _ => false
def nameTurn (b b' : Nat) : Option (Nat × Nat) := bif Nat.beq b b' then none else some (b', b)
def capTurn : List Nat → List AV → Option (Nat × Nat)
 | b :: r, .ptr b' _ _ _ :: vs => bif Nat.beq b b' then capTurn r vs else some (b', b)
 | _, _ => none
def bornTurn (h : Hp) (nx b : Nat) : Option (Nat × Nat) := match h.get b with | some _ => some (b, nx) | none => none
def fnTurn : Fn → Fn → Option (Nat × Nat)
 | .yield b, .yield b' => nameTurn b b'
 | _, _ => none
def Sl.turn (h : Hp) (nx : Nat) (s : Sl) (v : AV) : Option (Nat × Nat) :=
 match s with
 | .own b _ => (match v with | .own b' _ _ => nameTurn b b' | .nilSlc => bornTurn h nx b | _ => none)
 | .slc b _ _ _ => (match v with | .slc b' _ _ _ _ _ _ => nameTurn b b' | .own b' _ _ => nameTurn b b' | .nilSlc => bornTurn h nx b | _ => none)
 | .pre b _ => (match v with | .slc b' _ _ _ _ _ _ => nameTurn b b' | .own b' _ _ => nameTurn b b' | .nilSlc => bornTurn h nx b | _ => none)
 | .ptr b _ => (match v with | .ptr b' _ _ _ => nameTurn b b' | _ => none)
 | .fn g cap => (match v with
  | .fn g' _ cap' => (match fnTurn g g' with | some q => some q | none => capTurn cap cap')
  | _ => none)
 | .ifc _ s => (match v with | .iface _ v' => s.turn h nx v' | _ => none)
 | _ => none
def slsTurn (h : Hp) (nx : Nat) : List Sl → List AV → Option (Nat × Nat)
 | [], _ => none
 | s :: r, vs => match vs with
  | [] => none
  | v :: vs => match s.turn h nx v with
   | some x => some x
   | none => slsTurn h nx r vs
def itemTurn : List AItem → List AItem → Option (Nat × Nat)
 | .inRange b :: r, .inRange b' :: s => (match nameTurn b b' with | some q => some q | none => itemTurn r s)
 | .endRange b :: r, .endRange b' :: s => (match nameTurn b b' with | some q => some q | none => itemTurn r s)
 | _ :: r, _ :: s => itemTurn r s
 | _, _ => none
def roundTurn : Option Nat → Option Nat → Option (Nat × Nat)
 | some b, some b' => nameTurn b b'
 | _, _ => none
def markTurn : List DSpec → List ADef → Option (Nat × Nat)
 | .mark b :: r, .mark b' :: s => (match nameTurn b b' with | some q => some q | none => markTurn r s)
 | _ :: r, _ :: s => markTurn r s
 | _, _ => none
def frameTurn (h : Hp) (nx : Nat) : List FSpec → List AFrame → Option (Nat × Nat)
 | f :: r, g :: s => (match itemTurn f.items g.items with
  | some q => some q
  | none => (match roundTurn f.round g.round with
   | some q => some q
   | none => (match markTurn f.marks g.marks with
    | some q => some q
    | none => (match slsTurn h nx f.sls (lookF f g) with
     | some q => some q
     | none => frameTurn h nx r s))))
 | _, _ => none
def blockTurn (h : Hp) (nx : Nat) : List (Nat × OSpec) → Option (Nat × Nat)
 | [] => none
 | b :: r => match slsTurn h nx b.2.sls (lookO b.2 (h.get b.1)) with
  | some q => some q
  | none => blockTurn h nx r
def turnK (s : Spec) : Nat → St → St
 | 0, st => st
 | n + 1, st => match (match frameTurn st.hp st.nx s.frames st.frames with | some q => some q | none => blockTurn st.hp st.nx s.blocks) with
  | none => st
  | some (a, b) => bif Nat.beq a ioName || Nat.beq b ioName then st else turnK s n (st.swap a b)
def turned (s : Spec) (st : St) : St :=
 match st.frames, s.frames with
 | g :: _, f :: _ => bif (atHead g.items f.items && Nat.beq g.fn f.fn) && st.frames.all (fun g => g.un.isNone) then turnK s (s.blocks.length + s.blocks.length) st else st
 | _, _ => st
def cutsOf {α : Type} : List (Cut α) → St → Option (Option α)
 | [], _ => none
 | c :: r, st => bif atCut c.spec (turned c.spec st) then (match seeSt c.spec (turned c.spec st) with | some v => some (c.f v) | none => cutsOf r st) else cutsOf r st
def Exits : List Spec → Type
 | [] => Empty
 | e :: es => match es with
  | [] => Known e.sls
  | _ :: _ => Known e.sls ⊕ Exits es
def contE {α : Type} : (es : List Spec) → Exits es → (St → Option α) → Option α
 | [], g, _ => nomatch g
 | [e], g, K => K (e.mk' g)
 | e :: e' :: es, g, K => match g with
  | .inl v => K (e.mk' v)
  | .inr g => contE (e' :: es) g K
structure Seg where
 entry : Spec
 exits : List Spec
 f : Known entry.sls → Option (Exits exits)
def segRun {α : Type} (K K0 : St → Option α) : List Seg → St → Option α
 | [], st => K0 st
 | s :: r, st => bif atCut s.entry (turned s.entry st)
  then (match seeSt s.entry (turned s.entry st) with | some v => (s.f v).bind fun g => contE s.exits g K | none => segRun K K0 r st)
  else segRun K K0 r st
def runS {α : Type} (P : Program) (Φ : Ora) (inl : FuncId → Bool) (cuts : List (Cut α)) (segs : List Seg) (fin : AV → Hp → Option α) : Nat → Bool → St → Option α
 | 0, _, _ => none
 | n + 1, look, st => bif look
  then (match cutsOf cuts st with
   | some r => r
   | none => segRun (runS P Φ inl cuts segs fin n true) (runS P Φ inl cuts segs fin n false) segs st)
  else (stepA P Φ inl st).run fun o => match o with
   | .done v h => fin v h
   | .go st' => runS P Φ inl cuts segs fin n true st'
def exitCuts {β : Type} : (es : List Spec) → (Exits es → β) → List (Cut β)
 | [], _ => []
 | [e], k => [⟨e, fun v => some (k v)⟩]
 | e :: e' :: es, k => ⟨e, fun v => some (k (.inl v))⟩ :: exitCuts (e' :: es) fun g => k (.inr g)
open Classical in
noncomputable def limO {α β : Type} (seq : Nat → α → Option β) (a : α) : Option β :=
 if h : ∃ k, (seq k a).isSome = true then seq (Classical.choose h) a else none
def iter {α β : Type} (b : (α → Option β) → α → Option β) : Nat → α → Option β
 | 0 => fun _ => none
 | k + 1 => b (iter b k)
noncomputable def lfp {α β : Type} (b : (α → Option β) → α → Option β) : α → Option β := limO (iter b)
inductive Mode where
 | lim
 | fuel (k : Nat)
noncomputable def loop {α β : Type} (m : Mode) (b : (α → Option β) → α → Option β) : α → Option β :=
 match m with
 | .lim => lfp b
 | .fuel k => iter b k
abbrev AItem.c := AItem.code
abbrev AItem.p := AItem.inLoop
abbrev AItem.g := AItem.inRegion
abbrev AItem.b := AItem.inBlock
abbrev Sl.w : Sl := .dat (.int .i64)
abbrev Sl.s : Sl := .dat .str
abbrev Sl.b : Sl := .dat .bool
abbrev Sl.y : Sl := .dat (.int .u8)
abbrev Sl.t : Sl := .dat (.lst .str)
abbrev Sl.u : Sl := .dat (.int .u64)
abbrev OSpec.c := OSpec.cells false
abbrev OSpec.d := OSpec.cells true
abbrev LI : Type := List Int
abbrev LL : Type := List (List Int)
end Go.AM
end
section
namespace Go.AM
open Go.RowKit
theorem pack_len : ∀ {t : Ty} {ps r : List AV} {x : t.den}, pack t ps = some (x, r) → (inj t x).length + r.length = ps.length
 | .int k, ps, r, x, e => by
  cases ps with
  | nil => simp [AM.pack] at e
  | cons p ps =>
   cases p <;> simp [AM.pack] at e
   obtain ⟨e0, e⟩ := e
   obtain ⟨e1, e2⟩ := Prod.mk.inj e
   subst e2; simp [inj]; omega
 | .bool, ps, r, x, e => by
  cases ps with
  | nil => simp [AM.pack] at e
  | cons p ps =>
   cases p <;> simp [AM.pack] at e
   obtain ⟨e1, e2⟩ := Prod.mk.inj e
   subst e2; simp [inj]; omega
 | .str, ps, r, x, e => by
  cases ps with
  | nil => simp [AM.pack] at e
  | cons p ps =>
   cases p <;> simp [AM.pack] at e
   obtain ⟨e1, e2⟩ := Prod.mk.inj e
   subst e2; simp [inj]; omega
 | .lst t, ps, r, x, e => by
  cases ps with
  | nil => simp [AM.pack] at e
  | cons p ps =>
   cases p <;> simp [AM.pack] at e
   case lst t' xs =>
    obtain ⟨e0, e⟩ := e
    obtain ⟨e1, e2⟩ := Prod.mk.inj e
    subst e2; simp [inj]; omega
   case nilSlc =>
    obtain ⟨e1, e2⟩ := Prod.mk.inj e
    subst e2; simp [inj]; omega
 | .arr n t, ps, r, x, e => by
  cases ps with
  | nil => simp [AM.pack] at e
  | cons p ps =>
   cases p <;> simp [AM.pack] at e
   obtain ⟨e0, e9, e⟩ := e
   obtain ⟨e1, e2⟩ := Prod.mk.inj e
   subst e2; simp [inj]; omega
 | .unit, ps, r, x, e => by
  have e : some ((), ps) = some (x, r) := by rw [← e]; cases ps <;> rfl
  obtain ⟨e1, e2⟩ := Prod.mk.inj (Option.some.inj e)
  subst e2; simp [inj]
 | .pair a b, ps, r, x, e => by
  have e : (match AM.pack a ps with
   | some (x, r') => (match AM.pack b r' with | some (y, r'') => some ((x, y), r'') | none => none)
   | none => none) = some (x, r) := by rw [← e]; cases ps <;> rfl
  split at e
  ·rename_i x1 r1 e1
   split at e
   ·rename_i y1 r2 e2
    obtain ⟨e3, e4⟩ := Prod.mk.inj (Option.some.inj e)
    subst e3; subst e4
    have k1 := pack_len e1
    have k2 := pack_len e2
    simp only [inj, List.length_append]; omega
   ·simp at e
  ·simp at e
theorem packAll_one {t : Ty} {v : AV} {x : t.den} (e : packAll t [v] = some x) : ∃ v', inj t x = [v'] := by
 unfold packAll at e
 split at e
 ·rename_i y h
  obtain rfl := Option.some.inj e
  have := pack_len h
  simp at this
  match hq : inj t y, this with
  | [a], _ => exact ⟨a, rfl⟩
 ·simp at e
inductive WeakSlc (y : Eye) (b o : Nat) (m : Option Nat) (t : Ty) : AV → AV → Prop
 | slc {v i n} : y.cur b = some v → WeakSlc y b o m t (.slc b v o m t i n) (.slc b 0 o m t i n)
 | own {v n} : o = 0 → m = none → y.cur b = some v → y.len b = some n → WeakSlc y b o m t (.own b v t) (.slc b 0 o m t 0 n)
 | nil : m = none → y.born b = true → WeakSlc y b o m t .nilSlc (.slc b 0 o m t 0 0)
inductive Weak (y : Eye) : Sl → AV → AV → Prop
 | dat {t v w x v'} : y.pur v = some w → packAll t [w] = some x → inj t x = [v'] → Weak y (.dat t) v v'
 | ag {t ps qs x} : y.purs ps = some qs → packAll t qs = some x → Weak y (.ag t) (.agg ps) (.agg (inj t x))
 | row {t xs} : Weak y (.row t) (.row t xs) (.row t xs)
 | own {b v t} : y.cur b = some v → Weak y (.own b t) (.own b v t) (.own b 0 t)
 | ownNil {b t} : y.born b = true → Weak y (.own b t) .nilSlc (.own b 0 t)
 | slc {b o m t v w} : WeakSlc y b o m t v w → Weak y (.slc b o m t) v w
 | pre {b t v n} : WeakSlc y b 0 none t v (.slc b 0 0 none t 0 n) → Weak y (.pre b t) v (.slc b 0 0 none t 0 n)
 | ptr {b o v} : y.cur b = some v → Weak y (.ptr b o) (.ptr b v o []) (.ptr b 0 o [])
 | fn {g cap cap'} : capOk y cap cap' = true → Weak y (.fn g cap) (.fn g [] cap') (.fn g [] (cap.map fun b => .ptr b 0 0 []))
 | nilS : Weak y .nilS .nilSlc .nilSlc
 | nilP : Weak y .nilP .nilPtr .nilPtr
 | nilF : Weak y .nilF .nilFn .nilFn
 | nilI : Weak y .nilI .nilIface .nilIface
 | any {v} : Weak y .any v .junk
 | ifc {t s v w} : Weak y s v w → Weak y (.ifc t s) (.iface t v) (.iface t w)
inductive Weaks (y : Eye) : List Sl → List AV → List AV → Prop
 | nil {vs} : Weaks y [] vs []
 | cons {s l v vs w ws} : Weak y s v w → Weaks y l vs ws → Weaks y (s :: l) (v :: vs) (w :: ws)
theorem seeSlc_weak {y : Eye} {b o : Nat} {m : Option Nat} {t : Ty} {v : AV} {x : Int × Int} (h : seeSlc y b o m t v = some x) : WeakSlc y b o m t v (.slc b 0 o m t x.1 x.2) := by
 unfold seeSlc at h
 split at h
 ·split at h
  ·rename_i hq
   obtain ⟨rfl, rfl, rfl, rfl, hq⟩ := hq
   obtain rfl := Option.some.inj h
   exact .slc hq
  ·simp at h
 ·split at h
  ·rename_i hq
   obtain ⟨rfl, rfl, rfl, rfl, hq⟩ := hq
   split at h
   ·rename_i n hn
    obtain rfl := Option.some.inj h
    exact .own rfl rfl hq hn
   ·simp at h
  ·simp at h
 ·split at h
  ·rename_i hq
   obtain ⟨hq, rfl⟩ := hq
   obtain rfl := Option.some.inj h
   exact .nil rfl hq
  ·simp at h
 ·simp at h
theorem see_weak {y : Eye} {δ : Type} : ∀ {s : Sl} {v : AV} {d : δ} {q : s.cons δ}, s.see y v d = some q → Weak y s v (s.mk q).1 ∧ (s.mk q).2 = d := by
 intro s
 induction s with
 | dat t =>
  intro v d q h
  simp only [Sl.see] at h
  split at h
  ·rename_i w hw
   split at h
   ·rename_i x hx
    obtain rfl := Option.some.inj h
    obtain ⟨v', hv'⟩ := packAll_one hx
    refine ⟨?_, rfl⟩
    show Weak y (.dat t) v (asOne (inj t x))
    rw [hv']
    exact .dat hw hx hv'
   ·simp at h
  ·simp at h
 | ag t =>
  intro v d q h
  simp only [Sl.see] at h
  split at h
  ·rename_i ps
   split at h
   ·rename_i qs hqs
    split at h
    ·rename_i x hx
     obtain rfl := Option.some.inj h
     exact ⟨.ag hqs hx, rfl⟩
    ·simp at h
   ·simp at h
  ·simp at h
 | row t =>
  intro v d q h
  simp only [Sl.see] at h
  split at h
  ·rename_i t' xs
   split at h
   ·rename_i hq
    subst hq
    obtain rfl := Option.some.inj h
    exact ⟨.row, rfl⟩
   ·simp at h
  ·simp at h
 | own b t =>
  intro v d q h
  simp only [Sl.see] at h
  split at h
  ·split at h
   ·rename_i hq
    obtain ⟨rfl, rfl, hq⟩ := hq
    obtain rfl := Option.some.inj h
    exact ⟨.own hq, rfl⟩
   ·simp at h
  ·split at h
   ·rename_i hq
    obtain rfl := Option.some.inj h
    exact ⟨.ownNil hq, rfl⟩
   ·simp at h
  ·simp at h
 | slc b o m t =>
  intro v d q h
  simp only [Sl.see] at h
  split at h
  ·rename_i x hx
   obtain rfl := Option.some.inj h
   exact ⟨.slc (seeSlc_weak hx), rfl⟩
  ·simp at h
 | pre b t =>
  intro v d q h
  simp only [Sl.see] at h
  split at h
  ·rename_i x hx
   split at h
   ·rename_i h0
    obtain rfl := Option.some.inj h
    have := seeSlc_weak hx
    rw [h0] at this
    exact ⟨.pre this, rfl⟩
   ·simp at h
  ·simp at h
 | ptr b o =>
  intro v d q h
  simp only [Sl.see] at h
  split at h
  ·split at h
   ·rename_i hq
    obtain ⟨rfl, rfl, hq⟩ := hq
    obtain rfl := Option.some.inj h
    exact ⟨.ptr hq, rfl⟩
   ·simp at h
  ·simp at h
 | fn g' cap =>
  intro v d q h
  simp only [Sl.see] at h
  split at h
  ·split at h
   ·rename_i hq
    obtain ⟨rfl, hq⟩ := hq
    obtain rfl := Option.some.inj h
    exact ⟨.fn hq, rfl⟩
   ·simp at h
  ·simp at h
 | nilS =>
  intro v d q h
  simp only [Sl.see] at h
  split at h
  ·obtain rfl := Option.some.inj h; exact ⟨.nilS, rfl⟩
  ·simp at h
 | nilP =>
  intro v d q h
  simp only [Sl.see] at h
  split at h
  ·obtain rfl := Option.some.inj h; exact ⟨.nilP, rfl⟩
  ·simp at h
 | nilF =>
  intro v d q h
  simp only [Sl.see] at h
  split at h
  ·obtain rfl := Option.some.inj h; exact ⟨.nilF, rfl⟩
  ·simp at h
 | nilI =>
  intro v d q h
  simp only [Sl.see] at h
  split at h
  ·obtain rfl := Option.some.inj h; exact ⟨.nilI, rfl⟩
  ·simp at h
 | any => intro v d q h; obtain rfl := Option.some.inj h; exact ⟨.any, rfl⟩
 | ifc t s ih =>
  intro v d q h
  cases v with
  | iface t' v' =>
   have h : (if t' = t then s.see y v' d else (none : Option (s.cons δ))) = some q := h
   split at h
   ·rename_i hq
    subst hq
    exact ⟨.ifc (ih h).1, (ih h).2⟩
   ·simp at h
  | _ => exact absurd h (by intro h; have h : (none : Option (s.cons δ)) = some q := h; simp at h)
theorem seeAll_weak {y : Eye} : ∀ {l : List Sl} {vs : List AV} {q : Known l}, seeAll y l vs = some q → Weaks y l vs (mkKnown l q)
 | [], vs, q, h => .nil
 | s :: l, [], q, h => by simp [seeAll] at h
 | s :: l, v :: vs, q, h => by
  simp only [seeAll] at h
  split at h
  ·rename_i d hd
   have k := seeAll_weak hd
   obtain ⟨h1, h2⟩ := see_weak h
   show Weaks y (s :: l) (v :: vs) ((s.mk q).1 :: mkKnown l (s.mk q).2)
   rw [h2]
   exact .cons h1 k
  ·simp at h
theorem Weaks.split {y : Eye} : ∀ {a b : List Sl} {u v ws : List AV}, a.length = u.length → Weaks y (a ++ b) (u ++ v) ws → Weaks y a u (ws.take a.length) ∧ Weaks y b v (ws.drop a.length)
 | [], b, u, v, ws, hl, h => by
  have : u = [] := List.length_eq_zero_iff.1 hl.symm
  subst this
  exact ⟨by simpa using Weaks.nil, by simpa using h⟩
 | s :: a, b, [], v, ws, hl, h => by simp at hl
 | s :: a, b, x :: u, v, ws, hl, h => by
  cases h with
  | cons h1 h2 =>
   obtain ⟨k1, k2⟩ := Weaks.split (by simpa using hl) h2
   exact ⟨.cons h1 k1, k2⟩
theorem Weaks.len {y : Eye} : ∀ {a : List Sl} {u ws : List AV}, Weaks y a u ws → ws.length = a.length
 | _, _, _, .nil => rfl
 | _, _, _, .cons _ h => by simp [h.len]
end Go.AM
end
section
namespace Go.AM
open Go.RowKit
theorem pack_rest : ∀ {t : Ty} {v p : AV} {x : t.den}, pack t [v] = some (x, [p]) → p = v
 | .int k, v, p, x, e => by
  cases v <;> simp [pack] at e
  have := (Prod.mk.inj e.2).2
  simp at this
 | .bool, v, p, x, e => by
  cases v <;> simp [pack] at e
  have := (Prod.mk.inj e).2
  simp at this
 | .str, v, p, x, e => by
  cases v <;> simp [pack] at e
  have := (Prod.mk.inj e).2
  simp at this
 | .lst t, v, p, x, e => by
  cases v <;> simp [pack] at e
  ·obtain ⟨_, e⟩ := e
   have := (Prod.mk.inj e).2
   simp at this
  ·have := (Prod.mk.inj e).2
   simp at this
 | .arr n t, v, p, x, e => by
  cases v <;> simp [pack] at e
  obtain ⟨_, _, e⟩ := e
  have := (Prod.mk.inj e).2
  simp at this
 | .unit, v, p, x, e => by
  have e : some ((), [v]) = some (x, [p]) := e
  have := (Prod.mk.inj (Option.some.inj e)).2
  simp at this; exact this.symm
 | .pair a b, v, p, x, e => by
  have e : (match pack a [v] with
   | some (x, r') => (match pack b r' with | some (y, r'') => some ((x, y), r'') | none => none)
   | none => none) = some (x, [p]) := e
  split at e
  ·rename_i y r1 e1
   split at e
   ·rename_i z r2 e2
    obtain ⟨e3, e4⟩ := Prod.mk.inj (Option.some.inj e)
    subst e4
    have l1 := pack_len e1
    have l2 := pack_len e2
    simp only [List.length_cons, List.length_nil] at l1 l2
    cases r1 with
    | nil => simp at l2
    | cons q r =>
     have hr : r = [] := List.length_eq_zero_iff.1 (by simp at l1; omega)
     subst hr
     have := pack_rest e1
     subst this
     exact pack_rest e2
   ·simp at e
  ·simp at e
theorem pack_same : ∀ {t : Ty} {v w : AV} {x : t.den}, pack t [v] = some (x, []) → inj t x = [w] → w = v ∨ (v = .nilSlc ∧ ∃ t', w = .lst t' [])
 | .int k, v, w, x, e, h => by
  cases v <;> simp [pack] at e
  obtain ⟨e1, e2⟩ := e
  have e2 := (Prod.mk.inj e2).1
  subst e1; subst e2
  exact .inl (by simpa [inj] using h.symm)
 | .bool, v, w, x, e, h => by
  cases v <;> simp [pack] at e
  have e2 := (Prod.mk.inj e).1
  subst e2
  exact .inl (by simpa [inj] using h.symm)
 | .str, v, w, x, e, h => by
  cases v <;> simp [pack] at e
  have e2 := (Prod.mk.inj e).1
  subst e2
  exact .inl (by simpa [inj] using h.symm)
 | .lst t, v, w, x, e, h => by
  cases v <;> simp [pack] at e
  case lst t' xs =>
   obtain ⟨e1, e2⟩ := e
   subst e1
   have e2 := (Prod.mk.inj e2).1
   subst e2
   exact .inl (by simpa [inj] using h.symm)
  case nilSlc =>
   have e2 := (Prod.mk.inj e).1
   subst e2
   exact .inr ⟨rfl, t, by simpa [inj] using h.symm⟩
 | .arr n t, v, w, x, e, h => by
  cases v <;> simp [pack] at e
  obtain ⟨e0, e1, e2⟩ := e
  subst e0; subst e1
  have e2 := (Prod.mk.inj e2).1
  subst e2
  exact .inl (by simpa [inj] using h.symm)
 | .unit, v, w, x, e, h => by
  have e : some ((), [v]) = some (x, []) := e
  have := (Prod.mk.inj (Option.some.inj e)).2
  simp at this
 | .pair a b, v, w, x, e, h => by
  have e : (match pack a [v] with
   | some (x, r') => (match pack b r' with | some (y, r'') => some ((x, y), r'') | none => none)
   | none => none) = some (x, []) := e
  split at e
  ·rename_i y r1 e1
   split at e
   ·rename_i z r2 e2
    obtain ⟨e3, e4⟩ := Prod.mk.inj (Option.some.inj e)
    subst e3; subst e4
    have l1 := pack_len e1
    have l2 := pack_len e2
    simp only [inj] at h
    simp only [List.length_cons, List.length_nil] at l1 l2
    cases r1 with
    | nil =>
     have : inj b z = [] := List.length_eq_zero_iff.1 (by simpa using l2)
     rw [this, List.append_nil] at h
     exact pack_same e1 h
    | cons p r =>
     have hr : r = [] := List.length_eq_zero_iff.1 (by simp at l1; omega)
     have hi : inj a y = [] := List.length_eq_zero_iff.1 (by simp at l1; omega)
     subst hr
     rw [hi, List.nil_append] at h
     have : p = v := pack_rest e1
     subst this
     exact pack_same e2 h
   ·simp at e
  ·simp at e
theorem packAll_same {t : Ty} {v w : AV} {x : t.den} (e : packAll t [v] = some x) (h : inj t x = [w]) : packable v = true ∧ (w = v ∨ (v = .nilSlc ∧ ∃ t', w = .lst t' [])) := by
 refine ⟨?_, ?_⟩
 ·cases hp : packable v with
  | true => rfl
  | false => exact (packAll_none hp e).elim
 ·unfold packAll at e
  split at e
  ·rename_i y hy
   obtain rfl := Option.some.inj e
   exact pack_same hy h
  ·simp at e
structure Anew (C C' : Cx) (y : Eye) : Prop where
 w : C'.w = C.w
 ro : ∀ c j, C.RO c j → C'.RO c j
 froz : ∀ b, y.names.any (Nat.beq b) = false → ∀ e c v ro ps j, C.M b = some e → e.cb = some c → y.hp.get b = some (.cells v ro ps) → j < partsSize ps → C'.RO c j
 ent : ∀ b ∈ y.names, ∀ e, C.M b = some e → C'.M b = some { e with ver := 0 }
 born : ∀ b ∈ y.names, C.M b = none → C'.M b = some ⟨0, none, 0, false⟩
theorem Anew.wid {C C' : Cx} {y : Eye} (A : Anew C C' y) : Wid C C' := ⟨A.w, A.ro⟩
theorem any_beq {l : List Nat} {b : Nat} (h : l.any (Nat.beq b) = true) : b ∈ l := by
 obtain ⟨x, h1, h2⟩ := List.any_eq_true.1 h
 have := Nat.eq_of_beq_eq_true h2
 subst this; exact h1
section
variable {P : Program} {S0 : Base} {w0 : World} {C C' : Cx} {y : Eye}
theorem Anew.holds (A : Anew C C' y) {l : List Nat} (h : y.gone l = true) : Holds C C' y.hp l := by
 intro b hb e c v ro ps j q1 q2 q3 q4
 have := List.all_eq_true.1 h b hb
 exact A.froz b (by simpa using this) e c v ro ps j q1 q2 q3 q4
def Sl.names : Sl → List Nat
 | .own b _ => [b]
 | .slc b _ _ _ => [b]
 | .pre b _ => [b]
 | .ptr b _ => [b]
 | .fn (.yield l) cap => l :: cap
 | .fn _ cap => cap
 | .ifc _ s => s.names
 | _ => []
theorem Bsz.anew (A : Anew C C' y) {c n : Nat} (h : Bsz C c n) : Bsz C' c n := fun j hj => by rw [A.w]; exact h j hj
theorem OwnOK.anew (A : Anew C C' y) {e : Ent} {t : Ty} {v : Value} (h : OwnOK C e t v) : OwnOK C' { e with ver := 0 } t v := by
 unfold OwnOK at *
 split <;> simp_all
 obtain ⟨cap, h1, h2, h3⟩ := h
 exact ⟨cap, h1, h2, h3.anew A⟩
theorem SlcOK.anew (A : Anew C C' y) {e o m t i n v} (h : SlcOK C e o m t i n v) : SlcOK C' { e with ver := 0 } o m t i n v := by
 unfold SlcOK at *
 obtain ⟨h1, h2, h3, h4⟩ := h
 refine ⟨h1, h2, h3, ?_⟩
 cases hcb : e.cb with
 | none => rw [hcb] at h4; exact h4
 | some c =>
  rw [hcb] at h4
  obtain ⟨a, cap, k1, k2, k3, k4⟩ := h4
  exact ⟨a, cap, k1, k2, k3, k4.anew A⟩
theorem Eye.cur_ent (I : Inv P S0 w0 C y.hp) {b v : Nat} (h : y.cur b = some v) : ∃ e, C.M b = some e ∧ e.ver = v := by
 unfold Eye.cur at h
 split at h
 ·rename_i v' ro ps hg
  obtain rfl := Option.some.inj h
  obtain ⟨e, k1, k2⟩ := I.obj _ _ hg
  exact ⟨e, k1, k2.1⟩
 ·simp at h
theorem Eye.len_ent (I : Inv P S0 w0 C y.hp) {b : Nat} {n : Int} (h : y.len b = some n) {e : Ent} (he : C.M b = some e) : (e.len : Int) = n := by
 unfold Eye.len at h
 split at h
 ·rename_i v' ro t xs hg
  obtain rfl := Option.some.inj h
  obtain ⟨e', k1, k2⟩ := I.obj _ _ hg
  rw [he] at k1; obtain rfl := Option.some.inj k1
  rw [k2.2.2.1 t xs (.head _)]
 ·simp at h
theorem Eye.born_ent (I : Inv P S0 w0 C y.hp) (A : Anew C C' y) {b : Nat} (h : y.born b = true) : C'.M b = some ⟨0, none, 0, false⟩ := by
 unfold Eye.born at h
 split at h
 ·simp at h
 ·rename_i hg
  refine A.born b (any_beq h) ?_
  cases hq : C.M b with
  | none => rfl
  | some e => obtain ⟨o, ho⟩ := I.dom b e hq; rw [hg] at ho; simp at ho
theorem cap_anew (I : Inv P S0 w0 C y.hp) (A : Anew C C' y) : ∀ {cap : List Nat} {vs : List AV} {us : List Value}, capOk y cap vs = true → (∀ b ∈ cap, b ∈ y.names) → VRs C vs us → VRs C' (cap.map fun b => AV.ptr b 0 0 []) us
 | [], [], _, _, _, .nil => .nil
 | [], _ :: _, _, h, _, _ => by simp [capOk] at h
 | _ :: _, [], _, h, _, _ => by simp [capOk] at h
 | b :: cap, v :: vs, _, h, hN, .cons h1 h2 => by
  cases v with
  | ptr b' v o path =>
   cases o with
   | succ o => simp [capOk] at h
   | zero =>
    cases path with
    | cons _ _ => simp [capOk] at h
    | nil =>
     simp [capOk] at h
     obtain ⟨⟨h3, h4⟩, h5⟩ := h
     subst h3
     refine .cons ?_ (cap_anew I A h5 (fun b hb => hN b (.tail _ hb)) h2)
     obtain ⟨e, g1, g2⟩ := Eye.cur_ent I h4
     cases h1 with
     | ptr k1 k2 k3 k4 =>
      rw [g1] at k1
      obtain rfl := Option.some.inj k1
      obtain ⟨c, q1, q2, q3⟩ := k3 g2.symm
      exact .ptr (A.ent _ (hN _ (.head _)) _ g1) (Nat.le_refl _) (fun _ => ⟨c, q1, q2, q3⟩) k4
  | _ => simp [capOk] at h
theorem pur_VR (I : Inv P S0 w0 C y.hp) (A : Anew C C' y) {v w : AV} {val : Value} (e : y.pur v = some w) (hv : VR C v val) : VR C' w val ∧ packable w = true ∧ (v.scal = true → w.scal = true) := by
 unfold Eye.pur at e
 simp only [cond_eq_ite] at e
 split at e
 ·rename_i hg
  exact pure1_sound I (Sub'.self _) A.wid e hv (A.holds hg)
 ·simp at e
theorem purs_PR (I : Inv P S0 w0 C y.hp) (A : Anew C C' y) : ∀ {ps qs : List AV} {cs : List Value}, y.purs ps = some qs → PR C ps cs → PR C' qs cs
 | [], qs, cs, e, hp => by
  simp only [Eye.purs, Option.some.injEq] at e
  subst e; cases hp; exact .nil
 | p :: ps, qs, cs, e, hp => by
  simp only [Eye.purs] at e
  split at e
  ·rename_i q l h1 h2
   obtain rfl := Option.some.inj e
   cases hp with
   | sc k1 k2 k3 k4 =>
    obtain ⟨g1, _, g3⟩ := pur_VR I A h1 k1
    exact .sc g1 (g3 k2) k3 (purs_PR I A h2 k4)
   | arr k1 k2 =>
    unfold Eye.pur at h1
    simp only [cond_eq_ite] at h1
    split at h1
    ·simp only [pure1, Option.some.injEq] at h1
     subst h1
     exact .arr (k1.wid A.wid) (purs_PR I A h2 k2)
    ·simp at h1
   | row k1 k2 =>
    unfold Eye.pur at h1
    simp only [cond_eq_ite] at h1
    split at h1
    ·simp [pure1] at h1
    ·simp at h1
  ·simp at e
theorem weakSlc_VR (I : Inv P S0 w0 C y.hp) (A : Anew C C' y) {b o : Nat} {m : Option Nat} {t : Ty} {v w : AV} {val : Value} (h : WeakSlc y b o m t v w) (hN : b ∈ y.names) (hv : VR C v val) : VR C' w val := by
 cases h with
 | slc h1 =>
  obtain ⟨e, g1, g2⟩ := Eye.cur_ent I h1
  cases hv with
  | slc k1 k2 k3 k4 =>
   rw [g1] at k1; obtain rfl := Option.some.inj k1
   refine .slc (A.ent _ hN _ g1) (Nat.le_refl _) (fun _ => ?_) k4
   exact (k3 g2.symm).anew A
 | own h0 hm h1 h2 =>
  subst h0; subst hm
  obtain ⟨e, g1, g2⟩ := Eye.cur_ent I h1
  have hlen := Eye.len_ent I h2 g1
  cases hv with
  | own k1 k2 k3 k4 =>
   rw [g1] at k1; obtain rfl := Option.some.inj k1
   refine .slc (A.ent _ hN _ g1) (Nat.le_refl _) (fun _ => ?_) k4
   have := k3 g2.symm
   unfold OwnOK at this
   unfold SlcOK
   subst hlen
   refine ⟨by omega, by omega, by simp, ?_⟩
   show match e.cb with | none => _ | some c => _
   cases hcb : e.cb with
   | none => rw [hcb] at this; exact ⟨rfl, this⟩
   | some c =>
    rw [hcb] at this
    obtain ⟨cap, q1, q2, q3⟩ := this
    exact ⟨⟨c, 0, none⟩, cap, by simpa using q1, fun _ => by simp, by simpa using q2, by simpa using q3.anew A⟩
 | nil hm h1 =>
  subst hm
  cases hv
  exact .slc (Eye.born_ent I A h1) (Nat.le_refl _) (fun _ => ⟨by omega, by omega, by simp, rfl, rfl, rfl⟩) ⟨_, _, _, rfl⟩
theorem weak_VR (I : Inv P S0 w0 C y.hp) (A : Anew C C' y) {s : Sl} {v w : AV} {val : Value} (h : Weak y s v w) (hN : ∀ b ∈ s.names, b ∈ y.names) (hv : VR C v val) : VR C' w val := by
 induction h generalizing val with
 | dat h0 h1 h2 =>
  obtain ⟨k1, k2, _⟩ := pur_VR I A h0 hv
  obtain ⟨hp, h3⟩ := packAll_same h1 h2
  rcases h3 with rfl | ⟨rfl, t', rfl⟩
  ·exact k1
  ·cases k1
   exact .lst ⟨none, 0, 0, rfl, rfl, by omega, .inl ⟨rfl, fun _ => rfl⟩⟩
 | ag h0 h1 =>
  cases hv with
  | agg h => exact .agg (PR.of_inj ((purs_PR I A h0 h).packAll h1))
 | row => cases hv
 | own h1 =>
  obtain ⟨e, g1, g2⟩ := Eye.cur_ent I h1
  cases hv with
  | own k1 k2 k3 k4 =>
   rw [g1] at k1; obtain rfl := Option.some.inj k1
   refine .own (A.ent _ (hN _ (.head _)) _ g1) (Nat.le_refl _) (fun _ => ?_) k4
   exact (k3 g2.symm).anew A
 | ownNil h1 =>
  cases hv
  exact .own (Eye.born_ent I A h1) (Nat.le_refl _) (fun _ => ⟨rfl, rfl⟩) ⟨_, _, _, rfl⟩
 | slc h1 => exact weakSlc_VR I A h1 (hN _ (.head _)) hv
 | pre h1 => exact weakSlc_VR I A h1 (hN _ (.head _)) hv
 | ptr h1 =>
  obtain ⟨e, g1, g2⟩ := Eye.cur_ent I h1
  cases hv with
  | ptr k1 k2 k3 k4 =>
   rw [g1] at k1; obtain rfl := Option.some.inj k1
   obtain ⟨c, q1, q2, q3⟩ := k3 g2.symm
   exact .ptr (A.ent _ (hN _ (.head _)) _ g1) (Nat.le_refl _) (fun _ => ⟨c, q1, q2, q3⟩) k4
 | @fn g cap cap' h1 =>
  cases hv with
  | @fn _ f' _ _ aas bs k1 k2 k3 =>
   cases k2
   have hcap : ∀ b ∈ cap, b ∈ y.names := fun b hb => hN b (by cases g <;> first | exact hb | exact .tail _ hb)
   refine .fn ?_ .nil (cap_anew I A h1 hcap k3)
   cases g with
   | yield l =>
    obtain ⟨e, c, q1, q2, q3, q4⟩ := k1
    exact ⟨_, c, A.ent _ (hN _ (.head _)) _ q1, q2, q3, q4⟩
   | _ => exact k1
 | nilS => cases hv; exact .nilSlc
 | nilP => cases hv; exact .nilPtr
 | nilF => cases hv; exact .nilFn
 | nilI => cases hv; exact .nilIface
 | any => exact .junk _
 | ifc _ ih => cases hv with | iface h => exact .iface (ih hN h)
def Sl.isAny : Sl → Bool
 | .any => true
 | _ => false
theorem weak_PR (I : Inv P S0 w0 C y.hp) (A : Anew C C' y) : ∀ {sl : List Sl} {vs ws : List AV} {cs : List Value}, Weaks y sl vs ws → vs.length = sl.length → (∀ s ∈ sl, s.isAny = false) → (∀ s ∈ sl, ∀ b ∈ s.names, b ∈ y.names) → PR C vs cs → PR C' ws cs
 | [], vs, _, cs, .nil, hlen, _, _, h => by
  have : vs = [] := List.length_eq_zero_iff.1 hlen
  subst this; cases h; exact .nil
 | s :: sl, v :: vs, w :: ws, cs, .cons h1 h2, hlen, hn, hN, h => by
  have hlen : vs.length = sl.length := by simpa using hlen
  have ih := fun {cs} => weak_PR I A (cs := cs) h2 hlen (fun s hs => hn s (.tail _ hs)) (fun s hs => hN s (.tail _ hs))
  cases h with
  | sc k1 k2 k3 k4 =>
   have k := weak_VR I A h1 (hN _ (.head _)) k1
   refine .sc k ?_ k3 (ih k4)
   cases h1 with
   | dat q0 q1 q2 =>
    rcases (packAll_same q1 q2).2 with rfl | ⟨rfl, _, rfl⟩
    ·exact (pur_VR I A q0 k1).2.2 k2
    ·rfl
   | ag => simp [AV.scal] at k2
   | row => simp [AV.scal] at k2
   | slc h => cases h <;> rfl
   | _ => rfl
  | arr k1 k2 =>
   cases h1 with
   | dat q0 q1 q2 =>
    unfold Eye.pur at q0
    simp only [cond_eq_ite] at q0
    split at q0
    ·simp only [pure1, Option.some.injEq] at q0
     subst q0
     rcases (packAll_same q1 q2).2 with rfl | ⟨q, _, _⟩
     ·exact .arr (k1.wid A.wid) (ih k2)
     ·simp at q
    ·simp at q0
   | slc h => cases h
   | pre h => cases h
   | any => have := hn _ (.head _); simp [Sl.isAny] at this
  | row k1 k2 =>
   cases h1 with
   | dat q0 q1 q2 =>
    unfold Eye.pur at q0
    simp only [cond_eq_ite] at q0
    split at q0
    ·simp [pure1] at q0
    ·simp at q0
   | row => exact .row (k1.mono fun _ _ => Rep.wid A.wid) (ih k2)
   | slc h => cases h
   | pre h => cases h
   | any => have := hn _ (.head _); simp [Sl.isAny] at this
end
end Go.AM
end
section
namespace Go.AM
open Go.RowKit
def AItem.names : AItem → List Nat
 | .inRange l => [l]
 | .endRange l => [l]
 | _ => []
def DSpec.names : DSpec → List Nat
 | .mark b => [b]
 | .call _ l => l.flatMap Sl.names
def FSpec.names (f : FSpec) : List Nat := f.slots.flatMap (fun x => x.2.names) ++ (f.items.flatMap AItem.names ++ (f.round.toList ++ f.marks.flatMap DSpec.names))
def OSpec.names : OSpec → List Nat
 | .cells _ ps => ps.flatMap Sl.names
 | .loop _ _ _ sl _ _ d => d :: sl.flatMap (fun x => x.2.names)
 | .deferred _ => []
def OSpec.noAny : OSpec → Bool
 | .cells _ ps => ps.all fun s => !s.isAny
 | _ => true
def Spec.ok (s : Spec) : Bool :=
 (s.frames.all fun f => f.names.all fun b => (s.blocks.map (·.1)).any (Nat.beq b)) &&
 s.blocks.all fun b => (b.2.names.all fun c => (s.blocks.map (·.1)).any (Nat.beq c)) && Nat.blt b.1 s.nx && b.2.noAny
section
variable {P : Program} {S0 : Base} {w0 : World} {cs0 : List Frame} {f : FuncId} {C C' : Cx} {y : Eye}
theorem NameR.anew (A : Anew C C' y) {a c : Nat} (hN : a ∈ y.names) (h : NameR C a c) : NameR C' a c := by
 obtain ⟨e, h1, h2, h3⟩ := h
 exact ⟨_, A.ent _ hN _ h1, h2, h3⟩
theorem ItemsR.anew (A : Anew C C' y) {fn : FuncId} : ∀ {aas bs}, (∀ b ∈ aas.flatMap AItem.names, b ∈ y.names) → ItemsR P C fn aas bs → ItemsR P C' fn aas bs
 | _, _, _, .nil => .nil
 | _, _, hN, .cons h k => by
  refine .cons ?_ (k.anew A fun b hb => hN b (by rw [List.flatMap_cons]; exact List.mem_append.2 (.inr hb)))
  have hN : ∀ b ∈ AItem.names _, b ∈ y.names := fun b hb => hN b (by rw [List.flatMap_cons]; exact List.mem_append.2 (.inl hb))
  cases h with
  | code => exact .code
  | inBlock => exact .inBlock
  | inLoop => exact .inLoop
  | inScope => exact .inScope
  | inRegion h => exact .inRegion h
  | inDraw h1 h2 h3 h4 h5 h6 => exact .inDraw h1 h2 h3 h4 h5 h6
  | inRange h => exact .inRange (h.anew A (hN _ (.head _)))
  | endRange h => exact .endRange (h.anew A (hN _ (.head _)))
  | beginRound => exact .beginRound
  | jmp => exact .jmp
theorem weaks_VRs (I : Inv P S0 w0 C y.hp) (A : Anew C C' y) : ∀ {sl : List Sl} {vs ws : List AV} {us : List Value}, vs.length = sl.length → (∀ b ∈ sl.flatMap Sl.names, b ∈ y.names) → Weaks y sl vs ws → VRs C vs us → VRs C' ws us
 | [], [], _, _, _, _, .nil, .nil => .nil
 | _ :: _, _, _, _, hl, hN, .cons h1 h2, .cons k1 k2 =>
  .cons (weak_VR I A h1 (fun b hb => hN b (by rw [List.flatMap_cons]; exact List.mem_append.2 (.inl hb))) k1) (weaks_VRs I A (by simpa using hl) (fun b hb => hN b (by rw [List.flatMap_cons]; exact List.mem_append.2 (.inr hb))) h2 k2)
theorem fillD_sim (I : Inv P S0 w0 C y.hp) (A : Anew C C' y) : ∀ {ds : List DSpec} {ms : List ADef} {us : List Deferred} {ws : List AV}, ms.map ADef.key = ds.map DSpec.key → (∀ b ∈ ds.flatMap DSpec.names, b ∈ y.names) → Weaks y (ds.flatMap DSpec.sls) (ms.flatMap ADef.vals) ws → MarksR C ms us → MarksR C' (fillD ds ws) us ∧ (fillD ds ws).map ADef.key = ds.map DSpec.key
 | [], _, _, _, hk, _, _, h => by
  have : _ = [] := List.map_eq_nil_iff.1 hk
  subst this; cases h; exact ⟨.nil, rfl⟩
 | d :: ds, [], _, _, hk, _, _, _ => by simp at hk
 | .mark b :: ds, .mark b' :: ms, _, ws, hk, hN, hw, .cons h1 h2 => by
  simp only [List.map_cons, List.cons.injEq] at hk
  obtain ⟨hk1, hk2⟩ := hk
  simp only [ADef.key, DSpec.key, Prod.mk.injEq, true_and, and_true] at hk1
  subst hk1
  obtain ⟨k1, k2⟩ := fillD_sim I A hk2 (fun b hb => hN b (by rw [List.flatMap_cons]; exact List.mem_append.2 (.inr hb))) hw h2
  exact ⟨.cons (h1.anew A (hN _ (by rw [List.flatMap_cons]; exact List.mem_append.2 (.inl (.head _))))) k1, by simp only [fillD, List.map_cons, k2]; rfl⟩
 | .call g l :: ds, .call g' args :: ms, _, ws, hk, hN, hw, .call h1 h2 => by
  simp only [List.map_cons, List.cons.injEq] at hk
  obtain ⟨hk1, hk2⟩ := hk
  simp only [ADef.key, DSpec.key, Prod.mk.injEq, true_and] at hk1
  obtain ⟨hg, hl⟩ := hk1
  subst hg
  simp only [List.flatMap_cons, DSpec.sls, ADef.vals] at hw
  obtain ⟨w1, w2⟩ := Weaks.split hl.symm hw
  obtain ⟨k1, k2⟩ := fillD_sim I A hk2 (fun b hb => hN b (by rw [List.flatMap_cons]; exact List.mem_append.2 (.inr hb))) w2 h2
  refine ⟨.call (weaks_VRs I A hl (fun b hb => hN b (by rw [List.flatMap_cons]; exact List.mem_append.2 (.inl hb))) w1 h1) k1, ?_⟩
  simp only [fillD, List.map_cons, k2, ADef.key, DSpec.key, w1.len]
 | .mark _ :: _, .call _ _ :: _, _, _, hk, _, _, _ => by simp [ADef.key, DSpec.key] at hk
 | .call _ _ :: _, .mark _ :: _, _, _, hk, _, _, _ => by simp [ADef.key, DSpec.key] at hk
theorem zip_env (I : Inv P S0 w0 C y.hp) (A : Anew C C' y) {env : Env} {tmps : Array Value} (hE : EnvR C env tmps) :
  ∀ {sl : List (Nat × Sl)} {ws : List AV}, (∀ b ∈ sl.flatMap (fun x => x.2.names), b ∈ y.names) → Weaks y (sl.map (·.2)) (sl.map fun x => env.get x.1) ws → EnvR C' ((sl.map (·.1)).zip ws) tmps
 | [], ws, _, h => fun t => .junk _
 | (i, s) :: sl, ws, hN, h => by
  cases h with
  | cons h1 h2 =>
   intro t
   rw [List.map_cons, List.zip_cons_cons, Env.get_cons]
   split
   ·rename_i hq
    simp only at hq
    subst hq
    exact weak_VR I A h1 (fun b hb => hN b (by rw [List.flatMap_cons]; exact List.mem_append.2 (.inl hb))) (hE i)
   ·exact zip_env I A hE (fun b hb => hN b (by rw [List.flatMap_cons]; exact List.mem_append.2 (.inr hb))) h2 t
theorem vals_len : ∀ {ds : List DSpec} {ms : List ADef}, ms.map ADef.key = ds.map DSpec.key → (ds.flatMap DSpec.sls).length = (ms.flatMap ADef.vals).length
 | [], ms, h => by
  have : ms = [] := List.map_eq_nil_iff.1 h
  subst this; rfl
 | d :: ds, [], h => by simp at h
 | d :: ds, m :: ms, h => by
  simp only [List.map_cons, List.cons.injEq] at h
  have := vals_len h.2
  simp only [List.flatMap_cons, List.length_append, this]
  congr 1
  have h1 := h.1
  cases d <;> cases m <;> simp_all [ADef.key, DSpec.key, DSpec.sls, ADef.vals]
theorem fillF_sim (I : Inv P S0 w0 C y.hp) (A : Anew C C' y) :
  ∀ {fs : List FSpec} {aas : List AFrame} {frs : List Frame} {sl : List Sl} {vs ws : List AV}, aas.map keyA = fs.map keyF → aas.map keyDA = fs.map keyDF → (∀ a ∈ aas, a.un = none) → (∀ g ∈ fs, ∀ b ∈ g.names, b ∈ y.names) → FrsR P C aas frs →
   Weaks y (fs.flatMap FSpec.sls ++ sl) (((fs.zip aas).flatMap fun fg => lookF fg.1 fg.2) ++ vs) ws →
   FrsR P C' (fillF fs ws).1 frs ∧ Weaks y sl vs (fillF fs ws).2 ∧ (fillF fs ws).1.map keyA = fs.map keyF
 | [], [], _, sl, vs, ws, _, _, _, _, .nil, h => ⟨.nil, by simpa [fillF] using h, rfl⟩
 | [], _ :: _, _, sl, vs, ws, hk, _, _, _, _, h => by simp at hk
 | _ :: _, [], _, sl, vs, ws, hk, _, _, _, _, h => by simp at hk
 | g :: fs, a :: aas, _, sl, vs, ws, hk, hkd, hun, hN, .cons hf hfs, h => by
  simp only [List.map_cons, List.cons.injEq] at hk hkd
  obtain ⟨hk1, hk2⟩ := hk
  obtain ⟨hd1, hd2⟩ := hkd
  have hd1 : a.marks.map ADef.key = g.marks.map DSpec.key := hd1
  have e1 : a.fn = g.fn := congrArg (·.1) hk1
  have e2 : a.items = g.items := congrArg (·.2.1) hk1
  have e3 : a.round = g.round := congrArg (·.2.2.1) hk1
  have e4 : a.dk = g.dk := congrArg (·.2.2.2) hk1
  simp only [List.zip_cons_cons, List.flatMap_cons, List.append_assoc] at h
  have hlen : g.sls.length = (lookF g a).length := by
   unfold FSpec.sls lookF
   rw [List.length_append, List.length_append, vals_len hd1, List.length_map, List.length_map]
  obtain ⟨h1, h2⟩ := Weaks.split hlen h
  obtain ⟨k1, k2, k3⟩ := fillF_sim I A hk2 hd2 (fun x hx => hun x (.tail _ hx)) (fun g hg => hN g (.tail _ hg)) hfs h2
  have h1 : Weaks y (g.slots.map (·.2) ++ g.marks.flatMap DSpec.sls) ((g.slots.map fun x => a.env.get x.1) ++ a.marks.flatMap ADef.vals) (ws.take g.sls.length) := h1
  obtain ⟨h1a, h1b⟩ := Weaks.split (by simp) h1
  simp only [List.length_map] at h1a h1b
  have hNg := hN g (.head _)
  unfold FSpec.names at hNg
  have hslen : g.sls.length = g.slots.length + (g.marks.flatMap DSpec.sls).length := by unfold FSpec.sls; rw [List.length_append, List.length_map]
  have t1 : (ws.take g.sls.length).take g.slots.length = ws.take g.slots.length := by rw [List.take_take, Nat.min_eq_left (by omega)]
  have t2 : ∀ {ds : List DSpec} {u : List AV} {n : Nat}, (ds.flatMap DSpec.sls).length ≤ n → fillD ds (u.take n) = fillD ds u := by
   intro ds
   induction ds with
   | nil => intro u n _; rfl
   | cons d ds ih =>
    intro u n hn
    cases d with
    | mark b => simp only [fillD]; rw [ih (by simpa [DSpec.sls] using hn)]
    | call f l =>
     simp only [List.flatMap_cons, DSpec.sls, List.length_append] at hn
     simp only [fillD]
     rw [List.take_take, Nat.min_eq_left (by omega), List.drop_take, ih (by omega)]
  have t3 : fillD g.marks ((ws.take g.sls.length).drop g.slots.length) = fillD g.marks (ws.drop g.slots.length) := by
   rw [List.drop_take, t2 (by omega)]
  rw [t1] at h1a
  obtain ⟨d1, d2⟩ := fillD_sim I A hd1 (fun b hb => hNg b (List.mem_append.2 (.inr (List.mem_append.2 (.inr (List.mem_append.2 (.inr hb))))))) h1b hf.defers
  rw [t3] at d1
  refine ⟨.cons ⟨hf.fn.trans e1, by rw [← e1]; exact hf.ok, ⟨zip_env I A hf.tmps.env (fun b hb => hNg b (List.mem_append.2 (.inl hb))) h1a, fun m hm => by simp at hm⟩, ?_, d1, ?_, ?_, ?_⟩ k1, k2, ?_⟩
  ·have := hf.todo
   rw [e1, e2] at this
   exact this.anew A fun b hb => hNg b (List.mem_append.2 (.inr (List.mem_append.2 (.inl hb))))
  ·have := hf.modeR
   rw [hun a (.head _)] at this
   exact this
  ·have := hf.kind
   rw [e4] at this
   exact this
  ·have := hf.round
   rw [e3] at this
   show RoundR C' g.round _
   cases hr : g.round with
   | none => rw [hr] at this; exact this
   | some l =>
    rw [hr] at this
    obtain ⟨c, q1, q2⟩ := this
    exact ⟨c, q1, q2.anew A (hNg l (List.mem_append.2 (.inr (List.mem_append.2 (.inr (List.mem_append.2 (.inl (by rw [hr]; simp))))))))⟩
  ·simp only [fillF, List.map_cons, k3]
   rfl
theorem lookO_len {o : OSpec} {x : Option AObj} (h : fitsO o x = true) : o.sls.length = (lookO o x).length := by
 unfold fitsO at h
 split at h
 ·simp only [Bool.and_eq_true] at h
  exact (Nat.eq_of_beq_eq_true h.2).symm
 ·rfl
 ·simp [OSpec.sls, lookO]
 ·rfl
 ·simp at h
theorem fillB_mem {h : Hp} : ∀ {bs : List (Nat × OSpec)} {ws : List AV}, (∀ b ∈ bs, fitsO b.2 (h.get b.1) = true) → Weaks y (bs.flatMap fun b => b.2.sls) (bs.flatMap fun b => lookO b.2 (h.get b.1)) ws →
  ∀ {b : Nat} {o : AObj}, (fillB bs ws).get b = some o → ∃ sp wo, (b, sp) ∈ bs ∧ o = fillO sp wo ∧ Weaks y sp.sls (lookO sp (h.get b)) wo
 | [], ws, _, _, b, o, e => by simp [fillB, Hp.get] at e
 | (i, sp) :: bs, ws, hf, hw, b, o, e => by
  simp only [List.flatMap_cons] at hw
  obtain ⟨h1, h2⟩ := Weaks.split (lookO_len (hf _ (.head _))) hw
  simp only [fillB] at e
  rw [Hp.get_cons] at e
  split at e
  ·rename_i hq
   subst hq
   exact ⟨sp, _, .head _, (Option.some.inj e).symm, h1⟩
  ·obtain ⟨sp', wo, k1, k2⟩ := fillB_mem (fun b hb => hf b (.tail _ hb)) h2 e
   exact ⟨sp', wo, .tail _ k1, k2⟩
theorem fillB_dom : ∀ {bs : List (Nat × OSpec)} {ws : List AV} {b : Nat}, b ∈ bs.map (·.1) → ∃ o, (fillB bs ws).get b = some o
 | [], _, _, h => by simp at h
 | (i, sp) :: bs, ws, b, h => by
  simp only [fillB]
  rw [Hp.get_cons]
  split
  ·exact ⟨_, rfl⟩
  ·rename_i hq
   refine fillB_dom ?_
   rcases List.mem_cons.1 h with rfl | h
   ·exact (hq rfl).elim
   ·exact h
theorem weaks_row {sl : List Sl} {vs ws : List AV} (h : Weaks y sl vs ws) {t : Ty} {xs : List t.den} (hm : AV.row t xs ∈ ws) : AV.row t xs ∈ vs := by
 induction h with
 | nil => simp at hm
 | cons h1 h2 ih =>
  rcases List.mem_cons.1 hm with hq | hq
  ·subst hq
   cases h1 with
   | dat q0 q1 q2 =>
    obtain ⟨hp, q3⟩ := packAll_same q1 q2
    rcases q3 with q | ⟨_, _, q⟩
    ·subst q; simp [packable] at hp
    ·simp at q
   | slc h => cases h
   | row => exact .head _
  ·exact .tail _ (ih hq)
theorem ObjR.anew (I : Inv P S0 w0 C y.hp) (A : Anew C C' y) {sp : OSpec} {wo : List AV} {x : AObj} {e : Ent} (hf : fitsO sp (some x) = true)
  (hN : ∀ b ∈ sp.names, b ∈ y.names) (hna : sp.noAny = true) (hw : Weaks y sp.sls (lookO sp (some x)) wo) (h : ObjR P C e x) : ObjR P C' { e with ver := 0 } (fillO sp wo) := by
 have hlen := lookO_len hf
 cases sp with
 | cells ro sl =>
  cases x with
  | cells v ro' ps =>
   obtain ⟨h1, h2, h3, h4⟩ := h
   have hpr := fun {cs} => weak_PR (cs := cs) I A hw hlen.symm (fun s hs => by
    have := List.all_eq_true.1 hna s hs
    simpa using this) (fun s hs b hb => hN b (List.mem_flatMap.2 ⟨s, hs, hb⟩))
   refine ⟨rfl, h2, fun t xs hm => h3 t xs (weaks_row hw hm), ?_⟩
   revert h4
   show (match e.cb with | none => _ | some c => _) → match e.cb with | none => _ | some c => _
   cases hcb : e.cb with
   | none =>
    rintro ⟨t, rfl⟩
    generalize hs : OSpec.sls (.cells ro sl) = sls at hw
    cases hw with
    | nil => rw [hs] at hlen; simp [lookO] at hlen
    | cons q1 q2 =>
     cases q2
     cases q1 with
     | dat q0 q1 q2 => simp [Eye.pur, pure1] at q0
     | slc h => cases h
     | pre h => cases h
     | row => exact ⟨t, rfl⟩
     | any =>
      simp only [OSpec.sls] at hs
      simp [OSpec.noAny, hs, Sl.isAny] at hna
   | some c =>
    rintro ⟨pre, k1, k2, k3⟩
    exact ⟨pre, hpr k1, by rw [A.w]; exact k2, by rw [A.w]; exact k3⟩
  | _ => simp [fitsO] at hf
 | loop st pend fn sl ps p d =>
  cases x with
  | loop st' pend' fn' env ps' p' d' =>
   simp only [fitsO, decide_eq_true_eq] at hf
   obtain ⟨rfl, rfl, rfl, rfl, rfl, rfl⟩ := hf
   obtain ⟨h1, c, hcb, lp, g1, g2, g3, g4, g5, g6, g7, g8, g9, ed, g10, g11, g12⟩ := h
   exact ⟨h1, c, hcb, lp, by rw [A.w]; exact g1, g2, g3, g4, g5, g6, g7, zip_env I A g8 (fun b hb => hN b (.tail _ hb)) hw, g9, _, A.ent _ (hN _ (.head _)) _ g10, g11, g12⟩
  | _ => simp [fitsO] at hf
 | deferred b =>
  cases x with
  | deferred b' =>
   have : b = b' := by simpa [fitsO] using hf
   subst this
   obtain ⟨h1, c, hcb, g⟩ := h
   exact ⟨h1, c, hcb, by rw [A.w]; exact g⟩
  | _ => simp [fitsO] at hf
theorem lastOK.key : ∀ {aas bs : List AFrame}, aas.map keyA = bs.map keyA → lastOK f aas → lastOK f bs
 | [], _, _, h => h.elim
 | [a], [b], e, h => by
  simp only [List.map_cons, List.map_nil, List.cons.injEq, and_true] at e
  have e1 : a.fn = b.fn := congrArg (·.1) e
  have e3 : a.round = b.round := congrArg (·.2.2.1) e
  have e4 : a.dk = b.dk := congrArg (·.2.2.2) e
  exact ⟨e1 ▸ h.1, e3 ▸ h.2.1, e4 ▸ h.2.2⟩
 | [a], [], e, h => by simp at e
 | [a], _ :: _ :: _, e, h => by simp at e
 | _ :: _ :: _, [], e, h => by simp at e
 | _ :: _ :: _, [_], e, h => by simp at e
 | a :: b :: r, c :: d :: q, e, h => by
  have e : (b :: r).map keyA = (d :: q).map keyA := (List.cons.inj e).2
  exact lastOK.key (aas := b :: r) (bs := d :: q) e h
theorem fill_sim {s : Spec} {st : St} {fr : Frame} {cs : List Frame} {ws : List AV} (S : StR P S0 w0 cs0 f C st fr cs) (hat : atCut s st = true) (hok : s.ok = true) (hw : Weaks ⟨st.hp, s.names⟩ s.sls (looks s st) ws) :
  ∃ C', C'.w = C.w ∧ StR P S0 w0 cs0 f C' (s.fill ws) fr cs := by
 obtain ⟨⟨⟨⟨hkey, hkeyD⟩, hun⟩, hfit⟩, hio⟩ : (((st.frames.map keyA = s.frames.map keyF ∧ st.frames.map keyDA = s.frames.map keyDF) ∧ ∀ a ∈ st.frames, a.un.isNone = true) ∧ ∀ b ∈ s.blocks, fitsO b.2 (st.hp.get b.1) = true) ∧ ∀ o, st.hp.get ioName = some o → ioName ∈ s.names := by
  unfold atCut at hat
  split at hat
  ·simp only [cond_eq_ite] at hat
   split at hat
   ·rename_i hq
    simp only [Bool.and_eq_true, decide_eq_true_eq, List.all_eq_true] at hat
    refine ⟨hat, fun o ho => ?_⟩
    simp only [Bool.and_eq_true, Bool.or_eq_true] at hq
    rcases hq.2 with h1 | h1
    ·rw [ho] at h1; simp at h1
    ·obtain ⟨x, hx, he⟩ := List.any_eq_true.1 h1
     rw [Nat.eq_of_beq_eq_true he]; exact hx
   ·simp at hat
  ·simp at hat
 simp only [Spec.ok, Bool.and_eq_true, List.all_eq_true, Nat.blt_eq] at hok
 obtain ⟨hF, hB⟩ := hok
 let y : Eye := ⟨st.hp, s.names⟩
 let RO' : Nat → Nat → Prop := fun c j => C.RO c j ∨ ∃ b e v ro ps, y.names.any (Nat.beq b) = false ∧ C.M b = some e ∧ e.cb = some c ∧ st.hp.get b = some (.cells v ro ps) ∧ j < partsSize ps
 let C' : Cx := ⟨C.w, RO', fun b => if b ∈ y.names then some (match C.M b with | some e => { e with ver := 0 } | none => ⟨0, none, 0, false⟩) else none⟩
 have A : Anew C C' y := ⟨rfl, fun _ _ q => .inl q, fun b hb e c v ro ps j q1 q2 q3 q4 => .inr ⟨b, e, v, ro, ps, hb, q1, q2, q3, q4⟩, fun b hb e he => by simp [C', hb, he], fun b hb he => by simp [C', hb, he]⟩
 have entOf : ∀ b e', C'.M b = some e' → b ∈ y.names ∧ ((∃ e, C.M b = some e ∧ e' = { e with ver := 0 }) ∨ (C.M b = none ∧ e' = ⟨0, none, 0, false⟩)) := by
  intro b e' he
  by_cases hb : b ∈ y.names
  ·refine ⟨hb, ?_⟩
   simp only [C', hb, if_true] at he
   have he := Option.some.inj he
   cases hq : C.M b with
   | none => rw [hq] at he; exact .inr ⟨rfl, he.symm⟩
   | some e => rw [hq] at he; exact .inl ⟨e, rfl, he.symm⟩
  ·simp [C', hb] at he
 have I : Inv P S0 w0 C y.hp := S.inv
 have hw' : Weaks y (s.frames.flatMap FSpec.sls ++ s.blocks.flatMap fun b => b.2.sls) (((s.frames.zip st.frames).flatMap fun fg => lookF fg.1 fg.2) ++ s.blocks.flatMap fun b => lookO b.2 (st.hp.get b.1)) ws := hw
 obtain ⟨k1, k2, k3⟩ := fillF_sim (P := P) I A (sl := s.blocks.flatMap fun b => b.2.sls) (vs := s.blocks.flatMap fun b => lookO b.2 (st.hp.get b.1)) hkey hkeyD (fun a ha => by have := hun a ha; simpa using this) (fun g hg b hb => any_beq (hF g hg b hb)) S.frs hw'
 refine ⟨C', rfl, k1, ?_, ?_, ?_⟩
 ·have hobj : ∀ b o, (fillB s.blocks (fillF s.frames ws).2).get b = some o → ∃ sp e', C'.M b = some e' ∧ ObjR P C' e' o ∧ (b, sp) ∈ s.blocks ∧
    (∀ e v ro ps c, C.M b = some e → e.cb = some c → st.hp.get b = some (.cells v true ps) → ro = true → ∃ ps', o = .cells 0 true ps' ∧ partsSize ps' = partsSize ps) := by
   intro b o ho
   obtain ⟨sp, wo, q1, q2, q3⟩ := fillB_mem (y := y) hfit k2 ho
   have hfb := hfit _ q1
   simp only at hfb
   have hbN : b ∈ y.names := List.mem_map.2 ⟨_, q1, rfl⟩
   have hb := hB _ q1
   cases hx : st.hp.get b with
   | some x =>
    rw [hx] at hfb q3
    obtain ⟨e, g1, g2⟩ := S.inv.obj _ _ hx
    have hobj2 := g2.anew I A hfb (fun c hcn => any_beq (hb.1.1 c hcn)) hb.2 q3
    refine ⟨sp, _, A.ent _ hbN _ g1, by rw [q2]; exact hobj2, q1, fun e2 v ro ps c r1 r2 r3 _ => ?_⟩
    obtain rfl := Option.some.inj r3
    cases sp with
    | cells ro' sl =>
     have hro : ro' = true := by
      simp only [fitsO, Bool.and_eq_true] at hfb
      simpa using hfb.1
     subst hro
     refine ⟨wo, q2, ?_⟩
     obtain ⟨_, _, _, t1⟩ := g2
     rw [g1] at r1
     obtain rfl := Option.some.inj r1
     rw [r2] at t1
     obtain ⟨pre, u1, _, _⟩ := t1
     have hlen := lookO_len hfb
     have hpr := weak_PR I A q3 hlen.symm (fun s hs => by
      have := List.all_eq_true.1 hb.2 s hs
      simpa using this) (fun s hs b' hb' => any_beq (hb.1.1 b' (List.mem_flatMap.2 ⟨s, hs, hb'⟩))) u1
     rw [← hpr.length, u1.length]
    | _ => simp [fitsO] at hfb
   | none =>
    rw [hx] at hfb q3
    have hM : C.M b = none := by
     cases hq : C.M b with
     | none => rfl
     | some e => obtain ⟨o, ho⟩ := S.inv.dom b e hq; rw [hx] at ho; simp at ho
    refine ⟨sp, _, A.born _ hbN hM, ?_, q1, fun e2 v ro ps c r1 r2 r3 _ => by simp at r3⟩
    unfold fitsO at hfb
    split at hfb
    ·rename_i hq; simp at hq
    ·rename_i ro t _
     have q3 : Weaks y [.row t] [.row t []] wo := q3
     cases q3 with
     | cons z1 z2 =>
      cases z2
      cases z1 with
      | row =>
       rw [q2]
       exact ⟨rfl, rfl, fun t' xs hm => by
        simp only [List.mem_singleton] at hm
        cases hm; rfl, t, rfl⟩
    ·rename_i hq; simp at hq
    ·rename_i hq; simp at hq
    ·simp at hfb
  refine ⟨S.inv.below, ?_, ?_, ?_, ?_, ?_, ?_, ?pin⟩
  ·intro b o ho
   obtain ⟨sp, e', q1, q2, _⟩ := hobj b o ho
   exact ⟨e', q1, q2⟩
  ·intro b e' he
   exact fillB_dom (entOf b e' he).1
  ·intro b e' c he hcb
   rcases (entOf b e' he).2 with ⟨e, q1, rfl⟩ | ⟨q1, rfl⟩
   ·exact S.inv.loc b e c q1 hcb
   ·simp at hcb
  ·intro b e1 b' e2 c he1 hc1 he2 hc2
   rcases (entOf b e1 he1).2 with ⟨e, q1, rfl⟩ | ⟨q1, rfl⟩
   ·rcases (entOf b' e2 he2).2 with ⟨e', q2, rfl⟩ | ⟨q2, rfl⟩
    ·exact S.inv.inj b e b' e' c q1 hc1 q2 hc2
    ·simp at hc2
   ·simp at hc1
  ·rintro c j (q | ⟨b, e, v, ro, ps, q0, q1, q2, q3, q4⟩)
   ·exact S.inv.ro c j q
   ·have := S.inv.loc b e c q1 q2
    exact ⟨this.2, .inr this.1⟩
  ·intro b e' c j he hcb hr
   obtain ⟨hbN, hcase⟩ := entOf b e' he
   rcases hcase with ⟨e, q1, rfl⟩ | ⟨q1, rfl⟩
   ·have hr0 : C.RO c j := by
     rcases hr with q | ⟨b', e2, v, ro, ps, r0, r1, r2, r3, r4⟩
     ·exact q
     ·obtain rfl := S.inv.inj _ _ _ _ _ q1 hcb r1 r2
      exfalso
      have : y.names.any (Nat.beq b) = true := List.any_eq_true.2 ⟨b, hbN, by simp⟩
      rw [r0] at this; simp at this
    obtain ⟨v, ps, g1, g2⟩ := S.inv.roO b e c j q1 hcb hr0
    obtain ⟨o, ho⟩ := fillB_dom (ws := (fillF s.frames ws).2) hbN
    obtain ⟨sp, e2, r1, r2, r3, r4⟩ := hobj b o ho
    obtain ⟨ps', z1, z2⟩ := r4 e v true ps c q1 hcb g1 rfl
    exact ⟨0, ps', by rw [z1] at ho; exact ho, by rw [z2]; exact g2⟩
   ·simp at hcb
  ·intro c hc
   obtain ⟨⟨e, h1, h2⟩, h3⟩ := S.inv.pin c hc
   obtain ⟨o, ho⟩ := S.inv.dom _ e h1
   have hm : ioName ∈ y.names := hio o ho
   exact ⟨⟨{ e with ver := 0 }, by simp [C', hm, h1], h2⟩, h3⟩
 ·intro z hz
  cases hq : C'.M z with
  | none => exact (hz hq).elim
  | some e' =>
   obtain ⟨hyN, _⟩ := entOf z e' hq
   obtain ⟨b, hb1, hb2⟩ := List.mem_map.1 hyN
   have := (hB _ hb1).1.2
   rw [hb2] at this
   exact this
 ·exact lastOK.key (by show st.frames.map keyA = (fillF s.frames ws).1.map keyA; rw [k3, hkey]) S.last
end
end Go.AM
end
section
namespace Go.AM
open Go.RowKit
theorem swapN_eq (a b n : Nat) : swapN a b n = if n = a then b else if n = b then a else n := by
 have e : ∀ x y : Nat, Nat.beq x y = decide (x = y) := fun x y => by
  by_cases h : x = y
  ·subst h; simp
  ·rw [decide_eq_false h]
   cases hq : Nat.beq x y with
   | false => rfl
   | true => exact (h (Nat.eq_of_beq_eq_true hq)).elim
 unfold swapN
 rw [e, e]
 by_cases h1 : n = a <;> by_cases h2 : n = b <;> simp [h1, h2]
theorem swapN_swapN (a b n : Nat) : swapN a b (swapN a b n) = n := by
 rw [swapN_eq, swapN_eq]
 grind
def Cx.sw (C : Cx) (g : Nat → Nat) : Cx := ⟨C.w, C.RO, fun n => C.M (g n)⟩
section
variable {C : Cx} {f g : Nat → Nat}
theorem Rep.sw : ∀ {t : Ty} {x : t.den} {cs : List Value}, Rep C t x cs → Rep (C.sw g) t x cs
 | .int _, _, _, h => h
 | .bool, _, _, h => h
 | .str, _, _, h => h
 | .lst t, _, _, ⟨a, n, c, e, e1, e2, h⟩ => ⟨a, n, c, e, e1, e2, h.imp id fun ⟨b, o, ds, e3, h1, h2⟩ => ⟨b, o, ds, e3, h1.mono fun _ _ => Rep.sw, h2⟩⟩
 | .arr _ t, _, _, ⟨e, h⟩ => ⟨e, h.mono fun _ _ => Rep.sw⟩
 | .unit, _, _, h => h
 | .pair _ _, _, _, ⟨c1, c2, e, h1, h2⟩ => ⟨c1, c2, e, h1.sw, h2.sw⟩
theorem OwnOK.sw {e : Ent} {t : Ty} {v : Value} (h : OwnOK C e t v) : OwnOK (C.sw g) e t v := h
theorem SlcOK.sw {e o m t i n v} (h : SlcOK C e o m t i n v) : SlcOK (C.sw g) e o m t i n v := h
mutual
theorem VR.sw (hg : ∀ n, g (f n) = n) : ∀ {a v}, VR C a v → VR (C.sw g) (a.sw f) v
 | _, _, .junk v => .junk v
 | _, _, .int h => .int h
 | _, _, .bool => .bool
 | _, _, .str h => .str h
 | _, _, .lst h => .lst h.sw
 | _, _, .nlst h k => .nlst h.sw k
 | _, _, .arr h => .arr h.sw
 | _, _, .rp h1 h2 => .rp h1.sw h2
 | _, _, .ptr (b := b) h1 h2 h3 h4 => .ptr (show C.M (g (f b)) = _ by rw [hg]; exact h1) h2 h3 h4
 | _, _, .own (b := b) h1 h2 h3 h4 => .own (show C.M (g (f b)) = _ by rw [hg]; exact h1) h2 h3 h4
 | _, _, .slc (b := b) h1 h2 h3 h4 => .slc (show C.M (g (f b)) = _ by rw [hg]; exact h1) h2 h3 h4
 | _, _, .nilSlc => .nilSlc
 | _, _, .nilPtr => .nilPtr
 | _, _, .nilFn => .nilFn
 | _, _, .nilIface => .nilIface
 | _, _, .fn (f := fn) h1 h2 h3 => by
  cases fn with
  | yield l =>
   obtain ⟨e, c, q1, q2, q3, q4⟩ := h1
   exact .fn (show FnR (C.sw g) (.yield (f l)) _ from ⟨e, c, by show C.M (g (f l)) = _; rw [hg]; exact q1, q2, q3, q4⟩) (VRs.sw hg h2) (VRs.sw hg h3)
  | func _ => exact .fn h1 (VRs.sw hg h2) (VRs.sw hg h3)
  | method _ => exact .fn h1 (VRs.sw hg h2) (VRs.sw hg h3)
  | methodOf _ _ => exact .fn h1 (VRs.sw hg h2) (VRs.sw hg h3)
  | via _ _ _ _ => exact .fn h1 (VRs.sw hg h2) (VRs.sw hg h3)
 | _, _, .iface h => .iface (VR.sw hg h)
 | _, _, .agg h => .agg (PR.sw hg h)
 | _, _, .tup h => .tup (VRs.sw hg h)
theorem VRs.sw (hg : ∀ n, g (f n) = n) : ∀ {a v}, VRs C a v → VRs (C.sw g) (swAll f a) v
 | _, _, .nil => .nil
 | _, _, .cons h1 h2 => .cons (VR.sw hg h1) (VRs.sw hg h2)
theorem PR.sw (hg : ∀ n, g (f n) = n) : ∀ {a v}, PR C a v → PR (C.sw g) (swAll f a) v
 | _, _, .nil => .nil
 | p :: _, _, .sc h1 h2 h3 h4 => .sc (VR.sw hg h1) (by cases p <;> first | exact h2 | (rename_i fn _ _; cases fn <;> exact h2)) h3 (PR.sw hg h4)
 | _, _, .arr h1 h2 => .arr h1.sw (PR.sw hg h2)
 | _, _, .row h1 h2 => .row (h1.mono fun _ _ => Rep.sw) (PR.sw hg h2)
end
theorem Env.sw_get : ∀ (e : Env) (t : Nat), (Env.sw f e).get t = (e.get t).sw f
 | [], t => rfl
 | (i, v) :: r, t => by
  have ih := Env.sw_get r t
  show Env.get ((i, v.sw f) :: Env.sw f r) t = _
  rw [Env.get_cons, Env.get_cons, ih]
  split <;> rfl
theorem Hp.sw_get (hg : ∀ n, g (f n) = n) (hf : ∀ n, f (g n) = n) : ∀ (h : Hp) (n : Nat), (Hp.sw f h).get n = (h.get (g n)).map (AObj.sw f)
 | [], n => rfl
 | (b, o) :: r, n => by
  have ih := Hp.sw_get hg hf r n
  show Hp.get ((f b, o.sw f) :: Hp.sw f r) n = _
  rw [Hp.get_cons, Hp.get_cons, ih]
  by_cases h1 : f b = n
  ·rw [if_pos h1, if_pos (by rw [← h1, hg])]; rfl
  ·rw [if_neg h1, if_neg (fun q => h1 (by rw [q, hf]))]
theorem EnvR.sw (hg : ∀ n, g (f n) = n) {e : Env} {tmps : Array Value} (h : EnvR C e tmps) : EnvR (C.sw g) (Env.sw f e) tmps := fun t => by rw [Env.sw_get]; exact (h t).sw hg
theorem swAll_row {f : Nat → Nat} (t : Ty) (xs : List t.den) (ps : List AV) (h : AV.row t xs ∈ swAll f ps) : AV.row t xs ∈ ps := by
 induction ps with
 | nil => simp [swAll] at h
 | cons p ps ih =>
  rcases List.mem_cons.1 h with h | h
  ·cases p with
   | row => rw [h]; exact .head _
   | fn fn x y => cases fn <;> exact absurd h (by simp [AV.sw])
   | _ => exact absurd h (by simp [AV.sw])
  ·exact .tail _ (ih h)
theorem sw_size (f : Nat → Nat) (p : AV) : (p.sw f).size = p.size := by
 cases p <;> first | rfl | (rename_i fn _ _; cases fn <;> rfl)
theorem swAll_size (f : Nat → Nat) : ∀ ps : List AV, partsSize (swAll f ps) = partsSize ps
 | [] => rfl
 | p :: ps => by rw [swAll, partsSize_cons, partsSize_cons, swAll_size f ps, sw_size]
theorem ObjR.sw {P : Program} (hg : ∀ n, g (f n) = n) {e : Ent} {o : AObj} (h : ObjR P C e o) : ObjR P (C.sw g) e (o.sw f) := by
 cases o with
 | cells ver ro ps =>
  obtain ⟨h1, h2, h3, h4⟩ := h
  refine ⟨h1, h2, fun t xs hm => h3 t xs (swAll_row t xs ps hm), ?_⟩
  cases hc : e.cb with
  | none => rw [hc] at h4; obtain ⟨t, rfl⟩ := h4; exact ⟨t, rfl⟩
  | some c => rw [hc] at h4; obtain ⟨pre, k1, k2, k3⟩ := h4; exact ⟨pre, k1.sw hg, k2, k3⟩
 | loop st pend fn env ps p d =>
  obtain ⟨h1, c, h2, l, h3, h4, h5, h6, h7, h8, h9, h10, h11, ed, h12, h13, h14⟩ := h
  exact ⟨h1, c, h2, l, h3, h4, h5, h6, h7, h8, h9, h10.sw hg, h11, ed, by show C.M (g (f d)) = _; rw [hg]; exact h12, h13, h14⟩
 | deferred b => exact h
theorem Inv.sw {P : Program} {S0 : Base} {w0 : World} {h : Hp} (hg : ∀ n, g (f n) = n) (hf : ∀ n, f (g n) = n) (hio : g ioName = ioName) (I : Inv P S0 w0 C h) : Inv P S0 w0 (C.sw g) (Hp.sw f h) where
 below := I.below
 obj b o ho := by
  rw [Hp.sw_get hg hf] at ho
  obtain ⟨o', h1, rfl⟩ := Option.map_eq_some_iff.1 ho
  obtain ⟨e, k1, k2⟩ := I.obj _ _ h1
  exact ⟨e, k1, k2.sw hg⟩
 dom b e he := by
  obtain ⟨o, ho⟩ := I.dom _ _ he
  exact ⟨_, by rw [Hp.sw_get hg hf, ho]; rfl⟩
 loc b e c h1 h2 := I.loc _ _ _ h1 h2
 inj b e b' e' c h1 h2 h3 h4 := by
  have := I.inj _ _ _ _ _ h1 h2 h3 h4
  rw [← hf b, ← hf b', this]
 ro := I.ro
 roO b e c j h1 h2 h3 := by
  obtain ⟨v, ps, k1, k2⟩ := I.roO _ _ _ _ h1 h2 h3
  exact ⟨v, swAll f ps, by rw [Hp.sw_get hg hf, k1]; rfl, by rw [swAll_size]; exact k2⟩
 pin c hc := by
  obtain ⟨⟨e, h1, h2⟩, h3⟩ := I.pin c hc
  exact ⟨⟨e, by show C.M (g ioName) = _; rw [hio]; exact h1, h2⟩, h3⟩
theorem NameR.sw (hg : ∀ n, g (f n) = n) {l c : Nat} (h : NameR C l c) : NameR (C.sw g) (f l) c := by
 obtain ⟨e, h1, h2, h3⟩ := h
 exact ⟨e, by show C.M (g (f l)) = _; rw [hg]; exact h1, h2, h3⟩
theorem ItemsR.sw {P : Program} (hg : ∀ n, g (f n) = n) {fn : FuncId} : ∀ {aas bs}, ItemsR P C fn aas bs → ItemsR P (C.sw g) fn (aas.map (AItem.sw f)) bs
 | _, _, .nil => .nil
 | _, _, .cons h k => by
  refine .cons ?_ (ItemsR.sw hg k)
  cases h with
  | code => exact .code
  | inBlock => exact .inBlock
  | inLoop => exact .inLoop
  | inScope => exact .inScope
  | inRegion h => exact .inRegion h
  | inDraw h1 h2 h3 h4 h5 h6 => exact .inDraw h1 h2 h3 h4 h5 h6
  | inRange h => exact .inRange (h.sw hg)
  | endRange h => exact .endRange (h.sw hg)
  | beginRound => exact .beginRound
  | jmp => exact .jmp
theorem swAll_append (f : Nat → Nat) : ∀ a b : List AV, swAll f (a ++ b) = swAll f a ++ swAll f b
 | [], _ => rfl
 | x :: a, b => by simp [swAll, swAll_append f a b]
theorem MarksR.sw (hg : ∀ n, g (f n) = n) : ∀ {aas bs}, MarksR C aas bs → MarksR (C.sw g) (aas.map (ADef.sw f)) bs
 | _, _, .nil => .nil
 | _, _, .cons h k => .cons (h.sw hg) (k.sw hg)
 | _, _, .call h k => .call (h.sw hg) (k.sw hg)
theorem FrR.sw {P : Program} (hg : ∀ n, g (f n) = n) {a : AFrame} {fr : Frame} (hu : a.un = none) (h : FrR P C a fr) : FrR P (C.sw g) (a.sw f) fr := by
 refine ⟨h.fn, h.ok, ⟨h.tmps.env.sw hg, fun m hm => by simp [AFrame.sw] at hm⟩, h.todo.sw hg, h.defers.sw hg, ?_, h.kind, ?_⟩
 ·have := h.modeR
  rw [hu] at this
  show ModeR _ a.un _
  rw [hu]; exact this
 ·have := h.round
  cases hr : a.round with
  | none => rw [hr] at this; show RoundR _ (a.round.map f) _; rw [hr]; exact this
  | some l => rw [hr] at this; obtain ⟨c, q1, q2⟩ := this; show RoundR _ (a.round.map f) _; rw [hr]; exact ⟨c, q1, q2.sw hg⟩
theorem FrsR.sw {P : Program} (hg : ∀ n, g (f n) = n) : ∀ {aas : List AFrame} {frs : List Frame}, (∀ a ∈ aas, a.un = none) → FrsR P C aas frs → FrsR P (C.sw g) (aas.map (AFrame.sw f)) frs
 | _, _, _, .nil => .nil
 | _, _, hu, .cons h k => .cons (h.sw hg (hu _ (.head _))) (FrsR.sw hg (fun a ha => hu a (.tail _ ha)) k)
theorem lastOK.sw {fn : FuncId} {f : Nat → Nat} : ∀ {aas : List AFrame}, lastOK fn aas → lastOK fn (aas.map (AFrame.sw f))
 | [], h => h
 | [a], ⟨h1, h2, h3⟩ => ⟨h1, by show a.round.map f = none; rw [h2]; rfl, h3⟩
 | _ :: b :: r, h => lastOK.sw (aas := b :: r) h
theorem StR.swap {P : Program} {S0 : Base} {w0 : World} {cs0 : List Frame} {fn : FuncId} {st : St} {fr : Frame} {cs : List Frame} (S : StR P S0 w0 cs0 fn C st fr cs) {a b : Nat} (ha : a ≠ ioName) (hb : b ≠ ioName) (hu : ∀ x ∈ st.frames, x.un = none) :
  StR P S0 w0 cs0 fn (C.sw (swapN a b)) (st.swap a b) fr cs where
 frs := S.frs.sw (swapN_swapN a b) hu
 inv := S.inv.sw (swapN_swapN a b) (swapN_swapN a b) (by rw [swapN_eq, if_neg (Ne.symm ha), if_neg (Ne.symm hb)])
 names y hy := by
  have h1 : swapN a b y < st.nx := S.names _ hy
  show y < max st.nx (max a b + 1)
  rw [swapN_eq] at h1
  split at h1
  ·omega
  ·split at h1 <;> omega
 last := S.last.sw
theorem sw_un {f : Nat → Nat} {st : St} {a b : Nat} (hu : ∀ x ∈ st.frames, x.un = none) : ∀ x ∈ (st.swap a b).frames, x.un = none := by
 intro x hx
 obtain ⟨y, h1, rfl⟩ := List.mem_map.1 hx
 exact hu y h1
theorem StR.turnK {P : Program} {S0 : Base} {w0 : World} {cs0 : List Frame} {fn : FuncId} {fr : Frame} {cs : List Frame} (s : Spec) : ∀ (n : Nat) {C : Cx} {st : St}, StR P S0 w0 cs0 fn C st fr cs → (∀ x ∈ st.frames, x.un = none) →
  ∃ C', C'.w = C.w ∧ StR P S0 w0 cs0 fn C' (AM.turnK s n st) fr cs
 | 0, C, st, S, _ => ⟨C, rfl, S⟩
 | n + 1, C, st, S, hu => by
  unfold AM.turnK
  split
  ·exact ⟨C, rfl, S⟩
  ·rename_i a b _
   rw [cond_eq_ite]
   split
   ·exact ⟨C, rfl, S⟩
   ·rename_i hne
    simp only [Bool.or_eq_true, not_or] at hne
    obtain ⟨C', h1, h2⟩ := StR.turnK s n (S.swap (a := a) (b := b) (fun e => hne.1 (by rw [e]; simp)) (fun e => hne.2 (by rw [e]; simp)) hu) (sw_un (f := id) hu)
    exact ⟨C', h1, h2⟩
theorem StR.turned {P : Program} {S0 : Base} {w0 : World} {cs0 : List Frame} {fn : FuncId} {fr : Frame} {cs : List Frame} {C : Cx} {st : St} (S : StR P S0 w0 cs0 fn C st fr cs) (s : Spec) : ∃ C', C'.w = C.w ∧ StR P S0 w0 cs0 fn C' (AM.turned s st) fr cs := by
 unfold AM.turned
 split
 ·rw [cond_eq_ite]
  split
  ·rename_i h
   simp only [Bool.and_eq_true] at h
   refine S.turnK s _ fun x hx => ?_
   have := List.all_eq_true.1 h.2 x hx
   simpa using this
  ·exact ⟨C, rfl, S⟩
 ·exact ⟨C, rfl, S⟩
end
end Go.AM
end
section
namespace Go.AM
open Go.RowKit
section
variable {α : Type} (P : Program) (S0 : Base) (w0 : World) (cs0 : List Frame) (f : FuncId) (fin : AV → Hp → Option α)
structure Goal (α : Type) (P : Program) (cs0 : List Frame) where
 at' : α → World → Frame → List Frame → Prop
 back : ∀ {r w fr cs w1 fr1 cs1}, Steps P (lone fr (cs ++ cs0) w) (lone fr1 (cs1 ++ cs0) w1) → at' r w1 fr1 cs1 → at' r w fr cs
def Reaches (r : α) (w : World) (fr : Frame) (cs : List Frame) : Prop :=
 ∃ C' fr' val v h, Steps P (lone fr (cs ++ cs0) w) (lone fr' cs0 C'.w) ∧ fr'.fn = f ∧ fr'.leaving P C'.w (.returned val) ∧ VR C' v val ∧ Inv P S0 w0 C' h ∧ fin v h = some r
def toEnd : Goal α P cs0 where
 at' := Reaches P S0 w0 cs0 f fin
 back := fun s ⟨C', fr', val, v, h, q, g⟩ => ⟨C', fr', val, v, h, s.trans q, g⟩
def Leaves (es : List Spec) (g : Exits es) (w : World) (fr : Frame) (cs : List Frame) : Prop :=
 ∃ C' st' fr' cs', Steps P (lone fr (cs ++ cs0) w) (lone fr' (cs' ++ cs0) C'.w) ∧ StR P S0 w0 cs0 f C' st' fr' cs' ∧ ∀ {β : Type} (K : St → Option β), contE es g K = K st'
def toExit (es : List Spec) : Goal (Exits es) P cs0 where
 at' := Leaves P S0 w0 cs0 f es
 back := fun s ⟨C', st', fr', cs', q, g⟩ => ⟨C', st', fr', cs', s.trans q, g⟩
variable {P}
def Good (G : Goal α P cs0) (c : Cut α) : Prop := ∀ (C : Cx) (st : St) (fr : Frame) (cs : List Frame) (v : Known c.spec.sls) (r : α), StR P S0 w0 cs0 f C st fr cs → atCut c.spec st = true → seeSt c.spec st = some v → c.f v = some r → G.at' r C.w fr cs
variable (P)
def SegGood (s : Seg) : Prop := ∀ (C : Cx) (st : St) (fr : Frame) (cs : List Frame) (v : Known s.entry.sls) (g : Exits s.exits), StR P S0 w0 cs0 f C st fr cs → atCut s.entry st = true → seeSt s.entry st = some v → s.f v = some g → Leaves P S0 w0 cs0 f s.exits g C.w fr cs
variable {P S0 w0 cs0 f fin} {G : Goal α P cs0}
theorem cutsOf_mem : ∀ {cuts : List (Cut α)} {st : St} {q : Option α} {r : α}, cutsOf cuts st = some q → q = some r → ∃ c ∈ cuts, atCut c.spec (turned c.spec st) = true ∧ ∃ v, seeSt c.spec (turned c.spec st) = some v ∧ c.f v = some r
 | [], st, q, _, h, _ => by simp [cutsOf] at h
 | c :: cs, st, q, r, h, hr => by
  simp only [cutsOf, cond_eq_ite] at h
  split at h
  ·rename_i ha
   split at h
   ·rename_i v hv
    have h := Option.some.inj h
    subst hr
    exact ⟨c, .head _, ha, v, hv, h⟩
   ·obtain ⟨c', h1, h2⟩ := cutsOf_mem h hr
    exact ⟨c', .tail _ h1, h2⟩
  ·obtain ⟨c', h1, h2⟩ := cutsOf_mem h hr
   exact ⟨c', .tail _ h1, h2⟩
theorem segRun_mem {K K0 : St → Option α} : ∀ {segs : List Seg} {st : St} {r : α}, segRun K K0 segs st = some r → K0 st = some r ∨ ∃ s ∈ segs, atCut s.entry (turned s.entry st) = true ∧ ∃ v g, seeSt s.entry (turned s.entry st) = some v ∧ s.f v = some g ∧ contE s.exits g K = some r
 | [], st, r, h => .inl h
 | s :: segs, st, r, h => by
  simp only [segRun, cond_eq_ite] at h
  split at h
  ·rename_i ha
   split at h
   ·rename_i v hv
    rw [Option.bind_eq_some_iff] at h
    obtain ⟨g, h1, h2⟩ := h
    exact .inr ⟨s, .head _, ha, v, g, hv, h1, h2⟩
   ·rcases segRun_mem h with k | ⟨s', k1, k2⟩
    ·exact .inl k
    ·exact .inr ⟨s', .tail _ k1, k2⟩
  ·rcases segRun_mem h with k | ⟨s', k1, k2⟩
   ·exact .inl k
   ·exact .inr ⟨s', .tail _ k1, k2⟩
theorem run_sound {Φ : Ora} {inl : FuncId → Bool} {cuts : List (Cut α)} {segs : List Seg} (O : OraOK P S0 w0 Φ) (hend : ∀ r w fr cs, Reaches P S0 w0 cs0 f fin r w fr cs → G.at' r w fr cs)
  (hc : ∀ c ∈ cuts, Good S0 w0 cs0 f G c) (hs : ∀ s ∈ segs, SegGood P S0 w0 cs0 f s) : ∀ (n : Nat) {look : Bool} {C : Cx} {st : St} {fr : Frame} {cs : List Frame} {r : α},
  StR P S0 w0 cs0 f C st fr cs → runS P Φ inl cuts segs fin n look st = some r → G.at' r C.w fr cs
 | 0, look, C, st, fr, cs, r, S, h => by simp [runS] at h
 | n + 1, true, C, st, fr, cs, r, S, h => by
  simp only [runS, cond_true] at h
  split at h
  ·rename_i q hq
   obtain ⟨c, g1, g2, v, g3, g4⟩ := cutsOf_mem hq h
   obtain ⟨C1, w1, S1⟩ := S.turned c.spec
   rw [← w1]
   exact hc c g1 C1 _ fr cs v r S1 g2 g3 g4
  ·rcases segRun_mem h with k | ⟨s, k1, k2, v, g, k3, k4, k5⟩
   ·exact run_sound O hend hc hs n S k
   ·obtain ⟨C1, w1, S1⟩ := S.turned s.entry
    obtain ⟨C2, st2, fr2, cs2, z1, z2, z3⟩ := hs s k1 C1 _ fr cs v g S1 k2 k3 k4
    rw [w1] at z1
    rw [z3] at k5
    exact G.back z1 (run_sound O hend hc hs n z2 k5)
 | n + 1, false, C, st, fr, cs, r, S, h => by
  simp only [runS, cond_false] at h
  obtain ⟨out, h1, h2⟩ := F.run_ev h
  have k := stepA_sound O S h1
  cases out with
  | done v hp =>
   obtain ⟨C', fr', val, q1, q2, q3, q4, q5⟩ := k
   exact hend _ _ _ _ ⟨C', fr', val, v, hp, q1, q2, q3, q4, q5, h2⟩
  | go st' =>
   obtain ⟨C', fr', cs', q1, q2⟩ := k
   exact G.back q1 (run_sound O hend hc hs n q2 h2)
theorem good_of_run {Φ : Ora} {inl : FuncId → Bool} {cuts : List (Cut α)} {segs : List Seg} {n : Nat} {look : Bool} {s : Spec} {g : Known s.sls → Option α} (O : OraOK P S0 w0 Φ) (hend : ∀ r w fr cs, Reaches P S0 w0 cs0 f fin r w fr cs → G.at' r w fr cs)
  (hc : ∀ c ∈ cuts, Good S0 w0 cs0 f G c) (hs : ∀ s ∈ segs, SegGood P S0 w0 cs0 f s) (hok : s.ok = true) (h : ∀ v, runS P Φ inl cuts segs fin n look (s.mk' v) = g v) : Good S0 w0 cs0 f G ⟨s, g⟩ := by
 intro C st fr cs v r S hat hv hr
 have hr : g v = some r := hr
 rw [← h] at hr
 obtain ⟨C', hw, S'⟩ := fill_sim S hat hok (seeAll_weak hv)
 have := run_sound O hend hc hs n S' hr
 rw [hw] at this
 exact this
theorem exit_good : ∀ {es : List Spec} {β : Type} {G : Goal β P cs0} {k : Exits es → β}, (∀ e ∈ es, e.ok = true) → (∀ g w fr cs, Leaves P S0 w0 cs0 f es g w fr cs → G.at' (k g) w fr cs) → ∀ c ∈ exitCuts es k, Good S0 w0 cs0 f G c
 | [], β, G, k, _, _, c, hc => by simp [exitCuts] at hc
 | [e], β, G, k, hok, hk, c, hc => by
  simp only [exitCuts, List.mem_singleton] at hc
  subst hc
  intro C st fr cs v r S hat hv hr
  obtain rfl := Option.some.inj hr
  obtain ⟨C', hw, S'⟩ := fill_sim S hat (hok e (.head _)) (seeAll_weak hv)
  refine hk _ _ _ _ ⟨C', _, fr, cs, by rw [hw]; exact .refl P _, S', fun K => rfl⟩
 | e :: e' :: es, β, G, k, hok, hk, c, hc => by
  simp only [exitCuts, List.mem_cons] at hc
  rcases hc with rfl | hc
  ·intro C st fr cs v r S hat hv hr
   obtain rfl := Option.some.inj hr
   obtain ⟨C', hw, S'⟩ := fill_sim S hat (hok e (.head _)) (seeAll_weak hv)
   refine hk _ _ _ _ ⟨C', _, fr, cs, by rw [hw]; exact .refl P _, S', fun K => rfl⟩
  ·refine exit_good (es := e' :: es) (G := G) (k := fun g => k (.inr g)) (fun x hx => hok x (.tail _ hx)) (fun g w fr cs ⟨C', st', fr', cs', q1, q2, q3⟩ => hk _ _ _ _ ⟨C', st', fr', cs', q1, q2, fun K => ?_⟩) c ?_
   ·exact q3 K
   ·exact hc
theorem limO_some {β γ : Type} {seq : Nat → β → Option γ} {a : β} {r : γ} (h : limO seq a = some r) : ∃ k, seq k a = some r := by
 unfold limO at h
 split at h
 ·exact ⟨_, h⟩
 ·simp at h
theorem good_lfp {s : Spec} {b : (Known s.sls → Option α) → Known s.sls → Option α} (h : ∀ g, Good S0 w0 cs0 f G ⟨s, g⟩ → Good S0 w0 cs0 f G ⟨s, b g⟩) : Good S0 w0 cs0 f G ⟨s, lfp b⟩ := by
 have key : ∀ k, Good S0 w0 cs0 f G ⟨s, iter b k⟩ := by
  intro k
  induction k with
  | zero => intro C st fr cs v r _ _ _ hr; simp [iter] at hr
  | succ k ih => exact h _ ih
 intro C st fr cs v r S hat hv hr
 obtain ⟨k, hk⟩ := limO_some hr
 exact key k C st fr cs v r S hat hv hk
theorem seg_lfp {Φ : Ora} {inl : FuncId → Bool} {segs : List Seg} {n : Nat} {look : Bool} {s : Spec} {es : List Spec} {b : (Known s.sls → Option (Exits es)) → Known s.sls → Option (Exits es)} (O : OraOK P S0 w0 Φ)
  (hs : ∀ s ∈ segs, SegGood P S0 w0 cs0 f s) (hok : s.ok = true) (hes : ∀ e ∈ es, e.ok = true) (h : ∀ self v, runS P Φ inl (⟨s, self⟩ :: exitCuts es id) segs (fun _ _ => none) n look (s.mk' v) = b self v) : SegGood P S0 w0 cs0 f ⟨s, es, lfp b⟩ := by
 have key : Good S0 w0 cs0 f (toExit P S0 w0 cs0 f es) ⟨s, lfp b⟩ := by
  refine good_lfp fun g hg => ?_
  refine good_of_run (fin := fun _ _ => none) O (fun r w fr cs ⟨C', fr', val, v, h, _, _, _, _, _, q⟩ => by simp at q) ?_ hs hok (h g)
  intro c hc
  rcases List.mem_cons.1 hc with rfl | hc
  ·exact hg
  ·exact exit_good (k := id) hes (fun g w fr cs q => q) c hc
 exact fun C st fr cs v g S hat hv hr => key C st fr cs v g S hat hv hr
theorem seg_iter {Φ : Ora} {inl : FuncId → Bool} {segs : List Seg} {n : Nat} {look : Bool} {s : Spec} {es : List Spec} {b : (Known s.sls → Option (Exits es)) → Known s.sls → Option (Exits es)} (O : OraOK P S0 w0 Φ)
  (hs : ∀ s ∈ segs, SegGood P S0 w0 cs0 f s) (hok : s.ok = true) (hes : ∀ e ∈ es, e.ok = true) (h : ∀ self v, runS P Φ inl (⟨s, self⟩ :: exitCuts es id) segs (fun _ _ => none) n look (s.mk' v) = b self v) (k : Nat) : SegGood P S0 w0 cs0 f ⟨s, es, iter b k⟩ := by
 have key : ∀ k, Good S0 w0 cs0 f (toExit P S0 w0 cs0 f es) ⟨s, iter b k⟩ := by
  intro k
  induction k with
  | zero => intro C st fr cs v r _ _ _ hr; simp [iter] at hr
  | succ k ih =>
   refine good_of_run (fin := fun _ _ => none) O (fun r w fr cs ⟨C', fr', val, v, h, _, _, _, _, _, q⟩ => by simp at q) ?_ hs hok (h (iter b k))
   intro c hc
   rcases List.mem_cons.1 hc with rfl | hc
   ·exact ih
   ·exact exit_good (k := id) hes (fun g w fr cs q => q) c hc
 exact fun C st fr cs v g S hat hv hr => key k C st fr cs v g S hat hv hr
theorem seg_loop {Φ : Ora} {inl : FuncId → Bool} {segs : List Seg} {n : Nat} {look : Bool} {s : Spec} {es : List Spec} {b : (Known s.sls → Option (Exits es)) → Known s.sls → Option (Exits es)} (m : Mode) (O : OraOK P S0 w0 Φ)
  (hs : ∀ s ∈ segs, SegGood P S0 w0 cs0 f s) (hok : s.ok = true) (hes : ∀ e ∈ es, e.ok = true) (h : ∀ self v, runS P Φ inl (⟨s, self⟩ :: exitCuts es id) segs (fun _ _ => none) n look (s.mk' v) = b self v) : SegGood P S0 w0 cs0 f ⟨s, es, loop m b⟩ := by
 cases m with
 | lim => exact seg_lfp O hs hok hes h
 | fuel k => exact seg_iter O hs hok hes h k
theorem seg_run {Φ : Ora} {inl : FuncId → Bool} {segs : List Seg} {n : Nat} {look : Bool} {s : Spec} {es : List Spec} {b : Known s.sls → Option (Exits es)} (O : OraOK P S0 w0 Φ)
  (hs : ∀ s ∈ segs, SegGood P S0 w0 cs0 f s) (hok : s.ok = true) (hes : ∀ e ∈ es, e.ok = true) (h : ∀ v, runS P Φ inl (exitCuts es id) segs (fun _ _ => none) n look (s.mk' v) = b v) : SegGood P S0 w0 cs0 f ⟨s, es, b⟩ := by
 have key : Good S0 w0 cs0 f (toExit P S0 w0 cs0 f es) ⟨s, b⟩ :=
  good_of_run (fin := fun _ _ => none) O (fun r w fr cs ⟨C', fr', val, v, h, _, _, _, _, _, q⟩ => by simp at q) (exit_good (k := id) hes (fun g w fr cs q => q)) hs hok h
 exact fun C st fr cs v g S hat hv hr => key C st fr cs v g S hat hv hr
end
end Go.AM
end
section
namespace Go.AM
open Go.RowKit
theorem F.ev_run {β α : Type} {K : β → Option α} {r : α} {x : F β} {b : β} (h : x.Ev b) (hk : K b = some r) : x.run K = some r := by
 induction h with
 | ret => exact hk
 | guard _ ih => exact ih hk
 | iteT _ ih => exact ih hk
 | iteF _ ih => exact ih hk
 | call e _ ih => subst e; exact ih hk
def Cont {α β : Type} (b : (α → Option β) → α → Option β) : Prop :=
 ∀ g v r, b g v = some r → (∀ g', b g' v = some r) ∨ ∃ u, g u = some r ∧ ∀ g', g' u = some r → b g' v = some r
section
variable {α β : Type} {b : (α → Option β) → α → Option β}
theorem iter_up (h : Cont b) : ∀ k v r, iter b k v = some r → iter b (k + 1) v = some r
 | 0, v, r, e => by simp [iter] at e
 | k + 1, v, r, e => by
  have e : b (iter b k) v = some r := e
  show b (iter b (k + 1)) v = some r
  rcases h _ _ _ e with q | ⟨u, q1, q2⟩
  ·exact q _
  ·exact q2 _ (iter_up h k u r q1)
theorem iter_le (h : Cont b) {k m : Nat} (hkm : k ≤ m) {v : α} {r : β} (e : iter b k v = some r) : iter b m v = some r := by
 induction hkm with
 | refl => exact e
 | step _ ih => exact iter_up h _ _ _ ih
theorem lfp_iff (h : Cont b) (v : α) (r : β) : lfp b v = some r ↔ ∃ k, iter b k v = some r := by
 constructor
 ·exact limO_some
 ·rintro ⟨k, hk⟩
  have hex : ∃ k, (iter b k v).isSome = true := ⟨k, by rw [hk]; rfl⟩
  unfold lfp limO
  rw [dif_pos hex]
  have hs := Classical.choose_spec hex
  obtain ⟨r', hr'⟩ := Option.isSome_iff_exists.1 hs
  rw [hr']
  rcases Nat.le_total k (Classical.choose hex) with hle | hle
  ·rw [iter_le h hle hk] at hr'; exact hr'.symm
  ·rw [iter_le h hle hr'] at hk; exact hk
theorem lfp_eq (h : Cont b) (v : α) : lfp b v = b (lfp b) v := by
 have key : ∀ r, lfp b v = some r ↔ b (lfp b) v = some r := by
  intro r
  rw [lfp_iff h]
  constructor
  ·rintro ⟨k, hk⟩
   cases k with
   | zero => simp [iter] at hk
   | succ k =>
    have hk : b (iter b k) v = some r := hk
    rcases h _ _ _ hk with q | ⟨u, q1, q2⟩
    ·exact q _
    ·exact q2 _ ((lfp_iff h u r).2 ⟨k, q1⟩)
  ·intro e
   rcases h _ _ _ e with q | ⟨u, q1, q2⟩
   ·exact ⟨1, q _⟩
   ·obtain ⟨k, hk⟩ := (lfp_iff h u r).1 q1
    exact ⟨k + 1, q2 _ hk⟩
 cases h1 : lfp b v with
 | some r => exact ((key r).1 h1).symm
 | none =>
  cases h2 : b (lfp b) v with
  | none => rfl
  | some r => rw [(key r).2 h2] at h1; simp at h1
end
theorem contE_dep {α : Type} {es : List Spec} {g : Exits es} {K : St → Option α} : ∃ st, ∀ {β : Type} (K' : St → Option β), contE es g K' = K' st := by
 induction es with
 | nil => exact nomatch g
 | cons e es ih =>
  cases es with
  | nil => exact ⟨e.mk' g, fun K' => rfl⟩
  | cons e' es =>
   cases g with
   | inl v => exact ⟨e.mk' v, fun K' => rfl⟩
   | inr g => obtain ⟨st, h⟩ := ih (g := g); exact ⟨st, fun K' => h K'⟩
theorem run_dep {α : Type} {P : Program} {Φ : Ora} {inl : FuncId → Bool} {cuts : List (Cut α)} {segs : List Seg} {fin : AV → Hp → Option α} {s : Spec} {g : Known s.sls → Option α} : ∀ (n : Nat) {look : Bool} {st : St} {r : α},
  runS P Φ inl (⟨s, g⟩ :: cuts) segs fin n look st = some r → (∀ g', runS P Φ inl (⟨s, g'⟩ :: cuts) segs fin n look st = some r) ∨ ∃ u, g u = some r ∧ ∀ g', g' u = some r → runS P Φ inl (⟨s, g'⟩ :: cuts) segs fin n look st = some r
 | 0, look, st, r, h => by simp [runS] at h
 | n + 1, false, st, r, h => by
  simp only [runS, cond_false] at h
  obtain ⟨out, h1, h2⟩ := F.run_ev h
  cases out with
  | done v hp => exact .inl fun g' => by simp only [runS, cond_false]; exact F.ev_run h1 h2
  | go st' =>
   rcases run_dep n h2 with q | ⟨u, q1, q2⟩
   ·exact .inl fun g' => by simp only [runS, cond_false]; exact F.ev_run h1 (q g')
   ·exact .inr ⟨u, q1, fun g' hg' => by simp only [runS, cond_false]; exact F.ev_run h1 (q2 g' hg')⟩
 | n + 1, true, st, r, h => by
  simp only [runS, cond_true] at h
  have alt : (∃ u, atCut s (turned s st) = true ∧ seeSt s (turned s st) = some u) ∨ ∀ g' : Known s.sls → Option α, cutsOf (⟨s, g'⟩ :: cuts) st = cutsOf cuts st := by
   by_cases hc : atCut s (turned s st) = true
   ·cases hv : seeSt s (turned s st) with
    | none => exact .inr fun g' => by simp [cutsOf, hc, hv]
    | some u => exact .inl ⟨u, hc, rfl⟩
   ·have hc : atCut s (turned s st) = false := by simpa using hc
    exact .inr fun g' => by simp [cutsOf, hc]
  rcases alt with ⟨u, hc, hv⟩ | hcuts
  ·have h2 : g u = some r := by simpa [cutsOf, hc, hv] using h
   exact .inr ⟨u, h2, fun g' hg' => by simp only [runS, cond_true]; simp [cutsOf, hc, hv, hg']⟩
  ·rw [hcuts] at h
   cases hq : cutsOf cuts st with
   | some q =>
    rw [hq] at h
    exact .inl fun g' => by simp only [runS, cond_true]; simp only [hcuts, hq]; exact h
   | none =>
    rw [hq] at h
    have key : ∀ {segs' : List Seg}, segRun (runS P Φ inl (⟨s, g⟩ :: cuts) segs fin n true) (runS P Φ inl (⟨s, g⟩ :: cuts) segs fin n false) segs' st = some r →
      (∀ g', segRun (runS P Φ inl (⟨s, g'⟩ :: cuts) segs fin n true) (runS P Φ inl (⟨s, g'⟩ :: cuts) segs fin n false) segs' st = some r) ∨
      ∃ u, g u = some r ∧ ∀ g', g' u = some r → segRun (runS P Φ inl (⟨s, g'⟩ :: cuts) segs fin n true) (runS P Φ inl (⟨s, g'⟩ :: cuts) segs fin n false) segs' st = some r := by
     intro segs'
     induction segs' with
     | nil => intro e; exact run_dep n e
     | cons sg segs' ih =>
      intro e
      simp only [segRun, cond_eq_ite] at e ⊢
      split at e
      ·rename_i ha
       simp only [ha, if_true]
       split at e
       ·rename_i v hv
        rw [Option.bind_eq_some_iff] at e
        obtain ⟨x, e1, e2⟩ := e
        obtain ⟨st2, hst⟩ := contE_dep (g := x) (K := runS P Φ inl (⟨s, g⟩ :: cuts) segs fin n true)
        rw [hst] at e2
        rcases run_dep n e2 with q | ⟨u, q1, q2⟩
        ·exact .inl fun g' => by rw [e1]; show contE _ _ _ = _; rw [hst]; exact q g'
        ·exact .inr ⟨u, q1, fun g' hg' => by rw [e1]; show contE _ _ _ = _; rw [hst]; exact q2 g' hg'⟩
       ·exact ih e
      ·rename_i ha
       simp only [ha]
       exact ih e
    rcases key h with q | ⟨u, q1, q2⟩
    ·exact .inl fun g' => by simp only [runS, cond_true]; simp only [hcuts, hq]; exact q g'
    ·exact .inr ⟨u, q1, fun g' hg' => by simp only [runS, cond_true]; simp only [hcuts, hq]; exact q2 g' hg'⟩
abbrev KS (P : Program) (Φ : Ora) (inl : FuncId → Bool) (e : Spec) (x : List Spec) (segs : List Seg) (b : (Known e.sls → Option (Exits x)) → Known e.sls → Option (Exits x)) : Prop :=
 ∀ (self : Known e.sls → Option (Exits x)) (v : Known e.sls), runS P Φ inl (⟨e, self⟩ :: exitCuts x id) segs (fun _ _ => none) 20000 false (e.mk' v) = b self v
theorem seg_ok {P : Program} {S0 : Base} {w0 : World} {cs0 : List Frame} {f : FuncId} {Φ : Ora} {inl : FuncId → Bool} {segs : List Seg} {s : Spec} {es : List Spec} {b : (Known s.sls → Option (Exits es)) → Known s.sls → Option (Exits es)} (m : Mode) (O : OraOK P S0 w0 Φ)
  (hs : ∀ s ∈ segs, SegGood P S0 w0 cs0 f s) (hok : s.ok = true) (hes : es.all Spec.ok = true) (h : KS P Φ inl s es segs b) : SegGood P S0 w0 cs0 f ⟨s, es, loop m b⟩ :=
 seg_loop m O hs hok (fun e he => List.all_eq_true.1 hes e he) h
theorem cont_of_run {α : Type} {P : Program} {Φ : Ora} {inl : FuncId → Bool} {cuts : List (Cut α)} {segs : List Seg} {fin : AV → Hp → Option α} {n : Nat} {look : Bool} {s : Spec} {b : (Known s.sls → Option α) → Known s.sls → Option α}
  (h : ∀ self v, runS P Φ inl (⟨s, self⟩ :: cuts) segs fin n look (s.mk' v) = b self v) : Cont b := by
 intro g v r e
 rw [← h] at e
 rcases run_dep n e with q | ⟨u, q1, q2⟩
 ·exact .inl fun g' => by rw [← h]; exact q g'
 ·exact .inr ⟨u, q1, fun g' hg' => by rw [← h]; exact q2 g' hg'⟩
theorem KS.q {P : Program} {Φ : Ora} {inl : FuncId → Bool} {e : Spec} {x : List Spec} {segs : List Seg} {b : (Known e.sls → Option (Exits x)) → Known e.sls → Option (Exits x)} (h : KS P Φ inl e x segs b) (v : Known e.sls) : loop .lim b v = b (loop .lim b) v := lfp_eq (cont_of_run h) v
end Go.AM
end
section
namespace Go.AM
inductive Sh where
 | one (t : Ty)
 | ag (t : Ty)
def Sh.ty : Sh → Ty
 | .one t => t
 | .ag t => t
def Sh.enc (s : Sh) (x : s.ty.den) : AV :=
 match s, x with
 | .one t, x => asOne (inj t x)
 | .ag t, x => .agg (inj t x)
def Sh.dec (s : Sh) (v : AV) : Option s.ty.den :=
 match s with
 | .one t => packAll t [v]
 | .ag t => match v with
  | .agg ps => packAll t ps
  | _ => none
def Shs : List Sh → Type
 | [] => Unit
 | s :: r => s.ty.den × Shs r
def encs : (l : List Sh) → Shs l → List AV
 | [], _ => []
 | s :: r, x => s.enc x.1 :: encs r x.2
def decs : (l : List Sh) → List AV → Option (Shs l)
 | [], vs => match vs with
  | [] => some ()
  | _ :: _ => none
 | s :: r, vs => match vs with
  | [] => none
  | v :: vs => match s.dec v with
   | some x => (match decs r vs with | some y => some (x, y) | none => none)
   | none => none
def zeros : (l : List Sh) → Shs l
 | [] => ()
 | s :: r => (s.ty.zero, zeros r)
inductive Rk where
 | sh (s : Sh)
 | own (t : Ty)
def Rk.den : Rk → Type
 | .sh s => s.ty.den
 | .own t => List t.den
def Rks : List Rk → Type
 | [] => Unit
 | k :: r => k.den × Rks r
inductive Rsh where
 | one (k : Rk)
 | tup (l : List Rk)
def Rsh.den : Rsh → Type
 | .one k => k.den
 | .tup l => Rks l
def Rk.zero : (k : Rk) → k.den
 | .sh s => s.ty.zero
 | .own t => ([] : List t.den)
def Rks.zero : (l : List Rk) → Rks l
 | [] => ()
 | k :: r => (k.zero, Rks.zero r)
def Rsh.zero : (r : Rsh) → r.den
 | .one k => k.zero
 | .tup l => Rks.zero l
def Rk.enc (nx : Nat) : (k : Rk) → k.den → AV
 | .sh s, x => s.enc x
 | .own t, _ => .own nx 0 t
def Rk.upd (nx : Nat) : (k : Rk) → k.den → Upd
 | .sh _, _ => []
 | .own t, x => [(nx, .cells 0 false [.row t x])]
def Rks.enc (nx : Nat) : (l : List Rk) → Rks l → List AV
 | [], _ => []
 | k :: r, x => k.enc nx x.1 :: Rks.enc nx r x.2
def Rks.upd (nx : Nat) : (l : List Rk) → Rks l → Upd
 | [], _ => []
 | k :: r, x => k.upd nx x.1 ++ Rks.upd nx r x.2
def Rsh.enc (nx : Nat) : (r : Rsh) → r.den → AV
 | .one k, x => k.enc nx x
 | .tup l, x => .tup (Rks.enc nx l x)
def Rsh.upd (nx : Nat) : (r : Rsh) → r.den → Upd
 | .one k, x => k.upd nx x
 | .tup l, x => Rks.upd nx l x
def Rk.blk : Rk → AV → Option Nat
 | .own _, .own b _ _ => some b
 | .own _, .slc b _ _ _ _ _ _ => some b
 | _, _ => none
def Rks.blk : List Rk → List AV → Option Nat
 | k :: r, v :: vs => (match k.blk v with | some b => some b | none => Rks.blk r vs)
 | _, _ => none
def ownRow (h : Hp) (t : Ty) (v : AV) : Option (List t.den) :=
 match v with
 | .own b ver t0 => (match h.row b ver with
  | some (true, u) => bif Nat.beq t0.size t.size then asRow t u else none
  | _ => none)
 | .slc b ver 0 none t0 i n => (match h.row b ver with
  | some (true, u) => bif Nat.beq t0.size t.size && decide (i = 0) && decide (0 < u.xs.length) then (match asRow t u with | some xs => some (List.take n.toNat xs) | none => none) else none
  | _ => none)
 | .nilSlc => some []
 | _ => none
def away (o : Option Nat) (l : List Nat) : Bool := match o with | some b => !(l.any (Nat.beq b)) | none => true
def Rk.fin (h : Hp) (o : Option Nat) (k : Rk) (v : AV) : Option k.den :=
 match k with
 | .sh s => bif away o (refsA v) then (match pureA h v with | some w => s.dec w | none => none) else none
 | .own t => ownRow h t v
def Rks.fin (h : Hp) (o : Option Nat) : (l : List Rk) → List AV → Option (Rks l)
 | [], vs => match vs with
  | [] => some ()
  | _ :: _ => none
 | k :: r, vs => match vs with
  | [] => none
  | v :: vs => match k.fin h o v with
   | some x => (match Rks.fin h o r vs with | some y => some (x, y) | none => none)
   | none => none
def Rk.isOwn : Rk → Bool
 | .own _ => true
 | _ => false
def Rsh.okOwn : Rsh → Bool
 | .one _ => true
 | .tup l => Nat.ble (l.filter Rk.isOwn).length 1
def Rsh.fin (r : Rsh) (v : AV) (h : Hp) : Option r.den :=
 match r with
 | .one k => k.fin h (k.blk v) v
 | .tup l => (match v with
  | .tup vs => Rks.fin h (Rks.blk l vs) l vs
  | _ => none)
def Rk.flat : Rk → Bool
 | .sh s => s.ty.flat
 | .own t => t.flat
def Rsh.flat : Rsh → Bool
 | .one k => k.flat
 | .tup l => l.all Rk.flat
structure Callee where
 f : FuncId
 args : List Sh
 res : Rsh
 F : Shs args → Option res.den
def Callee.orc (k : Callee) (vs : List AV) (h : Hp) (nx : Nat) : Option Orc :=
 match pureAll h vs with
 | some ws => (match decs k.args ws with
  | some x => some ⟨k.res.den, k.res.zero, k.F x, fun g => (k.res.enc nx g, List.append (k.res.upd nx g) (bif k.res.flat then [] else freeze h (vs.flatMap refsA)))⟩
  | none => none)
 | none => none
def oras : List Callee → Ora
 | [], _, _, _, _ => none
 | k :: r, f, vs, h, nx => bif Nat.beq k.f f then k.orc vs h nx else oras r f vs h nx
def start (f : FuncId) (args : List AV) : St := ⟨[{ fn := f, env := (List.range args.length).zip args, mays := [], items := [.code []] }], [], 0⟩
end Go.AM
end
section
namespace Go.AM
open Go.RowKit
theorem Wid.self (C : Cx) : Wid C C := ⟨rfl, fun _ _ h => h⟩
section
variable {C C' : Cx}
theorem Sh.dec_VR (W : Wid C C') {s : Sh} {v : AV} {val : Value} {x : s.ty.den} (e : s.dec v = some x) (h : VR C v val) : VR C' (s.enc x) val := by
 cases s with
 | one t =>
  have e : packAll t [v] = some x := e
  obtain ⟨w, hw⟩ := packAll_one e
  obtain ⟨hp, h3⟩ := packAll_same e hw
  show VR C' (asOne (inj t x)) val
  rw [hw]
  show VR C' w val
  rcases h3 with rfl | ⟨rfl, t', rfl⟩
  ·exact h.wid W hp
  ·cases h
   exact .lst ⟨none, 0, 0, rfl, rfl, by omega, .inl ⟨rfl, fun _ => rfl⟩⟩
 | ag t =>
  cases h with
  | @agg ps cs h =>
   have e : packAll t ps = some x := e
   exact .agg (PR.of_inj ((h.packAll e).wid W))
  | _ =>
   have e : (none : Option t.den) = some x := e
   simp at e
theorem decs_VR (W : Wid C C') (l : List Sh) : ∀ {vs : List AV} {us : List Value} {x : Shs l}, decs l vs = some x → VRs C vs us → VRs C' (encs l x) us := by
 induction l with
 | nil =>
  intro vs us x e h
  cases h with
  | nil => exact .nil
  | cons => exact nomatch e
 | cons s r ih =>
  intro vs us x e h
  cases h with
  | nil => exact nomatch e
  | @cons v _ vs _ h k =>
   have e : (match s.dec v with
    | some x => (match decs r vs with | some y => some (x, y) | none => none)
    | none => none) = some x := e
   split at e
   ·rename_i y h1
    split at e
    ·rename_i z h2
     obtain rfl := Option.some.inj e
     exact .cons (Sh.dec_VR W h1 h) (ih h2 k)
    ·simp at e
   ·simp at e
theorem Rep.flat : ∀ {t : Ty} {x : t.den} {cs : List Value}, t.flat = true → Rep C t x cs → Rep C' t x cs
 | .int _, _, _, _, h => h
 | .bool, _, _, _, h => h
 | .str, _, _, _, h => h
 | .lst t, _, _, hf, _ => by simp [Ty.flat] at hf
 | .arr _ t, _, _, hf, ⟨e, h⟩ => ⟨e, h.mono fun _ _ => Rep.flat (t := t) (by simpa [Ty.flat] using hf)⟩
 | .unit, _, _, _, h => h
 | .pair _ _, _, _, hf, ⟨c1, c2, e, h1, h2⟩ => by
  simp only [Ty.flat, Bool.and_eq_true] at hf
  exact ⟨c1, c2, e, h1.flat hf.1, h2.flat hf.2⟩
theorem pack_inj : ∀ (t : Ty) (x : t.den) (r : List AV), pack t (inj t x ++ r) = some (x, r)
 | .int _, _, _ => by simp [inj, pack]
 | .bool, _, _ => by simp [inj, pack]
 | .str, _, _ => by simp [inj, pack]
 | .lst _, _, _ => by simp [inj, pack]
 | .arr _ _, _, _ => by simp [inj, pack]
 | .unit, x, r => by
  show pack .unit r = _
  cases r <;> rfl
 | .pair a b, x, r => by
  have e : pack (.pair a b) (inj (.pair a b) x ++ r) = (match AM.pack a (inj a x.1 ++ (inj b x.2 ++ r)) with
   | some (x, r') => (match AM.pack b r' with | some (y, r'') => some ((x, y), r'') | none => none)
   | none => none) := by
   simp only [inj, List.append_assoc]
   generalize inj a x.1 ++ (inj b x.2 ++ r) = q
   cases q <;> rfl
  rw [e, pack_inj a]
  simp only
  rw [pack_inj b]
  rfl
theorem packAll_inj (t : Ty) (x : t.den) : packAll t (inj t x) = some x := by
 have := pack_inj t x []
 rw [List.append_nil] at this
 unfold packAll
 rw [this]
def flatV : AV → Bool
 | .int .. | .bool _ | .str _ => true
 | .arr _ t _ => t.flat
 | _ => false
theorem flat_inj : ∀ {t : Ty} {x : t.den}, t.flat = true → ∀ v ∈ inj t x, flatV v = true
 | .int _, _, _, v, h => by simp only [inj, List.mem_singleton] at h; subst h; rfl
 | .bool, _, _, v, h => by simp only [inj, List.mem_singleton] at h; subst h; rfl
 | .str, _, _, v, h => by simp only [inj, List.mem_singleton] at h; subst h; rfl
 | .lst _, _, hf, v, h => by simp [Ty.flat] at hf
 | .arr _ _, _, hf, v, h => by simp only [inj, List.mem_singleton] at h; subst h; exact hf
 | .unit, _, _, v, h => by simp [inj] at h
 | .pair a b, _, hf, v, h => by
  simp only [Ty.flat, Bool.and_eq_true] at hf
  simp only [inj, List.mem_append] at h
  rcases h with h | h
  ·exact flat_inj hf.1 v h
  ·exact flat_inj hf.2 v h
theorem VR.flatV {v : AV} {val : Value} (hf : AM.flatV v = true) (h : VR C v val) : VR C' v val := by
 cases h with
 | int h => exact .int h
 | bool => exact .bool
 | str h => exact .str h
 | arr h => exact .arr (h.flat hf)
 | _ => simp [AM.flatV] at hf
theorem PR.flatV : ∀ {ps : List AV} {cs : List Value}, (∀ v ∈ ps, AM.flatV v = true) → PR C ps cs → PR C' ps cs
 | _, _, _, .nil => .nil
 | _, _, hf, .sc h1 h2 h3 h4 => .sc (h1.flatV (hf _ (.head _))) h2 h3 (PR.flatV (fun v hv => hf v (.tail _ hv)) h4)
 | _, _, hf, .arr h1 h2 => .arr (h1.flat (hf _ (.head _))) (PR.flatV (fun v hv => hf v (.tail _ hv)) h2)
 | _, _, hf, .row h1 h2 => by have := hf _ (.head _); simp [AM.flatV] at this
theorem Sh.flat {s : Sh} {x : s.ty.den} {val : Value} (hf : s.ty.flat = true) (h : VR C (s.enc x) val) : VR C' (s.enc x) val := by
 cases s with
 | one t =>
  have hs : Sh.enc (.one t) x = asOne (inj t x) := rfl
  rw [hs] at h ⊢
  generalize hq : inj t x = l at h
  match l, hq with
  | [v], hq => exact h.flatV (flat_inj (t := t) (x := x) hf v (by rw [hq]; simp))
  | [], hq => exact .junk _
  | _ :: _ :: _, hq => exact .junk _
 | ag t =>
  cases h with
  | agg h => exact .agg (h.flatV fun v hv => flat_inj (t := t) (x := x) hf v hv)
end
end Go.AM
end
section
namespace Go.AM
open Go.RowKit
def RkR (C : Cx) (oc : Option Nat) (k : Rk) (x : k.den) (v : Value) : Prop :=
 match k, x with
 | .sh s, x => VR C (s.enc x) v
 | .own t, x => match oc with
  | none => (x : List t.den) = [] ∧ v = .slice none 0 0
  | some c => ∃ cap pre, v = .slice (some ⟨c, 0, none⟩) (List.length (α := t.den) x) cap ∧ List.length (α := t.den) x ≤ cap ∧ Bsz C c (cap * t.size) ∧ Cat (Rep C t) x pre ∧ C.w.rangeAt c 0 pre ∧
   ∀ j, (C.w.cell? ⟨c, j, none⟩).isSome = true → C.w.frozen? ⟨c, j, none⟩ = false
def RksR (C : Cx) (oc : Option Nat) : (l : List Rk) → Rks l → List Value → Prop
 | [], _, vs => vs = []
 | k :: r, x, vs => ∃ v us, vs = v :: us ∧ RkR C oc k x.1 v ∧ RksR C oc r x.2 us
def RshR (C : Cx) (oc : Option Nat) : (r : Rsh) → r.den → Value → Prop
 | .one k, x, v => RkR C oc k x v
 | .tup l, x, v => ∃ vs : List Value, v = .tuple vs.toArray ∧ RksR C oc l x vs
structure Callee.OK (P : Program) (k : Callee) : Prop where
 enter : ∀ (vs : Array Value) (w : World), (callFunc k.f vs).run P w = .ok (.enter k.f vs) w
 own : k.res.okOwn = true
 ends : ∀ (RO : Nat → Nat → Prop) (w : World) (x : Shs k.args) (vs : List Value) (r : k.res.den), (∀ c j, RO c j → c < w.heap.size) → VRs ⟨w, RO, fun _ => none⟩ (encs k.args x) vs → k.F x = some r →
  ∀ cs, ∃ fr w' val oc, Steps P (lone (Frame.enter P k.f vs.toArray .normal) cs w) (lone fr cs w') ∧ fr.fn = k.f ∧ fr.leaving P w' (.returned val) ∧ Below w.heap.size w w' ∧
   (∀ c, oc = some c → w.heap.size ≤ c ∧ c < w'.heap.size) ∧ RshR ⟨w', fun c j => (RO c j ∨ (w.heap.size ≤ c ∧ c < w'.heap.size)) ∧ oc ≠ some c, fun _ => none⟩ oc k.res r val
section
variable {P : Program} {S0 : Base} {w0 : World} {C C' : Cx} {h h' : Hp}
theorem encs_flat : ∀ {l : List Sh} {x : Shs l} {us : List Value}, (l.all fun s => s.ty.flat) = true → VRs C (encs l x) us → VRs C' (encs l x) us
 | [], _, _, _, .nil => .nil
 | s :: r, x, _, hf, .cons h k => by
  simp only [List.all_cons, Bool.and_eq_true] at hf
  exact .cons (Sh.flat hf.1 h) (encs_flat hf.2 k)
theorem RkR.flat {oc : Option Nat} {k : Rk} {x : k.den} {v : Value} (hw : C'.w = C.w) (hf : k.flat = true) (h : RkR C oc k x v) : RkR C' oc k x v := by
 cases k with
 | sh s => exact Sh.flat (s := s) hf h
 | own t =>
  cases oc with
  | none => exact h
  | some c =>
   obtain ⟨cap, pre, h1, h2, h3, h4, h5, h6⟩ := h
   exact ⟨cap, pre, h1, h2, fun j hj => by rw [hw]; exact h3 j hj, h4.mono fun _ _ => Rep.flat hf, by rw [hw]; exact h5, by rw [hw]; exact h6⟩
theorem RksR.flat {oc : Option Nat} (hw : C'.w = C.w) : ∀ {l : List Rk} {x : Rks l} {vs : List Value}, l.all Rk.flat = true → RksR C oc l x vs → RksR C' oc l x vs
 | [], _, _, _, h => h
 | k :: r, x, _, hf, ⟨v, us, e, h1, h2⟩ => by
  simp only [List.all_cons, Bool.and_eq_true] at hf
  exact ⟨v, us, e, h1.flat hw hf.1, RksR.flat hw hf.2 h2⟩
theorem RshR.flat {oc : Option Nat} {r : Rsh} {x : r.den} {v : Value} (hw : C'.w = C.w) (hf : r.flat = true) (h : RshR C oc r x v) : RshR C' oc r x v := by
 cases r with
 | one k => exact RkR.flat (k := k) hw hf h
 | tup l =>
  obtain ⟨vs, e, h⟩ := h
  exact ⟨vs, e, RksR.flat hw hf h⟩
def dataV : AV → Bool
 | .agg ps => ps.all packable
 | v => packable v
theorem packable_PR {Ca Cb : Cx} (W : Wid Ca Cb) : ∀ {ps : List AV} {cs : List Value}, ps.all packable = true → PR Ca ps cs → PR Cb ps cs
 | _, _, _, .nil => .nil
 | _, _, hp, .sc h1 h2 h3 h4 => by
  simp only [List.all_cons, Bool.and_eq_true] at hp
  exact .sc (h1.wid W hp.1) h2 h3 (packable_PR W hp.2 h4)
 | _, _, hp, .arr h1 h2 => by
  simp only [List.all_cons, Bool.and_eq_true] at hp
  exact .arr (h1.wid W) (packable_PR W hp.2 h2)
 | _, _, hp, .row h1 h2 => by
  simp only [List.all_cons, Bool.and_eq_true] at hp
  simp [packable] at hp
theorem Sh.wid {Ca Cb : Cx} (W : Wid Ca Cb) {s : Sh} {x : s.ty.den} {val : Value} (h : VR Ca (s.enc x) val) : VR Cb (s.enc x) val := by
 cases s with
 | one t =>
  have hs : Sh.enc (.one t) x = asOne (inj t x) := rfl
  rw [hs] at h ⊢
  generalize hq : inj t x = l at h
  match l, hq with
  | [v], hq => exact h.wid W (packable_inj (t := t) (x := x) v (by rw [hq]; simp))
  | [], hq => exact .junk _
  | _ :: _ :: _, hq => exact .junk _
 | ag t =>
  cases h with
  | agg h => exact .agg (packable_PR W (List.all_eq_true.2 fun v hv => packable_inj (t := t) (x := x) v hv) h)
theorem encs_wid {Ca Cb : Cx} (W : Wid Ca Cb) : ∀ {l : List Sh} {x : Shs l} {us : List Value}, VRs Ca (encs l x) us → VRs Cb (encs l x) us
 | [], _, _, .nil => .nil
 | _ :: _, _, _, .cons h k => .cons (Sh.wid W h) (encs_wid W k)
theorem RkR.wid {Ca Cb : Cx} (W : Wid Ca Cb) {oc : Option Nat} {k : Rk} {x : k.den} {v : Value} (h : RkR Ca oc k x v) : RkR Cb oc k x v := by
 cases k with
 | sh s => exact Sh.wid (s := s) W h
 | own t =>
  cases oc with
  | none => exact h
  | some c =>
   obtain ⟨cap, pre, h1, h2, h3, h4, h5, h6⟩ := h
   exact ⟨cap, pre, h1, h2, fun j hj => by rw [W.w]; exact h3 j hj, h4.mono fun _ _ => Rep.wid W, by rw [W.w]; exact h5, by rw [W.w]; exact h6⟩
theorem RksR.wid {Ca Cb : Cx} (W : Wid Ca Cb) {oc : Option Nat} : ∀ {l : List Rk} {x : Rks l} {vs : List Value}, RksR Ca oc l x vs → RksR Cb oc l x vs
 | [], _, _, h => h
 | k :: r, x, _, ⟨v, us, e, h1, h2⟩ => ⟨v, us, e, h1.wid W, RksR.wid W h2⟩
theorem RshR.wid {Ca Cb : Cx} (W : Wid Ca Cb) {oc : Option Nat} {r : Rsh} {x : r.den} {v : Value} (h : RshR Ca oc r x v) : RshR Cb oc r x v := by
 cases r with
 | one k => exact RkR.wid (k := k) W h
 | tup l => obtain ⟨vs, e, h⟩ := h; exact ⟨vs, e, RksR.wid W h⟩
theorem Inv.adopt (I : Inv P S0 w0 C h) {nx : Nat} {oc : Option Nat} {t : Ty} {x : List t.den} {v : Value} (hM : C.M nx = none) (hoc : ∀ c, oc = some c → w0.heap.size ≤ c ∧ c < C.w.heap.size ∧ (∀ b e, C.M b = some e → e.cb ≠ some c) ∧ ∀ j, ¬ C.RO c j)
  (hx : RkR C oc (.own t) x v) : C.Le ⟨C.w, C.RO, fun y => if y = nx then some ⟨0, oc, x.length, false⟩ else C.M y⟩ ∧ Inv P S0 w0 ⟨C.w, C.RO, fun y => if y = nx then some ⟨0, oc, x.length, false⟩ else C.M y⟩ ((nx, .cells 0 false [.row t x]) :: h) ∧
   VR ⟨C.w, C.RO, fun y => if y = nx then some ⟨0, oc, x.length, false⟩ else C.M y⟩ (.own nx 0 t) v := by
 have ne : ∀ y e, C.M y = some e → y ≠ nx := fun y e hy hq => by subst hq; rw [hM] at hy; simp at hy
 have le : C.Le ⟨C.w, C.RO, fun y => if y = nx then some ⟨0, oc, x.length, false⟩ else C.M y⟩ :=
  ⟨fun _ _ q => q, fun _ _ _ => rfl, fun y e hy => ⟨e, by simp [ne _ _ hy, hy], Nat.le_refl _, fun _ => rfl, fun _ => rfl⟩, fun _ _ q => q⟩
 have hent : ∀ y e, (if y = nx then some (⟨0, oc, x.length, false⟩ : Ent) else C.M y) = some e → (y = nx ∧ e = ⟨0, oc, x.length, false⟩) ∨ (y ≠ nx ∧ C.M y = some e) := by
  intro y e hy
  by_cases hq : y = nx
  ·rw [if_pos hq] at hy; exact .inl ⟨hq, (Option.some.inj hy).symm⟩
  ·rw [if_neg hq] at hy; exact .inr ⟨hq, hy⟩
 refine ⟨le, ⟨I.below, ?_, ?_, ?_, ?_, I.ro, ?_, fun c hc => by
  obtain ⟨⟨e, h1, h2⟩, h3⟩ := I.pin c hc
  exact ⟨⟨e, by simp [ne _ _ h1, h1], h2⟩, h3⟩⟩, ?_⟩
 ·intro b o ho
  rw [Hp.get_cons] at ho
  by_cases hq : nx = b
  ·subst hq
   rw [if_pos rfl] at ho
   obtain rfl := Option.some.inj ho
   refine ⟨_, by simp; rfl, rfl, rfl, fun t' xs hm => ?_, ?_⟩
   ·simp only [List.mem_singleton] at hm
    cases hm; rfl
   ·cases oc with
    | none =>
     obtain ⟨h1, h2⟩ := hx
     have h1 : x = [] := h1
     subst h1
     exact ⟨t, rfl⟩
    | some c =>
     obtain ⟨cap, pre, h1, h2, h3, h4, h5, h6⟩ := hx
     exact ⟨pre, PR.rowOne (h4.mono fun _ _ => Rep.mono le), h5, h6⟩
  ·rw [if_neg hq] at ho
   obtain ⟨e, h1, h2⟩ := I.obj b o ho
   exact ⟨e, by simp [Ne.symm hq, h1], h2.carry le fun c _ => rfl⟩
 ·intro b e he
  rw [Hp.get_cons]
  by_cases hq : nx = b
  ·exact ⟨_, by rw [if_pos hq]⟩
  ·rw [if_neg hq]
   rcases hent b e he with ⟨q, _⟩ | ⟨_, q⟩
   ·exact (hq q.symm).elim
   ·exact I.dom b e q
 ·intro b e c he hc
  rcases hent b e he with ⟨_, rfl⟩ | ⟨_, q⟩
  ·have := hoc c hc; exact ⟨.inr this.1, this.2.1⟩
  ·exact I.loc b e c q hc
 ·intro b e b' e' c he hc he' hc'
  rcases hent b e he with ⟨q1, rfl⟩ | ⟨q1, q⟩ <;> rcases hent b' e' he' with ⟨q2, rfl⟩ | ⟨q2, q'⟩
  ·rw [q1, q2]
  ·exact ((hoc c hc).2.2.1 b' e' q' hc').elim
  ·exact ((hoc c hc').2.2.1 b e q hc).elim
  ·exact I.inj b e b' e' c q hc q' hc'
 ·intro b e c j he hc hr
  rw [Hp.get_cons]
  rcases hent b e he with ⟨_, rfl⟩ | ⟨q1, q⟩
  ·exact ((hoc c hc).2.2.2 j hr).elim
  ·rw [if_neg (Ne.symm q1)]
   exact I.roO b e c j q hc hr
 ·refine .own (e := ⟨0, oc, x.length, false⟩) (by simp) (Nat.le_refl _) (fun _ => ?_) ?_
  ·cases oc with
   | none =>
    obtain ⟨h1, h2⟩ := hx
    have h1 : x = [] := h1
    exact ⟨by rw [h1]; rfl, h2⟩
   | some c =>
    obtain ⟨cap, pre, h1, h2, h3, h4, h5, h6⟩ := hx
    exact ⟨cap, h1, h2, h3⟩
  ·cases oc with
   | none => obtain ⟨_, rfl⟩ := hx; exact ⟨_, _, _, rfl⟩
   | some c => obtain ⟨cap, pre, rfl, _⟩ := hx; exact ⟨_, _, _, rfl⟩
theorem noOwn {oc : Option Nat} {nx : Nat} : ∀ {l : List Rk} {x : Rks l} {vs : List Value}, (l.filter Rk.isOwn).length = 0 → RksR C oc l x vs → Rks.upd nx l x = [] ∧ VRs C (Rks.enc nx l x) vs
 | [], _, _, _, h => by have h : _ = [] := h; subst h; exact ⟨rfl, .nil⟩
 | .sh s :: r, x, _, hn, ⟨v, us, e, h1, h2⟩ => by
  subst e
  obtain ⟨k1, k2⟩ := noOwn (nx := nx) (l := r) (by simpa [Rk.isOwn] using hn) h2
  refine ⟨?_, .cons h1 k2⟩
  show [] ++ Rks.upd nx r x.2 = []
  rw [k1]; rfl
 | .own t :: r, x, _, hn, _ => by simp [Rk.isOwn] at hn
theorem oneOwn {oc : Option Nat} {nx : Nat} : ∀ {l : List Rk} {x : Rks l} {vs : List Value}, (l.filter Rk.isOwn).length ≤ 1 → RksR C oc l x vs →
  (Rks.upd nx l x = [] ∧ VRs C (Rks.enc nx l x) vs) ∨ ∃ (t : Ty) (y : List t.den) (v : Value), Rks.upd nx l x = [(nx, .cells 0 false [.row t y])] ∧ RkR C oc (.own t) y v ∧ ∀ C', Wid C C' → VR C' (.own nx 0 t) v → VRs C' (Rks.enc nx l x) vs
 | [], _, _, _, h => by have h : _ = [] := h; subst h; exact .inl ⟨rfl, .nil⟩
 | .sh s :: r, x, _, hn, ⟨v, us, e, h1, h2⟩ => by
  subst e
  rcases oneOwn (nx := nx) (l := r) (by simpa [Rk.isOwn] using hn) h2 with ⟨k1, k2⟩ | ⟨t, y, v', k1, k2, k3⟩
  ·refine .inl ⟨?_, .cons h1 k2⟩
   show [] ++ Rks.upd nx r x.2 = []
   rw [k1]; rfl
  ·refine .inr ⟨t, y, v', ?_, k2, fun C' W hv => .cons (Sh.wid W h1) (k3 C' W hv)⟩
   show [] ++ Rks.upd nx r x.2 = _
   rw [k1]; rfl
 | .own t :: r, x, _, hn, ⟨v, us, e, h1, h2⟩ => by
  subst e
  have hn0 : (r.filter Rk.isOwn).length = 0 := by
   have : ((Rk.own t :: r).filter Rk.isOwn).length = (r.filter Rk.isOwn).length + 1 := rfl
   omega
  obtain ⟨k1, k2⟩ := noOwn (nx := nx) hn0 h2
  refine .inr ⟨t, x.1, v, ?_, h1, fun C' W hv => .cons hv (noOwn (nx := nx) hn0 (RksR.wid W h2)).2⟩
  show [(nx, _)] ++ Rks.upd nx r x.2 = _
  rw [k1]; rfl
theorem RshR.land {oc : Option Nat} {nx : Nat} {r : Rsh} {x : r.den} {v : Value} (hok : r.okOwn = true) (h : RshR C oc r x v) :
  (r.upd nx x = [] ∧ VR C (r.enc nx x) v) ∨ ∃ (t : Ty) (y : List t.den) (u : Value), r.upd nx x = [(nx, .cells 0 false [.row t y])] ∧ RkR C oc (.own t) y u ∧ ∀ C', Wid C C' → VR C' (.own nx 0 t) u → VR C' (r.enc nx x) v := by
 cases r with
 | one k =>
  cases k with
  | sh s => exact .inl ⟨rfl, h⟩
  | own t => exact .inr ⟨t, x, v, rfl, h, fun C' _ hv => hv⟩
 | tup l =>
  obtain ⟨vs, rfl, h⟩ := h
  rcases oneOwn (nx := nx) (Nat.le_of_ble_eq_true hok) h with ⟨k1, k2⟩ | ⟨t, y, u, k1, k2, k3⟩
  ·exact .inl ⟨k1, .tup k2⟩
  ·exact .inr ⟨t, y, u, k1, k2, fun C' W hv => .tup (k3 C' W hv)⟩
theorem orc_ok {k : Callee} (K : k.OK P) {args : List AV} {o : Orc} {g : o.γ} {nx : Nat} (e : k.orc args h' nx = some o) (hg : o.x = some g) (cs : List Frame) (I : Inv P S0 w0 C h) (hs : Sub' h' h) (hM : C.M nx = none) {vs : List Value} (hv : VRs C args vs) :
  Does P S0 w0 cs C h nx ((callFunc k.f vs.toArray).run P C.w) (o.enc g) := by
 unfold Callee.orc at e
 split at e
 ·rename_i ws hws
  split at e
  ·rename_i x hx
   obtain rfl := Option.some.inj e
   have hg : k.F x = some g := hg
   let refs := args.flatMap refsA
   let RO1 : Nat → Nat → Prop := fun c j => C.RO c j ∨ ∃ b ∈ refs, ∃ e v ro ps, C.M b = some e ∧ e.cb = some c ∧ h.get b = some (.cells v ro ps) ∧ j < partsSize ps
   let C1 : Cx := ⟨C.w, RO1, fun _ => none⟩
   have W1 : Wid C C1 := ⟨rfl, fun _ _ q => .inl q⟩
   have H1 : Holds C C1 h refs := fun b hb e c v ro ps j q1 q2 q3 q4 => .inr ⟨b, hb, e, v, ro, ps, q1, q2, q3, q4⟩
   have hlt : ∀ c j, RO1 c j → c < C.w.heap.size := by
    rintro c j (q | ⟨b, _, e, v, ro, ps, q1, q2, q3, q4⟩)
    ·exact (I.ro c j q).1
    ·exact (I.loc b e c q1 q2).2
   obtain ⟨fr, w', val, oc, s1, s2, s3, s4, s5, s6⟩ := K.ends RO1 C.w x vs g hlt (decs_VR (Wid.self _) _ hx (pureAll_sound I hs W1 hws hv H1)) hg cs
   have hland : Lands P cs ((callFunc k.f vs.toArray).run P C.w) val w' := .inr (.inr ⟨k.f, vs.toArray, C.w, K.enter _ _, fr, s1, s2, s3⟩)
   show Does P S0 w0 cs C h nx _ (k.res.enc nx g, k.res.upd nx g ++ (bif k.res.flat then [] else freeze h' refs))
   -- what was there, behind the call
   obtain ⟨RO2, hR2, h2, hh2, le, I'⟩ : ∃ RO2 : Nat → Nat → Prop, RshR ⟨w', RO2, C.M⟩ oc k.res g val ∧ ∃ h2, h2 = (bif k.res.flat then [] else freeze h' refs) ++ h ∧ C.Le ⟨w', RO2, C.M⟩ ∧ (Inv P S0 w0 ⟨w', RO2, C.M⟩ h2 ∧ ∀ c, oc = some c → ∀ j, ¬ RO2 c j) := by
    cases hf : k.res.flat with
    | true =>
     obtain ⟨le, I'⟩ := I.called (RO := fun c j => C.RO c j) (h2 := h) s4 (fun _ _ q => q) (fun c j q => .inl q) (fun b => .inl rfl)
     refine ⟨_, RshR.flat (C := ⟨w', fun c j => (RO1 c j ∨ (C.w.heap.size ≤ c ∧ c < w'.heap.size)) ∧ oc ≠ some c, fun _ => none⟩) rfl hf s6, h, rfl, le, I', fun c hc j hr => ?_⟩
     have := (s5 c hc).1
     have := (I.ro c j hr).1
     omega
    | false =>
     have hfz := fun b => freeze_get refs h' h b hs
     obtain ⟨le, I'⟩ := I.called (RO := fun c j => (RO1 c j ∨ (C.w.heap.size ≤ c ∧ c < w'.heap.size)) ∧ oc ≠ some c) (h2 := freeze h' refs ++ h) s4 (fun c j q => ⟨.inl (.inl q), fun hq => by
      have := (s5 c hq).1
      have := (I.ro c j q).1
      omega⟩) (fun c j q => by
      rcases q.1 with (q | ⟨b, hb, e, v, ro, ps, q1, q2, q3, q4⟩) | q
      ·exact .inl q
      ·obtain ⟨v', ro', ps', g1⟩ := pureAll_get hws b hb
       have g2 := hs _ _ g1
       rw [q3] at g2
       cases g2
       exact .inr (.inl ⟨b, e, v, ps, q1, q2, (hfz b).2 hb _ _ _ g1, q4⟩)
      ·exact .inr (.inr q)) (fun b => (hfz b).1)
     have hres := RshR.wid (Ca := ⟨w', fun c j => (RO1 c j ∨ (C.w.heap.size ≤ c ∧ c < w'.heap.size)) ∧ oc ≠ some c, fun _ => none⟩) (Cb := ⟨w', fun c j => (RO1 c j ∨ (C.w.heap.size ≤ c ∧ c < w'.heap.size)) ∧ oc ≠ some c, C.M⟩) ⟨rfl, fun _ _ q => q⟩ s6
     exact ⟨_, hres, _, rfl, le, I', fun c hc j hr => hr.2 hc⟩
   obtain ⟨I', hno⟩ := I'
   rcases hR2.land (nx := nx) K.own with ⟨k1, k2⟩ | ⟨t, y, u, k1, k2, k3⟩
   ·refine ⟨val, _, hland, ?_, le, k2, fun y hy => .inl hy⟩
    show Inv P S0 w0 _ ((k.res.upd nx g ++ _) ++ h)
    rw [k1, List.nil_append, ← hh2]
    exact I'
   ·obtain ⟨le2, I2, v2⟩ := I'.adopt (nx := nx) hM (fun c hc => by
     have h1 := s5 c hc
     have h2 := I.below.size
     refine ⟨by omega, h1.2, fun b e hb he => ?_, fun j => hno c hc j⟩
     have := (I.loc b e c hb he).2
     omega) k2
    refine ⟨val, _, hland, ?_, le.trans le2, k3 _ ⟨rfl, fun _ _ q => q⟩ v2, fun z hz => ?_⟩
    ·show Inv P S0 w0 _ ((k.res.upd nx g ++ _) ++ h)
     rw [k1, List.append_assoc, ← hh2]
     exact I2
    ·by_cases hzn : z = nx
     ·exact .inr hzn
     ·exact .inl (by simpa [hzn] using hz)
  ·simp at e
 ·simp at e
theorem oras_ok : ∀ {ks : List Callee}, (∀ k ∈ ks, k.OK P) → OraOK P S0 w0 (oras ks)
 | [], _ => fun f args h' nx o g e => by simp [oras] at e
 | k :: ks, K => fun f args h' nx o g e hg cs C h I hs hM vs hv => by
  simp only [oras, cond_eq_ite] at e
  split at e
  ·rename_i hf
   have := Nat.eq_of_beq_eq_true hf
   subst this
   exact orc_ok (K k (.head _)) e hg cs I hs hM hv
  ·exact oras_ok (fun k hk => K k (.tail _ hk)) f args h' nx o g e hg cs C h I hs hM vs hv
end
end Go.AM
end
section
namespace Go.AM
open Go.RowKit
theorem enterA_any {P : Program} {f : FuncId} {a : List AV} (h : (enterA P f a).isSome = true) (b : List AV) : ∃ g, enterA P f b = some g := by
 unfold enterA at h ⊢
 split
 ·rename_i fn hfn
  simp only [hfn, cond_eq_ite] at h ⊢
  split at h
  ·split at h
   ·rename_i hq; exact ⟨_, by rw [if_pos hq]⟩
   ·simp at h
  ·simp at h
 ·rename_i hfn
  rw [hfn] at h
  simp at h
section
variable {P : Program}
theorem start_StR {f : FuncId} {args : List AV} {g : AFrame} {w : World} {RO : Nat → Nat → Prop} {cs0 : List Frame} {vs : List Value} (hen : enterA P f args = some g) (hRO : ∀ c j, RO c j → c < w.heap.size) (hv : VRs ⟨w, RO, fun _ => none⟩ args vs) :
  StR P ⟨RO, fun _ => False⟩ w cs0 f ⟨w, RO, fun _ => none⟩ (start f args) (Frame.enter P f vs.toArray .normal) [] := by
 have hg : g = { fn := f, env := (List.range args.length).zip args, mays := [], items := [.code []] } := by
  unfold enterA at hen
  split at hen
  ·simp only [cond_eq_ite] at hen
   split at hen
   ·split at hen
    ·exact (Option.some.inj hen).symm
    ·simp at hen
   ·simp at hen
  ·simp at hen
 subst hg
 refine ⟨.cons (enter_sim hen hv).1 .nil, ⟨⟨rfl, rfl, rfl, Nat.le_refl _, fun _ _ _ => rfl⟩, fun b o hb => by simp [start, Hp.get] at hb, fun b e hb => by simp at hb, fun b e c hb => by simp at hb, fun b e b' e' c hb => by simp at hb, fun c j r => ⟨hRO c j r, .inl r⟩, fun b e c j hb => by simp at hb, fun _ h => h.elim⟩, fun y hy => by simp at hy, ⟨rfl, rfl, rfl⟩⟩
theorem Inv.loc0 {RO : Nat → Nat → Prop} {w : World} {C : Cx} {h : Hp} (I : Inv P ⟨RO, fun _ => False⟩ w C h) : ∀ b e c, C.M b = some e → e.cb = some c → w.heap.size ≤ c ∧ c < C.w.heap.size := fun b e c h1 h2 => by
 have := I.loc b e c h1 h2
 rcases this.1 with q | q
 ·exact q.elim
 ·exact ⟨q, this.2⟩
theorem Inv.ro0 {RO : Nat → Nat → Prop} {w : World} {C : Cx} {h : Hp} (I : Inv P ⟨RO, fun _ => False⟩ w C h) : ∀ c j, C.RO c j → c < C.w.heap.size ∧ (RO c j ∨ w.heap.size ≤ c) := fun c j h1 => by
 have := I.ro c j h1
 rcases this.2 with q | q | q
 ·exact ⟨this.1, .inl q⟩
 ·exact q.elim
 ·exact ⟨this.1, .inr q⟩
theorem Inv.below0 {RO : Nat → Nat → Prop} {w : World} {C : Cx} {h : Hp} (I : Inv P ⟨RO, fun _ => False⟩ w C h) : Below w.heap.size w C.w := I.below.below fun _ _ q => q.elim
def blockOf (C : Cx) : Option Nat → Option Nat
 | none => none
 | some b => (match C.M b with | some e => e.cb | none => none)
theorem ownRow_R {RO : Nat → Nat → Prop} {w : World} {C : Cx} {h : Hp} (I : Inv P ⟨RO, fun _ => False⟩ w C h) {t : Ty} {v : AV} {val : Value} {x : List t.den} (e : ownRow h t v = some x) (hv : VR C v val) :
  RkR C (blockOf C ((Rk.own t).blk v)) (.own t) x val ∧ ∀ b, (Rk.own t).blk v = some b → ∃ ver ps, h.get b = some (.cells ver false ps) := by
 unfold ownRow at e
 split at e
 ·rename_i b ver t0
  split at e
  ·rename_i u hr
   simp only [cond_eq_ite] at e
   split at e
   ·rename_i hz
    have hz := Nat.eq_of_beq_eq_true hz
    obtain ⟨ht, hx⟩ := packAll_lst e
    obtain ⟨ro, en, g1, g2, g3, g4, g5, g6, g7⟩ := I.rowLen (Sub'.self h) hr
    have hro : ro = false := by simpa using g2
    subst hro
    refine ⟨?_, fun b' hb' => by cases hb'; exact ⟨_, _, g1⟩⟩
    cases hv with
    | own k1 k2 k3 k4 =>
     rw [g3] at k1; obtain rfl := Option.some.inj k1
     have k3 := k3 g4.symm
     obtain ⟨ut, uxs⟩ := u
     simp only at ht hx g6 g7
     subst ht
     subst hx
     unfold OwnOK at k3
     have hb : blockOf C ((Rk.own ut).blk (.own b ver t0)) = en.cb := by
      show (match C.M b with | some e => e.cb | none => none) = _
      rw [g3]
     rw [hb]
     cases hcb : en.cb with
     | none =>
      rw [hcb] at k3 g7
      exact ⟨g7, k3.2⟩
     | some c =>
      rw [hcb] at k3 g7
      obtain ⟨cap, q1, q2, q3⟩ := k3
      obtain ⟨pre, p1, p2, p3⟩ := g7
      have g6 : en.len = x.length := g6
      exact ⟨cap, pre, by rw [← g6]; exact q1, by rw [← g6]; exact q2, by rw [← hz]; exact q3, p1, p2, p3⟩
   ·simp at e
  ·simp at e
 ·rename_i b ver t0 i n
  split at e
  ·rename_i u hr
   simp only [cond_eq_ite] at e
   split at e
   ·rename_i hz
    simp only [Bool.and_eq_true, decide_eq_true_eq] at hz
    obtain ⟨⟨hz, hi⟩, hpos⟩ := hz
    have hz := Nat.eq_of_beq_eq_true hz
    split at e
    ·rename_i xs hxs
     obtain rfl := Option.some.inj e
     obtain ⟨ht, hx⟩ := packAll_lst hxs
     obtain ⟨ro, en, g1, g2, g3, g4, g5, g6, g7⟩ := I.rowLen (Sub'.self h) hr
     have hro : ro = false := by simpa using g2
     subst hro
     refine ⟨?_, fun b' hb' => by cases hb'; exact ⟨_, _, g1⟩⟩
     cases hv with
     | slc k1 k2 k3 k4 =>
      rw [g3] at k1; obtain rfl := Option.some.inj k1
      obtain ⟨q1, q2, q3, q4⟩ := k3 g4.symm
      obtain ⟨ut, uxs⟩ := u
      simp only at ht hx g6 g7 hpos
      subst ht
      subst hx
      have g6 : en.len = xs.length := g6
      subst hi
      simp only [Option.getD_none] at q3
      have hn : n.toNat ≤ xs.length := by omega
      have hb : blockOf C ((Rk.own ut).blk (.slc b ver 0 none t0 0 n)) = en.cb := by
       show (match C.M b with | some e => e.cb | none => none) = _
       rw [g3]
      rw [hb]
      cases hcb : en.cb with
      | none =>
       rw [hcb] at g7
       rw [g7] at hpos; simp at hpos
      | some c =>
       rw [hcb] at q4 g7
       obtain ⟨a, cap, rfl, z2, z3, z4⟩ := q4
       obtain ⟨pre, p1, p2, p3⟩ := g7
       simp only [Option.getD_none] at z3
       have hlen : (xs.take n.toNat).length = n.toNat := by simp; omega
       have z3 : en.len ≤ cap := by omega
       have ha := z2 (by omega)
       subst ha
       have hsp := (Cat.split (fun _ _ h => Rep.length h) n.toNat p1).1
       refine ⟨cap, _, ?_, ?_, ?_, hsp, fun j v hj => ?_, p3⟩
       ·show _ = Value.slice _ (xs.take n.toNat).length cap
        rw [hlen]; simp
       ·show (xs.take n.toNat).length ≤ cap
        rw [hlen]; omega
       ·rw [← hz]
        have : 0 + ((0 : Int).toNat + cap) * t0.size = cap * t0.size := by simp
        rw [← this]; exact z4
       ·rw [List.getElem?_take] at hj
        split at hj
        ·exact p2 j v hj
        ·simp at hj
    ·simp at e
   ·simp at e
  ·simp at e
 ·obtain rfl := Option.some.inj e
  cases hv
  exact ⟨⟨rfl, rfl⟩, fun b hb => by simp [Rk.blk] at hb⟩
 ·simp at e
def ROof (RO : Nat → Nat → Prop) (w w' : World) (oc : Option Nat) : Nat → Nat → Prop := fun c j => (RO c j ∨ (w.heap.size ≤ c ∧ c < w'.heap.size)) ∧ oc ≠ some c
theorem fin_wid {RO : Nat → Nat → Prop} {w : World} {C : Cx} {h : Hp} (I : Inv P ⟨RO, fun _ => False⟩ w C h) {o : Option Nat} (ho : ∀ b, o = some b → ∃ ver ps, h.get b = some (.cells ver false ps)) :
  Wid C ⟨C.w, ROof RO w C.w (blockOf C o), fun _ => none⟩ ∧ ∀ l, away o l = true → Holds C ⟨C.w, ROof RO w C.w (blockOf C o), fun _ => none⟩ h l := by
 refine ⟨⟨rfl, fun c j q => ⟨?_, fun hq => ?_⟩⟩, fun l hl b hb e c v ro ps j q1 q2 q3 q4 => ⟨.inr (I.loc0 b e c q1 q2), fun hq => ?_⟩⟩
 ·have := I.ro0 c j q
  rcases this.2 with k | k
  ·exact .inl k
  ·exact .inr ⟨k, this.1⟩
 ·cases o with
  | none => simp [blockOf] at hq
  | some b =>
   obtain ⟨ver, ps, g1⟩ := ho b rfl
   unfold blockOf at hq
   simp only at hq
   split at hq
   ·rename_i e he
    obtain ⟨v, ps', g2, _⟩ := I.roO b e c j he hq q
    rw [g1] at g2; cases g2
   ·simp at hq
 ·cases o with
  | none => simp [blockOf] at hq
  | some b' =>
   unfold blockOf at hq
   simp only at hq
   split at hq
   ·rename_i e' he'
    have := I.inj b e b' e' c q1 q2 he' hq
    subst this
    have : l.any (Nat.beq b) = true := List.any_eq_true.2 ⟨b, hb, by simp⟩
    simp [away, this] at hl
   ·simp at hq
theorem Rk.fin_R {RO : Nat → Nat → Prop} {w : World} {C : Cx} {h : Hp} (I : Inv P ⟨RO, fun _ => False⟩ w C h) {o : Option Nat} (ho : ∀ b, o = some b → ∃ ver ps, h.get b = some (.cells ver false ps)) {k : Rk} {v : AV} {val : Value} {x : k.den} (e : k.fin h o v = some x) (hv : VR C v val)
  (hk : ∀ t, k = .own t → k.blk v = o ∨ (k.blk v = none ∧ v = .nilSlc ∧ blockOf C o = none)) : RkR ⟨C.w, ROof RO w C.w (blockOf C o), fun _ => none⟩ (blockOf C o) k x val := by
 obtain ⟨W, H⟩ := fin_wid I ho
 cases k with
 | sh s =>
  have e : (bif away o (refsA v) then (match pureA h v with | some w => s.dec w | none => none) else none) = some x := e
  simp only [cond_eq_ite] at e
  split at e
  ·rename_i ha
   split at e
   ·rename_i u hu
    exact Sh.dec_VR (s := s) (Wid.self _) e (pureA_sound I (Sub'.self h) W hu hv (H _ ha))
   ·simp at e
  ·simp at e
 | own t =>
  have e : ownRow h t v = some x := e
  have := (ownRow_R I e hv).1
  rcases hk t rfl with q | ⟨q, rfl, q2⟩
  ·rw [q] at this
   exact RkR.wid (k := .own t) W this
  ·rw [q] at this
   rw [q2]
   exact RkR.wid (k := .own t) W this
end
section
variable {P : Program}
theorem Rks.blk_ok {RO : Nat → Nat → Prop} {w : World} {C : Cx} {h : Hp} (I : Inv P ⟨RO, fun _ => False⟩ w C h) {o : Option Nat} : ∀ {l : List Rk} {vs : List AV} {us : List Value} {x : Rks l}, Rks.fin h o l vs = some x → VRs C vs us → ∀ b, Rks.blk l vs = some b → ∃ ver ps, h.get b = some (.cells ver false ps)
 | [], vs, _, _, _, _, b, hb => by cases vs <;> simp [Rks.blk] at hb
 | k :: r, [], _, _, e, _, b, hb => by simp [Rks.blk] at hb
 | k :: r, v :: vs, _, x, e, .cons h1 h2, b, hb => by
  simp only [Rks.fin] at e
  split at e
  ·rename_i y hy
   split at e
   ·rename_i z hz
    simp only [Rks.blk] at hb
    split at hb
    ·rename_i b' hb'
     obtain rfl := Option.some.inj hb
     cases k with
     | sh s => simp [Rk.blk] at hb'
     | own t =>
      have hy : ownRow h t v = some y := hy
      exact (ownRow_R I hy h1).2 _ hb'
    ·exact Rks.blk_ok I hz h2 b hb
   ·simp at e
  ·simp at e
theorem blk_nil {k : Rk} {t : Ty} {v : AV} {h : Hp} {x : List t.den} (e : ownRow h t v = some x) (hb : (Rk.own t).blk v = none) : v = .nilSlc := by
 unfold ownRow at e
 split at e
 ·simp [Rk.blk] at hb
 ·simp [Rk.blk] at hb
 ·rfl
 ·simp at e
theorem Rks.fin_R {RO : Nat → Nat → Prop} {w : World} {C : Cx} {h : Hp} (I : Inv P ⟨RO, fun _ => False⟩ w C h) {o : Option Nat} (ho : ∀ b, o = some b → ∃ ver ps, h.get b = some (.cells ver false ps)) : ∀ {l : List Rk} {vs : List AV} {us : List Value} {x : Rks l}, Rks.fin h o l vs = some x → VRs C vs us → (l.filter Rk.isOwn).length ≤ 1 →
  (o = Rks.blk l vs ∨ (l.filter Rk.isOwn).length = 0) → RksR ⟨C.w, ROof RO w C.w (blockOf C o), fun _ => none⟩ (blockOf C o) l x us
 | [], [], _, _, _, .nil, _, _ => rfl
 | [], _ :: _, _, _, e, _, _, _ => by simp [Rks.fin] at e
 | k :: r, [], _, _, e, _, _, _ => by simp [Rks.fin] at e
 | k :: r, v :: vs, _, x, e, .cons h1 h2, hn, hor => by
  simp only [Rks.fin] at e
  split at e
  ·rename_i y hy
   split at e
   ·rename_i z hz
    obtain rfl := Option.some.inj e
    refine ⟨_, _, rfl, Rk.fin_R I ho hy h1 ?_, ?_⟩
    ·rintro t rfl
     have hlen : ((Rk.own t :: r).filter Rk.isOwn).length = (r.filter Rk.isOwn).length + 1 := rfl
     have hor : o = Rks.blk (Rk.own t :: r) (v :: vs) := by
      rcases hor with q | q
      ·exact q
      ·omega
     have hr0 : (r.filter Rk.isOwn).length = 0 := by omega
     have hblk : ∀ {r : List Rk} {vs : List AV}, (r.filter Rk.isOwn).length = 0 → Rks.blk r vs = none := by
      intro r
      induction r with
      | nil => intro vs _; cases vs <;> rfl
      | cons k r ih =>
       intro vs hk
       cases vs with
       | nil => rfl
       | cons v vs =>
        cases k with
        | sh s =>
         have : Rks.blk (.sh s :: r) (v :: vs) = Rks.blk r vs := rfl
         rw [this]
         exact ih (by simpa [Rk.isOwn] using hk)
        | own t => simp [Rk.isOwn] at hk
     cases hb : (Rk.own t).blk v with
     | some b =>
      left
      rw [hor]
      simp only [Rks.blk, hb]
     | none =>
      right
      have hov : ownRow h t v = some y := hy
      refine ⟨rfl, blk_nil (k := .own t) hov hb, ?_⟩
      have : Rks.blk (Rk.own t :: r) (v :: vs) = none := by
       simp only [Rks.blk, hb]
       exact hblk hr0
      rw [hor, this]
      rfl
    ·refine Rks.fin_R I ho hz h2 ?_ ?_
     ·cases k with
      | sh s => simpa [Rk.isOwn] using hn
      | own t =>
       have hlen : ((Rk.own t :: r).filter Rk.isOwn).length = (r.filter Rk.isOwn).length + 1 := rfl
       omega
     ·cases k with
      | sh s =>
       rcases hor with q | q
       ·exact .inl q
       ·exact .inr (by simpa [Rk.isOwn] using q)
      | own t =>
       have hlen : ((Rk.own t :: r).filter Rk.isOwn).length = (r.filter Rk.isOwn).length + 1 := rfl
       exact .inr (by omega)
   ·simp at e
  ·simp at e
theorem fin_R {RO : Nat → Nat → Prop} {w : World} {C : Cx} {h : Hp} (I : Inv P ⟨RO, fun _ => False⟩ w C h) {r : Rsh} {v : AV} {val : Value} {x : r.den} (hok : r.okOwn = true) (e : r.fin v h = some x) (hv : VR C v val) :
  ∃ oc, (∀ c, oc = some c → w.heap.size ≤ c ∧ c < C.w.heap.size) ∧ RshR ⟨C.w, ROof RO w C.w oc, fun _ => none⟩ oc r x val := by
 have hloc : ∀ o c, blockOf C o = some c → w.heap.size ≤ c ∧ c < C.w.heap.size := by
  intro o c hc
  cases o with
  | none => simp [blockOf] at hc
  | some b =>
   unfold blockOf at hc
   simp only at hc
   split at hc
   ·rename_i e he; exact I.loc0 b e c he hc
   ·simp at hc
 cases r with
 | one k =>
  have e : k.fin h (k.blk v) v = some x := e
  refine ⟨blockOf C (k.blk v), hloc _, Rk.fin_R I (fun b hb => ?_) e hv (fun t ht => .inl rfl)⟩
  cases k with
  | sh s => simp [Rk.blk] at hb
  | own t =>
   have e : ownRow h t v = some x := e
   exact (ownRow_R I e hv).2 b hb
 | tup l =>
  cases hv with
  | @tup vs cs hv =>
   have e : Rks.fin h (Rks.blk l vs) l vs = some x := e
   exact ⟨blockOf C (Rks.blk l vs), hloc _, cs, rfl, Rks.fin_R I (Rks.blk_ok I e hv) e hv (Nat.le_of_ble_eq_true hok) (.inl rfl)⟩
  | _ =>
   have e : (none : Option (Rks l)) = some x := e
   simp at e
theorem Callee.of_runs {k : Callee} {Φ : Ora} {inl : FuncId → Bool} (hO : ∀ S0 w0, OraOK P S0 w0 Φ) (hen : (enterA P k.f []).isSome = true) (hok : k.res.okOwn = true)
  (hrun : ∀ RO w x vs r, VRs ⟨w, RO, fun _ => none⟩ (encs k.args x) vs → k.F x = some r → ∃ (args : List AV) (n : Nat) (segs : List Seg), VRs ⟨w, RO, fun _ => none⟩ args vs ∧ (∀ S0 w0 cs0, ∀ s ∈ segs, SegGood P S0 w0 cs0 k.f s) ∧ runS P Φ inl [] segs k.res.fin n false (start k.f args) = some r) : k.OK P := by
 refine ⟨fun vs w => ?_, hok, fun RO w x vs r hRO hv hF cs => ?_⟩
 ·obtain ⟨g, hg⟩ := enterA_any hen []
  exact run_callFunc hg vs w
 ·obtain ⟨args, n, segs, hv2, hG, hr⟩ := hrun RO w x vs r hv hF
  obtain ⟨g, hg⟩ := enterA_any hen args
  obtain ⟨C', fr, val, v, h, s1, s2, s3, s4, s5, s6⟩ := run_sound (G := toEnd P ⟨RO, fun _ => False⟩ w cs k.f k.res.fin) (cuts := []) (hO _ w) (fun r w fr cs q => q) (fun c hc => by simp at hc) (fun s hs => hG _ w cs s hs) n (start_StR (cs0 := cs) hg hRO hv2) hr
  obtain ⟨oc, z1, z2⟩ := fin_R s5 hok s6 s4
  exact ⟨fr, C'.w, val, oc, s1, s2, s3, s5.below0, z1, z2⟩
theorem Callee.of_run {k : Callee} {Φ : Ora} {inl : FuncId → Bool} {segs : List Seg} {n : Nat} (hO : ∀ S0 w0, OraOK P S0 w0 Φ) (hen : (enterA P k.f []).isSome = true) (hok : k.res.okOwn = true) (hs : ∀ S0 w0 cs0, ∀ s ∈ segs, SegGood P S0 w0 cs0 k.f s)
  (hrun : ∀ x r, k.F x = some r → runS P Φ inl [] segs k.res.fin n false (start k.f (encs k.args x)) = some r) : k.OK P :=
 Callee.of_runs hO hen hok fun RO w x vs r hv hF => ⟨_, n, segs, hv, hs, hrun x r hF⟩
abbrev KR (P : Program) (Φ : Ora) (inl : FuncId → Bool) (segs : List Seg) (c : Callee) : Prop := ∀ v : Shs c.args, runS P Φ inl [] segs c.res.fin 20000 false (start c.f (encs c.args v)) = c.F v
theorem KR.ok {c : Callee} {Φ : Ora} {inl : FuncId → Bool} {segs : List Seg} (hO : ∀ S0 w0, OraOK P S0 w0 Φ) (hen : (enterA P c.f []).isSome = true) (hok : c.res.okOwn = true) (hs : ∀ S0 w0 cs0, ∀ s ∈ segs, SegGood P S0 w0 cs0 c.f s) (h : KR P Φ inl segs c) : c.OK P :=
 Callee.of_run hO hen hok hs fun x r e => (h x).trans e
theorem Callee.true_calls {f : FuncId} {l : List Sh} {F : Shs l → Option Bool} (K : Callee.OK P ⟨f, l, .one (.sh (.one .bool)), F⟩) {W : World} {RO : Nat → Nat → Prop} {x : Shs l} {vs : List Value} (hRO : ∀ c j, RO c j → c < W.heap.size) (hv : VRs ⟨W, RO, fun _ => none⟩ (encs l x) vs)
  (hF : F x = some true) : Calls P f vs.toArray W fun e w' => e = .returned (.bool true) ∧ Below W.heap.size W w' := by
 intro cs
 obtain ⟨fr, w', val, oc, s1, s2, s3, s4, s5, s6⟩ := K.ends RO W x vs true hRO hv hF cs
 have s6 : VR _ (.bool true) val := s6
 cases s6
 exact ⟨_, w', fr, ⟨rfl, s4⟩, s1, s2, s3⟩
end
end Go.AM
namespace Go.AM
open Go.RowKit
theorem Callee.of_nil {P : Program} {f : FuncId} {t : Ty} {res : Rsh} {F : Shs [.one (.lst t)] → Option res.den} {Φ : Ora} {inl : FuncId → Bool} {segs : List Seg} {n : Nat} (hO : ∀ S0 w0, OraOK P S0 w0 Φ) (hen : (enterA P f []).isSome = true) (hok : res.okOwn = true) (hs : ∀ S0 w0 cs0, ∀ s ∈ segs, SegGood P S0 w0 cs0 f s)
  (hnil : ∀ r, F (([] : List t.den), ()) = some r → runS P Φ inl [] segs res.fin n false (start f [.nilSlc]) = some r)
  (hsome : ∀ (xs : List t.den) r, F (xs, ()) = some r → runS P Φ inl [] segs res.fin n false (start f [.nlst t xs]) = some r) : Callee.OK P ⟨f, [.one (.lst t)], res, F⟩ := by
 refine Callee.of_runs (inl := inl) hO hen hok fun RO w x vs r hv hF => ?_
 obtain ⟨xs, ⟨⟩⟩ := x
 have hv : VRs ⟨w, RO, fun _ => none⟩ [.lst t xs] vs := hv
 cases hv with
 | cons h1 h2 =>
  cases h2
  cases h1 with
  | lst q =>
   obtain ⟨a, m, c, q1, q2, q3, q4⟩ := q
   simp only [List.cons.injEq, and_true] at q1
   subst q1
   cases a with
   | none =>
    rcases q4 with ⟨q4, q5⟩ | ⟨b, o, ds, q4, _⟩
    ·have q4 : xs = ([] : List t.den) := q4
     subst q4
     have hm : m = 0 := q2
     have hc : c = 0 := q5 rfl
     subst hm; subst hc
     exact ⟨[.nilSlc], n, segs, .cons .nilSlc .nil, hs, hnil r hF⟩
    ·simp at q4
   | some a => exact ⟨[.nlst t xs], n, segs, .cons (.nlst ⟨some a, m, c, rfl, q2, q3, q4⟩ ⟨a, m, c, rfl⟩) .nil, hs, hsome xs r hF⟩
end Go.AM
end
section
namespace Go.AM
open Go.RowKit
def okInt (k : IntKind) (n : Int) : Prop := k.min ≤ n ∧ n ≤ k.max
def okStr (s : List Int) : Prop := s.length ≤ 140737488351232 ∧ ∀ b ∈ s, 0 ≤ b ∧ b < 256
def okAll {α : Type} (p : α → Prop) (xs : List α) : Prop := ∀ y ∈ xs, p y
def okLst {α : Type} (p : α → Prop) (xs : List α) : Prop := xs.length ≤ 140737488351232 ∧ okAll p xs
def okArr {α : Type} (n : Nat) (p : α → Prop) (xs : List α) : Prop := xs.length = n ∧ okAll p xs
def Ty.ok : (t : Ty) → t.den → Prop
 | .int k, x => okInt k x
 | .bool, _ => True
 | .str, s => okStr s
 | .lst t, xs => okLst (α := t.den) t.ok xs
 | .arr n t, xs => okArr (α := t.den) n t.ok xs
 | .unit, _ => True
 | .pair a b, x => a.ok x.1 ∧ b.ok x.2
def Ty.pos : Ty → Bool
 | .lst t => Nat.blt 0 t.size && t.pos
 | .arr _ t => t.pos
 | .pair a b => a.pos && b.pos
 | _ => true
def bytesB (P : Program) : Nat → TypeId → Bool
 | 0, _ => false
 | n + 1, t => match P.underlying t with
  | some (.slice e) => Nat.blt 0 (P.bytesOf e) && bytesB P n e
  | some (.array _ e) => bytesB P n e
  | some (.struct fs) => fs.toList.all fun f => bytesB P n f.type
  | _ => true
theorem reach_eq : reachBytes = 140737488351232 := by decide
theorem weights_all {H : Type} {P : Program} {e : TypeId} : ∀ {ds : List (DataW H)} {d : DataW H}, d ∈ ds → ∀ n ∈ d.weights P e, n ∈ DataW.weightsAll P e ds
 | d0 :: ds, d, h, n, hn => by
  simp only [DataW.weightsAll, List.mem_append]
  rcases List.mem_cons.1 h with rfl | h
  ·exact .inl hn
  ·exact .inr (weights_all h n hn)
 | [], _, h, _, _ => nomatch h
section
variable {H : Type} {enc : TypeId × Value → H} {P : Program} {W : World} {spare : Nat → Bool} {held : Bool} {RO : Nat → Nat → Prop} {M : Nat → Option Ent}
theorem inRange_of_wf {k : IntKind} {n : Int} (h : (Lit.int k n).wf = true) : inRangeB k n = true := by
 unfold Lit.wf at h
 unfold inRangeB
 simpa using h
theorem bytes_ok (s : ByteArray) : ∀ b ∈ bytesOf s, 0 ≤ b ∧ b < 256 := by
 intro b hb
 unfold bytesOf at hb
 obtain ⟨u, _, rfl⟩ := List.mem_map.1 hb
 have := u.toNat_lt
 omega
theorem fields_rep {cs : List Value} {xs : List (DataW H × List MemPlace)} {m : Nat}
  (rec : ∀ {t ty cs} {r : DataW H × List MemPlace}, tyOf P m t = some ty → ty.pos = true → bytesB P m t = true → (∀ n ∈ r.1.weights P t, n ≤ reachBytes) → (∃ fuel, DataW.trod enc P W 0 spare held fuel t cs = some r) → (∀ b j, MemPlace.cell b j ∈ r.2 → RO b j) → ∃ x : ty.den, Rep ⟨W, RO, M⟩ ty x cs ∧ ty.ok x) :
  ∀ {fs : List Field} {l : List Ty} {i o : Nat}, allSome (fun f => tyOf P m f.type) fs = some l → offsOk fs l o = true → (Ty.st l).pos = true → cs.length = o + (Ty.st l).size →
   (∀ (j : Nat) (f : Field), fs[j]? = some f → ∃ r fuel, xs[i + j]? = some r ∧ DataW.trod enc P W 0 spare held fuel f.type ((cs.drop f.offset).take (P.cellsOf f.type)) = some r ∧ bytesB P m f.type = true ∧ ∀ n ∈ r.1.weights P f.type, n ≤ reachBytes) →
   (∀ r ∈ xs, ∀ b j, MemPlace.cell b j ∈ r.2 → RO b j) → ∃ x : (Ty.st l).den, Rep ⟨W, RO, M⟩ (Ty.st l) x (cs.drop o) ∧ (Ty.st l).ok x
 | [], l, i, o, ha, ho, hp, hl, hx, hro => by
  simp only [allSome, Option.some.injEq] at ha
  subst ha
  refine ⟨(), ?_, trivial⟩
  show cs.drop o = []
  have : (Ty.st []).size = 0 := rfl
  rw [this] at hl
  exact List.drop_eq_nil_of_le (by omega)
 | f :: fs, l, i, o, ha, ho, hp, hl, hx, hro => by
  simp only [allSome] at ha
  split at ha
  ·rename_i ty hty
   split at ha
   ·rename_i tys htys
    obtain rfl := Option.some.inj ha
    simp only [offsOk, Bool.and_eq_true] at ho
    obtain ⟨ho1, ho2⟩ := ho
    have ho1 := Nat.eq_of_beq_eq_true ho1
    obtain ⟨r, fuel, h1, h2, hb1, hb2⟩ := hx 0 f rfl
    have hsz : P.cellsOf f.type = ty.size := tyOf_size hty
    rw [hsz, ho1] at h2
    have hro1 := hro r (List.mem_of_getElem? h1)
    cases tys with
    | nil =>
     have hp1 : ty.pos = true := hp
     obtain ⟨x, k1, k2⟩ := rec hty hp1 hb1 hb2 ⟨fuel, h2⟩ hro1
     refine ⟨x, ?_, k2⟩
     have hl : cs.length = o + ty.size := hl
     rw [List.take_of_length_le (by rw [List.length_drop]; omega)] at k1
     exact k1
    | cons b tys =>
     have hp' : (ty.pos && (Ty.st (b :: tys)).pos) = true := hp
     simp only [Bool.and_eq_true] at hp'
     have hl : cs.length = o + (ty.size + (Ty.st (b :: tys)).size) := hl
     obtain ⟨x, k1, k2⟩ := rec hty hp'.1 hb1 hb2 ⟨fuel, h2⟩ hro1
     obtain ⟨y, k3, k4⟩ := fields_rep (cs := cs) (xs := xs) rec (i := i + 1) (o := o + ty.size) htys ho2 hp'.2 (by omega) (fun j f' hf => by
      obtain ⟨r, fuel, q1, q2⟩ := hx (j + 1) f' (by simpa using hf)
      exact ⟨r, fuel, by rw [← q1]; congr 1; omega, q2⟩) hro
     exact ⟨(x, y), ⟨(cs.drop o).take ty.size, cs.drop (o + ty.size), by rw [← List.drop_drop, List.take_append_drop], k1, k3⟩, k2, k4⟩
   ·simp at ha
  ·simp at ha
theorem elems_rep {t : Ty} {z : Nat} {get : Nat → List Value} (n : Nat) (hz : ∀ i, i < n → (get i).length = z) (h : ∀ i, i < n → ∃ x : t.den, Rep ⟨W, RO, M⟩ t x (get i) ∧ t.ok x) :
  ∃ (xs : List t.den) (ds : List Value), xs.length = n ∧ Cat (Rep ⟨W, RO, M⟩ t) xs ds ∧ (∀ y ∈ xs, t.ok y) ∧ ds.length = n * z ∧ ∀ i j, i < n → j < z → ds[i * z + j]? = (get i)[j]? := by
 induction n with
 | zero => exact ⟨[], [], rfl, rfl, fun y hy => by simp at hy, by simp, fun i j hi => by omega⟩
 | succ n ih =>
  obtain ⟨xs, ds, h1, h2, h3, h4, h5⟩ := ih (fun i hi => hz i (by omega)) (fun i hi => h i (by omega))
  obtain ⟨x, k1, k2⟩ := h n (by omega)
  have hzn := hz n (by omega)
  refine ⟨xs ++ [x], ds ++ get n, by simp [h1], h2.append ⟨get n, [], by simp, k1, rfl⟩, fun y hy => ?_, by rw [List.length_append, h4, hzn, Nat.add_mul]; omega, fun i j hi hj => ?_⟩
  ·rcases List.mem_append.1 hy with q | q
   ·exact h3 y q
   ·simp at q; subst q; exact k2
  ·by_cases hin : i < n
   ·have : i * z + j < ds.length := by
     rw [h4]
     have : i * z + z ≤ n * z := mul_le_of_lt hin
     omega
    rw [List.getElem?_append_left this]
    exact h5 i j hin hj
   ·obtain rfl : i = n := by omega
    rw [List.getElem?_append_right (by omega), h4]
    congr 1; omega
theorem mem_row {a : Addr} {n j : Nat} (h : j < n) : MemPlace.cell a.block (a.off + j) ∈ MemPlace.row a n := by
 unfold MemPlace.row
 exact List.mem_map.2 ⟨j, List.mem_range.2 h, rfl⟩
theorem add_add_none {a : Addr} (i j : Nat) (h : a.spot = none) : (a.add i).add j = ⟨a.block, a.off + (i + j), none⟩ := by
 obtain ⟨b, o, s⟩ := a
 simp only at h
 subst h
 unfold Addr.add
 by_cases hi : i = 0 <;> by_cases hj : j = 0 <;> simp [hi, hj]
 omega
theorem trod_rep : ∀ (m : Nat) {t : TypeId} {ty : Ty} {cs : List Value} {r : DataW H × List MemPlace}, tyOf P m t = some ty → ty.pos = true → bytesB P m t = true → (∀ n ∈ r.1.weights P t, n ≤ reachBytes) → (∃ fuel, DataW.trod enc P W 0 spare held fuel t cs = some r) → (∀ b j, MemPlace.cell b j ∈ r.2 → RO b j) →
  ∃ x : ty.den, Rep ⟨W, RO, M⟩ ty x cs ∧ ty.ok x
 | 0, t, ty, cs, r, ht, _, _, _, _, _ => by simp [tyOf] at ht
 | m + 1, t, ty, cs, r, ht, hp, hbb, hwt, ⟨fuel, hr⟩, hro => by
  have hsz := tyOf_size ht
  unfold tyOf at ht
  split at ht
  ·rename_i hu
   obtain rfl := sized_eq ht
   obtain ⟨b, rfl, rfl⟩ := DataW.trod_bool hu hr
   exact ⟨b, rfl, trivial⟩
  ·rename_i k hu
   obtain rfl := sized_eq ht
   obtain ⟨n, rfl, rfl, hw⟩ := DataW.trod_int hu hr
   have := inRange_of_wf hw
   refine ⟨n, ⟨rfl, this⟩, ?_⟩
   show okInt k n
   simpa [inRangeB, okInt] using this
  ·rename_i hu
   obtain rfl := sized_eq ht
   obtain ⟨s, rfl, rfl, hw⟩ := DataW.trod_string hu hr
   refine ⟨bytesOf s, ⟨s, rfl, rfl⟩, ?_, bytes_ok s⟩
   have := hwt s.data.toList.length (by simp [DataW.weights])
   rw [reach_eq] at this
   unfold bytesOf; simpa using this
  ·rename_i e hu
   split at ht
   ·rename_i ty' hty
    obtain rfl := sized_eq ht
    have hp : (Nat.blt 0 ty'.size && ty'.pos) = true := hp
    simp only [Bool.and_eq_true, Nat.blt_eq] at hp
    have hze : P.cellsOf e = ty'.size := tyOf_size hty
    rcases DataW.trod_slice hu hr with ⟨rfl, rfl⟩ | ⟨a, len, cap, elems, rest, n, rfl, rfl, rfl, hb, hl, hm, hlen, hel, _, _⟩
    ·exact ⟨[], ⟨none, 0, 0, rfl, rfl, by omega, .inl ⟨rfl, fun _ => rfl⟩⟩, Nat.zero_le _, fun y hy => nomatch hy⟩
    ·have hbe : 0 < P.bytesOf e ∧ bytesB P m e = true := by
      unfold bytesB at hbb
      rw [hu] at hbb
      simpa [Nat.blt_eq] using hbb
     have hwe : ∀ yi ∈ elems, ∀ n ∈ yi.1.weights P e, n ≤ reachBytes := fun yi hy n hn => hwt n (by
      simp only [DataW.weights, hu, List.mem_cons, List.mem_append]
      exact .inr (.inl (weights_all (List.mem_map_of_mem hy) n hn)))
     have hlw : len ≤ 140737488351232 := by
      have := hwt (((elems.map (·.1)).length + (rest.map (·.1)).length) * P.bytesOf e) (by simp [DataW.weights, hu])
      rw [reach_eq] at this
      have h2 : ((elems.map (·.1)).length + (rest.map (·.1)).length) * 1 ≤ ((elems.map (·.1)).length + (rest.map (·.1)).length) * P.bytesOf e := Nat.mul_le_mul_left _ hbe.1
      simp only [List.length_map] at this h2
      omega
     have hcell : ∀ i, i < len → ∃ ci yi, W.cells? 0 (a.add (i * ty'.size)) ty'.size = some ci ∧ DataW.trod enc P W 0 spare held n e ci = some yi ∧ elems[i]? = some yi := by
      intro i hi
      have h1 := hel i hi
      rw [hze, List.getElem?_eq_getElem (by omega), Option.bind_eq_some_iff] at h1
      obtain ⟨ci, q1, q2⟩ := h1
      exact ⟨ci, _, q1, q2, List.getElem?_eq_getElem (by omega)⟩
     let get : Nat → List Value := fun i => (W.cells? 0 (a.add (i * ty'.size)) ty'.size).getD []
     have hget : ∀ i, i < len → ∃ ci yi, get i = ci ∧ W.cells? 0 (a.add (i * ty'.size)) ty'.size = some ci ∧ DataW.trod enc P W 0 spare held n e ci = some yi ∧ yi ∈ elems := by
      intro i hi
      obtain ⟨ci, yi, q1, q2, q3⟩ := hcell i hi
      exact ⟨ci, yi, by simp [get, q1], q1, q2, List.mem_of_getElem? q3⟩
     obtain ⟨xs, ds, k1, k2, k3, k4, k5⟩ := elems_rep (t := ty') (z := ty'.size) (get := get) (W := W) (RO := RO) (M := M) len
      (fun i hi => by obtain ⟨ci, yi, q1, q2, _⟩ := hget i hi; rw [q1]; exact (World.cells?_some q2).2.1)
      (fun i hi => by
       obtain ⟨ci, yi, q1, q2, q3, q4⟩ := hget i hi
       rw [q1]
       exact trod_rep m hty hp.2 hbe.2 (hwe _ q4) ⟨n, q3⟩ fun b j hbj => hro b j (List.mem_append.2 (.inr (List.mem_flatMap.2 ⟨yi, List.mem_append.2 (.inl q4), hbj⟩))))
     refine ⟨xs, ⟨some a, len, cap, rfl, k1.symm, hl, ?_⟩, by rw [k1]; exact hlw, k3⟩
     by_cases h0 : len = 0
     ·left; exact ⟨List.length_eq_zero_iff.1 (by rw [k1, h0]), fun q => by simp at q⟩
     ·right
      have hspot : a.spot = none := by
       obtain ⟨ci, yi, _, q2, _⟩ := hget 0 (by omega)
       have h1 := (World.cells?_some q2).2.2 0 (by omega)
       have h2 := (World.cells?_some q2).2.1
       have : (a.add (0 * ty'.size)).add 0 = a := by simp [Addr.add]
       rw [this, List.getElem?_eq_getElem (by omega)] at h1
       unfold World.cell? at h1
       split at h1
       ·split at h1
        ·simp at h1
        ·rename_i hq; simpa using hq
       ·simp at h1
      refine ⟨a.block, a.off, ds, by rw [← hspot], k2, fun j v hj => ?_⟩
      have hlt := (List.getElem?_eq_some_iff.1 hj).1
      rw [k4] at hlt
      have hdm := Nat.div_add_mod j ty'.size
      have hml := Nat.mod_lt j hp.1
      have hdl : j / ty'.size < len := by
       rw [Nat.div_lt_iff_lt_mul hp.1]; exact hlt
      have h5 := k5 (j / ty'.size) (j % ty'.size) hdl hml
      have hj' : j / ty'.size * ty'.size + j % ty'.size = j := by rw [Nat.mul_comm]; exact hdm
      rw [hj', hj] at h5
      obtain ⟨ci, yi, q1, q2, _⟩ := hget (j / ty'.size) hdl
      rw [q1] at h5
      have h6 := (World.cells?_some q2).2.2 (j % ty'.size) hml
      rw [add_add_none _ _ hspot, hj', ← h5] at h6
      refine ⟨h6, hro _ _ (List.mem_append.2 (.inl (mem_row ?_)))⟩
      rw [hlen, hze]
      have : len * ty'.size ≤ (len + rest.length) * ty'.size := Nat.mul_le_mul_right _ (by omega)
      omega
   ·simp at ht
  ·rename_i k e hu
   split at ht
   ·rename_i ty' hty
    obtain rfl := sized_eq ht
    have hp : ty'.pos = true := hp
    have hze : P.cellsOf e = ty'.size := tyOf_size hty
    obtain ⟨xs, n, rfl, rfl, h1, h2, h3⟩ := DataW.trod_array hu hr
    have hbe : bytesB P m e = true := by
     unfold bytesB at hbb
     rw [hu] at hbb
     exact hbb
    have hwe : ∀ yi ∈ xs, ∀ n ∈ yi.1.weights P e, n ≤ reachBytes := fun yi hy n hn => hwt n (by
     simp only [DataW.weights, hu]
     exact weights_all (List.mem_map_of_mem hy) n hn)
    rw [hsz] at h1
    have h1 : cs.length = k * ty'.size := h1
    obtain ⟨ys, ds, k1, k2, k3, k4, k5⟩ := elems_rep (t := ty') (z := ty'.size) (get := fun i => (cs.drop (i * ty'.size)).take ty'.size) (W := W) (RO := RO) (M := M) k
     (fun i hi => by
      have : i * ty'.size + ty'.size ≤ k * ty'.size := mul_le_of_lt hi
      simp; omega)
     (fun i hi => by
      have h4 := h3 i hi
      rw [hze, List.getElem?_eq_getElem (by omega)] at h4
      exact trod_rep m hty hp hbe (hwe _ (List.getElem_mem _)) ⟨n, h4⟩ fun b j hbj => hro b j (List.mem_flatMap.2 ⟨_, List.getElem_mem _, hbj⟩))
    have : ds = cs := by
     by_cases hz0 : ty'.size = 0
     ·rw [hz0, Nat.mul_zero] at k4 h1
      rw [List.length_eq_zero_iff.1 k4, List.length_eq_zero_iff.1 h1]
     ·refine List.ext_getElem? fun j => ?_
      by_cases hj : j < k * ty'.size
      ·have hpos : 0 < ty'.size := by omega
       have hml := Nat.mod_lt j hpos
       have hdl : j / ty'.size < k := by rw [Nat.div_lt_iff_lt_mul hpos]; exact hj
       have h5 := k5 (j / ty'.size) (j % ty'.size) hdl hml
       have hj' : j / ty'.size * ty'.size + j % ty'.size = j := by rw [Nat.mul_comm]; exact Nat.div_add_mod j ty'.size
       rw [hj', List.getElem?_take, if_pos hml, List.getElem?_drop, hj'] at h5
       exact h5
      ·rw [List.getElem?_eq_none (by omega), List.getElem?_eq_none (by omega)]
    subst this
    exact ⟨ys, ⟨k1, k2⟩, k1, k3⟩
   ·simp at ht
  ·rename_i fs hu
   split at ht
   ·rename_i l hl
    simp only [cond_eq_ite] at ht
    split at ht
    ·rename_i ho
     obtain rfl := sized_eq ht
     obtain ⟨xs, n, rfl, rfl, h1, h2, h3⟩ := DataW.trod_struct hu hr
     rw [hsz] at h1
     obtain ⟨x, k1, k2⟩ := fields_rep (cs := cs) (xs := xs) (m := m) (fun ht hp hb hw hr hro => trod_rep m ht hp hb hw hr hro) (i := 0) (o := 0) hl ho hp (by omega) (fun j f hf => by
      rw [Array.getElem?_toList] at hf
      have hj := (Array.getElem?_eq_some_iff.1 hf).1
      have h4 := h3 j f hf
      rw [List.getElem?_eq_getElem (by omega)] at h4
      refine ⟨_, n, by rw [Nat.zero_add]; exact List.getElem?_eq_getElem (by omega), h4, ?_, fun q hq => hwt q ?_⟩
      ·unfold bytesB at hbb
       rw [hu] at hbb
       exact List.all_eq_true.1 hbb f (List.mem_of_getElem? (by rw [Array.getElem?_toList]; exact hf))
      ·simp only [DataW.weights, hu]
       exact DataW.weights_mem_each (j := j) (by rw [List.getElem?_map, Array.getElem?_toList, hf]; rfl) (by rw [List.getElem?_map, List.getElem?_eq_getElem (by omega)]; rfl) q hq)
      (fun r hr b j hbj => hro b j (List.mem_flatMap.2 ⟨r, hr, hbj⟩))
     exact ⟨x, by simpa using k1, k2⟩
    ·simp at ht
   ·simp at ht
  ·simp at ht
end
end Go.AM
end
section
namespace Go.AM
open Go.RowKit
def Sh.ok (s : Sh) (x : s.ty.den) : Prop := s.ty.ok x
def oks : (l : List Sh) → Shs l → Prop
 | [], _ => True
 | s :: r, x => s.ok x.1 ∧ oks r x.2
def shOf (P : Program) (t : TypeId) : Option Sh :=
 match tyOf P tyD t with
 | some ty => (match P.underlying t with
  | some (.struct _) => some (.ag ty)
  | _ => some (.one ty))
 | none => none
def shsOf (P : Program) : List TypeId → Option (List Sh)
 | [] => some []
 | t :: r => match shOf P t, shsOf P r with
  | some s, some l => some (s :: l)
  | _, _ => none
theorem inj_one {P : Program} : ∀ {n : Nat} {t : TypeId} {ty : Ty}, tyOf P n t = some ty → (∀ fs, P.underlying t ≠ some (.struct fs)) → ∀ x : ty.den, ∃ v, inj ty x = [v]
 | 0, t, ty, h, _, x => by simp [tyOf] at h
 | n + 1, t, ty, h, hn, x => by
  unfold tyOf at h
  split at h
  ·obtain rfl := sized_eq h; exact ⟨_, rfl⟩
  ·obtain rfl := sized_eq h; exact ⟨_, rfl⟩
  ·obtain rfl := sized_eq h; exact ⟨_, rfl⟩
  ·split at h
   ·obtain rfl := sized_eq h; exact ⟨_, rfl⟩
   ·simp at h
  ·split at h
   ·obtain rfl := sized_eq h; exact ⟨_, rfl⟩
   ·simp at h
  ·rename_i fs hu; exact (hn _ hu).elim
  ·simp at h
section
variable {H : Type} {enc : TypeId × Value → H} {P : Program} {W : World} {spare : Nat → Bool} {held : Bool} {RO : Nat → Nat → Prop}
theorem notAgg {r : Reach} {base : Nat} {t : TypeId} {d : TypeDesc} {v : Value} (hu : P.underlying t = some d) (h1 : ∀ fs, d ≠ .struct fs) (h2 : ∀ n e, d ≠ .array n e) (h : Value.okWide P W r base t v) : v.cells.toList = [v] := by
 cases v with
 | agg cs =>
  exfalso
  unfold Value.okWide at h
  rw [hu] at h
  cases d <;> first | exact h1 _ rfl | exact h2 _ _ rfl | skip
  all_goals (simp only at h; unfold Cell.okWide at h; rw [hu] at h; simp only at h; first | exact h | (unfold Cell.ok at h; rw [hu] at h; simp at h))
 | _ => rfl
theorem arg_VR {C : Cx} {r : Reach} {base : Nat} {t : TypeId} {s : Sh} {x : s.ty.den} {v : Value} (hs : shOf P t = some s) (hok : Value.okWide P W r base t v) (hr : Rep C s.ty x v.cells.toList) : VR C (s.enc x) v := by
 unfold shOf at hs
 split at hs
 ·rename_i ty hty
  split at hs
  ·rename_i fs hu
   obtain rfl := Option.some.inj hs
   unfold Value.okWide at hok
   rw [hu] at hok
   obtain ⟨cs, rfl, _, _⟩ := hok
   have := VR.agg (C := C) (PR.of_inj (t := ty) (x := x) hr)
   show VR C (.agg (inj ty x)) (.agg cs)
   exact this
  ·rename_i hn
   obtain rfl := Option.some.inj hs
   show VR C (asOne (inj ty x)) v
   have hty' := hty
   unfold tyD tyOf at hty
   split at hty
   ·rename_i hu
    obtain rfl := sized_eq hty
    rw [notAgg hu (by simp) (by simp) hok] at hr
    have hr : [v] = [.bool x] := hr
    obtain rfl := (List.cons.inj hr).1
    exact .bool
   ·rename_i k hu
    obtain rfl := sized_eq hty
    rw [notAgg hu (by simp) (by simp) hok] at hr
    obtain ⟨hr, hb⟩ := hr
    obtain rfl := (List.cons.inj hr).1
    exact .int hb
   ·rename_i hu
    obtain rfl := sized_eq hty
    rw [notAgg hu (by simp) (by simp) hok] at hr
    obtain ⟨z, hr, hb⟩ := hr
    obtain rfl := (List.cons.inj hr).1
    exact .str hb
   ·rename_i e hu
    split at hty
    ·obtain rfl := sized_eq hty
     rw [notAgg hu (by simp) (by simp) hok] at hr
     exact .lst hr
    ·simp at hty
   ·rename_i m e hu
    split at hty
    ·obtain rfl := sized_eq hty
     unfold Value.okWide at hok
     rw [hu] at hok
     obtain ⟨cs, rfl, _, _⟩ := hok
     exact .arr hr
    ·simp at hty
   ·rename_i fs hu; exact (hn _ hu).elim
   ·simp at hty
 ·simp at hs
theorem args_VR {C : Cx} {r : Reach} {base : Nat} (hC : C.w = W) : ∀ {ts : List TypeId} {l : List Sh} {vs : List Value} {ds : List (DataW H)} {ps : List MemPlace}, shsOf P ts = some l → (l.all fun s => s.ty.pos) = true → (ts.all fun t => bytesB P tyD t) = true → (∀ n ∈ DataW.weightsEach P ts ds, n ≤ reachBytes) →
  DataW.TrodAll enc P W 0 spare held ts vs ds ps → (∀ (j : Nat) t v, ts[j]? = some t → vs[j]? = some v → Value.okWide P W r base t v) → (∀ b j, MemPlace.cell b j ∈ ps → C.RO b j) → ∃ x : Shs l, VRs C (encs l x) vs ∧ oks l x
 | [], l, vs, ds, ps, hs, hp, hbb, hwt, hA, hok, hro => by
  simp only [shsOf, Option.some.injEq] at hs
  subst hs
  cases vs with
  | nil => exact ⟨(), .nil, trivial⟩
  | cons => cases ds <;> exact hA.elim
 | t :: ts, l, vs, ds, ps, hs, hp, hbb, hwt, hA, hok, hro => by
  simp only [shsOf] at hs
  split at hs
  ·rename_i s l' h1 h2
   obtain rfl := Option.some.inj hs
   obtain ⟨v, vs', d, ds', p, q, rfl, rfl, rfl, hd, hrest⟩ := ChangeShapes.trodAll_cons hA
   simp only [List.all_cons, Bool.and_eq_true] at hp hbb
   simp only [DataW.weightsEach, List.mem_append] at hwt
   obtain ⟨y, k1, k2⟩ := args_VR hC h2 hp.2 hbb.2 (fun n hn => hwt n (.inr hn)) hrest (fun j t v h h' => hok (j + 1) t v (by simpa using h) (by simpa using h')) (fun b j hb => hro b j (List.mem_append.2 (.inr hb)))
   have hok0 := hok 0 t v rfl rfl
   have hty : tyOf P tyD t = some s.ty := by
    unfold shOf at h1
    split at h1
    ·rename_i ty hty
     split at h1
     ·obtain rfl := Option.some.inj h1; exact hty
     ·obtain rfl := Option.some.inj h1; exact hty
    ·simp at h1
   obtain ⟨fuel, hd⟩ := hd
   subst hC
   obtain ⟨x, g1, g2⟩ := trod_rep (M := C.M) (RO := C.RO) tyD hty hp.1 hbb.1 (fun n hn => hwt n (.inl hn)) ⟨fuel, hd⟩ (fun b j hb => hro b j (List.mem_append.2 (.inl hb)))
   exact ⟨(x, y), .cons (arg_VR h1 hok0 g1) k1, g2, k2⟩
  ·simp at hs
theorem trodAll_below (hl : laidOutB P = true) {W W' : World} (hb : Below W.heap.size W W') : ∀ {ts : List TypeId} {vs : List Value} {ds : List (DataW H)} {ps : List MemPlace}, (ts.all fun t => P.readableRec t && decide (t < P.types.size)) = true →
  DataW.TrodAll enc P W 0 (fun _ => true) true ts vs ds ps → DataW.TrodAll enc P W' 0 (fun b => decide (b < W.heap.size)) true ts vs ds ps
 | [], [], [], _, _, h => h
 | [], [], _ :: _, _, _, h => h.elim
 | [], _ :: _, _, _, _, h => h.elim
 | t :: ts, [], _, _, _, h => h.elim
 | t :: ts, _ :: _, [], _, _, h => h.elim
 | t :: ts, v :: vs, d :: ds, ps, hp, ⟨p, q, h1, h2, h3⟩ => by
  simp only [List.all_cons, Bool.and_eq_true, decide_eq_true_eq] at hp
  have hlt : ∀ x ∈ p, x.block < W.heap.size := by
   obtain ⟨m, hm⟩ := h1
   exact fun x hx => DataW.trod_lt m _ _ _ hm x hx
  exact ⟨p, q, Below.trod hl hp.1.1 hp.1.2 h1 hb hlt, trodAll_below hl hb (by simpa using hp.2) h2, h3⟩
end
theorem law_contract {H : Type} {enc : TypeId × Value → H} {P : Program} (hl : laidOutB P = true) {fn : Func} {s : ChangeSpec} {f : FuncId} {l : List Sh} {F : Shs l → Option Bool} (K : Callee.OK P ⟨f, l, .one (.sh (.one .bool)), F⟩)
  (hsh : shsOf P fn.params.toList = some l) (hpos : (l.all fun s => s.ty.pos) = true) (hpar : (fn.params.toList.all fun t => P.readableRec t && decide (t < P.types.size) && bytesB P tyD t) = true) {rt : TypeId} (hrt : fn.resultTypes = #[rt]) (hrb : P.underlying rt = some .bool)
  (hvars : s.vars = []) (hs : ∀ ds : List (DataW H), ds.length = fn.params.toList.length → s.fn H ds = { results := [.lit (.bool true)], args := ds }) (hF : ∀ x, oks l x → F x = some true) :
  ∀ (W : World) (base : Nat) (args : Array Value) (ds gs : List (DataW H)) (before : List MemPlace), (∀ (j : Nat) t v, fn.params[j]? = some t → args[j]? = some v → Value.okWide P W .any base t v) →
   DataW.Whole enc P fn.params.toList s.vars false W args.toList ds gs before → (DataW.weightsEach P (fn.params.toList ++ s.plain.varTypes P) (ds ++ gs)).all (· ≤ reachBytes) = true → Calls P f args W fun e W' => ∃ v, e = .returned v ∧ s.post enc P fn false true false false W args v W' := by
 intro W base args ds gs before hval hW hwt
 have hpar1 : (fn.params.toList.all fun t => P.readableRec t && decide (t < P.types.size)) = true := List.all_eq_true.2 fun t ht => by have := List.all_eq_true.1 hpar t ht; simp only [Bool.and_eq_true] at this ⊢; exact this.1
 have hpar2 : (fn.params.toList.all fun t => bytesB P tyD t) = true := List.all_eq_true.2 fun t ht => by have := List.all_eq_true.1 hpar t ht; simp only [Bool.and_eq_true] at this; exact this.2
 have hW' := hW
 rw [hvars] at hW
 obtain ⟨p, q, hA, hV, rfl, hfz, hnd⟩ := hW
 obtain ⟨rfl, rfl⟩ := ChangeShapes.trodVars_none hV
 let RO : Nat → Nat → Prop := fun b j => MemPlace.cell b j ∈ p
 have hlt : ∀ x ∈ p, x.block < W.heap.size := by
  have key : ∀ {ts : List TypeId} {vs : List Value} {ds : List (DataW H)} {ps : List MemPlace}, DataW.TrodAll enc P W 0 (fun _ => true) true ts vs ds ps → ∀ x ∈ ps, x.block < W.heap.size := by
   intro ts
   induction ts with
   | nil =>
    intro vs ds ps h x hx
    cases vs <;> cases ds <;> first | exact h.elim | skip
    have h : ps = [] := h
    subst h; simp at hx
   | cons t ts ih =>
    intro vs ds ps h x hx
    obtain ⟨v, vs', d, ds', p, q, rfl, rfl, rfl, ⟨m, hm⟩, hrest⟩ := ChangeShapes.trodAll_cons h
    rcases List.mem_append.1 hx with hx | hx
    ·exact DataW.trod_lt m _ _ _ hm x hx
    ·exact ih hrest x hx
  exact key hA
 have hlen0 : ds.length = fn.params.toList.length := by
  have key : ∀ {ts : List TypeId} {vs : List Value} {ds : List (DataW H)} {ps : List MemPlace}, DataW.TrodAll enc P W 0 (fun _ => true) true ts vs ds ps → ds.length = ts.length := by
   intro ts
   induction ts with
   | nil =>
    intro vs ds ps h
    cases vs <;> cases ds <;> first | exact h.elim | rfl
   | cons t ts ih =>
    intro vs ds ps h
    obtain ⟨v, vs', d, ds', p, q, rfl, rfl, rfl, _, hrest⟩ := ChangeShapes.trodAll_cons h
    simp [ih hrest]
  exact key hA
 have hwt1 : ∀ n ∈ DataW.weightsEach P fn.params.toList ds, n ≤ reachBytes := fun n hn => by
  have key : ∀ {ts us : List TypeId} {xs ys : List (DataW H)}, xs.length = ts.length → ∀ n ∈ DataW.weightsEach P ts xs, n ∈ DataW.weightsEach P (ts ++ us) (xs ++ ys) := by
   intro ts
   induction ts with
   | nil => intro us xs ys hl n hn; cases xs <;> simp [DataW.weightsEach] at hn
   | cons t ts ih =>
    intro us xs ys hl n hn
    cases xs with
    | nil => simp at hl
    | cons x xs =>
     simp only [List.cons_append, DataW.weightsEach, List.mem_append] at hn ⊢
     rcases hn with hn | hn
     ·exact .inl hn
     ·exact .inr (ih (by simpa using hl) n hn)
  have := List.all_eq_true.1 hwt n (key hlen0 n hn)
  simpa using this
 obtain ⟨x, h1, h2⟩ := args_VR (C := ⟨W, RO, fun _ => none⟩) rfl hsh hpos hpar2 hwt1 hA (fun j t v h h' => hval j t v (by rw [← Array.getElem?_toList]; exact h) (by rw [← Array.getElem?_toList]; exact h')) (fun b j hb => hb)
 have hlen : ds.length = fn.params.toList.length := by
  have key : ∀ {ts : List TypeId} {vs : List Value} {ds : List (DataW H)} {ps : List MemPlace}, DataW.TrodAll enc P W 0 (fun _ => true) true ts vs ds ps → ds.length = ts.length := by
   intro ts
   induction ts with
   | nil =>
    intro vs ds ps h
    cases vs <;> cases ds <;> first | exact h.elim | rfl
   | cons t ts ih =>
    intro vs ds ps h
    obtain ⟨v, vs', d, ds', p, q, rfl, rfl, rfl, _, hrest⟩ := ChangeShapes.trodAll_cons h
    simp [ih hrest]
  exact key hA
 have hcalls := Callee.true_calls (W := W) (RO := RO) K (fun c j hc => hlt (.cell c j) hc) h1 (hF x h2)
 refine hcalls.mono fun e W' ⟨he, hb⟩ => ?_
 subst he
 refine ⟨_, rfl, ds, [], _, [], p, [], hW', ?_, ?_, ?_, hb.frame _, fun h => by cases h⟩
 ·rw [List.append_nil, hs ds hlen, hrt]
  exact ChangeShapes.trodAll_mk1 (shut_bool hrb true)
 ·rw [List.append_nil, hs ds hlen]
  exact trodAll_below hl hb hpar1 hA
 ·rw [hvars, List.append_nil, hs ds hlen]
  rfl
end Go.AM
end
section
namespace Go.AM
open Go.RowKit
def Rk.read (k : Rk) (v : AV) : Option k.den :=
 match k with
 | .sh s => s.dec v
 | .own _ => none
def Rks.read : (l : List Rk) → List AV → Option (Rks l)
 | [], vs => match vs with
  | [] => some ()
  | _ :: _ => none
 | k :: r, vs => match vs with
  | [] => none
  | v :: vs => match k.read v with
   | some x => (match Rks.read r vs with | some y => some (x, y) | none => none)
   | none => none
def Rsh.read (r : Rsh) (v : AV) : Option r.den :=
 match r with
 | .one k => k.read v
 | .tup l => (match v with
  | .tup vs => Rks.read l vs
  | _ => none)
structure Proc where
 f : FuncId
 t : Ty
 args : List Sh
 cb : List FuncId
 res : Rsh
 F : List t.den → Shs args → Option (res.den × List t.den)
def lenOK {α γ : Type} (xs : List α) (o : Option (γ × List α)) : Option (γ × List α) :=
 match o with
 | some g => bif Nat.beq g.2.length xs.length then some g else none
 | none => none
def fnsOf (l : List FuncId) : List AV := l.map fun g => .fn (.func g) [] []
def fnsB : List FuncId → List AV → Bool
 | [], vs => vs.isEmpty
 | g :: r, vs => match vs with
  | .fn (.func g') [] [] :: vs => Nat.beq g g' && fnsB r vs
  | _ => false
def Proc.argv (k : Proc) (x : Shs k.args) : List AV := .own ioName 0 k.t :: (encs k.args x ++ fnsOf k.cb)
def Proc.start (k : Proc) (xs : List k.t.den) (x : Shs k.args) : St :=
 ⟨[{ fn := k.f, env := (List.range (k.argv x).length).zip (k.argv x), mays := [], items := [.code []] }], [(ioName, .cells 0 false [.row k.t xs])], 1000001⟩
def Proc.fin (k : Proc) (v : AV) (h : Hp) : Option (k.res.den × List k.t.den) :=
 match k.res.read v with
 | some r => (match h.row ioName 0 with
  | some (true, u) => (match asRow k.t u with | some xs => some (r, xs) | none => none)
  | _ => none)
 | none => none
def Proc.orc (k : Proc) (vs : List AV) (h : Hp) (nx : Nat) : Option Orc :=
 match vs with
 | .own b v t0 :: r => (match h.row b v with
  | some (true, u) => bif Nat.beq t0.size k.t.size && fnsB k.cb (r.drop k.args.length) then
    (match asRow k.t u with
    | some xs => (match decs k.args (r.take k.args.length) with
     | some x => some ⟨k.res.den × List k.t.den, (k.res.zero, []), lenOK (α := k.t.den) xs (k.F xs x),
       fun g => (k.res.enc nx g.1, [(b, .cells v false [.row k.t g.2])])⟩
     | none => none)
    | none => none)
   else none
  | _ => none)
 | _ => none
def procs : List Proc → Ora
 | [], _, _, _, _ => none
 | k :: r, f, vs, h, nx => bif Nat.beq k.f f then k.orc vs h nx else procs r f vs h nx
def both (a b : Ora) : Ora := fun f vs h nx => match a f vs h nx with | some o => some o | none => b f vs h nx
section
variable {P : Program} {S0 : Base} {w0 : World} {C C' : Cx} {h h' : Hp}
theorem fnsB_spec : ∀ {l : List FuncId} {vs : List AV}, fnsB l vs = true → vs = fnsOf l
 | [], vs, h => by
  simp only [fnsB, List.isEmpty_iff] at h
  exact h
 | g :: r, vs, h => by
  unfold fnsB at h
  split at h
  ·simp only [Bool.and_eq_true] at h
   rw [Nat.eq_of_beq_eq_true h.1, fnsB_spec h.2]; rfl
  ·simp at h
theorem fns_VR : ∀ {l : List FuncId} {us : List Value}, VRs C (fnsOf l) us → VRs C' (fnsOf l) us
 | [], _, .nil => .nil
 | g :: r, _, .cons h k => by
  refine .cons ?_ (fns_VR k)
  cases h with
  | fn h1 h2 h3 =>
   cases h2; cases h3
   exact .fn h1 .nil .nil
theorem VRs.app : ∀ {a b : List AV} {us vs : List Value}, VRs C a us → VRs C b vs → VRs C (a ++ b) (us ++ vs)
 | [], _, _, _, .nil, k => k
 | _ :: _, _, _, _, .cons h1 h2, k => .cons h1 (VRs.app h2 k)
theorem VRs.parts : ∀ {n : Nat} {a : List AV} {us : List Value}, VRs C a us → VRs C (a.take n) (us.take n) ∧ VRs C (a.drop n) (us.drop n)
 | 0, a, us, h => ⟨by simp only [List.take_zero]; exact .nil, by simpa using h⟩
 | n + 1, [], _, .nil => ⟨.nil, .nil⟩
 | n + 1, _ :: _, _, .cons h1 h2 => ⟨.cons h1 (VRs.parts h2).1, (VRs.parts h2).2⟩
theorem Rk.read_VR {k : Rk} {nx : Nat} {v : AV} {val : Value} {x : k.den} (hf : k.flat = true) (e : k.read v = some x) (hv : VR C v val) : VR C' (k.enc nx x) val := by
 cases k with
 | sh s =>
  have e : s.dec v = some x := e
  exact Sh.flat (s := s) hf (Sh.dec_VR (s := s) (Wid.self C) e hv)
 | own t => simp [Rk.read] at e
theorem Rks.read_VR {nx : Nat} : ∀ {l : List Rk} {vs : List AV} {us : List Value} {x : Rks l}, l.all Rk.flat = true → Rks.read l vs = some x → VRs C vs us → VRs C' (Rks.enc nx l x) us
 | [], vs, us, x, hf, e, hv => by
  cases hv with
  | nil => exact .nil
  | cons => simp [Rks.read] at e
 | k :: r, vs, us, x, hf, e, hv => by
  cases hv with
  | nil => simp [Rks.read] at e
  | cons h1 h2 =>
   simp only [List.all_cons, Bool.and_eq_true] at hf
   simp only [Rks.read] at e
   split at e
   ·rename_i y hy
    split at e
    ·rename_i z hz
     obtain rfl := Option.some.inj e
     exact .cons (Rk.read_VR hf.1 hy h1) (Rks.read_VR hf.2 hz h2)
    ·simp at e
   ·simp at e
theorem Rsh.read_VR {r : Rsh} {nx : Nat} {v : AV} {val : Value} {x : r.den} (hf : r.flat = true) (e : r.read v = some x) (hv : VR C v val) : VR C' (r.enc nx x) val := by
 cases r with
 | one k => exact Rk.read_VR (k := k) hf e hv
 | tup l =>
  cases hv with
  | @tup vs cs hv =>
   have e : Rks.read l vs = some x := e
   exact .tup (Rks.read_VR hf e hv)
  | _ =>
   have e : (none : Option (Rks l)) = some x := e
   simp at e
end
end Go.AM
end
section
namespace Go.AM
open Go.RowKit
section
variable {P : Program}
def Proc.OK (P : Program) (k : Proc) : Prop :=
 ∀ (S0 : Base) (w0 : World) (args : List AV) (h' : Hp) (nx : Nat) (o : Orc) (g : o.γ), k.orc args h' nx = some o → o.x = some g → ∀ (cs : List Frame) (C : Cx) (h : Hp), Inv P S0 w0 C h → Sub' h' h → C.M nx = none →
  ∀ vs : List Value, VRs C args vs → Does P S0 w0 cs C h nx ((callFunc k.f vs.toArray).run P C.w) (o.enc g)
theorem procs_ok {S0 : Base} {w0 : World} : ∀ {ks : List Proc}, (∀ k ∈ ks, k.OK P) → OraOK P S0 w0 (procs ks)
 | [], _ => fun f args h' nx o g e => by simp [procs] at e
 | k :: ks, K => fun f args h' nx o g e hg cs C h I hs hM vs hv => by
  simp only [procs, cond_eq_ite] at e
  split at e
  ·rename_i hf
   have := Nat.eq_of_beq_eq_true hf
   subst this
   exact K k (.head _) S0 w0 args h' nx o g e hg cs C h I hs hM vs hv
  ·exact procs_ok (fun k hk => K k (.tail _ hk)) f args h' nx o g e hg cs C h I hs hM vs hv
theorem both_ok {S0 : Base} {w0 : World} {a b : Ora} (ha : OraOK P S0 w0 a) (hb : OraOK P S0 w0 b) : OraOK P S0 w0 (both a b) :=
 fun f args h' nx o g e hg cs C h I hs hM vs hv => by
  unfold both at e
  split at e
  ·rename_i q
   obtain rfl := Option.some.inj e
   exact ha f args h' nx _ g q hg cs C h I hs hM vs hv
  ·exact hb f args h' nx o g e hg cs C h I hs hM vs hv
def iterP {α β γ : Type} (B : (α → β → Option γ) → α → β → Option γ) : Nat → α → β → Option γ
 | 0 => fun _ _ => none
 | n + 1 => B (iterP B n)
theorem Proc.iter_ok {f : FuncId} {t : Ty} {args : List Sh} {cb : List FuncId} {res : Rsh} {B : (List t.den → Shs args → Option (res.den × List t.den)) → List t.den → Shs args → Option (res.den × List t.den)}
  (h : ∀ S, Proc.OK P ⟨f, t, args, cb, res, S⟩ → Proc.OK P ⟨f, t, args, cb, res, B S⟩) : ∀ n, Proc.OK P ⟨f, t, args, cb, res, iterP B n⟩
 | 0 => by
  intro S0 w0 vs h' nx o g e hg
  unfold Proc.orc at e
  split at e
  ·split at e
   ·simp only [cond_eq_ite] at e
    split at e
    ·split at e
     ·split at e
      ·obtain rfl := Option.some.inj e
       simp [iterP, lenOK] at hg
      ·simp at e
     ·simp at e
    ·simp at e
   ·simp at e
  ·simp at e
 | n + 1 => h _ (Proc.iter_ok h n)
theorem Proc.of_run {k : Proc} {Φ : Ora} {inl : FuncId → Bool} {segs : List Seg} {n : Nat} (hO : ∀ S0 w0, OraOK P S0 w0 Φ) (hen : (enterA P k.f []).isSome = true) (hfr : k.res.flat = true) (hfa : (k.args.all fun s => s.ty.flat) = true) (hft : k.t.flat = true)
  (hs : ∀ S0 w0 cs0, ∀ s ∈ segs, SegGood P S0 w0 cs0 k.f s) (hrun : ∀ xs x r, k.F xs x = some r → runS P Φ inl [] segs k.fin n false (k.start xs x) = some r) : k.OK P := by
 intro S0 w0 args h' nx o g e hg cs C h I hsub hM vs hv
 unfold Proc.orc at e
 split at e
 ·rename_i b v t0 r
  split at e
  ·rename_i u hr
   simp only [cond_eq_ite] at e
   split at e
   ·rename_i hz
    simp only [Bool.and_eq_true] at hz
    have hsz := Nat.eq_of_beq_eq_true hz.1
    split at e
    ·rename_i xs hxs
     split at e
     ·rename_i x hx
      obtain rfl := Option.some.inj e
      obtain ⟨hF, hlen⟩ : k.F xs x = some g ∧ List.length (α := k.t.den) g.2 = List.length (α := k.t.den) xs := by
       have hg : lenOK (α := k.t.den) xs (k.F xs x) = some g := hg
       unfold lenOK at hg
       simp only [cond_eq_ite] at hg
       split at hg
       ·rename_i g' hg'
        split at hg
        ·rename_i hl
         obtain rfl := Option.some.inj hg
         exact ⟨hg', Nat.eq_of_beq_eq_true hl⟩
        ·simp at hg
       ·simp at hg
      obtain rfl := asRow_spec hxs
      obtain ⟨ro, en, g1, g2, g3, g4, g5, g6, g7⟩ := I.rowLen hsub hr
      have hro : ro = false := by simpa using g2
      subst hro
      cases hv with
      | @cons _ v0 _ us hv0 hvr =>
       cases hv0 with
       | own k1 k2 k3 k4 =>
        rw [g3] at k1
        obtain rfl := Option.some.inj k1
        have k3 := k3 g4.symm
        have noRO : ∀ c j, en.cb = some c → C.RO c j → False := fun c j hc hr => by
         obtain ⟨v', ps, q, _⟩ := I.roO b en c j g3 hc hr
         rw [g1] at q; cases q
        let e1 : Ent := { en with ver := 0 }
        let C1 : Cx := ⟨C.w, C.RO, fun y => if y = ioName then some e1 else none⟩
        let B : Base := ⟨C.RO, fun c => en.cb = some c⟩
        have hargs : VRs C1 (k.argv x) (v0 :: us) := by
         refine .cons (.own (e := e1) (by simp [C1]) (Nat.le_refl _) (fun _ => ?_) k4) ?_
         ·unfold OwnOK at k3 ⊢
          show match en.cb with | some c => _ | none => _
          cases hcb : en.cb with
          | none => rw [hcb] at k3; exact k3
          | some c =>
           rw [hcb] at k3
           obtain ⟨cap, q1, q2, q3⟩ := k3
           exact ⟨cap, q1, q2, by rw [← hsz]; exact q3⟩
         ·have hp := VRs.parts (n := k.args.length) hvr
          rw [← List.take_append_drop k.args.length us]
          refine VRs.app (encs_flat hfa (decs_VR (Wid.self C) _ hx hp.1)) ?_
          have := hp.2
          rw [fnsB_spec hz.2] at this
          exact fns_VR this
        obtain ⟨gfr, hgfr⟩ := enterA_any hen (k.argv x)
        have hg0 : gfr = { fn := k.f, env := (List.range (k.argv x).length).zip (k.argv x), mays := [], items := [.code []] } := by
         unfold enterA at hgfr
         split at hgfr
         ·simp only [cond_eq_ite] at hgfr
          split at hgfr
          ·split at hgfr
           ·exact (Option.some.inj hgfr).symm
           ·simp at hgfr
          ·simp at hgfr
         ·simp at hgfr
        subst hg0
        have S : StR P B C.w cs k.f C1 (k.start xs x) (Frame.enter P k.f (v0 :: us).toArray .normal) [] := by
         have hM1 : ∀ y e', C1.M y = some e' → y = ioName ∧ e' = e1 := fun y e' hy => by
          by_cases hq : y = ioName
          ·simp [C1, hq] at hy; exact ⟨hq, hy.symm⟩
          ·simp [C1, hq] at hy
         refine ⟨.cons (enter_sim hgfr hargs).1 .nil, ⟨⟨rfl, rfl, rfl, Nat.le_refl _, fun _ _ _ => rfl⟩, ?_, ?_, ?_, ?_, ?_, ?_, ?_⟩, ?_, ⟨rfl, rfl, rfl⟩⟩
         ·intro y ob hy
          have hy : (Hp.get [(ioName, AObj.cells 0 false [.row k.t xs])] y) = some ob := hy
          rw [Hp.get_cons] at hy
          split at hy
          ·rename_i hq
           obtain rfl := Option.some.inj hy
           refine ⟨e1, by simp [C1, ← hq], rfl, g5, fun t' xs' hm => ?_, ?_⟩
           ·simp only [List.mem_singleton] at hm
            cases hm
            exact g6
           ·show match en.cb with | none => _ | some c => _
            cases hcb : en.cb with
            | none =>
             rw [hcb] at g7
             have g7 : xs = [] := g7
             exact ⟨k.t, by rw [g7]⟩
            | some c =>
             rw [hcb] at g7
             obtain ⟨pre, p1, p2, p3⟩ := g7
             exact ⟨pre, PR.rowOne (p1.mono fun _ _ => Rep.flat hft), p2, p3⟩
          ·simp [Hp.get] at hy
         ·intro y e' hy
          obtain ⟨rfl, rfl⟩ := hM1 y e' hy
          exact ⟨_, by show Hp.get [(ioName, _)] ioName = _; rw [Hp.get_cons, if_pos rfl]⟩
         ·intro y e' c hy hc
          obtain ⟨rfl, rfl⟩ := hM1 y e' hy
          exact ⟨.inl hc, (I.loc b en c g3 hc).2⟩
         ·intro y e' y' e'' c hy hc hy' hc'
          rw [(hM1 y e' hy).1, (hM1 y' e'' hy').1]
         ·intro c j q
          exact ⟨(I.ro c j q).1, .inl q⟩
         ·intro y e' c j hy hc q
          obtain ⟨rfl, rfl⟩ := hM1 y e' hy
          exact (noRO c j hc q).elim
         ·intro c hc
          exact ⟨⟨e1, by simp [C1], hc⟩, fun j hj => hj⟩
         ·intro y hy
          by_cases hq : y = ioName
          ·rw [hq]; show ioName < 1000001; decide
          ·simp [C1, hq] at hy
        obtain ⟨C', fr, val, av, hh, s1, s2, s3, s4, s5, s6⟩ := run_sound (G := toEnd P B C.w cs k.f k.fin) (cuts := []) (hO _ _) (fun r w fr cs q => q) (fun c hc => by simp at hc) (fun s hs' => hs _ _ cs s hs') n S (hrun xs x g hF)
        unfold Proc.fin at s6
        split at s6
        ·rename_i rr hread
         split at s6
         ·rename_i u2 hrow
          split at s6
          ·rename_i xs2 hxs2
           obtain rfl := Option.some.inj s6
           obtain rfl := asRow_spec hxs2
           obtain ⟨ro2, en2, q1, q2, q3, q4, q5, q6, q7⟩ := s5.rowLen (Sub'.self hh) hrow
           have hcb2 : ∀ c, en.cb = some c → en2.cb = some c := fun c hc => by
            obtain ⟨⟨e', z1, z2⟩, _⟩ := s5.pin c hc
            rw [q3] at z1
            obtain rfl := Option.some.inj z1
            exact z2
           have hlen : List.length (α := k.t.den) xs2 = List.length (α := k.t.den) xs := hlen
           have g6 : en.len = List.length (α := k.t.den) xs := g6
           have bel : Keep S0.io w0 C'.w := by
            have z := s5.below
            refine ⟨z.os.trans I.below.os, z.tape.trans I.below.tape, z.output.trans I.below.output, Nat.le_trans I.below.size z.size, fun i hi hx => ?_⟩
            have hi2 := I.below.size
            refine (z.block i (by omega) fun hc => ?_).trans (I.below.block i hi hx)
            rcases (I.loc b en i g3 hc).1 with q | q
            ·exact hx q
            ·omega
           have T := I.turn (b := b) (e := en) (e' := en) (ao := .cells v false [.row k.t xs2]) (w' := C'.w) g3 (Nat.le_refl _) (fun _ => rfl) (fun _ => rfl) bel s5.below.size
            (fun i hi hne => s5.below.block i hi hne) (fun c j hc hr => (noRO c j hc hr).elim) (fun c j hc hj => (s5.pin c hc).2 j hj) (fun c hc => .inl hc) (fun c j hc _ hr => (noRO c j hc hr).elim)
            (fun le => ⟨g4, g5, fun t' xs' hm => by
             simp only [List.mem_singleton] at hm
             cases hm
             rw [g6, hlen], by
             cases hcb : en.cb with
             | none =>
              rw [hcb] at g7
              have g7 : xs = [] := g7
              have : xs2 = [] := List.eq_nil_of_length_eq_zero (by rw [hlen, g7]; rfl)
              exact ⟨k.t, by rw [this]⟩
             | some c =>
              rw [hcb2 c hcb] at q7
              obtain ⟨pre, p1, p2, p3⟩ := q7
              exact ⟨pre, PR.rowOne (p1.mono fun _ _ => Rep.flat hft), p2, p3⟩⟩)
           have hland : Lands P cs ((callFunc k.f (v0 :: us).toArray).run P C.w) val C'.w := by
            obtain ⟨ga, hga⟩ := enterA_any hen []
            exact .inr (.inr ⟨k.f, _, C.w, run_callFunc hga _ _, fr, s1, s2, s3⟩)
           refine ⟨val, ⟨C'.w, C.RO, fun y => if y = b then some en else C.M y⟩, hland, T.2, T.1, Rsh.read_VR hfr hread s4, fun y hy => .inl ?_⟩
           by_cases hq : y = b
           ·subst hq; rw [g3]; simp
           ·simpa [hq] using hy
          ·simp at s6
         ·simp at s6
        ·simp at s6
       | _ => skip
     ·simp at e
    ·simp at e
   ·simp at e
  ·simp at e
 ·simp at e
end
end Go.AM
end
section
namespace Go.AM
open Go.RowKit Go.Proofs
section
variable {P : Program}
theorem Callee.of_calls {k : Callee} (hen : (enterA P k.f []).isSome = true) (hok : k.res.okOwn = true)
  (h : ∀ RO w x vs r, VRs ⟨w, RO, fun _ => none⟩ (encs k.args x) vs → k.F x = some r → Calls P k.f vs.toArray w fun e w' => ∃ val, e = .returned val ∧ Below w.heap.size w w' ∧ ∀ RO', RshR ⟨w', RO', fun _ => none⟩ none k.res r val) : k.OK P := by
 refine ⟨fun vs w => ?_, hok, fun RO w x vs r hRO hv hF cs => ?_⟩
 ·obtain ⟨g, hg⟩ := enterA_any hen []
  exact run_callFunc hg vs w
 ·obtain ⟨e, w', fr, ⟨val, rfl, h1, h2⟩, s1, s2, s3⟩ := h RO w x vs r hv hF cs
  exact ⟨fr, w', val, none, s1, s2, s3, h1, fun c hc => by simp at hc, h2 _⟩
def repL (l : List Int) : Nat → List Int
 | 0 => []
 | k + 1 => l ++ repL l k
def repF : List Int × Int × Unit → Option (List Int) := fun v =>
 bif decide (0 ≤ v.2.1) && Nat.ble (v.1.length * v.2.1.toNat) 140737488355328 then some (repL v.1 v.2.1.toNat) else none
theorem bytes_repL (s : ByteArray) : ∀ k, bytesOf ⟨(Lib.repeatL s.data.toList k).toArray⟩ = repL (bytesOf s) k
 | 0 => rfl
 | k + 1 => by
  have := bytes_repL s k
  simp only [bytesOf, Lib.repeatL, repL, List.map_append] at *
  rw [this]
theorem repeat_ok {f : FuncId} (hen : (enterA P f []).isSome = true)
  (h : ∀ (s : ByteArray) (c : Nat) (w : World), c ≤ 9223372036854775807 → s.size * c ≤ 140737488355328 → Calls P f #[.string s, .int .i64 c] w fun e w' => e = .returned (.string ⟨(Lib.repeatL s.data.toList c).toArray⟩) ∧ Below w.heap.size w w') :
  Callee.OK P ⟨f, [.one .str, .one (.int .i64)], .one (.sh (.one .str)), repF⟩ := by
 refine Callee.of_calls hen rfl fun RO w x vs r hv hF => ?_
 obtain ⟨l, n, ⟨⟩⟩ := x
 revert hv hF
 generalize hl : (l : List Int) = l'
 generalize hn : (n : Int) = n'
 clear hl hn l n
 revert l' n'
 intro (l : List Int) (n : Int) hv hF
 have hv : VRs ⟨w, RO, fun _ => none⟩ [.str l, .int .i64 n] vs := hv
 have hF : (bif decide (0 ≤ n) && Nat.ble (l.length * n.toNat) 140737488355328 then some (repL l n.toNat) else none) = some r := hF
 cases hv with
 | cons h1 h2 =>
  cases h2 with
  | cons h2 h3 =>
   cases h3
   cases h1 with
   | @str s _ hs =>
    cases h2 with
    | int hr =>
     simp only [cond_eq_ite] at hF
     split at hF
     ·rename_i hc
      simp only [Bool.and_eq_true, decide_eq_true_eq] at hc
      obtain ⟨h0, hc⟩ := hc
      have hc := Nat.le_of_ble_eq_true hc
      obtain rfl := Option.some.inj hF
      obtain ⟨c, rfl⟩ := Int.eq_ofNat_of_zero_le h0
      simp only [inRangeB, Bool.and_eq_true, decide_eq_true_eq] at hr
      have hm : (IntKind.max .i64) = 9223372036854775807 := by decide
      rw [hm] at hr
      have hsz : s.size = l.length := by
       rw [← hs]; unfold bytesOf; rw [List.length_map]; rfl
      refine (h s c w (by omega) ?_).mono ?_
      ·rw [hsz]; exact hc
      ·rintro e w' ⟨rfl, hb⟩
       refine ⟨_, rfl, hb, fun RO' => ?_⟩
       show VR _ (.str (repL l (Int.toNat c))) _
       refine .str ?_
       rw [bytes_repL, hs]; rfl
     ·simp at hF
end
end Go.AM
end
section
namespace Go.AM
open Go.RowKit
inductive XK where
 | mark0 (m : Mark)
 | mark1 (m : Addr → Mark)
 | load (k : IntKind) | store | cas (k : IntKind) | add (k : IntKind)
def XK.ext : XK → Array Value → Sem Value
 | .mark0 m => fun _ => do mark m; pure Extern.Race.none_
 | .mark1 m => Extern.Race.marked m
 | .load k => Extern.Atomic.loadT (.int k)
 | .store => Extern.Atomic.storeT
 | .cas k => Extern.Atomic.casT (.int k)
 | .add k => Extern.Atomic.update (Op.intArith .add) k true
def XK.OK (P : Program) (f : FuncId) (x : XK) : Prop :=
 ∃ fn, P.funcs[f]? = some fn ∧ (fn.name == "runtime.NumGoroutine") = false ∧ fn.body.isNone = true ∧ Extern.findNext fn = none ∧ Extern.find fn = some x.ext
def intAt (h : Hp) (k : IntKind) : AV → Option (Bool × List AV × Int)
 | .ptr b v o path => (match h.cells b v with
  | some (w, ps) => (match objGet ps o path 1 with
   | some [.int k' n] => bif decide (k' = k) then some (w, ps, n) else none
   | _ => none)
  | none => none)
 | _ => none
def unitO (v : AV) (u : Upd) : Option Orc := some ⟨Unit, (), some (), fun _ => (v, u)⟩
def setInt (h : Hp) (k : IntKind) (a : AV) (y : Int) (res : AV) : Option Orc :=
 match a, intAt h k a with
 | .ptr b v o path, some (true, ps, _) => (match objPut ps o path [.int k y] 1 with
  | some l => unitO res [(b, .cells v false l)]
  | none => none)
 | _, _ => none
def XK.orc (h : Hp) : XK → List AV → Option Orc
 | .mark0 _, [] => unitO (.tup []) []
 | .mark1 _, [.ptr _ _ _ _] => unitO (.tup []) []
 | .load k, [a] => (match intAt h k a with | some x => unitO (.int k x.2.2) [] | none => none)
 | .store, [a, .int k y] => setInt h k a y (.tup [])
 | .cas k, [a, .int k1 x, .int k2 y] => bif decide (k1 = k) && decide (k2 = k) then (match intAt h k a with
  | some z => setInt h k a (bif decide (z.2.2 = x) then y else z.2.2) (.bool (decide (z.2.2 = x)))
  | none => none) else none
 | .add k, [a, .int k1 y] => bif decide (k1 = k) then (match intAt h k a with
  | some z => setInt h k a (k.wrap (z.2.2 + y)) (.int k (k.wrap (z.2.2 + y)))
  | none => none) else none
 | _, _ => none
def exts : List (FuncId × XK) → Ora
 | [], _, _, _, _ => none
 | x :: r, f, vs, h, nx => bif Nat.beq x.1 f then x.2.orc h vs else exts r f vs h nx
section
variable {P : Program} {S0 : Base} {w0 : World} {C : Cx} {h h' : Hp}
theorem intAt_sound (I : Inv P S0 w0 C h) (hs : Sub' h' h) {k : IntKind} {a : AV} {v : Value} {x : Bool × List AV × Int} (e : intAt h' k a = some x) (hv : VR C a v) :
  ∃ b ver o path c, a = .ptr b ver o path ∧ v = .pointer (some ⟨c, o + poff path, none⟩) ∧ h'.cells b ver = some (x.1, x.2.1) ∧ C.w.cell? ⟨c, o + poff path, none⟩ = some (.int k x.2.2) ∧ C.w.frozen? ⟨c, o + poff path, none⟩ = false ∧ inRangeB k x.2.2 = true ∧
   ∀ y, inRangeB k y = true → ∀ l, x.1 = true → objPut x.2.1 o path [.int k y] 1 = some l →
    ∃ C', C'.w = C.w.setCell ⟨c, o + poff path, none⟩ (.int k y) ∧ C.Le C' ∧ Inv P S0 w0 C' ((b, .cells ver false l) :: h) ∧ ∀ z, C'.M z ≠ none → C.M z ≠ none := by
 unfold intAt at e
 split at e
 ·rename_i b ver o path
  split at e
  ·rename_i w ps hc
   split at e
   ·rename_i k' n hl
    simp only [cond_eq_ite] at e
    split at e
    ·rename_i hk
     have hk : k' = k := by simpa using hk
     subst hk
     obtain rfl := Option.some.inj e
     obtain ⟨ro, en, g1, g2, g3, g4, g5, g6, g7⟩ := I.block hs hc
     cases hv with
     | ptr k1 k2 k3 k4 =>
      rw [g3] at k1; obtain rfl := Option.some.inj k1
      obtain ⟨c, q1, q2, q3⟩ := k3 g4.symm
      rw [q1] at g7
      obtain ⟨pre, p1, p2, p3⟩ := g7
      obtain ⟨s1, s2⟩ := p1.objGet g6 hl q3
      have s2 := s2 (by decide)
      have hcell : (pre.drop (o + poff path)).take 1 = [.int k' n] ∧ inRangeB k' n = true := by
       generalize (pre.drop (o + poff path)).take 1 = cs at s1
       cases s1 with
       | sc h1 _ _ h4 => cases h4; cases h1 with | int hr => exact ⟨rfl, hr⟩
      have hget : pre[o + poff path]? = some (.int k' n) := by
       have := congrArg (fun l => l[0]?) hcell.1
       simpa using this
      have hcl : C.w.cell? ⟨c, o + poff path, none⟩ = some (.int k' n) := by
       have := p2 _ _ hget
       simpa using this
      subst q2
      refine ⟨b, ver, o, path, c, rfl, rfl, hc, hcl, p3 _ (by rw [hcl]; rfl), hcell.2, fun y hy l hw hp => ?_⟩
      have hw : w = true := hw
      subst hw
      have hro : ro = false := by cases ro <;> simp_all
      subst hro
      have pu : PR C [.int k' y] [.int k' y] := .sc (.int hy) rfl rfl .nil
      obtain ⟨s3, s4⟩ := p1.objPut g6 hp q3 pu rfl
      have hex : ∀ j, j < 1 → (C.w.cell? ⟨c, (o + poff path) + j, none⟩).isSome = true := fun j hj => by
       have : j = 0 := by omega
       subst this
       rw [Nat.add_zero, hcl]; rfl
      have hnoRO : ∀ j, C.RO c j → False := fun j hj => by
       obtain ⟨v', ps', r1, _⟩ := I.roO _ _ _ _ g3 q1 hj
       rw [g1] at r1; simp at r1
      have loc := I.loc _ _ _ g3 q1
      have T := I.turn (b := b) (e := en) (e' := en) (ao := .cells ver false l) (w' := C.w.setCells c (o + poff path) [.int k' y]) g3 (Nat.le_refl _) (fun _ => rfl) (fun _ => rfl)
       (Keep.setCells loc.1 _ _ I.below) (by rw [size_setCells]; omega)
       (fun k _ hk => heap_setCells _ _ _ _ (fun q => hk (by rw [q]; exact q1)))
       (fun c' j hc' hr => by rw [q1] at hc'; obtain rfl := Option.some.inj hc'; exact (hnoRO j hr).elim)
       (fun c' j hc' hr => by
        rw [q1] at hc'; obtain rfl := Option.some.inj hc'
        by_cases hin : j = o + poff path
        ·subst hin
         have := World.cell?_setCells_in c [.int k' y] (o + poff path) C.w hex 0 (Nat.lt_succ_self 0)
         rw [Nat.add_zero] at this
         rw [this]; rfl
        ·rw [World.cell?_setCells_out c _ _ _ _ (fun _ _ => by show j < o + poff path ∨ o + poff path + 1 ≤ j; omega)]; exact hr)
       (fun c' hc' => .inl hc')
       (fun c' j hc' _ hr => by rw [q1] at hc'; obtain rfl := Option.some.inj hc'; exact (hnoRO j hr).elim)
       (fun le => by
        refine ⟨g4, g5, RowLen_objPut g6 hp, ?_⟩
        rw [q1]
        refine ⟨_, s3.mono le, rangeAt_set p2 (ds := [.int k' y]) (by show o + poff path + 1 ≤ _; omega), fun j hj => ?_⟩
        rw [World.frozen?_setCells]
        refine p3 j ?_
        by_cases hin : j = o + poff path
        ·subst hin; rw [hcl]; rfl
        ·have hj : ((C.w.setCells c (o + poff path) [.int k' y]).cell? ⟨c, j, none⟩).isSome = true := hj
         rwa [World.cell?_setCells_out c _ _ _ _ (fun _ _ => by show j < o + poff path ∨ o + poff path + 1 ≤ j; omega)] at hj)
      exact ⟨_, rfl, T.1, T.2, fun y hy => by
       by_cases hyb : y = b
       ·subst hyb; rw [g3]; simp
       ·simpa [hyb] using hy⟩
    ·simp at e
   ·simp at e
  ·simp at e
 ·simp at e
theorem setCell_same {w : World} {a : Addr} {v : Value} (hc : w.cell? a = some v) : w.setCell a v = w := by
 have hb := hc
 unfold World.cell? at hb
 split at hb
 ·rename_i c e fr hg
  split at hb
  ·cases hb
  ·rename_i hs
   have hs : a.spot.isSome = false := by simpa using hs
   unfold World.setCell
   obtain ⟨heap, tape, drawn, os, output⟩ := w
   congr 1
   apply Array.ext
   ·simp
   ·intro i h1 h2
    rw [Array.getElem_modify]
    split
    ·rename_i hi
     subst hi
     have : heap[a.block] = .cells c e fr := by
      rw [Array.getElem?_eq_getElem h2] at hg; exact Option.some.inj hg
     rw [this]
     simp only [hs, Bool.false_eq_true, if_false]
     congr 1
     apply Array.ext
     ·simp
     ·intro j h3 h4
      rw [Array.getElem_setIfInBounds h4]
      split
      ·rename_i hj
       subst hj
       rw [Array.getElem?_eq_getElem h4] at hb; exact (Option.some.inj hb).symm
      ·rfl
    ·rfl
 ·cases hb
theorem run_add_kind {k : IntKind} {x y : Int} {w : World} : (Op.intArith .add k x y).run P w = .ok (.int k (k.wrap (x + y))) w := rfl
theorem ext_ok {f : FuncId} {x : XK} (K : x.OK P f) {args : List AV} {o : Orc} {g : o.γ} {nx : Nat} (e : x.orc h' args = some o) (hg : o.x = some g) (cs : List Frame) (I : Inv P S0 w0 C h) (hs : Sub' h' h) (hM : C.M nx = none) {vs : List Value} (hv : VRs C args vs) :
  Does P S0 w0 cs C h nx ((callFunc f vs.toArray).run P C.w) (o.enc g) := by
 obtain ⟨fn, hf, hname, hb, hn, he⟩ := K
 -- a number in place of a number
 have put : ∀ {k : IntKind} {a : AV} {y : Int} {res : AV} {v r : Value}, inRangeB k y = true → setInt h' k a y res = some o → VR C a v → (∀ C', C.Le C' → VR C' res r) →
   (∀ ad u, C.w.cell? ad = some u → C.w.frozen? ad = false → v = .pointer (some ad) → (∀ x, intAt h' k a = some x → u = .int k x.2.2) → (callFunc f vs.toArray).run P C.w = .ok (.value r) (C.w.setCell ad (.int k y))) → Does P S0 w0 cs C h nx ((callFunc f vs.toArray).run P C.w) (o.enc g) := by
  intro k a y res v r hy e hva hres hrun
  unfold setInt at e
  split at e
  ·rename_i b ver oo path ps n hi
   split at e
   ·rename_i l hl
    obtain rfl := Option.some.inj e
    obtain ⟨b', ver', o', path', c, e1, e2, e3, e4, e5, e6, e7⟩ := intAt_sound I hs hi hva
    cases e1
    obtain ⟨C', c1, c2, c3, c4⟩ := e7 y hy l rfl hl
    refine ⟨r, C', .inl ?_, c3, c2, hres C' c2, fun z hz => .inl (c4 z hz)⟩
    rw [c1]
    exact hrun _ _ e4 e5 e2 (fun x hx => by rw [hi] at hx; obtain rfl := Option.some.inj hx; rfl)
   ·simp at e
  ·simp at e
 cases x with
 | mark0 m =>
  cases hv with
  | nil =>
   obtain rfl := Option.some.inj e
   exact ⟨.tuple #[], C, .inl (run_call_mark0 hf hname hb hn m he C.w), I, .refl C, .tup .nil, fun z hz => .inl hz⟩
  | cons h1 h2 => simp [XK.orc] at e
 | mark1 m =>
  cases hv with
  | nil => simp [XK.orc] at e
  | cons h1 h2 =>
   cases h2 with
   | cons => simp [XK.orc] at e
   | nil =>
    rename_i a v
    cases a with
    | ptr b ver oo path =>
     obtain rfl := Option.some.inj e
     cases h1 with
     | ptr _ _ _ k4 =>
      obtain ⟨ad, rfl⟩ := k4
      exact ⟨.tuple #[], C, .inl (run_call_marked hf hname hb hn m he ad C.w), I, .refl C, .tup .nil, fun z hz => .inl hz⟩
    | _ => simp [XK.orc] at e
 | load k =>
  cases hv with
  | nil => simp [XK.orc] at e
  | cons h1 h2 =>
   cases h2 with
   | cons => simp [XK.orc] at e
   | nil =>
    simp only [XK.orc] at e
    split at e
    ·rename_i z hi
     obtain rfl := Option.some.inj e
     obtain ⟨b', ver', o', path', c, e1, e2, e3, e4, e5, e6, _⟩ := intAt_sound I hs hi h1
     subst e2
     exact ⟨_, C, .inl (run_call_load hf hname hb hn k he e4), I, .refl C, .int e6, fun z hz => .inl hz⟩
    ·simp at e
 | store =>
  cases hv with
  | nil => simp [XK.orc] at e
  | cons h1 h2 =>
   cases h2 with
   | nil => simp [XK.orc] at e
   | cons h2 h3 =>
    cases h3 with
    | cons => simp only [XK.orc] at e; simp at e
    | nil =>
     rename_i a v y u
     cases y with
     | int k y =>
      cases h2 with
      | int hy =>
       refine put (r := .tuple #[]) hy e h1 (fun _ _ => .tup .nil) fun ad u hc hz ha _ => ?_
       subst ha
       exact run_call_store hf hname hb hn he hc hz
     | _ => simp [XK.orc] at e
 | cas k =>
  cases hv with
  | nil => simp [XK.orc] at e
  | cons h1 h2 =>
   cases h2 with
   | nil => simp [XK.orc] at e
   | cons h2 h3 =>
    cases h3 with
    | nil => simp only [XK.orc] at e; simp at e
    | cons h3 h4 =>
     cases h4 with
     | cons => simp only [XK.orc] at e; simp at e
     | nil =>
      rename_i a v x u y u2
      cases x with
      | int k1 x =>
       cases y with
       | int k2 y =>
        simp only [XK.orc] at e
        rw [cond_eq_ite] at e
        split at e
        ·rename_i hk
         simp only [Bool.and_eq_true, decide_eq_true_eq] at hk
         obtain ⟨rfl, rfl⟩ := hk
         split at e
         ·rename_i z hi
          obtain ⟨_, _, _, _, _, _, _, _, _, _, hr, _⟩ := intAt_sound I hs hi h1
          cases h2 with
          | int hx =>
           cases h3 with
           | int hy =>
            by_cases hq : z.2.2 = x
            ·subst hq
             have hd : decide (z.2.2 = z.2.2) = true := by simp
             rw [hd] at e
             refine put (r := .bool true) hy e h1 (fun _ _ => .bool) fun ad u hc hz ha hu => ?_
             subst ha
             have := hu _ hi
             subst this
             exact run_call_cas_hit hf hname hb hn _ he hc hz
            ·have hd : decide (z.2.2 = x) = false := by simp [hq]
             rw [hd] at e
             refine put (r := .bool false) hr e h1 (fun _ _ => .bool) fun ad u hc hz ha hu => ?_
             subst ha
             have := hu _ hi
             subst this
             rw [setCell_same hc]
             exact run_call_cas_miss hf hname hb hn _ he hc hz hq
         ·simp at e
        ·simp at e
       | _ => simp [XK.orc] at e
      | _ => simp [XK.orc] at e
 | add k =>
  cases hv with
  | nil => simp [XK.orc] at e
  | cons h1 h2 =>
   cases h2 with
   | nil => simp [XK.orc] at e
   | cons h2 h3 =>
    cases h3 with
    | cons => simp only [XK.orc] at e; simp at e
    | nil =>
     rename_i a v y u
     cases y with
     | int k1 y =>
      simp only [XK.orc] at e
      rw [cond_eq_ite] at e
      split at e
      ·rename_i hk
       have hk : k1 = k := by simpa using hk
       subst hk
       split at e
       ·rename_i z hi
        cases h2 with
        | int hy =>
         refine put (r := .int k1 (k1.wrap (z.2.2 + y))) (wrap_in k1 _) e h1 (fun _ _ => .int (wrap_in k1 _)) fun ad u hc hz ha hu => ?_
         subst ha
         have := hu _ hi
         subst this
         exact run_call_add hf hname hb hn _ he hc hz run_add_kind
       ·simp at e
      ·simp at e
     | _ => simp [XK.orc] at e
theorem exts_ok : ∀ {l : List (FuncId × XK)}, (∀ x ∈ l, x.2.OK P x.1) → OraOK P S0 w0 (exts l)
 | [], _ => fun f args h' nx o g e => by simp [exts] at e
 | x :: l, K => fun f args h' nx o g e hg cs C h I hs hM vs hv => by
  simp only [exts, cond_eq_ite] at e
  split at e
  ·rename_i hf
   have := Nat.eq_of_beq_eq_true hf
   subst this
   exact ext_ok (K x (.head _)) e hg cs I hs hM hv
  ·exact exts_ok (fun y hy => K y (.tail _ hy)) f args h' nx o g e hg cs C h I hs hM vs hv
end
end Go.AM
end
