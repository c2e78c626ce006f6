import Derived.Test.YtojkjnphgamoeaaGreatDoorPart2

/-! The functions that the laws of this seat reach, as plain functions, and what these answer; no condition. -/
set_option linter.unusedSimpArgs false
set_option linter.unusedVariables false
set_option linter.unusedSectionVars false

open BitVec renaming ofInt->aeX,toNat_ofInt->afe
open Bool renaming not_true->aeG,not_false->aeH,and_false->aeJ,or_true->aeK,false_and->aeL,and_self->aeM,false_or->aeN,true_and->aeO,or_false->aeP,true_or->aeQ,and_true->aeR,not_not->aeU,or_self->aeV,and_eq_true->afd,not_eq_true'->afl
open Eq renaming symm->af8
open Go.IntKind renaming i64->aeF,u8->ae4,u32->ae8,u64->afj,bits->af0,signed->agc,wrap->agf,i32->agl
open Int renaming toNat_natCast->aeS,tmod_eq_emod_of_nonneg->aeY,natCast_nonneg->ae3,tdiv_eq_ediv_of_nonneg->ae7,le_refl->ae9,fdiv_eq_ediv_of_nonneg->afm,pow_pos->afs,le_of_lt->afu,eq_ofNat_of_zero_le->afF,pow_succ->af2,ediv_le_self->af4,ediv_nonneg->af9,sub_zero->agh
open List renaming replicate->aeT,length_drop->aeW,length_append->aeZ,length_take->ae0,range->ae1,take_of_length_le->ae2,getD_eq_getElem?_getD->ae5,mem_range->ae6,take_length->ae_,drop_zero->afb,take_append_drop->aff,drop_eq_getElem_cons->afg,mem_of_find?_eq_some->afh,mem_append->afi,length_eq_zero_iff->afk,mem_of_mem_drop->afn,mem_of_mem_take->afo,not_mem_nil->afp,mem_cons->afq,mem_singleton->afr,append_assoc->aft,length_replicate->afv,map_append->afx,map_congr_left->afy,range_succ->afz,find?_eq_none->afB,mem_map->afC,any_eq_false->afD,getElem?_take_of_lt->afE,map_cons->afG,eq_replicate_iff->afJ,find?_some->afK,getElem?_eq_none->afL,map_nil->afM,nil_append->afN,set_set->afO,take_take->afS,flatten_append->afT,replicate_zero->afU,getElem?_drop->afV,getElem_range->afW,mem_replicate->afX,length_range->afZ,ext_getElem->af5,getElem_map->af6,getElem_set->af7,length_map->af_,length_set->aga,take_zero->agd
open Nat renaming le_refl->afa,lt_of_le_of_lt->afc,pow_le_pow_right->afw,ble->afA,mul_div_cancel_left->afH,le_add_right->afI,le_add_left->afP,min_eq_left->afQ,sub_zero->afR,lt_of_lt_of_le->afY,add_zero->agi,le_of_eq->agj,sub_self->agk
open Option renaming bind_some->aeE,bind_none->aeI
open Prod.mk renaming inj->agb
section
namespace Go.AM
open Go.Proofs
set_option maxRecDepth 100000
set_option linter.unusedVariables false
noncomputable section
variable (m_ : Dj)
namespace Nv
def O : OO P := lH [M_.c m_]
def o0 : dJ := .c [.row Xd]
def e0 : Spec := ⟨[fs 48 [.q 56, .z 56, .b 0, .q 15] [(0, .s), (4, .own 5011 Xd)]], [(5011, o0)], 5012⟩
def x0 : List Spec := [⟨[fs 48 [.q 3621, .q 453, .b 1, .z 56, .b 0, .q 15] [(2, .CG), (3, .w)]], [], 0⟩, ⟨[fs 48 [.q 14517, .q 1815, .b 1, .z 56, .b 0, .q 15] [(2, .CG), (3, .w)]], [], 0⟩, ⟨[fs 48 [.q 29045, .q 3631, .b 1, .z 56, .b 0, .q 15] [(2, .CG), (3, .w)]], [], 0⟩, ⟨[fs 48 [.q 15] [(4, .own 0 Xd)]], [(0, o0)], 1⟩]
abbrev A0 : Type := LI × (List (Int × List Int)) × Unit
abbrev B0 : Type := (Int × Unit) ⊕ (Int × Unit) ⊕ (Int × Unit) ⊕ ((List (Int × List Int)) × Unit)
def b0 (self : A0 -> Option B0) : A0 -> Option B0 := fun v_ => match v_ with
| (s, m, ()) =>
 bif !(decide (s = ([] : List Int))) then
  bif vT (s.length : Int) then
  bif decide ((s.length : Int) < 4) then
   some (.inl (10, ()))
  else
   bif sK 2 4 (s.length : Int) then
   (M_.run m_ ((cut s 2 4), ())).bind fun r =>
   bif ((!(!(decide ((aeF.wrap r) < 16)))) || true) then
   bif ((!(!((decide ((aeF.wrap r) < 16)) || (!(decide (((aeF.wrap r).tmod 4) = 0)))))) || (vT (s.length : Int))) then
   bif (((decide ((aeF.wrap r) < 16)) || (!(decide (((aeF.wrap r).tmod 4) = 0)))) || (decide ((aeF.wrap r) > (s.length : Int)))) then
    some (.inr (.inl (10, ())))
   else
    bif vT (m.length : Int) then
    bif decide ((m.length : Int) = 16) then
     some (.inr (.inr (.inl (18, ()))))
    else
     bif sK 0 2 (s.length : Int) then
     (M_.run m_ ((cut s 0 2), ())).bind fun r1 =>
     bif sK 4 (aeF.wrap r) (s.length : Int) then
     bif decide (m.length + ([((aeF.wrap r1), (cut s 4 (aeF.wrap r)))] : List (Int × List Int)).length < 2932031007402) then
     bif sK (aeF.wrap r) (s.length : Int) (s.length : Int) then
     self ((cut s (aeF.wrap r) (s.length : Int)), (m ++ ([((aeF.wrap r1), (cut s 4 (aeF.wrap r)))] : List (Int × List Int))), ()) else none else none else none else none else none else none else none else none else none
 else
  some (.inr (.inr (.inr (m, ()))))
theorem k0 : KQ 48 (O m_) [] e0 x0 [] (b0 m_) := fun _ _ => by kernel_rfl
def l0 := loop m_ (b0 m_)
theorem q0 (v) : l0 .lim v = b0 .lim (l0 .lim) v := KS.q (k0 .lim) v
def s0 := so m_ (k0 m_)
def run : (List Int) × Unit -> Option ((List (Int × List Int)) × Int × Unit) := fun v_ => match v_ with
| (s, ()) =>
 (Nv.l0 m_ (s, ([] : List (Int × List Int)), ())).bind fun g_ => match g_ with
 | .inl (t, ()) =>
  some (([] : List (Int × List Int)), t, ())
 | .inr (.inl (t1, ())) =>
  some (([] : List (Int × List Int)), t1, ())
 | .inr (.inr (.inl (t2, ()))) =>
  some (([] : List (Int × List Int)), t2, ())
 | .inr (.inr (.inr (m, ()))) =>
  some (m, 0, ())
theorem k : KT (O m_) [] ⟨48, [.one .str], .iE [.own Xd, .sh (.one (.int .i64))], run m_⟩ [s0 m_] := fun _ => by kernel_rfl
def c := co (k m_)
end Nv

namespace Ox
def O (m_ : Dj) : OO P := lH []
def run (m_ : Dj) : Int × Unit -> Option (Int) := fun v_ => match v_ with
| (c, ()) =>
 bif decide (c > 127) then
  some (aeF.wrap ((aeF.wrap c) - 256))
 else
  some (aeF.wrap c)
theorem k : KT (O m_) [] ⟨51, [.one (.int .u8)], .one (.sh (.one (.int .i64))), run m_⟩ [] := fun _ => by kernel_rfl
def c := co (k m_)
end Ox

namespace NQ
def O : OO P := lH [Nv.c m_, Ox.c m_, M_.c m_]
def run : (List Int) × Unit -> Option (DT2 × Int × Unit) := fun v_ => match v_ with
| (s, ()) =>
 bif vT (s.length : Int) then
 bif decide ((s.length : Int) < 48) then
  some ((0, (0, (0, (0, (0, (0, (0, (0, (0, (0, (0, (0, (0, ([] : List (Int × List Int))))))))))))))), 11, ())
 else
  bif vT (s.length : Int) then
  bif decide ((s.length : Int) > 1280) then
   some ((0, (0, (0, (0, (0, (0, (0, (0, (0, (0, (0, (0, (0, ([] : List (Int × List Int))))))))))))))), 12, ())
  else
   bif sK 48 (s.length : Int) (s.length : Int) then
   (Nv.run m_ ((cut s 48 (s.length : Int)), ())).bind fun (r, r1, ()) =>
   bif !(decide (r1 = 0)) then
    some ((0, (0, (0, (0, (0, (0, (0, (0, (0, (0, (0, (0, (0, ([] : List (Int × List Int))))))))))))))), r1, ())
   else
    bif inB 0 (s.length : Int) then
    bif inB 0 (s.length : Int) then
    bif inB 0 (s.length : Int) then
    bif inB 1 (s.length : Int) then
    bif inB 2 (s.length : Int) then
    (Ox.run m_ ((rd 0 s 2), ())).bind fun r2 =>
    bif inB 3 (s.length : Int) then
    (Ox.run m_ ((rd 0 s 3), ())).bind fun r3 =>
    bif sK 4 8 (s.length : Int) then
    (M_.run m_ ((cut s 4 8), ())).bind fun r4 =>
    bif sK 8 12 (s.length : Int) then
    (M_.run m_ ((cut s 8 12), ())).bind fun r5 =>
    bif sK 12 16 (s.length : Int) then
    (M_.run m_ ((cut s 12 16), ())).bind fun r6 =>
    bif sK 16 24 (s.length : Int) then
    (M_.run m_ ((cut s 16 24), ())).bind fun r7 =>
    bif sK 24 32 (s.length : Int) then
    (M_.run m_ ((cut s 24 32), ())).bind fun r8 =>
    bif sK 32 40 (s.length : Int) then
    (M_.run m_ ((cut s 32 40), ())).bind fun r9 =>
    bif sK 40 48 (s.length : Int) then
    (M_.run m_ ((cut s 40 48), ())).bind fun r10 =>
    some (((aeF.wrap (I_ .u8 (rd 0 s 0) 6)), ((aeF.wrap (I8 .u8 (I_ .u8 (rd 0 s 0) 3) 7)), ((aeF.wrap (I8 .u8 (rd 0 s 0) 7)), ((aeF.wrap (rd 0 s 1)), (r2, (r3, ((ae8.wrap r4), ((ae8.wrap r5), ((ae8.wrap r6), (r7, (r8, (r9, (r10, r))))))))))))), 0, ()) else none else none else none else none else none else none else none else none else none else none else none else none else none else none else none else none
theorem k : KT (O m_) [] ⟨20, [.one .str], .iE [.sh (.ag WT), .sh (.one (.int .i64))], run m_⟩ [] := fun _ => by kernel_rfl
def c := co (k m_)
end NQ

namespace Nu
def O : OO P := lH [M_.c m_]
def e0 : Spec := ⟨[fs 54 [.q 116, .z 116, .b 0, .q 15] [(0, .s), (3, .w)]], [], 0⟩
def x0 : List Spec := [⟨[fs 54 [.q 7461, .b 1, .q 467, .z 116, .b 0, .q 15] [(2, .dat (.int .u32))]], [], 0⟩, ⟨[fs 54 [.q 15] [(0, .s)]], [], 0⟩]
abbrev A0 : Type := LI × Int × Unit
abbrev B0 : Type := (Int × Unit) ⊕ (LI × Unit)
def b0 (m_ : Dj) (self : A0 -> Option B0) : A0 -> Option B0 := fun v_ => match v_ with
| (code, i, ()) =>
 bif decide (i < 4) then
  bif inB i (code.length : Int) then
  bif ((!(!(decide ((rd 0 code i) < 65)))) || (inB i (code.length : Int))) then
  bif ((decide ((rd 0 code i) < 65)) || (decide ((rd 0 code i) > 90))) then
   some (.inl (0, ()))
  else
   self (code, (aeF.wrap (i + 1)), ()) else none else none
 else
  some (.inr (code, ()))
theorem k0 : KQ 54 (O m_) [] e0 x0 [] (b0 m_) := fun _ _ => by kernel_rfl
def l0 := loop m_ (b0 m_)
theorem q0 (v) : l0 .lim v = b0 .lim (l0 .lim) v := KS.q (k0 .lim) v
def s0 := so m_ (k0 m_)
def run : (List Int) × Unit -> Option (Int) := fun v_ => match v_ with
| (code, ()) =>
 bif vT (code.length : Int) then
 bif !(decide ((code.length : Int) = 4)) then
  some 0
 else
  (Nu.l0 m_ (code, 0, ())).bind fun g_ => match g_ with
  | .inl (t, ()) =>
   some t
  | .inr (ach, ()) =>
   (M_.run m_ (ach, ())).bind fun r =>
   some (ae8.wrap r) else none
theorem k : KT (O m_) [] ⟨54, [.one .str], .one (.sh (.one (.int .u32))), run m_⟩ [s0 m_] := fun _ => by kernel_rfl
def c := co (k m_)
end Nu

namespace NP
def O : OO P := lH [MS.c m_, Nu.c m_]
def run : DT2 × Unit -> Option (List Int) := fun v_ => match v_ with
| (p, ()) =>
 (MS.run m_ ((afj.wrap p.2.2.2.2.2.2.2.2.1), 4, ())).bind fun r =>
 ((bif !(!(decide (p.2.2.2.1 = 0))) then Nu.run m_ (r, ()) else some (0 : Int))).bind fun r1 =>
 bif ((!(decide (p.2.2.2.1 = 0))) || (decide (r1 = 0))) then
  some ([] : List Int)
 else
  some r
theorem k : KT (O m_) [] ⟨21, [.ag WT], .one (.sh (.one .str)), run m_⟩ [] := fun _ => by kernel_rfl
def c := co (k m_)
end NP

namespace Ov
def O : OO P := lH [OU.c m_, MZ.c m_, NG.c m_, ND.c m_, Nr.c m_, NQ.c m_, NP.c m_]
def run : QX × Z5 × (List Int) × Int × Int × (List (List Int)) × Unit -> Option (Bool) := fun v_ => match v_ with
| (v, x, s, recv, OE, draws, ()) =>
 (OU.run m_ (v, x, s, draws, ())).bind fun r =>
 bif !r then
  (MZ.run m_ (())).bind fun r1 =>
  some r1
 else
  (NG.run m_ (v, x, s, recv, OE, draws, ())).bind fun (r2, r3, r4, ()) =>
  bif decide (r4.1 = 1) then
   (ND.run m_ (r3, (x.1, (x.2.1, (x.2.2.1, (x.2.2.2.1, (x.2.2.2.2.1, (x.2.2.2.2.2.1, ((afj.wrap (x.2.2.2.2.2.2.1 + 1)), x.2.2.2.2.2.2.2))))))), ())).bind fun r5 =>
   ((bif (!!r5 && (!(decide (r4.1 = 1)))) then Nr.run m_ (v, r2, ()) else some false)).bind fun r6 =>
   bif ((!r5 || ((!(decide (r4.1 = 1))) && !r6)) || ((decide (r4.1 = 0)) && (!((decide (r4.1 = 0)) && ((decide (r4.2.1 = ([] : List Int))) && ((decide (r4.2.2.1 = ([] : List Int))) && ((decide (r4.2.2.2.1 = ([] : List Int))) && ((decide (r4.2.2.2.2.1 = 0)) && (decide (r4.2.2.2.2.2 = 0)))))))))) then
    some false
   else
    bif !(decide (r4.1 = 2)) then
     (MZ.run m_ (())).bind fun r7 =>
     some r7
    else
     (NQ.run m_ (r4.2.2.2.1, ())).bind fun (r8, r9, ()) =>
     ((bif decide (r9 = 0) then NP.run m_ (r8, ()) else some ([] : List Int))).bind fun r10 =>
     bif ((!(((((decide (r9 = 0)) && (decide (r10 = ([78, 84, 83, 78] : List Int)))) && (decide (r8.2.2.2.2.2.2.2.2.2.2.2.1 = 0))) && (decide (r8.2.2.2.2.2.2.2.2.2.2.2.2.1 = 0))) && (decide (r8.2.2.2.2.2.2.2.2.2.1 = 0)))) || (vT (r8.2.2.2.2.2.2.2.2.2.2.2.2.2.length : Int))) then
     bif ((!((((((decide (r9 = 0)) && (decide (r10 = ([78, 84, 83, 78] : List Int)))) && (decide (r8.2.2.2.2.2.2.2.2.2.2.2.1 = 0))) && (decide (r8.2.2.2.2.2.2.2.2.2.2.2.2.1 = 0))) && (decide (r8.2.2.2.2.2.2.2.2.2.1 = 0))) && (decide ((r8.2.2.2.2.2.2.2.2.2.2.2.2.2.length : Int) = 1)))) || (inB 0 (r8.2.2.2.2.2.2.2.2.2.2.2.2.2.length : Int))) then
     ((bif (((((((decide (r9 = 0)) && (decide (r10 = ([78, 84, 83, 78] : List Int)))) && (decide (r8.2.2.2.2.2.2.2.2.2.2.2.1 = 0))) && (decide (r8.2.2.2.2.2.2.2.2.2.2.2.2.1 = 0))) && (decide (r8.2.2.2.2.2.2.2.2.2.1 = 0))) && (decide ((r8.2.2.2.2.2.2.2.2.2.2.2.2.2.length : Int) = 1))) && ((decide (((rd ((0 : Int), ([] : List Int)) r8.2.2.2.2.2.2.2.2.2.2.2.2.2 0).1) = 260)) && (decide (((rd ((0 : Int), ([] : List Int)) r8.2.2.2.2.2.2.2.2.2.2.2.2.2 0).2) = r4.2.1)))) then MZ.run m_ (()) else some false)).bind fun r11 =>
     some ((((((((decide (r9 = 0)) && (decide (r10 = ([78, 84, 83, 78] : List Int)))) && (decide (r8.2.2.2.2.2.2.2.2.2.2.2.1 = 0))) && (decide (r8.2.2.2.2.2.2.2.2.2.2.2.2.1 = 0))) && (decide (r8.2.2.2.2.2.2.2.2.2.1 = 0))) && (decide ((r8.2.2.2.2.2.2.2.2.2.2.2.2.2.length : Int) = 1))) && ((decide (((rd ((0 : Int), ([] : List Int)) r8.2.2.2.2.2.2.2.2.2.2.2.2.2 0).1) = 260)) && (decide (((rd ((0 : Int), ([] : List Int)) r8.2.2.2.2.2.2.2.2.2.2.2.2.2 0).2) = r4.2.1)))) && r11) else none else none
  else
   bif decide (r4.1 = 2) then
    (ND.run m_ (r3, (x.1, (x.2.1, (x.2.2.1, (x.2.2.2.1, (x.2.2.2.2.1, (x.2.2.2.2.2.1, (x.2.2.2.2.2.2.1, ((afj.wrap (x.2.2.2.2.2.2.2.1 + 1)), x.2.2.2.2.2.2.2.2)))))))), ())).bind fun r12 =>
    ((bif (!!r12 && (!(decide (r4.1 = 1)))) then Nr.run m_ (v, r2, ()) else some false)).bind fun r13 =>
    bif ((!r12 || ((!(decide (r4.1 = 1))) && !r13)) || ((decide (r4.1 = 0)) && (!((decide (r4.1 = 0)) && ((decide (r4.2.1 = ([] : List Int))) && ((decide (r4.2.2.1 = ([] : List Int))) && ((decide (r4.2.2.2.1 = ([] : List Int))) && ((decide (r4.2.2.2.2.1 = 0)) && (decide (r4.2.2.2.2.2 = 0)))))))))) then
     some false
    else
     bif !(decide (r4.1 = 2)) then
      (MZ.run m_ (())).bind fun r14 =>
      some r14
     else
      (NQ.run m_ (r4.2.2.2.1, ())).bind fun (Qz, r16, ()) =>
      ((bif decide (r16 = 0) then NP.run m_ (Qz, ()) else some ([] : List Int))).bind fun ZC =>
      bif ((!(((((decide (r16 = 0)) && (decide (ZC = ([78, 84, 83, 78] : List Int)))) && (decide (Qz.2.2.2.2.2.2.2.2.2.2.2.1 = 0))) && (decide (Qz.2.2.2.2.2.2.2.2.2.2.2.2.1 = 0))) && (decide (Qz.2.2.2.2.2.2.2.2.2.1 = 0)))) || (vT (Qz.2.2.2.2.2.2.2.2.2.2.2.2.2.length : Int))) then
      bif ((!((((((decide (r16 = 0)) && (decide (ZC = ([78, 84, 83, 78] : List Int)))) && (decide (Qz.2.2.2.2.2.2.2.2.2.2.2.1 = 0))) && (decide (Qz.2.2.2.2.2.2.2.2.2.2.2.2.1 = 0))) && (decide (Qz.2.2.2.2.2.2.2.2.2.1 = 0))) && (decide ((Qz.2.2.2.2.2.2.2.2.2.2.2.2.2.length : Int) = 1)))) || (inB 0 (Qz.2.2.2.2.2.2.2.2.2.2.2.2.2.length : Int))) then
      ((bif (((((((decide (r16 = 0)) && (decide (ZC = ([78, 84, 83, 78] : List Int)))) && (decide (Qz.2.2.2.2.2.2.2.2.2.2.2.1 = 0))) && (decide (Qz.2.2.2.2.2.2.2.2.2.2.2.2.1 = 0))) && (decide (Qz.2.2.2.2.2.2.2.2.2.1 = 0))) && (decide ((Qz.2.2.2.2.2.2.2.2.2.2.2.2.2.length : Int) = 1))) && ((decide (((rd ((0 : Int), ([] : List Int)) Qz.2.2.2.2.2.2.2.2.2.2.2.2.2 0).1) = 260)) && (decide (((rd ((0 : Int), ([] : List Int)) Qz.2.2.2.2.2.2.2.2.2.2.2.2.2 0).2) = r4.2.1)))) then MZ.run m_ (()) else some false)).bind fun r18 =>
      some ((((((((decide (r16 = 0)) && (decide (ZC = ([78, 84, 83, 78] : List Int)))) && (decide (Qz.2.2.2.2.2.2.2.2.2.2.2.1 = 0))) && (decide (Qz.2.2.2.2.2.2.2.2.2.2.2.2.1 = 0))) && (decide (Qz.2.2.2.2.2.2.2.2.2.1 = 0))) && (decide ((Qz.2.2.2.2.2.2.2.2.2.2.2.2.2.length : Int) = 1))) && ((decide (((rd ((0 : Int), ([] : List Int)) Qz.2.2.2.2.2.2.2.2.2.2.2.2.2 0).1) = 260)) && (decide (((rd ((0 : Int), ([] : List Int)) Qz.2.2.2.2.2.2.2.2.2.2.2.2.2 0).2) = r4.2.1)))) && r18) else none else none
   else
    bif decide (r4.1 = 0) then
     (ND.run m_ (r3, (x.1, (x.2.1, (x.2.2.1, (x.2.2.2.1, (x.2.2.2.2.1, (x.2.2.2.2.2.1, (x.2.2.2.2.2.2.1, (x.2.2.2.2.2.2.2.1, (afj.wrap (x.2.2.2.2.2.2.2.2 + 1)))))))))), ())).bind fun r19 =>
     ((bif (!!r19 && (!(decide (r4.1 = 1)))) then Nr.run m_ (v, r2, ()) else some false)).bind fun r20 =>
     bif ((!r19 || ((!(decide (r4.1 = 1))) && !r20)) || ((decide (r4.1 = 0)) && (!((decide (r4.1 = 0)) && ((decide (r4.2.1 = ([] : List Int))) && ((decide (r4.2.2.1 = ([] : List Int))) && ((decide (r4.2.2.2.1 = ([] : List Int))) && ((decide (r4.2.2.2.2.1 = 0)) && (decide (r4.2.2.2.2.2 = 0)))))))))) then
      some false
     else
      bif !(decide (r4.1 = 2)) then
       (MZ.run m_ (())).bind fun r21 =>
       some r21
      else
       (NQ.run m_ (r4.2.2.2.1, ())).bind fun (r22, XZ, ()) =>
       ((bif decide (XZ = 0) then NP.run m_ (r22, ()) else some ([] : List Int))).bind fun ZE =>
       bif ((!(((((decide (XZ = 0)) && (decide (ZE = ([78, 84, 83, 78] : List Int)))) && (decide (r22.2.2.2.2.2.2.2.2.2.2.2.1 = 0))) && (decide (r22.2.2.2.2.2.2.2.2.2.2.2.2.1 = 0))) && (decide (r22.2.2.2.2.2.2.2.2.2.1 = 0)))) || (vT (r22.2.2.2.2.2.2.2.2.2.2.2.2.2.length : Int))) then
       bif ((!((((((decide (XZ = 0)) && (decide (ZE = ([78, 84, 83, 78] : List Int)))) && (decide (r22.2.2.2.2.2.2.2.2.2.2.2.1 = 0))) && (decide (r22.2.2.2.2.2.2.2.2.2.2.2.2.1 = 0))) && (decide (r22.2.2.2.2.2.2.2.2.2.1 = 0))) && (decide ((r22.2.2.2.2.2.2.2.2.2.2.2.2.2.length : Int) = 1)))) || (inB 0 (r22.2.2.2.2.2.2.2.2.2.2.2.2.2.length : Int))) then
       ((bif (((((((decide (XZ = 0)) && (decide (ZE = ([78, 84, 83, 78] : List Int)))) && (decide (r22.2.2.2.2.2.2.2.2.2.2.2.1 = 0))) && (decide (r22.2.2.2.2.2.2.2.2.2.2.2.2.1 = 0))) && (decide (r22.2.2.2.2.2.2.2.2.2.1 = 0))) && (decide ((r22.2.2.2.2.2.2.2.2.2.2.2.2.2.length : Int) = 1))) && ((decide (((rd ((0 : Int), ([] : List Int)) r22.2.2.2.2.2.2.2.2.2.2.2.2.2 0).1) = 260)) && (decide (((rd ((0 : Int), ([] : List Int)) r22.2.2.2.2.2.2.2.2.2.2.2.2.2 0).2) = r4.2.1)))) then MZ.run m_ (()) else some false)).bind fun r25 =>
       some ((((((((decide (XZ = 0)) && (decide (ZE = ([78, 84, 83, 78] : List Int)))) && (decide (r22.2.2.2.2.2.2.2.2.2.2.2.1 = 0))) && (decide (r22.2.2.2.2.2.2.2.2.2.2.2.2.1 = 0))) && (decide (r22.2.2.2.2.2.2.2.2.2.1 = 0))) && (decide ((r22.2.2.2.2.2.2.2.2.2.2.2.2.2.length : Int) = 1))) && ((decide (((rd ((0 : Int), ([] : List Int)) r22.2.2.2.2.2.2.2.2.2.2.2.2.2 0).1) = 260)) && (decide (((rd ((0 : Int), ([] : List Int)) r22.2.2.2.2.2.2.2.2.2.2.2.2.2 0).2) = r4.2.1)))) && r25) else none else none
    else
     some false
theorem k : KT (O m_) [] ⟨4, [.ag QV, .ag U1, .one .str, .one (.int .u64), .one (.int .u64), .one (.lst .str)], .one (.sh (.one .bool)), run m_⟩ [] := fun v_ => match v_ with | (v, x, s, recv, OE, draws, ()) => by kernel_rfl
def c := co (k m_)
end Ov
end
end Go.AM
end
section
namespace Go.AM
abbrev KK := List Int × List (List Int) × List Int × List Int
abbrev k0 : KK := ([], [], [], [])
theorem wk (k : Nat) (h : (k : Int) + 1 < 9223372036854775808) : aeF.wrap ((k : Int) + 1) = ((k + 1 : Nat) : Int) := by rw [wrap64 (by omega) (by omega)]; omega
theorem Wp (a b : List (List Int)) (ha : a.length < 9223372036854775808) (hb : b.length < 9223372036854775808) : Nl.run .lim (a, b, ()) = some (decide (a = b)) := by
 simp only [Nl.run, MX ha, MX hb, cond_true];by_cases hl : a.length = b.length
 ·have e := Qx (f := Nl.l0 .lim) (fun k => (a, b, (a.length : Int), (k : Int), ())) a.length (fun k => !decide (rd ([] : List Int) a k = rd ([] : List Int) b k)) (some (.inl (false, ()))) (fun k hk => by
   rw [Nl.q0];have w := wk k (by omega);simp (disch := omega) only [Nj, MW, Nc, wrap64, MQ, MR, dec_not, dec_and, N8, NC, cond_true, cond_false, aeE, aeI, aeK, aeQ, aeR, aeO, aeJ, aeL, aeP, aeN, aeG, aeH, aeV, aeM, aeU, if_true, if_false, and_self, true_and, and_true, and_false, false_and, or_true, true_or, or_false, false_or, not_true_eq_false, not_false_eq_true, decide_true, decide_false, eq_self, if_pos, if_neg, OC, Og, Nl.b0, w])
  rw [Uw hl] at e;rw [cond_neg (by simp (disch := omega) only [Nj, MW, Nc, wrap64, MQ, MR, dec_not, dec_and, N8, NC, cond_true, cond_false, aeE, aeI, aeK, aeQ, aeR, aeO, aeJ, aeL, aeP, aeN, aeG, aeH, aeV, aeM, aeU, if_true, if_false, and_self, true_and, and_true, and_false, false_and, or_true, true_or, or_false, false_or, not_true_eq_false, not_false_eq_true, decide_true, decide_false, eq_self, if_pos, if_neg, OC, Og]), show (0 : Int) = ((0 : Nat) : Int) from rfl, e];by_cases h : a = b
  ·simp (disch := omega) only [Nj, MW, Nc, wrap64, MQ, MR, dec_not, dec_and, N8, NC, cond_true, cond_false, aeE, aeI, aeK, aeQ, aeR, aeO, aeJ, aeL, aeP, aeN, aeG, aeH, aeV, aeM, aeU, if_true, if_false, and_self, true_and, and_true, and_false, false_and, or_true, true_or, or_false, false_or, not_true_eq_false, not_false_eq_true, decide_true, decide_false, eq_self, if_pos, if_neg, OC, Og];rw [Nl.q0];simp (disch := omega) only [Nj, MW, Nc, wrap64, MQ, MR, dec_not, dec_and, N8, NC, cond_true, cond_false, aeE, aeI, aeK, aeQ, aeR, aeO, aeJ, aeL, aeP, aeN, aeG, aeH, aeV, aeM, aeU, if_true, if_false, and_self, true_and, and_true, and_false, false_and, or_true, true_or, or_false, false_or, not_true_eq_false, not_false_eq_true, decide_true, decide_false, eq_self, if_pos, if_neg, OC, Og, Nl.b0]
  ·simp (disch := omega) only [Nj, MW, Nc, wrap64, MQ, MR, dec_not, dec_and, N8, NC, cond_true, cond_false, aeE, aeI, aeK, aeQ, aeR, aeO, aeJ, aeL, aeP, aeN, aeG, aeH, aeV, aeM, aeU, if_true, if_false, and_self, true_and, and_true, and_false, false_and, or_true, true_or, or_false, false_or, not_true_eq_false, not_false_eq_true, decide_true, decide_false, eq_self, if_pos, if_neg, OC, Og]
 ·rw [cond_pos (by simp (disch := omega) only [Nj, MW, Nc, wrap64, MQ, MR, dec_not, dec_and, N8, NC, cond_true, cond_false, aeE, aeI, aeK, aeQ, aeR, aeO, aeJ, aeL, aeP, aeN, aeG, aeH, aeV, aeM, aeU, if_true, if_false, and_self, true_and, and_true, and_false, false_and, or_true, true_or, or_false, false_or, not_true_eq_false, not_false_eq_true, decide_true, decide_false, eq_self, if_pos, if_neg, OC, Og]), MR (fun q => hl (by rw [q]))]
theorem texts_eq (a b : List (List Int)) (ha : a.length < 9223372036854775808) (hb : b.length < 9223372036854775808) : NJ.run .lim (a, b, ()) = some (decide (a = b)) := by
 simp only [NJ.run, MX ha, MX hb, cond_true];by_cases hl : a.length = b.length
 ·have e := Qx (f := NJ.l0 .lim) (fun k => (a, b, (k : Int), ())) a.length (fun k => !decide (rd ([] : List Int) a k = rd ([] : List Int) b k)) (some (.inl (false, ()))) (fun k hk => by
   rw [NJ.q0];have w := wk k (by omega);simp (disch := omega) only [Nj, MW, Nc, wrap64, MQ, MR, dec_not, dec_and, N8, NC, cond_true, cond_false, aeE, aeI, aeK, aeQ, aeR, aeO, aeJ, aeL, aeP, aeN, aeG, aeH, aeV, aeM, aeU, if_true, if_false, and_self, true_and, and_true, and_false, false_and, or_true, true_or, or_false, false_or, not_true_eq_false, not_false_eq_true, decide_true, decide_false, eq_self, if_pos, if_neg, OC, Og, NJ.b0, w])
  rw [Uw hl] at e;rw [cond_neg (by simp (disch := omega) only [Nj, MW, Nc, wrap64, MQ, MR, dec_not, dec_and, N8, NC, cond_true, cond_false, aeE, aeI, aeK, aeQ, aeR, aeO, aeJ, aeL, aeP, aeN, aeG, aeH, aeV, aeM, aeU, if_true, if_false, and_self, true_and, and_true, and_false, false_and, or_true, true_or, or_false, false_or, not_true_eq_false, not_false_eq_true, decide_true, decide_false, eq_self, if_pos, if_neg, OC, Og]), show (0 : Int) = ((0 : Nat) : Int) from rfl, e];by_cases h : a = b
  ·simp (disch := omega) only [Nj, MW, Nc, wrap64, MQ, MR, dec_not, dec_and, N8, NC, cond_true, cond_false, aeE, aeI, aeK, aeQ, aeR, aeO, aeJ, aeL, aeP, aeN, aeG, aeH, aeV, aeM, aeU, if_true, if_false, and_self, true_and, and_true, and_false, false_and, or_true, true_or, or_false, false_or, not_true_eq_false, not_false_eq_true, decide_true, decide_false, eq_self, if_pos, if_neg, OC, Og];rw [NJ.q0];simp (disch := omega) only [Nj, MW, Nc, wrap64, MQ, MR, dec_not, dec_and, N8, NC, cond_true, cond_false, aeE, aeI, aeK, aeQ, aeR, aeO, aeJ, aeL, aeP, aeN, aeG, aeH, aeV, aeM, aeU, if_true, if_false, and_self, true_and, and_true, and_false, false_and, or_true, true_or, or_false, false_or, not_true_eq_false, not_false_eq_true, decide_true, decide_false, eq_self, if_pos, if_neg, OC, Og, NJ.b0]
  ·simp (disch := omega) only [Nj, MW, Nc, wrap64, MQ, MR, dec_not, dec_and, N8, NC, cond_true, cond_false, aeE, aeI, aeK, aeQ, aeR, aeO, aeJ, aeL, aeP, aeN, aeG, aeH, aeV, aeM, aeU, if_true, if_false, and_self, true_and, and_true, and_false, false_and, or_true, true_or, or_false, false_or, not_true_eq_false, not_false_eq_true, decide_true, decide_false, eq_self, if_pos, if_neg, OC, Og]
 ·rw [cond_pos (by simp (disch := omega) only [Nj, MW, Nc, wrap64, MQ, MR, dec_not, dec_and, N8, NC, cond_true, cond_false, aeE, aeI, aeK, aeQ, aeR, aeO, aeJ, aeL, aeP, aeN, aeG, aeH, aeV, aeM, aeU, if_true, if_false, and_self, true_and, and_true, and_false, false_and, or_true, true_or, or_false, false_or, not_true_eq_false, not_false_eq_true, decide_true, decide_false, eq_self, if_pos, if_neg, OC, Og]), MR (fun q => hl (by rw [q]))]
def TY (a b : KK) : Bool := decide (a.1 = b.1) && decide (a.2.2.1 = b.2.2.1) && decide (a.2.1 = b.2.1)
theorem Y8 (a b : KK) : TY a b = TY b a := by
 unfold TY;rw [show decide (a.1 = b.1) = decide (b.1 = a.1) from by congr 1; exact propext ⟨af8, af8⟩, show decide (a.2.2.1 = b.2.2.1) = decide (b.2.2.1 = a.2.2.1) from by congr 1; exact propext ⟨af8, af8⟩, show decide (a.2.1 = b.2.1) = decide (b.2.1 = a.2.1) from by congr 1; exact propext ⟨af8, af8⟩]
theorem Y7 (a b : KK) (ha : a.2.1.length < 9223372036854775808) (hb : b.2.1.length < 9223372036854775808) : P9.run .lim (a, b, ()) = some (TY a b) := by
 simp only [P9.run, Wp _ _ ha hb];unfold TY;cases decide (a.1 = b.1) && decide (a.2.2.1 = b.2.2.1) <;> rfl
theorem Vt (a b : KK) (ha : a.2.1.length < 9223372036854775808) (hb : b.2.1.length < 9223372036854775808) : Ob.run .lim (a, b, ()) = some (TY a b) := by
 simp only [Ob.run, texts_eq _ _ ha hb];unfold TY;cases decide (a.1 = b.1) && decide (a.2.2.1 = b.2.2.1) <;> rfl
def byteOf (n : Int) (k : Nat) : Int := (n / 256 ^ k) % 256
def Tf (n : Int) : List Int := (ae1 16).map fun i => byteOf n (15 - i)
def txt (n : Int) (plain : List Int) : List Int := Tf n ++ aeT plain.length 0
theorem acI : ∀ n : Nat, EM [0] n = aeT n 0
 | 0 => rfl
 | n + 1 => by rw [EM, acI n]; rfl
def part (n : Int) (k : Nat) : List Int := (ae1 16).map fun i => if i < 16 - k then 0 else byteOf n (15 - i)
theorem Vs (n : Int) : part n 0 = aeT 16 0 := by
 unfold part;rw [afJ];refine ⟨by simp, fun b hb => ?_⟩;obtain ⟨i, hi, rfl⟩ := afC.1 hb;rw [if_pos (by have := ae6.1 hi; omega)]
theorem UJ (n : Int) (k : Nat) : (part n k).length = 16 := by simp [part]
theorem WI (n : Int) (k : Nat) (hk : k < 16) : (part n k).set (15 - k) (byteOf n k) = part n (k + 1) := by
 apply af5 (by simp [part])
 intro i h1 h2;have hi : i < 16 := by rw [aga, UJ] at h1; exact h1
 rw [af7];simp only [part, af6, afW];split
 ·rw [if_neg (by omega)]; congr 1; omega
 ·by_cases h : i < 16 - (k + 1)
  ·rw [if_pos (by omega), if_pos h]
  ·rw [if_neg (by omega), if_neg h]
theorem ZA (n : Int) : part n 16 = Tf n := by
 unfold part Tf;apply afy
 intro i _; rw [if_neg (by omega)]
theorem V_ {n : Int} (h0 : 0 <= n) (h1 : n < 9223372036854775808) {k : Nat} (hk : 8 <= k) : byteOf n k = 0 := by
 unfold byteOf;rw [Int.ediv_eq_zero_of_lt h0]; · rfl
 obtain ⟨j, rfl⟩ : ∃ j, k = 8 + j := ⟨k - 8, by omega⟩;rw [Int.pow_add];have : (0 : Int) < 256 ^ j := afs (by omega);have h2 : (256 : Int) ^ 8 * 1 <= 256 ^ 8 * 256 ^ j := Int.mul_le_mul_of_nonneg_left (by omega) (by decide);have h3 : (256 : Int) ^ 8 = 18446744073709551616 := by decide
 rw [h3] at h2 ⊢; omega
theorem acH {n : Int} (h0 : 0 <= n) (h1 : n < 9223372036854775808) : part n 8 = Tf n := by
 unfold part Tf;apply afy
 intro i _;split
 ·rw [V_ h0 h1 (by omega)]
 ·rfl
theorem number_eq (n : Int) (plain : List Int) (h0 : 0 <= n) (h1 : n < 9223372036854775808) (hp : plain.length <= 100000) : Oo.run .lim (n, plain, ()) = some (txt n plain) := by
 have e := Oi (f := Oo.l0 .lim) (fun k => (n, plain, (k : Int), part n k, ())) (n := 8) (fun k hk => by
  rw [Oo.q0];have w := wk k (by omega);have w2 : aeF.wrap ((8 : Int) * k) = ((8 * k : Nat) : Int) := by rw [wrap64 (by omega) (by omega)]; omega
  have w3 : aeF.wrap ((15 : Int) - k) = ((15 - k : Nat) : Int) := by rw [wrap64 (by omega) (by omega)]; omega
  have hb : ae4.wrap (I_ .i64 n ((8 * k : Nat) : Int)) = byteOf n k := by
   rw [Pg];unfold I_ byteOf;rw [aeS, show min (8 * k) (af0 .i64) = 8 * k from by show min (8 * k) 64 = _; omega, afm _ (afu (afs (by omega))), Int.pow_mul];rfl
  simp (disch := omega) only [Nj, MW, Nc, wrap64, MQ, MR, dec_not, dec_and, N8, NC, cond_true, cond_false, aeE, aeI, aeK, aeQ, aeR, aeO, aeJ, aeL, aeP, aeN, aeG, aeH, aeV, aeM, aeU, if_true, if_false, and_self, true_and, and_true, and_false, false_and, or_true, true_or, or_false, false_or, not_true_eq_false, not_false_eq_true, decide_true, decide_false, eq_self, if_pos, if_neg, OC, Og, Oo.b0, w, w2, w3, hb, aeS, WI])
 rw [Vs, show ((0 : Nat) : Int) = 0 from rfl] at e;simp only [Oo.run, e];rw [Oo.q0];have hr : strings_Repeat.run .lim ([0], (plain.length : Int), ()) = some (aeT plain.length 0) := by
  show KY _ = _;unfold KY;rw [cond_pos (by simp; omega), aeS, acI]
 simp (disch := omega) only [Nj, MW, Nc, wrap64, MQ, MR, dec_not, dec_and, N8, NC, cond_true, cond_false, aeE, aeI, aeK, aeQ, aeR, aeO, aeJ, aeL, aeP, aeN, aeG, aeH, aeV, aeM, aeU, if_true, if_false, and_self, true_and, and_true, and_false, false_and, or_true, true_or, or_false, false_or, not_true_eq_false, not_false_eq_true, decide_true, decide_false, eq_self, if_pos, if_neg, OC, Og, Oo.b0, MX (show plain.length < 9223372036854775808 by omega), hr];rw [acH h0 h1, afb, ae2 (by simp [Tf]), if_pos]
 ·rfl
 ·rw [afv, Tf, af_, afZ]; unfold maxStr; omega
theorem ZL (n : Int) (plain : List Int) (h0 : 0 <= n) (h1 : n < 9223372036854775808) (hp : plain.length <= 100000) : NR.run .lim (n, plain, ()) = some (txt n plain) := by
 have w0 : aeF.wrap ((16 : Int) + plain.length) = ((16 + plain.length : Nat) : Int) := by rw [wrap64 (by omega) (by omega)]; omega
 have e := Oi (f := NR.l0 .lim) (fun k => (n / 256 ^ k, (15 : Int) - k, part n k ++ aeT plain.length 0, ())) (n := 16) (fun k hk => by
  rw [NR.q0];have hn : 0 <= n / 256 ^ k := af9 h0 (afu (afs (by omega)));have hn2 : n / 256 ^ k <= n := af4 _ h0;have w1 : aeF.wrap ((n / 256 ^ k).tdiv 256) = n / 256 ^ (k + 1) := by
   rw [ae7 hn, Int.ediv_ediv_of_nonneg (afu (afs (by omega))), show (256 : Int) ^ k * 256 = 256 ^ (k + 1) from (af2 _ _).symm];have : n / 256 ^ (k + 1) <= n := af4 _ h0;have : 0 <= n / 256 ^ (k + 1) := af9 h0 (afu (afs (by omega)));rw [wrap64 (by omega) (by omega)]
  have w2 : aeF.wrap ((15 : Int) - k - 1) = (15 : Int) - (k + 1 : Nat) := by rw [wrap64 (by omega) (by omega)]; omega
  have hb : ae4.wrap ((n / 256 ^ k).tmod 256) = byteOf n k := by rw [Pg, aeY hn]; unfold byteOf; omega
  have hl : (part n k ++ aeT plain.length 0).length = 16 + plain.length := by simp [UJ]
  have ht : ((15 : Int) - k).toNat = 15 - k := by omega
  have hs : (part n k ++ aeT plain.length (0 : Int)).set (15 - k) (byteOf n k) = part n (k + 1) ++ aeT plain.length 0 := by rw [List.set_append_left _ _ (by rw [UJ]; omega), WI n k hk]
  simp (disch := omega) only [Nj, MW, Nc, wrap64, MQ, MR, dec_not, dec_and, N8, NC, cond_true, cond_false, aeE, aeI, aeK, aeQ, aeR, aeO, aeJ, aeL, aeP, aeN, aeG, aeH, aeV, aeM, aeU, if_true, if_false, and_self, true_and, and_true, and_false, false_and, or_true, true_or, or_false, false_or, not_true_eq_false, not_false_eq_true, decide_true, decide_false, eq_self, if_pos, if_neg, OC, Og, NR.b0, w1, w2, hb, hl, ht, hs])
 have hz : aeT (16 + plain.length) (0 : Int) = part n 0 ++ aeT plain.length 0 := by rw [Vs, List.replicate_append_replicate]
 rw [Int.pow_zero, Int.ediv_one, show (15 : Int) - ((0 : Nat) : Int) = 15 from rfl] at e;simp only [NR.run, w0, aeS, hz, e];rw [NR.q0];simp (disch := omega) only [Nj, MW, Nc, wrap64, MQ, MR, dec_not, dec_and, N8, NC, cond_true, cond_false, aeE, aeI, aeK, aeQ, aeR, aeO, aeJ, aeL, aeP, aeN, aeG, aeH, aeV, aeM, aeU, if_true, if_false, and_self, true_and, and_true, and_false, false_and, or_true, true_or, or_false, false_or, not_true_eq_false, not_false_eq_true, decide_true, decide_false, eq_self, if_pos, if_neg, OC, Og, NR.b0, MX (show plain.length < 9223372036854775808 by omega)];rw [cond_pos (by rw [Nat.blt_eq]; omega), ZA];rfl
end Go.AM
end
section
namespace Go.AM
abbrev VV := Bool × List KK
def YV (k : KK) : Prop := k.1.length < 9223372036854775808 /\ k.2.1.length < 9223372036854775808 /\ (∀ s ∈ k.2.1, s.length < 9223372036854775808) /\ k.2.2.1.length < 9223372036854775808 /\ k.2.2.2.length < 9223372036854775808
def okV (v : VV) : Prop := v.2.length < 9223372036854775808 /\ ∀ k ∈ v.2, YV k
theorem okV.at {v : VV} (h : okV v) {k : Nat} (hk : k < v.2.length) : YV (rd k0 v.2 (k : Int)) := h.2 _ (Oc (by omega) (by omega))
def QI (k : KK) : Int := if k.1.length ≠ 32 /\ k.1.length ≠ 64 then 13 else if k.2.1.length > 126 then 18 else 0
theorem UN (k : KK) (h : k.1.length < 9223372036854775808) (h2 : k.2.1.length < 9223372036854775808) : OZ.run .lim (k, ()) = some (QI k) := by
 unfold QI;simp only [OZ.run, MX h, MX h2, cond_true, aeK];by_cases h3 : k.1.length ≠ 32 /\ k.1.length ≠ 64
 ·rw [cond_pos (by simp (disch := omega) only [Nj, MW, Nc, wrap64, MQ, MR, dec_not, dec_and, N8, NC, cond_true, cond_false, aeE, aeI, aeK, aeQ, aeR, aeO, aeJ, aeL, aeP, aeN, aeG, aeH, aeV, aeM, aeU, if_true, if_false, and_self, true_and, and_true, and_false, false_and, or_true, true_or, or_false, false_or, not_true_eq_false, not_false_eq_true, decide_true, decide_false, eq_self, if_pos, if_neg, OC, Og, MQ (show ¬ ((k.1.length : Int) = 32) by omega), MQ (show ¬ ((k.1.length : Int) = 64) by omega)]), if_pos h3]
 ·rw [cond_neg, if_neg h3]
  ·by_cases h4 : k.2.1.length > 126 <;> simp (disch := omega) only [Nj, MW, Nc, wrap64, MQ, MR, dec_not, dec_and, N8, NC, cond_true, cond_false, aeE, aeI, aeK, aeQ, aeR, aeO, aeJ, aeL, aeP, aeN, aeG, aeH, aeV, aeM, aeU, if_true, if_false, and_self, true_and, and_true, and_false, false_and, or_true, true_or, or_false, false_or, not_true_eq_false, not_false_eq_true, decide_true, decide_false, eq_self, if_pos, if_neg, OC, Og]
  ·by_cases h4 : k.1.length = 32
   ·simp (disch := omega) only [Nj, MW, Nc, wrap64, MQ, MR, dec_not, dec_and, N8, NC, cond_true, cond_false, aeE, aeI, aeK, aeQ, aeR, aeO, aeJ, aeL, aeP, aeN, aeG, aeH, aeV, aeM, aeU, if_true, if_false, and_self, true_and, and_true, and_false, false_and, or_true, true_or, or_false, false_or, not_true_eq_false, not_false_eq_true, decide_true, decide_false, eq_self, if_pos, if_neg, OC, Og]
   ·simp (disch := omega) only [Nj, MW, Nc, wrap64, MQ, MR, dec_not, dec_and, N8, NC, cond_true, cond_false, aeE, aeI, aeK, aeQ, aeR, aeO, aeJ, aeL, aeP, aeN, aeG, aeH, aeV, aeM, aeU, if_true, if_false, and_self, true_and, and_true, and_false, false_and, or_true, true_or, or_false, false_or, not_true_eq_false, not_false_eq_true, decide_true, decide_false, eq_self, if_pos, if_neg, OC, Og]
def U5 (xs : List KK) (i : Nat) : Bool :=
 !decide (QI (rd k0 xs i) = 0) || decide ((rd k0 xs i).2.2.1.length > 65536) || !decide ((rd k0 xs i).2.2.2 = txt ((i : Int) + 1) (rd k0 xs i).2.2.1) || (ae1 i).any fun j => TY (rd k0 xs j) (rd k0 xs i)
def Po (v : VV) : Bool := bif v.1 then decide (v.2.length <= 2048) && !((ae1 v.2.length).any (U5 v.2)) else decide (v.2.length = 0)
theorem aaI (xs : List KK) (i : Nat) (q : KK) (b : Bool) (hi : i <= xs.length) (hy : xs.length < 9223372036854775808) (hok : ∀ k ∈ xs, YV k) (hq : YV q) :
  Ns.l0 .lim ((i : Int), 0, b, xs, q.1, q.2.1, q.2.2.1, q.2.2.2, ()) = bif (ae1 i).any (fun j => TY (rd k0 xs j) q) then some (.inl (false, ())) else some (.inr ((i : Int), b, xs, ())) := by
 have e := Qx (f := Ns.l0 .lim) (fun j => ((i : Int), (j : Int), b, xs, q.1, q.2.1, q.2.2.1, q.2.2.2, ())) i (fun j => TY (rd k0 xs j) q) (some (.inl (false, ()))) (fun k hk => by
  rw [Ns.q0];have ha := Vt q (rd k0 xs k) hq.2.1 (hok _ (Oc (by omega) (by omega))).2.1;rw [Y8] at ha;have ha : Ob.run .lim ((q.1, q.2.1, q.2.2.1, q.2.2.2), rd k0 xs k, ()) = some (TY (rd k0 xs k) q) := ha;simp (disch := omega) only [Nj, MW, Nc, wrap64, MQ, MR, dec_not, dec_and, N8, NC, cond_true, cond_false, aeE, aeI, aeK, aeQ, aeR, aeO, aeJ, aeL, aeP, aeN, aeG, aeH, aeV, aeM, aeU, if_true, if_false, and_self, true_and, and_true, and_false, false_and, or_true, true_or, or_false, false_or, not_true_eq_false, not_false_eq_true, decide_true, decide_false, eq_self, if_pos, if_neg, OC, Og, Ns.b0, wk k (by omega), ha])
 refine e.trans ?_;rw [Ns.q0];simp (disch := omega) only [Nj, MW, Nc, wrap64, MQ, MR, dec_not, dec_and, N8, NC, cond_true, cond_false, aeE, aeI, aeK, aeQ, aeR, aeO, aeJ, aeL, aeP, aeN, aeG, aeH, aeV, aeM, aeU, if_true, if_false, and_self, true_and, and_true, and_false, false_and, or_true, true_or, or_false, false_or, not_true_eq_false, not_false_eq_true, decide_true, decide_false, eq_self, if_pos, if_neg, OC, Og, Ns.b0]
theorem ada (q : KK) : ((!decide ((q.1.length : Int) = 32) && !decide ((q.1.length : Int) = 64)) || decide ((q.2.1.length : Int) > 126)) = !decide (QI q = 0) := by
 unfold QI;by_cases h1 : q.1.length ≠ 32 /\ q.1.length ≠ 64
 ·rw [if_pos h1, MR (show ¬ (q.1.length : Int) = 32 by omega), MR (show ¬ (q.1.length : Int) = 64 by omega)]; rfl
 ·rw [if_neg h1];have : (!decide ((q.1.length : Int) = 32) && !decide ((q.1.length : Int) = 64)) = false := by
   by_cases h2 : q.1.length = 32
   ·rw [MQ (by omega)]; rfl
   ·rw [MQ (show (q.1.length : Int) = 64 by omega), aeG, aeJ]
  rw [this, aeN];by_cases h3 : q.2.1.length > 126
  ·rw [if_pos h3, MQ (by omega)]; rfl
  ·rw [if_neg h3, MR (by omega)]; rfl
theorem aaH (v : VV) (h : okV v) : Ns.run .lim (v, ()) = some (Po v) := by
 obtain ⟨b, xs⟩ := v;have hx : xs.length < 9223372036854775808 := h.1;unfold Po;simp only [Ns.run, MX hx];cases b with
 | false => simp only [cond_true, cond_false, aeE, aeI, aeK, aeQ, aeR, aeO, aeJ, aeL, aeP, aeN, aeG, aeH, aeV, aeM, aeU]; congr 2; simp
 | true =>
  simp only [cond_true, cond_false, aeE, aeI, aeK, aeQ, aeR, aeO, aeJ, aeL, aeP, aeN, aeG, aeH, aeV, aeM, aeU];by_cases h1 : xs.length <= 2048
  ·obtain ⟨j, _, e⟩ := Zo (f := Ns.l1 .lim) (fun k => ((k : Int), true, xs, ())) xs.length (U5 xs) (fun k => bif (!decide (QI (rd k0 xs k) = 0) || decide ((rd k0 xs k).2.2.1.length > 65536) || !decide ((rd k0 xs k).2.2.2 = txt ((k : Int) + 1) (rd k0 xs k).2.2.1)) then some (.inl (false, ())) else some (.inr (.inl (false, ())))) (fun k hk => by
    rw [Ns.q1];have w := wk k (by omega);have hk' : YV (rd k0 xs k) := h.at (v := (true, xs)) hk;have hn := fun hh => ZL ((k : Int) + 1) (rd k0 xs k).2.2.1 (by omega) (by omega) hh
    have e2 := aaI xs k (rd k0 xs k) true (by omega) hx h.2 hk';unfold U5;simp only [Ns.b1, MX hx, MQ (show (k : Int) < (xs.length : Int) by omega), MW (show (0 : Int) <= k by omega) (show (k : Int) < xs.length by omega), MX hk'.1, MX hk'.2.1, MX hk'.2.2.2.1, w, ada];rw [show ((k + 1 : Nat) : Int) = (k : Int) + 1 by omega];simp only [cond_true, cond_false, aeE, aeI, aeK, aeQ, aeR, aeO, aeJ, aeL, aeP, aeN, aeG, aeH, aeV, aeM, aeU];by_cases c1 : QI (rd k0 xs k) = 0
    ·by_cases c2 : (rd k0 xs k).2.2.1.length > 65536
     ·simp only [MQ c1, MQ c2, MQ (show ((rd k0 xs k).2.2.1.length : Int) > 65536 by omega)];simp only [cond_true, cond_false, aeE, aeI, aeK, aeQ, aeR, aeO, aeJ, aeL, aeP, aeN, aeG, aeH, aeV, aeM, aeU]
     ·simp only [MQ c1, MR c2, MR (show ¬ ((rd k0 xs k).2.2.1.length : Int) > 65536 by omega)];simp only [cond_true, cond_false, aeE, aeI, aeK, aeQ, aeR, aeO, aeJ, aeL, aeP, aeN, aeG, aeH, aeV, aeM, aeU];rw [hn (by omega)];simp only [cond_true, cond_false, aeE, aeI, aeK, aeQ, aeR, aeO, aeJ, aeL, aeP, aeN, aeG, aeH, aeV, aeM, aeU];by_cases c3 : (rd k0 xs k).2.2.2 = txt ((k : Int) + 1) (rd k0 xs k).2.2.1
      ·simp only [MQ c3];simp only [cond_true, cond_false, aeE, aeI, aeK, aeQ, aeR, aeO, aeJ, aeL, aeP, aeN, aeG, aeH, aeV, aeM, aeU];rw [e2];cases (ae1 k).any fun j => TY (rd k0 xs j) (rd k0 xs k)
       ·simp only [cond_true, cond_false, aeE, aeI, aeK, aeQ, aeR, aeO, aeJ, aeL, aeP, aeN, aeG, aeH, aeV, aeM, aeU]; rw [show aeF.wrap ((k : Int) + 1) = (k : Int) + 1 by rw [w]; omega]
       ·simp only [cond_true, cond_false, aeE, aeI, aeK, aeQ, aeR, aeO, aeJ, aeL, aeP, aeN, aeG, aeH, aeV, aeM, aeU]
      ·simp only [MR c3];simp only [cond_true, cond_false, aeE, aeI, aeK, aeQ, aeR, aeO, aeJ, aeL, aeP, aeN, aeG, aeH, aeV, aeM, aeU]
    ·simp only [MR c1];simp only [cond_true, cond_false, aeE, aeI, aeK, aeQ, aeR, aeO, aeJ, aeL, aeP, aeN, aeG, aeH, aeV, aeM, aeU])
   rw [show ((0 : Nat) : Int) = 0 from rfl] at e;rw [cond_neg (by simp (disch := omega) only [Nj, MW, Nc, wrap64, MQ, MR, dec_not, dec_and, N8, NC, cond_true, cond_false, aeE, aeI, aeK, aeQ, aeR, aeO, aeJ, aeL, aeP, aeN, aeG, aeH, aeV, aeM, aeU, if_true, if_false, and_self, true_and, and_true, and_false, false_and, or_true, true_or, or_false, false_or, not_true_eq_false, not_false_eq_true, decide_true, decide_false, eq_self, if_pos, if_neg, OC, Og]), e, Ns.q1];simp (disch := omega) only [Nj, MW, Nc, wrap64, MQ, MR, dec_not, dec_and, N8, NC, cond_true, cond_false, aeE, aeI, aeK, aeQ, aeR, aeO, aeJ, aeL, aeP, aeN, aeG, aeH, aeV, aeM, aeU, if_true, if_false, and_self, true_and, and_true, and_false, false_and, or_true, true_or, or_false, false_or, not_true_eq_false, not_false_eq_true, decide_true, decide_false, eq_self, if_pos, if_neg, OC, Og, Ns.b1, MX hx];cases (ae1 xs.length).any (U5 xs)
   ·rfl
   ·simp only [cond_true, cond_false, aeE, aeI, aeK, aeQ, aeR, aeO, aeJ, aeL, aeP, aeN, aeG, aeH, aeV, aeM, aeU]; split <;> rfl
  ·rw [cond_pos (by simp (disch := omega) only [Nj, MW, Nc, wrap64, MQ, MR, dec_not, dec_and, N8, NC, cond_true, cond_false, aeE, aeI, aeK, aeQ, aeR, aeO, aeJ, aeL, aeP, aeN, aeG, aeH, aeV, aeM, aeU, if_true, if_false, and_self, true_and, and_true, and_false, false_and, or_true, true_or, or_false, false_or, not_true_eq_false, not_false_eq_true, decide_true, decide_false, eq_self, if_pos, if_neg, OC, Og]), MR h1];simp only [cond_true, cond_false, aeE, aeI, aeK, aeQ, aeR, aeO, aeJ, aeL, aeP, aeN, aeG, aeH, aeV, aeM, aeU]
theorem Y9 (a b : KK) : (TY a b && decide (a.2.2.2 = b.2.2.2)) = decide (a = b) := by
 obtain ⟨a1, a2, a3, a4⟩ := a;obtain ⟨b1, b2, b3, b4⟩ := b;unfold TY;simp only;by_cases h1 : a1 = b1 <;> by_cases h2 : a2 = b2 <;> by_cases h3 : a3 = b3 <;> by_cases h4 : a4 = b4 <;> simp [h1, h2, h3, h4]
theorem ZK (v w : VV) (hv : okV v) (hw : okV w) : Nr.run .lim (v, w, ()) = some (decide (v = w)) := by
 obtain ⟨a, xs⟩ := v;obtain ⟨b, ys⟩ := w;have hx : xs.length < 9223372036854775808 := hv.1;have hy : ys.length < 9223372036854775808 := hw.1;simp only [Nr.run, MX hx, MX hy];by_cases hab : a = b
 ·subst hab;rw [show (a == a) = true by simp];simp only [cond_true, cond_false, aeE, aeI, aeK, aeQ, aeR, aeO, aeJ, aeL, aeP, aeN, aeG, aeH, aeV, aeM, aeU];by_cases hl : xs.length = ys.length
  ·have e := Qx (f := Nr.l0 .lim) (fun k => ((k : Int), a, xs, a, ys, ())) xs.length (fun k => !decide (rd k0 xs k = rd k0 ys k)) (some (.inl (false, ()))) (fun k hk => by
    rw [Nr.q0];have hs := Vt (rd k0 xs k) (rd k0 ys k) (hv.at hk).2.1 (hw.at (v := (a, ys)) (k := k) (by show k < ys.length; omega)).2.1;simp only [Nr.b0, wk k (by omega), hs, MX hx, MQ (show (k : Int) < (xs.length : Int) by omega), MW (show (0 : Int) <= k by omega) (show (k : Int) < xs.length by omega), MW (show (0 : Int) <= k by omega) (show (k : Int) < ys.length by omega)];simp only [cond_true, cond_false, aeE, aeI, aeK, aeQ, aeR, aeO, aeJ, aeL, aeP, aeN, aeG, aeH, aeV, aeM, aeU];rw [<- Y9 (rd k0 xs k) (rd k0 ys k)];cases TY (rd k0 xs k) (rd k0 ys k) <;> simp only [cond_true, cond_false, aeE, aeI, aeK, aeQ, aeR, aeO, aeJ, aeL, aeP, aeN, aeG, aeH, aeV, aeM, aeU])
   rw [Uw hl, show ((0 : Nat) : Int) = 0 from rfl] at e;rw [cond_neg (by simp (disch := omega) only [Nj, MW, Nc, wrap64, MQ, MR, dec_not, dec_and, N8, NC, cond_true, cond_false, aeE, aeI, aeK, aeQ, aeR, aeO, aeJ, aeL, aeP, aeN, aeG, aeH, aeV, aeM, aeU, if_true, if_false, and_self, true_and, and_true, and_false, false_and, or_true, true_or, or_false, false_or, not_true_eq_false, not_false_eq_true, decide_true, decide_false, eq_self, if_pos, if_neg, OC, Og]), e, Nr.q0];simp (disch := omega) only [Nj, MW, Nc, wrap64, MQ, MR, dec_not, dec_and, N8, NC, cond_true, cond_false, aeE, aeI, aeK, aeQ, aeR, aeO, aeJ, aeL, aeP, aeN, aeG, aeH, aeV, aeM, aeU, if_true, if_false, and_self, true_and, and_true, and_false, false_and, or_true, true_or, or_false, false_or, not_true_eq_false, not_false_eq_true, decide_true, decide_false, eq_self, if_pos, if_neg, OC, Og, Nr.b0, MX hx];by_cases h : xs = ys
   ·subst h; simp (disch := omega) only [Nj, MW, Nc, wrap64, MQ, MR, dec_not, dec_and, N8, NC, cond_true, cond_false, aeE, aeI, aeK, aeQ, aeR, aeO, aeJ, aeL, aeP, aeN, aeG, aeH, aeV, aeM, aeU, if_true, if_false, and_self, true_and, and_true, and_false, false_and, or_true, true_or, or_false, false_or, not_true_eq_false, not_false_eq_true, decide_true, decide_false, eq_self, if_pos, if_neg, OC, Og]
   ·rw [MR (fun q => h (agb q).2)]; simp (disch := omega) only [Nj, MW, Nc, wrap64, MQ, MR, dec_not, dec_and, N8, NC, cond_true, cond_false, aeE, aeI, aeK, aeQ, aeR, aeO, aeJ, aeL, aeP, aeN, aeG, aeH, aeV, aeM, aeU, if_true, if_false, and_self, true_and, and_true, and_false, false_and, or_true, true_or, or_false, false_or, not_true_eq_false, not_false_eq_true, decide_true, decide_false, eq_self, if_pos, if_neg, OC, Og]
  ·rw [cond_pos (by simp (disch := omega) only [Nj, MW, Nc, wrap64, MQ, MR, dec_not, dec_and, N8, NC, cond_true, cond_false, aeE, aeI, aeK, aeQ, aeR, aeO, aeJ, aeL, aeP, aeN, aeG, aeH, aeV, aeM, aeU, if_true, if_false, and_self, true_and, and_true, and_false, false_and, or_true, true_or, or_false, false_or, not_true_eq_false, not_false_eq_true, decide_true, decide_false, eq_self, if_pos, if_neg, OC, Og]), MR];exact fun q => hl (by rw [(agb q).2])
 ·rw [show (a == b) = false by simpa using hab, MR (fun q => hab (agb q).1)];simp only [cond_true, cond_false, aeE, aeI, aeK, aeQ, aeR, aeO, aeJ, aeL, aeP, aeN, aeG, aeH, aeV, aeM, aeU]
theorem Xp (v : VV) (h : okV v) : ∃ r, Na.run .lim (v, ()) = some r := by
 obtain ⟨b, xs⟩ := v;have hx : xs.length < 9223372036854775808 := h.1
 -- the inner loop
 have inner : ∀ (n : Nat) (left : Int) (j : Nat) (i : Int) (q : KK), YV q -> j + n = q.2.1.length -> -9223372036854775808 <= left -> left < 9223372036854775808 -> ∃ l : Int, -9223372036854775808 <= l /\ l < 9223372036854775808 /\ Na.l0 .lim (left, i, (j : Int), b, xs, q.1, q.2.1, q.2.2.1, q.2.2.2, ()) = some (l, i, b, xs, ()) := by
  intro n
  induction n with
  | zero =>
   intro left j i q hq hj h1 h2;refine ⟨left, h1, h2, ?_⟩;rw [Na.q0];simp (disch := omega) only [Nj, MW, Nc, wrap64, MQ, MR, dec_not, dec_and, N8, NC, cond_true, cond_false, aeE, aeI, aeK, aeQ, aeR, aeO, aeJ, aeL, aeP, aeN, aeG, aeH, aeV, aeM, aeU, if_true, if_false, and_self, true_and, and_true, and_false, false_and, or_true, true_or, or_false, false_or, not_true_eq_false, not_false_eq_true, decide_true, decide_false, eq_self, if_pos, if_neg, OC, Og, Na.b0, MX hq.2.1]
  | succ n ih =>
   intro left j i q hq hj h1 h2;have hb := @TW (left - ((rd ([] : List Int) q.2.1 (j : Int)).length : Int));have hs := hq.2.2.1 (rd ([] : List Int) q.2.1 (j : Int)) (Oc (by omega) (by omega));by_cases hl : left >= 0
   ·obtain ⟨l, l1, l2, e⟩ := ih (aeF.wrap (left - ((rd ([] : List Int) q.2.1 (j : Int)).length : Int))) (j + 1) i q hq (by omega) hb.1 hb.2;refine ⟨l, l1, l2, ?_⟩;rw [Na.q0, <- e];have hj' := hq.2.1;simp only [Na.b0, MX hq.2.1, wk j (by omega), MX hs, MQ hl, MQ (show (j : Int) < (q.2.1.length : Int) by omega), MW (show (0 : Int) <= j by omega) (show (j : Int) < q.2.1.length by omega)];simp only [cond_true, cond_false, aeE, aeI, aeK, aeQ, aeR, aeO, aeJ, aeL, aeP, aeN, aeG, aeH, aeV, aeM, aeU]
   ·refine ⟨left, h1, h2, ?_⟩;rw [Na.q0];simp (disch := omega) only [Nj, MW, Nc, wrap64, MQ, MR, dec_not, dec_and, N8, NC, cond_true, cond_false, aeE, aeI, aeK, aeQ, aeR, aeO, aeJ, aeL, aeP, aeN, aeG, aeH, aeV, aeM, aeU, if_true, if_false, and_self, true_and, and_true, and_false, false_and, or_true, true_or, or_false, false_or, not_true_eq_false, not_false_eq_true, decide_true, decide_false, eq_self, if_pos, if_neg, OC, Og, Na.b0, MX hq.2.1]
 have outer : ∀ (n : Nat) (left : Int) (i : Nat), i + n = xs.length -> -9223372036854775808 <= left -> left < 9223372036854775808 -> ∃ l : Int, Na.l1 .lim (left, (i : Int), b, xs, ()) = some (l, b, xs, ()) := by
  intro n
  induction n with
  | zero =>
   intro left i hi h1 h2;refine ⟨left, ?_⟩;rw [Na.q1];simp (disch := omega) only [Nj, MW, Nc, wrap64, MQ, MR, dec_not, dec_and, N8, NC, cond_true, cond_false, aeE, aeI, aeK, aeQ, aeR, aeO, aeJ, aeL, aeP, aeN, aeG, aeH, aeV, aeM, aeU, if_true, if_false, and_self, true_and, and_true, and_false, false_and, or_true, true_or, or_false, false_or, not_true_eq_false, not_false_eq_true, decide_true, decide_false, eq_self, if_pos, if_neg, OC, Og, Na.b1, MX hx]
  | succ n ih =>
   intro left i hi h1 h2;by_cases hl : left >= 0
   ·have hk : YV (rd k0 xs i) := h.at (v := (b, xs)) (by show i < xs.length; omega);rw [Na.q1];simp only [Na.b1, MX hx, MX hk.1, MX hk.2.1, MX hk.2.2.2.1, MX hk.2.2.2.2, MQ hl, MQ (show (i : Int) < (xs.length : Int) by omega), MW (show (0 : Int) <= i by omega) (show (i : Int) < xs.length by omega)];simp only [cond_true, cond_false, aeE, aeI, aeK, aeQ, aeR, aeO, aeJ, aeL, aeP, aeN, aeG, aeH, aeV, aeM, aeU];obtain ⟨l, l1, l2, e⟩ := inner _ (aeF.wrap (aeF.wrap (aeF.wrap (aeF.wrap (aeF.wrap (left - 10) - ((rd k0 xs i).1.length : Int)) - ((rd k0 xs i).2.2.1.length : Int)) - ((rd k0 xs i).2.2.2.length : Int)) - ((rd k0 xs i).2.1.length : Int))) 0 (i : Int) (rd k0 xs i) hk (Nat.zero_add _) TW.1 TW.2;rw [show ((0 : Nat) : Int) = 0 from rfl] at e;rw [e];obtain ⟨l', e'⟩ := ih l (i + 1) (by omega) l1 l2;refine ⟨l', ?_⟩;rw [<- e'];simp (disch := omega) only [Nj, MW, Nc, wrap64, MQ, MR, dec_not, dec_and, N8, NC, cond_true, cond_false, aeE, aeI, aeK, aeQ, aeR, aeO, aeJ, aeL, aeP, aeN, aeG, aeH, aeV, aeM, aeU, if_true, if_false, and_self, true_and, and_true, and_false, false_and, or_true, true_or, or_false, false_or, not_true_eq_false, not_false_eq_true, decide_true, decide_false, eq_self, if_pos, if_neg, OC, Og, wk i (by omega)]
   ·refine ⟨left, ?_⟩;rw [Na.q1];simp (disch := omega) only [Nj, MW, Nc, wrap64, MQ, MR, dec_not, dec_and, N8, NC, cond_true, cond_false, aeE, aeI, aeK, aeQ, aeR, aeO, aeJ, aeL, aeP, aeN, aeG, aeH, aeV, aeM, aeU, if_true, if_false, and_self, true_and, and_true, and_false, false_and, or_true, true_or, or_false, false_or, not_true_eq_false, not_false_eq_true, decide_true, decide_false, eq_self, if_pos, if_neg, OC, Og, Na.b1, MX hx]
 obtain ⟨l, e⟩ := outer xs.length 400000 0 (by omega) (by omega) (by omega);rw [show ((0 : Nat) : Int) = 0 from rfl] at e;refine ⟨decide (l >= 0) && decide ((xs.length : Int) <= 300), ?_⟩;simp only [Na.run, e, MX hx];simp only [cond_true, cond_false, aeE, aeI, aeK, aeQ, aeR, aeO, aeJ, aeL, aeP, aeN, aeG, aeH, aeV, aeM, aeU, MX hx]
end Go.AM
end
section
namespace Go.AM
def hit (key : List Int) (ad : List (List Int)) (t : List Int) (k : KK) : Bool := decide (k.2.2.2 = t) && decide (k.1 = key) && decide (k.2.1 = ad)
theorem UF {n : Nat} (h : n <= 140737488351232) : n < 9223372036854775808 := by omega
theorem ac9 {v : VV} (h : Ty.ok (.pair .bool (.lst (.pair .str (.pair (.lst .str) (.pair .str .str))))) v) : okV v := by
 obtain ⟨_, h1, h2⟩ := h;refine ⟨UF h1, fun k hk => ?_⟩;obtain ⟨a, ⟨b1, b2⟩, c, d⟩ := h2 k hk;exact ⟨UF a.1, UF b1, fun s hs => UF (b2 s hs).1, UF c.1, UF d.1⟩
end Go.AM
end
section
namespace Go.AM
abbrev B8 (x : Int) : Prop := 0 <= x /\ x < 256
theorem RP (n : Int) : B8 (ae4.wrap n) := by rw [Pg]; unfold B8; omega
theorem Qq {n : Int} (h : B8 n) : ae4.wrap n = n := by rw [Pg]; unfold B8 at h; omega
theorem Uj (a b : Int) : B8 (Hy .u8 a b) := by unfold Hy ng; exact RP _
theorem ac_ (a b : Int) : B8 (KO .u8 a b) := by unfold KO ng; exact RP _
theorem Yc (a b : Int) : B8 (I9 .u8 a b) := by unfold I9; exact RP _
theorem abO {a k : Int} : I_ .u8 a k = a / 2 ^ min k.toNat 8 := by
 unfold I_;rw [afm _ (afu (afs (by omega)))];rfl
theorem xor_comm (a b : Int) : Hy .u8 a b = Hy .u8 b a := by
 show ae4.wrap (aeX 8 a ^^^ aeX 8 b).toNat = ae4.wrap (aeX 8 b ^^^ aeX 8 a).toNat;rw [BitVec.xor_comm]
theorem Uf (x : BitVec 8) : aeX 8 (ae4.wrap x.toNat) = x := by
 rw [Pg];apply BitVec.eq_of_toNat_eq
 have := x.isLt;rw [afe];omega
theorem xor_assoc (a b c : Int) : Hy .u8 (Hy .u8 a b) c = Hy .u8 a (Hy .u8 b c) := by
 show ae4.wrap (aeX 8 (ae4.wrap (aeX 8 a ^^^ aeX 8 b).toNat) ^^^ aeX 8 c).toNat = ae4.wrap (aeX 8 a ^^^ aeX 8 (ae4.wrap (aeX 8 b ^^^ aeX 8 c).toNat)).toNat;rw [Uf, Uf, BitVec.xor_assoc]
theorem xor_self (a : Int) : Hy .u8 a a = 0 := by
 show ae4.wrap (aeX 8 a ^^^ aeX 8 a).toNat = 0;rw [BitVec.xor_self]; rfl
theorem xor_zero {a : Int} (h : B8 a) : Hy .u8 a 0 = a := by
 show ae4.wrap (aeX 8 a ^^^ aeX 8 0).toNat = a;rw [show aeX 8 0 = 0#8 from rfl, BitVec.xor_zero, afe, Pg];unfold B8 at h;omega
theorem zero_xor {a : Int} (h : B8 a) : Hy .u8 0 a = a := by rw [xor_comm, xor_zero h]
theorem OY {p : Int -> Prop} (h : ∀ n : Nat, n < 256 -> p n) {a : Int} (ha : B8 a) : p a := by
 have := h a.toNat (by unfold B8 at ha; omega)
 rwa [show ((a.toNat : Nat) : Int) = a by unfold B8 at ha; omega] at this
def tab (n : Nat) (g : Nat -> Int) : List Int := (ae1 n).map g
@[simp] theorem Pj {n : Nat} {g : Nat -> Int} : (tab n g).length = n := by simp [tab]
theorem QH {n : Nat} {g : Nat -> Int} {k : Nat} (h : k < n) : rd 0 (tab n g) (k : Int) = g k := by rw [PY (by simpa using h)]; simp [tab]
theorem X4 {n : Nat} {g : Nat -> Int} {k : Int} (h0 : 0 <= k) (h : k < n) : rd 0 (tab n g) k = g k.toNat := by
 have := QH (n := n) (g := g) (k := k.toNat) (by omega)
 rwa [show ((k.toNat : Nat) : Int) = k by omega] at this
theorem O_ {n : Nat} {g h : Nat -> Int} (e : ∀ k, k < n -> g k = h k) : tab n g = tab n h := by unfold tab; exact afy fun k hk => e k (ae6.1 hk)
theorem Us {n : Nat} {g : Nat -> Int} {k : Nat} {v : Int} : (tab n g).set k v = tab n fun i => if i = k then v else g i := by
 unfold tab;apply af5 (by simp)
 intro i h1 h2;simp only [af7, af6, afW];by_cases h : k = i
 ·rw [if_pos h, if_pos h.symm]
 ·rw [if_neg h, if_neg (Ne.symm h)]
theorem V3 {m : List Int} {n : Nat} (h : m.length = n) : m = tab n fun i => rd 0 m (i : Int) := by
 apply VU (d := 0) (by simp [h])
 intro k hk;rw [QH (by omega)]
def TU (n k : Nat) (g : Nat -> Int) : List Int := tab n fun i => if i < k then g i else 0
@[simp] theorem acO {n k : Nat} {g : Nat -> Int} : (TU n k g).length = n := Pj
theorem TV {n : Nat} {g : Nat -> Int} : TU n 0 g = aeT n 0 := by
 unfold TU tab;rw [afJ];exact ⟨by simp, fun b hb => by obtain ⟨i, _, rfl⟩ := afC.1 hb; simp⟩
theorem WU {n : Nat} {g : Nat -> Int} : TU n n g = tab n g := O_ fun k hk => by rw [if_pos hk]
theorem U2 {n k : Nat} {g : Nat -> Int} {v : Int} (h : v = g k) : (TU n k g).set k v = TU n (k + 1) g := by
 unfold TU;rw [Us];refine O_ fun i _ => ?_
 by_cases h1 : i = k
 ·subst h1; rw [if_pos rfl, if_pos (by omega), h]
 ·rw [if_neg h1];by_cases h2 : i < k
  ·rw [if_pos h2, if_pos (by omega)]
  ·rw [if_neg h2, if_neg (by omega)]
theorem TR {m : List Int} {k : Nat} {v : Int} (h : k < m.length) : rd 0 (m.set k v) (k : Int) = v := by rw [PY (by simpa using h)]; simp
theorem O5 {α β : Type} {f : α -> Option β} (st : Nat -> List Int -> α) (g : Nat -> Int -> Int) (m : List Int) {n : Nat} (hn : m.length = n)
  (h : ∀ k, k < n -> ∀ m' : List Int, m'.length = n -> (∀ j, k <= j -> rd 0 m' (j : Int) = rd 0 m (j : Int)) -> f (st k m') = f (st (k + 1) (m'.set k (g k (rd 0 m (k : Int)))))) :
  f (st 0 m) = f (st n (tab n fun i => g i (rd 0 m (i : Int)))) := by
 have key : ∀ k, k <= n -> f (st 0 m) = f (st k (tab n fun i => if i < k then g i (rd 0 m (i : Int)) else rd 0 m (i : Int))) := by
  intro k
  induction k with
  | zero =>
   intro _;rw [show (tab n fun i => if i < 0 then g i (rd 0 m (i : Int)) else rd 0 m (i : Int)) = m from by
    conv => rhs; rw [V3 hn]
    exact O_ fun i _ => by rw [if_neg (by omega)]]
  | succ k ih =>
   intro hk;rw [ih (by omega), h k (by omega) _ (by simp) fun j hj => by
    by_cases hjn : j < n
    ·rw [QH hjn, if_neg (by omega)]
    ·unfold rd;rw [aeS, ae5, ae5, afL (by simp; omega), afL (by omega)]]
   congr 2;rw [Us];refine O_ fun i _ => ?_
   by_cases h1 : i = k
   ·subst h1; rw [if_pos rfl, if_pos (by omega)]
   ·rw [if_neg h1];by_cases h2 : i < k
    ·rw [if_pos h2, if_pos (by omega)]
    ·rw [if_neg h2, if_neg (by omega)]
 rw [key n (afa _)];congr 2;exact O_ fun i hi => by rw [if_pos hi]
theorem list4 {t : List Int} (h : t.length = 4) : t = [rd 0 t 0, rd 0 t 1, rd 0 t 2, rd 0 t 3] := by
 match t, h with
 | [a, b, c, d], _ => rfl
theorem Qp (k : Nat) (h : k < 4611686018427387904) : aeF.wrap ((k : Int) + 1) = ((k + 1 : Nat) : Int) := by rw [wrap64 (by omega) (by omega)]; omega
end Go.AM
end
section
namespace Go.AM
def tmS : Nat -> Int -> Int -> Int -> Int
 | 0, _, _, r => r
 | n + 1, a, b, r => tmS n (bif decide (I8 .u8 a 128 = 0) then I9 .u8 a 1 else Hy .u8 (I9 .u8 a 1) 27) (I_ .u8 b 1) (bif decide (I8 .u8 b 1 = 1) then Hy .u8 r a else r)
def tm (a b : Int) : Int := tmS 8 a b 0
theorem aa_ : ∀ n a b r, B8 r -> B8 (tmS n a b r)
 | 0, _, _, _, h => h
 | n + 1, a, b, r, h => aa_ n _ _ _ (by cases decide (I8 .u8 b 1 = 1) <;> first | exact h | exact Uj _ _)
theorem aaT (a b : Int) : B8 (tm a b) := aa_ 8 a b 0 ⟨by decide, by decide⟩
theorem WV : ∀ n a r, tmS n a 0 r = r
 | 0, _, _ => rfl
 | n + 1, a, r => by
  rw [tmS, show I_ .u8 0 1 = 0 from by decide, WV n];rfl
theorem step_a {a : Int} (h : B8 a) : Hy .u8 (I9 .u8 a 1) (ae4.wrap (I_ .u8 a 7 * 27)) = bif decide (I8 .u8 a 128 = 0) then I9 .u8 a 1 else Hy .u8 (I9 .u8 a 1) 27 :=
 OY (p := fun a => Hy .u8 (I9 .u8 a 1) (ae4.wrap (I_ .u8 a 7 * 27)) = bif decide (I8 .u8 a 128 = 0) then I9 .u8 a 1 else Hy .u8 (I9 .u8 a 1) 27) (by decide +kernel) h
theorem ab8 {b : Int} (h : B8 b) : I8 .u8 b 1 = 0 \/ I8 .u8 b 1 = 1 :=
 OY (p := fun b => I8 .u8 b 1 = 0 \/ I8 .u8 b 1 = 1) (by decide +kernel) h
theorem abQ {a : Int} : B8 (bif decide (I8 .u8 a 128 = 0) then I9 .u8 a 1 else Hy .u8 (I9 .u8 a 1) 27) := by
 cases decide (I8 .u8 a 128 = 0)
 ·exact Uj _ _
 ·exact Yc _ _
theorem Qk {a b : Int} (ha : B8 a) (hb : B8 b) : Oe.run .lim (a, b, ()) = some (tm a b) := by
 have key : ∀ (n : Nat) (a b r : Int), B8 a -> B8 r -> 0 <= b -> b < 2 ^ n -> n <= 8 -> Oe.l0 .lim (a, b, r, ()) = some (tmS n a b r, ()) := by
  intro n
  induction n with
  | zero =>
   intro a b r ha hr h0 h1 _;obtain rfl : b = 0 := by simp at h1; omega
   rw [Oe.q0];simp (disch := omega) only [Nj, MW, Nc, wrap64, MQ, MR, dec_not, dec_and, N8, NC, cond_true, cond_false, aeE, aeI, aeK, aeQ, aeR, aeO, aeJ, aeL, aeP, aeN, aeG, aeH, aeV, aeM, aeU, if_true, if_false, and_self, true_and, and_true, and_false, false_and, or_true, true_or, or_false, false_or, not_true_eq_false, not_false_eq_true, decide_true, decide_false, eq_self, if_pos, if_neg, OC, Og, Oe.b0];rfl
  | succ n ih =>
   intro a b r ha hr h0 h1 hn;have hb : B8 b := by
    refine ⟨h0, Int.lt_of_lt_of_le h1 ?_⟩;have h2 : (2 : Int) ^ (n + 1) = ((2 ^ (n + 1) : Nat) : Int) := by simp
    have h3 : 2 ^ (n + 1) <= 2 ^ 8 := afw (by omega) hn;rw [h2]; omega
   rw [Oe.q0];by_cases hz : b = 0
   ·subst hz;rw [WV];simp (disch := omega) only [Nj, MW, Nc, wrap64, MQ, MR, dec_not, dec_and, N8, NC, cond_true, cond_false, aeE, aeI, aeK, aeQ, aeR, aeO, aeJ, aeL, aeP, aeN, aeG, aeH, aeV, aeM, aeU, if_true, if_false, and_self, true_and, and_true, and_false, false_and, or_true, true_or, or_false, false_or, not_true_eq_false, not_false_eq_true, decide_true, decide_false, eq_self, if_pos, if_neg, OC, Og, Oe.b0]
   ·have hs : I_ .u8 b 1 = b / 2 := by rw [abO]; rfl
    have hm : ae4.wrap (a * I8 .u8 b 1) = bif decide (I8 .u8 b 1 = 1) then a else 0 := by
     rcases ab8 hb with e | e
     ·rw [e]; simp; decide
     ·rw [e, Int.mul_one, Qq ha]; rfl
    have hx : Hy .u8 r (bif decide (I8 .u8 b 1 = 1) then a else 0) = bif decide (I8 .u8 b 1 = 1) then Hy .u8 r a else r := by
     cases decide (I8 .u8 b 1 = 1)
     ·exact xor_zero hr
     ·rfl
    have hr' : B8 (bif decide (I8 .u8 b 1 = 1) then Hy .u8 r a else r) := by
     cases decide (I8 .u8 b 1 = 1)
     ·exact hr
     ·exact Uj _ _
    have h2 := ih _ (I_ .u8 b 1) _ (@abQ a) hr' (by rw [hs]; omega) (by rw [hs, af2] at *; omega) (by omega);simp only [Oe.b0, MQ (show b > 0 by omega), cond_true, step_a ha, hm, hx];rw [h2, tmS]
 have := key 8 a b 0 ha ⟨by decide, by decide⟩ hb.1 hb.2 (by omega);simp only [Oe.run, this, aeE];rfl
def invS : Nat -> Int -> Int -> Int
 | 0, r, _ => r
 | n + 1, r, s => invS n (tm r (tm s s)) (tm s s)
def aaJ (b n : Int) : Int := KO .u8 (I9 .u8 b n) (I_ .u8 b (8 - n))
def acL (b : Int) : Int := Hy .u8 (Hy .u8 (Hy .u8 (Hy .u8 (Hy .u8 (invS 7 1 b) (aaJ (invS 7 1 b) 1)) (aaJ (invS 7 1 b) 2)) (aaJ (invS 7 1 b) 3)) (aaJ (invS 7 1 b) 4)) 99
theorem Xn {b : Int} (hb : B8 b) : OD.run .lim (b, ()) = some (invS 7 1 b) := by
 have key : ∀ (n i : Nat) (r s : Int), i + n = 7 -> B8 r -> B8 s -> OD.l0 .lim (r, s, (i : Int), ()) = some (invS n r s, ()) := by
  intro n
  induction n with
  | zero =>
   intro i r s h _ _;rw [OD.q0];simp (disch := omega) only [Nj, MW, Nc, wrap64, MQ, MR, dec_not, dec_and, N8, NC, cond_true, cond_false, aeE, aeI, aeK, aeQ, aeR, aeO, aeJ, aeL, aeP, aeN, aeG, aeH, aeV, aeM, aeU, if_true, if_false, and_self, true_and, and_true, and_false, false_and, or_true, true_or, or_false, false_or, not_true_eq_false, not_false_eq_true, decide_true, decide_false, eq_self, if_pos, if_neg, OC, Og, OD.b0];rfl
  | succ n ih =>
   intro i r s h hr hs;rw [OD.q0];simp only [OD.b0, Qp i (by omega), MQ (show (i : Int) < 7 by omega), cond_true, Qk hs hs, aeE, Qk hr (aaT s s), ih (i + 1) _ _ (by omega) (aaT _ _) (aaT _ _)];rfl
 have := key 7 0 1 b rfl ⟨by decide, by decide⟩ hb;rw [show ((0 : Nat) : Int) = 0 from rfl] at this;simp only [OD.run, this, aeE]
theorem abm {b : Int} (hb : B8 b) : QB.run .lim (b, ()) = some (acL b) := by
 simp only [QB.run, Xn hb, aeE];have w : ∀ n : Int, Qu.run .lim (invS 7 1 b, n, ()) = bif decide (0 <= n) then (bif decide (0 <= aeF.wrap (8 - n)) then some (KO .u8 (I9 .u8 (invS 7 1 b) n) (I_ .u8 (invS 7 1 b) (aeF.wrap (8 - n)))) else none) else none := fun n => rfl
 rw [w, w, w, w];rfl
def U3 (b : Int) : Int := acL b
theorem XH {b : Int} (hb : B8 b) : QB.run .lim (b, ()) = some (U3 b) := abm hb
theorem X9 {b : Int} (hb : B8 b) : B8 (U3 b) := Uj _ _
end Go.AM
end
section
namespace Go.AM
abbrev z4 : List Int := aeT 4 0
abbrev VG : List Int := aeT 16 0
abbrev NZ : List Int := aeT 256 0
abbrev kL : List Int := [1, 2, 3, 9, 11, 13, 14]
theorem aa2 : ∀ k : Nat, k < 7 -> 0 <= rd 0 kL (k : Int) /\ rd 0 kL (k : Int) < 16 := by decide
def NS (k : Nat) : List (List Int) :=
 let t := fun j : Int => TU 256 k fun i => tm (i : Int) j
 [NZ, t 1, t 2, t 3, NZ, NZ, NZ, NZ, NZ, t 9, NZ, t 11, NZ, t 13, t 14, NZ]
def Uh (i : Nat) (yb : List (List Int)) : Nat -> List (List Int)
 | 0 => yb
 | k + 1 => (Uh i yb k).set (rd 0 kL (k : Int)).toNat ((rd NZ (Uh i yb k) (rd 0 kL (k : Int))).set i (tm (i : Int) (rd 0 kL (k : Int))))
theorem X8 (k : Nat) : Uh k (NS k) 7 = NS (k + 1) := by
 have e : Uh k (NS k) 7 = (
  let t := fun j : Int => (TU 256 k fun i => tm (i : Int) j).set k (tm (k : Int) j)
  [NZ, t 1, t 2, t 3, NZ, NZ, NZ, NZ, NZ, t 9, NZ, t 11, NZ, t 13, t 14, NZ]) := rfl
 have h : ∀ j : Int, (TU 256 k fun i => tm (i : Int) j).set k (tm (k : Int) j) = TU 256 (k + 1) fun i => tm (i : Int) j := fun j => U2 rfl
 rw [e];simp only [h];rfl
theorem UQ : NS 0 = aeT 16 NZ := by
 unfold NS;simp only [TV];rfl
noncomputable def TK : Nat -> List Int
 | 0 => NZ
 | k + 1 => (TK k).set (U3 (k : Int)).toNat (k : Int)
noncomputable def PZ (k : Nat) : List Int := TU 256 k fun i => U3 (i : Int)
theorem QG {x : Int} (h : B8 x) : rd 0 (PZ 256) x = U3 x := by
 unfold PZ;rw [WU, X4 h.1 (by exact h.2), show ((x.toNat : Nat) : Int) = x by have := h.1; omega]
theorem QE {x : Int} (h : B8 x) : rd 0 (rd NZ (NS 256) 1) x = tm x 1 /\ rd 0 (rd NZ (NS 256) 2) x = tm x 2 /\ rd 0 (rd NZ (NS 256) 3) x = tm x 3 := by
 have e : ∀ j : Int, rd 0 (TU 256 256 fun i => tm (i : Int) j) x = tm x j := fun j => by rw [WU, X4 h.1 (by exact h.2), show ((x.toNat : Nat) : Int) = x by have := h.1; omega]
 exact ⟨e 1, e 2, e 3⟩
def word (key : List Int) (j : Nat) : List Int := [rd 0 key ((4 * j : Nat) : Int), rd 0 key ((4 * j + 1 : Nat) : Int), rd 0 key ((4 * j + 2 : Nat) : Int), rd 0 key ((4 * j + 3 : Nat) : Int)]
theorem aci {m : List Int} {k : Nat} (h : k + 4 <= m.length) : (m.drop k).take 4 = [rd 0 m (k : Int), rd 0 m ((k + 1 : Nat) : Int), rd 0 m ((k + 2 : Nat) : Int), rd 0 m ((k + 3 : Nat) : Int)] := by
 rw [PY (show k < m.length by omega), PY (show k + 1 < m.length by omega), PY (show k + 2 < m.length by omega), PY (show k + 3 < m.length by omega)];rw [afg (show k < m.length by omega), afg (show k + 1 < m.length by omega), afg (show k + 2 < m.length by omega), afg (show k + 3 < m.length by omega)];rfl
theorem Rj {α : Type} (m : List α) (a b : Nat) : cut m (a : Int) (b : Int) = (m.drop a).take (b - a) := by unfold cut; rw [aeS, aeS, List.drop_take]
theorem Wj {key : List Int} {j : Nat} (h : 4 * j + 4 <= key.length) : (cut key ((4 * j : Nat) : Int) ((4 * j + 4 : Nat) : Int)).take 4 = word key j := by
 rw [Rj, show 4 * j + 4 - 4 * j = 4 by omega, afS, Nat.min_self, aci h];rfl
def Words (W : List (List Int)) : Prop := ∀ w ∈ W, w.length = 4 /\ ∀ x ∈ w, B8 x
theorem Words.at {W : List (List Int)} (h : Words W) {i : Nat} (hi : i < W.length) : (rd z4 W (i : Int)).length = 4 /\ ∀ x ∈ rd z4 W (i : Int), B8 x := h _ (Oc (by omega) (by omega))
theorem Words.byte {W : List (List Int)} (h : Words W) {i : Nat} (hi : i < W.length) {j : Int} (h0 : 0 <= j) (hj : j < 4) : B8 (rd 0 (rd z4 W (i : Int)) j) := by
 have := h.at hi;exact this.2 _ (Oc h0 (by omega))
noncomputable def ZW (nk : Nat) (i : Nat) (x : Int) (t : List Int) : List Int :=
 if i % nk = 0 then [Hy .u8 (U3 (rd 0 t 1)) x, U3 (rd 0 t 2), U3 (rd 0 t 3), U3 (rd 0 t 0)]
 else if nk = 8 /\ i % 8 = 4 then [U3 (rd 0 t 0), U3 (rd 0 t 1), U3 (rd 0 t 2), U3 (rd 0 t 3)]
 else [rd 0 t 0, rd 0 t 1, rd 0 t 2, rd 0 t 3]
def YJ (t w : List Int) : List Int := [Hy .u8 (rd 0 t 0) (rd 0 w 0), Hy .u8 (rd 0 t 1) (rd 0 w 1), Hy .u8 (rd 0 t 2) (rd 0 w 2), Hy .u8 (rd 0 t 3) (rd 0 w 3)]
noncomputable def stepW (nk : Nat) (s : List (List Int) × Int) : List (List Int) × Int :=
 (s.1 ++ [YJ (ZW nk s.1.length s.2 (rd z4 s.1 ((s.1.length - 1 : Nat) : Int))) (rd z4 s.1 ((s.1.length - nk : Nat) : Int))], if s.1.length % nk = 0 then tm s.2 2 else s.2)
noncomputable def sched (nk : Nat) (key : List Int) : Nat -> List (List Int) × Int
 | 0 => ((ae1 nk).map (word key), 1)
 | k + 1 => stepW nk (sched nk key k)
theorem RX (nk : Nat) (key : List Int) : ∀ k, (sched nk key k).1.length = nk + k
 | 0 => by simp [sched]
 | k + 1 => by rw [sched, stepW, aeZ, RX nk key k]; rfl
theorem aaY (t w : List Int) : (YJ t w).length = 4 /\ ∀ x ∈ YJ t w, B8 x := by
 refine ⟨rfl, fun x hx => ?_⟩;simp only [YJ, afq, afp, or_false] at hx;rcases hx with rfl | rfl | rfl | rfl <;> exact Uj _ _
theorem Tn (nk : Nat) (key : List Int) (hk : 4 * nk <= key.length) (hb : ∀ x ∈ key, B8 x) : ∀ k, Words (sched nk key k).1 /\ B8 (sched nk key k).2
 | 0 => by
  refine ⟨fun w hw => ?_, show B8 1 from ⟨by decide, by decide⟩⟩;obtain ⟨j, hj, rfl⟩ := afC.1 hw;have hj := ae6.1 hj;refine ⟨rfl, fun x hx => ?_⟩;simp only [word, afq, afp, or_false] at hx;rcases hx with rfl | rfl | rfl | rfl <;> exact hb _ (Oc (by omega) (by omega))
 | k + 1 => by
  obtain ⟨h1, h2⟩ := Tn nk key hk hb k;refine ⟨fun w hw => ?_, ?_⟩
  ·rcases afi.1 hw with hw | hw
   ·exact h1 w hw
   ·rw [afr.1 hw]; exact aaY _ _
  ·show B8 (if _ then tm _ 2 else _);split
   ·exact aaT _ _
   ·exact h2
noncomputable def PU (key : List Int) : List (List Int) := (sched (key.length / 4) key (3 * (key.length / 4) + 28)).1
theorem Rt (key : List Int) : (PU key).length = 4 * (key.length / 4) + 28 := by unfold PU; rw [RX]; omega
theorem SY (key : List Int) (hb : ∀ x ∈ key, B8 x) : Words (PU key) := (Tn _ key (by omega) hb _).1
def Q8 (W : List (List Int)) (j : Nat) : List Int := rd z4 W ((4 * j : Nat) : Int) ++ (rd z4 W ((4 * j + 1 : Nat) : Int) ++ (rd z4 W ((4 * j + 2 : Nat) : Int) ++ rd z4 W ((4 * j + 3 : Nat) : Int)))
def OB (W : List (List Int)) : List (List Int) := (ae1 (W.length / 4)).map (Q8 W)
theorem WM {W : List (List Int)} (h : Words W) {j : Nat} (hj : 4 * j + 3 < W.length) : (Q8 W j).length = 16 := by
 unfold Q8;simp only [aeZ, (h.at (show 4 * j < W.length by omega)).1, (h.at (show 4 * j + 1 < W.length by omega)).1, (h.at (show 4 * j + 2 < W.length by omega)).1, (h.at hj).1]
noncomputable def RH (b : List Int) : List Int := tab 16 fun i => U3 (rd 0 b (((i + 4 * (i % 4)) % 16 : Nat) : Int))
def SL (b : List Int) : List Int := tab 16 fun i =>
 Hy .u8 (Hy .u8 (Hy .u8 (Hy .u8 0 (tm (rd 0 b ((i / 4 * 4 + i % 4 : Nat) : Int)) 2)) (tm (rd 0 b ((i / 4 * 4 + (i + 1) % 4 : Nat) : Int)) 3)) (tm (rd 0 b ((i / 4 * 4 + (i + 2) % 4 : Nat) : Int)) 1)) (tm (rd 0 b ((i / 4 * 4 + (i + 3) % 4 : Nat) : Int)) 1)
def Tj (b k : List Int) : List Int := tab 16 fun i => Hy .u8 (rd 0 b (i : Int)) (rd 0 k (i : Int))
noncomputable def ZI (last : Bool) (b k : List Int) : List Int := Tj (bif last then RH b else SL (RH b)) k
noncomputable def Ry (W : List (List Int)) (b : List Int) : Nat -> List Int
 | 0 => Tj b (Q8 W 0)
 | j + 1 => ZI (decide (j + 2 = W.length / 4)) (Ry W b j) (Q8 W (j + 1))
noncomputable def encS (key b : List Int) : List Int := Ry (PU key) b ((PU key).length / 4 - 1)
def Uu (b : List Int) : Prop := b.length = 16 /\ ∀ x ∈ b, B8 x
theorem VD {n : Nat} {g : Nat -> Int} (h : ∀ k, k < n -> B8 (g k)) : ∀ x ∈ tab n g, B8 x := by
 intro x hx;obtain ⟨i, hi, rfl⟩ := afC.1 hx;exact h i (ae6.1 hi)
theorem WJ (b k : List Int) : Uu (Tj b k) := ⟨Pj, VD fun _ _ => Uj _ _⟩
theorem VJ (W : List (List Int)) (b : List Int) : ∀ j, Uu (Ry W b j)
 | 0 => WJ _ _
 | _ + 1 => WJ _ _
theorem QZ (key b : List Int) : Uu (encS key b) := VJ _ _ _
theorem Uu.at {b : List Int} (h : Uu b) {i : Nat} (hi : i < 16) : B8 (rd 0 b (i : Int)) := h.2 _ (Oc (by omega) (by rw [h.1]; omega))
end Go.AM
end
section
namespace Go.AM
theorem XC {α : Type} {d : α} {a b : List α} {k : Nat} (h : k < a.length) : rd d (a ++ b) (k : Int) = rd d a (k : Int) := by unfold rd; rw [aeS, ae5, ae5, List.getElem?_append_left h]
end Go.AM
end
section
namespace Go.AM
section
variable {ok : Bool} {n dn mu sm four nk x i t t1 t2 tp tq : Int} {key b tw ta out K was kb T sb bk : List Int} {yb W rn : List (List Int)} {last : Bool}
theorem abV (i : Nat) (hi : i < 256) : MP.l0 .lim ((i : Int), t, 7, 0, ok, key, dn, mu, sm, sb, bk, yb, kL, b, tw, ()) = some (t, ok, key, dn, mu, sm, sb, bk, Uh i yb 7, b, tw, ()) := by
 have e := Oi (f := MP.l0 .lim) (fun k => ((i : Int), t, 7, (k : Int), ok, key, dn, mu, sm, sb, bk, Uh i yb k, kL, b, tw, ())) (n := 7) (fun k hk => by
  rw [MP.q0];obtain ⟨h1, h2⟩ := aa2 k hk;have hB : B8 (rd 0 kL (k : Int)) := ⟨h1, by omega⟩;have Yt : B8 (i : Int) := ⟨by omega, by omega⟩;simp only [MP.b0, MQ (show (k : Int) < 7 by omega), MW (show (0 : Int) <= k by omega) (show (k : Int) < (kL.length : Int) from show (k : Int) < 7 by omega), Qq Yt, Qk Yt hB, aeE, MW h1 (show rd 0 kL (k : Int) < 16 from h2), MW (show (0 : Int) <= i by omega) (show (i : Int) < 256 by omega), cond_true, Qp k (by omega), aeS];rfl)
 refine e.trans ?_;rw [MP.q0];simp only [MP.b0, MR (show ¬ ((7 : Nat) : Int) < 7 by decide), cond_false]
theorem Y1 : MP.l1 .lim (0, ok, key, dn, mu, sm, NZ, NZ, aeT 16 NZ, b, tw, ()) = some (ok, key, dn, mu, sm, PZ 256, TK 256, NS 256, b, tw, ()) := by
 have e := Oi (f := MP.l1 .lim) (fun k => ((k : Int), ok, key, dn, mu, sm, PZ k, TK k, NS k, b, tw, ())) (n := 256) (fun k hk => by
  rw [MP.q1];have Yt : B8 (k : Int) := ⟨by omega, by omega⟩;have hs := X9 Yt;have hm := fun sb bk => abV (ok := ok) (key := key) (dn := dn) (mu := mu) (sm := sm) (sb := sb) (bk := bk) (yb := NS k) (b := b) (tw := tw) (t := (k : Int))  k hk
  simp only [MP.b1, MQ (show (k : Int) < 256 by omega), Qq Yt, XH Yt, aeE, MW (show (0 : Int) <= k by omega) (show (k : Int) < 256 by omega), MW hs.1 hs.2, cond_true, show ((([1, 2, 3, 9, 11, 13, 14] : List Int).length : Nat) : Int) = 7 from rfl, Nj (show (7 : Int) < 9223372036854775808 by omega), hm, Qp k (by omega), X8];rw [show (PZ k).set ((k : Int)).toNat (U3 k) = PZ (k + 1) from U2 rfl];rfl)
 rw [show PZ 0 = NZ from TV, UQ, show TK 0 = NZ from rfl, show ((0 : Nat) : Int) = 0 from rfl] at e;refine e.trans ?_;rw [MP.q1];simp only [MP.b1, MR (show ¬ ((256 : Nat) : Int) < 256 by decide), cond_false]
theorem aah {q : Nat} (hk : kb.length = 4 * q) (hq : q <= 100) : MP.l2 .lim (0, nk, ok, 4, key, dn, mu, sm, sb, bk, yb, b, tw, kb, [], ()) = some (nk, ok, key, dn, mu, sm, sb, bk, yb, b, tw, (ae1 q).map (word kb), ()) := by
 have e := Oi (f := MP.l2 .lim) (fun k => (((4 * k : Nat) : Int), nk, ok, 4, key, dn, mu, sm, sb, bk, yb, b, tw, kb, (ae1 k).map (word kb), ())) (n := q) (fun k hkq => by
  rw [MP.q2];have w1 : aeF.wrap (((4 * k : Nat) : Int) + 4) = ((4 * k + 4 : Nat) : Int) := by rw [wrap64 (by omega) (by omega)]; omega
  have w2 : mn 4 ((kb.length : Int) - ((4 * k : Nat) : Int)) = 4 := by rw [Og]; omega
  have w3 : (cut kb ((4 * k : Nat) : Int) ((4 * k + 4 : Nat) : Int)).length = 4 := by rw [Rj, ae0, aeW]; omega
  have w4 : (afA 1 4 && afA 4 (cut kb ((4 * k : Nat) : Int) ((4 * k + 4 : Nat) : Int)).length) = true := by rw [w3]; rfl
  simp only [MP.b2, Nj (show (kb.length : Int) < 9223372036854775808 by omega), MQ (show ((4 * k : Nat) : Int) < (kb.length : Int) by omega), Nc (show (0 : Int) <= ((4 * k : Nat) : Int) by omega) (show ((4 * k : Nat) : Int) <= (kb.length : Int) by omega) (ae9 _), Nj (show (kb.length : Int) - ((4 * k : Nat) : Int) < 9223372036854775808 by omega), w2, w1, Nc (show (0 : Int) <= ((4 * k : Nat) : Int) by omega) (show ((4 * k : Nat) : Int) <= ((4 * k + 4 : Nat) : Int) by omega) (ae9 _), MQ (show ((4 * k + 4 : Nat) : Int) <= (kb.length : Int) by omega), aeM, w4, cond_true];rw [cond_pos (by simp; omega), Wj (by omega)];simp only [afz, afx, afG, afM];rfl)
 refine e.trans ?_;rw [MP.q2];simp only [MP.b2, Nj (show (kb.length : Int) < 9223372036854775808 by omega), MR (show ¬ ((4 * q : Nat) : Int) < (kb.length : Int) by omega), cond_true, cond_false]
theorem abW (hW : Words W) {i nk : Nat} (h1 : nk <= i) (h2 : i <= W.length) (h3 : 0 < nk) (h4 : i < 1000) (hT : T.length = 4) : MP.l3 .lim ((nk : Int), x, (i : Int), 0, ok, T, key, dn, mu, sm, sb, bk, yb, b, tw, W, ()) = some ((nk : Int), x, (i : Int), ok, YJ T (rd z4 W ((i - nk : Nat) : Int)), key, dn, mu, sm, sb, bk, yb, b, tw, W, ()) := by
 have w : aeF.wrap ((i : Int) - (nk : Int)) = ((i - nk : Nat) : Int) := by rw [wrap64 (by omega) (by omega)]; omega
 have e := O5 (f := MP.l3 .lim) (fun k T => ((nk : Int), x, (i : Int), (k : Int), ok, T, key, dn, mu, sm, sb, bk, yb, b, tw, W, ())) (fun k v => Hy .u8 v (rd 0 (rd z4 W ((i - nk : Nat) : Int)) (k : Int))) T hT (fun k hk m' hm hj => by
  rw [MP.q3];simp only [MP.b3, MQ (show (k : Int) < 4 by omega), MW (show (0 : Int) <= k by omega) (show (k : Int) < 4 by omega), w, MW (show (0 : Int) <= ((i - nk : Nat) : Int) by omega) (show ((i - nk : Nat) : Int) < (W.length : Int) by omega), cond_true, Qp k (by omega), hj k (afa _), aeS])
 refine e.trans ?_;rw [MP.q3];simp only [MP.b3, MR (show ¬ ((4 : Nat) : Int) < 4 by decide), cond_false];rfl
end
end Go.AM
end
section
namespace Go.AM
section
variable {ok : Bool} {n dn mu sm four x i t t1 t2 tp tq : Int} {key b tw ta out K was kb T sb bk : List Int} {yb W rn : List (List Int)} {last : Bool}
theorem abe (a b c d : Int) : ((((aeT 4 (0 : Int)).set 0 a).set 1 b).set 2 c).set 3 d = [a, b, c, d] := rfl
theorem aai {nk : Nat} (hn : nk = 4 \/ nk = 8) (hk : 4 * nk <= kb.length) (hb : ∀ x ∈ kb, B8 x) :
  MP.l4 .lim ((nk : Int), 1, (nk : Int), ok, key, dn, mu, sm, PZ 256, bk, yb, b, tw, (ae1 nk).map (word kb), ()) = some (ok, key, dn, mu, sm, PZ 256, bk, yb, b, tw, (sched nk kb (3 * nk + 28)).1, ()) := by
 have e := Oi (f := MP.l4 .lim) (fun k => ((nk : Int), (sched nk kb k).2, ((nk + k : Nat) : Int), ok, key, dn, mu, sm, PZ 256, bk, yb, b, tw, (sched nk kb k).1, ())) (n := 3 * nk + 28) (fun k hkq => by
  rw [MP.q4];obtain ⟨hW, hx⟩ := Tn nk kb hk hb k;have hl := RX nk kb k;have hs : sched nk kb (k + 1) = stepW nk (sched nk kb k) := rfl;rw [hs];unfold stepW;generalize hq : sched nk kb k = q at hW hx hl;obtain ⟨W, x⟩ := q;simp only at hW hx hl ⊢
  have hi0 : nk + k < 1000 := by omega
  generalize hi : nk + k = i at hl hi0;have hw := hW.at (show i - 1 < W.length by omega);have hb0 := hW.byte (show i - 1 < W.length by omega) (j := 0) (by omega) (by omega);have hb1 := hW.byte (show i - 1 < W.length by omega) (j := 1) (by omega) (by omega);have hb2 := hW.byte (show i - 1 < W.length by omega) (j := 2) (by omega) (by omega);have hb3 := hW.byte (show i - 1 < W.length by omega) (j := 3) (by omega) (by omega);have w1 : aeF.wrap (4 * aeF.wrap ((nk : Int) + 7)) = ((4 * nk + 28 : Nat) : Int) := by rw [wrap64 (n := (nk : Int) + 7) (by omega) (by omega), wrap64 (by omega) (by omega)]; omega
  have w2 : aeF.wrap ((i : Int) - 1) = ((i - 1 : Nat) : Int) := by rw [wrap64 (by omega) (by omega)]; omega
  have m1 : ((i : Int)).tmod (nk : Int) = ((i % nk : Nat) : Int) := by rw [aeY (ae3 i)]; simp
  have m2 : ((i : Int)).tmod 8 = ((i % 8 : Nat) : Int) := by rw [aeY (ae3 i)]; simp
  have Xm := fun x T hT => abW (ok := ok) (key := key) (dn := dn) (mu := mu) (sm := sm) (sb := PZ 256) (bk := bk) (yb := yb) (b := b) (tw := tw) (x := x) (T := T)  hW (i := i) (nk := nk) (by omega) (by omega) (by omega) (by omega) hT
  have cap : ∀ T : List Int, decide (W.length + ([T] : List (List Int)).length < 17592186044416) = true := fun T => MQ (by simp; omega)
  simp only [MP.b4, w1, MQ (show (i : Int) < ((4 * nk + 28 : Nat) : Int) by omega), w2, MW (show (0 : Int) <= ((i - 1 : Nat) : Int) by omega) (show ((i - 1 : Nat) : Int) < (W.length : Int) by omega), MR (show ¬ (nk : Int) = 0 by omega), m1, m2, cond_true, aeH, MW hb0.1 hb0.2, MW hb1.1 hb1.2, MW hb2.1 hb2.2, MW hb3.1 hb3.2, QG hb0, QG hb1, QG hb2, QG hb3, abe, aeK];rw [hl];unfold ZW;by_cases c1 : i % nk = 0
  ·rw [MQ (show ((i % nk : Nat) : Int) = 0 by omega), if_pos c1, if_pos c1];simp only [cond_true, Qk hx (show B8 2 from ⟨by decide, by decide⟩), aeE];rw [Xm _ _ rfl];simp only [aeE];rw [cond_pos (by simp; omega), Qp i (by omega)];rw [show i + 1 = nk + (k + 1) by omega]
  ·rw [MR (show ¬ ((i % nk : Nat) : Int) = 0 by omega), if_neg c1, if_neg c1];simp only [cond_false];by_cases c2 : nk = 8 /\ i % 8 = 4
   ·rw [MQ (show (nk : Int) = 8 by omega), MQ (show ((i % 8 : Nat) : Int) = 4 by omega), if_pos c2];simp only [aeM, cond_true];rw [Xm _ _ rfl];simp only [aeE];rw [cond_pos (by simp; omega), Qp i (by omega)];rw [show i + 1 = nk + (k + 1) by omega]
   ·have : (decide ((nk : Int) = 8) && decide (((i % 8 : Nat) : Int) = 4)) = false := by
     by_cases c3 : nk = 8
     ·rw [MR (show ¬ ((i % 8 : Nat) : Int) = 4 by omega), aeJ]
     ·rw [MR (show ¬ (nk : Int) = 8 by omega), aeL]
    rw [this, if_neg c2];simp only [cond_false];rw [Xm _ _ hw.1];simp only [aeE];rw [cond_pos (by simp; omega), Qp i (by omega), <- list4 hw.1];rw [show i + 1 = nk + (k + 1) by omega])
 refine (show _ = _ from e).trans ?_;rw [MP.q4];have w1 : aeF.wrap (4 * aeF.wrap ((nk : Int) + 7)) = ((4 * nk + 28 : Nat) : Int) := by rw [wrap64 (n := (nk : Int) + 7) (by omega) (by omega), wrap64 (by omega) (by omega)]; omega
 simp only [MP.b4, w1, MR (show ¬ ((nk + (3 * nk + 28) : Nat) : Int) < ((4 * nk + 28 : Nat) : Int) by omega), cond_false]
end
end Go.AM
end
section
namespace Go.AM
theorem VE {l : List (List Int)} {k : Nat} (h : k < l.length) : (l.take (k + 1)).flatten = (l.take k).flatten ++ rd [] l (k : Int) := by rw [TA (d := ([] : List Int)) h, afT]; simp
theorem Tz (l : List (List Int)) (k : Nat) : (l.take k).flatten.length <= l.flatten.length := by
 have : l.flatten = (l.take k).flatten ++ (l.drop k).flatten := by rw [<- afT, aff]
 rw [this, aeZ]; omega
theorem Va (l : List (List Int)) (h : l.flatten.length <= 1000000) (hl : l.length <= 1000000) : MV.run .lim (l, ()) = some l.flatten := by
 have e := Oi (f := MV.l0 .lim) (fun k => (l, (((l.take k).flatten.length : Nat) : Int), l, (l.length : Int), (k : Int), ())) (n := l.length) (fun k hk => by
  rw [MV.q0];have h1 := VE hk;have h2 := Tz l (k + 1);rw [h1, aeZ] at h2;have w : aeF.wrap ((((l.take k).flatten.length : Nat) : Int) + ((rd ([] : List Int) l (k : Int)).length : Int)) = (((l.take (k + 1)).flatten.length : Nat) : Int) := by rw [wrap64 (by omega) (by omega), h1, aeZ]; omega
  simp only [MV.b0, MQ (show (k : Int) < (l.length : Int) by omega), MW (show (0 : Int) <= k by omega) (show (k : Int) < (l.length : Int) by omega), MX (show (rd ([] : List Int) l (k : Int)).length < 9223372036854775808 by omega), w, MR (show ¬ ((((l.take (k + 1)).flatten.length : Nat) : Int) < 0) by omega), cond_true, cond_false, Qp k (by omega)])
 have e1 := fun N : Nat => fun hN : N = l.flatten.length => Oi (f := MV.l1 .lim) (fun k => ((((l.take k).flatten.length : Nat) : Int), l, (l.length : Int), (k : Int), (l.take k).flatten ++ aeT (N - (l.take k).flatten.length) 0, ())) (n := l.length) (fun k hk => by
  rw [MV.q1];have h1 := VE hk;have h2 := Tz l (k + 1);rw [h1, aeZ] at h2;simp only [MV.b1, MQ (show (k : Int) < (l.length : Int) by omega), MW (show (0 : Int) <= k by omega) (show (k : Int) < (l.length : Int) by omega), cond_true, Qp k (by omega), aeS];have hc : (decide (((l.take k).flatten ++ aeT (N - (l.take k).flatten.length) (0 : Int)).length + (rd ([] : List Int) l (k : Int)).length < 70368744177664) && decide (0 <= (((l.take k).flatten.length : Nat) : Int))) = true := by rw [aeZ, afv, MQ (by omega), MQ (by omega)]; rfl
  rw [cond_pos hc, h1, aeZ];have e3 : ((((l.take k).flatten.length : Nat) : Int) + ((rd ([] : List Int) l (k : Int)).length : Int)) = (((l.take k).flatten.length + (rd ([] : List Int) l (k : Int)).length : Nat) : Int) := by omega
  rw [e3, List.take_append_of_le_length (afa _), ae_, List.drop_append, List.drop_eq_nil_of_le (by omega), afN, List.drop_replicate, aft];have e4 : N - (l.take k).flatten.length - ((l.take k).flatten.length + (rd ([] : List Int) l (k : Int)).length - (l.take k).flatten.length) = N - ((l.take k).flatten.length + (rd ([] : List Int) l (k : Int)).length) := by omega
  rw [e4])
 rw [ae_, agd, show ((([] : List (List Int)).flatten.length : Nat) : Int) = 0 from rfl, show ((0 : Nat) : Int) = 0 from rfl] at e;have ee : MV.l0 .lim (l, ((l.flatten.length : Nat) : Int), l, (l.length : Int), (l.length : Int), ()) = some (l, ((l.flatten.length : Nat) : Int), ()) := by
  rw [MV.q0];simp only [MV.b0, MR (show ¬ (l.length : Int) < (l.length : Int) by omega), cond_false]
 have ee1 : ∀ m, MV.l1 .lim (((l.flatten.length : Nat) : Int), l, (l.length : Int), (l.length : Int), m, ()) = some (((l.flatten.length : Nat) : Int), m, ()) := fun m => by
  rw [MV.q1];simp only [MV.b1, MR (show ¬ (l.length : Int) < (l.length : Int) by omega), cond_false]
 have e2 : MV.l1 .lim (0, l, (l.length : Int), 0, aeT l.flatten.length 0, ()) = some (((l.flatten.length : Nat) : Int), l.flatten, ()) := by
  have := e1 _ rfl;rw [ae_, agd, agk, afU, List.append_nil] at this;exact this.trans (ee1 _)
 simp only [MV.run, MX (show l.length < 9223372036854775808 by omega), cond_true, e, ee, aeE, agh, MR (show ¬ ((l.flatten.length : Nat) : Int) < 0 by omega), cond_false, wrap64 (show -9223372036854775808 <= ((l.flatten.length : Nat) : Int) by omega) (show ((l.flatten.length : Nat) : Int) < 9223372036854775808 by omega), aeS];by_cases h0 : l.flatten.length = 0
 ·rw [MR (show ¬ ((l.flatten.length : Nat) : Int) > 0 by omega)];rw [h0, afU] at e2;simp only [cond_false];rw [e2];simp [afk.1 h0]
 ·rw [MQ (show ((l.flatten.length : Nat) : Int) > 0 by omega)];have hb : Nat.blt l.flatten.length 70368744177664 = true := by rw [Nat.blt_eq]; omega
  simp only [cond_true, MQ (show (0 : Int) <= ((l.flatten.length : Nat) : Int) by omega), hb, aeM, e2, aeE, afb, aeS, ae_];rw [cond_pos (Nc (ae9 0) (ae9 0) (ae3 _))]
end Go.AM
end
section
namespace Go.AM
section
variable {ok : Bool} {n dn mu sm four x i t t1 t2 tp tq : Int} {key b tw ta out K was kb T sb bk : List Int} {yb W rn : List (List Int)} {last : Bool}
theorem Y0 {q : Nat} (hW : Words W) (hl : W.length = 4 * q) (hq : q <= 100) : MP.l5 .lim (0, ok, 4, key, dn, mu, sm, sb, bk, yb, b, tw, W, [], ()) = some (ok, key, dn, mu, sm, sb, bk, yb, b, tw, OB W, ()) := by
 have e := Oi (f := MP.l5 .lim) (fun k => (((4 * k : Nat) : Int), ok, 4, key, dn, mu, sm, sb, bk, yb, b, tw, W, (ae1 k).map (Q8 W), ())) (n := q) (fun k hkq => by
  rw [MP.q5];have w1 : aeF.wrap (((4 * k : Nat) : Int) + 4) = ((4 * k + 4 : Nat) : Int) := by rw [wrap64 (by omega) (by omega)]; omega
  have w2 : mn 4 ((W.length : Int) - ((4 * k : Nat) : Int)) = 4 := by rw [Og]; omega
  have w3 : (cut W ((4 * k : Nat) : Int) ((4 * k + 4 : Nat) : Int)).length = 4 := by rw [Rj, ae0, aeW]; omega
  have at_ : ∀ j : Nat, j < 4 -> rd z4 (cut W ((4 * k : Nat) : Int) ((4 * k + 4 : Nat) : Int)) (j : Int) = rd z4 W ((4 * k + j : Nat) : Int) := fun j hj => by
   rw [Rj];unfold rd;rw [aeS, aeS, ae5, ae5, afE (by omega), afV]
  have a0 : rd z4 (cut W ((4 * k : Nat) : Int) ((4 * k + 4 : Nat) : Int)) 0 = rd z4 W ((4 * k : Nat) : Int) := at_ 0 (by omega);have a1 : rd z4 (cut W ((4 * k : Nat) : Int) ((4 * k + 4 : Nat) : Int)) 1 = rd z4 W ((4 * k + 1 : Nat) : Int) := at_ 1 (by omega);have a2 : rd z4 (cut W ((4 * k : Nat) : Int) ((4 * k + 4 : Nat) : Int)) 2 = rd z4 W ((4 * k + 2 : Nat) : Int) := at_ 2 (by omega);have a3 : rd z4 (cut W ((4 * k : Nat) : Int) ((4 * k + 4 : Nat) : Int)) 3 = rd z4 W ((4 * k + 3 : Nat) : Int) := at_ 3 (by omega);have c4 : ∀ l : List Int, l.length = 4 -> cut l 0 4 = l := fun l hl => by
   have := Rj l 0 4;rw [show ((0 : Nat) : Int) = 0 from rfl, show ((4 : Nat) : Int) = 4 from rfl] at this;rw [this, afb, ae2 (by omega)]
  have l0 := (hW.at (show 4 * k < W.length by omega)).1;have l1 := (hW.at (show 4 * k + 1 < W.length by omega)).1;have l2 := (hW.at (show 4 * k + 2 < W.length by omega)).1;have l3 := (hW.at (show 4 * k + 3 < W.length by omega)).1;have hfl : [rd z4 W ((4 * k : Nat) : Int), rd z4 W ((4 * k + 1 : Nat) : Int), rd z4 W ((4 * k + 2 : Nat) : Int), rd z4 W ((4 * k + 3 : Nat) : Int)].flatten = Q8 W k := by simp [Q8]
  have hrl := WM hW (j := k) (by omega);have oh := Va [rd z4 W ((4 * k : Nat) : Int), rd z4 W ((4 * k + 1 : Nat) : Int), rd z4 W ((4 * k + 2 : Nat) : Int), rd z4 W ((4 * k + 3 : Nat) : Int)] (by rw [hfl, hrl]; omega) (by simp);rw [hfl] at oh;simp only [MP.b5, Nj (show (W.length : Int) < 9223372036854775808 by omega), MQ (show ((4 * k : Nat) : Int) < (W.length : Int) by omega), Nc (show (0 : Int) <= ((4 * k : Nat) : Int) by omega) (show ((4 * k : Nat) : Int) <= (W.length : Int) by omega) (ae9 _), Nj (show (W.length : Int) - ((4 * k : Nat) : Int) < 9223372036854775808 by omega), w2, w1, Nc (show (0 : Int) <= ((4 * k : Nat) : Int) by omega) (show ((4 * k : Nat) : Int) <= ((4 * k + 4 : Nat) : Int) by omega) (ae9 _), MQ (show ((4 * k + 4 : Nat) : Int) <= (W.length : Int) by omega), aeM, w3, cond_true, MW (show (0 : Int) <= 0 by omega) (show (0 : Int) < ((4 : Nat) : Int) by decide), MW (show (0 : Int) <= 1 by omega) (show (1 : Int) < ((4 : Nat) : Int) by decide), MW (show (0 : Int) <= 2 by omega) (show (2 : Int) < ((4 : Nat) : Int) by decide), MW (show (0 : Int) <= 3 by omega) (show (3 : Int) < ((4 : Nat) : Int) by decide), a0, a1, a2, a3, c4 _ l0, c4 _ l1, c4 _ l2, c4 _ l3, oh, aeE, hrl, ae2 (agj hrl)];rw [show (afA 1 16 && afA 16 16) = true from rfl, cond_true, cond_pos (by simp; omega)];simp only [afz, afx, afG, afM];rfl)
 refine (show _ = _ from e).trans ?_;rw [MP.q5];simp only [MP.b5, Nj (show (W.length : Int) < 9223372036854775808 by omega), MR (show ¬ ((4 * q : Nat) : Int) < (W.length : Int) by omega), cond_true, cond_false];unfold OB;rw [hl, afH _ (by omega)]
theorem aaf (hk : key.length = 16 \/ key.length = 32) (hb : ∀ x ∈ key, B8 x) : MP.l6 .lim (key, 0, 0, sm, NZ, NZ, aeT 16 NZ, b, tw, ()) = some (b, tw, key, 1, 0, sm, PZ 256, TK 256, NS 256, OB (PU key), ()) := by
 have h0 : MP.l6 .lim (key, 0, 0, sm, NZ, NZ, aeT 16 NZ, b, tw, ()) = MP.b6 .lim (MP.l6 .lim) (key, 0, 0, sm, NZ, NZ, aeT 16 NZ, b, tw, ()) := MP.q6 _;rw [h0];have hd : (key.length : Int).tdiv 4 = ((key.length / 4 : Nat) : Int) := by rw [ae7 (ae3 _)]; simp
 have w1 : aeF.wrap ((key.length : Int).tdiv 4) = ((key.length / 4 : Nat) : Int) := by rw [hd, wrap64 (by omega) (by omega)]
 have t := Y1 (ok := true) (key := key) (dn := 0) (mu := 1) (sm := sm) (b := b) (tw := tw);have s := aah (kb := key) (q := key.length / 4) (nk := ((key.length / 4 : Nat) : Int)) (ok := true) (key := key) (dn := 0) (mu := 1) (sm := sm) (sb := PZ 256) (bk := TK 256) (yb := NS 256) (b := b) (tw := tw)  (by omega) (by omega);have w := aai (kb := key) (nk := key.length / 4) (ok := true) (key := key) (dn := 0) (mu := 1) (sm := sm) (bk := TK 256) (yb := NS 256) (b := b) (tw := tw)  (by omega) (by omega) hb;have r := Y0 (W := PU key) (q := key.length / 4 + 7) (ok := true) (key := key) (dn := 0) (mu := 1) (sm := sm) (sb := PZ 256) (bk := TK 256) (yb := NS 256) (b := b) (tw := tw)  (SY key hb) (by rw [Rt]; omega) (by omega);have hs : OJ.run .lim (true, ()) = some 1 := rfl;have hw : (sched (key.length / 4) key (3 * (key.length / 4) + 28)).1 = PU key := rfl;simp only [MP.b6, decide_true, aeG, aeH, cond_true, t, aeE, Nj (show (key.length : Int) < 9223372036854775808 by omega), w1];rw [s];simp only [aeE];rw [w];simp only [aeE];rw [hw, r];simp only [aeE, hs, show agl.wrap (1 + -1) = 0 from by decide, decide_true, aeG, cond_false]
end
end Go.AM
end
section
namespace Go.AM
section
variable {ok : Bool} {n dn mu sm four x i t t1 t2 tp tq : Int} {key b tw ta out K was kb T sb bk : List Int} {yb W rn : List (List Int)} {last : Bool}
theorem aae (hb : b.length = 16) : MP.l7 .lim (0, b, K, tw, key, dn, mu, sm, sb, bk, yb, rn, ()) = some (Tj b K, tw, key, dn, mu, sm, sb, bk, yb, rn, ()) := by
 have e := O5 (f := MP.l7 .lim) (fun k b => ((k : Int), b, K, tw, key, dn, mu, sm, sb, bk, yb, rn, ())) (fun k v => Hy .u8 v (rd 0 K (k : Int))) b hb (fun k hk m' hm hj => by
  rw [MP.q7];simp only [MP.b7, MQ (show (k : Int) < 16 by omega), MW (show (0 : Int) <= k by omega) (show (k : Int) < 16 by omega), cond_true, Qp k (by omega), hj k (afa _), aeS])
 refine (show _ = _ from e).trans ?_;rw [MP.q7];simp only [MP.b7, MR (show ¬ ((16 : Nat) : Int) < 16 by decide), cond_false];rfl
theorem YX (hb : Uu b) : MP.l8 .lim (0, last, tp, tq, t1, t2, b, key, dn, mu, sm, PZ 256, bk, yb, K, rn, tw, ()) = some (last, tp, tq, t1, t2, tab 16 fun i => U3 (rd 0 b (i : Int)), K, rn, tw, key, dn, mu, sm, PZ 256, bk, yb, ()) := by
 have e := O5 (f := MP.l8 .lim) (fun k b => ((k : Int), last, tp, tq, t1, t2, b, key, dn, mu, sm, PZ 256, bk, yb, K, rn, tw, ())) (fun k v => U3 v) b hb.1 (fun k hk m' hm hj => by
  rw [MP.q8];have h := hb.at hk;simp only [MP.b8, MQ (show (k : Int) < 16 by omega), MW (show (0 : Int) <= k by omega) (show (k : Int) < 16 by omega), cond_true, Qp k (by omega), hj k (afa _), MW h.1 h.2, QG h, aeS])
 refine (show _ = _ from e).trans ?_;rw [MP.q8];simp only [MP.b8, MR (show ¬ ((16 : Nat) : Int) < 16 by decide), cond_false]
theorem abg (hb : b.length = 16) : MP.l9 .lim (4, 0, last, tp, tq, t1, t2, b, was, K, rn, tw, key, dn, mu, sm, sb, bk, yb, ()) = some (last, tp, tq, t1, t2, tab 16 fun i => rd 0 was (((i + 4 * (i % 4)) % 16 : Nat) : Int), K, rn, tw, key, dn, mu, sm, sb, bk, yb, ()) := by
 have e := O5 (f := MP.l9 .lim) (fun k b => (4, (k : Int), last, tp, tq, t1, t2, b, was, K, rn, tw, key, dn, mu, sm, sb, bk, yb, ())) (fun k v => rd 0 was (((k + 4 * (k % 4)) % 16 : Nat) : Int)) b hb (fun k hk m' hm hj => by
  rw [MP.q9];have m1 : ((k : Int)).tmod 4 = ((k % 4 : Nat) : Int) := by rw [aeY (ae3 k)]; simp
  have w1 : aeF.wrap (4 * (k : Int).tmod 4) = ((4 * (k % 4) : Nat) : Int) := by rw [m1, wrap64 (by omega) (by omega)]; omega
  have w2 : aeF.wrap ((k : Int) + ((4 * (k % 4) : Nat) : Int)) = ((k + 4 * (k % 4) : Nat) : Int) := by rw [wrap64 (by omega) (by omega)]; omega
  have w3 : aeF.wrap (((k + 4 * (k % 4) : Nat) : Int) + 64) = ((k + 4 * (k % 4) + 64 : Nat) : Int) := by rw [wrap64 (by omega) (by omega)]; omega
  have m2 : (((k + 4 * (k % 4) + 64 : Nat) : Int)).tmod 16 = (((k + 4 * (k % 4)) % 16 : Nat) : Int) := by rw [aeY (ae3 _)]; omega
  simp only [MP.b9, MQ (show (k : Int) < 16 by omega), MW (show (0 : Int) <= k by omega) (show (k : Int) < 16 by omega), cond_true, Qp k (by omega), w1, w2, w3, m2, MW (show (0 : Int) <= (((k + 4 * (k % 4)) % 16 : Nat) : Int) by omega) (show (((k + 4 * (k % 4)) % 16 : Nat) : Int) < 16 by omega), aeS])
 refine (show _ = _ from e).trans ?_;rw [MP.q9];simp only [MP.b9, MR (show ¬ ((16 : Nat) : Int) < 16 by decide), cond_false]
abbrev Qr : List Int := [2, 3, 1, 1]
theorem abd (hw : Uu was) {i : Nat} (hi : i < 16) (hb : b.length = 16) (h0 : rd 0 b (i : Int) = 0) : MP.l10 .lim ((i : Int), t, Qr, 0, tp, tq, t1, t2, key, dn, mu, sm, sb, bk, NS 256, b, Qr, was, K, rn, tw, ()) = some (t, tp, tq, t1, t2, key, dn, mu, sm, sb, bk, NS 256, b.set i (rd 0 (SL was) (i : Int)), Qr, was, K, rn, tw, ()) := by
 have h4 : ∀ j : Nat, j < 4 -> aeF.wrap (aeF.wrap (aeF.wrap ((i : Int).tdiv 4) * 4) + (aeF.wrap ((i : Int) + (j : Int))).tmod 4) = ((i / 4 * 4 + (i + j) % 4 : Nat) : Int) := by
  intro j hj;have d1 : ((i : Int)).tdiv 4 = ((i / 4 : Nat) : Int) := by rw [ae7 (ae3 i)]; simp
  have d2 : aeF.wrap ((i : Int) + (j : Int)) = ((i + j : Nat) : Int) := by rw [wrap64 (by omega) (by omega)]; omega
  have d3 : (((i + j : Nat) : Int)).tmod 4 = (((i + j) % 4 : Nat) : Int) := by rw [aeY (ae3 _)]; simp
  rw [d1, d2, d3, wrap64 (n := ((i / 4 : Nat) : Int)) (by omega) (by omega), wrap64 (n := ((i / 4 : Nat) : Int) * 4) (by omega) (by omega), wrap64 (by omega) (by omega)]; omega
 have hB : ∀ j : Nat, j < 4 -> B8 (rd 0 was ((i / 4 * 4 + (i + j) % 4 : Nat) : Int)) := fun j hj => hw.at (by omega)
 have g0 := h4 0 (by omega); have g1 := h4 1 (by omega); have g2 := h4 2 (by omega); have g3 := h4 3 (by omega);have b0 := hB 0 (by omega); have b1 := hB 1 (by omega); have b2 := hB 2 (by omega); have b3 := hB 3 (by omega);rw [show ((0 : Nat) : Int) = 0 from rfl] at g0;rw [show ((1 : Nat) : Int) = 1 from rfl] at g1;rw [show ((2 : Nat) : Int) = 2 from rfl] at g2;rw [show ((3 : Nat) : Int) = 3 from rfl] at g3;have r0 := (QE b0).2.1; have r1 := (QE b1).2.2; have r2 := (QE b2).1; have r3 := (QE b3).1;have step : ∀ (c : Int) (j j' : Int) (q : Nat) (v : Int) (bb : List Int), bb.length = 16 -> 0 <= j -> j < 4 -> rd 0 Qr j = c -> 0 <= c -> c < 16 -> aeF.wrap (j + 1) = j' -> aeF.wrap (aeF.wrap (aeF.wrap ((i : Int).tdiv 4) * 4) + (aeF.wrap ((i : Int) + j)).tmod 4) = (q : Int) -> q < 16 -> rd 0 (rd NZ (NS 256) c) (rd 0 was (q : Int)) = v -> B8 (rd 0 was (q : Int)) ->
   MP.l10 .lim ((i : Int), t, Qr, j, tp, tq, t1, t2, key, dn, mu, sm, sb, bk, NS 256, bb, Qr, was, K, rn, tw, ()) = MP.l10 .lim ((i : Int), t, Qr, j', tp, tq, t1, t2, key, dn, mu, sm, sb, bk, NS 256, bb.set i (Hy .u8 (rd 0 bb (i : Int)) v), Qr, was, K, rn, tw, ()) := by
  intro c j j' q v bb hbb h1 h2 h3 h4 h5 h6 h7 h8 h9 h10;rw [MP.q10];simp only [MP.b10, MQ h2, MW h1 h2, h3, MW h4 h5, h7, MW (show (0 : Int) <= i by omega) (show (i : Int) < 16 by omega), MW (show (0 : Int) <= (q : Int) by omega) (show (q : Int) < 16 by omega), MW h10.1 h10.2, h9, h6, cond_true, aeS]
 rw [step 2 0 1 _ _ b hb (by omega) (by omega) rfl (by omega) (by omega) rfl g0 (by omega) r0 b0];rw [step 3 1 2 _ _ _ (by simp [hb]) (by omega) (by omega) rfl (by omega) (by omega) rfl g1 (by omega) r1 b1];rw [step 1 2 3 _ _ _ (by simp [hb]) (by omega) (by omega) rfl (by omega) (by omega) rfl g2 (by omega) r2 b2];rw [step 1 3 4 _ _ _ (by simp [hb]) (by omega) (by omega) rfl (by omega) (by omega) rfl g3 (by omega) r3 b3];rw [MP.q10];simp only [MP.b10, MR (show ¬ (4 : Int) < 4 by omega), cond_false];have hl : ∀ v, i < (b.set i v).length := fun v => by simp [hb]; omega
 simp only [TR (show i < b.length by omega), TR (hl _), afO, h0];unfold SL;rw [QH hi];simp only [agi]
theorem abU (hw : Uu was) (hb : b.length = 16) : MP.Zm .lim (0, tp, tq, t1, t2, key, dn, mu, sm, sb, bk, NS 256, b, Qr, was, K, rn, tw, ()) = some (tp, tq, t1, t2, SL was, K, rn, tw, key, dn, mu, sm, sb, bk, NS 256, ()) := by
 have e := O5 (f := MP.Zm .lim) (fun k b => ((k : Int), tp, tq, t1, t2, key, dn, mu, sm, sb, bk, NS 256, b, Qr, was, K, rn, tw, ())) (fun k v => rd 0 (SL was) (k : Int)) b hb (fun k hk m' hm hj => by
  rw [MP.q11];have hm := fun h0 => abd (tp := tp) (tq := tq) (t1 := t1) (t2 := t2) (key := key) (dn := dn) (mu := mu) (sm := sm) (sb := sb) (bk := bk) (K := K) (rn := rn) (tw := tw) (t := (k : Int))  hw (b := m'.set k 0) hk (by simp [hm]) h0
  simp only [MP.b11, MQ (show (k : Int) < 16 by omega), MW (show (0 : Int) <= k by omega) (show (k : Int) < 16 by omega), cond_true, aeS];rw [hm (TR (by omega))];simp only [aeE, Qp k (by omega), afO])
 refine (show _ = _ from e).trans ?_;rw [MP.q11];simp only [MP.b11, MR (show ¬ ((16 : Nat) : Int) < 16 by decide), cond_false];have : (tab 16 fun i => rd 0 (SL was) (i : Int)) = SL was := (V3 Pj).symm;rw [this]
theorem YZ (hb : b.length = 16) : MP.l12 .lim (0, tp, tq, t1, t2, b, K, rn, tw, key, dn, mu, sm, sb, bk, yb, ()) = some (tp, tq, t1, t2, rn, Tj b K, tw, key, dn, mu, sm, sb, bk, yb, ()) := by
 have e := O5 (f := MP.l12 .lim) (fun k b => ((k : Int), tp, tq, t1, t2, b, K, rn, tw, key, dn, mu, sm, sb, bk, yb, ())) (fun k v => Hy .u8 v (rd 0 K (k : Int))) b hb (fun k hk m' hm hj => by
  rw [MP.q12];simp only [MP.b12, MQ (show (k : Int) < 16 by omega), MW (show (0 : Int) <= k by omega) (show (k : Int) < 16 by omega), cond_true, Qp k (by omega), hj k (afa _), aeS])
 refine (show _ = _ from e).trans ?_;rw [MP.q12];simp only [MP.b12, MR (show ¬ ((16 : Nat) : Int) < 16 by decide), cond_false];rfl
theorem aag (b : List Int) : (tab 16 fun i => rd 0 (tab 16 fun i => U3 (rd 0 b (i : Int))) (((i + 4 * (i % 4)) % 16 : Nat) : Int)) = RH b := O_ fun k hk => by rw [QH (by omega)]
theorem Xe (hb : Uu b) : Uu (RH b) := ⟨Pj, VD fun k hk => X9 (hb.at (by omega))⟩
theorem abT {r : Nat} (hW : Words W) (hl : W.length = 4 * (r + 1)) (hr : r <= 100) (hr0 : 0 < r) (hb : b.length = 16) :
  MP.Xo .lim (1, ((r : Nat) : Int), ((r : Nat) : Int), 0, OB W, Ry W b 0, tw, key, dn, mu, sm, PZ 256, bk, NS 256, ()) = some (Ry W b r, tw, key, dn, mu, sm, PZ 256, bk, NS 256, OB W, ()) := by
 have hn : (OB W).length = r + 1 := by unfold OB; simp; omega
 have e := Oi (f := MP.Xo .lim) (fun k => (1, (r : Int), (r : Int), (k : Int), OB W, Ry W b k, tw, key, dn, mu, sm, PZ 256, bk, NS 256, ())) (n := r) (fun k hk => by
  rw [MP.q13];have hB := VJ W b k;have hK : rd VG (OB W) (1 + (k : Int)) = Q8 W (k + 1) := by
   rw [show (1 + (k : Int)) = ((k + 1 : Nat) : Int) by omega, PY (by omega)];unfold OB; simp
  have w1 : aeF.wrap (((OB W).length : Int) - 2) = (r : Int) - 1 := by rw [wrap64 (by omega) (by omega)]; omega
  have hlast : decide ((k : Int) = (r : Int) - 1) = decide (k + 2 = W.length / 4) := by
   by_cases h : k + 1 = r
   ·rw [MQ (by omega), MQ (by omega)]
   ·rw [MR (by omega), MR (by omega)]
  simp only [MP.b13, MQ (show (k : Int) < (r : Int) by omega), MW (show (0 : Int) <= k by omega) (show (k : Int) < (r : Int) by omega), Nj (show ((OB W).length : Int) < 9223372036854775808 by omega), cond_true, hK, w1, hlast, YX hB, aeE];rw [abg Pj];simp only [aeE, aag];have hs := Xe hB;have hc : ((((aeT 4 (0 : Int)).set 0 2).set 1 3).set 2 1).set 3 1 = Qr := rfl;show _ = MP.Xo .lim (1, (r : Int), (r : Int), ((k + 1 : Nat) : Int), OB W, ZI (decide (k + 2 = W.length / 4)) (Ry W b k) (Q8 W (k + 1)), tw, key, dn, mu, sm, PZ 256, bk, NS 256, ());unfold ZI;cases decide (k + 2 = W.length / 4) with
  | true =>
   simp only [aeG, cond_false, cond_true];rw [YZ hs.1];simp only [aeE, Qp k (by omega)]
  | false =>
   simp only [aeH, cond_false, cond_true, hc];rw [abU hs hs.1];simp only [aeE];have hml : (SL (RH (Ry W b k))).length = 16 := Pj;rw [YZ hml];simp only [aeE, Qp k (by omega)])
 refine (show _ = _ from e).trans ?_;rw [MP.q13];simp only [MP.b13, MR (show ¬ (r : Int) < (r : Int) by omega), cond_false]
end
end Go.AM
end
section
namespace Go.AM
section
variable {ok : Bool} {n dn mu sm four x i t t1 t2 tp tq : Int} {key b tw ta out K was kb T sb bk : List Int} {yb W rn : List (List Int)} {last : Bool}
theorem abf {r : Nat} (hW : Words W) (hl : W.length = 4 * (r + 1)) (hr : r <= 100) (hr0 : 0 < r) (hb : b.length = 16) {β : Type} {Q : _ -> Option β} :
  (bif inB 0 ((OB W).length : Int) then
   ((MP.l7 .lim (0, b, rd VG (OB W) 0, tw, key, dn, mu, sm, PZ 256, bk, NS 256, OB W, ())).bind fun (b, tw, key, dn, mu, sm, sb, bk, yb, rn, ()) =>
    bif sK 1 (rn.length : Int) (rn.length : Int) then bif vT ((rn.length : Int) - 1) then (MP.Xo .lim (1, ((rn.length : Int) - 1), ((rn.length : Int) - 1), 0, rn, b, tw, key, dn, mu, sm, sb, bk, yb, ())).bind Q else none else none) else none) = Q (Ry W b r, tw, key, dn, mu, sm, PZ 256, bk, NS 256, OB W, ()) := by
 have hn : (OB W).length = r + 1 := by unfold OB; simp; omega
 have h0 : rd VG (OB W) 0 = Q8 W 0 := by
  have := PY (d := VG) (show 0 < (OB W).length by omega);rw [show ((0 : Nat) : Int) = 0 from rfl] at this;rw [this]; unfold OB; simp
 rw [cond_pos (MW (by omega) (by omega)), h0, aae hb];simp only [aeE];rw [cond_pos (Nc (by omega) (by omega) (by omega)), cond_pos (Nj (by omega)), show ((OB W).length : Int) - 1 = (r : Int) by omega];have := abT (tw := tw) (key := key) (dn := dn) (mu := mu) (sm := sm) (bk := bk)  hW hl hr hr0 hb;rw [show Ry W b 0 = Tj b (Q8 W 0) from rfl] at this;rw [this];rfl
theorem aad (hk : key.length = 16 \/ key.length = 32) (hkb : ∀ x ∈ key, B8 x) (hb : b.length = 16) :
  MP.WB .lim (b, key, 0, 0, sm, NZ, NZ, aeT 16 NZ, ()) = some (encS key b, ()) := by
 have h0 : MP.WB .lim (b, key, 0, 0, sm, NZ, NZ, aeT 16 NZ, ()) = MP.b14 .lim (MP.WB .lim) (b, key, 0, 0, sm, NZ, NZ, aeT 16 NZ, ()) := MP.q14 _;rw [h0];have hr := aaf (sm := sm) (key := key) (b := b) (tw := VG)  hk hkb;have hW := SY key hkb;have hl : (PU key).length = 4 * ((key.length / 4 + 6) + 1) := by rw [Rt]; omega
 have hq : (PU key).length / 4 - 1 = key.length / 4 + 6 := by omega
 unfold MP.b14;simp only [hr, aeE];refine (abf (Q := fun (b, tw, key, dn, mu, sm, sb, bk, yb, rn, ()) => some (b, ())) hW hl (by omega) (by omega) hb).trans ?_;unfold encS;rw [hq]
end
end Go.AM
end
section
namespace Go.AM
section
variable {ok : Bool} {n dn mu sm four nk x i t t1 t2 tp tq : Int} {key b tw ta out K was kb T sb bk : List Int} {yb W rn : List (List Int)} {last : Bool}
theorem abZ (i : Nat) (hi : i < 256) : MO.l0 .lim ((i : Int), t, 7, 0, ok, n, key, dn, mu, sm, sb, bk, yb, kL, b, tw, ta, out, rn, ()) = some (t, ok, n, key, dn, mu, sm, sb, bk, Uh i yb 7, b, tw, ta, out, rn, ()) := by
 have e := Oi (f := MO.l0 .lim) (fun k => ((i : Int), t, 7, (k : Int), ok, n, key, dn, mu, sm, sb, bk, Uh i yb k, kL, b, tw, ta, out, rn, ())) (n := 7) (fun k hk => by
  rw [MO.q0];obtain ⟨h1, h2⟩ := aa2 k hk;have hB : B8 (rd 0 kL (k : Int)) := ⟨h1, by omega⟩;have Yt : B8 (i : Int) := ⟨by omega, by omega⟩;simp only [MO.b0, MQ (show (k : Int) < 7 by omega), MW (show (0 : Int) <= k by omega) (show (k : Int) < (kL.length : Int) from show (k : Int) < 7 by omega), Qq Yt, Qk Yt hB, aeE, MW h1 (show rd 0 kL (k : Int) < 16 from h2), MW (show (0 : Int) <= i by omega) (show (i : Int) < 256 by omega), cond_true, Qp k (by omega), aeS];rfl)
 refine e.trans ?_;rw [MO.q0];simp only [MO.b0, MR (show ¬ ((7 : Nat) : Int) < 7 by decide), cond_false]
theorem Y5 : MO.l1 .lim (0, ok, n, key, dn, mu, sm, NZ, NZ, aeT 16 NZ, b, tw, ta, out, rn, ()) = some (ok, n, key, dn, mu, sm, PZ 256, TK 256, NS 256, b, tw, ta, out, rn, ()) := by
 have e := Oi (f := MO.l1 .lim) (fun k => ((k : Int), ok, n, key, dn, mu, sm, PZ k, TK k, NS k, b, tw, ta, out, rn, ())) (n := 256) (fun k hk => by
  rw [MO.q1];have Yt : B8 (k : Int) := ⟨by omega, by omega⟩;have hs := X9 Yt;have hm := fun sb bk => abZ (ok := ok) (key := key) (dn := dn) (mu := mu) (sm := sm) (sb := sb) (bk := bk) (yb := NS k) (b := b) (tw := tw) (t := (k : Int)) (n := n) (ta := ta) (out := out) (rn := rn) k hk
  simp only [MO.b1, MQ (show (k : Int) < 256 by omega), Qq Yt, XH Yt, aeE, MW (show (0 : Int) <= k by omega) (show (k : Int) < 256 by omega), MW hs.1 hs.2, cond_true, show ((([1, 2, 3, 9, 11, 13, 14] : List Int).length : Nat) : Int) = 7 from rfl, Nj (show (7 : Int) < 9223372036854775808 by omega), hm, Qp k (by omega), X8];rw [show (PZ k).set ((k : Int)).toNat (U3 k) = PZ (k + 1) from U2 rfl];rfl)
 rw [show PZ 0 = NZ from TV, UQ, show TK 0 = NZ from rfl, show ((0 : Nat) : Int) = 0 from rfl] at e;refine e.trans ?_;rw [MO.q1];simp only [MO.b1, MR (show ¬ ((256 : Nat) : Int) < 256 by decide), cond_false]
theorem aao {q : Nat} (hk : kb.length = 4 * q) (hq : q <= 100) : MO.l2 .lim (0, nk, ok, n, 4, key, dn, mu, sm, sb, bk, yb, b, tw, ta, out, kb, [], rn, ()) = some (nk, ok, n, key, dn, mu, sm, sb, bk, yb, b, tw, ta, out, (ae1 q).map (word kb), rn, ()) := by
 have e := Oi (f := MO.l2 .lim) (fun k => (((4 * k : Nat) : Int), nk, ok, n, 4, key, dn, mu, sm, sb, bk, yb, b, tw, ta, out, kb, (ae1 k).map (word kb), rn, ())) (n := q) (fun k hkq => by
  rw [MO.q2];have w1 : aeF.wrap (((4 * k : Nat) : Int) + 4) = ((4 * k + 4 : Nat) : Int) := by rw [wrap64 (by omega) (by omega)]; omega
  have w2 : mn 4 ((kb.length : Int) - ((4 * k : Nat) : Int)) = 4 := by rw [Og]; omega
  have w3 : (cut kb ((4 * k : Nat) : Int) ((4 * k + 4 : Nat) : Int)).length = 4 := by rw [Rj, ae0, aeW]; omega
  have w4 : (afA 1 4 && afA 4 (cut kb ((4 * k : Nat) : Int) ((4 * k + 4 : Nat) : Int)).length) = true := by rw [w3]; rfl
  simp only [MO.b2, Nj (show (kb.length : Int) < 9223372036854775808 by omega), MQ (show ((4 * k : Nat) : Int) < (kb.length : Int) by omega), Nc (show (0 : Int) <= ((4 * k : Nat) : Int) by omega) (show ((4 * k : Nat) : Int) <= (kb.length : Int) by omega) (ae9 _), Nj (show (kb.length : Int) - ((4 * k : Nat) : Int) < 9223372036854775808 by omega), w2, w1, Nc (show (0 : Int) <= ((4 * k : Nat) : Int) by omega) (show ((4 * k : Nat) : Int) <= ((4 * k + 4 : Nat) : Int) by omega) (ae9 _), MQ (show ((4 * k + 4 : Nat) : Int) <= (kb.length : Int) by omega), aeM, w4, cond_true];rw [cond_pos (by simp; omega), Wj (by omega)];simp only [afz, afx, afG, afM];rfl)
 refine e.trans ?_;rw [MO.q2];simp only [MO.b2, Nj (show (kb.length : Int) < 9223372036854775808 by omega), MR (show ¬ ((4 * q : Nat) : Int) < (kb.length : Int) by omega), cond_true, cond_false]
theorem ab1 (hW : Words W) {i nk : Nat} (h1 : nk <= i) (h2 : i <= W.length) (h3 : 0 < nk) (h4 : i < 1000) (hT : T.length = 4) : MO.l3 .lim ((nk : Int), x, (i : Int), 0, ok, n, T, key, dn, mu, sm, sb, bk, yb, b, tw, ta, out, W, rn, ()) = some ((nk : Int), x, (i : Int), ok, n, YJ T (rd z4 W ((i - nk : Nat) : Int)), key, dn, mu, sm, sb, bk, yb, b, tw, ta, out, W, rn, ()) := by
 have w : aeF.wrap ((i : Int) - (nk : Int)) = ((i - nk : Nat) : Int) := by rw [wrap64 (by omega) (by omega)]; omega
 have e := O5 (f := MO.l3 .lim) (fun k T => ((nk : Int), x, (i : Int), (k : Int), ok, n, T, key, dn, mu, sm, sb, bk, yb, b, tw, ta, out, W, rn, ())) (fun k v => Hy .u8 v (rd 0 (rd z4 W ((i - nk : Nat) : Int)) (k : Int))) T hT (fun k hk m' hm hj => by
  rw [MO.q3];simp only [MO.b3, MQ (show (k : Int) < 4 by omega), MW (show (0 : Int) <= k by omega) (show (k : Int) < 4 by omega), w, MW (show (0 : Int) <= ((i - nk : Nat) : Int) by omega) (show ((i - nk : Nat) : Int) < (W.length : Int) by omega), cond_true, Qp k (by omega), hj k (afa _), aeS])
 refine e.trans ?_;rw [MO.q3];simp only [MO.b3, MR (show ¬ ((4 : Nat) : Int) < 4 by decide), cond_false];rfl
end
end Go.AM
end
section
namespace Go.AM
section
variable {ok : Bool} {n dn mu sm four x i t t1 t2 tp tq : Int} {key b tw ta out K was kb T sb bk : List Int} {yb W rn : List (List Int)} {last : Bool}
theorem abk (a b c d : Int) : ((((aeT 4 (0 : Int)).set 0 a).set 1 b).set 2 c).set 3 d = [a, b, c, d] := rfl
theorem aap {nk : Nat} (hn : nk = 4 \/ nk = 8) (hk : 4 * nk <= kb.length) (hb : ∀ x ∈ kb, B8 x) :
  MO.l4 .lim ((nk : Int), 1, (nk : Int), ok, n, key, dn, mu, sm, PZ 256, bk, yb, b, tw, ta, out, (ae1 nk).map (word kb), rn, ()) = some (ok, n, key, dn, mu, sm, PZ 256, bk, yb, b, tw, ta, out, (sched nk kb (3 * nk + 28)).1, rn, ()) := by
 have e := Oi (f := MO.l4 .lim) (fun k => ((nk : Int), (sched nk kb k).2, ((nk + k : Nat) : Int), ok, n, key, dn, mu, sm, PZ 256, bk, yb, b, tw, ta, out, (sched nk kb k).1, rn, ())) (n := 3 * nk + 28) (fun k hkq => by
  rw [MO.q4];obtain ⟨hW, hx⟩ := Tn nk kb hk hb k;have hl := RX nk kb k;have hs : sched nk kb (k + 1) = stepW nk (sched nk kb k) := rfl;rw [hs];unfold stepW;generalize hq : sched nk kb k = q at hW hx hl;obtain ⟨W, x⟩ := q;simp only at hW hx hl ⊢
  have hi0 : nk + k < 1000 := by omega
  generalize hi : nk + k = i at hl hi0;have hw := hW.at (show i - 1 < W.length by omega);have hb0 := hW.byte (show i - 1 < W.length by omega) (j := 0) (by omega) (by omega);have hb1 := hW.byte (show i - 1 < W.length by omega) (j := 1) (by omega) (by omega);have hb2 := hW.byte (show i - 1 < W.length by omega) (j := 2) (by omega) (by omega);have hb3 := hW.byte (show i - 1 < W.length by omega) (j := 3) (by omega) (by omega);have w1 : aeF.wrap (4 * aeF.wrap ((nk : Int) + 7)) = ((4 * nk + 28 : Nat) : Int) := by rw [wrap64 (n := (nk : Int) + 7) (by omega) (by omega), wrap64 (by omega) (by omega)]; omega
  have w2 : aeF.wrap ((i : Int) - 1) = ((i - 1 : Nat) : Int) := by rw [wrap64 (by omega) (by omega)]; omega
  have m1 : ((i : Int)).tmod (nk : Int) = ((i % nk : Nat) : Int) := by rw [aeY (ae3 i)]; simp
  have m2 : ((i : Int)).tmod 8 = ((i % 8 : Nat) : Int) := by rw [aeY (ae3 i)]; simp
  have Xm := fun x T hT => ab1 (ok := ok) (key := key) (dn := dn) (mu := mu) (sm := sm) (sb := PZ 256) (bk := bk) (yb := yb) (b := b) (tw := tw) (x := x) (T := T) (n := n) (ta := ta) (out := out) (rn := rn) hW (i := i) (nk := nk) (by omega) (by omega) (by omega) (by omega) hT
  have cap : ∀ T : List Int, decide (W.length + ([T] : List (List Int)).length < 17592186044416) = true := fun T => MQ (by simp; omega)
  simp only [MO.b4, w1, MQ (show (i : Int) < ((4 * nk + 28 : Nat) : Int) by omega), w2, MW (show (0 : Int) <= ((i - 1 : Nat) : Int) by omega) (show ((i - 1 : Nat) : Int) < (W.length : Int) by omega), MR (show ¬ (nk : Int) = 0 by omega), m1, m2, cond_true, aeH, MW hb0.1 hb0.2, MW hb1.1 hb1.2, MW hb2.1 hb2.2, MW hb3.1 hb3.2, QG hb0, QG hb1, QG hb2, QG hb3, abk, aeK];rw [hl];unfold ZW;by_cases c1 : i % nk = 0
  ·rw [MQ (show ((i % nk : Nat) : Int) = 0 by omega), if_pos c1, if_pos c1];simp only [cond_true, Qk hx (show B8 2 from ⟨by decide, by decide⟩), aeE];rw [Xm _ _ rfl];simp only [aeE];rw [cond_pos (by simp; omega), Qp i (by omega)];rw [show i + 1 = nk + (k + 1) by omega]
  ·rw [MR (show ¬ ((i % nk : Nat) : Int) = 0 by omega), if_neg c1, if_neg c1];simp only [cond_false];by_cases c2 : nk = 8 /\ i % 8 = 4
   ·rw [MQ (show (nk : Int) = 8 by omega), MQ (show ((i % 8 : Nat) : Int) = 4 by omega), if_pos c2];simp only [aeM, cond_true];rw [Xm _ _ rfl];simp only [aeE];rw [cond_pos (by simp; omega), Qp i (by omega)];rw [show i + 1 = nk + (k + 1) by omega]
   ·have : (decide ((nk : Int) = 8) && decide (((i % 8 : Nat) : Int) = 4)) = false := by
     by_cases c3 : nk = 8
     ·rw [MR (show ¬ ((i % 8 : Nat) : Int) = 4 by omega), aeJ]
     ·rw [MR (show ¬ (nk : Int) = 8 by omega), aeL]
    rw [this, if_neg c2];simp only [cond_false];rw [Xm _ _ hw.1];simp only [aeE];rw [cond_pos (by simp; omega), Qp i (by omega), <- list4 hw.1];rw [show i + 1 = nk + (k + 1) by omega])
 refine (show _ = _ from e).trans ?_;rw [MO.q4];have w1 : aeF.wrap (4 * aeF.wrap ((nk : Int) + 7)) = ((4 * nk + 28 : Nat) : Int) := by rw [wrap64 (n := (nk : Int) + 7) (by omega) (by omega), wrap64 (by omega) (by omega)]; omega
 simp only [MO.b4, w1, MR (show ¬ ((nk + (3 * nk + 28) : Nat) : Int) < ((4 * nk + 28 : Nat) : Int) by omega), cond_false]
end
end Go.AM
end
section
namespace Go.AM
section
variable {ok : Bool} {n dn mu sm four x i t t1 t2 tp tq : Int} {key b tw ta out K was kb T sb bk : List Int} {yb W rn : List (List Int)} {last : Bool}
theorem Y4 {q : Nat} (hW : Words W) (hl : W.length = 4 * q) (hq : q <= 100) : MO.l5 .lim (0, ok, n, 4, key, dn, mu, sm, sb, bk, yb, b, tw, ta, out, W, [], ()) = some (ok, n, key, dn, mu, sm, sb, bk, yb, b, tw, ta, out, OB W, ()) := by
 have e := Oi (f := MO.l5 .lim) (fun k => (((4 * k : Nat) : Int), ok, n, 4, key, dn, mu, sm, sb, bk, yb, b, tw, ta, out, W, (ae1 k).map (Q8 W), ())) (n := q) (fun k hkq => by
  rw [MO.q5];have w1 : aeF.wrap (((4 * k : Nat) : Int) + 4) = ((4 * k + 4 : Nat) : Int) := by rw [wrap64 (by omega) (by omega)]; omega
  have w2 : mn 4 ((W.length : Int) - ((4 * k : Nat) : Int)) = 4 := by rw [Og]; omega
  have w3 : (cut W ((4 * k : Nat) : Int) ((4 * k + 4 : Nat) : Int)).length = 4 := by rw [Rj, ae0, aeW]; omega
  have at_ : ∀ j : Nat, j < 4 -> rd z4 (cut W ((4 * k : Nat) : Int) ((4 * k + 4 : Nat) : Int)) (j : Int) = rd z4 W ((4 * k + j : Nat) : Int) := fun j hj => by
   rw [Rj];unfold rd;rw [aeS, aeS, ae5, ae5, afE (by omega), afV]
  have a0 : rd z4 (cut W ((4 * k : Nat) : Int) ((4 * k + 4 : Nat) : Int)) 0 = rd z4 W ((4 * k : Nat) : Int) := at_ 0 (by omega);have a1 : rd z4 (cut W ((4 * k : Nat) : Int) ((4 * k + 4 : Nat) : Int)) 1 = rd z4 W ((4 * k + 1 : Nat) : Int) := at_ 1 (by omega);have a2 : rd z4 (cut W ((4 * k : Nat) : Int) ((4 * k + 4 : Nat) : Int)) 2 = rd z4 W ((4 * k + 2 : Nat) : Int) := at_ 2 (by omega);have a3 : rd z4 (cut W ((4 * k : Nat) : Int) ((4 * k + 4 : Nat) : Int)) 3 = rd z4 W ((4 * k + 3 : Nat) : Int) := at_ 3 (by omega);have c4 : ∀ l : List Int, l.length = 4 -> cut l 0 4 = l := fun l hl => by
   have := Rj l 0 4;rw [show ((0 : Nat) : Int) = 0 from rfl, show ((4 : Nat) : Int) = 4 from rfl] at this;rw [this, afb, ae2 (by omega)]
  have l0 := (hW.at (show 4 * k < W.length by omega)).1;have l1 := (hW.at (show 4 * k + 1 < W.length by omega)).1;have l2 := (hW.at (show 4 * k + 2 < W.length by omega)).1;have l3 := (hW.at (show 4 * k + 3 < W.length by omega)).1;have hfl : [rd z4 W ((4 * k : Nat) : Int), rd z4 W ((4 * k + 1 : Nat) : Int), rd z4 W ((4 * k + 2 : Nat) : Int), rd z4 W ((4 * k + 3 : Nat) : Int)].flatten = Q8 W k := by simp [Q8]
  have hrl := WM hW (j := k) (by omega);have oh := Va [rd z4 W ((4 * k : Nat) : Int), rd z4 W ((4 * k + 1 : Nat) : Int), rd z4 W ((4 * k + 2 : Nat) : Int), rd z4 W ((4 * k + 3 : Nat) : Int)] (by rw [hfl, hrl]; omega) (by simp);rw [hfl] at oh;simp only [MO.b5, Nj (show (W.length : Int) < 9223372036854775808 by omega), MQ (show ((4 * k : Nat) : Int) < (W.length : Int) by omega), Nc (show (0 : Int) <= ((4 * k : Nat) : Int) by omega) (show ((4 * k : Nat) : Int) <= (W.length : Int) by omega) (ae9 _), Nj (show (W.length : Int) - ((4 * k : Nat) : Int) < 9223372036854775808 by omega), w2, w1, Nc (show (0 : Int) <= ((4 * k : Nat) : Int) by omega) (show ((4 * k : Nat) : Int) <= ((4 * k + 4 : Nat) : Int) by omega) (ae9 _), MQ (show ((4 * k + 4 : Nat) : Int) <= (W.length : Int) by omega), aeM, w3, cond_true, MW (show (0 : Int) <= 0 by omega) (show (0 : Int) < ((4 : Nat) : Int) by decide), MW (show (0 : Int) <= 1 by omega) (show (1 : Int) < ((4 : Nat) : Int) by decide), MW (show (0 : Int) <= 2 by omega) (show (2 : Int) < ((4 : Nat) : Int) by decide), MW (show (0 : Int) <= 3 by omega) (show (3 : Int) < ((4 : Nat) : Int) by decide), a0, a1, a2, a3, c4 _ l0, c4 _ l1, c4 _ l2, c4 _ l3, oh, aeE, hrl, ae2 (agj hrl)];rw [show (afA 1 16 && afA 16 16) = true from rfl, cond_true, cond_pos (by simp; omega)];simp only [afz, afx, afG, afM];rfl)
 refine (show _ = _ from e).trans ?_;rw [MO.q5];simp only [MO.b5, Nj (show (W.length : Int) < 9223372036854775808 by omega), MR (show ¬ ((4 * q : Nat) : Int) < (W.length : Int) by omega), cond_true, cond_false];unfold OB;rw [hl, afH _ (by omega)]
theorem aam (hk : key.length = 16 \/ key.length = 32) (hb : ∀ x ∈ key, B8 x) : MO.l6 .lim (n, key, 0, 0, sm, NZ, NZ, aeT 16 NZ, b, tw, ta, out, [], ()) = some (n, b, tw, key, 1, 0, sm, PZ 256, TK 256, NS 256, ta, out, OB (PU key), ()) := by
 have h0 : MO.l6 .lim (n, key, 0, 0, sm, NZ, NZ, aeT 16 NZ, b, tw, ta, out, [], ()) = MO.b6 .lim (MO.l6 .lim) (n, key, 0, 0, sm, NZ, NZ, aeT 16 NZ, b, tw, ta, out, [], ()) := MO.q6 _;rw [h0];have hd : (key.length : Int).tdiv 4 = ((key.length / 4 : Nat) : Int) := by rw [ae7 (ae3 _)]; simp
 have w1 : aeF.wrap ((key.length : Int).tdiv 4) = ((key.length / 4 : Nat) : Int) := by rw [hd, wrap64 (by omega) (by omega)]
 have t := Y5 (ok := true) (key := key) (dn := 0) (mu := 1) (sm := sm) (b := b) (tw := tw) (n := n) (ta := ta) (out := out) (rn := []);have s := aao (kb := key) (q := key.length / 4) (nk := ((key.length / 4 : Nat) : Int)) (ok := true) (key := key) (dn := 0) (mu := 1) (sm := sm) (sb := PZ 256) (bk := TK 256) (yb := NS 256) (b := b) (tw := tw) (n := n) (ta := ta) (out := out) (rn := []) (by omega) (by omega);have w := aap (kb := key) (nk := key.length / 4) (ok := true) (key := key) (dn := 0) (mu := 1) (sm := sm) (bk := TK 256) (yb := NS 256) (b := b) (tw := tw) (n := n) (ta := ta) (out := out) (rn := []) (by omega) (by omega) hb;have r := Y4 (W := PU key) (q := key.length / 4 + 7) (ok := true) (key := key) (dn := 0) (mu := 1) (sm := sm) (sb := PZ 256) (bk := TK 256) (yb := NS 256) (b := b) (tw := tw) (n := n) (ta := ta) (out := out) (SY key hb) (by rw [Rt]; omega) (by omega);have hs : OJ.run .lim (true, ()) = some 1 := rfl;have hw : (sched (key.length / 4) key (3 * (key.length / 4) + 28)).1 = PU key := rfl;simp only [MO.b6, decide_true, aeG, aeH, cond_true, t, aeE, Nj (show (key.length : Int) < 9223372036854775808 by omega), w1];rw [s];simp only [aeE];rw [w];simp only [aeE];rw [hw, r];simp only [aeE, hs, show agl.wrap (1 + -1) = 0 from by decide, decide_true, aeG, cond_false]
end
end Go.AM
end
section
namespace Go.AM
section
variable {ok : Bool} {n dn mu sm four x i t t1 t2 tp tq : Int} {key b tw ta out K was kb T sb bk : List Int} {yb W rn : List (List Int)} {last : Bool}
theorem aal (hb : b.length = 16) : MO.l7 .lim (0, n, b, K, tw, key, dn, mu, sm, sb, bk, yb, ta, out, rn, ()) = some (n, Tj b K, tw, key, dn, mu, sm, sb, bk, yb, ta, out, rn, ()) := by
 have e := O5 (f := MO.l7 .lim) (fun k b => ((k : Int), n, b, K, tw, key, dn, mu, sm, sb, bk, yb, ta, out, rn, ())) (fun k v => Hy .u8 v (rd 0 K (k : Int))) b hb (fun k hk m' hm hj => by
  rw [MO.q7];simp only [MO.b7, MQ (show (k : Int) < 16 by omega), MW (show (0 : Int) <= k by omega) (show (k : Int) < 16 by omega), cond_true, Qp k (by omega), hj k (afa _), aeS])
 refine (show _ = _ from e).trans ?_;rw [MO.q7];simp only [MO.b7, MR (show ¬ ((16 : Nat) : Int) < 16 by decide), cond_false];rfl
theorem Y2 (hb : Uu b) : MO.l8 .lim (0, last, tp, tq, t1, t2, n, b, key, dn, mu, sm, PZ 256, bk, yb, K, rn, tw, ta, out, ()) = some (last, tp, tq, t1, t2, n, tab 16 fun i => U3 (rd 0 b (i : Int)), K, rn, tw, key, dn, mu, sm, PZ 256, bk, yb, ta, out, ()) := by
 have e := O5 (f := MO.l8 .lim) (fun k b => ((k : Int), last, tp, tq, t1, t2, n, b, key, dn, mu, sm, PZ 256, bk, yb, K, rn, tw, ta, out, ())) (fun k v => U3 v) b hb.1 (fun k hk m' hm hj => by
  rw [MO.q8];have h := hb.at hk;simp only [MO.b8, MQ (show (k : Int) < 16 by omega), MW (show (0 : Int) <= k by omega) (show (k : Int) < 16 by omega), cond_true, Qp k (by omega), hj k (afa _), MW h.1 h.2, QG h, aeS])
 refine (show _ = _ from e).trans ?_;rw [MO.q8];simp only [MO.b8, MR (show ¬ ((16 : Nat) : Int) < 16 by decide), cond_false]
theorem abl (hb : b.length = 16) : MO.l9 .lim (4, 0, last, tp, tq, t1, t2, n, b, was, K, rn, tw, key, dn, mu, sm, sb, bk, yb, ta, out, ()) = some (last, tp, tq, t1, t2, n, tab 16 fun i => rd 0 was (((i + 4 * (i % 4)) % 16 : Nat) : Int), K, rn, tw, key, dn, mu, sm, sb, bk, yb, ta, out, ()) := by
 have e := O5 (f := MO.l9 .lim) (fun k b => (4, (k : Int), last, tp, tq, t1, t2, n, b, was, K, rn, tw, key, dn, mu, sm, sb, bk, yb, ta, out, ())) (fun k v => rd 0 was (((k + 4 * (k % 4)) % 16 : Nat) : Int)) b hb (fun k hk m' hm hj => by
  rw [MO.q9];have m1 : ((k : Int)).tmod 4 = ((k % 4 : Nat) : Int) := by rw [aeY (ae3 k)]; simp
  have w1 : aeF.wrap (4 * (k : Int).tmod 4) = ((4 * (k % 4) : Nat) : Int) := by rw [m1, wrap64 (by omega) (by omega)]; omega
  have w2 : aeF.wrap ((k : Int) + ((4 * (k % 4) : Nat) : Int)) = ((k + 4 * (k % 4) : Nat) : Int) := by rw [wrap64 (by omega) (by omega)]; omega
  have w3 : aeF.wrap (((k + 4 * (k % 4) : Nat) : Int) + 64) = ((k + 4 * (k % 4) + 64 : Nat) : Int) := by rw [wrap64 (by omega) (by omega)]; omega
  have m2 : (((k + 4 * (k % 4) + 64 : Nat) : Int)).tmod 16 = (((k + 4 * (k % 4)) % 16 : Nat) : Int) := by rw [aeY (ae3 _)]; omega
  simp only [MO.b9, MQ (show (k : Int) < 16 by omega), MW (show (0 : Int) <= k by omega) (show (k : Int) < 16 by omega), cond_true, Qp k (by omega), w1, w2, w3, m2, MW (show (0 : Int) <= (((k + 4 * (k % 4)) % 16 : Nat) : Int) by omega) (show (((k + 4 * (k % 4)) % 16 : Nat) : Int) < 16 by omega), aeS])
 refine (show _ = _ from e).trans ?_;rw [MO.q9];simp only [MO.b9, MR (show ¬ ((16 : Nat) : Int) < 16 by decide), cond_false]
abbrev Qs : List Int := [2, 3, 1, 1]
theorem abj (hw : Uu was) {i : Nat} (hi : i < 16) (hb : b.length = 16) (h0 : rd 0 b (i : Int) = 0) : MO.l10 .lim ((i : Int), t, Qs, 0, tp, tq, t1, t2, n, key, dn, mu, sm, sb, bk, NS 256, b, Qs, was, K, rn, tw, ta, out, ()) = some (t, tp, tq, t1, t2, n, key, dn, mu, sm, sb, bk, NS 256, b.set i (rd 0 (SL was) (i : Int)), Qs, was, K, rn, tw, ta, out, ()) := by
 have h4 : ∀ j : Nat, j < 4 -> aeF.wrap (aeF.wrap (aeF.wrap ((i : Int).tdiv 4) * 4) + (aeF.wrap ((i : Int) + (j : Int))).tmod 4) = ((i / 4 * 4 + (i + j) % 4 : Nat) : Int) := by
  intro j hj;have d1 : ((i : Int)).tdiv 4 = ((i / 4 : Nat) : Int) := by rw [ae7 (ae3 i)]; simp
  have d2 : aeF.wrap ((i : Int) + (j : Int)) = ((i + j : Nat) : Int) := by rw [wrap64 (by omega) (by omega)]; omega
  have d3 : (((i + j : Nat) : Int)).tmod 4 = (((i + j) % 4 : Nat) : Int) := by rw [aeY (ae3 _)]; simp
  rw [d1, d2, d3, wrap64 (n := ((i / 4 : Nat) : Int)) (by omega) (by omega), wrap64 (n := ((i / 4 : Nat) : Int) * 4) (by omega) (by omega), wrap64 (by omega) (by omega)]; omega
 have hB : ∀ j : Nat, j < 4 -> B8 (rd 0 was ((i / 4 * 4 + (i + j) % 4 : Nat) : Int)) := fun j hj => hw.at (by omega)
 have g0 := h4 0 (by omega); have g1 := h4 1 (by omega); have g2 := h4 2 (by omega); have g3 := h4 3 (by omega);have b0 := hB 0 (by omega); have b1 := hB 1 (by omega); have b2 := hB 2 (by omega); have b3 := hB 3 (by omega);rw [show ((0 : Nat) : Int) = 0 from rfl] at g0;rw [show ((1 : Nat) : Int) = 1 from rfl] at g1;rw [show ((2 : Nat) : Int) = 2 from rfl] at g2;rw [show ((3 : Nat) : Int) = 3 from rfl] at g3;have r0 := (QE b0).2.1; have r1 := (QE b1).2.2; have r2 := (QE b2).1; have r3 := (QE b3).1;have step : ∀ (c : Int) (j j' : Int) (q : Nat) (v : Int) (bb : List Int), bb.length = 16 -> 0 <= j -> j < 4 -> rd 0 Qs j = c -> 0 <= c -> c < 16 -> aeF.wrap (j + 1) = j' -> aeF.wrap (aeF.wrap (aeF.wrap ((i : Int).tdiv 4) * 4) + (aeF.wrap ((i : Int) + j)).tmod 4) = (q : Int) -> q < 16 -> rd 0 (rd NZ (NS 256) c) (rd 0 was (q : Int)) = v -> B8 (rd 0 was (q : Int)) ->
   MO.l10 .lim ((i : Int), t, Qs, j, tp, tq, t1, t2, n, key, dn, mu, sm, sb, bk, NS 256, bb, Qs, was, K, rn, tw, ta, out, ()) = MO.l10 .lim ((i : Int), t, Qs, j', tp, tq, t1, t2, n, key, dn, mu, sm, sb, bk, NS 256, bb.set i (Hy .u8 (rd 0 bb (i : Int)) v), Qs, was, K, rn, tw, ta, out, ()) := by
  intro c j j' q v bb hbb h1 h2 h3 h4 h5 h6 h7 h8 h9 h10;rw [MO.q10];simp only [MO.b10, MQ h2, MW h1 h2, h3, MW h4 h5, h7, MW (show (0 : Int) <= i by omega) (show (i : Int) < 16 by omega), MW (show (0 : Int) <= (q : Int) by omega) (show (q : Int) < 16 by omega), MW h10.1 h10.2, h9, h6, cond_true, aeS]
 rw [step 2 0 1 _ _ b hb (by omega) (by omega) rfl (by omega) (by omega) rfl g0 (by omega) r0 b0];rw [step 3 1 2 _ _ _ (by simp [hb]) (by omega) (by omega) rfl (by omega) (by omega) rfl g1 (by omega) r1 b1];rw [step 1 2 3 _ _ _ (by simp [hb]) (by omega) (by omega) rfl (by omega) (by omega) rfl g2 (by omega) r2 b2];rw [step 1 3 4 _ _ _ (by simp [hb]) (by omega) (by omega) rfl (by omega) (by omega) rfl g3 (by omega) r3 b3];rw [MO.q10];simp only [MO.b10, MR (show ¬ (4 : Int) < 4 by omega), cond_false];have hl : ∀ v, i < (b.set i v).length := fun v => by simp [hb]; omega
 simp only [TR (show i < b.length by omega), TR (hl _), afO, h0];unfold SL;rw [QH hi];simp only [agi]
theorem abY (hw : Uu was) (hb : b.length = 16) : MO.Zm .lim (0, tp, tq, t1, t2, n, key, dn, mu, sm, sb, bk, NS 256, b, Qs, was, K, rn, tw, ta, out, ()) = some (tp, tq, t1, t2, n, SL was, K, rn, tw, key, dn, mu, sm, sb, bk, NS 256, ta, out, ()) := by
 have e := O5 (f := MO.Zm .lim) (fun k b => ((k : Int), tp, tq, t1, t2, n, key, dn, mu, sm, sb, bk, NS 256, b, Qs, was, K, rn, tw, ta, out, ())) (fun k v => rd 0 (SL was) (k : Int)) b hb (fun k hk m' hm hj => by
  rw [MO.q11];have hm := fun h0 => abj (tp := tp) (tq := tq) (t1 := t1) (t2 := t2) (key := key) (dn := dn) (mu := mu) (sm := sm) (sb := sb) (bk := bk) (K := K) (rn := rn) (tw := tw) (t := (k : Int)) (n := n) (ta := ta) (out := out) hw (b := m'.set k 0) hk (by simp [hm]) h0
  simp only [MO.b11, MQ (show (k : Int) < 16 by omega), MW (show (0 : Int) <= k by omega) (show (k : Int) < 16 by omega), cond_true, aeS];rw [hm (TR (by omega))];simp only [aeE, Qp k (by omega), afO])
 refine (show _ = _ from e).trans ?_;rw [MO.q11];simp only [MO.b11, MR (show ¬ ((16 : Nat) : Int) < 16 by decide), cond_false];have : (tab 16 fun i => rd 0 (SL was) (i : Int)) = SL was := (V3 Pj).symm;rw [this]
theorem Y3 (hb : b.length = 16) : MO.l12 .lim (0, tp, tq, t1, t2, n, b, K, rn, tw, key, dn, mu, sm, sb, bk, yb, ta, out, ()) = some (tp, tq, t1, t2, n, rn, Tj b K, tw, key, dn, mu, sm, sb, bk, yb, ta, out, ()) := by
 have e := O5 (f := MO.l12 .lim) (fun k b => ((k : Int), tp, tq, t1, t2, n, b, K, rn, tw, key, dn, mu, sm, sb, bk, yb, ta, out, ())) (fun k v => Hy .u8 v (rd 0 K (k : Int))) b hb (fun k hk m' hm hj => by
  rw [MO.q12];simp only [MO.b12, MQ (show (k : Int) < 16 by omega), MW (show (0 : Int) <= k by omega) (show (k : Int) < 16 by omega), cond_true, Qp k (by omega), hj k (afa _), aeS])
 refine (show _ = _ from e).trans ?_;rw [MO.q12];simp only [MO.b12, MR (show ¬ ((16 : Nat) : Int) < 16 by decide), cond_false];rfl
theorem aan (b : List Int) : (tab 16 fun i => rd 0 (tab 16 fun i => U3 (rd 0 b (i : Int))) (((i + 4 * (i % 4)) % 16 : Nat) : Int)) = RH b := O_ fun k hk => by rw [QH (by omega)]
theorem Xf (hb : Uu b) : Uu (RH b) := ⟨Pj, VD fun k hk => X9 (hb.at (by omega))⟩
theorem abX {r : Nat} (hW : Words W) (hl : W.length = 4 * (r + 1)) (hr : r <= 100) (hr0 : 0 < r) (hb : b.length = 16) :
  MO.Xo .lim (1, ((r : Nat) : Int), ((r : Nat) : Int), 0, n, OB W, Ry W b 0, tw, key, dn, mu, sm, PZ 256, bk, NS 256, ta, out, ()) = some (n, Ry W b r, tw, key, dn, mu, sm, PZ 256, bk, NS 256, ta, out, OB W, ()) := by
 have hn : (OB W).length = r + 1 := by unfold OB; simp; omega
 have e := Oi (f := MO.Xo .lim) (fun k => (1, (r : Int), (r : Int), (k : Int), n, OB W, Ry W b k, tw, key, dn, mu, sm, PZ 256, bk, NS 256, ta, out, ())) (n := r) (fun k hk => by
  rw [MO.q13];have hB := VJ W b k;have hK : rd VG (OB W) (1 + (k : Int)) = Q8 W (k + 1) := by
   rw [show (1 + (k : Int)) = ((k + 1 : Nat) : Int) by omega, PY (by omega)];unfold OB; simp
  have w1 : aeF.wrap (((OB W).length : Int) - 2) = (r : Int) - 1 := by rw [wrap64 (by omega) (by omega)]; omega
  have hlast : decide ((k : Int) = (r : Int) - 1) = decide (k + 2 = W.length / 4) := by
   by_cases h : k + 1 = r
   ·rw [MQ (by omega), MQ (by omega)]
   ·rw [MR (by omega), MR (by omega)]
  simp only [MO.b13, MQ (show (k : Int) < (r : Int) by omega), MW (show (0 : Int) <= k by omega) (show (k : Int) < (r : Int) by omega), Nj (show ((OB W).length : Int) < 9223372036854775808 by omega), cond_true, hK, w1, hlast, Y2 hB, aeE];rw [abl Pj];simp only [aeE, aan];have hs := Xf hB;have hc : ((((aeT 4 (0 : Int)).set 0 2).set 1 3).set 2 1).set 3 1 = Qs := rfl;show _ = MO.Xo .lim (1, (r : Int), (r : Int), ((k + 1 : Nat) : Int), n, OB W, ZI (decide (k + 2 = W.length / 4)) (Ry W b k) (Q8 W (k + 1)), tw, key, dn, mu, sm, PZ 256, bk, NS 256, ta, out, ());unfold ZI;cases decide (k + 2 = W.length / 4) with
  | true =>
   simp only [aeG, cond_false, cond_true];rw [Y3 hs.1];simp only [aeE, Qp k (by omega)]
  | false =>
   simp only [aeH, cond_false, cond_true, hc];rw [abY hs hs.1];simp only [aeE];have hml : (SL (RH (Ry W b k))).length = 16 := Pj;rw [Y3 hml];simp only [aeE, Qp k (by omega)])
 refine (show _ = _ from e).trans ?_;rw [MO.q13];simp only [MO.b13, MR (show ¬ (r : Int) < (r : Int) by omega), cond_false]
end
end Go.AM
end
section
namespace Go.AM
section
variable {ok : Bool} {n dn mu sm four x i t t1 t2 tp tq : Int} {key b tw ta out K was kb T sb bk : List Int} {yb W rn : List (List Int)} {last : Bool}
theorem Y6 {r : Nat} (hW : Words W) (hl : W.length = 4 * (r + 1)) (hr : r <= 100) (hr0 : 0 < r) (hb : b.length = 16) {β : Type} {Q : _ -> Option β} :
  (bif inB 0 ((OB W).length : Int) then
   ((MO.l7 .lim (0, n, b, rd VG (OB W) 0, tw, key, dn, mu, sm, PZ 256, bk, NS 256, ta, out, OB W, ())).bind fun (n, b, tw, key, dn, mu, sm, sb, bk, yb, ta, out, rn, ()) =>
    bif sK 1 (rn.length : Int) (rn.length : Int) then bif vT ((rn.length : Int) - 1) then (MO.Xo .lim (1, ((rn.length : Int) - 1), ((rn.length : Int) - 1), 0, n, rn, b, tw, key, dn, mu, sm, sb, bk, yb, ta, out, ())).bind Q else none else none) else none) = Q (n, Ry W b r, tw, key, dn, mu, sm, PZ 256, bk, NS 256, ta, out, OB W, ()) := by
 have hn : (OB W).length = r + 1 := by unfold OB; simp; omega
 have h0 : rd VG (OB W) 0 = Q8 W 0 := by
  have := PY (d := VG) (show 0 < (OB W).length by omega);rw [show ((0 : Nat) : Int) = 0 from rfl] at this;rw [this]; unfold OB; simp
 rw [cond_pos (MW (by omega) (by omega)), h0, aal hb];simp only [aeE];rw [cond_pos (Nc (by omega) (by omega) (by omega)), cond_pos (Nj (by omega)), show ((OB W).length : Int) - 1 = (r : Int) by omega];have := abX (tw := tw) (key := key) (dn := dn) (mu := mu) (sm := sm) (bk := bk) (n := n) (ta := ta) (out := out) hW hl hr hr0 hb;rw [show Ry W b 0 = Tj b (Q8 W 0) from rfl] at this;rw [this];rfl
theorem aak (hk : key.length = 16 \/ key.length = 32) (hkb : ∀ x ∈ key, B8 x) (hb : b.length = 16) :
  MO.WB .lim (b, n, key, 0, 0, sm, NZ, NZ, aeT 16 NZ, ta, out, [], ()) = some (n, encS key b, key, 1, 0, sm, PZ 256, TK 256, NS 256, ta, out, OB (PU key), ()) := by
 have h0 : MO.WB .lim (b, n, key, 0, 0, sm, NZ, NZ, aeT 16 NZ, ta, out, [], ()) = MO.b14 .lim (MO.WB .lim) (b, n, key, 0, 0, sm, NZ, NZ, aeT 16 NZ, ta, out, [], ()) := MO.q14 _;rw [h0];have hr := aam (sm := sm) (key := key) (b := b) (tw := VG) (n := n) (ta := ta) (out := out) hk hkb;have hW := SY key hkb;have hl : (PU key).length = 4 * ((key.length / 4 + 6) + 1) := by rw [Rt]; omega
 have hq : (PU key).length / 4 - 1 = key.length / 4 + 6 := by omega
 unfold MO.b14;simp only [hr, aeE];refine (Y6 (Q := fun (n, b, tw, key, dn, mu, sm, sb, bk, yb, ta, out, rn, ()) => some (n, b, key, dn, mu, sm, sb, bk, yb, ta, out, rn, ())) hW hl (by omega) (by omega) hb).trans ?_;unfold encS;rw [hq]
theorem aaj (hk : key.length = 16 \/ key.length = 32) (hkb : ∀ x ∈ key, B8 x) (hb : b.length = 16) :
  MO.WB .lim (b, n, key, 1, 0, sm, PZ 256, TK 256, NS 256, ta, out, OB (PU key), ()) = some (n, encS key b, key, 1, 0, sm, PZ 256, TK 256, NS 256, ta, out, OB (PU key), ()) := by
 have h0 : MO.WB .lim (b, n, key, 1, 0, sm, PZ 256, TK 256, NS 256, ta, out, OB (PU key), ()) = MO.b14 .lim (MO.WB .lim) (b, n, key, 1, 0, sm, PZ 256, TK 256, NS 256, ta, out, OB (PU key), ()) := MO.q14 _;rw [h0];have hr : MO.l6 .lim (n, key, 1, 0, sm, PZ 256, TK 256, NS 256, b, VG, ta, out, OB (PU key), ()) = some (n, b, VG, key, 1, 0, sm, PZ 256, TK 256, NS 256, ta, out, OB (PU key), ()) := by
  rw [MO.q6];simp only [MO.b6, MR (show ¬ (1 : Int) = 0 by omega), aeH, aeG, cond_false]
 have hW := SY key hkb;have hl : (PU key).length = 4 * ((key.length / 4 + 6) + 1) := by rw [Rt]; omega
 have hq : (PU key).length / 4 - 1 = key.length / 4 + 6 := by omega
 unfold MO.b14;simp only [hr, aeE];refine (Y6 (Q := fun (n, b, tw, key, dn, mu, sm, sb, bk, yb, ta, out, rn, ()) => some (n, b, key, dn, mu, sm, sb, bk, yb, ta, out, rn, ())) hW hl (by omega) (by omega) hb).trans ?_;unfold encS;rw [hq]
end
end Go.AM
end
section
namespace Go.AM
abbrev Bs (s : List Int) : Prop := ∀ x ∈ s, B8 x
abbrev NM : Nat := 9223372036854775808
noncomputable def encR (key b : List Int) : List Int × Int := if key.length = 16 \/ key.length = 32 then (if b.length = 16 then (encS key b, 0) else ([], 10)) else ([], 13)
theorem ZV {b : List Int} (h : b.length = 16) : (b.drop 0).take 16 = b := by rw [afb, ae2 (by omega)]
theorem Rq {key b : List Int} (hk : key.length < NM) (hb : b.length < NM) (hkb : Bs key) : MP.run .lim (key, b, ()) = some ((encR key b).1, (encR key b).2, ()) := by
 unfold encR;simp only [MP.run, MX hk, MX hb, cond_true, aeK];by_cases h1 : key.length = 16 \/ key.length = 32
 ·have : (!decide ((key.length : Int) = 16) && !decide ((key.length : Int) = 32)) = false := by
   rcases h1 with h | h
   ·rw [MQ (show (key.length : Int) = 16 by omega)]; rfl
   ·rw [MQ (show (key.length : Int) = 32 by omega), aeG, aeJ]
  rw [this, if_pos h1];simp only [cond_false];by_cases h2 : b.length = 16
  ·rw [MQ (show (b.length : Int) = 16 by omega), if_pos h2];simp only [aeG, cond_false, h2];rw [show (afA 1 16 && afA 16 16) = true from rfl, cond_true, ae2 (by omega), aad h1 hkb h2];simp only [aeE];rw [ZV (QZ _ _).1]
  ·rw [MR (show ¬ (b.length : Int) = 16 by omega), if_neg h2];rfl
 ·rw [MR (show ¬ (key.length : Int) = 16 by omega), MR (show ¬ (key.length : Int) = 32 by omega), if_neg h1];rfl
def Yv : Nat -> List Int -> List Int
 | 0, m => m
 | i + 1, m => bif !decide (rd 0 (m.set i (ae4.wrap (rd 0 m (i : Int) + 1))) (i : Int) = 0) then m.set i (ae4.wrap (rd 0 m (i : Int) + 1)) else Yv i (m.set i (ae4.wrap (rd 0 m (i : Int) + 1)))
theorem Wy : ∀ i m, (Yv i m).length = m.length
 | 0, _ => rfl
 | i + 1, m => by
  rw [Yv];cases decide (rd 0 (m.set i (ae4.wrap (rd 0 m (i : Int) + 1))) (i : Int) = 0)
  ·simp
  ·simp [Wy i]
noncomputable def Pm (key at_ : List Int) : Nat -> List Int × List Int
 | 0 => ([], at_)
 | k + 1 => ((Pm key at_ k).1 ++ encS key (Pm key at_ k).2, Yv 16 (Pm key at_ k).2)
theorem QL (key at_ : List Int) : ∀ k, (Pm key at_ k).1.length = 16 * k /\ (Pm key at_ k).2.length = at_.length
 | 0 => ⟨rfl, rfl⟩
 | k + 1 => by
  obtain ⟨h1, h2⟩ := QL key at_ k;exact ⟨by rw [Pm, aeZ, h1, (QZ _ _).1]; omega, by rw [Pm, Wy, h2]⟩
noncomputable def YH (key at_ : List Int) (n : Nat) : List Int := (Pm key at_ ((n + 15) / 16)).1.take n
theorem WS (key at_ : List Int) (n : Nat) : (YH key at_ n).length = n := by unfold YH; rw [ae0, (QL _ _ _).1]; omega
section
variable {n dn mu sm : Int} {key ta out sb bk w : List Int} {yb rn : List (List Int)}
theorem aaZ : ∀ (i : Nat), i <= 16 -> ∀ (ta : List Int), ta.length = 16 -> MO.l15 .lim (n, (i : Int) - 1, key, dn, mu, sm, sb, bk, yb, ta, out, rn, ()) = some (n, key, dn, mu, sm, sb, bk, yb, Yv i ta, out, rn, ())
 | 0, _, ta, ht => by
  rw [MO.q15];simp only [MO.b15, MR (show ¬ (((0 : Nat) : Int) - 1 >= 0) by omega), cond_false];rfl
 | i + 1, hi, ta, ht => by
  have w1 : aeF.wrap ((i : Int) - 1) = (i : Int) - 1 := wrap64 (by omega) (by omega);have ih := aaZ i (by omega) (ta.set i (ae4.wrap (rd 0 ta (i : Int) + 1))) (by simpa using ht);rw [show ((i + 1 : Nat) : Int) - 1 = (i : Int) by omega, MO.q15, Yv];simp only [MO.b15, MQ (show (i : Int) >= 0 by omega), MW (show (0 : Int) <= i by omega) (show (i : Int) < 16 by omega), cond_true, aeS, w1, ih];cases decide (rd 0 (ta.set i (ae4.wrap (rd 0 ta (i : Int) + 1))) (i : Int) = 0) <;> rfl
end
def aaM (key at_ : List Int) (n : Int) : Int := if n < 0 \/ n > 65536 then 13 else if key.length = 16 \/ key.length = 32 then (if at_.length = 16 then 0 else 10) else 13
noncomputable def aaN (key at_ : List Int) (n : Int) : List Int := if aaM key at_ n = 0 then YH key at_ n.toNat else []
theorem abh {key at_ : List Int} {q : Nat} (hk : key.length = 16 \/ key.length = 32) (hkb : Bs key) (ha : at_.length = 16) (hq : q <= 65536) :
  MO.l16 .lim ((q : Int), key, 0, 0, 0, NZ, NZ, aeT 16 NZ, at_, [], [], ()) = some ((q : Int), (Pm key at_ ((q + 15) / 16)).1, ()) := by
 have step : ∀ (k : Nat) (dn mu : Int) (sb bk : List Int) (yb rn : List (List Int)), k < (q + 15) / 16 -> MO.WB .lim ((Pm key at_ k).2, (q : Int), key, dn, mu, 0, sb, bk, yb, (Pm key at_ k).2, (Pm key at_ k).1, rn, ()) = some ((q : Int), encS key (Pm key at_ k).2, key, 1, 0, 0, PZ 256, TK 256, NS 256, (Pm key at_ k).2, (Pm key at_ k).1, OB (PU key), ()) ->
   MO.l16 .lim ((q : Int), key, dn, mu, 0, sb, bk, yb, (Pm key at_ k).2, (Pm key at_ k).1, rn, ()) = MO.l16 .lim ((q : Int), key, 1, 0, 0, PZ 256, TK 256, NS 256, (Pm key at_ (k + 1)).2, (Pm key at_ (k + 1)).1, OB (PU key), ()) := by
  intro k dn mu sb bk yb rn hk e;obtain ⟨h1, h2⟩ := QL key at_ k;have hi := aaZ (n := (q : Int)) (dn := 1) (mu := 0) (sm := 0) (key := key) (sb := PZ 256) (bk := TK 256) (yb := NS 256) (rn := OB (PU key)) (out := (Pm key at_ k).1 ++ encS key (Pm key at_ k).2) 16 (by omega) (Pm key at_ k).2 (by omega);rw [show ((16 : Nat) : Int) - 1 = 15 from rfl] at hi;rw [MO.q16];simp only [MO.b16, MX (show (Pm key at_ k).1.length < 9223372036854775808 by omega), MQ (show (((Pm key at_ k).1.length : Nat) : Int) < (q : Int) by omega), cond_true, e, aeE, ZV (QZ key (Pm key at_ k).2).1, (QZ key (Pm key at_ k).2).1, hi];rw [cond_pos (MQ (by omega))];rfl
 have fin : ∀ dn mu sb bk yb rn, MO.l16 .lim ((q : Int), key, dn, mu, 0, sb, bk, yb, (Pm key at_ ((q + 15) / 16)).2, (Pm key at_ ((q + 15) / 16)).1, rn, ()) = some ((q : Int), (Pm key at_ ((q + 15) / 16)).1, ()) := by
  intro dn mu sb bk yb rn;obtain ⟨h1, h2⟩ := QL key at_ ((q + 15) / 16);rw [MO.q16];simp only [MO.b16, MX (show (Pm key at_ ((q + 15) / 16)).1.length < 9223372036854775808 by omega), MR (show ¬ (((Pm key at_ ((q + 15) / 16)).1.length : Nat) : Int) < (q : Int) by omega), cond_true, cond_false]
 by_cases h0 : q = 0
 ·subst h0;exact fin 0 0 NZ NZ (aeT 16 NZ) []
 ·obtain ⟨p, hp⟩ : ∃ p, (q + 15) / 16 = p + 1 := ⟨(q + 15) / 16 - 1, by omega⟩;have e0 := step 0 0 0 NZ NZ (aeT 16 NZ) [] (by omega) (aak (n := (q : Int)) (sm := 0) (ta := at_) (out := []) hk hkb ha);have e1 := Oi (f := MO.l16 .lim) (fun k => ((q : Int), key, 1, 0, 0, PZ 256, TK 256, NS 256, (Pm key at_ (k + 1)).2, (Pm key at_ (k + 1)).1, OB (PU key), ())) (n := p) (fun k hkp => step (k + 1) 1 0 (PZ 256) (TK 256) (NS 256) (OB (PU key)) (by omega) (aaj (n := (q : Int)) (sm := 0) (ta := (Pm key at_ (k + 1)).2) (out := (Pm key at_ (k + 1)).1) hk hkb (by rw [(QL _ _ _).2]; exact ha)));refine e0.trans (e1.trans ?_);rw [<- hp];exact fin _ _ _ _ _ _
theorem Xg {key at_ : List Int} {n : Int} (hk : key.length < NM) (ha : at_.length < NM) (hkb : Bs key) : MO.run .lim (key, at_, n, ()) = some (aaN key at_ n, aaM key at_ n, ()) := by
 unfold aaN aaM;simp only [MO.run, MX hk, MX ha, cond_true, aeK, N8];by_cases h0 : n < 0 \/ n > 65536
 ·rw [MQ h0, if_pos h0, if_neg (by decide)]; rfl
 ·rw [MR h0, if_neg h0];simp only [cond_false];by_cases h1 : key.length = 16 \/ key.length = 32
  ·have : (!decide ((key.length : Int) = 16) && !decide ((key.length : Int) = 32)) = false := by
    rcases h1 with h | h
    ·rw [MQ (show (key.length : Int) = 16 by omega)]; rfl
    ·rw [MQ (show (key.length : Int) = 32 by omega), aeG, aeJ]
   rw [this, if_pos h1];simp only [cond_false];by_cases h2 : at_.length = 16
   ·rw [MQ (show (at_.length : Int) = 16 by omega), if_pos h2, if_pos rfl];simp only [aeG, cond_false, h2];have hn : n = ((n.toNat : Nat) : Int) := by omega
    have hl := abh (q := n.toNat) h1 hkb h2 (by omega);rw [<- hn] at hl;rw [show (afA 1 16 && afA 16 16) = true from rfl, cond_true, ae2 (by omega), hl];simp only [aeE];have := (QL key at_ ((n.toNat + 15) / 16)).1;rw [cond_pos (Nc (by omega) (by omega) (by omega)), afb, agh];rfl
   ·rw [MR (show ¬ (at_.length : Int) = 16 by omega), if_neg h2, if_neg (by decide)];rfl
  ·rw [MR (show ¬ (key.length : Int) = 16 by omega), MR (show ¬ (key.length : Int) = 32 by omega), if_neg h1, if_neg (by decide)];rfl
end Go.AM
end
section
namespace Go.AM
theorem Ot {n : Nat} (h : n < 9223372036854775808) : n < NM := h
def QW (a b : List Int) : List Int := tab a.length fun i => Hy .u8 (rd 0 a (i : Int)) (rd 0 b (i : Int))
@[simp] theorem Pn (a b : List Int) : (QW a b).length = a.length := Pj
theorem ZY (a b : List Int) : Bs (QW a b) := VD fun _ _ => Uj _ _
theorem X5 {a b : List Int} {k : Nat} (h : k < a.length) : rd 0 (QW a b) (k : Int) = Hy .u8 (rd 0 a (k : Int)) (rd 0 b (k : Int)) := QH h
theorem Qh {a b : List Int} (h : a.length <= b.length) (hb : b.length < 1000000000000) : Oz.run .lim (a, b, ()) = some (QW a b) := by
 have e := O5 (f := Oz.l0 .lim) (fun k m => (b, (a.length : Int), (k : Int), m, ())) (fun k v => Hy .u8 v (rd 0 b (k : Int))) a rfl (fun k hk m' hm hj => by
  rw [Oz.q0];simp only [Oz.b0, MQ (show (k : Int) < (a.length : Int) by omega), hm, MW (show (0 : Int) <= k by omega) (show (k : Int) < (a.length : Int) by omega), MW (show (0 : Int) <= k by omega) (show (k : Int) < (b.length : Int) by omega), cond_true, Qp k (by omega), hj k (afa _), aeS])
 simp only [Oz.run, MX (show a.length < 9223372036854775808 by omega), cond_true];rw [show (0 : Int) = ((0 : Nat) : Int) from rfl, e, Oz.q0];simp only [Oz.b0, MR (show ¬ (a.length : Int) < (a.length : Int) by omega), cond_false, aeE];rfl
theorem aa5 : ∀ n : Nat, EM [0] n = aeT n 0
 | 0 => rfl
 | n + 1 => by rw [EM, aa5 n]; rfl
theorem QA {n : Nat} (h : n <= 1000000) : OH.run .lim ((n : Int), ()) = some (aeT n 0) := by
 have : strings_Repeat.run .lim ([0], (n : Int), ()) = some (aeT n 0) := by
  show KY _ = _;unfold KY;rw [cond_pos (by simp; omega), aeS, aa5]
 simp only [OH.run, this, aeE]
def YW (b : List Int) (i : Nat) : Int := if i = 15 then I9 .u8 (rd 0 b 15) 1 else KO .u8 (I9 .u8 (rd 0 b (i : Int)) 1) (I_ .u8 (rd 0 b ((i + 1 : Nat) : Int)) 7)
def U8 (b : List Int) : List Int := if rd 0 b 0 >= 128 then (tab 16 (YW b)).set 15 (Hy .u8 (I9 .u8 (rd 0 b 15) 1) 135) else tab 16 (YW b)
theorem abb (b : List Int) (i : Nat) : B8 (YW b i) := by unfold YW; split <;> first | exact Yc _ _ | exact ac_ _ _
theorem Rh (b : List Int) : Uu (U8 b) := by
 unfold U8;split
 ·refine ⟨by simp, fun x hx => ?_⟩;rcases List.mem_or_eq_of_mem_set hx with h | rfl
  ·exact VD (fun k _ => abb b k) x h
  ·exact Uj _ _
 ·exact ⟨Pj, VD fun k _ => abb b k⟩
theorem or_zero {a : Int} (h : B8 a) : KO .u8 a 0 = a := by
 show ae4.wrap (aeX 8 a ||| aeX 8 0).toNat = a;rw [show aeX 8 0 = 0#8 from rfl, BitVec.or_zero, afe, Pg];unfold B8 at h;omega
def twP (b : List Int) (k : Nat) : List Int := tab 16 fun i => if k <= i then YW b i else rd 0 b (i : Int)
theorem aaU {b : List Int} {k : Nat} (hk : k < 16) : (twP b (k + 1)).set k (YW b k) = twP b k := by
 unfold twP;rw [Us];refine O_ fun i _ => ?_
 by_cases h1 : i = k
 ·subst h1; rw [if_pos rfl, if_pos (afa _)]
 ·rw [if_neg h1];by_cases h2 : k <= i
  ·rw [if_pos h2, if_pos (by omega)]
  ·rw [if_neg h2, if_neg (by omega)]
theorem abK {b : List Int} {k : Nat} (hk : k < 16) : rd 0 (twP b (k + 1)) (k : Int) = rd 0 b (k : Int) := by unfold twP; rw [QH hk, if_neg (by omega)]
theorem abu {x : Int} (h : B8 x) : ae4.wrap (I_ .u8 x 7 * 135) = if x >= 128 then 135 else 0 :=
 OY (p := fun x => ae4.wrap (I_ .u8 x 7 * 135) = if x >= 128 then 135 else 0) (by decide +kernel) h
theorem YI {b : List Int} (hb : Uu b) : O8.run .lim (b, ()) = some (U8 b, 0, ()) := by
 obtain ⟨hl, hB⟩ := hb;have h0 : ∀ (b : List Int), tab 16 (fun i => if 16 <= i then YW b i else rd 0 b (i : Int)) = tab 16 fun i => rd 0 b (i : Int) := fun b => O_ fun i hi => by rw [if_neg (by omega)]
 have e := Oi (f := O8.l0 .lim) (fun k => ((15 : Int) - (k : Int), (if k = 0 then 0 else I_ .u8 (rd 0 b ((16 - k : Nat) : Int)) 7 : Int), twP b (16 - k), ())) (n := 16) (fun k hk => by
  rw [O8.q0];have ei : (15 : Int) - (k : Int) = ((15 - k : Nat) : Int) := by omega
  have w1 : aeF.wrap (((15 - k : Nat) : Int) - 1) = (15 : Int) - ((k + 1 : Nat) : Int) := by rw [wrap64 (by omega) (by omega)]; omega
  have hr := abK (b := b) (k := 15 - k) (by omega);have hs := aaU (b := b) (k := 15 - k) (by omega);rw [show 15 - k + 1 = 16 - k by omega] at hr hs;have hx : B8 (rd 0 b ((15 - k : Nat) : Int)) := hB _ (Oc (by omega) (by omega));have hg : KO .u8 (I9 .u8 (rd 0 b ((15 - k : Nat) : Int)) 1) (if k = 0 then 0 else I_ .u8 (rd 0 b ((16 - k : Nat) : Int)) 7) = YW b (15 - k) := by
   unfold YW;by_cases hk0 : k = 0
   ·subst hk0; rw [if_pos rfl, if_pos (by omega), or_zero (Yc _ _)]; rfl
   ·rw [if_neg hk0, if_neg (by omega), show 15 - k + 1 = 16 - k by omega]
  have hl2 : (twP b (16 - k)).length = 16 := Pj;rw [ei];simp only [O8.b0, MQ (show ((15 - k : Nat) : Int) >= 0 by omega), hl2, MW (show (0 : Int) <= ((15 - k : Nat) : Int) by omega) (show ((15 - k : Nat) : Int) < ((16 : Nat) : Int) by omega), cond_true, hr, w1, aeS, hg, hs];rw [if_neg (by omega), show 16 - (k + 1) = 15 - k by omega])
 have hst : twP b 16 = b := by unfold twP; rw [h0, <- V3 hl]
 have w0 : aeF.wrap ((b.length : Int) - 1) = 15 := by rw [wrap64 (by omega) (by omega)]; omega
 rw [afR, hst, if_pos rfl, show (15 : Int) - ((0 : Nat) : Int) = 15 from rfl, if_neg (by omega), agk] at e;have e0 : twP b 0 = tab 16 (YW b) := O_ fun i _ => by rw [if_pos (Nat.zero_le _)]
 simp only [O8.run, MX (show b.length < 9223372036854775808 by omega), cond_true, MQ (show (b.length : Int) = 16 by omega), aeG, cond_false, w0, e, e0];rw [O8.q0];have hx0 : B8 (rd 0 b ((0 : Nat) : Int)) := hB _ (Oc (by omega) (by omega));simp only [O8.b0, MR (show ¬ ((15 : Int) - ((16 : Nat) : Int) >= 0) by omega), cond_false, aeE, Pj, MW (show (0 : Int) <= 15 by omega) (show (15 : Int) < ((16 : Nat) : Int) by omega), cond_true, abu hx0];have h15 : rd 0 (tab 16 (YW b)) 15 = I9 .u8 (rd 0 b 15) 1 := by
  have := QH (n := 16) (g := YW b) (k := 15) (by omega);rw [show ((15 : Nat) : Int) = 15 from rfl] at this;rw [this]; rfl
 rw [h15];unfold U8;rw [show ((0 : Nat) : Int) = 0 from rfl];by_cases hc : rd 0 b 0 >= 128
 ·rw [if_pos hc, if_pos hc]
 ·rw [if_neg hc, if_neg hc, xor_zero (Yc _ _), Us];congr 2
theorem Q9 {b : List Int} (hb : Uu b) : Px.run .lim (b, ()) = some (U8 b) := by simp only [Px.run, YI hb, aeE]
def UH (s : List Int) : List Int := s ++ (128 :: aeT (15 - s.length) 0)
theorem Ti {s : List Int} (h : s.length < 16) : (UH s).length = 16 := by simp [UH]; omega
noncomputable def Z7 (key s : List Int) : Nat -> List Int
 | 0 => VG
 | k + 1 => encS key (QW (Z7 key s k) ((s.drop (16 * k)).take 16))
theorem Zb (key s : List Int) : ∀ k, Uu (Z7 key s k)
 | 0 => ⟨rfl, fun x hx => by rw [(afX.1 hx).2]; exact ⟨by decide, by decide⟩⟩
 | _ + 1 => QZ _ _
noncomputable def Un (key : List Int) : List Int := U8 (encS key VG)
noncomputable def Sv (key s : List Int) : List Int := if s.length = 16 then QW s (Un key) else QW (UH s) (U8 (Un key))
noncomputable def Zc (key s : List Int) : List Int := encS key (QW (Z7 key s ((s.length - 1) / 16)) (Sv key (s.drop (16 * ((s.length - 1) / 16)))))
theorem UA (key s : List Int) : Uu (Zc key s) := QZ _ _
theorem VK {key b : List Int} (hk : key.length = 16 \/ key.length = 32) (hb : b.length = 16) : encR key b = (encS key b, 0) := by unfold encR; rw [if_pos hk, if_pos hb]
theorem Yx {key s : List Int} (h : s.length <= 16) : (Sv key s).length = 16 := by
 unfold Sv;split
 ·simpa
 ·rw [Pn, Ti (by omega)]
section
variable {key s : List Int}
theorem Tv (hk : key.length = 16 \/ key.length = 32) (hkb : Bs key) (hs : s.length < NM) : NW.run .lim ((key, Un key, U8 (Un key)), s, ()) = some (Zc key s) := by
 have z := QA (n := 16) (by omega);have hloop := Oi (f := NW.l0 .lim) (fun k => (s.drop (16 * k), key, Un key, U8 (Un key), Z7 key s k, key, Un key, U8 (Un key), ())) (n := (s.length - 1) / 16) (fun k hk' => by
  rw [NW.q0];have hl : (s.drop (16 * k)).length = s.length - 16 * k := aeW;have hc := Zb key s k;have h1 : cut (s.drop (16 * k)) 0 16 = (s.drop (16 * k)).take 16 := by have := Rj (s.drop (16 * k)) 0 16; simpa using this
  have h2 : cut (s.drop (16 * k)) 16 ((s.drop (16 * k)).length : Int) = s.drop (16 * (k + 1)) := by
   have := Rj (s.drop (16 * k)) 16 (s.drop (16 * k)).length;rw [show ((16 : Nat) : Int) = 16 from rfl] at this;rw [this, List.drop_drop, ae2 (by rw [aeW]; omega)];congr 1
  have hx := Qh (a := Z7 key s k) (b := (s.drop (16 * k)).take 16) (by rw [hc.1, ae0]; omega) (by rw [ae0]; omega);have he := Rq (key := key) (b := QW (Z7 key s k) ((s.drop (16 * k)).take 16)) (Ot (by omega)) (by rw [Pn, hc.1]; decide) hkb;rw [VK hk (by rw [Pn, hc.1])] at he;have hlim : s.length < 9223372036854775808 := hs;simp only [NW.b0, MX (show (s.drop (16 * k)).length < 9223372036854775808 by omega), MQ (show ((s.drop (16 * k)).length : Int) > 16 by omega), Nc (show (0 : Int) <= 0 by omega) (show (0 : Int) <= 16 by omega) (show (16 : Int) <= ((s.drop (16 * k)).length : Int) by omega), Nc (show (0 : Int) <= 16 by omega) (show (16 : Int) <= ((s.drop (16 * k)).length : Int) by omega) (ae9 _), cond_true, h1, h2, hx, he, aeE];rfl)
 simp only [NW.run];rw [show (16 : Int) = ((16 : Nat) : Int) from rfl, z];simp only [aeE];rw [Nat.mul_zero, afb, show Z7 key s 0 = VG from rfl] at hloop;rw [hloop];generalize hq : (s.length - 1) / 16 = q;have hl : (s.drop (16 * q)).length = s.length - 16 * q := aeW;have hlim : s.length < 9223372036854775808 := hs;rw [NW.q0];have hc := Zb key s q;have h16 : (s.drop (16 * q)).length <= 16 := by omega
 simp only [NW.b0, MX (show (s.drop (16 * q)).length < 9223372036854775808 by omega), MR (show ¬ ((s.drop (16 * q)).length : Int) > 16 by omega), cond_true, cond_false, aeE];have he := Rq (key := key) (b := QW (Z7 key s q) (Sv key (s.drop (16 * q)))) (Ot (by omega)) (by rw [Pn, hc.1]; decide) hkb;rw [VK hk (by rw [Pn, hc.1])] at he;have hll := Yx (key := key) h16;have hx2 := Qh (a := Z7 key s q) (b := Sv key (s.drop (16 * q))) (by rw [hc.1, hll]; omega) (by omega);have hcm : Zc key s = encS key (QW (Z7 key s q) (Sv key (s.drop (16 * q)))) := by unfold Zc; rw [hq]
 rw [hcm];generalize hm : s.drop (16 * q) = m at *;by_cases h3 : m.length = 16
 ·rw [MQ (show (m.length : Int) = ((16 : Nat) : Int) by omega)];have hx1 := Qh (a := m) (b := Un key) (by rw [h3, show (Un key).length = 16 from (Rh _).1]; omega) (by rw [show (Un key).length = 16 from (Rh _).1]; omega);have hls : Sv key m = QW m (Un key) := by unfold Sv; rw [if_pos h3]
  rw [hls] at hx2 he ⊢
  simp only [cond_true, hx1, aeE, hx2, he]
 ·rw [MR (show ¬ (m.length : Int) = ((16 : Nat) : Int) by omega)];have hls : Sv key m = QW (UH m) (U8 (Un key)) := by unfold Sv; rw [if_neg h3]
  have w15 : aeF.wrap (15 - (m.length : Int)) = ((15 - m.length : Nat) : Int) := by rw [wrap64 (by omega) (by omega)]; omega
  have hz := QA (n := 15 - m.length) (by omega);have abv : (m ++ [128]) ++ aeT (15 - m.length) (0 : Int) = UH m := by unfold UH; simp
  have hx1 := Qh (a := UH m) (b := U8 (Un key)) (by rw [Ti (by omega), (Rh _).1]; omega) (by rw [(Rh _).1]; omega);rw [hls] at hx2 he ⊢
  simp only [cond_false];rw [cond_pos (MQ (by unfold maxStr; simp; omega)), w15, hz];simp only [aeE];rw [cond_pos (MQ (by unfold maxStr; simp; omega)), abv, hx1];simp only [aeE, hx2, he]
end
end Go.AM
end
section
namespace Go.AM
noncomputable def s2N (key : List Int) (l : List (List Int)) : Nat -> List Int
 | 0 => Zc key VG
 | k + 1 => QW (U8 (s2N key l k)) (Zc key (rd [] l (k : Int)))
noncomputable def s2E (key d s : List Int) : List Int :=
 if s.length < 16 then Zc key (QW (UH s) (U8 d)) else Zc key (s.take (s.length - 16) ++ QW (s.drop (s.length - 16)) d)
noncomputable def s2S (key : List Int) (l : List (List Int)) : List Int :=
 if l.length = 0 then Zc key (aeT 15 0 ++ [1]) else s2E key (s2N key l (l.length - 1)) (rd [] l ((l.length - 1 : Nat) : Int))
theorem ZN (key : List Int) (l : List (List Int)) : ∀ k, Uu (s2N key l k)
 | 0 => UA _ _
 | k + 1 => ⟨by rw [s2N, Pn, (Rh _).1], ZY _ _⟩
theorem VY (key : List Int) (l : List (List Int)) : Uu (s2S key l) := by
 unfold s2S s2E;split
 ·exact UA _ _
 ·split <;> exact UA _ _
theorem abx (key : List Int) : Uu (Un key) := Rh _
theorem YE {key : List Int} (hk : key.length = 16 \/ key.length = 32) (hkb : Bs key) : QU.run .lim (key, ()) = some ((key, (Un key, U8 (Un key))), 0, ()) := by
 have z := QA (n := 16) (by omega);have aco : (aeT 16 (0 : Int)).length = 16 := rfl;have he := Rq (key := key) (b := VG) (Ot (by omega)) (by rw [aco]; decide) hkb;rw [VK hk aco] at he;simp only [QU.run];rw [show (16 : Int) = ((16 : Nat) : Int) from rfl, z];simp only [aeE, he, decide_true, aeG, cond_false, Q9 (QZ key VG)];rw [show U8 (encS key VG) = Un key from rfl, Q9 (abx key)];rfl
section
variable {key : List Int}
theorem Yf {l : List (List Int)} (hk : key.length = 16 \/ key.length = 32) (hkb : Bs key) (hl : l.length < NM) (hs : ∀ s ∈ l, s.length < NM) :
  N_.run .lim ((key, (Un key, U8 (Un key))), l, ()) = some (s2S key l) := by
 have hlim : l.length < 9223372036854775808 := hl;simp only [N_.run, MX hlim, cond_true];unfold s2S;by_cases h0 : l.length = 0
 ·rw [MQ (show (l.length : Int) = 0 by omega), if_pos h0];have z := QA (n := 15) (by omega);simp only [cond_true];rw [show (15 : Int) = ((15 : Nat) : Int) from rfl, z];simp only [aeE];rw [cond_pos (by decide), Tv hk hkb (by decide)];rfl
 ·rw [MR (show ¬ (l.length : Int) = 0 by omega), if_neg h0];have z := QA (n := 16) (by omega);have w1 : aeF.wrap ((l.length : Int) - 1) = ((l.length - 1 : Nat) : Int) := by rw [wrap64 (by omega) (by omega)]; omega
  have hc : cut l 0 ((l.length - 1 : Nat) : Int) = l.take (l.length - 1) := by
   have := Rj l 0 (l.length - 1);rw [show ((0 : Nat) : Int) = 0 from rfl] at this;rw [this, afb, afR]
  have htl : (l.take (l.length - 1)).length = l.length - 1 := by rw [ae0]; omega
  generalize hs1 : rd ([] : List Int) l ((l.length - 1 : Nat) : Int) = s;have hsl : s.length < 9223372036854775808 := by rw [<- hs1]; exact hs _ (Oc (by omega) (by omega))
  have hloop := Oi (f := N_.l0 .lim) (fun k => (s2N key l k, s, l.take (l.length - 1), ((l.length - 1 : Nat) : Int), (k : Int), key, Un key, U8 (Un key), ())) (n := l.length - 1) (fun k hk' => by
   rw [N_.q0];have hok := ZN key l k;have ht := Tv (key := key) (s := rd [] l (k : Int)) hk hkb (hs _ (Oc (by omega) (by omega)));have hx := Qh (a := U8 (s2N key l k)) (b := Zc key (rd [] l (k : Int))) (by rw [(Rh _).1, (UA _ _).1]; omega) (by rw [(UA _ _).1]; omega);simp only [N_.b0, MQ (show (k : Int) < ((l.length - 1 : Nat) : Int) by omega), htl, MW (show (0 : Int) <= k by omega) (show (k : Int) < ((l.length - 1 : Nat) : Int) by omega), Qe (d := ([] : List Int)) (xs := l) hk', cond_true, Q9 hok, aeE, ht, hx, wk k (by omega)];rfl)
  rw [show s2N key l 0 = Zc key VG from rfl, show ((0 : Nat) : Int) = 0 from rfl] at hloop;simp only [cond_false];rw [show (16 : Int) = ((16 : Nat) : Int) from rfl, z];simp only [aeE, Tv hk hkb (show (aeT 16 (0 : Int)).length < NM by decide), w1, MW (show (0 : Int) <= ((l.length - 1 : Nat) : Int) by omega) (show ((l.length - 1 : Nat) : Int) < (l.length : Int) by omega), Nc (ae9 0) (show (0 : Int) <= ((l.length - 1 : Nat) : Int) by omega) (show ((l.length - 1 : Nat) : Int) <= (l.length : Int) by omega), cond_true, hc, htl, MX (show l.length - 1 < 9223372036854775808 by omega), hs1];rw [hloop, N_.q0];simp only [N_.b0, MR (show ¬ ((l.length - 1 : Nat) : Int) < ((l.length - 1 : Nat) : Int) by omega), cond_false, aeE, MX hsl, cond_true];have w2 : aeF.wrap ((s.length : Int) - ((16 : Nat) : Int)) = (s.length : Int) - 16 := by rw [wrap64 (by omega) (by omega)]; omega
  rw [w2];have hd := ZN key l (l.length - 1);unfold s2E;by_cases h3 : s.length < 16
  ·rw [MR (show ¬ ((s.length : Int) - 16 >= 0) by omega), if_pos h3];have w15 : aeF.wrap (15 - (s.length : Int)) = ((15 - s.length : Nat) : Int) := by rw [wrap64 (by omega) (by omega)]; omega
   have hz := QA (n := 15 - s.length) (by omega);have abv : (s ++ [128]) ++ aeT (15 - s.length) (0 : Int) = UH s := by unfold UH; simp
   have hx := Qh (a := UH s) (b := U8 (s2N key l (l.length - 1))) (by rw [Ti h3, (Rh _).1]; omega) (by rw [(Rh _).1]; omega);simp only [cond_false];rw [cond_pos (MQ (by unfold maxStr; simp; omega)), w15, hz];simp only [aeE];rw [cond_pos (MQ (by unfold maxStr; simp; omega)), abv];simp only [Q9 hd, aeE, hx];rw [Tv hk hkb (by rw [Pn, Ti h3]; decide)];rfl
  ·rw [MQ (show (s.length : Int) - 16 >= 0 by omega), if_neg h3];have e16 : (s.length : Int) - 16 = ((s.length - 16 : Nat) : Int) := by omega
   have hc1 : cut s ((s.length - 16 : Nat) : Int) (s.length : Int) = s.drop (s.length - 16) := by rw [Rj, ae2 (by rw [aeW]; omega)]
   have hc2 : cut s 0 ((s.length - 16 : Nat) : Int) = s.take (s.length - 16) := by
    have := Rj s 0 (s.length - 16);rw [show ((0 : Nat) : Int) = 0 from rfl] at this;rw [this, afb, afR]
   have hx := Qh (a := s.drop (s.length - 16)) (b := s2N key l (l.length - 1)) (by rw [aeW, hd.1]; omega) (by rw [hd.1]; omega);have acX : (s.take (s.length - 16) ++ QW (s.drop (s.length - 16)) (s2N key l (l.length - 1))).length = s.length := by rw [aeZ, Pn, ae0, aeW]; omega
   simp only [e16, cond_true, Nc (ae9 0) (show (0 : Int) <= ((s.length - 16 : Nat) : Int) by omega) (show ((s.length - 16 : Nat) : Int) <= (s.length : Int) by omega), Nc (show (0 : Int) <= ((s.length - 16 : Nat) : Int) by omega) (show ((s.length - 16 : Nat) : Int) <= (s.length : Int) by omega) (ae9 _), hc1, hc2, hx, aeE];rw [cond_pos (MQ (by rw [Pn, ae0, aeW]; unfold maxStr; omega)), Tv hk hkb (by rw [acX]; exact hsl)];rfl
def Vo (v : List Int) : List Int := (v.set 8 (I8 .u8 (rd 0 v 8) 127)).set 12 (I8 .u8 (rd 0 (v.set 8 (I8 .u8 (rd 0 v 8) 127)) 12) 127)
theorem Vp (v : List Int) : (Vo v).length = v.length := by simp [Vo]
noncomputable def VB (key v s : List Int) : List Int := QW s (YH key (Vo v) s.length)
theorem RZ (key v s : List Int) : (VB key v s).length = s.length := Pn _ _
theorem Yg (key v s : List Int) : Bs (VB key v s) := ZY _ _
theorem aaO {key v : List Int} {n : Nat} (hk : key.length = 16 \/ key.length = 32) (hv : v.length = 16) (hn : n <= 65536) : aaN key v (n : Int) = YH key v n := by
 unfold aaN aaM;rw [if_neg (show ¬ ((n : Int) < 0 \/ (n : Int) > 65536) by omega), if_pos hk, if_pos hv, if_pos rfl, aeS]
theorem UZ {v s : List Int} (hk : key.length = 16 \/ key.length = 32) (hkb : Bs key) (hv : v.length = 16) (hs : s.length <= 65536) : PL.run .lim (key, v, s, ()) = some (VB key v s) := by
 have ha := Xg (key := key) (at_ := Vo v) (n := (s.length : Int)) (Ot (by omega)) (by rw [Vp, hv]; decide) hkb;rw [aaO hk (by rw [Vp, hv]) hs] at ha;have hx := Qh (a := s) (b := YH key (Vo v) s.length) (by rw [WS]; omega) (by rw [WS]; omega);unfold Vo at ha hx;simp only [PL.run, aga, hv, MW (show (0 : Int) <= 8 by omega) (show (8 : Int) < ((16 : Nat) : Int) by omega), MW (show (0 : Int) <= 12 by omega) (show (12 : Int) < ((16 : Nat) : Int) by omega), MX (show s.length < 9223372036854775808 by omega), cond_true, ha, aeE, hx];rfl
abbrev Qw (key : List Int) : List Int := key.take (key.length / 2)
abbrev Uc (key : List Int) : List Int := key.drop (key.length / 2)
def Rl (key : List Int) (ad : List (List Int)) : Int := if key.length = 32 \/ key.length = 64 then (if ad.length >= 127 then 18 else 0) else 13
noncomputable def Vy (key : List Int) (ad : List (List Int)) (plain : List Int) : List Int :=
 s2S (Qw key) (ad ++ [plain]) ++ VB (Uc key) (s2S (Qw key) (ad ++ [plain])) plain
noncomputable def Tt (key : List Int) (ad : List (List Int)) (plain : List Int) : List Int × Int :=
 if Rl key ad = 0 then (if plain.length > 65536 then ([], 12) else (Vy key ad plain, 0)) else ([], Rl key ad)
noncomputable def QO (key sealed : List Int) : List Int := VB (Uc key) (sealed.take 16) (sealed.drop 16)
noncomputable def WG (key : List Int) (ad : List (List Int)) (sealed : List Int) : List Int × Int :=
 if Rl key ad = 0 then (if sealed.length < 16 then ([], 11) else if sealed.length > 65552 then ([], 12) else
  if s2S (Qw key) (ad ++ [QO key sealed]) = sealed.take 16 then (QO key sealed, 0) else ([], 17)) else ([], Rl key ad)
theorem Um {s : List Int} (h : Bs s) (n : Nat) : Bs (s.take n) := fun x hx => h x (afo hx)
theorem XJ {s : List Int} (h : Bs s) (n : Nat) : Bs (s.drop n) := fun x hx => h x (afn hx)
theorem SG {key : List Int} (h : key.length = 32 \/ key.length = 64) : ((Qw key).length = 16 \/ (Qw key).length = 32) /\ ((Uc key).length = 16 \/ (Uc key).length = 32) := by
 unfold Qw Uc;rw [ae0, aeW]; omega
theorem UW {ad : List (List Int)} (hk : key.length < NM) (hkb : Bs key) (ha : ad.length < NM) :
  ∃ r r1, PI.run .lim (key, ad, ()) = some (r, r1, Rl key ad, ()) /\ (Rl key ad = 0 -> r = (Qw key, (Un (Qw key), U8 (Un (Qw key)))) /\ r1 = Uc key) := by
 have acW : key.length < 9223372036854775808 := hk;have acV : ad.length < 9223372036854775808 := ha;have hd : (key.length : Int).tdiv 2 = ((key.length / 2 : Nat) : Int) := by rw [ae7 (ae3 _)]; simp
 have w1 : aeF.wrap ((key.length : Int).tdiv 2) = ((key.length / 2 : Nat) : Int) := by rw [hd, wrap64 (by omega) (by omega)]
 unfold Rl;simp only [PI.run, MX acW, MX acV, cond_true, aeK, w1];by_cases h1 : key.length = 32 \/ key.length = 64
 ·have : (!decide ((key.length : Int) = 32) && !decide ((key.length : Int) = 64)) = false := by
   rcases h1 with h | h
   ·rw [MQ (show (key.length : Int) = 32 by omega)]; rfl
   ·rw [MQ (show (key.length : Int) = 64 by omega), aeG, aeJ]
  rw [this, if_pos h1];simp only [cond_false];by_cases h2 : ad.length >= 127
  ·rw [MQ (show (ad.length : Int) >= 127 by omega), if_pos h2];exact ⟨_, _, rfl, fun h => absurd h (by decide)⟩
  ·rw [MR (show ¬ (ad.length : Int) >= 127 by omega), if_neg h2];have hc1 : cut key 0 ((key.length / 2 : Nat) : Int) = Qw key := by
    have := Rj key 0 (key.length / 2);rw [show ((0 : Nat) : Int) = 0 from rfl] at this;rw [this, afb, afR]
   have hc2 : cut key ((key.length / 2 : Nat) : Int) (key.length : Int) = Uc key := by rw [Rj, ae2 (by rw [aeW]; omega)]
   simp only [cond_false, Nc (ae9 0) (show (0 : Int) <= ((key.length / 2 : Nat) : Int) by omega) (show ((key.length / 2 : Nat) : Int) <= (key.length : Int) by omega), Nc (show (0 : Int) <= ((key.length / 2 : Nat) : Int) by omega) (show ((key.length / 2 : Nat) : Int) <= (key.length : Int) by omega) (ae9 _), cond_true, hc1, hc2, YE (SG h1).1 (Um hkb _), aeE];exact ⟨_, _, rfl, fun _ => ⟨rfl, rfl⟩⟩
 ·rw [MR (show ¬ (key.length : Int) = 32 by omega), MR (show ¬ (key.length : Int) = 64 by omega), if_neg h1];exact ⟨_, _, rfl, fun h => absurd h (by decide)⟩
theorem TT {ad : List (List Int)} (h : Rl key ad = 0) : (key.length = 32 \/ key.length = 64) /\ ad.length < 127 := by
 unfold Rl at h;split at h
 ·split at h
  ·exact absurd h (by decide)
  ·exact ⟨by assumption, by omega⟩
 ·exact absurd h (by decide)
theorem Uz {ad : List (List Int)} (h : ad.length < 4398046511104) : Np.run .lim (ad, ()) = some ad := by
 simp only [Np.run];rw [cond_pos (MQ (by simpa using h)), afN]
theorem ZU {ad : List (List Int)} {plain : List Int} (hk : key.length < NM) (hkb : Bs key) (ha : ad.length < NM) (had : ∀ s ∈ ad, s.length < NM) (hp : plain.length < NM) :
  RJ.run .lim (key, ad, plain, ()) = some ((Tt key ad plain).1, (Tt key ad plain).2, ()) := by
 obtain ⟨r, r1, e, hz⟩ := UW hk hkb ha;have hp63 : plain.length < 9223372036854775808 := hp;unfold Tt;simp only [RJ.run, e, aeE, MX hp63, cond_true];by_cases h0 : Rl key ad = 0
 ·obtain ⟨rfl, rfl⟩ := hz h0;obtain ⟨h1, h2⟩ := TT h0;obtain ⟨g1, g2⟩ := SG h1;rw [MQ h0, if_pos h0];simp only [aeG, cond_false];by_cases h3 : plain.length > 65536
  ·rw [MQ (show (plain.length : Int) > 65536 by omega), if_pos h3]; rfl
  ·rw [MR (show ¬ (plain.length : Int) > 65536 by omega), if_neg h3];have hall : ∀ s ∈ ad ++ [plain], s.length < NM := fun s hs => by
    rcases afi.1 hs with hs | hs
    ·exact had s hs
    ·rw [afr.1 hs]; exact hp
   have hv := (VY (Qw key) (ad ++ [plain])).1;simp only [cond_false, Uz (show ad.length < 4398046511104 by omega), aeE];rw [cond_pos (MQ (by simp; omega)), Yf g1 (Um hkb _) (Ot (by simp; omega)) hall];simp only [aeE, UZ g2 (XJ hkb _) hv (show plain.length <= 65536 by omega)];rw [cond_pos (MQ (by rw [hv, RZ]; unfold maxStr; omega))];rfl
 ·rw [MR h0, if_neg h0];rfl
theorem YK {a b : List Int} (h : a.length = b.length) (ha : Bs a) (hb : Bs b) : QW a b = aeT a.length 0 ↔ b = a := by
 constructor
 ·intro e;refine (VU (d := 0) h.symm fun k hk => ?_);have h1 : rd 0 (QW a b) (k : Int) = 0 := by rw [e, PY (by simp; omega)]; simp
  rw [X5 (by omega)] at h1;have := xor_assoc (rd 0 a (k : Int)) (rd 0 b (k : Int)) (rd 0 b (k : Int));rw [h1, xor_self, zero_xor (hb _ (Oc (by omega) (by omega))), xor_zero (ha _ (Oc (by omega) (by omega)))] at this;exact this
 ·rintro rfl
  refine VU (d := 0) (by simp) fun k hk => ?_
  rw [Pn] at hk;rw [X5 hk, xor_self, PY (by simpa using hk)]; simp
theorem ZQ {ad : List (List Int)} {sealed : List Int} (hk : key.length < NM) (hkb : Bs key) (ha : ad.length < NM) (had : ∀ s ∈ ad, s.length < NM) (hp : sealed.length < NM) (hpb : Bs sealed) :
  RI.run .lim (key, ad, sealed, ()) = some ((WG key ad sealed).1, (WG key ad sealed).2, ()) := by
 obtain ⟨r, r1, e, hz⟩ := UW hk hkb ha;have hp63 : sealed.length < 9223372036854775808 := hp;unfold WG;simp only [RI.run, e, aeE, MX hp63, cond_true];by_cases h0 : Rl key ad = 0
 ·obtain ⟨rfl, rfl⟩ := hz h0;obtain ⟨h1, h2⟩ := TT h0;obtain ⟨g1, g2⟩ := SG h1;rw [MQ h0, if_pos h0];simp only [aeG, cond_false];by_cases h3 : sealed.length < 16
  ·rw [MQ (show (sealed.length : Int) < 16 by omega), if_pos h3]; rfl
  ·rw [MR (show ¬ (sealed.length : Int) < 16 by omega), if_neg h3];simp only [cond_false];by_cases h4 : sealed.length > 65552
   ·rw [MQ (show (sealed.length : Int) > 65552 by omega), if_pos h4]; rfl
   ·rw [MR (show ¬ (sealed.length : Int) > 65552 by omega), if_neg h4];have hc1 : cut sealed 0 16 = sealed.take 16 := by
     have := Rj sealed 0 16;simpa using this
    have hc2 : cut sealed 16 (sealed.length : Int) = sealed.drop 16 := by
     have := Rj sealed 16 sealed.length;rw [show ((16 : Nat) : Int) = 16 from rfl] at this;rw [this, ae2 (by rw [aeW]; omega)]
    have ht : (sealed.take 16).length = 16 := by rw [ae0]; omega
    have hdl : (sealed.drop 16).length = sealed.length - 16 := aeW;have hol : (QO key sealed).length = sealed.length - 16 := by unfold QO; rw [RZ, hdl]
    have hall : ∀ s ∈ ad ++ [QO key sealed], s.length < NM := fun s hs => by
     rcases afi.1 hs with hs | hs
     ·exact had s hs
     ·rw [afr.1 hs, hol]; exact Ot (by omega)
    have hv := VY (Qw key) (ad ++ [QO key sealed]);have z := QA (n := 16) (by omega);have hx := Qh (a := sealed.take 16) (b := s2S (Qw key) (ad ++ [QO key sealed])) (by rw [ht, hv.1]; omega) (by rw [hv.1]; omega);have hst := UZ (v := sealed.take 16) (s := sealed.drop 16) g2 (XJ hkb _) ht (by omega);rw [show VB (Uc key) (sealed.take 16) (sealed.drop 16) = QO key sealed from rfl] at hst;simp only [cond_false, Nc (ae9 0) (show (0 : Int) <= 16 by omega) (show (16 : Int) <= (sealed.length : Int) by omega), Nc (show (0 : Int) <= 16 by omega) (show (16 : Int) <= (sealed.length : Int) by omega) (ae9 _), cond_true, hc1, hc2, hst, aeE, Uz (show ad.length < 4398046511104 by omega)];rw [cond_pos (MQ (by simp; omega)), Yf g1 (Um hkb _) (Ot (by simp; omega)) hall];simp only [aeE, hx];rw [show (16 : Int) = ((16 : Nat) : Int) from rfl, z];simp only [aeE];have hiff := YK (a := sealed.take 16) (b := s2S (Qw key) (ad ++ [QO key sealed])) (by rw [ht, hv.1]) (Um hpb _) hv.2;rw [ht] at hiff;by_cases h5 : s2S (Qw key) (ad ++ [QO key sealed]) = sealed.take 16
    ·rw [MQ (hiff.2 h5), if_pos h5]; rfl
    ·rw [MR (fun q => h5 (hiff.1 q)), if_neg h5]; rfl
 ·rw [MR h0, if_neg h0];rfl
end
theorem YF (key : List Int) (ad : List (List Int)) (plain : List Int) : (Vy key ad plain).length = plain.length + 16 := by unfold Vy; rw [aeZ, (VY _ _).1, RZ]; omega
theorem aaL (key : List Int) (ad : List (List Int)) (plain : List Int) : Bs (Vy key ad plain) := fun x h => by
 unfold Vy at h;rcases afi.1 h with h | h
 ·exact (VY _ _).2 x h
 ·exact Yg _ _ _ x h
end Go.AM
end
section
namespace Go.AM
def Tq (key : List Int) (ad : List (List Int)) (n : Nat) : Int := if QI (key, ad, [], []) = 0 then (if n > 65536 then 12 else 0) else QI (key, ad, [], [])
theorem VW (key : List Int) (ad : List (List Int)) (p t : List Int) : QI (key, ad, p, t) = QI (key, ad, [], []) := rfl
noncomputable def QT (xs : List KK) (key : List Int) (ad : List (List Int)) (plain : List Int) : List KK × List Int × Int :=
 if Tq key ad plain.length = 0 then
  match (ae1 xs.length).find? (fun j : Nat => TY (rd k0 xs (j : Int)) (key, ad, plain, [])) with
  | some k => (xs, (rd k0 xs (k : Int)).2.2.2, 0)
  | none => if xs.length >= 2048 then (xs, [], 18) else (xs ++ [(key, ad, plain, txt (xs.length + 1) plain)], txt (xs.length + 1) plain, 0)
 else (xs, [], Tq key ad plain.length)
noncomputable def Vr (xs : List KK) (key : List Int) (ad : List (List Int)) (t : List Int) : List Int × Int :=
 if QI (key, ad, [], []) = 0 then (if t.length < 16 then ([], 11) else if t.length > 65552 then ([], 12) else
  match (ae1 xs.length).find? (fun j : Nat => hit key ad t (rd k0 xs (j : Int))) with
  | some k => ((rd k0 xs (k : Int)).2.2.1, 0)
  | none => ([], 17)) else ([], QI (key, ad, [], []))
noncomputable def Om (v : VV) (key : List Int) (ad : List (List Int)) (plain : List Int) : VV × List Int × Int :=
 bif v.1 then ((true, (QT v.2 key ad plain).1), (QT v.2 key ad plain).2) else (v, Tt key ad plain)
noncomputable def OI (v : VV) (key : List Int) (ad : List (List Int)) (t : List Int) : List Int × Int := bif v.1 then Vr v.2 key ad t else WG key ad t
structure V9 (key : List Int) (ad : List (List Int)) (s : List Int) : Prop where
 k : key.length < NM
 kb : Bs key
 a : ad.length < NM
 al : ∀ t ∈ ad, t.length < NM
 s : s.length < NM
theorem UL (key : List Int) (ad : List (List Int)) : Rl key ad = QI (key, ad, [], []) := by
 show _ = if key.length ≠ 32 /\ key.length ≠ 64 then 13 else if ad.length > 126 then 18 else 0
 unfold Rl;by_cases h : key.length = 32 \/ key.length = 64
 ·rw [if_pos h, if_neg (show ¬ (key.length ≠ 32 /\ key.length ≠ 64) by omega)];by_cases h2 : ad.length >= 127
  ·rw [if_pos h2, if_pos (show ad.length > 126 by omega)]
  ·rw [if_neg h2, if_neg (show ¬ ad.length > 126 by omega)]
 ·rw [if_neg h, if_pos (show key.length ≠ 32 /\ key.length ≠ 64 by omega)]
theorem Yn {xs : List KK} (h : xs.length < 2048) : Ny.run .lim (xs, ()) = some xs := by
 simp only [Ny.run];rw [cond_pos (MQ (by simp; omega)), afN]
theorem YG (xs : List KK) (key : List Int) (ad : List (List Int)) (plain : List Int) (b : Bool) (hx : xs.length < NM) (hok : ∀ k ∈ xs, YV k) (ha : ad.length < NM) :
  Oq.l0 .lim (xs, (xs.length : Int), 0, key, ad, plain, [], xs, b, xs, false, ()) = match (ae1 xs.length).find? (fun j : Nat => TY (rd k0 xs (j : Int)) (key, ad, plain, [])) with
   | some k => some (.inl ((k : Int), xs, key, ad, plain, [], b, xs, false, ()))
   | none => some (.inr (xs, key, ad, plain, [], b, xs, false, ())) := by
 have Yu : xs.length < 9223372036854775808 := hx;have e := PE (f := Oq.l0 .lim) (fun k => (xs, (xs.length : Int), (k : Int), key, ad, plain, [], xs, b, xs, false, ())) xs.length (fun j : Nat => TY (rd k0 xs (j : Int)) (key, ad, plain, [])) (fun k => some (.inl ((k : Int), xs, key, ad, plain, [], b, xs, false, ()))) (fun k hk => by
  rw [Oq.q0];have hm : YV (rd k0 xs k) := hok _ (Oc (by omega) (by omega));simp only [Oq.b0, Y7 (rd k0 xs k) (key, ad, plain, []) hm.2.1 ha, wk k (by omega), MQ (show (k : Int) < (xs.length : Int) by omega), MW (show (0 : Int) <= k by omega) (show (k : Int) < (xs.length : Int) by omega), cond_true, aeE])
 rw [show ((0 : Nat) : Int) = 0 from rfl] at e;rw [e];cases (ae1 xs.length).find? (fun j : Nat => TY (rd k0 xs (j : Int)) (key, ad, plain, [])) with
 | some k => rfl
 | none =>
  simp only;rw [Oq.q0];simp only [Oq.b0, MR (show ¬ (xs.length : Int) < (xs.length : Int) by omega), cond_false]
theorem X_ {v : VV} (hv : okV v) (hf : Po v = true) {key : List Int} {ad : List (List Int)} {plain : List Int} (T : V9 key ad plain) :
  Oq.run .lim (v, key, ad, plain, ()) = some ((Om v key ad plain).1, (Om v key ad plain).2.1, (Om v key ad plain).2.2, ()) := by
 obtain ⟨b, xs⟩ := v;have hx : xs.length < NM := hv.1;have hp63 : plain.length < 9223372036854775808 := T.s;have Yu : xs.length < 9223372036854775808 := hx;unfold Om;cases b with
 | false =>
  have hn : xs = [] := by
   unfold Po at hf;simpa using hf
  subst hn;have hs := ZU T.k T.kb T.a T.al T.s;simp only [Oq.run, Pv.run, hs, aeE, cond_false];unfold Tt;by_cases h0 : Rl key ad = 0
  ·rw [if_pos h0];by_cases h1 : plain.length > 65536
   ·rw [if_pos h1]; rfl
   ·rw [if_neg h1]; rfl
  ·rw [if_neg h0, MR h0]; rfl
 | true =>
  have hr := UN (key, ad, plain, []) T.k T.a;rw [VW] at hr;have hf' := YG xs key ad plain true hx hv.2 T.a;simp only [Oq.run, hr, aeE, MX hp63, MX Yu, cond_true, hf'];unfold QT Tq;by_cases h0 : QI (key, ad, [], []) = 0
  ·rw [MQ h0, if_pos h0];simp only [aeG, cond_false];by_cases h1 : plain.length > 65536
   ·rw [MQ (show (plain.length : Int) > 65536 by omega), if_pos h1, if_neg (by decide)]; rfl
   ·rw [MR (show ¬ (plain.length : Int) > 65536 by omega), if_neg h1, if_pos rfl];simp only [cond_false];cases hq : (ae1 xs.length).find? (fun j : Nat => TY (rd k0 xs (j : Int)) (key, ad, plain, [])) with
    | some k =>
     have hk : k < xs.length := ae6.1 (afh hq);simp only [aeE];rw [cond_pos (MQ (by omega)), cond_pos (MW (by omega) (by omega))]
    | none =>
     simp only [aeE, MX Yu, cond_true];by_cases h2 : xs.length >= 2048
     ·rw [MQ (show (xs.length : Int) >= 2048 by omega), if_pos h2]; rfl
     ·rw [MR (show ¬ (xs.length : Int) >= 2048 by omega), if_neg h2];have adE : ad.length <= 126 := by
       have := TT (key := key) (ad := ad) (by rw [UL]; exact h0);omega
      have w1 : aeF.wrap ((xs.length : Int) + 1) = (xs.length : Int) + 1 := wrap64 (by omega) (by omega);simp only [cond_false, Uz (show ad.length < 4398046511104 by omega), aeE, w1, number_eq ((xs.length : Int) + 1) plain (by omega) (by omega) (by omega), Yn (show xs.length < 2048 by omega)];rw [cond_pos (MQ (by simp; omega))]
  ·rw [MR h0, if_neg h0, if_neg h0]; rfl
theorem Xy (xs : List KK) (key : List Int) (ad : List (List Int)) (t : List Int) (hx : xs.length < NM) (hok : ∀ k ∈ xs, YV k) (ha : ad.length < NM) :
  Oh.l0 .lim (xs, (xs.length : Int), 0, key, ad, [], t, xs, ()) = match (ae1 xs.length).find? (fun j : Nat => hit key ad t (rd k0 xs (j : Int))) with
   | some k => some (.inl ((k : Int), xs, ()))
   | none => some (.inr (xs, ())) := by
 have Yu : xs.length < 9223372036854775808 := hx;have e := PE (f := Oh.l0 .lim) (fun k => (xs, (xs.length : Int), (k : Int), key, ad, [], t, xs, ())) xs.length (fun j : Nat => hit key ad t (rd k0 xs (j : Int))) (fun k => some (.inl ((k : Int), xs, ()))) (fun k hk => by
  rw [Oh.q0];have hm : YV (rd k0 xs k) := hok _ (Oc (by omega) (by omega));simp only [Oh.b0, Wp _ _ hm.2.1 ha, wk k (by omega), MQ (show (k : Int) < (xs.length : Int) by omega), MW (show (0 : Int) <= k by omega) (show (k : Int) < xs.length by omega)];unfold hit;cases decide ((rd k0 xs k).2.2.2 = t) && decide ((rd k0 xs k).1 = key) <;> simp only [cond_true, cond_false, aeE, aeI, aeK, aeQ, aeR, aeO, aeJ, aeL, aeP, aeN, aeG, aeH, aeV, aeM, aeU])
 rw [show ((0 : Nat) : Int) = 0 from rfl] at e;rw [e];cases (ae1 xs.length).find? (fun j : Nat => hit key ad t (rd k0 xs (j : Int))) with
 | some k => rfl
 | none =>
  simp only;rw [Oh.q0];simp only [Oh.b0, MR (show ¬ (xs.length : Int) < (xs.length : Int) by omega), cond_false]
theorem WH {v : VV} (hv : okV v) {key : List Int} {ad : List (List Int)} {t : List Int} (T : V9 key ad t) (htb : Bs t) :
  Oh.run .lim (v, key, ad, t, ()) = some ((OI v key ad t).1, (OI v key ad t).2, ()) := by
 obtain ⟨b, xs⟩ := v;have hx : xs.length < NM := hv.1;have hp63 : t.length < 9223372036854775808 := T.s;have Yu : xs.length < 9223372036854775808 := hx;unfold OI;cases b with
 | false =>
  have hs := ZQ T.k T.kb T.a T.al T.s htb;simp only [Oh.run, Pq.run, hs, aeE, cond_false]
 | true =>
  have hr := UN (key, ad, [], t) T.k T.a;rw [VW] at hr;have hf' := Xy xs key ad t hx hv.2 T.a;simp only [Oh.run, hr, aeE, MX hp63, MX Yu, cond_true, hf'];unfold Vr;by_cases h0 : QI (key, ad, [], []) = 0
  ·rw [MQ h0, if_pos h0];simp only [aeG, cond_false];by_cases h1 : t.length < 16
   ·rw [MQ (show (t.length : Int) < 16 by omega), if_pos h1]; rfl
   ·rw [MR (show ¬ (t.length : Int) < 16 by omega), if_neg h1];by_cases h2 : t.length > 65552
    ·rw [MQ (show (t.length : Int) > 65552 by omega), if_pos h2]; rfl
    ·rw [MR (show ¬ (t.length : Int) > 65552 by omega), if_neg h2];simp only [cond_false];cases hq : (ae1 xs.length).find? (fun j : Nat => hit key ad t (rd k0 xs (j : Int))) with
     | some k =>
      have hk : k < xs.length := ae6.1 (afh hq);simp only [aeE];rw [cond_neg (MR (by omega)), cond_pos (MW (by omega) (by omega))]
     | none => rfl
  ·rw [MR h0, if_neg h0]; rfl
end Go.AM
end
section
namespace Go.AM
theorem aaF {key : List Int} {ad : List (List Int)} {plain : List Int} (T : V9 key ad plain) (hp : plain.length <= 65536) (n : Int) : YV (key, ad, plain, txt n plain) :=
 ⟨T.k, T.a, T.al, T.s, by simp only [txt, Tf, aeZ, af_, afZ, afv]; omega⟩
theorem SQ {key : List Int} {ad : List (List Int)} {n : Nat} (h0 : Tq key ad n = 0) : QI (key, ad, [], []) = 0 /\ n <= 65536 := by
 unfold Tq at h0;split at h0
 ·split at h0
  ·exact absurd h0 (by decide)
  ·exact ⟨by assumption, by omega⟩
 ·exact absurd h0 (by assumption)
theorem QF (xs : List KK) (key : List Int) (ad : List (List Int)) (plain : List Int) :
  ((QT xs key ad plain).2.2 ≠ 0 /\ (QT xs key ad plain).1 = xs /\ (QT xs key ad plain).2.1 = []) \/
  (Tq key ad plain.length = 0 /\ (∃ k, k < xs.length /\ TY (rd k0 xs (k : Int)) (key, ad, plain, []) = true /\ QT xs key ad plain = (xs, (rd k0 xs (k : Int)).2.2.2, 0))) \/
  (Tq key ad plain.length = 0 /\ xs.length < 2048 /\ (∀ k, k < xs.length -> TY (rd k0 xs (k : Int)) (key, ad, plain, []) = false) /\ QT xs key ad plain = (xs ++ [(key, ad, plain, txt (xs.length + 1) plain)], txt (xs.length + 1) plain, 0)) := by
 unfold QT;by_cases h0 : Tq key ad plain.length = 0
 ·rw [if_pos h0];cases hq : (ae1 xs.length).find? (fun j : Nat => TY (rd k0 xs (j : Int)) (key, ad, plain, [])) with
  | some k => exact .inr (.inl ⟨h0, k, ae6.1 (afh hq), by simpa using afK hq, rfl⟩)
  | none =>
   simp only;by_cases h2 : xs.length >= 2048
   ·rw [if_pos h2]; exact .inl ⟨show (18 : Int) ≠ 0 by decide, rfl, rfl⟩
   ·rw [if_neg h2];refine .inr (.inr ⟨h0, by omega, fun k hk => ?_, rfl⟩);have := afB.1 hq k (ae6.2 hk);simpa using this
 ·rw [if_neg h0]; exact .inl ⟨h0, rfl, rfl⟩
theorem Zw {v : VV} (hv : okV v) {key : List Int} {ad : List (List Int)} {plain : List Int} (T : V9 key ad plain) : okV (Om v key ad plain).1 := by
 obtain ⟨b, xs⟩ := v;unfold Om;cases b with
 | false => exact hv
 | true =>
  simp only [cond_true];rcases QF xs key ad plain with ⟨_, h, _⟩ | ⟨_, k, _, _, h⟩ | ⟨h0, h1, _, h⟩
  ·rw [h]; exact hv
  ·rw [h]; exact hv
  ·rw [h];refine ⟨by simp; omega, fun q hq => ?_⟩;rcases afi.1 hq with hq | hq
   ·exact hv.2 q hq
   ·rw [afr.1 hq]; exact aaF T (SQ h0).2 _
theorem XO {xs : List KK} (h : Po (true, xs) = true) : xs.length <= 2048 /\ ∀ i, i < xs.length -> U5 xs i = false := by
 unfold Po at h;simp only [cond_true, afd, decide_eq_true_eq, afl, afD, ae6] at h;exact ⟨h.1, fun i hi => by simpa using h.2 i hi⟩
theorem Y_ {xs : List KK} {q : KK} {i : Nat} (hi : i < xs.length) : U5 (xs ++ [q]) i = U5 xs i := by
 unfold U5;rw [XC hi, any_congr (d := fun j => TY (rd k0 xs (j : Int)) (rd k0 xs (i : Int))) fun j hj => by rw [XC (by omega)]]
theorem X3 {α : Type} {d : α} {xs : List α} {q : α} : rd d (xs ++ [q]) (xs.length : Int) = q := by rw [PY (by simp)]; simp
theorem Wq {v : VV} (hf : Po v = true) (key : List Int) (ad : List (List Int)) (plain : List Int) : Po (Om v key ad plain).1 = true := by
 obtain ⟨b, xs⟩ := v;unfold Om;cases b with
 | false => exact hf
 | true =>
  simp only [cond_true];obtain ⟨f1, f2⟩ := XO hf;rcases QF xs key ad plain with ⟨_, h, _⟩ | ⟨_, k, _, _, h⟩ | ⟨h0, h1, h2, h⟩
  ·rw [h]; exact hf
  ·rw [h]; exact hf
  ·rw [h];obtain ⟨g1, g2⟩ := SQ h0;unfold Po;simp only [cond_true, afd, decide_eq_true_eq, afl, afD, ae6, aeZ, List.length_singleton];refine ⟨by omega, fun i hi => ?_⟩;by_cases hl : i < xs.length
   ·rw [Y_ hl, f2 i hl]; simp
   ·obtain rfl : i = xs.length := by omega
    unfold U5;rw [X3];rw [any_congr (d := fun _ => false) fun j hj => by
     rw [XC hj];have := h2 j hj;unfold TY at this ⊢
     exact this]
    rw [VW, g1, MQ rfl, MR (show ¬ plain.length > 65536 by omega), MQ rfl];simp
theorem Ym (n : Int) (k : Nat) : 0 <= byteOf n k /\ byteOf n k < 256 := by unfold byteOf; omega
theorem Zg {xs : List KK} (h : Po (true, xs) = true) {i : Nat} (hi : i < xs.length) : (rd k0 xs (i : Int)).2.2.2 = txt ((i + 1 : Nat) : Int) (rd k0 xs (i : Int)).2.2.1 /\ (rd k0 xs (i : Int)).2.2.1.length <= 65536 := by
 have := (XO h).2 i hi;unfold U5 at this;simp only [Bool.or_eq_false_iff, Bool.not_eq_false', decide_eq_true_eq, decide_eq_false_iff_not] at this;exact ⟨by rw [this.1.2]; congr 1, by omega⟩
theorem Yi (n : Int) (p : List Int) : (txt n p).length = p.length + 16 := by simp [txt, Tf]; omega
theorem acP (n : Int) (p : List Int) : Bs (txt n p) := fun x hx => by
 unfold txt at hx;rcases afi.1 hx with h | h
 ·obtain ⟨i, _, rfl⟩ := afC.1 h;exact Ym _ _
 ·rw [(afX.1 h).2]; exact ⟨by decide, by decide⟩
end Go.AM
end
section
namespace Go.AM
def vB (v : VV) : Prop := ∀ k ∈ v.2, Bs k.2.2.1
def Ext (v w : VV) : Prop := v.1 = w.1 /\ ∃ l, w.2 = v.2 ++ l
theorem Ext.trans {u v w : VV} (a : Ext u v) (b : Ext v w) : Ext u w := by
 obtain ⟨l, hl⟩ := a.2; obtain ⟨m, hm⟩ := b.2;exact ⟨a.1.trans b.1, l ++ m, by rw [hm, hl, aft]⟩
theorem Ya {v : VV} {key : List Int} {ad : List (List Int)} {s : List Int} (he : (Om v key ad s).2.2 ≠ 0) : (Om v key ad s).1 = v /\ (Om v key ad s).2.1 = [] := by
 obtain ⟨b, xs⟩ := v;cases b with
 | false =>
  refine ⟨rfl, ?_⟩;simp only [Om, cond_false] at he ⊢
  unfold Tt at he ⊢
  by_cases h : Rl key ad = 0
  ·rw [if_pos h] at he ⊢
   by_cases h' : s.length > 65536
   ·rw [if_pos h']
   ·rw [if_neg h'] at he; exact absurd rfl he
  ·rw [if_neg h]
 | true =>
  simp only [Om, cond_true] at he ⊢
  rcases QF xs key ad s with ⟨_, h, h'⟩ | ⟨_, _, _, _, h⟩ | ⟨_, _, _, h⟩
  ·rw [h, h']; exact ⟨rfl, rfl⟩
  ·rw [h] at he; exact absurd rfl he
  ·rw [h] at he; exact absurd rfl he
theorem XF {xs : List KK} {key : List Int} {ad : List (List Int)} {s : List Int} (hf : Po (true, xs) = true) (he : (QT xs key ad s).2.2 = 0) :
  Tq key ad s.length = 0 /\ ∃ k, k < (QT xs key ad s).1.length /\ rd k0 (QT xs key ad s).1 (k : Int) = (key, ad, s, (QT xs key ad s).2.1) := by
 rcases QF xs key ad s with ⟨h, _, _⟩ | ⟨h0, k, hk, ha, h⟩ | ⟨h0, h1, h2, h⟩
 ·exact absurd he h
 ·rw [h];refine ⟨h0, k, hk, ?_⟩;unfold TY at ha;simp only [afd, decide_eq_true_eq] at ha;obtain ⟨⟨a1, a2⟩, a3⟩ := ha;rw [<- a1, <- a2, <- a3]
 ·rw [h];exact ⟨h0, xs.length, by simp, X3⟩
theorem WQ {v : VV} {key : List Int} {ad : List (List Int)} {s : List Int} (hf : Po v = true) (he : (Om v key ad s).2.2 = 0) :
  QI (key, ad, [], []) = 0 /\ s.length <= 65536 /\ (Om v key ad s).2.1.length = s.length + 16 /\ Bs (Om v key ad s).2.1 := by
 have hfw := Wq hf key ad s;obtain ⟨b, xs⟩ := v;cases b with
 | false =>
  simp only [Om, cond_false] at he ⊢
  have h0 : Rl key ad = 0 /\ s.length <= 65536 := by
   unfold Tt at he;by_cases h : Rl key ad = 0
   ·rw [if_pos h] at he;by_cases h' : s.length > 65536
    ·rw [if_pos h'] at he; exact absurd he (by decide)
    ·exact ⟨h, by omega⟩
   ·rw [if_neg h] at he; exact absurd he h
  have hr : Tt key ad s = (Vy key ad s, 0) := by unfold Tt; rw [if_pos h0.1, if_neg (by omega)]
  rw [hr];exact ⟨by rw [<- UL]; exact h0.1, h0.2, YF _ _ _, aaL _ _ _⟩
 | true =>
  simp only [Om, cond_true] at he hfw ⊢
  obtain ⟨h0, k, hk, e⟩ := XF hf he;obtain ⟨g1, g2⟩ := SQ h0;have ht := (Zg hfw hk).1;rw [e] at ht;simp only at ht;refine ⟨g1, g2, by rw [ht, Yi], by rw [ht]; exact acP _ _⟩
theorem Xx {xs : List KK} {key : List Int} {ad : List (List Int)} {t : List Int} (h : (Vr xs key ad t).2 = 0) :
  ∃ k, k < xs.length /\ rd k0 xs (k : Int) = (key, ad, (Vr xs key ad t).1, t) := by
 unfold Vr at h ⊢
 by_cases h0 : QI (key, ad, [], []) = 0
 ·rw [if_pos h0] at h ⊢
  by_cases h1 : t.length < 16
  ·rw [if_pos h1] at h; exact absurd h (by decide)
  ·rw [if_neg h1] at h ⊢
   by_cases h2 : t.length > 65552
   ·rw [if_pos h2] at h; exact absurd h (by decide)
   ·rw [if_neg h2] at h ⊢
    cases hq : (ae1 xs.length).find? (fun j : Nat => hit key ad t (rd k0 xs (j : Int))) with
    | none => rw [hq] at h; exact absurd h (show (17 : Int) ≠ 0 by decide)
    | some k =>
     have hh : hit key ad t (rd k0 xs (k : Int)) = true := by simpa using afK hq
     unfold hit at hh;simp only [afd, decide_eq_true_eq] at hh;obtain ⟨⟨a1, a2⟩, a3⟩ := hh;refine ⟨k, ae6.1 (afh hq), ?_⟩;simp only;rw [<- a1, <- a2, <- a3]
 ·rw [if_neg h0] at h; exact absurd h h0
theorem UG {v : VV} {key : List Int} {ad : List (List Int)} {t : List Int} (hf : Po v = true) (hb : vB v) (h : (OI v key ad t).2 = 0) :
  QI (key, ad, [], []) = 0 /\ (OI v key ad t).1.length <= 65536 /\ t.length = (OI v key ad t).1.length + 16 /\ Bs (OI v key ad t).1 := by
 obtain ⟨b, xs⟩ := v;cases b with
 | false =>
  simp only [OI, cond_false] at h ⊢
  unfold WG at h ⊢
  by_cases h0 : Rl key ad = 0
  ·rw [if_pos h0] at h ⊢
   by_cases h1 : t.length < 16
   ·rw [if_pos h1] at h; exact absurd h (by decide)
   ·rw [if_neg h1] at h ⊢
    by_cases h2 : t.length > 65552
    ·rw [if_pos h2] at h; exact absurd h (by decide)
    ·rw [if_neg h2] at h ⊢
     split at h
     ·rename_i q;rw [if_pos q];have hl : (QO key t).length = t.length - 16 := by unfold QO; rw [RZ, aeW]
      refine ⟨by rw [<- UL]; exact h0, by rw [hl]; omega, by rw [hl]; omega, ?_⟩;unfold QO; exact Yg _ _ _
     ·exact absurd h (by decide)
  ·rw [if_neg h0] at h; exact absurd h h0
 | true =>
  simp only [OI, cond_true] at h ⊢
  obtain ⟨k, hk, e⟩ := Xx h;obtain ⟨f1, f2⟩ := Zg hf hk;rw [e] at f1 f2;simp only at f1 f2;refine ⟨?_, f2, (congrArg List.length f1).trans (Yi _ _), ?_⟩
  ·unfold Vr at h;by_cases h0 : QI (key, ad, [], []) = 0
   ·exact h0
   ·rw [if_neg h0] at h; exact absurd h h0
  ·have := hb (rd k0 xs (k : Int)) (Oc (by omega) (by show (k : Int) < (xs.length : Int); omega));rw [e] at this;exact this
theorem v_B {v : VV} (h : Ty.ok (.pair .bool (.lst (.pair .str (.pair (.lst .str) (.pair .str .str))))) v) : vB v := by
 obtain ⟨_, h1, h2⟩ := h;intro k hk;obtain ⟨a, ⟨b1, b2⟩, c, d⟩ := h2 k hk;exact c.2
end Go.AM
end
section
namespace Go.AM
abbrev RK := Int × List Int × Int
abbrev r0 : RK := (0, ([], 0))
abbrev RR := List RK × Int
abbrev CK := Int × List Int × List Int
def Vh (a : Int) : Int := if a = 15 then 32 else if a = 17 then 64 else 0
theorem Zl (a : Int) : PX.run .lim (a, ()) = some (Vh a) := by
 simp only [PX.run];unfold Vh;by_cases h : a = 15
 ·rw [MQ h, if_pos h]; rfl
 ·rw [MR h, if_neg h];by_cases h2 : a = 17
  ·rw [MQ h2, if_pos h2]; rfl
  ·rw [MR h2, if_neg h2]; rfl
def R_ (k : CK) : Bool := decide (Vh k.1 > 0) && decide ((k.2.1.length : Int) = Vh k.1) && decide ((k.2.2.length : Int) = Vh k.1)
structure KOk (k : CK) : Prop where
 a : k.2.1.length < NM
 b : k.2.2.length < NM
theorem XL {k : CK} (h : KOk k) : P7.run .lim (k, ()) = some (R_ k) := by
 have h1 : k.2.1.length < 9223372036854775808 := h.a;have h2 : k.2.2.length < 9223372036854775808 := h.b;simp only [P7.run, Zl, aeE, MX h1, MX h2, aeK, cond_true];rfl
theorem TM {k : CK} (h : R_ k = true) : (k.1 = 15 /\ k.2.1.length = 32 /\ k.2.2.length = 32) \/ (k.1 = 17 /\ k.2.1.length = 64 /\ k.2.2.length = 64) := by
 unfold R_ Vh at h;simp only [afd, decide_eq_true_eq] at h;by_cases h1 : k.1 = 15
 ·rw [if_pos h1] at h; omega
 ·rw [if_neg h1] at h;by_cases h2 : k.1 = 17
  ·rw [if_pos h2] at h; omega
  ·rw [if_neg h2] at h; omega
def OV (k : CK) : List Int := [0, k.1, 0, 0] ++ k.2.1 ++ k.2.2
theorem XB {k : CK} : (OV k).length = 4 + k.2.1.length + k.2.2.length := by simp [OV]; omega
theorem Vb {k : CK} (h : R_ k = true) : PD.run .lim (k, ()) = some (OV k) := by
 have hs := TM h;simp only [PD.run];have e1 : ae4.wrap (I_ .i64 k.1 8) = 0 := by rcases hs with ⟨q, _⟩ | ⟨q, _⟩ <;> rw [q] <;> decide
 have e2 : ae4.wrap k.1 = k.1 := by rcases hs with ⟨q, _⟩ | ⟨q, _⟩ <;> rw [q] <;> decide
 rw [e1, e2, cond_pos (MQ (by unfold maxStr; simp; omega)), cond_pos (MQ (by unfold maxStr; simp; omega))];rfl
def S_ (id : Int) : List Int := [ae4.wrap (I_ .u32 id 24), ae4.wrap (I_ .u32 id 16), ae4.wrap (I_ .u32 id 8), ae4.wrap id]
structure ROk (r : RR) : Prop where
 len : 1 <= r.1.length /\ r.1.length <= 8
 key : ∀ k ∈ r.1, k.2.1.length = 32
 kb : ∀ k ∈ r.1, Bs k.2.1
def Tc (r : RR) : RK := rd r0 r.1 ((r.1.length - 1 : Nat) : Int)
theorem TN {r : RR} (h : ROk r) : Tc r ∈ r.1 := Oc (by omega) (by have := h.len.1; omega)
noncomputable def mkS (v : VV) (m : RK) (k : CK) (Nq : List Int) : VV × List Int × Int :=
 if R_ k = true then (if Nq.length = 16 then (
   if (Om v m.2.1 [S_ m.1, Nq] (OV k)).2.2 = 0 then ((Om v m.2.1 [S_ m.1, Nq] (OV k)).1, (S_ m.1 ++ Nq) ++ (Om v m.2.1 [S_ m.1, Nq] (OV k)).2.1, 0)
   else (v, [], (Om v m.2.1 [S_ m.1, Nq] (OV k)).2.2)) else (v, [], 10)) else (v, [], 13)
theorem aa0 {m : RK} (hk : m.2.1.length = 32) (hkb : Bs m.2.1) {k : CK} (hf : R_ k = true) {Nq : List Int} (hn : Nq.length = 16) : V9 m.2.1 [S_ m.1, Nq] (OV k) := by
 have := TM hf;refine ⟨Ot (by omega), hkb, (show (2 : Nat) < NM by decide), fun t ht => ?_, Ot (by rw [XB]; omega)⟩;simp only [afq, afp, or_false] at ht;rcases ht with rfl | rfl
 ·exact (by decide : 4 < NM)
 ·exact Ot (by omega)
theorem WO {v : VV} (hf : Po v = true) (key : List Int) (ad : List (List Int)) (s : List Int) : (Om v key ad s).2.1.length <= 65552 := by
 by_cases he : (Om v key ad s).2.2 = 0
 ·have := WQ hf he; omega
 ·rw [(Ya he).2]; exact Nat.zero_le _
theorem aaD {id : Int} {Nq s : List Int} (hn : Nq.length = 16) (hs : s.length < 9223372036854775000) : decide ((S_ id).length + Nq.length <= maxStr) = true /\ decide ((S_ id ++ Nq).length + s.length <= maxStr) = true := by
 have : (S_ id).length = 4 := rfl;exact ⟨MQ (by rw [this]; unfold maxStr; omega), MQ (by rw [aeZ, this]; unfold maxStr; omega)⟩
end Go.AM
end
section
namespace Go.AM
theorem aby {r : RR} (h : ROk r) : aeF.wrap ((r.1.length : Int) - 1) = ((r.1.length - 1 : Nat) : Int) := by have := h.len; rw [wrap64 (by omega) (by omega)]; omega
end Go.AM
end
section
namespace Go.AM
theorem Qi (n : Int) : ae8.wrap n = n % 4294967296 := by unfold agf; simp [agc, af0]
theorem Qj (n : Int) : afj.wrap n = n % 18446744073709551616 := by unfold agf; simp [agc, af0]
theorem XA {w x y : Nat} (hx : x < 2 ^ w) (hy : y < 2 ^ w) : (aeX w (x : Int) ||| aeX w (y : Int)).toNat = x ||| y := by
 rw [BitVec.toNat_or, afe, afe];have e : ∀ z : Nat, z < 2 ^ w -> ((z : Int) % ((2 ^ w : Nat) : Int)).toNat = z := fun z hz => by rw [<- Int.natCast_emod, aeS, Nat.mod_eq_of_lt hz]
 rw [e x hx, e y hy]
theorem Xz {a b m : Nat} (h : b < 2 ^ m) : 2 ^ m * a ||| b = 2 ^ m * a + b := (Nat.two_pow_add_eq_or_of_lt h a).symm
theorem Zi {a b : Nat} (m : Nat) (h : b < 2 ^ m) (hm : 2 ^ m * a + b < 4294967296) : KO .u32 ((2 ^ m * a : Nat) : Int) (b : Int) = ((2 ^ m * a + b : Nat) : Int) := by
 show ae8.wrap ((aeX 32 ((2 ^ m * a : Nat) : Int) ||| aeX 32 (b : Int)).toNat : Int) = _;rw [XA (afc (afI _ _) hm) (afc (afP _ _) hm), Xz h, Qi];omega
theorem acp {a b : Nat} (m : Nat) (h : b < 2 ^ m) (hm : 2 ^ m * a + b < 9223372036854775808) : KO .i64 ((2 ^ m * a : Nat) : Int) (b : Int) = ((2 ^ m * a + b : Nat) : Int) := by
 show aeF.wrap ((aeX 64 ((2 ^ m * a : Nat) : Int) ||| aeX 64 (b : Int)).toNat : Int) = _;have h1 : 2 ^ m * a < 2 ^ 64 := afc (afI _ b) (afY hm (by decide));have h2 : b < 2 ^ 64 := afc (afP _ (2 ^ m * a)) (afY hm (by decide));rw [XA h1 h2, Xz h, wrap64 (by omega) (by omega)]
theorem SA {a : Int} (h : B8 a) : ∃ n : Nat, a = (n : Int) /\ n < 256 := ⟨a.toNat, by have := h.1; omega, by have := h.1; have := h.2; omega⟩
theorem abE {a b : Int} (ha : B8 a) (hb : B8 b) : KO .i64 (I9 .i64 (aeF.wrap a) 8) (aeF.wrap b) = a * 256 + b := by
 obtain ⟨x, rfl, hx⟩ := SA ha;obtain ⟨y, rfl, hy⟩ := SA hb;rw [wrap64 (by omega) (by omega), wrap64 (by omega) (by omega)];have e : I9 .i64 (x : Int) 8 = ((2 ^ 8 * x : Nat) : Int) := by
  show aeF.wrap ((x : Int) * 2 ^ 8) = _;rw [wrap64 (by omega) (by omega)]; omega
 rw [e, acp 8 (by omega) (by omega)];omega
theorem ZP {x : Nat} (hx : x < 256) (m : Nat) (hm : m <= 24) : I9 .u32 (x : Int) (m : Int) = ((2 ^ m * x : Nat) : Int) := by
 show ae8.wrap ((x : Int) * 2 ^ min ((m : Int).toNat) 32) = _;rw [aeS, afQ (by omega), Qi];have h1 : 2 ^ m <= 2 ^ 24 := afw (by decide) hm;have h2 : 2 ^ m * x < 4294967296 := afc (Nat.mul_le_mul h1 (Nat.le_of_lt_succ (show x < 255 + 1 by omega))) (by decide);rw [show (x : Int) * 2 ^ m = ((2 ^ m * x : Nat) : Int) by rw [Nat.mul_comm]; simp];omega
theorem ac8 {a b c d : Int} (ha : B8 a) (hb : B8 b) (hc : B8 c) (hd : B8 d) :
  KO .u32 (KO .u32 (KO .u32 (I9 .u32 (ae8.wrap a) 24) (I9 .u32 (ae8.wrap b) 16)) (I9 .u32 (ae8.wrap c) 8)) (ae8.wrap d) = ((a * 256 + b) * 256 + c) * 256 + d := by
 obtain ⟨x, rfl, hx⟩ := SA ha;obtain ⟨y, rfl, hy⟩ := SA hb;obtain ⟨z, rfl, hz⟩ := SA hc;obtain ⟨t, rfl, ht⟩ := SA hd;have w : ∀ n : Nat, n < 256 -> ae8.wrap (n : Int) = (n : Int) := fun n hn => by rw [Qi]; omega
 rw [w x hx, w y hy, w z hz, w t ht, show (24 : Int) = ((24 : Nat) : Int) from rfl, show (16 : Int) = ((16 : Nat) : Int) from rfl, show (8 : Int) = ((8 : Nat) : Int) from rfl,
  ZP hx 24 (by decide), ZP hy 16 (by decide), ZP hz 8 (by decide), Zi 24 (by omega) (by omega),
  show ((2 ^ 24 * x + 2 ^ 16 * y : Nat) : Int) = ((2 ^ 16 * (256 * x + y) : Nat) : Int) by omega, Zi 16 (by omega) (by omega),
  show ((2 ^ 16 * (256 * x + y) + 2 ^ 8 * z : Nat) : Int) = ((2 ^ 8 * ((256 * x + y) * 256 + z) : Nat) : Int) by omega, Zi 8 (by omega) (by omega)]
 omega
theorem Oj (x : Int) (k m : Nat) (K : IntKind) (hm : m <= K.bits) : I_ K x (m : Int) = x / 2 ^ m := by
 show x.fdiv (2 ^ min ((m : Int).toNat) K.bits) = _;rw [aeS, afQ hm, afm _ (by exact afu (afs (by decide)))]
end Go.AM
end
section
namespace Go.AM
def Rz (xs : List RK) (id : Int) : Int := match (ae1 xs.length).find? (fun j : Nat => decide ((rd r0 xs (j : Int)).1 = id)) with
 | some k => (k : Int)
 | none => -1
theorem abL {r : RR} (id : Int) (h : r.1.length < NM) : O7.run .lim (r, id, ()) = some (Rz r.1 id) := by
 have h63 : r.1.length < 9223372036854775808 := h;have e := PE (f := O7.l0 .lim) (fun j => (r.1, (r.1.length : Int), (j : Int), id, ())) r.1.length (fun j => decide ((rd r0 r.1 (j : Int)).1 = id)) (fun j => some (.inl ((j : Int), ()))) (fun k hk => by
  rw [O7.q0];simp only [O7.b0, MQ (show (k : Int) < (r.1.length : Int) by omega), MW (show (0 : Int) <= (k : Int) by omega) (show (k : Int) < (r.1.length : Int) by omega), cond_true, wk k (by omega)])
 rw [show ((0 : Nat) : Int) = 0 from rfl] at e;simp only [O7.run, MX h63, cond_true, e];unfold Rz;cases hq : (ae1 r.1.length).find? (fun j : Nat => decide ((rd r0 r.1 (j : Int)).1 = id)) with
 | some k => rfl
 | none =>
  simp only;rw [O7.q0];simp only [O7.b0, MR (show ¬ (r.1.length : Int) < (r.1.length : Int) by omega), cond_false, aeE]
theorem Xk {xs : List RK} {id : Int} : (Rz xs id = -1 /\ ∀ k, k < xs.length -> (rd r0 xs (k : Int)).1 ≠ id) \/ ∃ k, k < xs.length /\ Rz xs id = (k : Int) /\ (rd r0 xs (k : Int)).1 = id /\ ∀ j, j < k -> (rd r0 xs (j : Int)).1 ≠ id := by
 unfold Rz;cases hq : (ae1 xs.length).find? (fun j : Nat => decide ((rd r0 xs (j : Int)).1 = id)) with
 | some k =>
  obtain ⟨h1, h2, h3⟩ := List.find?_range_eq_some.1 hq;exact .inr ⟨k, ae6.1 h2, rfl, by simpa using h1, fun j hj => by simpa using h3 j hj⟩
 | none =>
  refine .inl ⟨rfl, fun k hk => ?_⟩;have := afB.1 hq k (ae6.2 hk);simpa using this
def VT (s : List Int) : Int := ((rd 0 s 0 * 256 + rd 0 s 1) * 256 + rd 0 s 2) * 256 + rd 0 s 3
theorem Za {s : List Int} (h : Bs s) {i : Int} (h1 : 0 <= i) (h2 : i < s.length) : B8 (rd 0 s i) := h _ (Oc h1 h2)
def Z8 (p : List Int) : CK := (rd 0 p 0 * 256 + rd 0 p 1, cut p 4 ((2 + p.length / 2 : Nat) : Int), cut p ((2 + p.length / 2 : Nat) : Int) (p.length : Int))
def Vj (p : List Int) : CK × Int := if 4 <= p.length /\ R_ (Z8 p) = true /\ OV (Z8 p) = p then (Z8 p, 0) else ((0, ([], [])), 10)
noncomputable def PO (v : VV) (r : RR) (s : List Int) : CK × Int :=
 if s.length < 20 then ((0, ([], [])), 11) else
 if Rz r.1 (VT s) < 0 then ((0, ([], [])), 19) else
 if (OI v (rd r0 r.1 (Rz r.1 (VT s))).2.1 [cut s 0 4, cut s 4 20] (cut s 20 (s.length : Int))).2 = 0 then
  Vj (OI v (rd r0 r.1 (Rz r.1 (VT s))).2.1 [cut s 0 4, cut s 4 20] (cut s 20 (s.length : Int))).1
 else ((0, ([], [])), (OI v (rd r0 r.1 (Rz r.1 (VT s))).2.1 [cut s 0 4, cut s 4 20] (cut s 20 (s.length : Int))).2)
theorem Ru {α : Type} {s : List α} {a b : Nat} (h1 : a <= b) (h2 : b <= s.length) : (cut s (a : Int) (b : Int)).length = b - a := by unfold cut; simp; omega
theorem Xh {s : List Int} (h : Bs s) (a b : Int) : Bs (cut s a b) := fun x hx => by
 unfold cut at hx;exact h x (afo (afn hx))
theorem abG {p : List Int} (h : p.length < NM) (h4 : 4 <= p.length) : KOk (Z8 p) := by
 have h' : p.length < 9223372036854775808 := h;unfold Z8;refine ⟨?_, ?_⟩
 ·show (cut p ((4 : Nat) : Int) ((2 + p.length / 2 : Nat) : Int)).length < NM;rw [Ru (by omega) (by omega)]; exact Ot (by omega)
 ·show (cut p ((2 + p.length / 2 : Nat) : Int) (p.length : Int)).length < NM;rw [Ru (by omega) (by omega)]; exact Ot (by omega)
theorem Wh {v : VV} {r : RR} {s : List Int} (hv : okV v) (hf : Po v = true) (hb : vB v) (hr : ROk r) (hs : s.length < NM) (hsb : Bs s) :
  Ql.run .lim (v, r, s, ()) = some ((PO v r s).1, (PO v r s).2, ()) := by
 have hs63 : s.length < 9223372036854775808 := hs;have hl := hr.len;unfold PO;simp only [Ql.run, MX hs63, cond_true];by_cases h1 : s.length < 20
 ·rw [MQ (show (s.length : Int) < 20 by omega), if_pos h1]; rfl
 ·rw [MR (show ¬ (s.length : Int) < 20 by omega), if_neg h1];have hi : ∀ i : Int, 0 <= i -> i < 4 -> B8 (rd 0 s i) := fun i a b => Za hsb a (by omega)
  have hn : KO .u32 (KO .u32 (KO .u32 (I9 .u32 (ae8.wrap (rd 0 s 0)) 24) (I9 .u32 (ae8.wrap (rd 0 s 1)) 16)) (I9 .u32 (ae8.wrap (rd 0 s 2)) 8)) (ae8.wrap (rd 0 s 3)) = VT s :=
   ac8 (hi 0 (by omega) (by omega)) (hi 1 (by omega) (by omega)) (hi 2 (by omega) (by omega)) (hi 3 (by omega) (by omega))
  simp only [cond_false, MW (show (0 : Int) <= 0 by omega) (show (0 : Int) < (s.length : Int) by omega), MW (show (0 : Int) <= 1 by omega) (show (1 : Int) < (s.length : Int) by omega), MW (show (0 : Int) <= 2 by omega) (show (2 : Int) < (s.length : Int) by omega), MW (show (0 : Int) <= 3 by omega) (show (3 : Int) < (s.length : Int) by omega), cond_true, hn, abL (VT s) (show r.1.length < NM from Ot (by omega)), aeE];rcases Xk (xs := r.1) (id := VT s) with ⟨e, _⟩ | ⟨k, hk, e, _, _⟩
  ·rw [e, MQ (show (-1 : Int) < 0 by decide), if_pos (show (-1 : Int) < 0 by decide)]; rfl
  ·rw [e, MR (show ¬ (k : Int) < 0 by omega), if_neg (show ¬ (k : Int) < 0 by omega)];have hm : rd r0 r.1 (k : Int) ∈ r.1 := Oc (by omega) (by omega);have T : V9 (rd r0 r.1 (k : Int)).2.1 [cut s 0 4, cut s 4 20] (cut s 20 (s.length : Int)) := by
    have c1 : (cut s 0 4).length = 4 := Ru (a := 0) (b := 4) (by omega) (by omega);have c2 : (cut s 4 20).length = 16 := Ru (a := 4) (b := 20) (by omega) (by omega);have c3 : (cut s 20 (s.length : Int)).length = s.length - 20 := Ru (a := 20) (b := s.length) (by omega) (by omega);refine ⟨Ot (by rw [hr.key _ hm]; omega), hr.kb _ hm, (show (2 : Nat) < NM by decide), fun t ht => ?_, Ot (by omega)⟩;simp only [afq, afp, or_false] at ht;rcases ht with rfl | rfl
    ·exact Ot (by omega)
    ·exact Ot (by omega)
   simp only [cond_false, MW (show (0 : Int) <= (k : Int) by omega) (show (k : Int) < (r.1.length : Int) by omega), Nc (show (0 : Int) <= 0 by omega) (show (0 : Int) <= 4 by omega) (show (4 : Int) <= (s.length : Int) by omega),
    Nc (show (0 : Int) <= 4 by omega) (show (4 : Int) <= 20 by omega) (show (20 : Int) <= (s.length : Int) by omega), Nc (show (0 : Int) <= 20 by omega) (show (20 : Int) <= (s.length : Int) by omega) (show (s.length : Int) <= (s.length : Int) by omega), cond_true, WH hv T (Xh hsb _ _), aeE]
   by_cases h0 : (OI v (rd r0 r.1 (k : Int)).2.1 [cut s 0 4, cut s 4 20] (cut s 20 (s.length : Int))).2 = 0
   ·obtain ⟨_, y2, _, y4⟩ := UG hf hb h0;rw [MQ h0, if_pos h0];generalize (OI v (rd r0 r.1 (k : Int)).2.1 [cut s 0 4, cut s 4 20] (cut s 20 (s.length : Int))).1 = p at y2 y4 ⊢
    unfold Vj;simp only [aeG, cond_false, MX (show p.length < 9223372036854775808 by omega), cond_true];by_cases h4 : p.length < 4
    ·rw [MQ (show (p.length : Int) < 4 by omega), if_neg (by omega)]; rfl
    ·have hm2 : aeF.wrap (2 + aeF.wrap ((p.length : Int).tdiv 2)) = ((2 + p.length / 2 : Nat) : Int) := by rw [ae7 (by omega), wrap64 (n := (p.length : Int) / 2) (by omega) (by omega), wrap64 (by omega) (by omega)]; omega
     have hn2 := abE (Za y4 (show (0 : Int) <= 0 by omega) (show (0 : Int) < (p.length : Int) by omega)) (Za y4 (show (0 : Int) <= 1 by omega) (show (1 : Int) < (p.length : Int) by omega));have hko := abG (p := p) (Ot (by omega)) (by omega);rw [MR (show ¬ (p.length : Int) < 4 by omega)];simp only [cond_false, MW (show (0 : Int) <= 0 by omega) (show (0 : Int) < (p.length : Int) by omega), MW (show (0 : Int) <= 1 by omega) (show (1 : Int) < (p.length : Int) by omega), cond_true, hm2, hn2,
      Nc (show (0 : Int) <= 4 by omega) (show (4 : Int) <= ((2 + p.length / 2 : Nat) : Int) by omega) (show ((2 + p.length / 2 : Nat) : Int) <= (p.length : Int) by omega),
      Nc (show (0 : Int) <= ((2 + p.length / 2 : Nat) : Int) by omega) (show ((2 + p.length / 2 : Nat) : Int) <= (p.length : Int) by omega) (show (p.length : Int) <= (p.length : Int) by omega)]
     change (P7.run .lim (Z8 p, ())).bind _ = _
     rw [XL hko, aeE];by_cases hq : R_ (Z8 p) = true
     ·have hpl := Vb hq;unfold Z8 at hq hpl ⊢
      rw [hq];simp only [aeG, aeH, cond_true, hpl, aeE, aeN];by_cases hw : OV (rd 0 p 0 * 256 + rd 0 p 1, cut p 4 ((2 + p.length / 2 : Nat) : Int), cut p ((2 + p.length / 2 : Nat) : Int) (p.length : Int)) = p
      ·rw [MQ hw, if_pos ⟨by omega, by first | rfl | trivial, hw⟩]; rfl
      ·rw [MR hw, if_neg (fun z => hw z.2.2)]; rfl
     ·have hq' : R_ (Z8 p) = false := by simpa using hq
      rw [if_neg (fun z => hq z.2.1)];rw [hq'];rfl
   ·rw [MR h0, if_neg h0]; rfl
end Go.AM
end
section
namespace Go.AM
def badR (r : RR) (i : Nat) : Bool :=
 ((!decide ((rd r0 r.1 (i : Int)).2.1.length = 32)) || (!decide ((rd r0 r.1 (i : Int)).1 = (r.2 - ((r.1.length - i : Nat) : Int)) % 4294967296))) || (decide (0 < i) && decide ((rd r0 r.1 (i : Int)).2.2 < (rd r0 r.1 ((i - 1 : Nat) : Int)).2.2))
def VN (r : RR) : Bool := decide (1 <= r.1.length /\ r.1.length <= 8) && !((ae1 r.1.length).any (badR r))
theorem aaw {r : RR} (hl : r.1.length < NM) (hk : ∀ k ∈ r.1, k.2.1.length < NM) : NV.run .lim (r, ()) = some (VN r) := by
 have hl63 : r.1.length < 9223372036854775808 := hl;simp only [NV.run, MX hl63, cond_true];unfold VN;by_cases h : 1 <= r.1.length /\ r.1.length <= 8
 ·have hn : (decide ((r.1.length : Int) < 1) || decide ((r.1.length : Int) > 8)) = false := by rw [MR (show ¬ (r.1.length : Int) < 1 by omega), MR (show ¬ (r.1.length : Int) > 8 by omega)]; rfl
  have e := Qx (f := NV.l0 .lim) (fun j => ((r.1.length : Int), (j : Int), r.1, r.2, ())) r.1.length (badR r) (some (.inl (false, ()))) (fun k hk' => by
   have hkl := hk _ (Oc (d := r0) (xs := r.1) (i := (k : Int)) (by omega) (by omega));have Zh : (rd r0 r.1 (k : Int)).2.1.length < 9223372036854775808 := hkl;rw [NV.q0];have hw : ae8.wrap (r.2 - ae8.wrap (aeF.wrap ((r.1.length : Int) - (k : Int)))) = (r.2 - ((r.1.length - k : Nat) : Int)) % 4294967296 := by rw [wrap64 (by omega) (by omega), Qi, Qi]; omega
   have hd : decide (((rd r0 r.1 (k : Int)).2.1.length : Int) = 32) = decide ((rd r0 r.1 (k : Int)).2.1.length = 32) := by
    by_cases q : (rd r0 r.1 (k : Int)).2.1.length = 32
    ·rw [MQ q, MQ (by omega)]
    ·rw [MR q, MR (by omega)]
   simp only [NV.b0, MQ (show (k : Int) < (r.1.length : Int) by omega), MW (show (0 : Int) <= (k : Int) by omega) (show (k : Int) < (r.1.length : Int) by omega), cond_true, MX Zh, hw, hd, wk k (by omega)];unfold badR;by_cases h0 : 0 < k
   ·have w1 : aeF.wrap ((k : Int) - 1) = ((k - 1 : Nat) : Int) := by rw [wrap64 (by omega) (by omega)]; omega
    rw [w1, MW (show (0 : Int) <= ((k - 1 : Nat) : Int) by omega) (show ((k - 1 : Nat) : Int) < (r.1.length : Int) by omega), MQ h0, MQ (show (k : Int) > 0 by omega)];simp only [aeK, cond_true, aeO]
   ·rw [MR h0, MR (show ¬ (k : Int) > 0 by omega)];simp only [aeJ, aeH, aeQ, cond_true, aeL, aeP])
  rw [show ((0 : Nat) : Int) = 0 from rfl] at e;rw [hn, MQ h];simp only [cond_false, aeO, e];cases hb : (ae1 r.1.length).any (badR r) with
  | true => rfl
  | false =>
   simp only [cond_false];rw [NV.q0];simp only [NV.b0, MR (show ¬ (r.1.length : Int) < (r.1.length : Int) by omega), cond_false, aeE, aeH]
 ·have hn : (decide ((r.1.length : Int) < 1) || decide ((r.1.length : Int) > 8)) = true := by
   by_cases q : r.1.length < 1
   ·rw [MQ (show (r.1.length : Int) < 1 by omega)]; rfl
   ·rw [MQ (show (r.1.length : Int) > 8 by omega), aeK]
  rw [hn, MR h]; rfl
theorem Yp {r : RR} (h : VN r = true) : (1 <= r.1.length /\ r.1.length <= 8) /\ ∀ i, i < r.1.length -> (rd r0 r.1 (i : Int)).2.1.length = 32 /\ (rd r0 r.1 (i : Int)).1 = (r.2 - ((r.1.length - i : Nat) : Int)) % 4294967296 /\ (0 < i -> (rd r0 r.1 ((i - 1 : Nat) : Int)).2.2 <= (rd r0 r.1 (i : Int)).2.2) := by
 unfold VN at h;simp only [afd, decide_eq_true_eq, afl, afD, ae6] at h;refine ⟨h.1, fun i hi => ?_⟩;have := h.2 i hi;unfold badR at this;simp only [Bool.or_eq_true, afl, decide_eq_false_iff_not, afd, decide_eq_true_eq, not_or, not_and, Decidable.not_not] at this;exact ⟨this.1.1, this.1.2, fun h0 => by have := this.2 h0; omega⟩
structure RB (r : RR) : Prop where
 l : r.1.length < NM
 k : ∀ k ∈ r.1, k.2.1.length < NM /\ Bs k.2.1
theorem abJ {r : RR} (h : VN r = true) (b : RB r) : ROk r := by
 obtain ⟨h1, h2⟩ := Yp h;refine ⟨h1, fun k hk => ?_, fun k hk => (b.k k hk).2⟩;obtain ⟨i, hi, e⟩ := List.getElem_of_mem hk;have := (h2 i hi).1;rw [PY hi, e] at this;exact this
end Go.AM
end
section
namespace Go.AM
abbrev FF := Int × List Int
abbrev f0 : FF := ((0 : Int), ([] : List Int))
def N7 (s : List Int) : Int := s.foldl (fun n c => n * 256 + c) 0
theorem VF (s : List Int) (c : Int) : N7 (s ++ [c]) = N7 s * 256 + c := by unfold N7; rw [List.foldl_append]; rfl
theorem TB {s : List Int} (hs : Bs s) : ∀ k, k <= s.length -> 0 <= N7 (s.take k) /\ N7 (s.take k) < 256 ^ k := by
 intro k
 induction k with
 | zero => intro _; simp [N7]
 | succ k ih =>
  intro hk;have h := ih (by omega);rw [TA (d := (0 : Int)) (by omega), VF, af2];have hc := hs _ (Oc (d := (0 : Int)) (i := (k : Int)) (by omega) (by omega));omega
theorem abH {k : Nat} (h : k <= 7) : (256 : Int) ^ k <= 72057594037927936 := by
 have h1 := afw (n := 256) (by decide) h;have h2 : ((256 ^ k : Nat) : Int) = (256 : Int) ^ k := by rw [Int.natCast_pow]; rfl
 omega
theorem abw {a b : Nat} (m : Nat) (h : b < 2 ^ m) (hm : 2 ^ m * a + b < 18446744073709551616) : KO .u64 ((2 ^ m * a : Nat) : Int) (b : Int) = ((2 ^ m * a + b : Nat) : Int) := by
 show afj.wrap ((aeX 64 ((2 ^ m * a : Nat) : Int) ||| aeX 64 (b : Int)).toNat : Int) = _;rw [XA (afc (afI _ b) hm) (afc (afP _ (2 ^ m * a)) hm), Xz h, Qj];omega
theorem abP {n c : Int} (h0 : 0 <= n) (h1 : n < 72057594037927936) (hc : B8 c) : KO .u64 (I9 .u64 n 8) (afj.wrap c) = n * 256 + c := by
 obtain ⟨x, rfl⟩ := afF h0;obtain ⟨y, rfl, hy⟩ := SA hc;have e : I9 .u64 (x : Int) 8 = ((2 ^ 8 * x : Nat) : Int) := by
  show afj.wrap ((x : Int) * 2 ^ 8) = _;rw [Qj]; omega
 have e2 : afj.wrap (y : Int) = (y : Int) := by rw [Qj]; omega
 rw [e, e2, abw 8 (by omega) (by omega)];omega
theorem WW {s : List Int} (hs : Bs s) (hl : s.length <= 8) {k : Nat} (hk : k < s.length) : KO .u64 (I9 .u64 (N7 (s.take k)) 8) (afj.wrap (rd 0 s (k : Int))) = N7 (s.take (k + 1)) := by
 have hb := TB hs k (by omega);have hp := abH (k := k) (by omega);rw [abP hb.1 (by omega) (hs _ (Oc (by omega) (by omega))), TA (d := (0 : Int)) hk, VF]
theorem TD {s : List Int} (hs : Bs s) (hl : s.length <= 8) : NI.run .lim (s, ()) = some (N7 s) := by
 have e := Oi (f := NI.l0 .lim) (fun k => (s, N7 (s.take k), (s.length : Int), (k : Int), ())) (n := s.length) (fun k hk => by
  rw [NI.q0];simp only [NI.b0, MQ (show (k : Int) < (s.length : Int) by omega), MW (show (0 : Int) <= (k : Int) by omega) (show (k : Int) < (s.length : Int) by omega), cond_true, Qp k (by omega), WW hs hl hk])
 have e0 : NI.l0 .lim (s, 0, (s.length : Int), 0, ()) = NI.l0 .lim (s, N7 (s.take s.length), (s.length : Int), (s.length : Int), ()) := e;simp only [NI.run, MX (show s.length < 9223372036854775808 by omega), cond_true, e0, ae_];rw [NI.q0];simp only [NI.b0, MR (show ¬ (s.length : Int) < (s.length : Int) by omega), cond_false, aeE]
theorem RV {s : List Int} (hs : Bs s) (hl : s.length <= 8) : M_.run .lim (s, ()) = some (N7 s) := by
 have e := Oi (f := M_.l0 .lim) (fun k => (s, N7 (s.take k), (k : Int), ())) (n := s.length) (fun k hk => by
  rw [M_.q0];simp only [M_.b0, MX (show s.length < 9223372036854775808 by omega), MQ (show (k : Int) < (s.length : Int) by omega), MW (show (0 : Int) <= (k : Int) by omega) (show (k : Int) < (s.length : Int) by omega), cond_true, Qp k (by omega), WW hs hl hk])
 have e0 : M_.l0 .lim (s, 0, 0, ()) = M_.l0 .lim (s, N7 (s.take s.length), (s.length : Int), ()) := e;simp only [M_.run, e0, ae_];rw [M_.q0];simp only [M_.b0, MX (show s.length < 9223372036854775808 by omega), MR (show ¬ (s.length : Int) < (s.length : Int) by omega), cond_true, cond_false, aeE]
theorem O4 {α : Type} {s : List α} {a b : Nat} {i j : Int} (hi : i = (a : Int)) (hj : j = (b : Int)) : cut s i j = (s.take b).drop a := by subst hi; subst hj; rfl
theorem QC {α : Type} {s : List α} {a : Nat} {i : Int} (hi : i = (a : Int)) : cut s i (s.length : Int) = s.drop a := by subst hi; unfold cut; rw [aeS, aeS, ae_]
theorem Bs.take {s : List Int} (h : Bs s) (n : Nat) : Bs (s.take n) := fun x hx => h x (afo hx)
theorem Bs.drop {s : List Int} (h : Bs s) (n : Nat) : Bs (s.drop n) := fun x hx => h x (afn hx)
theorem Bs.cut {s : List Int} (h : Bs s) (i j : Int) : Bs (cut s i j) := fun x hx => h x (afo (afn hx))
theorem Bs.app {s t : List Int} (h : Bs s) (k : Bs t) : Bs (s ++ t) := fun x hx => (afi.1 hx).elim (h x) (k x)
theorem ab3 {n : Int} (h0 : 0 <= n) (h1 : n < 9223372036854775808) : I8 .i64 n 3 = n % 4 := by
 obtain ⟨x, rfl⟩ := afF h0;show aeF.wrap ((aeX 64 (x : Int) &&& aeX 64 3).toNat : Int) = _;rw [BitVec.toNat_and, afe, show (aeX 64 3).toNat = 2 ^ 2 - 1 from rfl, Nat.and_two_pow_sub_one_eq_mod];have e : ((x : Int) % ((2 ^ 64 : Nat) : Int)).toNat = x := by omega
 rw [e, wrap64 (by omega) (by omega)]; omega
def N9 (s : List Int) : Nat := (N7 ((s.take 4).drop 2)).toNat
def SC (s : List Int) : Prop := s.length < 4 \/ N9 s < 16 \/ N9 s % 4 ≠ 0 \/ N9 s > s.length
instance (s : List Int) : Decidable (SC s) := by unfold SC; exact inferInstance
def YN (s : List Int) : FF := (N7 (s.take 2), (s.take (N9 s)).drop 4)
def Sr : Nat -> List Int -> List FF -> List FF × Int
 | 0, _, acc => (acc, 0)
 | n + 1, s, acc => if s = [] then (acc, 0) else if SC s then ([], 10) else if acc.length = 16 then ([], 18) else Sr n (s.drop (N9 s)) (acc ++ [YN s])
theorem VL {s : List Int} (hs : Bs s) (h : 4 <= s.length) : N7 ((s.take 4).drop 2) = (N9 s : Int) /\ N9 s < 65536 := by
 have hb : Bs ((s.take 4).drop 2) := (hs.take 4).drop 2;have hl : ((s.take 4).drop 2).length = 2 := by rw [aeW, ae0]; omega
 have := TB hb 2 (by omega);rw [ae2 (by omega)] at this;unfold N9;omega
theorem V4 {s : List Int} (hs : Bs s) (h : 2 <= s.length) : 0 <= N7 (s.take 2) /\ N7 (s.take 2) < 65536 := by
 have := TB hs 2 (by omega);omega
theorem aaR : ∀ (n : Nat) (s : List Int) (acc : List FF), s.length <= n -> Bs s -> s.length < 9223372036854775808 -> acc.length <= 16 ->
  ((NY.l0 .lim (s, 0, acc, ())).bind fun g_ => match g_ with
   | .inl (m, m1, ()) => some (([] : List FF), m, ())
   | .inr (.inl (m2, m3, ())) => some (([] : List FF), m2, ())
   | .inr (.inr (m4, m5, ())) => some (m5, 0, ())) = some ((Sr n s acc).1, (Sr n s acc).2, ()) := by
 intro n
 induction n with
 | zero =>
  intro s acc hn _ _ _;obtain rfl : s = [] := afk.1 (by omega);rw [NY.q0];simp only [NY.b0, decide_true, aeG, cond_false, aeE, Sr]
 | succ n ih =>
  intro s acc hn hs hl ha;rw [NY.q0];by_cases h0 : s = []
  ·subst h0;simp only [NY.b0, decide_true, aeG, cond_false, aeE, Sr, if_true]
  simp only [NY.b0, MR h0, aeH, cond_true, MX hl, Sr, if_neg h0];by_cases h4 : s.length < 4
  ·simp only [MR (show ¬ (s.length : Int) >= 4 by omega), cond_false, aeE];rw [if_pos (show SC s from .inl h4)]
  ·obtain ⟨e1, e2⟩ := VL hs (by omega);have hc : cut s 2 4 = (s.take 4).drop 2 := O4 (a := 2) (b := 4) rfl rfl;have hlen : ((s.take 4).drop 2).length <= 8 := by rw [aeW, ae0]; omega
   have w : aeF.wrap (N9 s : Int) = (N9 s : Int) := wrap64 (by omega) (by omega);simp only [MQ (show (s.length : Int) >= 4 by omega), cond_true, Nc (show (0 : Int) <= 2 by omega) (show (2 : Int) <= 4 by omega) (show (4 : Int) <= (s.length : Int) by omega), hc, TD ((hs.take 4).drop 2) hlen, aeE, e1, w, aeK];have h3 : I8 .i64 (N9 s : Int) 3 = ((N9 s % 4 : Nat) : Int) := by rw [ab3 (by omega) (by omega)]; omega
   by_cases hb : SC s
   ·rw [if_pos hb];have hq : (((decide ((N9 s : Int) < 16)) || (!(decide ((I8 .i64 (N9 s : Int) 3) = 0)))) || (decide ((N9 s : Int) > (s.length : Int)))) = true := by
     rw [h3];rcases hb with hb | hb | hb | hb
     ·exact absurd hb h4
     ·simp only [MQ (show (N9 s : Int) < 16 by omega), aeQ]
     ·simp only [MR (show ¬ ((N9 s % 4 : Nat) : Int) = 0 by omega), aeH, aeK, aeQ]
     ·simp only [MQ (show (N9 s : Int) > (s.length : Int) by omega), aeK]
    simp only [hq, cond_true, aeE]
   ·rw [if_neg hb];unfold SC at hb;have hq : (((decide ((N9 s : Int) < 16)) || (!(decide ((I8 .i64 (N9 s : Int) 3) = 0)))) || (decide ((N9 s : Int) > (s.length : Int)))) = false := by rw [h3, MR (show ¬ (N9 s : Int) < 16 by omega), MQ (show ((N9 s % 4 : Nat) : Int) = 0 by omega), MR (show ¬ (N9 s : Int) > (s.length : Int) by omega)]; rfl
    have hc2 : cut s 0 2 = s.take 2 := O4 (a := 0) (b := 2) rfl rfl;have hv := V4 hs (by omega);have w2 : aeF.wrap (N7 (s.take 2)) = N7 (s.take 2) := wrap64 (by omega) (by omega);have hc3 : cut s 4 (N9 s : Int) = (s.take (N9 s)).drop 4 := O4 (a := 4) (b := N9 s) rfl rfl;have hc4 : cut s (N9 s : Int) (s.length : Int) = s.drop (N9 s) := QC rfl;simp only [hq, cond_false, Nc (show (0 : Int) <= 0 by omega) (show (0 : Int) <= 2 by omega) (show (2 : Int) <= (s.length : Int) by omega), cond_true, hc2, TD (hs.take 2) (show (s.take 2).length <= 8 by rw [ae0]; omega), aeE, w2,
     Nc (show (0 : Int) <= 4 by omega) (show (4 : Int) <= (N9 s : Int) by omega) (show (N9 s : Int) <= (s.length : Int) by omega), Nc (show (0 : Int) <= (N9 s : Int) by omega) (show (N9 s : Int) <= (s.length : Int) by omega) (show (s.length : Int) <= (s.length : Int) by omega), MX (show acc.length < 9223372036854775808 by omega), hc3, hc4]
    by_cases h16 : acc.length = 16
    ·rw [MQ (show (acc.length : Int) = 16 by omega), if_pos h16]; rfl
    ·rw [MR (show ¬ (acc.length : Int) = 16 by omega), if_neg h16];simp only [cond_false];rw [cond_pos (MQ (by simp; omega))];exact ih (s.drop (N9 s)) (acc ++ [YN s]) (by rw [aeW]; omega) (hs.drop _) (by rw [aeW]; omega) (by simp; omega)
theorem aa9 {s : List Int} (hs : Bs s) (hl : s.length < 9223372036854775808) : NY.run .lim (s, ()) = some ((Sr s.length s []).1, (Sr s.length s []).2, ()) := by
 simp only [NY.run];exact aaR s.length s [] (afa _) hs hl (by simp)
theorem ZM : ∀ (n : Nat) (s : List Int) (acc : List FF), s.length <= n -> Bs s -> s.length < 9223372036854775808 -> acc.length <= 16 ->
  ((Nv.l0 .lim (s, acc, ())).bind fun g_ => match g_ with
   | .inl (t, ()) => some (([] : List FF), t, ())
   | .inr (.inl (t1, ())) => some (([] : List FF), t1, ())
   | .inr (.inr (.inl (t2, ()))) => some (([] : List FF), t2, ())
   | .inr (.inr (.inr (m, ()))) => some (m, 0, ())) = some ((Sr n s acc).1, (Sr n s acc).2, ()) := by
 intro n
 induction n with
 | zero =>
  intro s acc hn _ _ _;obtain rfl : s = [] := afk.1 (by omega);rw [Nv.q0];simp only [Nv.b0, decide_true, aeG, cond_false, aeE, Sr]
 | succ n ih =>
  intro s acc hn hs hl ha;rw [Nv.q0];by_cases h0 : s = []
  ·subst h0;simp only [Nv.b0, decide_true, aeG, cond_false, aeE, Sr, if_true]
  simp only [Nv.b0, MR h0, aeH, cond_true, MX hl, Sr, if_neg h0];by_cases h4 : s.length < 4
  ·simp only [MQ (show (s.length : Int) < 4 by omega), cond_true, aeE];rw [if_pos (show SC s from .inl h4)]
  ·obtain ⟨e1, e2⟩ := VL hs (by omega);have hc : cut s 2 4 = (s.take 4).drop 2 := O4 (a := 2) (b := 4) rfl rfl;have hlen : ((s.take 4).drop 2).length <= 8 := by rw [aeW, ae0]; omega
   have w : aeF.wrap (N9 s : Int) = (N9 s : Int) := wrap64 (by omega) (by omega);simp only [MR (show ¬ (s.length : Int) < 4 by omega), cond_true, cond_false, Nc (show (0 : Int) <= 2 by omega) (show (2 : Int) <= 4 by omega) (show (4 : Int) <= (s.length : Int) by omega), hc, RV ((hs.take 4).drop 2) hlen, aeE, e1, w, aeK];have h3 : (N9 s : Int).tmod 4 = ((N9 s % 4 : Nat) : Int) := by rw [aeY (by omega)]; omega
   by_cases hb : SC s
   ·rw [if_pos hb];have hq : (((decide ((N9 s : Int) < 16)) || (!(decide (((N9 s : Int).tmod 4) = 0)))) || (decide ((N9 s : Int) > (s.length : Int)))) = true := by
     rw [h3];rcases hb with hb | hb | hb | hb
     ·exact absurd hb h4
     ·simp only [MQ (show (N9 s : Int) < 16 by omega), aeQ]
     ·simp only [MR (show ¬ ((N9 s % 4 : Nat) : Int) = 0 by omega), aeH, aeK, aeQ]
     ·simp only [MQ (show (N9 s : Int) > (s.length : Int) by omega), aeK]
    simp only [hq, cond_true, aeE]
   ·rw [if_neg hb];unfold SC at hb;have hq : (((decide ((N9 s : Int) < 16)) || (!(decide (((N9 s : Int).tmod 4) = 0)))) || (decide ((N9 s : Int) > (s.length : Int)))) = false := by rw [h3, MR (show ¬ (N9 s : Int) < 16 by omega), MQ (show ((N9 s % 4 : Nat) : Int) = 0 by omega), MR (show ¬ (N9 s : Int) > (s.length : Int) by omega)]; rfl
    have hc2 : cut s 0 2 = s.take 2 := O4 (a := 0) (b := 2) rfl rfl;have hv := V4 hs (by omega);have w2 : aeF.wrap (N7 (s.take 2)) = N7 (s.take 2) := wrap64 (by omega) (by omega);have hc3 : cut s 4 (N9 s : Int) = (s.take (N9 s)).drop 4 := O4 (a := 4) (b := N9 s) rfl rfl;have hc4 : cut s (N9 s : Int) (s.length : Int) = s.drop (N9 s) := QC rfl;simp only [hq, cond_false, MX (show acc.length < 9223372036854775808 by omega), cond_true];by_cases h16 : acc.length = 16
    ·rw [MQ (show (acc.length : Int) = 16 by omega), if_pos h16]; rfl
    ·rw [MR (show ¬ (acc.length : Int) = 16 by omega), if_neg h16];simp only [cond_false, cond_true, Nc (show (0 : Int) <= 0 by omega) (show (0 : Int) <= 2 by omega) (show (2 : Int) <= (s.length : Int) by omega), hc2, RV (hs.take 2) (show (s.take 2).length <= 8 by rw [ae0]; omega), aeE, w2,
      Nc (show (0 : Int) <= 4 by omega) (show (4 : Int) <= (N9 s : Int) by omega) (show (N9 s : Int) <= (s.length : Int) by omega), Nc (show (0 : Int) <= (N9 s : Int) by omega) (show (N9 s : Int) <= (s.length : Int) by omega) (show (s.length : Int) <= (s.length : Int) by omega), hc3, hc4]
     rw [cond_pos (MQ (by simp; omega))];exact ih (s.drop (N9 s)) (acc ++ [YN s]) (by rw [aeW]; omega) (hs.drop _) (by rw [aeW]; omega) (by simp; omega)
theorem abM {s : List Int} (hs : Bs s) (hl : s.length < 9223372036854775808) : Nv.run .lim (s, ()) = some ((Sr s.length s []).1, (Sr s.length s []).2, ()) := by
 simp only [Nv.run];exact ZM s.length s [] (afa _) hs hl (by simp)
end Go.AM
end
section
namespace Go.AM
theorem abN {n : Int} : I_ .i64 n 8 = n / 256 := by
 have := Oj n 0 8 .i64 (by decide);exact this
def twoS (n : Int) : List Int := [ae4.wrap (I_ .i64 n 8), ae4.wrap n]
theorem OL (n : Int) : (twoS n).length = 2 := rfl
theorem ZX (n : Int) : Bs (twoS n) := fun x hx => by
 unfold twoS at hx;simp only [afq, afp, or_false] at hx;rcases hx with rfl | rfl <;> exact RP _
theorem Yh {t : List Int} (hb : Bs t) (hl : t.length = 2) : twoS (N7 t) = t := by
 match t, hl with
 | [a, b], _ =>
  have ha := hb a (.head _);have hb := hb b (.tail _ (.head _));have e : N7 [a, b] = a * 256 + b := by simp [N7]
  unfold twoS;rw [e, abN, Pg, Pg];congr 1
  ·omega
  ·congr 1; omega
theorem val_two {n : Int} (h0 : 0 <= n) (h1 : n < 65536) : N7 (twoS n) = n := by
 unfold twoS N7;rw [abN, Pg, Pg];simp only [List.foldl_cons, List.foldl_nil];omega
def PV (f : FF) : List Int := twoS f.1 ++ twoS ((f.2.length : Int) + 4) ++ f.2
def Nk (l : List FF) : List Int := (l.map PV).flatten
theorem PW (f : FF) : (PV f).length = 4 + f.2.length := by simp [PV, twoS]; omega
theorem TL (a b : List FF) : Nk (a ++ b) = Nk a ++ Nk b := by simp [Nk]
theorem QM (f : FF) : Nk [f] = PV f := by simp [Nk]
theorem SB {l : List FF} {k : Nat} (h : k < l.length) : Nk (l.take (k + 1)) = Nk (l.take k) ++ PV (rd f0 l (k : Int)) := by rw [TA (d := f0) h, TL, QM]
theorem Wn (l : List FF) (k : Nat) : (Nk (l.take k)).length <= (Nk l).length := by
 have : Nk l = Nk (l.take k) ++ Nk (l.drop k) := by rw [<- TL, aff]
 rw [this, aeZ]; omega
structure Yj (f : FF) : Prop where
 k0 : 0 <= f.1
 k1 : f.1 < 65536
 l0 : 12 <= f.2.length
 l4 : f.2.length % 4 = 0
 l1 : f.2.length < 65532
 b : Bs f.2
theorem aav {s : List Int} (hs : Bs s) (hb : ¬ SC s) : s.take (N9 s) = PV (YN s) /\ Yj (YN s) := by
 unfold SC at hb;obtain ⟨e1, e2⟩ := VL hs (by omega);have hv := V4 hs (by omega);have hlen : ((s.take (N9 s)).drop 4).length = N9 s - 4 := by rw [aeW, ae0]; omega
 refine ⟨?_, ⟨hv.1, hv.2, by show 12 <= ((s.take (N9 s)).drop 4).length; omega, by show ((s.take (N9 s)).drop 4).length % 4 = 0; omega, by show ((s.take (N9 s)).drop 4).length < 65532; omega, (hs.take _).drop _⟩⟩;unfold PV YN;have h2 : twoS ((((s.take (N9 s)).drop 4).length : Int) + 4) = (s.take 4).drop 2 := by
  rw [hlen, show ((N9 s - 4 : Nat) : Int) + 4 = (N9 s : Int) by omega, <- e1];exact Yh ((hs.take 4).drop 2) (by rw [aeW, ae0]; omega)
 have h1 : twoS (N7 (s.take 2)) = s.take 2 := Yh (hs.take 2) (by rw [ae0]; omega);show s.take (N9 s) = twoS (N7 (s.take 2)) ++ twoS ((((s.take (N9 s)).drop 4).length : Int) + 4) ++ (s.take (N9 s)).drop 4;rw [h1, h2];have h3 : s.take 2 ++ (s.take 4).drop 2 = s.take 4 := by
  have : s.take 2 = (s.take 4).take 2 := by rw [afS]; rfl
  rw [this, aff]
 have h4 : s.take 4 = (s.take (N9 s)).take 4 := by rw [afS, afQ (by omega)]
 rw [h3, h4, aff]
theorem aaS : ∀ (n : Nat) (s : List Int) (acc : List FF), s.length <= n -> Bs s -> (Sr n s acc).2 = 0 -> ∃ l, (Sr n s acc).1 = acc ++ l /\ s = Nk l /\ (∀ f ∈ l, Yj f) /\ (acc.length <= 16 -> (acc ++ l).length <= 16) := by
 intro n
 induction n with
 | zero =>
  intro s acc hn _ _;obtain rfl : s = [] := afk.1 (by omega);exact ⟨[], by simp [Sr], rfl, fun f hf => (by cases hf), fun h => by simpa using h⟩
 | succ n ih =>
  intro s acc hn hs he;by_cases h0 : s = []
  ·subst h0;exact ⟨[], by simp [Sr], rfl, fun f hf => (by cases hf), fun h => by simpa using h⟩
  ·simp only [Sr, if_neg h0] at he ⊢
   by_cases hb : SC s
   ·rw [if_pos hb] at he; exact absurd he (by decide)
   ·rw [if_neg hb] at he ⊢
    by_cases h16 : acc.length = 16
    ·rw [if_pos h16] at he; exact absurd he (by decide)
    ·rw [if_neg h16] at he ⊢
     obtain ⟨e1, e2⟩ := aav hs hb;have hb' := hb;unfold SC at hb';obtain ⟨l, k1, k2, k3, k4⟩ := ih (s.drop (N9 s)) (acc ++ [YN s]) (by rw [aeW]; omega) (hs.drop _) he;refine ⟨YN s :: l, by rw [k1, aft]; rfl, ?_, fun f hf => ?_, fun h => ?_⟩
     ·have : Nk (YN s :: l) = PV (YN s) ++ Nk l := by simp [Nk]
      rw [this, <- k2, <- e1, aff]
     ·rcases afq.1 hf with rfl | hf
      ·exact e2
      ·exact k3 f hf
     ·have := k4 (by simp; omega);simpa [aft] using this
def fE (f : FF) : Int := if f.1 < 0 \/ f.1 >= 65536 then 13 else if f.2.length < 12 \/ f.2.length % 4 ≠ 0 then 10 else 0
def P8 (l : List FF) : Int := if l.length > 16 then 18 else match (ae1 l.length).find? (fun k : Nat => !decide (fE (rd f0 l (k : Int)) = 0)) with
 | some k => fE (rd f0 l (k : Int))
 | none => if (Nk l).length > 1232 then 12 else 0
def Qc (l : List FF) : List Int := if P8 l = 0 then Nk l else []
theorem acj {f : FF} (h : Yj f) : fE f = 0 := by
 unfold fE;rw [if_neg (by have := h.k0; have := h.k1; omega), if_neg (by have := h.l0; have := h.l4; omega)]
theorem VO {l : List FF} (h : ∀ f ∈ l, Yj f) (h16 : l.length <= 16) (hl : (Nk l).length <= 1232) : P8 l = 0 := by
 unfold P8;rw [if_neg (by omega)];have : (ae1 l.length).find? (fun k : Nat => !decide (fE (rd f0 l (k : Int)) = 0)) = none := afB.2 fun k hk => by
  have hk := ae6.1 hk;rw [MQ (acj (h _ (Oc (by omega) (by omega))))]; simp
 rw [this];simp only;rw [if_neg (by omega)]
def Qd (l : List FF) : Nat -> List Int
 | 0 => []
 | k + 1 => if (Nk (l.take (k + 1))).length > 1232 then Qd l k else Qd l k ++ PV (rd f0 l (k : Int))
theorem Uo {l : List FF} : ∀ k, k <= l.length -> (Nk (l.take k)).length <= 1232 -> Qd l k = Nk (l.take k) := by
 intro k
 induction k with
 | zero => intro _ _; rfl
 | succ k ih =>
  intro hk h;have e := SB (l := l) (k := k) (by omega);unfold Qd;rw [if_neg (by omega), e];rw [ih (by omega) (by rw [e, aeZ] at h; omega)]
theorem aaX (n : Int) : RN.run .lim (n, ()) = some (twoS n) := rfl
def FL (l : List FF) : Prop := l.length < 9223372036854775808 /\ ∀ f ∈ l, f.2.length <= 140737488351232
theorem Vd {l : List FF} (hl : FL l) : Ol.run .lim (l, ()) = some (Qc l, P8 l, ()) := by
 obtain ⟨h1, h2⟩ := hl;simp only [Ol.run, MX h1, cond_true];by_cases h16 : l.length > 16
 ·rw [MQ (show (l.length : Int) > 16 by omega)];have : P8 l = 18 := by unfold P8; rw [if_pos h16]
  unfold Qc;rw [this]; rfl
 rw [MR (show ¬ (l.length : Int) > 16 by omega)];have e := PE (f := Ol.l0 .lim) (fun k => (decide ((Nk (l.take k)).length > 1232), l, (l.length : Int), (k : Int), Qd l k, ())) l.length (fun k : Nat => !decide (fE (rd f0 l (k : Int)) = 0))
  (fun k => if fE (rd f0 l (k : Int)) = 13 then some (.inl (([] : List Int), 13, ())) else some (.inr (.inl (([] : List Int), 10, ())))) (fun k hk => by
  have hm := Oc (d := f0) (xs := l) (i := (k : Int)) (by omega) (by omega);have hb := h2 _ hm;rw [Ol.q0];generalize hg : rd f0 l (k : Int) = f at hm hb;simp only [Ol.b0, MQ (show (k : Int) < (l.length : Int) by omega), MW (show (0 : Int) <= (k : Int) by omega) (show (k : Int) < (l.length : Int) by omega), cond_true, hg, MX (show f.2.length < 9223372036854775808 by omega), aeK];unfold fE;by_cases hk1 : f.1 < 0 \/ f.1 >= 65536
  ·rw [if_pos hk1];have : ((decide (f.1 < 0)) || (decide (f.1 >= 65536))) = true := by rcases hk1 with q | q <;> simp only [MQ q, aeQ, aeK]
   simp only [this, cond_true];rfl
  ·rw [if_neg hk1];have : ((decide (f.1 < 0)) || (decide (f.1 >= 65536))) = false := by rw [MR (show ¬ f.1 < 0 by omega), MR (show ¬ f.1 >= 65536 by omega)]; rfl
   simp only [this, cond_false];have h3 : I8 .i64 (f.2.length : Int) 3 = ((f.2.length % 4 : Nat) : Int) := by rw [ab3 (by omega) (by omega)]; omega
   by_cases hk2 : f.2.length < 12 \/ f.2.length % 4 ≠ 0
   ·rw [if_pos hk2];have : ((decide ((f.2.length : Int) < 12)) || (!(decide ((I8 .i64 (f.2.length : Int) 3) = 0)))) = true := by
     rw [h3];rcases hk2 with q | q
     ·rw [MQ (show (f.2.length : Int) < 12 by omega)]; rfl
     ·rw [MR (show ¬ ((f.2.length % 4 : Nat) : Int) = 0 by omega)]; simp
    simp only [this, cond_true];rfl
   ·rw [if_neg hk2];have : ((decide ((f.2.length : Int) < 12)) || (!(decide ((I8 .i64 (f.2.length : Int) 3) = 0)))) = false := by rw [h3, MR (show ¬ (f.2.length : Int) < 12 by omega), MQ (show ((f.2.length % 4 : Nat) : Int) = 0 by omega)]; rfl
    simp only [this, cond_false, decide_true, aeG, cond_false];have es := SB hk;have el : (Nk (l.take (k + 1))).length = (Nk (l.take k)).length + (4 + f.2.length) := by rw [es, aeZ, PW, hg]
    have hu : ∀ b : Bool, (bif b then some () else some ()) = some () := fun b => by cases b <;> rfl
    simp only [hu, aeE, aaX];by_cases hlong : (Nk (l.take k)).length > 1232
    ·have e1 : decide ((Nk (l.take k)).length > 1232) = true := MQ hlong;have e2 : decide ((Nk (l.take (k + 1))).length > 1232) = true := MQ (show (Nk (l.take (k + 1))).length > 1232 by omega);have e3 : Qd l (k + 1) = Qd l k := by rw [Qd, if_pos (show (Nk (l.take (k + 1))).length > 1232 by omega)]
     simp only [e1, e2, e3, aeQ, aeG, cond_false, Qp k (by omega)]
    ·have e1 : decide ((Nk (l.take k)).length > 1232) = false := MR hlong;have eo := Uo (l := l) k (by omega) (by omega);have ew : aeF.wrap ((aeF.wrap (((Qd l k).length : Int) + 4)) + (f.2.length : Int)) = ((Nk (l.take (k + 1))).length : Int) := by rw [eo, wrap64 (n := ((Nk (l.take k)).length : Int) + 4) (by omega) (by omega), wrap64 (by omega) (by omega)]; omega
     have ed : decide (((Nk (l.take (k + 1))).length : Int) > 1232) = decide ((Nk (l.take (k + 1))).length > 1232) := by
      by_cases q : (Nk (l.take (k + 1))).length > 1232
      ·rw [MQ q, MQ (show ((Nk (l.take (k + 1))).length : Int) > 1232 by omega)]
      ·rw [MR q, MR (show ¬ ((Nk (l.take (k + 1))).length : Int) > 1232 by omega)]
     simp only [e1, ew, ed, aeN];by_cases hl2 : (Nk (l.take (k + 1))).length > 1232
     ·have e2 : decide ((Nk (l.take (k + 1))).length > 1232) = true := MQ hl2;have e3 : Qd l (k + 1) = Qd l k := by rw [Qd, if_pos hl2]
      simp only [e2, e3, aeG, cond_false, Qp k (by omega)]
     ·have e2 : decide ((Nk (l.take (k + 1))).length > 1232) = false := MR hl2;have e3 : Qd l (k + 1) = Qd l k ++ PV f := by rw [Qd, if_neg hl2, hg]
      have e4 : aeF.wrap ((f.2.length : Int) + 4) = (f.2.length : Int) + 4 := wrap64 (by omega) (by omega);have e5 : Gv ((Qd l k).length + (twoS f.1 ++ twoS ((f.2.length : Int) + 4) ++ f.2).length) = some () := by
       have : (twoS f.1 ++ twoS ((f.2.length : Int) + 4) ++ f.2).length = 4 + f.2.length := PW f;rw [this, eo];unfold Gv;rw [Nat.ble_eq_true_of_le (show (Nk (l.take k)).length + (4 + f.2.length) <= 140737488355328 by omega)]; rfl
      simp only [e2, e3, e4, aeH, cond_true, Qp k (by omega)];rw [cond_pos (MQ (by rw [OL, OL]; decide)), cond_pos (MQ (by rw [aeZ, OL, OL]; unfold maxStr; omega)), e5];rfl)
 have e0 : Ol.l0 .lim (false, l, (l.length : Int), 0, ([] : List Int), ()) = _ := e;rw [e0];unfold Qc P8;rw [if_neg h16];cases hq : (ae1 l.length).find? (fun k : Nat => !decide (fE (rd f0 l (k : Int)) = 0)) with
 | some k =>
  have hk := afK hq;simp only [afl, decide_eq_false_iff_not] at hk;simp only;have : fE (rd f0 l (k : Int)) = 13 \/ fE (rd f0 l (k : Int)) = 10 := by
   unfold fE at hk ⊢
   split
   ·exact .inl rfl
   ·split
    ·exact .inr rfl
    ·rename_i q1 q2; rw [if_neg q1, if_neg q2] at hk; exact absurd rfl hk
  rw [if_neg hk];rcases this with q | q
  ·rw [if_pos q, q]; rfl
  ·rw [if_neg (by omega), q]; rfl
 | none =>
  simp only [ae_];rw [Ol.q0];simp only [Ol.b0, MR (show ¬ (l.length : Int) < (l.length : Int) by omega), cond_false, aeE];by_cases hl : (Nk l).length > 1232
  ·rw [MQ hl, if_pos hl]; rfl
  ·rw [MR hl, if_neg hl, Uo l.length (afa _) (by rw [ae_]; omega), ae_]; rfl
end Go.AM
end
