import Derived.Test.YtmcceacnjpedeaaGreatPart2

/-! The functions that the laws of this seat reach, as plain functions, and what these answer; no condition. -/
set_option linter.unusedSimpArgs false
set_option linter.unusedVariables false

section
namespace Go.AM
open Go.Proofs
set_option maxRecDepth 100000
set_option linter.unusedVariables false
noncomputable section
namespace bT
def O (m_ : ah) : OO P := gu [aX.c m_, dF.c m_, bH.c m_, fM.c m_, dV.c m_]
def e0 : Spec := ⟨[fs 82 [.q 248, .z 248, .b 0, .q 63] [(0, .s), (1, .s), (7, .s), (8, .s)]], [], 0⟩
def x0 : List Spec := [⟨[fs 82 [.q 63] [(0, .s), (1, .s), (7, .s), (8, .s)]], [], 0⟩]
abbrev A0 : Type := LI × LI × LI × LI × Unit
abbrev B0 : Type := (LI × LI × LI × LI × Unit)
def b0 (m_ : ah) (self : A0 -> Option B0) : A0 -> Option B0 := fun v_ => match v_ with
| (key, s, k, x, ()) =>
 bif aB (s.length : Int) then
 bif decide ((s.length : Int) > 16) then
  bif dJ 0 16 (s.length : Int) then
  (aX.run m_ (x, (cut s 0 16), ())).bind fun r =>
  (dV.run m_ (key, r, ())).bind fun (r1, r2, ()) =>
  bif dJ 16 (s.length : Int) (s.length : Int) then
  self (key, (cut s 16 (s.length : Int)), k, r1, ()) else none else none
 else
  some (key, s, k, x, ()) else none
theorem k0 (m_ : ah) : KQ 82 (O m_) [] e0 x0 [] (b0 m_) := fun _ _ => by kernel_rfl
def l0 (m_ : ah) : A0 -> Option B0 := loop m_ (b0 m_)
theorem q0 (v) : l0 .lim v = b0 .lim (l0 .lim) v := KS.q (k0 .lim) v
def s0 (m_ : ah) : SO P 82 := so m_ (k0 m_)
def run (m_ : ah) : (List Int) × (List Int) × Unit -> Option (List Int) := fun v_ => match v_ with
| (key, s, ()) =>
 (dF.run m_ (16, ())).bind fun r =>
 (dV.run m_ (key, r, ())).bind fun (r1, r2, ()) =>
 (bH.run m_ (r1, ())).bind fun r3 =>
 (dF.run m_ (16, ())).bind fun r4 =>
 (bT.l0 m_ (key, s, r3, r4, ())).bind fun (key1, s1, k, x, ()) =>
 bif aB (s1.length : Int) then
 bif decide ((s1.length : Int) < 16) then
  (fM.run m_ (s1, ())).bind fun r5 =>
  (bH.run m_ (k, ())).bind fun r6 =>
  (aX.run m_ (x, r5, ())).bind fun r7 =>
  (aX.run m_ (r7, r6, ())).bind fun r8 =>
  (dV.run m_ (key1, r8, ())).bind fun (r9, r10, ()) =>
  some r9
 else
  (aX.run m_ (x, s1, ())).bind fun r11 =>
  (aX.run m_ (r11, k, ())).bind fun r12 =>
  (dV.run m_ (key1, r12, ())).bind fun (r13, r14, ()) =>
  some r13 else none
theorem k (m_ : ah) : KT (O m_) [] ⟨82, [.one .str, .one .str], .one (.sh (.one .str)), run m_⟩ [s0 m_] := fun _ => by kernel_rfl
def c (m_ : ah) : CO P := co (k m_)
end bT

namespace dO
def O (m_ : ah) : OO P := gu [aX.c m_, iW.c m_, bT.c m_, dF.c m_, bH.c m_, fM.c m_]
def e0 : Spec := ⟨[fs 72 [.q 1012, .z 1012, .b 0, .q 127] [(0, .s), (1, .t), (6, .s), (7, .w)]], [], 0⟩
def x0 : List Spec := [⟨[fs 72 [.q 127] [(0, .s), (1, .t), (6, .s)]], [], 0⟩]
abbrev A0 : Type := LI × LL × LI × Int × Unit
abbrev B0 : Type := (LI × LL × LI × Unit)
def b0 (m_ : ah) (self : A0 -> Option B0) : A0 -> Option B0 := fun v_ => match v_ with
| (key, l, d, i, ()) =>
 bif aB (l.length : Int) then
 bif decide (i < (IntKind.i64.wrap ((l.length : Int) - 1))) then
  (bH.run m_ (d, ())).bind fun r =>
  bif inB i (l.length : Int) then
  (bT.run m_ (key, (rd ([] : List Int) l i), ())).bind fun r1 =>
  (aX.run m_ (r, r1, ())).bind fun r2 =>
  self (key, l, r2, (IntKind.i64.wrap (i + 1)), ()) else none
 else
  some (key, l, d, ()) else none
theorem k0 (m_ : ah) : KQ 72 (O m_) [] e0 x0 [] (b0 m_) := fun _ _ => by kernel_rfl
def l0 (m_ : ah) : A0 -> Option B0 := loop m_ (b0 m_)
theorem q0 (v) : l0 .lim v = b0 .lim (l0 .lim) v := KS.q (k0 .lim) v
def s0 (m_ : ah) : SO P 72 := so m_ (k0 m_)
def run (m_ : ah) : (List Int) × (List (List Int)) × Unit -> Option ((List Int) × Int × Unit) := fun v_ => match v_ with
| (key, l, ()) =>
 (iW.run m_ (key, ())).bind fun r =>
 bif !r then
  some (([] : List Int), 13, ())
 else
  bif aB (l.length : Int) then
  bif decide ((l.length : Int) > 127) then
   some (([] : List Int), 18, ())
  else
   bif aB (l.length : Int) then
   bif decide ((l.length : Int) = 0) then
    (dF.run m_ (15, ())).bind fun r1 =>
    bif decide (r1.length + ([1] : List Int).length <= maxStr) then
    (bT.run m_ (key, (r1 ++ ([1] : List Int)), ())).bind fun r2 =>
    some (r2, 0, ()) else none
   else
    (dF.run m_ (16, ())).bind fun r3 =>
    (bT.run m_ (key, r3, ())).bind fun r4 =>
    (dO.l0 m_ (key, l, r4, 0, ())).bind fun (key1, l1, d, ()) =>
    bif aB (l1.length : Int) then
    bif inB (IntKind.i64.wrap ((l1.length : Int) - 1)) (l1.length : Int) then
    bif aB ((rd ([] : List Int) l1 (IntKind.i64.wrap ((l1.length : Int) - 1))).length : Int) then
    bif decide (((rd ([] : List Int) l1 (IntKind.i64.wrap ((l1.length : Int) - 1))).length : Int) < 16) then
     (bH.run m_ (d, ())).bind fun r5 =>
     (fM.run m_ ((rd ([] : List Int) l1 (IntKind.i64.wrap ((l1.length : Int) - 1))), ())).bind fun r6 =>
     (aX.run m_ (r5, r6, ())).bind fun r7 =>
     (bT.run m_ (key1, r7, ())).bind fun r8 =>
     some (r8, 0, ())
    else
     bif aB ((rd ([] : List Int) l1 (IntKind.i64.wrap ((l1.length : Int) - 1))).length : Int) then
     bif dJ 0 (IntKind.i64.wrap (((rd ([] : List Int) l1 (IntKind.i64.wrap ((l1.length : Int) - 1))).length : Int) - 16)) ((rd ([] : List Int) l1 (IntKind.i64.wrap ((l1.length : Int) - 1))).length : Int) then
     bif dJ (IntKind.i64.wrap (((rd ([] : List Int) l1 (IntKind.i64.wrap ((l1.length : Int) - 1))).length : Int) - 16)) ((rd ([] : List Int) l1 (IntKind.i64.wrap ((l1.length : Int) - 1))).length : Int) ((rd ([] : List Int) l1 (IntKind.i64.wrap ((l1.length : Int) - 1))).length : Int) then
     (aX.run m_ ((cut (rd ([] : List Int) l1 (IntKind.i64.wrap ((l1.length : Int) - 1))) (IntKind.i64.wrap (((rd ([] : List Int) l1 (IntKind.i64.wrap ((l1.length : Int) - 1))).length : Int) - 16)) ((rd ([] : List Int) l1 (IntKind.i64.wrap ((l1.length : Int) - 1))).length : Int)), d, ())).bind fun r9 =>
     bif decide ((cut (rd ([] : List Int) l1 (IntKind.i64.wrap ((l1.length : Int) - 1))) 0 (IntKind.i64.wrap (((rd ([] : List Int) l1 (IntKind.i64.wrap ((l1.length : Int) - 1))).length : Int) - 16))).length + r9.length <= maxStr) then
     (bT.run m_ (key1, ((cut (rd ([] : List Int) l1 (IntKind.i64.wrap ((l1.length : Int) - 1))) 0 (IntKind.i64.wrap (((rd ([] : List Int) l1 (IntKind.i64.wrap ((l1.length : Int) - 1))).length : Int) - 16))) ++ r9), ())).bind fun r10 =>
     some (r10, 0, ()) else none else none else none else none else none else none else none else none else none
theorem k (m_ : ah) : KT (O m_) [] ⟨72, [.one .str, .one (.lst .str)], .jJ [.sh (.one .str), .sh (.one (.int .i64))], run m_⟩ [s0 m_] := fun _ => by kernel_rfl
def c (m_ : ah) : CO P := co (k m_)
end dO

namespace jD
def O (m_ : ah) : OO P := gu [dO.c m_]
def run (m_ : ah) : (List Int) × (List (List Int)) × (List Int) × Unit -> Option (List Int) := fun v_ => match v_ with
| (key, ad, plain, ()) =>
 bif decide (ad.length < 4398046511104) then
 bif decide (ad.length + ([plain] : List (List Int)).length < 4398046511104) then
 (dO.run m_ (key, (ad ++ ([plain] : List (List Int))), ())).bind fun (r, r1, ()) =>
 some r else none else none
theorem k (m_ : ah) : KT (O m_) [] ⟨64, [.one .str, .one (.lst .str), .one .str], .one (.sh (.one .str)), run m_⟩ [] := fun _ => by kernel_rfl
def c (m_ : ah) : CO P := co (k m_)
end jD

namespace jv
def O (m_ : ah) : OO P := gu [iD.c m_, gW.c m_, jD.c m_]
def run (m_ : ah) : (List Int) × (List (List Int)) × (List Int) × Unit -> Option ((List Int) × Int × Unit) := fun v_ => match v_ with
| (key, ad, sealed, ()) =>
 (iD.run m_ (key, ad, ())).bind fun r =>
 bif !(decide (r = 0)) then
  some (([] : List Int), r, ())
 else
  bif aB (sealed.length : Int) then
  bif decide ((sealed.length : Int) < 16) then
   some (([] : List Int), 11, ())
  else
   bif aB (sealed.length : Int) then
   bif decide ((sealed.length : Int) > 65552) then
    some (([] : List Int), 12, ())
   else
    bif aB (key.length : Int) then
    bif dJ 0 16 (sealed.length : Int) then
    bif dJ (IntKind.i64.wrap ((key.length : Int).tdiv 2)) (key.length : Int) (key.length : Int) then
    bif dJ 16 (sealed.length : Int) (sealed.length : Int) then
    (gW.run m_ ((cut key (IntKind.i64.wrap ((key.length : Int).tdiv 2)) (key.length : Int)), (cut sealed 0 16), (cut sealed 16 (sealed.length : Int)), ())).bind fun r1 =>
    bif dJ 0 (IntKind.i64.wrap ((key.length : Int).tdiv 2)) (key.length : Int) then
    (jD.run m_ ((cut key 0 (IntKind.i64.wrap ((key.length : Int).tdiv 2))), ad, r1, ())).bind fun r2 =>
    bif !(decide (r2 = (cut sealed 0 16))) then
     some (([] : List Int), 17, ())
    else
     some (r1, 0, ()) else none else none else none else none else none else none else none
theorem k (m_ : ah) : KT (O m_) [] ⟨51, [.one .str, .one (.lst .str), .one .str], .jJ [.sh (.one .str), .sh (.one (.int .i64))], run m_⟩ [] := fun _ => by kernel_rfl
def c (m_ : ah) : CO P := co (k m_)
end jv

namespace iE
def O (m_ : ah) : OO P := gu []
def run (m_ : ah) : (List Int) × (List (List Int)) × Int × Unit -> Option (Int) := fun v_ => match v_ with
| (key, ad, n, ()) =>
 bif aB (key.length : Int) then
 bif ((!(!(decide ((key.length : Int) = 32)))) || (aB (key.length : Int))) then
 bif ((!(decide ((key.length : Int) = 32))) && (!(decide ((key.length : Int) = 64)))) then
  some 13
 else
  bif aB (ad.length : Int) then
  bif decide ((ad.length : Int) > 126) then
   some 18
  else
   bif decide (n > 65536) then
    some 12
   else
    some 0 else none else none else none
theorem k (m_ : ah) : KT (O m_) [] ⟨52, [.one .str, .one (.lst .str), .one (.int .i64)], .one (.sh (.one (.int .i64))), run m_⟩ [] := fun _ => by kernel_rfl
def c (m_ : ah) : CO P := co (k m_)
end iE

namespace cu
def O (m_ : ah) : OO P := gu [jv.c m_, iE.c m_, cO.c m_]
def e0 : Spec := ⟨[fs 30 [.q 2036, .z 2036, .b 0, .q 255] [(1, .s), (2, .t), (3, .s), (4, .ptr 0 0), (11, .w)]], [(0, .c [.b, .dat BI])], 1⟩
def x0 : List Spec := [⟨[fs 30 [.q 260685, .b 1, .q 8147, .z 2036, .b 0, .q 255] [(8, .s), (9, .w)]], [], 0⟩, ⟨[fs 30 [.q 255] []], [], 0⟩]
abbrev A0 : Type := LI × LL × LI × Int × Bool × (List (List Int × (List LI × (List Int × List Int)))) × Unit
abbrev B0 : Type := (LI × Int × Unit) ⊕ (Unit)
def b0 (m_ : ah) (self : A0 -> Option B0) : A0 -> Option B0 := fun v_ => match v_ with
| (key, ad, sealed, i, m, m1, ()) =>
 bif aB (m1.length : Int) then
 bif decide (i < (m1.length : Int)) then
  bif inB i (m1.length : Int) then
  ((bif ((decide (((((rd iO m1 i).2).2).2) = sealed)) && (decide (((rd iO m1 i).1) = key))) then cO.run m_ (((rd iO m1 i).2).1, ad, ()) else some false)).bind fun r =>
  bif (((decide (((((rd iO m1 i).2).2).2) = sealed)) && (decide (((rd iO m1 i).1) = key))) && r) then
   some (.inl ((((rd iO m1 i).2).2).1, 0, ()))
  else
   self (key, ad, sealed, (IntKind.i64.wrap (i + 1)), m, m1, ()) else none
 else
  some (.inr (())) else none
theorem k0 (m_ : ah) : KQ 30 (O m_) [] e0 x0 [] (b0 m_) := fun _ _ => by kernel_rfl
def l0 (m_ : ah) : A0 -> Option B0 := loop m_ (b0 m_)
theorem q0 (v) : l0 .lim v = b0 .lim (l0 .lim) v := KS.q (k0 .lim) v
def s0 (m_ : ah) : SO P 30 := so m_ (k0 m_)
def run (m_ : ah) : Qi × (List Int) × (List (List Int)) × (List Int) × Unit -> Option ((List Int) × Int × Unit) := fun v_ => match v_ with
| (v, key, ad, sealed, ()) =>
 bif !v.1 then
  (jv.run m_ (key, ad, sealed, ())).bind fun (r, r1, ()) =>
  some (r, r1, ())
 else
  (iE.run m_ (key, ad, 0, ())).bind fun r2 =>
  bif !(decide (r2 = 0)) then
   some (([] : List Int), r2, ())
  else
   bif aB (sealed.length : Int) then
   bif decide ((sealed.length : Int) < 16) then
    some (([] : List Int), 11, ())
   else
    bif aB (sealed.length : Int) then
    bif decide ((sealed.length : Int) > 65552) then
     some (([] : List Int), 12, ())
    else
     (cu.l0 m_ (key, ad, sealed, 0, v.1, v.2, ())).bind fun g_ => match g_ with
     | .inl (t, t1, ()) =>
      some (t, t1, ())
     | .inr (()) =>
      some (([] : List Int), 17, ()) else none else none
theorem k (m_ : ah) : KT (O m_) [] ⟨30, [.ag zi, .one .str, .one (.lst .str), .one .str], .jJ [.sh (.one .str), .sh (.one (.int .i64))], run m_⟩ [s0 m_] := fun _ => by kernel_rfl
def c (m_ : ah) : CO P := co (k m_)
end cu

namespace dh
def O (m_ : ah) : OO P := gu [eY.c m_, bF.c m_, jr.c m_, bQ.c m_, cu.c m_]
def o0 : bY := .c [.b, .dat BI]
def o1 : bY := .c [.w, .w, .w, .w, .w, .w, .dat (.int .u32), .dat (.int .u32), .dat (.int .u32), .u, .u, .u, .u, .pF, .pF, .pF]
def o2 : bY := .c [.w, .w, .w, .w, .w, .w, .dat (.int .u32), .dat (.int .u32), .dat (.int .u32), .u, .u, .u, .u, .dat zn]
def e0 : Spec := ⟨[fs 10 [.q 2036, .z 2036, .b 0, .q 255] [(1, .s), (2, .s), (3, .ptr 0 0), (6, .ptr 1 0), (8, .ptr 2 0), (10, .own 3 (.int .i64)), (11, .w), (12, .w)]], [(0, o0), (1, o1), (2, o2), (3, .c [.row (.int .i64)])], 4⟩
def x0 : List Spec := [⟨[fs 10 [.q 255] [(1, .s), (2, .s), (3, .ptr 0 0), (6, .ptr 1 0), (8, .ptr 2 0), (10, .own 3 (.int .i64)), (11, .w)]], [(0, o0), (1, o1), (2, o2), (3, .c [.row (.int .i64)])], 4⟩]
abbrev A0 : Type := LI × LI × Int × Int × Bool × (List (List Int × (List LI × (List Int × List Int)))) × Int × Int × Int × Int × Int × Int × Int × Int × Int × Int × Int × Int × Int × Int × Int × Int × Int × Int × Int × Int × Int × Int × Int × Int × Int × Int × (List (Int × List Int)) × LI × Unit
abbrev B0 : Type := (LI × LI × Int × Bool × (List (List Int × (List LI × (List Int × List Int)))) × Int × Int × Int × Int × Int × Int × Int × Int × Int × Int × Int × Int × Int × Int × Int × Int × Int × Int × Int × Int × Int × Int × Int × Int × Int × Int × (List (Int × List Int)) × LI × Unit)
def b0 (m_ : ah) (self : A0 -> Option B0) : A0 -> Option B0 := fun v_ => match v_ with
| (s, key, n, i, m, m1, m2, m3, m4, m5, m6, m7, m8, m9, m10, m11, m12, m13, m14, m15, m16, m17, m18, m19, m20, m21, m22, m23, m24, sZ, tu, vH, rJ, wX, ()) =>
 bif inB 0 (wX.length : Int) then
 bif decide (i < (rd 0 wX 0)) then
  bif inB i (rJ.length : Int) then
  bif aB (((rd ((0 : Int), ([] : List Int)) rJ i).2).length : Int) then
  self (s, key, (IntKind.i64.wrap ((IntKind.i64.wrap (n + 4)) + (((rd ((0 : Int), ([] : List Int)) rJ i).2).length : Int))), (IntKind.i64.wrap (i + 1)), m, m1, m2, m3, m4, m5, m6, m7, m8, m9, m10, m11, m12, m13, m14, m15, m16, m17, m18, m19, m20, m21, m22, m23, m24, sZ, tu, vH, rJ, wX, ()) else none else none
 else
  some (s, key, n, m, m1, m2, m3, m4, m5, m6, m7, m8, m9, m10, m11, m12, m13, m14, m15, m16, m17, m18, m19, m20, m21, m22, m23, m24, sZ, tu, vH, rJ, wX, ()) else none
theorem k0 (m_ : ah) : KQ 10 (O m_) [] e0 x0 [] (b0 m_) := fun _ _ => by kernel_rfl
def l0 (m_ : ah) : A0 -> Option B0 := loop m_ (b0 m_)
theorem q0 (v) : l0 .lim v = b0 .lim (l0 .lim) v := KS.q (k0 .lim) v
def s0 (m_ : ah) : SO P 10 := so m_ (k0 m_)
def run (m_ : ah) : Qi × (List Int) × (List Int) × Unit -> Option (Y2 × Int × Unit) := fun v_ => match v_ with
| (v, s, key, ()) =>
 (jr.run m_ (s, ())).bind fun (r, r1, ()) =>
 bif !(decide (r1 = 0)) then
  some (((0, (0, (0, (0, (0, (0, (0, (0, (0, (0, (0, (0, (0, ([] : List (Int × List Int))))))))))))))), Fz), r1, ())
 else
  (bQ.run m_ (r.2.2.2.2.2.2.2.2.2.2.2.2.2, 1028, ())).bind fun r2 =>
  bif aB (r2.length : Int) then
  bif decide ((r2.length : Int) = 0) then
   some (((0, (0, (0, (0, (0, (0, (0, (0, (0, (0, (0, (0, (0, ([] : List (Int × List Int))))))))))))))), Fz), 19, ())
  else
   (dh.l0 m_ (s, key, 48, 0, v.1, v.2, 0, 0, 0, 0, 0, 0, 0, 0, 0, 0, 0, 0, 0, r.1, r.2.1, r.2.2.1, r.2.2.2.1, r.2.2.2.2.1, r.2.2.2.2.2.1, r.2.2.2.2.2.2.1, r.2.2.2.2.2.2.2.1, r.2.2.2.2.2.2.2.2.1, r.2.2.2.2.2.2.2.2.2.1, r.2.2.2.2.2.2.2.2.2.2.1, r.2.2.2.2.2.2.2.2.2.2.2.1, r.2.2.2.2.2.2.2.2.2.2.2.2.1, r.2.2.2.2.2.2.2.2.2.2.2.2.2, r2, ())).bind fun (s1, key1, n, m, m1, m2, m3, m4, m5, m6, m7, m8, m9, m10, m11, m12, m13, m14, m15, m16, m17, m18, m19, m20, m21, m22, m23, m24, sZ, tu, vH, rJ, wX, ()) =>
   bif inB 0 (wX.length : Int) then
   bif inB (rd 0 wX 0) (rJ.length : Int) then
   (eY.run m_ ((rd ((0 : Int), ([] : List Int)) rJ (rd 0 wX 0)).2, ())).bind fun (r3, r4, r5, ()) =>
   bif !(decide (r5 = 0)) then
    some (((0, (0, (0, (0, (0, (0, (0, (0, (0, (0, (0, (0, (0, ([] : List (Int × List Int))))))))))))))), Fz), r5, ())
   else
    bif dJ 0 n (s1.length : Int) then
    (cu.run m_ ((m, m1), key1, ([(cut s1 0 n), r3] : List (List Int)), r4, ())).bind fun (r6, r7, ()) =>
    bif !(decide (r7 = 0)) then
     some (((0, (0, (0, (0, (0, (0, (0, (0, (0, (0, (0, (0, (0, ([] : List (Int × List Int))))))))))))))), Fz), r7, ())
    else
     (bF.run m_ (r6, ())).bind fun (r8, r9, ()) =>
     bif !(decide (r9 = 0)) then
      some (((0, (0, (0, (0, (0, (0, (0, (0, (0, (0, (0, (0, (0, ([] : List (Int × List Int))))))))))))))), Fz), r9, ())
     else
      bif inB 0 (wX.length : Int) then
      bif dJ 0 (rd 0 wX 0) (rJ.length : Int) then
      some (((m15, (m16, (m17, (m18, (m19, (m20, (m21, (m22, (m23, (m24, (sZ, (tu, (vH, ([] : List (Int × List Int))))))))))))))), ((cut rJ 0 (rd 0 wX 0)), r8)), 0, ()) else none else none else none else none else none else none
theorem k (m_ : ah) : KT (O m_) [] ⟨10, [.ag zi, .one .str, .one .str], .jJ [.sh (.ag LZ), .sh (.one (.int .i64))], run m_⟩ [s0 m_] := fun _ => by kernel_rfl
def c (m_ : ah) : CO P := co (k m_)
end dh

namespace jE
def O (m_ : ah) : OO P := gu [bQ.c m_]
def run (m_ : ah) : (List (Int × List Int)) × Int × Unit -> Option ((List Int) × Int × Unit) := fun v_ => match v_ with
| (l, kind, ()) =>
 (bQ.run m_ (l, kind, ())).bind fun r =>
 bif aB (r.length : Int) then
 bif decide ((r.length : Int) = 0) then
  some (([] : List Int), 19, ())
 else
  bif aB (r.length : Int) then
  bif decide ((r.length : Int) > 1) then
   some (([] : List Int), 24, ())
  else
   bif inB 0 (r.length : Int) then
   bif inB (rd 0 r 0) (l.length : Int) then
   some ((rd ((0 : Int), ([] : List Int)) l (rd 0 r 0)).2, 0, ()) else none else none else none else none
theorem k (m_ : ah) : KT (O m_) [] ⟨14, [.one zn, .one (.int .i64)], .jJ [.sh (.one .str), .sh (.one (.int .i64))], run m_⟩ [] := fun _ => by kernel_rfl
def c (m_ : ah) : CO P := co (k m_)
end jE

namespace aI
def O (m_ : ah) : OO P := gu []
def e0 : Spec := ⟨[fs 38 [.q 116, .z 116, .b 0, .q 15] [(0, .dat zn), (1, .dat zn), (12, .w), (13, .w)]], [], 0⟩
def x0 : List Spec := [⟨[fs 38 [.q 29901, .b 1, .q 935, .z 116, .b 0, .q 15] [(4, .b)]], [], 0⟩, ⟨[fs 38 [.q 15] []], [], 0⟩]
abbrev A0 : Type := (List (Int × List Int)) × (List (Int × List Int)) × Int × Int × Unit
abbrev B0 : Type := (Bool × Unit) ⊕ (Unit)
def b0 (m_ : ah) (self : A0 -> Option B0) : A0 -> Option B0 := fun v_ => match v_ with
| (s1, s2, t, t1, ()) =>
 bif decide (t1 < t) then
  bif inB t1 (s1.length : Int) then
  bif inB t1 (s2.length : Int) then
  bif !((decide (((rd ((0 : Int), ([] : List Int)) s1 t1).1) = ((rd ((0 : Int), ([] : List Int)) s2 t1).1))) && (decide (((rd ((0 : Int), ([] : List Int)) s1 t1).2) = ((rd ((0 : Int), ([] : List Int)) s2 t1).2)))) then
   some (.inl (false, ()))
  else
   self (s1, s2, t, (IntKind.i64.wrap (t1 + 1)), ()) else none else none
 else
  some (.inr (()))
theorem k0 (m_ : ah) : KQ 38 (O m_) [] e0 x0 [] (b0 m_) := fun _ _ => by kernel_rfl
def l0 (m_ : ah) : A0 -> Option B0 := loop m_ (b0 m_)
theorem q0 (v) : l0 .lim v = b0 .lim (l0 .lim) v := KS.q (k0 .lim) v
def s0 (m_ : ah) : SO P 38 := so m_ (k0 m_)
def run (m_ : ah) : (List (Int × List Int)) × (List (Int × List Int)) × Unit -> Option (Bool) := fun v_ => match v_ with
| (s1, s2, ()) =>
 bif aB (s1.length : Int) then
 bif aB (s2.length : Int) then
 bif !(decide ((s1.length : Int) = (s2.length : Int))) then
  some false
 else
  bif aB (s1.length : Int) then
  (aI.l0 m_ (s1, s2, (s1.length : Int), 0, ())).bind fun g_ => match g_ with
  | .inl (t, ()) =>
   some t
  | .inr (()) =>
   some true else none else none else none
theorem k (m_ : ah) : KT (O m_) [] ⟨38, [.one zn, .one zn], .one (.sh (.one .bool)), run m_⟩ [s0 m_] := fun _ => by kernel_rfl
def c (m_ : ah) : CO P := co (k m_)
end aI

namespace sD
def O (m_ : ah) : OO P := gu [aI.c m_]
def run (m_ : ah) : Yd × Yd × Unit -> Option (Bool) := fun v_ => match v_ with
| (a, b, ()) =>
 ((bif (((((((decide (a.1 = b.1)) && (decide (a.2.1 = b.2.1))) && (decide (a.2.2.1 = b.2.2.1))) && (decide (a.2.2.2.1 = b.2.2.2.1))) && (decide (a.2.2.2.2.1 = b.2.2.2.2.1))) && (decide (a.2.2.2.2.2.1 = b.2.2.2.2.2.1))) && (((((((decide (a.2.2.2.2.2.2.1 = b.2.2.2.2.2.2.1)) && (decide (a.2.2.2.2.2.2.2.1 = b.2.2.2.2.2.2.2.1))) && (decide (a.2.2.2.2.2.2.2.2.1 = b.2.2.2.2.2.2.2.2.1))) && (decide (a.2.2.2.2.2.2.2.2.2.1 = b.2.2.2.2.2.2.2.2.2.1))) && (decide (a.2.2.2.2.2.2.2.2.2.2.1 = b.2.2.2.2.2.2.2.2.2.2.1))) && (decide (a.2.2.2.2.2.2.2.2.2.2.2.1 = b.2.2.2.2.2.2.2.2.2.2.2.1))) && (decide (a.2.2.2.2.2.2.2.2.2.2.2.2.1 = b.2.2.2.2.2.2.2.2.2.2.2.2.1)))) then aI.run m_ (a.2.2.2.2.2.2.2.2.2.2.2.2.2, b.2.2.2.2.2.2.2.2.2.2.2.2.2, ()) else some false)).bind fun r =>
 some ((((((((decide (a.1 = b.1)) && (decide (a.2.1 = b.2.1))) && (decide (a.2.2.1 = b.2.2.1))) && (decide (a.2.2.2.1 = b.2.2.2.1))) && (decide (a.2.2.2.2.1 = b.2.2.2.2.1))) && (decide (a.2.2.2.2.2.1 = b.2.2.2.2.2.1))) && (((((((decide (a.2.2.2.2.2.2.1 = b.2.2.2.2.2.2.1)) && (decide (a.2.2.2.2.2.2.2.1 = b.2.2.2.2.2.2.2.1))) && (decide (a.2.2.2.2.2.2.2.2.1 = b.2.2.2.2.2.2.2.2.1))) && (decide (a.2.2.2.2.2.2.2.2.2.1 = b.2.2.2.2.2.2.2.2.2.1))) && (decide (a.2.2.2.2.2.2.2.2.2.2.1 = b.2.2.2.2.2.2.2.2.2.2.1))) && (decide (a.2.2.2.2.2.2.2.2.2.2.2.1 = b.2.2.2.2.2.2.2.2.2.2.2.1))) && (decide (a.2.2.2.2.2.2.2.2.2.2.2.2.1 = b.2.2.2.2.2.2.2.2.2.2.2.2.1)))) && r)
theorem k (m_ : ah) : KT (O m_) [] ⟨37, [.ag JF, .ag JF], .one (.sh (.one .bool)), run m_⟩ [] := fun _ => by kernel_rfl
def c (m_ : ah) : CO P := co (k m_)
end sD

namespace sF
def O (m_ : ah) : OO P := gu [sD.c m_, aI.c m_]
def run (m_ : ah) : Y2 × Y2 × Unit -> Option (Bool) := fun v_ => match v_ with
| (a, b, ()) =>
 (sD.run m_ (a.1, b.1, ())).bind fun r =>
 ((bif r then aI.run m_ (a.2.1, b.2.1, ()) else some false)).bind fun r1 =>
 ((bif (r && r1) then aI.run m_ (a.2.2, b.2.2, ()) else some false)).bind fun r2 =>
 some ((r && r1) && r2)
theorem k (m_ : ah) : KT (O m_) [] ⟨15, [.ag LZ, .ag LZ], .one (.sh (.one .bool)), run m_⟩ [] := fun _ => by kernel_rfl
def c (m_ : ah) : CO P := co (k m_)
end sF

namespace gX
def O (m_ : ah) : OO P := gu [aW.c m_, bU.c m_, iU.c m_, iH.c m_, dh.c m_, lY.c m_, eY.c m_, uw.c m_, jE.c m_, sF.c m_]
def run (m_ : ah) : Qi × (List Int) × (List Int) × (List Int) × (List (Int × List Int)) × Int × Y2 × Unit -> Option (Bool) := fun v_ => match v_ with
| (v, s, key, body, l, kind, o, ()) =>
 (aW.run m_ (v, ([l, o.2.1, o.2.2, o.1.2.2.2.2.2.2.2.2.2.2.2.2.2] : List (List (Int × List Int))), ())).bind fun r =>
 bif (!!!r || (aB (s.length : Int))) then
 bif ((!(!(!r || (decide ((s.length : Int) > 5000))))) || (aB (key.length : Int))) then
 bif ((!(!((!r || (decide ((s.length : Int) > 5000))) || (decide ((key.length : Int) > 100))))) || (aB (body.length : Int))) then
 bif (((!r || (decide ((s.length : Int) > 5000))) || (decide ((key.length : Int) > 100))) || (decide ((body.length : Int) > 70000))) then
  (bU.run m_ (())).bind fun r1 =>
  some r1
 else
  (iU.run m_ (v, s, key, ())).bind fun (r2, r3, ()) =>
  (dh.run m_ (v, s, key, ())).bind fun (r4, r5, ()) =>
  (lY.run m_ (body, ())).bind fun (r6, r7, r8, ()) =>
  (eY.run m_ (body, ())).bind fun (r9, r10, r11, ()) =>
  (uw.run m_ (l, kind, ())).bind fun (r12, r13, ()) =>
  (jE.run m_ (l, kind, ())).bind fun (r14, r15, ()) =>
  (iH.run m_ (r2, r4, ())).bind fun r16 =>
  ((bif ((((((r16 && (decide (r3 = r5))) && (decide (r6 = r9))) && (decide (r7 = r10))) && (decide (r8 = r11))) && (decide (r12 = r14))) && (decide (r13 = r15))) then sF.run m_ (r2, o, ()) else some false)).bind fun r17 =>
  ((bif ((((((r16 && (decide (r3 = r5))) && (decide (r6 = r9))) && (decide (r7 = r10))) && (decide (r8 = r11))) && (decide (r12 = r14))) && (decide (r13 = r15))) then iH.run m_ (r2, o, ()) else some false)).bind fun r18 =>
  ((bif (((((((r16 && (decide (r3 = r5))) && (decide (r6 = r9))) && (decide (r7 = r10))) && (decide (r8 = r11))) && (decide (r12 = r14))) && (decide (r13 = r15))) && (r17 == r18)) then sF.run m_ (r4, r4, ()) else some false)).bind fun r19 =>
  ((bif ((((((((r16 && (decide (r3 = r5))) && (decide (r6 = r9))) && (decide (r7 = r10))) && (decide (r8 = r11))) && (decide (r12 = r14))) && (decide (r13 = r15))) && (r17 == r18)) && r19) then bU.run m_ (()) else some false)).bind fun r20 =>
  some (((((((((r16 && (decide (r3 = r5))) && (decide (r6 = r9))) && (decide (r7 = r10))) && (decide (r8 = r11))) && (decide (r12 = r14))) && (decide (r13 = r15))) && (r17 == r18)) && r19) && r20) else none else none else none
theorem k (m_ : ah) : KT (O m_) [] ⟨4, [.ag zi, .one .str, .one .str, .one .str, .one zn, .one (.int .i64), .ag LZ], .one (.sh (.one .bool)), run m_⟩ [] := fun _ => by kernel_rfl
def c (m_ : ah) : CO P := co (k m_)
end gX
end
end Go.AM
end
section
namespace Go.AM
def W9 : Nat -> Int -> Int -> Int -> Int
 | 0, _, _, r => r
 | n + 1, a, b, r => W9 n (bif decide (gB .u8 a 128 = 0) then fB .u8 a 1 else dP .u8 (fB .u8 a 1) 27) (iZ .u8 b 1) (bif decide (gB .u8 b 1 = 1) then dP .u8 r a else r)
def tm (a b : Int) : Int := W9 8 a b 0
theorem Yj : ∀ n a b r, B8 r -> B8 (W9 n a b r)
 | 0, _, _, _, h => h
 | n + 1, a, b, r, h => Yj n _ _ _ (by cases decide (gB .u8 b 1 = 1) <;> first | exact h | exact CX _ _)
theorem W_ (a b : Int) : B8 (tm a b) := Yj 8 a b 0 ⟨by decide, by decide⟩
theorem Ih (a b : Int) : cZ.run .lim (a, b, ()) = some (tm a b) := by
 have key : ∀ (n i : Nat) (a b r : Int), i + n = 8 -> cZ.l0 .lim (a, b, r, (i : Int), ()) = some (W9 n a b r, ()) := by
  intro n
  induction n with
  | zero =>
   intro i a b r h;rw [cZ.q0];simp (disch := omega) only [aU, aH, aP, wrap64, au, aA, dec_not, dec_and, fA, dA, cond_true, cond_false, Option.bind_some, Option.bind_none, Bool.or_true, Bool.true_or, Bool.and_true, Bool.true_and, Bool.and_false, Bool.false_and, Bool.or_false, Bool.false_or, Bool.not_true, Bool.not_false, Bool.or_self, Bool.and_self, Bool.not_not, if_true, if_false, and_self, true_and, and_true, and_false, false_and, or_true, true_or, or_false, false_or, not_true_eq_false, not_false_eq_true, decide_true, decide_false, eq_self, if_pos, if_neg, iK, ig, cZ.b0];rfl
  | succ n ih =>
   intro i a b r h;rw [cZ.q0];simp only [cZ.b0, mM i (by omega), ih (i + 1) _ _ _ (by omega), au (show (i : Int) < 8 by omega), cond_true];rw [W9];cases decide (gB .u8 b 1 = 1) <;> cases decide (gB .u8 a 128 = 0) <;> rfl
 have := key 8 0 a b 0 rfl;rw [show ((0 : Nat) : Int) = 0 from rfl] at this;simp only [cZ.run, this, Option.bind_some];rfl
theorem Mc : ∀ n a r, W9 n a 0 r = r
 | 0, _, _ => rfl
 | n + 1, a, r => by
  rw [W9, show iZ .u8 0 1 = 0 from by decide, Mc n];rfl
theorem step_a {a : Int} (h : B8 a) : dP .u8 (fB .u8 a 1) (IntKind.u8.wrap (iZ .u8 a 7 * 27)) = bif decide (gB .u8 a 128 = 0) then fB .u8 a 1 else dP .u8 (fB .u8 a 1) 27 :=
 iM (p := fun a => dP .u8 (fB .u8 a 1) (IntKind.u8.wrap (iZ .u8 a 7 * 27)) = bif decide (gB .u8 a 128 = 0) then fB .u8 a 1 else dP .u8 (fB .u8 a 1) 27) (by decide +kernel) h
theorem bit_b {b : Int} (h : B8 b) : gB .u8 b 1 = 0 \/ gB .u8 b 1 = 1 :=
 iM (p := fun b => gB .u8 b 1 = 0 \/ gB .u8 b 1 = 1) (by decide +kernel) h
theorem Zi {a : Int} : B8 (bif decide (gB .u8 a 128 = 0) then fB .u8 a 1 else dP .u8 (fB .u8 a 1) 27) := by
 cases decide (gB .u8 a 128 = 0)
 ·exact CX _ _
 ·exact Qg _ _
theorem pV {a b : Int} (ha : B8 a) (hb : B8 b) : fK.run .lim (a, b, ()) = some (tm a b) := by
 have key : ∀ (n : Nat) (a b r : Int), B8 a -> B8 r -> 0 <= b -> b < 2 ^ n -> n <= 8 -> fK.l0 .lim (a, b, r, ()) = some (W9 n a b r, ()) := by
  intro n
  induction n with
  | zero =>
   intro a b r ha hr h0 h1 _;obtain rfl : b = 0 := by simp at h1; omega
   rw [fK.q0];simp (disch := omega) only [aU, aH, aP, wrap64, au, aA, dec_not, dec_and, fA, dA, cond_true, cond_false, Option.bind_some, Option.bind_none, Bool.or_true, Bool.true_or, Bool.and_true, Bool.true_and, Bool.and_false, Bool.false_and, Bool.or_false, Bool.false_or, Bool.not_true, Bool.not_false, Bool.or_self, Bool.and_self, Bool.not_not, if_true, if_false, and_self, true_and, and_true, and_false, false_and, or_true, true_or, or_false, false_or, not_true_eq_false, not_false_eq_true, decide_true, decide_false, eq_self, if_pos, if_neg, iK, ig, fK.b0];rfl
  | succ n ih =>
   intro a b r ha hr h0 h1 hn;have hb : B8 b := by
    refine ⟨h0, Int.lt_of_lt_of_le h1 ?_⟩;have h2 : (2 : Int) ^ (n + 1) = ((2 ^ (n + 1) : Nat) : Int) := by simp
    have h3 : 2 ^ (n + 1) <= 2 ^ 8 := Nat.pow_le_pow_right (by omega) hn;rw [h2]; omega
   rw [fK.q0];by_cases hz : b = 0
   ·subst hz;rw [Mc];simp (disch := omega) only [aU, aH, aP, wrap64, au, aA, dec_not, dec_and, fA, dA, cond_true, cond_false, Option.bind_some, Option.bind_none, Bool.or_true, Bool.true_or, Bool.and_true, Bool.true_and, Bool.and_false, Bool.false_and, Bool.or_false, Bool.false_or, Bool.not_true, Bool.not_false, Bool.or_self, Bool.and_self, Bool.not_not, if_true, if_false, and_self, true_and, and_true, and_false, false_and, or_true, true_or, or_false, false_or, not_true_eq_false, not_false_eq_true, decide_true, decide_false, eq_self, if_pos, if_neg, iK, ig, fK.b0]
   ·have hs : iZ .u8 b 1 = b / 2 := by rw [Y0]; rfl
    have hm : IntKind.u8.wrap (a * gB .u8 b 1) = bif decide (gB .u8 b 1 = 1) then a else 0 := by
     rcases bit_b hb with e | e
     ·rw [e]; simp; decide
     ·rw [e, Int.mul_one, pU ha]; rfl
    have hx : dP .u8 r (bif decide (gB .u8 b 1 = 1) then a else 0) = bif decide (gB .u8 b 1 = 1) then dP .u8 r a else r := by
     cases decide (gB .u8 b 1 = 1)
     ·exact xor_zero hr
     ·rfl
    have hr' : B8 (bif decide (gB .u8 b 1 = 1) then dP .u8 r a else r) := by
     cases decide (gB .u8 b 1 = 1)
     ·exact hr
     ·exact CX _ _
    have h2 := ih _ (iZ .u8 b 1) _ (@Zi a) hr' (by rw [hs]; omega) (by rw [hs, Int.pow_succ] at *; omega) (by omega);simp only [fK.b0, au (show b > 0 by omega), cond_true, step_a ha, hm, hx];rw [h2, W9]
 have := key 8 a b 0 ha ⟨by decide, by decide⟩ hb.1 hb.2 (by omega);simp only [fK.run, this, Option.bind_some];rfl
noncomputable def zo (b : Int) : Int := (bV.run (.fuel 0) (b, ())).getD 0
set_option maxRecDepth 20000 in
theorem Aq {b : Int} (h : B8 b) : bV.run .lim (b, ()) = some (zo b) := by
 have h1 : ∀ b : Int, B8 b -> ∃ r, bV.run (.fuel 0) (b, ()) = some r := by
  intro b hb;exact ⟨_, cond_pos (aH hb.1 hb.2)⟩
 obtain ⟨r, hr⟩ := h1 b h;have : bV.run .lim (b, ()) = some r := hr;rw [this]; unfold zo; rw [hr]; rfl
def invS : Nat -> Int -> Int -> Int
 | 0, r, _ => r
 | n + 1, r, s => invS n (tm r (tm s s)) (tm s s)
def Xa (b n : Int) : Int := oL .u8 (fB .u8 b n) (iZ .u8 b (8 - n))
def Xb (b : Int) : Int := dP .u8 (dP .u8 (dP .u8 (dP .u8 (dP .u8 (invS 7 1 b) (Xa (invS 7 1 b) 1)) (Xa (invS 7 1 b) 2)) (Xa (invS 7 1 b) 3)) (Xa (invS 7 1 b) 4)) 99
theorem Oy {b : Int} (hb : B8 b) : iJ.run .lim (b, ()) = some (invS 7 1 b) := by
 have key : ∀ (n i : Nat) (r s : Int), i + n = 7 -> B8 r -> B8 s -> iJ.l0 .lim (r, s, (i : Int), ()) = some (invS n r s, ()) := by
  intro n
  induction n with
  | zero =>
   intro i r s h _ _;rw [iJ.q0];simp (disch := omega) only [aU, aH, aP, wrap64, au, aA, dec_not, dec_and, fA, dA, cond_true, cond_false, Option.bind_some, Option.bind_none, Bool.or_true, Bool.true_or, Bool.and_true, Bool.true_and, Bool.and_false, Bool.false_and, Bool.or_false, Bool.false_or, Bool.not_true, Bool.not_false, Bool.or_self, Bool.and_self, Bool.not_not, if_true, if_false, and_self, true_and, and_true, and_false, false_and, or_true, true_or, or_false, false_or, not_true_eq_false, not_false_eq_true, decide_true, decide_false, eq_self, if_pos, if_neg, iK, ig, iJ.b0];rfl
  | succ n ih =>
   intro i r s h hr hs;rw [iJ.q0];simp only [iJ.b0, mM i (by omega), au (show (i : Int) < 7 by omega), cond_true, pV hs hs, Option.bind_some, pV hr (W_ s s), ih (i + 1) _ _ (by omega) (W_ _ _) (W_ _ _)];rfl
 have := key 7 0 1 b rfl ⟨by decide, by decide⟩ hb;rw [show ((0 : Nat) : Int) = 0 from rfl] at this;simp only [iJ.run, this, Option.bind_some]
theorem Zj {b : Int} (hb : B8 b) : rC.run .lim (b, ()) = some (Xb b) := by
 simp only [rC.run, Oy hb, Option.bind_some];have w : ∀ n : Int, qw.run .lim (invS 7 1 b, n, ()) = bif decide (0 <= n) then (bif decide (0 <= IntKind.i64.wrap (8 - n)) then some (oL .u8 (fB .u8 (invS 7 1 b) n) (iZ .u8 (invS 7 1 b) (IntKind.i64.wrap (8 - n)))) else none) else none := fun n => rfl
 rw [w, w, w, w];rfl
theorem Ii : ∀ n : Nat, n < 256 -> Xb n = zo n := by decide +kernel
theorem Qn {b : Int} (hb : B8 b) : rC.run .lim (b, ()) = some (zo b) := by rw [Zj hb, iM (p := fun b => Xb b = zo b) Ii hb]
theorem Qo {b : Int} (hb : B8 b) : B8 (zo b) := by rw [<- iM (p := fun b => Xb b = zo b) Ii hb]; exact CX _ _
end Go.AM
end
section
namespace Go.AM
abbrev z4 : List Int := List.replicate 4 0
abbrev CZ : List Int := List.replicate 16 0
abbrev dY : List Int := List.replicate 256 0
abbrev kL : List Int := [1, 2, 3, 9, 11, 13, 14]
theorem Yk : ∀ k : Nat, k < 7 -> 0 <= rd 0 kL (k : Int) /\ rd 0 kL (k : Int) < 16 := by decide
def dK (k : Nat) : List (List Int) :=
 let t := fun j : Int => mV 256 k fun i => tm (i : Int) j
 [dY, t 1, t 2, t 3, dY, dY, dY, dY, dY, t 9, dY, t 11, dY, t 13, t 14, dY]
def C9 (i : Nat) (yb : List (List Int)) : Nat -> List (List Int)
 | 0 => yb
 | k + 1 => (C9 i yb k).set (rd 0 kL (k : Int)).toNat ((rd dY (C9 i yb k) (rd 0 kL (k : Int))).set i (tm (i : Int) (rd 0 kL (k : Int))))
theorem Qp (k : Nat) : C9 k (dK k) 7 = dK (k + 1) := by
 have e : C9 k (dK k) 7 = (
  let t := fun j : Int => (mV 256 k fun i => tm (i : Int) j).set k (tm (k : Int) j)
  [dY, t 1, t 2, t 3, dY, dY, dY, dY, dY, t 9, dY, t 11, dY, t 13, t 14, dY]) := rfl
 have h : ∀ j : Int, (mV 256 k fun i => tm (i : Int) j).set k (tm (k : Int) j) = mV 256 (k + 1) fun i => tm (i : Int) j := fun j => oG rfl
 rw [e];simp only [h];rfl
theorem FB : dK 0 = List.replicate 16 dY := by
 unfold dK;simp only [nM];rfl
noncomputable def BJ : Nat -> List Int
 | 0 => dY
 | k + 1 => (BJ k).set (zo (k : Int)).toNat (k : Int)
noncomputable def mY (k : Nat) : List Int := mV 256 k fun i => zo (i : Int)
theorem rM {x : Int} (h : B8 x) : rd 0 (mY 256) x = zo x := by
 unfold mY;rw [rY, Qh h.1 (by exact h.2), show ((x.toNat : Nat) : Int) = x by have := h.1; omega]
theorem rD {x : Int} (h : B8 x) : rd 0 (rd dY (dK 256) 1) x = tm x 1 /\ rd 0 (rd dY (dK 256) 2) x = tm x 2 /\ rd 0 (rd dY (dK 256) 3) x = tm x 3 := by
 have e : ∀ j : Int, rd 0 (mV 256 256 fun i => tm (i : Int) j) x = tm x j := fun j => by rw [rY, Qh h.1 (by exact h.2), show ((x.toNat : Nat) : Int) = x by have := h.1; omega]
 exact ⟨e 1, e 2, e 3⟩
def word (key : List Int) (j : Nat) : List Int := [rd 0 key ((4 * j : Nat) : Int), rd 0 key ((4 * j + 1 : Nat) : Int), rd 0 key ((4 * j + 2 : Nat) : Int), rd 0 key ((4 * j + 3 : Nat) : Int)]
theorem Yl {m : List Int} {k : Nat} (h : k + 4 <= m.length) : (m.drop k).take 4 = [rd 0 m (k : Int), rd 0 m ((k + 1 : Nat) : Int), rd 0 m ((k + 2 : Nat) : Int), rd 0 m ((k + 3 : Nat) : Int)] := by
 rw [mX (show k < m.length by omega), mX (show k + 1 < m.length by omega), mX (show k + 2 < m.length by omega), mX (show k + 3 < m.length by omega)];rw [List.drop_eq_getElem_cons (show k < m.length by omega), List.drop_eq_getElem_cons (show k + 1 < m.length by omega), List.drop_eq_getElem_cons (show k + 2 < m.length by omega), List.drop_eq_getElem_cons (show k + 3 < m.length by omega)];rfl
theorem mW {α : Type} (m : List α) (a b : Nat) : cut m (a : Int) (b : Int) = (m.drop a).take (b - a) := by unfold cut; rw [Int.toNat_natCast, Int.toNat_natCast, List.drop_take]
theorem Md {key : List Int} {j : Nat} (h : 4 * j + 4 <= key.length) : (cut key ((4 * j : Nat) : Int) ((4 * j + 4 : Nat) : Int)).take 4 = word key j := by
 rw [mW, show 4 * j + 4 - 4 * j = 4 by omega, List.take_take, Nat.min_self, Yl h];rfl
def Words (W : List (List Int)) : Prop := ∀ w ∈ W, w.length = 4 /\ ∀ x ∈ w, B8 x
theorem Words.at {W : List (List Int)} (h : Words W) {i : Nat} (hi : i < W.length) : (rd z4 W (i : Int)).length = 4 /\ ∀ x ∈ rd z4 W (i : Int), B8 x := h _ (fJ (by omega) (by omega))
theorem Words.byte {W : List (List Int)} (h : Words W) {i : Nat} (hi : i < W.length) {j : Int} (h0 : 0 <= j) (hj : j < 4) : B8 (rd 0 (rd z4 W (i : Int)) j) := by
 have := h.at hi;exact this.2 _ (fJ h0 (by omega))
theorem sG {W : List (List Int)} (h : Words W) : W.flatten.length = 4 * W.length := by
 induction W with
 | nil => rfl
 | cons w W ih =>
  rw [List.flatten_cons, List.length_append, ih fun x hx => h x (.tail _ hx), (h w (.head _)).1, List.length_cons]; omega
theorem nX {W : List (List Int)} (h : Words W) {i j : Nat} (hi : i < W.length) (hj : j < 4) : rd 0 W.flatten ((4 * i + j : Nat) : Int) = rd 0 (rd z4 W (i : Int)) (j : Int) := by
 induction W generalizing i with
 | nil => simp at hi
 | cons w W ih =>
  have hw := (h w (.head _)).1;cases i with
  | zero =>
   unfold rd;simp only [Int.toNat_natCast, List.flatten_cons, List.getD_eq_getElem?_getD];rw [List.getElem?_append_left (by omega)];simp
  | succ i =>
   have := ih (fun x hx => h x (.tail _ hx)) (by simpa using hi);unfold rd at this ⊢
   simp only [Int.toNat_natCast, List.flatten_cons, List.getD_eq_getElem?_getD] at this ⊢
   rw [List.getElem?_append_right (by omega), show 4 * (i + 1) + j - w.length = 4 * i + j by omega, this];simp
noncomputable def Qq (nk : Nat) (i : Nat) (x : Int) (t : List Int) : List Int :=
 if i % nk = 0 then [dP .u8 (zo (rd 0 t 1)) x, zo (rd 0 t 2), zo (rd 0 t 3), zo (rd 0 t 0)]
 else if nk = 8 /\ i % 8 = 4 then [zo (rd 0 t 0), zo (rd 0 t 1), zo (rd 0 t 2), zo (rd 0 t 3)]
 else [rd 0 t 0, rd 0 t 1, rd 0 t 2, rd 0 t 3]
def FC (t w : List Int) : List Int := [dP .u8 (rd 0 t 0) (rd 0 w 0), dP .u8 (rd 0 t 1) (rd 0 w 1), dP .u8 (rd 0 t 2) (rd 0 w 2), dP .u8 (rd 0 t 3) (rd 0 w 3)]
noncomputable def stepW (nk : Nat) (s : List (List Int) × Int) : List (List Int) × Int :=
 (s.1 ++ [FC (Qq nk s.1.length s.2 (rd z4 s.1 ((s.1.length - 1 : Nat) : Int))) (rd z4 s.1 ((s.1.length - nk : Nat) : Int))], if s.1.length % nk = 0 then tm s.2 2 else s.2)
noncomputable def sched (nk : Nat) (key : List Int) : Nat -> List (List Int) × Int
 | 0 => ((List.range nk).map (word key), 1)
 | k + 1 => stepW nk (sched nk key k)
theorem sH (nk : Nat) (key : List Int) : ∀ k, (sched nk key k).1.length = nk + k
 | 0 => by simp [sched]
 | k + 1 => by rw [sched, stepW, List.length_append, sH nk key k]; rfl
theorem DK (t w : List Int) : (FC t w).length = 4 /\ ∀ x ∈ FC t w, B8 x := by
 refine ⟨rfl, fun x hx => ?_⟩;simp only [FC, List.mem_cons, List.not_mem_nil, or_false] at hx;rcases hx with rfl | rfl | rfl | rfl <;> exact CX _ _
theorem xk (nk : Nat) (key : List Int) (hk : 4 * nk <= key.length) (hb : ∀ x ∈ key, B8 x) : ∀ k, Words (sched nk key k).1 /\ B8 (sched nk key k).2
 | 0 => by
  refine ⟨fun w hw => ?_, show B8 1 from ⟨by decide, by decide⟩⟩;obtain ⟨j, hj, rfl⟩ := List.mem_map.1 hw;have hj := List.mem_range.1 hj;refine ⟨rfl, fun x hx => ?_⟩;simp only [word, List.mem_cons, List.not_mem_nil, or_false] at hx;rcases hx with rfl | rfl | rfl | rfl <;> exact hb _ (fJ (by omega) (by omega))
 | k + 1 => by
  obtain ⟨h1, h2⟩ := xk nk key hk hb k;refine ⟨fun w hw => ?_, ?_⟩
  ·rcases List.mem_append.1 hw with hw | hw
   ·exact h1 w hw
   ·rw [List.mem_singleton.1 hw]; exact DK _ _
  ·show B8 (if _ then tm _ 2 else _);split
   ·exact W_ _ _
   ·exact h2
noncomputable def kH (key : List Int) : List (List Int) := (sched (key.length / 4) key (3 * (key.length / 4) + 28)).1
theorem sJ (key : List Int) : (kH key).length = 4 * (key.length / 4) + 28 := by unfold kH; rw [sH]; omega
theorem xP (key : List Int) (hb : ∀ x ∈ key, B8 x) : Words (kH key) := (xk _ key (by omega) hb _).1
def qy (W : List (List Int)) (j : Nat) : List Int := rd z4 W ((4 * j : Nat) : Int) ++ (rd z4 W ((4 * j + 1 : Nat) : Int) ++ (rd z4 W ((4 * j + 2 : Nat) : Int) ++ rd z4 W ((4 * j + 3 : Nat) : Int)))
def gZ (W : List (List Int)) : List (List Int) := (List.range (W.length / 4)).map (qy W)
theorem Ar {W : List (List Int)} (h : Words W) {j : Nat} (hj : 4 * j + 3 < W.length) : (qy W j).length = 16 := by
 unfold qy;simp only [List.length_append, (h.at (show 4 * j < W.length by omega)).1, (h.at (show 4 * j + 1 < W.length by omega)).1, (h.at (show 4 * j + 2 < W.length by omega)).1, (h.at hj).1]
theorem DL {W : List (List Int)} (h : Words W) {i : Nat} (hi : i < W.length) : (W.flatten.drop (4 * i)).take 4 = rd z4 W (i : Int) := by
 have hl := sG h;rw [Yl (by omega), list4 (h.at hi).1];have := nX h hi (j := 0) (by omega);rw [show 4 * i + 0 = 4 * i from rfl] at this;rw [this, nX h hi (j := 1) (by omega), nX h hi (j := 2) (by omega), nX h hi (j := 3) (by omega)];rfl
theorem Me {W : List (List Int)} (h : Words W) {j : Nat} (hj : 4 * j + 3 < W.length) : cut W.flatten ((16 * j : Nat) : Int) ((16 * j + 16 : Nat) : Int) = qy W j := by
 have hl := sG h;have e0 := DL h (show 4 * j < W.length by omega);have e1 := DL h (show 4 * j + 1 < W.length by omega);have e2 := DL h (show 4 * j + 2 < W.length by omega);have e3 := DL h hj;rw [show 4 * (4 * j) = 16 * j by omega] at e0;rw [show 4 * (4 * j + 1) = 16 * j + 4 by omega] at e1;rw [show 4 * (4 * j + 2) = 16 * j + 8 by omega] at e2;rw [show 4 * (4 * j + 3) = 16 * j + 12 by omega] at e3;rw [mW, show 16 * j + 16 - 16 * j = 4 + (4 + (4 + 4)) by omega, List.take_add, List.take_add, List.take_add, List.drop_drop, List.drop_drop, List.drop_drop];unfold qy;rw [e0, e1, show 16 * j + 4 + 4 = 16 * j + 8 by omega, e2, show 16 * j + 8 + 4 = 16 * j + 12 by omega, e3]
noncomputable def qA (b : List Int) : List Int := tab 16 fun i => zo (rd 0 b (((i + 4 * (i % 4)) % 16 : Nat) : Int))
def oI (b : List Int) : List Int := tab 16 fun i =>
 dP .u8 (dP .u8 (dP .u8 (dP .u8 0 (tm (rd 0 b ((i / 4 * 4 + i % 4 : Nat) : Int)) 2)) (tm (rd 0 b ((i / 4 * 4 + (i + 1) % 4 : Nat) : Int)) 3)) (tm (rd 0 b ((i / 4 * 4 + (i + 2) % 4 : Nat) : Int)) 1)) (tm (rd 0 b ((i / 4 * 4 + (i + 3) % 4 : Nat) : Int)) 1)
def uY (b k : List Int) : List Int := tab 16 fun i => dP .u8 (rd 0 b (i : Int)) (rd 0 k (i : Int))
noncomputable def Oz (last : Bool) (b k : List Int) : List Int := uY (bif last then qA b else oI (qA b)) k
noncomputable def qB (W : List (List Int)) (b : List Int) : Nat -> List Int
 | 0 => uY b (qy W 0)
 | j + 1 => Oz (decide (j + 2 = W.length / 4)) (qB W b j) (qy W (j + 1))
noncomputable def encS (key b : List Int) : List Int := qB (kH key) b ((kH key).length / 4 - 1)
def C_ (b : List Int) : Prop := b.length = 16 /\ ∀ x ∈ b, B8 x
theorem Ij {n : Nat} {g : Nat -> Int} (h : ∀ k, k < n -> B8 (g k)) : ∀ x ∈ tab n g, B8 x := by
 intro x hx;obtain ⟨i, hi, rfl⟩ := List.mem_map.1 hx;exact h i (List.mem_range.1 hi)
theorem MB (b k : List Int) : C_ (uY b k) := ⟨jf, Ij fun _ _ => CX _ _⟩
theorem DN (W : List (List Int)) (b : List Int) : ∀ j, C_ (qB W b j)
 | 0 => MB _ _
 | _ + 1 => MB _ _
theorem pI (key b : List Int) : C_ (encS key b) := DN _ _ _
theorem C_.at {b : List Int} (h : C_ b) {i : Nat} (hi : i < 16) : B8 (rd 0 b (i : Int)) := h.2 _ (fJ (by omega) (by rw [h.1]; omega))
end Go.AM
end
section
namespace Go.AM
theorem rd40 (a b c d : Int) : rd 0 [a, b, c, d] 0 = a := rfl
theorem rd41 (a b c d : Int) : rd 0 [a, b, c, d] 1 = b := rfl
theorem rd42 (a b c d : Int) : rd 0 [a, b, c, d] 2 = c := rfl
theorem rd43 (a b c d : Int) : rd 0 [a, b, c, d] 3 = d := rfl
theorem JG {α : Type} {d : α} {a b : List α} {k : Nat} (h : k < a.length) : rd d (a ++ b) (k : Int) = rd d a (k : Int) := by unfold rd; rw [Int.toNat_natCast, List.getD_eq_getElem?_getD, List.getD_eq_getElem?_getD, List.getElem?_append_left h]
theorem OA {key : List Int} {q : Nat} (h : key.length = 4 * q) (hb : ∀ x ∈ key, B8 x) : ((List.range q).map (word key)).flatten = key := by
 have hW : Words ((List.range q).map (word key)) := by
  intro w hw;obtain ⟨j, hj, rfl⟩ := List.mem_map.1 hw;have hj := List.mem_range.1 hj;refine ⟨rfl, fun x hx => ?_⟩;simp only [word, List.mem_cons, List.not_mem_nil, or_false] at hx;rcases hx with rfl | rfl | rfl | rfl <;> exact hb _ (fJ (by omega) (by omega))
 have hl := sG hW;rw [List.length_map, List.length_range] at hl;refine BG (d := 0) (by omega) fun k hk => ?_
 have hi : k / 4 < ((List.range q).map (word key)).length := by simp; omega
 have := nX hW hi (j := k % 4) (by omega);rw [show 4 * (k / 4) + k % 4 = k by omega] at this;rw [this, mX hi];simp only [List.getElem_map, List.getElem_range, word];rcases (show k % 4 = 0 \/ k % 4 = 1 \/ k % 4 = 2 \/ k % 4 = 3 by omega) with e | e | e | e <;> rw [e]
 ·show rd 0 key ((4 * (k / 4) : Nat) : Int) = _; congr 2; omega
 ·show rd 0 key ((4 * (k / 4) + 1 : Nat) : Int) = _; congr 2; omega
 ·show rd 0 key ((4 * (k / 4) + 2 : Nat) : Int) = _; congr 2; omega
 ·show rd 0 key ((4 * (k / 4) + 3 : Nat) : Int) = _; congr 2; omega
theorem Xc {W : List (List Int)} (hW : Words W) {i nk : Nat} {c : Int} {t : List Int} (h1 : nk <= i) (h2 : i = W.length) (h3 : 0 < nk) (h4 : i < 1000) (ht : t.length = 4) :
  aO.l0 .lim ((nk : Int), c, (i : Int), 0, W.flatten, t, ()) = some ((nk : Int), c, (i : Int), W.flatten ++ FC t (rd z4 W ((i - nk : Nat) : Int)), ()) := by
 have hl := sG hW;have hx : ∀ k : Nat, k < 4 -> rd 0 (FC t (rd z4 W ((i - nk : Nat) : Int))) (k : Int) = dP .u8 (rd 0 t (k : Int)) (rd 0 (rd z4 W ((i - nk : Nat) : Int)) (k : Int)) := by
  intro k hk;rcases (show k = 0 \/ k = 1 \/ k = 2 \/ k = 3 by omega) with rfl | rfl | rfl | rfl <;> rfl
 have e := dB (f := aO.l0 .lim) (fun k => ((nk : Int), c, (i : Int), (k : Int), W.flatten ++ (FC t (rd z4 W ((i - nk : Nat) : Int))).take k, t, ())) (n := 4) (fun k hk => by
  rw [aO.q0];have w1 : IntKind.i64.wrap (4 * IntKind.i64.wrap ((i : Int) - (nk : Int))) = ((4 * (i - nk) : Nat) : Int) := by rw [wrap64 (n := (i : Int) - (nk : Int)) (by omega) (by omega), wrap64 (by omega) (by omega)]; omega
  have w2 : IntKind.i64.wrap (((4 * (i - nk) : Nat) : Int) + (k : Int)) = ((4 * (i - nk) + k : Nat) : Int) := by rw [wrap64 (by omega) (by omega)]; omega
  have hr := nX hW (i := i - nk) (j := k) (by omega) hk;have ha : rd 0 (W.flatten ++ (FC t (rd z4 W ((i - nk : Nat) : Int))).take k) ((4 * (i - nk) + k : Nat) : Int) = rd 0 (rd z4 W ((i - nk : Nat) : Int)) (k : Int) := by rw [JG (by omega), hr]
  have hlen : (W.flatten ++ (FC t (rd z4 W ((i - nk : Nat) : Int))).take k).length = 4 * i + k := by rw [List.length_append, hl, List.length_take, (DK _ _).1]; omega
  simp only [aO.b0, au (show (k : Int) < 4 by omega), w1, w2, ha, hlen, aH (show (0 : Int) <= ((4 * (i - nk) + k : Nat) : Int) by omega) (show ((4 * (i - nk) + k : Nat) : Int) < ((4 * i + k : Nat) : Int) by omega), aH (show (0 : Int) <= k by omega) (show (k : Int) < (t.length : Int) by omega), cond_true, mM k (by omega)];rw [cond_pos (by simp; omega), Am (d := (0 : Int)) (by rw [(DK _ _).1]; omega), hx k hk, xor_comm, List.append_assoc])
 rw [List.take_zero, List.append_nil, show ((0 : Nat) : Int) = 0 from rfl] at e;rw [e, List.take_of_length_le (by rw [(DK _ _).1]; omega), aO.q0];simp only [aO.b0, aA (show ¬ ((4 : Nat) : Int) < 4 by decide), cond_false]
theorem Ik {key : List Int} (hk : key.length = 16 \/ key.length = 32) (hb : ∀ x ∈ key, B8 x) : aO.run .lim (key, ()) = some (kH key).flatten := by
 have hd : (key.length : Int).tdiv 4 = ((key.length / 4 : Nat) : Int) := by rw [Int.tdiv_eq_ediv_of_nonneg (Int.natCast_nonneg _)]; simp
 have w0 : IntKind.i64.wrap ((key.length : Int).tdiv 4) = ((key.length / 4 : Nat) : Int) := by rw [hd, wrap64 (by omega) (by omega)]
 generalize hnk : key.length / 4 = nk at w0;have hn : nk = 4 \/ nk = 8 := by omega
 have e := dB (f := aO.l1 .lim) (fun k => ((nk : Int), (sched nk key k).2, ((nk + k : Nat) : Int), (sched nk key k).1.flatten, ())) (n := 3 * nk + 28) (fun k hkq => by
  rw [aO.q1];obtain ⟨hW, hx⟩ := xk nk key (by omega) hb k;have hl := sH nk key k;have hs : sched nk key (k + 1) = stepW nk (sched nk key k) := rfl;rw [hs];unfold stepW;generalize hq : sched nk key k = q at hW hx hl;obtain ⟨W, x⟩ := q;simp only at hW hx hl ⊢
  have hi0 : nk + k < 1000 := by omega
  generalize hi : nk + k = i at hl hi0;have hw := hW.at (show i - 1 < W.length by omega);have hfl := sG hW;have hb0 := hW.byte (show i - 1 < W.length by omega) (j := 0) (by omega) (by omega);have hb1 := hW.byte (show i - 1 < W.length by omega) (j := 1) (by omega) (by omega);have hb2 := hW.byte (show i - 1 < W.length by omega) (j := 2) (by omega) (by omega);have hb3 := hW.byte (show i - 1 < W.length by omega) (j := 3) (by omega) (by omega);have f0 := nX hW (show i - 1 < W.length by omega) (j := 0) (by omega);have f1 := nX hW (show i - 1 < W.length by omega) (j := 1) (by omega);have f2 := nX hW (show i - 1 < W.length by omega) (j := 2) (by omega);have f3 := nX hW (show i - 1 < W.length by omega) (j := 3) (by omega);rw [show 4 * (i - 1) + 0 = 4 * i - 4 by omega, show ((0 : Nat) : Int) = 0 from rfl] at f0;rw [show 4 * (i - 1) + 1 = 4 * i - 3 by omega, show ((1 : Nat) : Int) = 1 from rfl] at f1;rw [show 4 * (i - 1) + 2 = 4 * i - 2 by omega, show ((2 : Nat) : Int) = 2 from rfl] at f2;rw [show 4 * (i - 1) + 3 = 4 * i - 1 by omega, show ((3 : Nat) : Int) = 3 from rfl] at f3;have w1 : IntKind.i64.wrap (4 * IntKind.i64.wrap ((nk : Int) + 7)) = ((4 * nk + 28 : Nat) : Int) := by rw [wrap64 (n := (nk : Int) + 7) (by omega) (by omega), wrap64 (by omega) (by omega)]; omega
  have w2 : IntKind.i64.wrap (4 * (i : Int)) = ((4 * i : Nat) : Int) := by rw [wrap64 (by omega) (by omega)]; omega
  have w4 : IntKind.i64.wrap (((4 * i : Nat) : Int) - 4) = ((4 * i - 4 : Nat) : Int) := by rw [wrap64 (by omega) (by omega)]; omega
  have w5 : IntKind.i64.wrap (((4 * i : Nat) : Int) - 3) = ((4 * i - 3 : Nat) : Int) := by rw [wrap64 (by omega) (by omega)]; omega
  have w6 : IntKind.i64.wrap (((4 * i : Nat) : Int) - 2) = ((4 * i - 2 : Nat) : Int) := by rw [wrap64 (by omega) (by omega)]; omega
  have w7 : IntKind.i64.wrap (((4 * i : Nat) : Int) - 1) = ((4 * i - 1 : Nat) : Int) := by rw [wrap64 (by omega) (by omega)]; omega
  have m1 : ((i : Int)).tmod (nk : Int) = ((i % nk : Nat) : Int) := by rw [Int.tmod_eq_emod_of_nonneg (Int.natCast_nonneg i)]; simp
  have m2 : ((i : Int)).tmod 8 = ((i % 8 : Nat) : Int) := by rw [Int.tmod_eq_emod_of_nonneg (Int.natCast_nonneg i)]; simp
  have FD := fun c t ht => Xc (c := c) (t := t) hW (i := i) (nk := nk) (by omega) (by omega) (by omega) (by omega) ht
  have hin : ∀ j : Nat, 1 <= j -> j <= 4 -> inB ((4 * i - j : Nat) : Int) (W.flatten.length : Int) = true := fun j h1 h2 => aH (by omega) (by omega)
  simp only [aO.b1, w1, w2, w4, w5, w6, w7, au (show (i : Int) < ((4 * nk + 28 : Nat) : Int) by omega), hin 4 (by omega) (by omega), hin 3 (by omega) (by omega), hin 2 (by omega) (by omega), hin 1 (by omega) (by omega), aA (show ¬ (nk : Int) = 0 by omega), m1, m2, cond_true, Bool.not_false, Bool.or_true, f0, f1, f2, f3, rd40, rd41, rd42, rd43, Aq hb0, Aq hb1, Aq hb2, Aq hb3, Option.bind_some, Ih];have hi4 : ∀ (a b c d : Int) (j : Int), 0 <= j -> j < 4 -> inB j (([a, b, c, d] : List Int).length : Int) = true := fun a b c d j h1 h2 => aH h1 h2
  simp only [hi4 _ _ _ _ 0 (by omega) (by omega), hi4 _ _ _ _ 1 (by omega) (by omega), hi4 _ _ _ _ 2 (by omega) (by omega), hi4 _ _ _ _ 3 (by omega) (by omega), cond_true];rw [hl];unfold Qq;have hfa : ∀ v : List Int, (W ++ [v]).flatten = W.flatten ++ v := fun v => by simp
  rw [hfa];by_cases c1 : i % nk = 0
  ·rw [au (show ((i % nk : Nat) : Int) = 0 by omega), if_pos c1, if_pos c1];simp only [cond_true];rw [FD _ _ rfl];simp only [Option.bind_some, mM i (by omega)];rw [show i + 1 = nk + (k + 1) by omega]
  ·rw [aA (show ¬ ((i % nk : Nat) : Int) = 0 by omega), if_neg c1, if_neg c1];simp only [cond_false];by_cases c2 : nk = 8 /\ i % 8 = 4
   ·rw [au (show (nk : Int) = 8 by omega), au (show ((i % 8 : Nat) : Int) = 4 by omega), if_pos c2];simp only [Bool.and_self, cond_true];rw [FD _ _ rfl];simp only [Option.bind_some, mM i (by omega)];rw [show i + 1 = nk + (k + 1) by omega]
   ·have : (decide ((nk : Int) = 8) && decide (((i % 8 : Nat) : Int) = 4)) = false := by
     by_cases c3 : nk = 8
     ·rw [aA (show ¬ ((i % 8 : Nat) : Int) = 4 by omega), Bool.and_false]
     ·rw [aA (show ¬ (nk : Int) = 8 by omega), Bool.false_and]
    rw [this, if_neg c2];simp only [cond_false];rw [FD _ _ rfl];simp only [Option.bind_some, mM i (by omega)];rw [show i + 1 = nk + (k + 1) by omega])
 have hs0 : (sched nk key 0).1.flatten = key := OA (by omega) hb;rw [hs0, show (sched nk key 0).2 = 1 from rfl, Nat.add_zero] at e;have w1 : IntKind.i64.wrap (4 * IntKind.i64.wrap ((nk : Int) + 7)) = ((4 * nk + 28 : Nat) : Int) := by rw [wrap64 (n := (nk : Int) + 7) (by omega) (by omega), wrap64 (by omega) (by omega)]; omega
 simp only [aO.run, aF (show key.length < 9223372036854775808 by omega), cond_true, w0, e];rw [aO.q1];simp only [aO.b1, w1, aA (show ¬ ((nk + (3 * nk + 28) : Nat) : Int) < ((4 * nk + 28 : Nat) : Int) by omega), cond_false, Option.bind_some];unfold kH;rw [hnk]
theorem Ry {b : List Int} (hb : b.length = 16) : aT.run .lim (b, false, ()) = some (tab 16 fun i => rd 0 b (((i + 4 * (i % 4)) % 16 : Nat) : Int)) := by
 have inner : ∀ c : Nat, c < 4 -> aT.l0 .lim (b, false, (c : Int), 0, mV 16 (4 * c) (fun i => rd 0 b (((i + 4 * (i % 4)) % 16 : Nat) : Int)), ()) = some (b, false, (c : Int), mV 16 (4 * c + 4) (fun i => rd 0 b (((i + 4 * (i % 4)) % 16 : Nat) : Int)), ()) := by
  intro c hc;have e := dB (f := aT.l0 .lim) (fun r => (b, false, (c : Int), (r : Int), mV 16 (4 * c + r) (fun i => rd 0 b (((i + 4 * (i % 4)) % 16 : Nat) : Int)), ())) (n := 4) (fun r hr => by
   rw [aT.q0];have w1 : IntKind.i64.wrap (4 * (c : Int)) = ((4 * c : Nat) : Int) := by rw [wrap64 (by omega) (by omega)]; omega
   have w2 : IntKind.i64.wrap (((4 * c : Nat) : Int) + (r : Int)) = ((4 * c + r : Nat) : Int) := by rw [wrap64 (by omega) (by omega)]; omega
   have w3 : IntKind.i64.wrap ((c : Int) + (r : Int)) = ((c + r : Nat) : Int) := by rw [wrap64 (by omega) (by omega)]; omega
   have m1 : (((c + r : Nat) : Int)).tmod 4 = (((c + r) % 4 : Nat) : Int) := by rw [Int.tmod_eq_emod_of_nonneg (Int.natCast_nonneg _)]; simp
   have w4 : IntKind.i64.wrap (4 * (((c + r) % 4 : Nat) : Int)) = ((4 * ((c + r) % 4) : Nat) : Int) := by rw [wrap64 (by omega) (by omega)]; omega
   have w5 : IntKind.i64.wrap (((4 * ((c + r) % 4) : Nat) : Int) + (r : Int)) = ((4 * ((c + r) % 4) + r : Nat) : Int) := by rw [wrap64 (by omega) (by omega)]; omega
   simp only [aT.b0, au (show (r : Int) < 4 by omega), w1, w2, w3, m1, w4, w5, hb, wV, aH (show (0 : Int) <= ((4 * ((c + r) % 4) + r : Nat) : Int) by omega) (show ((4 * ((c + r) % 4) + r : Nat) : Int) < ((16 : Nat) : Int) by omega), aH (show (0 : Int) <= ((4 * c + r : Nat) : Int) by omega) (show ((4 * c + r : Nat) : Int) < ((16 : Nat) : Int) by omega), cond_true, cond_false, mM r (by omega), Int.toNat_natCast];rw [oG]
   ·rfl
   ·congr 2; omega)
  rw [show ((0 : Nat) : Int) = 0 from rfl, Nat.add_zero] at e;rw [e, aT.q0];simp only [aT.b0, aA (show ¬ ((4 : Nat) : Int) < 4 by decide), cond_false]
 have e := dB (f := aT.l1 .lim) (fun c => (b, false, (c : Int), mV 16 (4 * c) (fun i => rd 0 b (((i + 4 * (i % 4)) % 16 : Nat) : Int)), ())) (n := 4) (fun c hc => by
  rw [aT.q1];simp only [aT.b1, au (show (c : Int) < 4 by omega), cond_true, inner c hc, Option.bind_some, mM c (by omega)];rfl)
 rw [show ((0 : Nat) : Int) = 0 from rfl, Nat.mul_zero, nM] at e;simp only [aT.run, show Nat.blt 16 70368744177664 = true from rfl, cond_true, e];rw [aT.q1];simp only [aT.b1, aA (show ¬ ((4 : Nat) : Int) < 4 by decide), cond_false, Option.bind_some];rw [show 4 * 4 = 16 from rfl, rY]
theorem Un {b : List Int} (hb : b.length = 16) : aJ.run .lim (b, [2, 3, 1, 1], ()) = some (oI b) := by
 have cell : ∀ c r : Nat, c < 4 -> r < 4 -> aJ.l0 .lim (b, [2, 3, 1, 1], (c : Int), (r : Int), 0, mV 16 (4 * c + r) (fun i => rd 0 (oI b) (i : Int)), ()) = some (b, [2, 3, 1, 1], (c : Int), (r : Int), mV 16 (4 * c + r + 1) (fun i => rd 0 (oI b) (i : Int)), ()) := by
  intro c r hc hr;have h4 : ∀ j : Nat, j < 4 -> IntKind.i64.wrap (IntKind.i64.wrap (4 * (c : Int)) + (IntKind.i64.wrap ((r : Int) + (j : Int))).tmod 4) = (((4 * c + r) / 4 * 4 + (4 * c + r + j) % 4 : Nat) : Int) := by
   intro j hj;have d2 : IntKind.i64.wrap ((r : Int) + (j : Int)) = ((r + j : Nat) : Int) := by rw [wrap64 (by omega) (by omega)]; omega
   have d3 : (((r + j : Nat) : Int)).tmod 4 = (((r + j) % 4 : Nat) : Int) := by rw [Int.tmod_eq_emod_of_nonneg (Int.natCast_nonneg _)]; simp
   rw [d2, d3, wrap64 (n := 4 * (c : Int)) (by omega) (by omega), wrap64 (by omega) (by omega)]; omega
  have w2 : IntKind.i64.wrap (IntKind.i64.wrap (4 * (c : Int)) + (r : Int)) = ((4 * c + r : Nat) : Int) := by rw [wrap64 (n := 4 * (c : Int)) (by omega) (by omega), wrap64 (by omega) (by omega)]; omega
  have step : ∀ (k : Int) (k' : Int) (cf : Int) (q : Nat) (m : List Int), m.length = 16 -> 0 <= k -> k < 4 -> rd 0 ([2, 3, 1, 1] : List Int) k = cf -> IntKind.i64.wrap (k + 1) = k' -> IntKind.i64.wrap (IntKind.i64.wrap (4 * (c : Int)) + (IntKind.i64.wrap ((r : Int) + k)).tmod 4) = (q : Int) -> q < 16 ->
    aJ.l0 .lim (b, [2, 3, 1, 1], (c : Int), (r : Int), k, m, ()) = aJ.l0 .lim (b, [2, 3, 1, 1], (c : Int), (r : Int), k', m.set (4 * c + r) (dP .u8 (rd 0 m ((4 * c + r : Nat) : Int)) (tm (rd 0 b (q : Int)) cf)), ()) := by
   intro k k' cf q m hm h1 h2 h3 h4 h5 h6;rw [aJ.q0];simp only [aJ.b0, au h2, w2, h5, hm, hb, aH (show (0 : Int) <= ((4 * c + r : Nat) : Int) by omega) (show ((4 * c + r : Nat) : Int) < ((16 : Nat) : Int) by omega), aH (show (0 : Int) <= (q : Int) by omega) (show (q : Int) < ((16 : Nat) : Int) by omega), aH h1 (show k < ((([2, 3, 1, 1] : List Int).length : Nat) : Int) from h2), h3, h4, Ih, Option.bind_some, cond_true, Int.toNat_natCast]
  have g0 := h4 0 (by omega); have g1 := h4 1 (by omega); have g2 := h4 2 (by omega); have g3 := h4 3 (by omega);rw [show ((0 : Nat) : Int) = 0 from rfl] at g0;rw [show ((1 : Nat) : Int) = 1 from rfl] at g1;rw [show ((2 : Nat) : Int) = 2 from rfl] at g2;rw [show ((3 : Nat) : Int) = 3 from rfl] at g3;rw [step 0 1 2 _ _ wV (by omega) (by omega) rfl rfl g0 (by omega)];rw [step 1 2 3 _ _ (by simp) (by omega) (by omega) rfl rfl g1 (by omega)];rw [step 2 3 1 _ _ (by simp) (by omega) (by omega) rfl rfl g2 (by omega)];rw [step 3 4 1 _ _ (by simp) (by omega) (by omega) rfl rfl g3 (by omega)];rw [aJ.q0];simp only [aJ.b0, aA (show ¬ (4 : Int) < 4 by omega), cond_false];generalize hm : mV 16 (4 * c + r) (fun i => rd 0 (oI b) (i : Int)) = m;have hml : m.length = 16 := by rw [<- hm, wV]
  have hl : ∀ v, 4 * c + r < (m.set (4 * c + r) v).length := fun v => by simp [hml]; omega
  have h0 : rd 0 m ((4 * c + r : Nat) : Int) = 0 := by rw [<- hm, WV (by omega)]
  simp only [uj (show 4 * c + r < m.length by omega), uj (hl _), List.set_set, h0];rw [<- hm, oG];unfold oI;rw [mJ (by omega)];simp only [Nat.add_zero]
 have inner : ∀ c : Nat, c < 4 -> aJ.l1 .lim (b, [2, 3, 1, 1], (c : Int), 0, mV 16 (4 * c) (fun i => rd 0 (oI b) (i : Int)), ()) = some (b, [2, 3, 1, 1], (c : Int), mV 16 (4 * c + 4) (fun i => rd 0 (oI b) (i : Int)), ()) := by
  intro c hc;have e := dB (f := aJ.l1 .lim) (fun r => (b, [2, 3, 1, 1], (c : Int), (r : Int), mV 16 (4 * c + r) (fun i => rd 0 (oI b) (i : Int)), ())) (n := 4) (fun r hr => by
   rw [aJ.q1];simp only [aJ.b1, au (show (r : Int) < 4 by omega), cond_true, cell c r hc hr, Option.bind_some, mM r (by omega)];rfl)
  rw [show ((0 : Nat) : Int) = 0 from rfl, Nat.add_zero] at e;rw [e, aJ.q1];simp only [aJ.b1, aA (show ¬ ((4 : Nat) : Int) < 4 by decide), cond_false]
 have e := dB (f := aJ.l2 .lim) (fun c => (b, [2, 3, 1, 1], (c : Int), mV 16 (4 * c) (fun i => rd 0 (oI b) (i : Int)), ())) (n := 4) (fun c hc => by
  rw [aJ.q2];simp only [aJ.b2, au (show (c : Int) < 4 by omega), cond_true, inner c hc, Option.bind_some, mM c (by omega)];rfl)
 rw [show ((0 : Nat) : Int) = 0 from rfl, Nat.mul_zero, nM] at e;simp only [aJ.run, show Nat.blt 16 70368744177664 = true from rfl, cond_true, e];rw [aJ.q2];simp only [aJ.b2, aA (show ¬ ((4 : Nat) : Int) < 4 by decide), cond_false, Option.bind_some];rw [show 4 * 4 = 16 from rfl, rY, <- Fv (m := oI b) jf]
theorem Rz {b w w1 : List Int} (hb : b.length = 16) (hw : w.length = 16) : aC.l0 .lim (w, 0, w1, b, ()) = some (w1, uY b w, ()) := by
 have e := iT (f := aC.l0 .lim) (fun k b => (w, (k : Int), w1, b, ())) (fun k v => dP .u8 v (rd 0 w (k : Int))) b hb (fun k hk m' hm hj => by
  rw [aC.q0];simp only [aC.b0, au (show (k : Int) < 16 by omega), hm, hw, aH (show (0 : Int) <= k by omega) (show (k : Int) < ((16 : Nat) : Int) by omega), cond_true, mM k (by omega), hj k (Nat.le_refl _), Int.toNat_natCast])
 refine (show _ = _ from e).trans ?_;rw [aC.q0];simp only [aC.b0, aA (show ¬ ((16 : Nat) : Int) < 16 by decide), cond_false];rfl
theorem MC {b w w1 : List Int} {i1 : Int} (hb : b.length = 16) (hw : w.length = 16) : aC.l2 .lim (w, 0, w1, i1, b, ()) = some (w1, i1, uY b w, ()) := by
 have e := iT (f := aC.l2 .lim) (fun k b => (w, (k : Int), w1, i1, b, ())) (fun k v => dP .u8 v (rd 0 w (k : Int))) b hb (fun k hk m' hm hj => by
  rw [aC.q2];simp only [aC.b2, au (show (k : Int) < 16 by omega), hm, hw, aH (show (0 : Int) <= k by omega) (show (k : Int) < ((16 : Nat) : Int) by omega), cond_true, mM k (by omega), hj k (Nat.le_refl _), Int.toNat_natCast])
 refine (show _ = _ from e).trans ?_;rw [aC.q2];simp only [aC.b2, aA (show ¬ ((16 : Nat) : Int) < 16 by decide), cond_false];rfl
theorem Uo {b w : List Int} {i : Int} (hb : C_ b) : aC.l1 .lim (w, i, 0, b, ()) = some (w, i, tab 16 (fun i => zo (rd 0 b (i : Int))), ()) := by
 have e := iT (f := aC.l1 .lim) (fun k b => (w, i, (k : Int), b, ())) (fun k v => zo v) b hb.1 (fun k hk m' hm hj => by
  rw [aC.q1];simp only [aC.b1, au (show (k : Int) < 16 by omega), hm, aH (show (0 : Int) <= k by omega) (show (k : Int) < ((16 : Nat) : Int) by omega), cond_true, mM k (by omega), hj k (Nat.le_refl _), Aq (hb.at hk), Option.bind_some, Int.toNat_natCast])
 refine (show _ = _ from e).trans ?_;rw [aC.q1];simp only [aC.b1, aA (show ¬ ((16 : Nat) : Int) < 16 by decide), cond_false]
theorem RD (b : List Int) : (tab 16 fun i => rd 0 (tab 16 fun i => zo (rd 0 b (i : Int))) (((i + 4 * (i % 4)) % 16 : Nat) : Int)) = qA b := ji fun k hk => by rw [mJ (by omega)]
theorem MF {W : List (List Int)} {b : List Int} {r : Nat} (hW : Words W) (hl : W.length = 4 * (r + 1)) (hr : r <= 100) (hr0 : 0 < r) (hb : b.length = 16) : aC.run .lim (W.flatten, b, ()) = some (qB W b r) := by
 have hfl := sG hW;have h0 := Me hW (j := 0) (by omega);rw [show ((16 * 0 : Nat) : Int) = 0 from rfl, show ((16 * 0 + 16 : Nat) : Int) = 16 from rfl] at h0;have e := dB (f := aC.l3 .lim) (fun k => (W.flatten, ((16 * (k + 1) : Nat) : Int), qB W b k, ())) (n := r) (fun k hk => by
  rw [aC.q3];have hB := DN W b k;have hc := Me hW (j := k + 1) (by omega);have hkl := Ar hW (j := k + 1) (by omega);have w1 : IntKind.i64.wrap (((16 * (k + 1) : Nat) : Int) + 16) = ((16 * (k + 1) + 16 : Nat) : Int) := by rw [wrap64 (by omega) (by omega)]; omega
  have hlast : decide (((16 * (k + 1) + 16 : Nat) : Int) < (W.flatten.length : Int)) = !decide (k + 2 = W.length / 4) := by
   by_cases h : k + 1 = r
   ·rw [aA (by omega), au (by omega)]; rfl
   ·rw [au (by omega), aA (by omega)]; rfl
  simp only [aC.b3, aF (show W.flatten.length < 9223372036854775808 by omega), au (show ((16 * (k + 1) : Nat) : Int) < (W.flatten.length : Int) by omega), cond_true, Uo hB, Option.bind_some, Ry jf, RD, w1, hlast, aP (show (0 : Int) <= ((16 * (k + 1) : Nat) : Int) by omega) (show ((16 * (k + 1) : Nat) : Int) <= ((16 * (k + 1) + 16 : Nat) : Int) by omega) (show ((16 * (k + 1) + 16 : Nat) : Int) <= (W.flatten.length : Int) by omega), hc];have hsl : (qA (qB W b k)).length = 16 := jf;have hml : (oI (qA (qB W b k))).length = 16 := jf;show _ = aC.l3 .lim (W.flatten, ((16 * (k + 1 + 1) : Nat) : Int), Oz (decide (k + 2 = W.length / 4)) (qB W b k) (qy W (k + 1)), ());unfold Oz;cases decide (k + 2 = W.length / 4) with
  | true =>
   simp only [Bool.not_true, cond_false, cond_true];rw [MC hsl hkl];simp only [Option.bind_some, w1];rfl
  | false =>
   simp only [Bool.not_false, cond_false, cond_true, Un hsl, Option.bind_some];rw [MC hml hkl];simp only [Option.bind_some, w1];rfl)
 simp only [aC.run];rw [cond_pos (aP (by omega) (by omega) (by omega)), h0, Rz hb (Ar hW (by omega))];simp only [Option.bind_some];rw [show qB W b 0 = uY b (qy W 0) from rfl, show ((16 * (0 + 1) : Nat) : Int) = 16 from rfl] at e;rw [e, aC.q3];simp only [aC.b3, aF (show W.flatten.length < 9223372036854775808 by omega), aA (show ¬ ((16 * (r + 1) : Nat) : Int) < (W.flatten.length : Int) by omega), cond_true, cond_false, Option.bind_some]
theorem Qr {key b : List Int} (hk : key.length = 16 \/ key.length = 32) (hb : ∀ x ∈ key, B8 x) (hl : b.length = 16) : aC.run .lim ((kH key).flatten, b, ()) = some (encS key b) := by
 have h1 := sJ key;rw [MF (r := key.length / 4 + 6) (xP key hb) (by omega) (by omega) (by omega) hl];unfold encS;rw [show (kH key).length / 4 - 1 = key.length / 4 + 6 by omega]
end Go.AM
end
section
namespace Go.AM
section
variable {ok : Bool} {n dn mu sm four nk x i t t1 t2 tp tq : Int} {key b tw ta out K was kb T sb bk : List Int} {yb W rn : List (List Int)} {last : Bool}
theorem E_mul (i : Nat) (hi : i < 256) : ak.l0 .lim ((i : Int), t, 7, 0, ok, key, dn, mu, sm, sb, bk, yb, kL, b, tw, ()) = some (t, ok, key, dn, mu, sm, sb, bk, C9 i yb 7, b, tw, ()) := by
 have e := dB (f := ak.l0 .lim) (fun k => ((i : Int), t, 7, (k : Int), ok, key, dn, mu, sm, sb, bk, C9 i yb k, kL, b, tw, ())) (n := 7) (fun k hk => by
  rw [ak.q0];obtain ⟨h1, h2⟩ := Yk k hk;have hB : B8 (rd 0 kL (k : Int)) := ⟨h1, by omega⟩;have RF : B8 (i : Int) := ⟨by omega, by omega⟩;simp only [ak.b0, au (show (k : Int) < 7 by omega), aH (show (0 : Int) <= k by omega) (show (k : Int) < (kL.length : Int) from show (k : Int) < 7 by omega), pU RF, pV RF hB, Option.bind_some, aH h1 (show rd 0 kL (k : Int) < 16 from h2), aH (show (0 : Int) <= i by omega) (show (i : Int) < 256 by omega), cond_true, mM k (by omega), Int.toNat_natCast];rfl)
 refine e.trans ?_;rw [ak.q0];simp only [ak.b0, aA (show ¬ ((7 : Nat) : Int) < 7 by decide), cond_false]
theorem Ur : ak.l1 .lim (0, ok, key, dn, mu, sm, dY, dY, List.replicate 16 dY, b, tw, ()) = some (ok, key, dn, mu, sm, mY 256, BJ 256, dK 256, b, tw, ()) := by
 have e := dB (f := ak.l1 .lim) (fun k => ((k : Int), ok, key, dn, mu, sm, mY k, BJ k, dK k, b, tw, ())) (n := 256) (fun k hk => by
  rw [ak.q1];have RF : B8 (k : Int) := ⟨by omega, by omega⟩;have hs := Qo RF;have hm := fun sb bk => E_mul (ok := ok) (key := key) (dn := dn) (mu := mu) (sm := sm) (sb := sb) (bk := bk) (yb := dK k) (b := b) (tw := tw) (t := (k : Int))  k hk
  simp only [ak.b1, au (show (k : Int) < 256 by omega), pU RF, Qn RF, Option.bind_some, aH (show (0 : Int) <= k by omega) (show (k : Int) < 256 by omega), aH hs.1 hs.2, cond_true, show ((([1, 2, 3, 9, 11, 13, 14] : List Int).length : Nat) : Int) = 7 from rfl, aU (show (7 : Int) < 9223372036854775808 by omega), hm, mM k (by omega), Qp];rw [show (mY k).set ((k : Int)).toNat (zo k) = mY (k + 1) from oG rfl];rfl)
 rw [show mY 0 = dY from nM, FB, show BJ 0 = dY from rfl, show ((0 : Nat) : Int) = 0 from rfl] at e;refine e.trans ?_;rw [ak.q1];simp only [ak.b1, aA (show ¬ ((256 : Nat) : Int) < 256 by decide), cond_false]
theorem Xd {q : Nat} (hk : kb.length = 4 * q) (hq : q <= 100) : ak.l2 .lim (0, nk, ok, 4, key, dn, mu, sm, sb, bk, yb, b, tw, kb, [], ()) = some (nk, ok, key, dn, mu, sm, sb, bk, yb, b, tw, (List.range q).map (word kb), ()) := by
 have e := dB (f := ak.l2 .lim) (fun k => (((4 * k : Nat) : Int), nk, ok, 4, key, dn, mu, sm, sb, bk, yb, b, tw, kb, (List.range k).map (word kb), ())) (n := q) (fun k hkq => by
  rw [ak.q2];have w1 : IntKind.i64.wrap (((4 * k : Nat) : Int) + 4) = ((4 * k + 4 : Nat) : Int) := by rw [wrap64 (by omega) (by omega)]; omega
  have w2 : mn 4 ((kb.length : Int) - ((4 * k : Nat) : Int)) = 4 := by rw [ig]; omega
  have w3 : (cut kb ((4 * k : Nat) : Int) ((4 * k + 4 : Nat) : Int)).length = 4 := by rw [mW, List.length_take, List.length_drop]; omega
  have w4 : (Nat.ble 1 4 && Nat.ble 4 (cut kb ((4 * k : Nat) : Int) ((4 * k + 4 : Nat) : Int)).length) = true := by rw [w3]; rfl
  simp only [ak.b2, aU (show (kb.length : Int) < 9223372036854775808 by omega), au (show ((4 * k : Nat) : Int) < (kb.length : Int) by omega), aP (show (0 : Int) <= ((4 * k : Nat) : Int) by omega) (show ((4 * k : Nat) : Int) <= (kb.length : Int) by omega) (Int.le_refl _), aU (show (kb.length : Int) - ((4 * k : Nat) : Int) < 9223372036854775808 by omega), w2, w1, aP (show (0 : Int) <= ((4 * k : Nat) : Int) by omega) (show ((4 * k : Nat) : Int) <= ((4 * k + 4 : Nat) : Int) by omega) (Int.le_refl _), au (show ((4 * k + 4 : Nat) : Int) <= (kb.length : Int) by omega), Bool.and_self, w4, cond_true];rw [cond_pos (by simp; omega), Md (by omega)];simp only [List.range_succ, List.map_append, List.map_cons, List.map_nil];rfl)
 refine e.trans ?_;rw [ak.q2];simp only [ak.b2, aU (show (kb.length : Int) < 9223372036854775808 by omega), aA (show ¬ ((4 * q : Nat) : Int) < (kb.length : Int) by omega), cond_true, cond_false]
theorem E_xor (hW : Words W) {i nk : Nat} (h1 : nk <= i) (h2 : i <= W.length) (h3 : 0 < nk) (h4 : i < 1000) (hT : T.length = 4) : ak.l3 .lim ((nk : Int), x, (i : Int), 0, ok, T, key, dn, mu, sm, sb, bk, yb, b, tw, W, ()) = some ((nk : Int), x, (i : Int), ok, FC T (rd z4 W ((i - nk : Nat) : Int)), key, dn, mu, sm, sb, bk, yb, b, tw, W, ()) := by
 have w : IntKind.i64.wrap ((i : Int) - (nk : Int)) = ((i - nk : Nat) : Int) := by rw [wrap64 (by omega) (by omega)]; omega
 have e := iT (f := ak.l3 .lim) (fun k T => ((nk : Int), x, (i : Int), (k : Int), ok, T, key, dn, mu, sm, sb, bk, yb, b, tw, W, ())) (fun k v => dP .u8 v (rd 0 (rd z4 W ((i - nk : Nat) : Int)) (k : Int))) T hT (fun k hk m' hm hj => by
  rw [ak.q3];simp only [ak.b3, au (show (k : Int) < 4 by omega), aH (show (0 : Int) <= k by omega) (show (k : Int) < 4 by omega), w, aH (show (0 : Int) <= ((i - nk : Nat) : Int) by omega) (show ((i - nk : Nat) : Int) < (W.length : Int) by omega), cond_true, mM k (by omega), hj k (Nat.le_refl _), Int.toNat_natCast])
 refine e.trans ?_;rw [ak.q3];simp only [ak.b3, aA (show ¬ ((4 : Nat) : Int) < 4 by decide), cond_false];rfl
end
end Go.AM
end
section
namespace Go.AM
section
variable {ok : Bool} {n dn mu sm four x i t t1 t2 tp tq : Int} {key b tw ta out K was kb T sb bk : List Int} {yb W rn : List (List Int)} {last : Bool}
theorem Zk (a b c d : Int) : ((((List.replicate 4 (0 : Int)).set 0 a).set 1 b).set 2 c).set 3 d = [a, b, c, d] := rfl
theorem Xe {nk : Nat} (hn : nk = 4 \/ nk = 8) (hk : 4 * nk <= kb.length) (hb : ∀ x ∈ kb, B8 x) :
  ak.l4 .lim ((nk : Int), 1, (nk : Int), ok, key, dn, mu, sm, mY 256, bk, yb, b, tw, (List.range nk).map (word kb), ()) = some (ok, key, dn, mu, sm, mY 256, bk, yb, b, tw, (sched nk kb (3 * nk + 28)).1, ()) := by
 have e := dB (f := ak.l4 .lim) (fun k => ((nk : Int), (sched nk kb k).2, ((nk + k : Nat) : Int), ok, key, dn, mu, sm, mY 256, bk, yb, b, tw, (sched nk kb k).1, ())) (n := 3 * nk + 28) (fun k hkq => by
  rw [ak.q4];obtain ⟨hW, hx⟩ := xk nk kb hk hb k;have hl := sH nk kb k;have hs : sched nk kb (k + 1) = stepW nk (sched nk kb k) := rfl;rw [hs];unfold stepW;generalize hq : sched nk kb k = q at hW hx hl;obtain ⟨W, x⟩ := q;simp only at hW hx hl ⊢
  have hi0 : nk + k < 1000 := by omega
  generalize hi : nk + k = i at hl hi0;have hw := hW.at (show i - 1 < W.length by omega);have hb0 := hW.byte (show i - 1 < W.length by omega) (j := 0) (by omega) (by omega);have hb1 := hW.byte (show i - 1 < W.length by omega) (j := 1) (by omega) (by omega);have hb2 := hW.byte (show i - 1 < W.length by omega) (j := 2) (by omega) (by omega);have hb3 := hW.byte (show i - 1 < W.length by omega) (j := 3) (by omega) (by omega);have w1 : IntKind.i64.wrap (4 * IntKind.i64.wrap ((nk : Int) + 7)) = ((4 * nk + 28 : Nat) : Int) := by rw [wrap64 (n := (nk : Int) + 7) (by omega) (by omega), wrap64 (by omega) (by omega)]; omega
  have w2 : IntKind.i64.wrap ((i : Int) - 1) = ((i - 1 : Nat) : Int) := by rw [wrap64 (by omega) (by omega)]; omega
  have m1 : ((i : Int)).tmod (nk : Int) = ((i % nk : Nat) : Int) := by rw [Int.tmod_eq_emod_of_nonneg (Int.natCast_nonneg i)]; simp
  have m2 : ((i : Int)).tmod 8 = ((i % 8 : Nat) : Int) := by rw [Int.tmod_eq_emod_of_nonneg (Int.natCast_nonneg i)]; simp
  have FD := fun x T hT => E_xor (ok := ok) (key := key) (dn := dn) (mu := mu) (sm := sm) (sb := mY 256) (bk := bk) (yb := yb) (b := b) (tw := tw) (x := x) (T := T)  hW (i := i) (nk := nk) (by omega) (by omega) (by omega) (by omega) hT
  have cap : ∀ T : List Int, decide (W.length + ([T] : List (List Int)).length < 17592186044416) = true := fun T => au (by simp; omega)
  simp only [ak.b4, w1, au (show (i : Int) < ((4 * nk + 28 : Nat) : Int) by omega), w2, aH (show (0 : Int) <= ((i - 1 : Nat) : Int) by omega) (show ((i - 1 : Nat) : Int) < (W.length : Int) by omega), aA (show ¬ (nk : Int) = 0 by omega), m1, m2, cond_true, Bool.not_false, aH hb0.1 hb0.2, aH hb1.1 hb1.2, aH hb2.1 hb2.2, aH hb3.1 hb3.2, rM hb0, rM hb1, rM hb2, rM hb3, Zk, Bool.or_true];rw [hl];unfold Qq;by_cases c1 : i % nk = 0
  ·rw [au (show ((i % nk : Nat) : Int) = 0 by omega), if_pos c1, if_pos c1];simp only [cond_true, pV hx (show B8 2 from ⟨by decide, by decide⟩), Option.bind_some];rw [FD _ _ rfl];simp only [Option.bind_some];rw [cond_pos (by simp; omega), mM i (by omega)];rw [show i + 1 = nk + (k + 1) by omega]
  ·rw [aA (show ¬ ((i % nk : Nat) : Int) = 0 by omega), if_neg c1, if_neg c1];simp only [cond_false];by_cases c2 : nk = 8 /\ i % 8 = 4
   ·rw [au (show (nk : Int) = 8 by omega), au (show ((i % 8 : Nat) : Int) = 4 by omega), if_pos c2];simp only [Bool.and_self, cond_true];rw [FD _ _ rfl];simp only [Option.bind_some];rw [cond_pos (by simp; omega), mM i (by omega)];rw [show i + 1 = nk + (k + 1) by omega]
   ·have : (decide ((nk : Int) = 8) && decide (((i % 8 : Nat) : Int) = 4)) = false := by
     by_cases c3 : nk = 8
     ·rw [aA (show ¬ ((i % 8 : Nat) : Int) = 4 by omega), Bool.and_false]
     ·rw [aA (show ¬ (nk : Int) = 8 by omega), Bool.false_and]
    rw [this, if_neg c2];simp only [cond_false];rw [FD _ _ hw.1];simp only [Option.bind_some];rw [cond_pos (by simp; omega), mM i (by omega), <- list4 hw.1];rw [show i + 1 = nk + (k + 1) by omega])
 refine (show _ = _ from e).trans ?_;rw [ak.q4];have w1 : IntKind.i64.wrap (4 * IntKind.i64.wrap ((nk : Int) + 7)) = ((4 * nk + 28 : Nat) : Int) := by rw [wrap64 (n := (nk : Int) + 7) (by omega) (by omega), wrap64 (by omega) (by omega)]; omega
 simp only [ak.b4, w1, aA (show ¬ ((nk + (3 * nk + 28) : Nat) : Int) < ((4 * nk + 28 : Nat) : Int) by omega), cond_false]
end
end Go.AM
end
section
namespace Go.AM
theorem Il {l : List (List Int)} {k : Nat} (h : k < l.length) : (l.take (k + 1)).flatten = (l.take k).flatten ++ rd [] l (k : Int) := by rw [Am (d := ([] : List Int)) h, List.flatten_append]; simp
theorem Au (l : List (List Int)) (k : Nat) : (l.take k).flatten.length <= l.flatten.length := by
 have : l.flatten = (l.take k).flatten ++ (l.drop k).flatten := by rw [<- List.flatten_append, List.take_append_drop]
 rw [this, List.length_append]; omega
theorem Io (l : List (List Int)) (h : l.flatten.length <= 1000000) (hl : l.length <= 1000000) : aG.run .lim (l, ()) = some l.flatten := by
 have e := dB (f := aG.l0 .lim) (fun k => (l, (((l.take k).flatten.length : Nat) : Int), l, (l.length : Int), (k : Int), ())) (n := l.length) (fun k hk => by
  rw [aG.q0];have h1 := Il hk;have h2 := Au l (k + 1);rw [h1, List.length_append] at h2;have w : IntKind.i64.wrap ((((l.take k).flatten.length : Nat) : Int) + ((rd ([] : List Int) l (k : Int)).length : Int)) = (((l.take (k + 1)).flatten.length : Nat) : Int) := by rw [wrap64 (by omega) (by omega), h1, List.length_append]; omega
  simp only [aG.b0, au (show (k : Int) < (l.length : Int) by omega), aH (show (0 : Int) <= k by omega) (show (k : Int) < (l.length : Int) by omega), aF (show (rd ([] : List Int) l (k : Int)).length < 9223372036854775808 by omega), w, aA (show ¬ ((((l.take (k + 1)).flatten.length : Nat) : Int) < 0) by omega), cond_true, cond_false, mM k (by omega)])
 have e1 := fun N : Nat => fun hN : N = l.flatten.length => dB (f := aG.l1 .lim) (fun k => ((((l.take k).flatten.length : Nat) : Int), l, (l.length : Int), (k : Int), (l.take k).flatten ++ List.replicate (N - (l.take k).flatten.length) 0, ())) (n := l.length) (fun k hk => by
  rw [aG.q1];have h1 := Il hk;have h2 := Au l (k + 1);rw [h1, List.length_append] at h2;simp only [aG.b1, au (show (k : Int) < (l.length : Int) by omega), aH (show (0 : Int) <= k by omega) (show (k : Int) < (l.length : Int) by omega), cond_true, mM k (by omega), Int.toNat_natCast];have hc : (decide (((l.take k).flatten ++ List.replicate (N - (l.take k).flatten.length) (0 : Int)).length + (rd ([] : List Int) l (k : Int)).length < 70368744177664) && decide (0 <= (((l.take k).flatten.length : Nat) : Int))) = true := by rw [List.length_append, List.length_replicate, au (by omega), au (by omega)]; rfl
  rw [cond_pos hc, h1, List.length_append];have e3 : ((((l.take k).flatten.length : Nat) : Int) + ((rd ([] : List Int) l (k : Int)).length : Int)) = (((l.take k).flatten.length + (rd ([] : List Int) l (k : Int)).length : Nat) : Int) := by omega
  rw [e3, List.take_append_of_le_length (Nat.le_refl _), List.take_length, List.drop_append, List.drop_eq_nil_of_le (by omega), List.nil_append, List.drop_replicate, List.append_assoc];have e4 : N - (l.take k).flatten.length - ((l.take k).flatten.length + (rd ([] : List Int) l (k : Int)).length - (l.take k).flatten.length) = N - ((l.take k).flatten.length + (rd ([] : List Int) l (k : Int)).length) := by omega
  rw [e4])
 rw [List.take_length, List.take_zero, show ((([] : List (List Int)).flatten.length : Nat) : Int) = 0 from rfl, show ((0 : Nat) : Int) = 0 from rfl] at e;have ee : aG.l0 .lim (l, ((l.flatten.length : Nat) : Int), l, (l.length : Int), (l.length : Int), ()) = some (l, ((l.flatten.length : Nat) : Int), ()) := by
  rw [aG.q0];simp only [aG.b0, aA (show ¬ (l.length : Int) < (l.length : Int) by omega), cond_false]
 have ee1 : ∀ m, aG.l1 .lim (((l.flatten.length : Nat) : Int), l, (l.length : Int), (l.length : Int), m, ()) = some (((l.flatten.length : Nat) : Int), m, ()) := fun m => by
  rw [aG.q1];simp only [aG.b1, aA (show ¬ (l.length : Int) < (l.length : Int) by omega), cond_false]
 have e2 : aG.l1 .lim (0, l, (l.length : Int), 0, List.replicate l.flatten.length 0, ()) = some (((l.flatten.length : Nat) : Int), l.flatten, ()) := by
  have := e1 _ rfl;rw [List.take_length, List.take_zero, Nat.sub_self, List.replicate_zero, List.append_nil] at this;exact this.trans (ee1 _)
 simp only [aG.run, aF (show l.length < 9223372036854775808 by omega), cond_true, e, ee, Option.bind_some, Int.sub_zero, aA (show ¬ ((l.flatten.length : Nat) : Int) < 0 by omega), cond_false, wrap64 (show -9223372036854775808 <= ((l.flatten.length : Nat) : Int) by omega) (show ((l.flatten.length : Nat) : Int) < 9223372036854775808 by omega), Int.toNat_natCast];by_cases h0 : l.flatten.length = 0
 ·rw [aA (show ¬ ((l.flatten.length : Nat) : Int) > 0 by omega)];rw [h0, List.replicate_zero] at e2;simp only [cond_false];rw [e2];simp [List.length_eq_zero_iff.1 h0]
 ·rw [au (show ((l.flatten.length : Nat) : Int) > 0 by omega)];have hb : Nat.blt l.flatten.length 70368744177664 = true := by rw [Nat.blt_eq]; omega
  simp only [cond_true, au (show (0 : Int) <= ((l.flatten.length : Nat) : Int) by omega), hb, Bool.and_self, e2, Option.bind_some, List.drop_zero, Int.toNat_natCast, List.take_length];rw [cond_pos (aP (Int.le_refl 0) (Int.le_refl 0) (Int.natCast_nonneg _))]
end Go.AM
end
section
namespace Go.AM
section
variable {ok : Bool} {n dn mu sm four x i t t1 t2 tp tq : Int} {key b tw ta out K was kb T sb bk : List Int} {yb W rn : List (List Int)} {last : Bool}
theorem Us {q : Nat} (hW : Words W) (hl : W.length = 4 * q) (hq : q <= 100) : ak.l5 .lim (0, ok, 4, key, dn, mu, sm, sb, bk, yb, b, tw, W, [], ()) = some (ok, key, dn, mu, sm, sb, bk, yb, b, tw, gZ W, ()) := by
 have e := dB (f := ak.l5 .lim) (fun k => (((4 * k : Nat) : Int), ok, 4, key, dn, mu, sm, sb, bk, yb, b, tw, W, (List.range k).map (qy W), ())) (n := q) (fun k hkq => by
  rw [ak.q5];have w1 : IntKind.i64.wrap (((4 * k : Nat) : Int) + 4) = ((4 * k + 4 : Nat) : Int) := by rw [wrap64 (by omega) (by omega)]; omega
  have w2 : mn 4 ((W.length : Int) - ((4 * k : Nat) : Int)) = 4 := by rw [ig]; omega
  have w3 : (cut W ((4 * k : Nat) : Int) ((4 * k + 4 : Nat) : Int)).length = 4 := by rw [mW, List.length_take, List.length_drop]; omega
  have at_ : ∀ j : Nat, j < 4 -> rd z4 (cut W ((4 * k : Nat) : Int) ((4 * k + 4 : Nat) : Int)) (j : Int) = rd z4 W ((4 * k + j : Nat) : Int) := fun j hj => by
   rw [mW];unfold rd;rw [Int.toNat_natCast, Int.toNat_natCast, List.getD_eq_getElem?_getD, List.getD_eq_getElem?_getD, List.getElem?_take_of_lt (by omega), List.getElem?_drop]
  have a0 : rd z4 (cut W ((4 * k : Nat) : Int) ((4 * k + 4 : Nat) : Int)) 0 = rd z4 W ((4 * k : Nat) : Int) := at_ 0 (by omega);have a1 : rd z4 (cut W ((4 * k : Nat) : Int) ((4 * k + 4 : Nat) : Int)) 1 = rd z4 W ((4 * k + 1 : Nat) : Int) := at_ 1 (by omega);have a2 : rd z4 (cut W ((4 * k : Nat) : Int) ((4 * k + 4 : Nat) : Int)) 2 = rd z4 W ((4 * k + 2 : Nat) : Int) := at_ 2 (by omega);have a3 : rd z4 (cut W ((4 * k : Nat) : Int) ((4 * k + 4 : Nat) : Int)) 3 = rd z4 W ((4 * k + 3 : Nat) : Int) := at_ 3 (by omega);have c4 : ∀ l : List Int, l.length = 4 -> cut l 0 4 = l := fun l hl => by
   have := mW l 0 4;rw [show ((0 : Nat) : Int) = 0 from rfl, show ((4 : Nat) : Int) = 4 from rfl] at this;rw [this, List.drop_zero, List.take_of_length_le (by omega)]
  have l0 := (hW.at (show 4 * k < W.length by omega)).1;have l1 := (hW.at (show 4 * k + 1 < W.length by omega)).1;have l2 := (hW.at (show 4 * k + 2 < W.length by omega)).1;have l3 := (hW.at (show 4 * k + 3 < W.length by omega)).1;have hfl : [rd z4 W ((4 * k : Nat) : Int), rd z4 W ((4 * k + 1 : Nat) : Int), rd z4 W ((4 * k + 2 : Nat) : Int), rd z4 W ((4 * k + 3 : Nat) : Int)].flatten = qy W k := by simp [qy]
  have hrl := Ar hW (j := k) (by omega);have tK := Io [rd z4 W ((4 * k : Nat) : Int), rd z4 W ((4 * k + 1 : Nat) : Int), rd z4 W ((4 * k + 2 : Nat) : Int), rd z4 W ((4 * k + 3 : Nat) : Int)] (by rw [hfl, hrl]; omega) (by simp);rw [hfl] at tK;simp only [ak.b5, aU (show (W.length : Int) < 9223372036854775808 by omega), au (show ((4 * k : Nat) : Int) < (W.length : Int) by omega), aP (show (0 : Int) <= ((4 * k : Nat) : Int) by omega) (show ((4 * k : Nat) : Int) <= (W.length : Int) by omega) (Int.le_refl _), aU (show (W.length : Int) - ((4 * k : Nat) : Int) < 9223372036854775808 by omega), w2, w1, aP (show (0 : Int) <= ((4 * k : Nat) : Int) by omega) (show ((4 * k : Nat) : Int) <= ((4 * k + 4 : Nat) : Int) by omega) (Int.le_refl _), au (show ((4 * k + 4 : Nat) : Int) <= (W.length : Int) by omega), Bool.and_self, w3, cond_true, aH (show (0 : Int) <= 0 by omega) (show (0 : Int) < ((4 : Nat) : Int) by decide), aH (show (0 : Int) <= 1 by omega) (show (1 : Int) < ((4 : Nat) : Int) by decide), aH (show (0 : Int) <= 2 by omega) (show (2 : Int) < ((4 : Nat) : Int) by decide), aH (show (0 : Int) <= 3 by omega) (show (3 : Int) < ((4 : Nat) : Int) by decide), a0, a1, a2, a3, c4 _ l0, c4 _ l1, c4 _ l2, c4 _ l3, tK, Option.bind_some, hrl, List.take_of_length_le (Nat.le_of_eq hrl)];rw [show (Nat.ble 1 16 && Nat.ble 16 16) = true from rfl, cond_true, cond_pos (by simp; omega)];simp only [List.range_succ, List.map_append, List.map_cons, List.map_nil];rfl)
 refine (show _ = _ from e).trans ?_;rw [ak.q5];simp only [ak.b5, aU (show (W.length : Int) < 9223372036854775808 by omega), aA (show ¬ ((4 * q : Nat) : Int) < (W.length : Int) by omega), cond_true, cond_false];unfold gZ;rw [hl, Nat.mul_div_cancel_left _ (by omega)]
theorem Xf (hk : key.length = 16 \/ key.length = 32) (hb : ∀ x ∈ key, B8 x) : ak.l6 .lim (key, 0, 0, sm, dY, dY, List.replicate 16 dY, b, tw, ()) = some (b, tw, key, 1, 0, sm, mY 256, BJ 256, dK 256, gZ (kH key), ()) := by
 have h0 : ak.l6 .lim (key, 0, 0, sm, dY, dY, List.replicate 16 dY, b, tw, ()) = ak.b6 .lim (ak.l6 .lim) (key, 0, 0, sm, dY, dY, List.replicate 16 dY, b, tw, ()) := ak.q6 _;rw [h0];have hd : (key.length : Int).tdiv 4 = ((key.length / 4 : Nat) : Int) := by rw [Int.tdiv_eq_ediv_of_nonneg (Int.natCast_nonneg _)]; simp
 have w1 : IntKind.i64.wrap ((key.length : Int).tdiv 4) = ((key.length / 4 : Nat) : Int) := by rw [hd, wrap64 (by omega) (by omega)]
 have t := Ur (ok := true) (key := key) (dn := 0) (mu := 1) (sm := sm) (b := b) (tw := tw);have s := Xd (kb := key) (q := key.length / 4) (nk := ((key.length / 4 : Nat) : Int)) (ok := true) (key := key) (dn := 0) (mu := 1) (sm := sm) (sb := mY 256) (bk := BJ 256) (yb := dK 256) (b := b) (tw := tw)  (by omega) (by omega);have w := Xe (kb := key) (nk := key.length / 4) (ok := true) (key := key) (dn := 0) (mu := 1) (sm := sm) (bk := BJ 256) (yb := dK 256) (b := b) (tw := tw)  (by omega) (by omega) hb;have r := Us (W := kH key) (q := key.length / 4 + 7) (ok := true) (key := key) (dn := 0) (mu := 1) (sm := sm) (sb := mY 256) (bk := BJ 256) (yb := dK 256) (b := b) (tw := tw)  (xP key hb) (by rw [sJ]; omega) (by omega);have hs : iP.run .lim (true, ()) = some 1 := rfl;have hw : (sched (key.length / 4) key (3 * (key.length / 4) + 28)).1 = kH key := rfl;simp only [ak.b6, decide_true, Bool.not_true, Bool.not_false, cond_true, t, Option.bind_some, aU (show (key.length : Int) < 9223372036854775808 by omega), w1];rw [s];simp only [Option.bind_some];rw [w];simp only [Option.bind_some];rw [hw, r];simp only [Option.bind_some, hs, show IntKind.i32.wrap (1 + -1) = 0 from by decide, decide_true, Bool.not_true, cond_false]
end
end Go.AM
end
section
namespace Go.AM
section
variable {ok : Bool} {n dn mu sm four x i t t1 t2 tp tq : Int} {key b tw ta out K was kb T sb bk : List Int} {yb W rn : List (List Int)} {last : Bool}
theorem Xg (hb : b.length = 16) : ak.l7 .lim (0, b, K, tw, key, dn, mu, sm, sb, bk, yb, rn, ()) = some (uY b K, tw, key, dn, mu, sm, sb, bk, yb, rn, ()) := by
 have e := iT (f := ak.l7 .lim) (fun k b => ((k : Int), b, K, tw, key, dn, mu, sm, sb, bk, yb, rn, ())) (fun k v => dP .u8 v (rd 0 K (k : Int))) b hb (fun k hk m' hm hj => by
  rw [ak.q7];simp only [ak.b7, au (show (k : Int) < 16 by omega), aH (show (0 : Int) <= k by omega) (show (k : Int) < 16 by omega), cond_true, mM k (by omega), hj k (Nat.le_refl _), Int.toNat_natCast])
 refine (show _ = _ from e).trans ?_;rw [ak.q7];simp only [ak.b7, aA (show ¬ ((16 : Nat) : Int) < 16 by decide), cond_false];rfl
theorem Ut (hb : C_ b) : ak.l8 .lim (0, last, tp, tq, t1, t2, b, key, dn, mu, sm, mY 256, bk, yb, K, rn, tw, ()) = some (last, tp, tq, t1, t2, tab 16 fun i => zo (rd 0 b (i : Int)), K, rn, tw, key, dn, mu, sm, mY 256, bk, yb, ()) := by
 have e := iT (f := ak.l8 .lim) (fun k b => ((k : Int), last, tp, tq, t1, t2, b, key, dn, mu, sm, mY 256, bk, yb, K, rn, tw, ())) (fun k v => zo v) b hb.1 (fun k hk m' hm hj => by
  rw [ak.q8];have h := hb.at hk;simp only [ak.b8, au (show (k : Int) < 16 by omega), aH (show (0 : Int) <= k by omega) (show (k : Int) < 16 by omega), cond_true, mM k (by omega), hj k (Nat.le_refl _), aH h.1 h.2, rM h, Int.toNat_natCast])
 refine (show _ = _ from e).trans ?_;rw [ak.q8];simp only [ak.b8, aA (show ¬ ((16 : Nat) : Int) < 16 by decide), cond_false]
theorem Zl (hb : b.length = 16) : ak.l9 .lim (4, 0, last, tp, tq, t1, t2, b, was, K, rn, tw, key, dn, mu, sm, sb, bk, yb, ()) = some (last, tp, tq, t1, t2, tab 16 fun i => rd 0 was (((i + 4 * (i % 4)) % 16 : Nat) : Int), K, rn, tw, key, dn, mu, sm, sb, bk, yb, ()) := by
 have e := iT (f := ak.l9 .lim) (fun k b => (4, (k : Int), last, tp, tq, t1, t2, b, was, K, rn, tw, key, dn, mu, sm, sb, bk, yb, ())) (fun k v => rd 0 was (((k + 4 * (k % 4)) % 16 : Nat) : Int)) b hb (fun k hk m' hm hj => by
  rw [ak.q9];have m1 : ((k : Int)).tmod 4 = ((k % 4 : Nat) : Int) := by rw [Int.tmod_eq_emod_of_nonneg (Int.natCast_nonneg k)]; simp
  have w1 : IntKind.i64.wrap (4 * (k : Int).tmod 4) = ((4 * (k % 4) : Nat) : Int) := by rw [m1, wrap64 (by omega) (by omega)]; omega
  have w2 : IntKind.i64.wrap ((k : Int) + ((4 * (k % 4) : Nat) : Int)) = ((k + 4 * (k % 4) : Nat) : Int) := by rw [wrap64 (by omega) (by omega)]; omega
  have w3 : IntKind.i64.wrap (((k + 4 * (k % 4) : Nat) : Int) + 64) = ((k + 4 * (k % 4) + 64 : Nat) : Int) := by rw [wrap64 (by omega) (by omega)]; omega
  have m2 : (((k + 4 * (k % 4) + 64 : Nat) : Int)).tmod 16 = (((k + 4 * (k % 4)) % 16 : Nat) : Int) := by rw [Int.tmod_eq_emod_of_nonneg (Int.natCast_nonneg _)]; omega
  simp only [ak.b9, au (show (k : Int) < 16 by omega), aH (show (0 : Int) <= k by omega) (show (k : Int) < 16 by omega), cond_true, mM k (by omega), w1, w2, w3, m2, aH (show (0 : Int) <= (((k + 4 * (k % 4)) % 16 : Nat) : Int) by omega) (show (((k + 4 * (k % 4)) % 16 : Nat) : Int) < 16 by omega), Int.toNat_natCast])
 refine (show _ = _ from e).trans ?_;rw [ak.q9];simp only [ak.b9, aA (show ¬ ((16 : Nat) : Int) < 16 by decide), cond_false]
abbrev qC : List Int := [2, 3, 1, 1]
theorem Zm (hw : C_ was) {i : Nat} (hi : i < 16) (hb : b.length = 16) (h0 : rd 0 b (i : Int) = 0) : ak.l10 .lim ((i : Int), t, qC, 0, tp, tq, t1, t2, key, dn, mu, sm, sb, bk, dK 256, b, qC, was, K, rn, tw, ()) = some (t, tp, tq, t1, t2, key, dn, mu, sm, sb, bk, dK 256, b.set i (rd 0 (oI was) (i : Int)), qC, was, K, rn, tw, ()) := by
 have h4 : ∀ j : Nat, j < 4 -> IntKind.i64.wrap (IntKind.i64.wrap (IntKind.i64.wrap ((i : Int).tdiv 4) * 4) + (IntKind.i64.wrap ((i : Int) + (j : Int))).tmod 4) = ((i / 4 * 4 + (i + j) % 4 : Nat) : Int) := by
  intro j hj;have d1 : ((i : Int)).tdiv 4 = ((i / 4 : Nat) : Int) := by rw [Int.tdiv_eq_ediv_of_nonneg (Int.natCast_nonneg i)]; simp
  have d2 : IntKind.i64.wrap ((i : Int) + (j : Int)) = ((i + j : Nat) : Int) := by rw [wrap64 (by omega) (by omega)]; omega
  have d3 : (((i + j : Nat) : Int)).tmod 4 = (((i + j) % 4 : Nat) : Int) := by rw [Int.tmod_eq_emod_of_nonneg (Int.natCast_nonneg _)]; simp
  rw [d1, d2, d3, wrap64 (n := ((i / 4 : Nat) : Int)) (by omega) (by omega), wrap64 (n := ((i / 4 : Nat) : Int) * 4) (by omega) (by omega), wrap64 (by omega) (by omega)]; omega
 have hB : ∀ j : Nat, j < 4 -> B8 (rd 0 was ((i / 4 * 4 + (i + j) % 4 : Nat) : Int)) := fun j hj => hw.at (by omega)
 have g0 := h4 0 (by omega); have g1 := h4 1 (by omega); have g2 := h4 2 (by omega); have g3 := h4 3 (by omega);have b0 := hB 0 (by omega); have b1 := hB 1 (by omega); have b2 := hB 2 (by omega); have b3 := hB 3 (by omega);rw [show ((0 : Nat) : Int) = 0 from rfl] at g0;rw [show ((1 : Nat) : Int) = 1 from rfl] at g1;rw [show ((2 : Nat) : Int) = 2 from rfl] at g2;rw [show ((3 : Nat) : Int) = 3 from rfl] at g3;have r0 := (rD b0).2.1; have r1 := (rD b1).2.2; have r2 := (rD b2).1; have r3 := (rD b3).1;have step : ∀ (c : Int) (j j' : Int) (q : Nat) (v : Int) (bb : List Int), bb.length = 16 -> 0 <= j -> j < 4 -> rd 0 qC j = c -> 0 <= c -> c < 16 -> IntKind.i64.wrap (j + 1) = j' -> IntKind.i64.wrap (IntKind.i64.wrap (IntKind.i64.wrap ((i : Int).tdiv 4) * 4) + (IntKind.i64.wrap ((i : Int) + j)).tmod 4) = (q : Int) -> q < 16 -> rd 0 (rd dY (dK 256) c) (rd 0 was (q : Int)) = v -> B8 (rd 0 was (q : Int)) ->
   ak.l10 .lim ((i : Int), t, qC, j, tp, tq, t1, t2, key, dn, mu, sm, sb, bk, dK 256, bb, qC, was, K, rn, tw, ()) = ak.l10 .lim ((i : Int), t, qC, j', tp, tq, t1, t2, key, dn, mu, sm, sb, bk, dK 256, bb.set i (dP .u8 (rd 0 bb (i : Int)) v), qC, was, K, rn, tw, ()) := by
  intro c j j' q v bb hbb h1 h2 h3 h4 h5 h6 h7 h8 h9 h10;rw [ak.q10];simp only [ak.b10, au h2, aH h1 h2, h3, aH h4 h5, h7, aH (show (0 : Int) <= i by omega) (show (i : Int) < 16 by omega), aH (show (0 : Int) <= (q : Int) by omega) (show (q : Int) < 16 by omega), aH h10.1 h10.2, h9, h6, cond_true, Int.toNat_natCast]
 rw [step 2 0 1 _ _ b hb (by omega) (by omega) rfl (by omega) (by omega) rfl g0 (by omega) r0 b0];rw [step 3 1 2 _ _ _ (by simp [hb]) (by omega) (by omega) rfl (by omega) (by omega) rfl g1 (by omega) r1 b1];rw [step 1 2 3 _ _ _ (by simp [hb]) (by omega) (by omega) rfl (by omega) (by omega) rfl g2 (by omega) r2 b2];rw [step 1 3 4 _ _ _ (by simp [hb]) (by omega) (by omega) rfl (by omega) (by omega) rfl g3 (by omega) r3 b3];rw [ak.q10];simp only [ak.b10, aA (show ¬ (4 : Int) < 4 by omega), cond_false];have hl : ∀ v, i < (b.set i v).length := fun v => by simp [hb]; omega
 simp only [uj (show i < b.length by omega), uj (hl _), List.set_set, h0];unfold oI;rw [mJ hi];simp only [Nat.add_zero]
theorem E_mix (hw : C_ was) (hb : b.length = 16) : ak.Ul .lim (0, tp, tq, t1, t2, key, dn, mu, sm, sb, bk, dK 256, b, qC, was, K, rn, tw, ()) = some (tp, tq, t1, t2, oI was, K, rn, tw, key, dn, mu, sm, sb, bk, dK 256, ()) := by
 have e := iT (f := ak.Ul .lim) (fun k b => ((k : Int), tp, tq, t1, t2, key, dn, mu, sm, sb, bk, dK 256, b, qC, was, K, rn, tw, ())) (fun k v => rd 0 (oI was) (k : Int)) b hb (fun k hk m' hm hj => by
  rw [ak.q11];have hm := fun h0 => Zm (tp := tp) (tq := tq) (t1 := t1) (t2 := t2) (key := key) (dn := dn) (mu := mu) (sm := sm) (sb := sb) (bk := bk) (K := K) (rn := rn) (tw := tw) (t := (k : Int))  hw (b := m'.set k 0) hk (by simp [hm]) h0
  simp only [ak.b11, au (show (k : Int) < 16 by omega), aH (show (0 : Int) <= k by omega) (show (k : Int) < 16 by omega), cond_true, Int.toNat_natCast];rw [hm (uj (by omega))];simp only [Option.bind_some, mM k (by omega), List.set_set])
 refine (show _ = _ from e).trans ?_;rw [ak.q11];simp only [ak.b11, aA (show ¬ ((16 : Nat) : Int) < 16 by decide), cond_false];have : (tab 16 fun i => rd 0 (oI was) (i : Int)) = oI was := (Fv jf).symm;rw [this]
theorem Uu (hb : b.length = 16) : ak.l12 .lim (0, tp, tq, t1, t2, b, K, rn, tw, key, dn, mu, sm, sb, bk, yb, ()) = some (tp, tq, t1, t2, rn, uY b K, tw, key, dn, mu, sm, sb, bk, yb, ()) := by
 have e := iT (f := ak.l12 .lim) (fun k b => ((k : Int), tp, tq, t1, t2, b, K, rn, tw, key, dn, mu, sm, sb, bk, yb, ())) (fun k v => dP .u8 v (rd 0 K (k : Int))) b hb (fun k hk m' hm hj => by
  rw [ak.q12];simp only [ak.b12, au (show (k : Int) < 16 by omega), aH (show (0 : Int) <= k by omega) (show (k : Int) < 16 by omega), cond_true, mM k (by omega), hj k (Nat.le_refl _), Int.toNat_natCast])
 refine (show _ = _ from e).trans ?_;rw [ak.q12];simp only [ak.b12, aA (show ¬ ((16 : Nat) : Int) < 16 by decide), cond_false];rfl
theorem Xh (b : List Int) : (tab 16 fun i => rd 0 (tab 16 fun i => zo (rd 0 b (i : Int))) (((i + 4 * (i % 4)) % 16 : Nat) : Int)) = qA b := ji fun k hk => by rw [mJ (by omega)]
theorem OB (hb : C_ b) : C_ (qA b) := ⟨jf, Ij fun k hk => Qo (hb.at (by omega))⟩
theorem E_all {r : Nat} (hW : Words W) (hl : W.length = 4 * (r + 1)) (hr : r <= 100) (hr0 : 0 < r) (hb : b.length = 16) :
  ak.Ox .lim (1, ((r : Nat) : Int), ((r : Nat) : Int), 0, gZ W, qB W b 0, tw, key, dn, mu, sm, mY 256, bk, dK 256, ()) = some (qB W b r, tw, key, dn, mu, sm, mY 256, bk, dK 256, gZ W, ()) := by
 have hn : (gZ W).length = r + 1 := by unfold gZ; simp; omega
 have e := dB (f := ak.Ox .lim) (fun k => (1, (r : Int), (r : Int), (k : Int), gZ W, qB W b k, tw, key, dn, mu, sm, mY 256, bk, dK 256, ())) (n := r) (fun k hk => by
  rw [ak.q13];have hB := DN W b k;have hK : rd CZ (gZ W) (1 + (k : Int)) = qy W (k + 1) := by
   rw [show (1 + (k : Int)) = ((k + 1 : Nat) : Int) by omega, mX (by omega)];unfold gZ; simp
  have w1 : IntKind.i64.wrap (((gZ W).length : Int) - 2) = (r : Int) - 1 := by rw [wrap64 (by omega) (by omega)]; omega
  have hlast : decide ((k : Int) = (r : Int) - 1) = decide (k + 2 = W.length / 4) := by
   by_cases h : k + 1 = r
   ·rw [au (by omega), au (by omega)]
   ·rw [aA (by omega), aA (by omega)]
  simp only [ak.b13, au (show (k : Int) < (r : Int) by omega), aH (show (0 : Int) <= k by omega) (show (k : Int) < (r : Int) by omega), aU (show ((gZ W).length : Int) < 9223372036854775808 by omega), cond_true, hK, w1, hlast, Ut hB, Option.bind_some];rw [Zl jf];simp only [Option.bind_some, Xh];have hs := OB hB;have hc : ((((List.replicate 4 (0 : Int)).set 0 2).set 1 3).set 2 1).set 3 1 = qC := rfl;show _ = ak.Ox .lim (1, (r : Int), (r : Int), ((k + 1 : Nat) : Int), gZ W, Oz (decide (k + 2 = W.length / 4)) (qB W b k) (qy W (k + 1)), tw, key, dn, mu, sm, mY 256, bk, dK 256, ());unfold Oz;cases decide (k + 2 = W.length / 4) with
  | true =>
   simp only [Bool.not_true, cond_false, cond_true];rw [Uu hs.1];simp only [Option.bind_some, mM k (by omega)]
  | false =>
   simp only [Bool.not_false, cond_false, cond_true, hc];rw [E_mix hs hs.1];simp only [Option.bind_some];have hml : (oI (qA (qB W b k))).length = 16 := jf;rw [Uu hml];simp only [Option.bind_some, mM k (by omega)])
 refine (show _ = _ from e).trans ?_;rw [ak.q13];simp only [ak.b13, aA (show ¬ (r : Int) < (r : Int) by omega), cond_false]
end
end Go.AM
end
section
namespace Go.AM
section
variable {ok : Bool} {n dn mu sm four x i t t1 t2 tp tq : Int} {key b tw ta out K was kb T sb bk : List Int} {yb W rn : List (List Int)} {last : Bool}
theorem Zn {r : Nat} (hW : Words W) (hl : W.length = 4 * (r + 1)) (hr : r <= 100) (hr0 : 0 < r) (hb : b.length = 16) {β : Type} {Q : _ -> Option β} :
  (bif inB 0 ((gZ W).length : Int) then
   ((ak.l7 .lim (0, b, rd CZ (gZ W) 0, tw, key, dn, mu, sm, mY 256, bk, dK 256, gZ W, ())).bind fun (b, tw, key, dn, mu, sm, sb, bk, yb, rn, ()) =>
    bif dJ 1 (rn.length : Int) (rn.length : Int) then bif aB ((rn.length : Int) - 1) then (ak.Ox .lim (1, ((rn.length : Int) - 1), ((rn.length : Int) - 1), 0, rn, b, tw, key, dn, mu, sm, sb, bk, yb, ())).bind Q else none else none) else none) = Q (qB W b r, tw, key, dn, mu, sm, mY 256, bk, dK 256, gZ W, ()) := by
 have hn : (gZ W).length = r + 1 := by unfold gZ; simp; omega
 have h0 : rd CZ (gZ W) 0 = qy W 0 := by
  have := mX (d := CZ) (show 0 < (gZ W).length by omega);rw [show ((0 : Nat) : Int) = 0 from rfl] at this;rw [this]; unfold gZ; simp
 rw [cond_pos (aH (by omega) (by omega)), h0, Xg hb];simp only [Option.bind_some];rw [cond_pos (aP (by omega) (by omega) (by omega)), cond_pos (aU (by omega)), show ((gZ W).length : Int) - 1 = (r : Int) by omega];have := E_all (tw := tw) (key := key) (dn := dn) (mu := mu) (sm := sm) (bk := bk)  hW hl hr hr0 hb;rw [show qB W b 0 = uY b (qy W 0) from rfl] at this;rw [this];rfl
theorem Xi (hk : key.length = 16 \/ key.length = 32) (hkb : ∀ x ∈ key, B8 x) (hb : b.length = 16) :
  ak.L_ .lim (b, key, 0, 0, sm, dY, dY, List.replicate 16 dY, ()) = some (encS key b, ()) := by
 have h0 : ak.L_ .lim (b, key, 0, 0, sm, dY, dY, List.replicate 16 dY, ()) = ak.b14 .lim (ak.L_ .lim) (b, key, 0, 0, sm, dY, dY, List.replicate 16 dY, ()) := ak.q14 _;rw [h0];have hr := Xf (sm := sm) (key := key) (b := b) (tw := CZ)  hk hkb;have hW := xP key hkb;have hl : (kH key).length = 4 * ((key.length / 4 + 6) + 1) := by rw [sJ]; omega
 have hq : (kH key).length / 4 - 1 = key.length / 4 + 6 := by omega
 unfold ak.b14;simp only [hr, Option.bind_some];refine (Zn (Q := fun (b, tw, key, dn, mu, sm, sb, bk, yb, rn, ()) => some (b, ())) hW hl (by omega) (by omega) hb).trans ?_;unfold encS;rw [hq]
end
end Go.AM
end
section
namespace Go.AM
section
variable {ok : Bool} {n dn mu sm four nk x i t t1 t2 tp tq : Int} {key b tw ta out K was kb T sb bk : List Int} {yb W rn : List (List Int)} {last : Bool}
theorem S_mul (i : Nat) (hi : i < 256) : aj.l0 .lim ((i : Int), t, 7, 0, ok, n, key, dn, mu, sm, sb, bk, yb, kL, b, tw, ta, out, rn, ()) = some (t, ok, n, key, dn, mu, sm, sb, bk, C9 i yb 7, b, tw, ta, out, rn, ()) := by
 have e := dB (f := aj.l0 .lim) (fun k => ((i : Int), t, 7, (k : Int), ok, n, key, dn, mu, sm, sb, bk, C9 i yb k, kL, b, tw, ta, out, rn, ())) (n := 7) (fun k hk => by
  rw [aj.q0];obtain ⟨h1, h2⟩ := Yk k hk;have hB : B8 (rd 0 kL (k : Int)) := ⟨h1, by omega⟩;have RF : B8 (i : Int) := ⟨by omega, by omega⟩;simp only [aj.b0, au (show (k : Int) < 7 by omega), aH (show (0 : Int) <= k by omega) (show (k : Int) < (kL.length : Int) from show (k : Int) < 7 by omega), pU RF, pV RF hB, Option.bind_some, aH h1 (show rd 0 kL (k : Int) < 16 from h2), aH (show (0 : Int) <= i by omega) (show (i : Int) < 256 by omega), cond_true, mM k (by omega), Int.toNat_natCast];rfl)
 refine e.trans ?_;rw [aj.q0];simp only [aj.b0, aA (show ¬ ((7 : Nat) : Int) < 7 by decide), cond_false]
theorem Uw : aj.l1 .lim (0, ok, n, key, dn, mu, sm, dY, dY, List.replicate 16 dY, b, tw, ta, out, rn, ()) = some (ok, n, key, dn, mu, sm, mY 256, BJ 256, dK 256, b, tw, ta, out, rn, ()) := by
 have e := dB (f := aj.l1 .lim) (fun k => ((k : Int), ok, n, key, dn, mu, sm, mY k, BJ k, dK k, b, tw, ta, out, rn, ())) (n := 256) (fun k hk => by
  rw [aj.q1];have RF : B8 (k : Int) := ⟨by omega, by omega⟩;have hs := Qo RF;have hm := fun sb bk => S_mul (ok := ok) (key := key) (dn := dn) (mu := mu) (sm := sm) (sb := sb) (bk := bk) (yb := dK k) (b := b) (tw := tw) (t := (k : Int)) (n := n) (ta := ta) (out := out) (rn := rn) k hk
  simp only [aj.b1, au (show (k : Int) < 256 by omega), pU RF, Qn RF, Option.bind_some, aH (show (0 : Int) <= k by omega) (show (k : Int) < 256 by omega), aH hs.1 hs.2, cond_true, show ((([1, 2, 3, 9, 11, 13, 14] : List Int).length : Nat) : Int) = 7 from rfl, aU (show (7 : Int) < 9223372036854775808 by omega), hm, mM k (by omega), Qp];rw [show (mY k).set ((k : Int)).toNat (zo k) = mY (k + 1) from oG rfl];rfl)
 rw [show mY 0 = dY from nM, FB, show BJ 0 = dY from rfl, show ((0 : Nat) : Int) = 0 from rfl] at e;refine e.trans ?_;rw [aj.q1];simp only [aj.b1, aA (show ¬ ((256 : Nat) : Int) < 256 by decide), cond_false]
theorem Xj {q : Nat} (hk : kb.length = 4 * q) (hq : q <= 100) : aj.l2 .lim (0, nk, ok, n, 4, key, dn, mu, sm, sb, bk, yb, b, tw, ta, out, kb, [], rn, ()) = some (nk, ok, n, key, dn, mu, sm, sb, bk, yb, b, tw, ta, out, (List.range q).map (word kb), rn, ()) := by
 have e := dB (f := aj.l2 .lim) (fun k => (((4 * k : Nat) : Int), nk, ok, n, 4, key, dn, mu, sm, sb, bk, yb, b, tw, ta, out, kb, (List.range k).map (word kb), rn, ())) (n := q) (fun k hkq => by
  rw [aj.q2];have w1 : IntKind.i64.wrap (((4 * k : Nat) : Int) + 4) = ((4 * k + 4 : Nat) : Int) := by rw [wrap64 (by omega) (by omega)]; omega
  have w2 : mn 4 ((kb.length : Int) - ((4 * k : Nat) : Int)) = 4 := by rw [ig]; omega
  have w3 : (cut kb ((4 * k : Nat) : Int) ((4 * k + 4 : Nat) : Int)).length = 4 := by rw [mW, List.length_take, List.length_drop]; omega
  have w4 : (Nat.ble 1 4 && Nat.ble 4 (cut kb ((4 * k : Nat) : Int) ((4 * k + 4 : Nat) : Int)).length) = true := by rw [w3]; rfl
  simp only [aj.b2, aU (show (kb.length : Int) < 9223372036854775808 by omega), au (show ((4 * k : Nat) : Int) < (kb.length : Int) by omega), aP (show (0 : Int) <= ((4 * k : Nat) : Int) by omega) (show ((4 * k : Nat) : Int) <= (kb.length : Int) by omega) (Int.le_refl _), aU (show (kb.length : Int) - ((4 * k : Nat) : Int) < 9223372036854775808 by omega), w2, w1, aP (show (0 : Int) <= ((4 * k : Nat) : Int) by omega) (show ((4 * k : Nat) : Int) <= ((4 * k + 4 : Nat) : Int) by omega) (Int.le_refl _), au (show ((4 * k + 4 : Nat) : Int) <= (kb.length : Int) by omega), Bool.and_self, w4, cond_true];rw [cond_pos (by simp; omega), Md (by omega)];simp only [List.range_succ, List.map_append, List.map_cons, List.map_nil];rfl)
 refine e.trans ?_;rw [aj.q2];simp only [aj.b2, aU (show (kb.length : Int) < 9223372036854775808 by omega), aA (show ¬ ((4 * q : Nat) : Int) < (kb.length : Int) by omega), cond_true, cond_false]
theorem S_xor (hW : Words W) {i nk : Nat} (h1 : nk <= i) (h2 : i <= W.length) (h3 : 0 < nk) (h4 : i < 1000) (hT : T.length = 4) : aj.l3 .lim ((nk : Int), x, (i : Int), 0, ok, n, T, key, dn, mu, sm, sb, bk, yb, b, tw, ta, out, W, rn, ()) = some ((nk : Int), x, (i : Int), ok, n, FC T (rd z4 W ((i - nk : Nat) : Int)), key, dn, mu, sm, sb, bk, yb, b, tw, ta, out, W, rn, ()) := by
 have w : IntKind.i64.wrap ((i : Int) - (nk : Int)) = ((i - nk : Nat) : Int) := by rw [wrap64 (by omega) (by omega)]; omega
 have e := iT (f := aj.l3 .lim) (fun k T => ((nk : Int), x, (i : Int), (k : Int), ok, n, T, key, dn, mu, sm, sb, bk, yb, b, tw, ta, out, W, rn, ())) (fun k v => dP .u8 v (rd 0 (rd z4 W ((i - nk : Nat) : Int)) (k : Int))) T hT (fun k hk m' hm hj => by
  rw [aj.q3];simp only [aj.b3, au (show (k : Int) < 4 by omega), aH (show (0 : Int) <= k by omega) (show (k : Int) < 4 by omega), w, aH (show (0 : Int) <= ((i - nk : Nat) : Int) by omega) (show ((i - nk : Nat) : Int) < (W.length : Int) by omega), cond_true, mM k (by omega), hj k (Nat.le_refl _), Int.toNat_natCast])
 refine e.trans ?_;rw [aj.q3];simp only [aj.b3, aA (show ¬ ((4 : Nat) : Int) < 4 by decide), cond_false];rfl
end
end Go.AM
end
section
namespace Go.AM
section
variable {ok : Bool} {n dn mu sm four x i t t1 t2 tp tq : Int} {key b tw ta out K was kb T sb bk : List Int} {yb W rn : List (List Int)} {last : Bool}
theorem Zo (a b c d : Int) : ((((List.replicate 4 (0 : Int)).set 0 a).set 1 b).set 2 c).set 3 d = [a, b, c, d] := rfl
theorem Xk {nk : Nat} (hn : nk = 4 \/ nk = 8) (hk : 4 * nk <= kb.length) (hb : ∀ x ∈ kb, B8 x) :
  aj.l4 .lim ((nk : Int), 1, (nk : Int), ok, n, key, dn, mu, sm, mY 256, bk, yb, b, tw, ta, out, (List.range nk).map (word kb), rn, ()) = some (ok, n, key, dn, mu, sm, mY 256, bk, yb, b, tw, ta, out, (sched nk kb (3 * nk + 28)).1, rn, ()) := by
 have e := dB (f := aj.l4 .lim) (fun k => ((nk : Int), (sched nk kb k).2, ((nk + k : Nat) : Int), ok, n, key, dn, mu, sm, mY 256, bk, yb, b, tw, ta, out, (sched nk kb k).1, rn, ())) (n := 3 * nk + 28) (fun k hkq => by
  rw [aj.q4];obtain ⟨hW, hx⟩ := xk nk kb hk hb k;have hl := sH nk kb k;have hs : sched nk kb (k + 1) = stepW nk (sched nk kb k) := rfl;rw [hs];unfold stepW;generalize hq : sched nk kb k = q at hW hx hl;obtain ⟨W, x⟩ := q;simp only at hW hx hl ⊢
  have hi0 : nk + k < 1000 := by omega
  generalize hi : nk + k = i at hl hi0;have hw := hW.at (show i - 1 < W.length by omega);have hb0 := hW.byte (show i - 1 < W.length by omega) (j := 0) (by omega) (by omega);have hb1 := hW.byte (show i - 1 < W.length by omega) (j := 1) (by omega) (by omega);have hb2 := hW.byte (show i - 1 < W.length by omega) (j := 2) (by omega) (by omega);have hb3 := hW.byte (show i - 1 < W.length by omega) (j := 3) (by omega) (by omega);have w1 : IntKind.i64.wrap (4 * IntKind.i64.wrap ((nk : Int) + 7)) = ((4 * nk + 28 : Nat) : Int) := by rw [wrap64 (n := (nk : Int) + 7) (by omega) (by omega), wrap64 (by omega) (by omega)]; omega
  have w2 : IntKind.i64.wrap ((i : Int) - 1) = ((i - 1 : Nat) : Int) := by rw [wrap64 (by omega) (by omega)]; omega
  have m1 : ((i : Int)).tmod (nk : Int) = ((i % nk : Nat) : Int) := by rw [Int.tmod_eq_emod_of_nonneg (Int.natCast_nonneg i)]; simp
  have m2 : ((i : Int)).tmod 8 = ((i % 8 : Nat) : Int) := by rw [Int.tmod_eq_emod_of_nonneg (Int.natCast_nonneg i)]; simp
  have FD := fun x T hT => S_xor (ok := ok) (key := key) (dn := dn) (mu := mu) (sm := sm) (sb := mY 256) (bk := bk) (yb := yb) (b := b) (tw := tw) (x := x) (T := T) (n := n) (ta := ta) (out := out) (rn := rn) hW (i := i) (nk := nk) (by omega) (by omega) (by omega) (by omega) hT
  have cap : ∀ T : List Int, decide (W.length + ([T] : List (List Int)).length < 17592186044416) = true := fun T => au (by simp; omega)
  simp only [aj.b4, w1, au (show (i : Int) < ((4 * nk + 28 : Nat) : Int) by omega), w2, aH (show (0 : Int) <= ((i - 1 : Nat) : Int) by omega) (show ((i - 1 : Nat) : Int) < (W.length : Int) by omega), aA (show ¬ (nk : Int) = 0 by omega), m1, m2, cond_true, Bool.not_false, aH hb0.1 hb0.2, aH hb1.1 hb1.2, aH hb2.1 hb2.2, aH hb3.1 hb3.2, rM hb0, rM hb1, rM hb2, rM hb3, Zo, Bool.or_true];rw [hl];unfold Qq;by_cases c1 : i % nk = 0
  ·rw [au (show ((i % nk : Nat) : Int) = 0 by omega), if_pos c1, if_pos c1];simp only [cond_true, pV hx (show B8 2 from ⟨by decide, by decide⟩), Option.bind_some];rw [FD _ _ rfl];simp only [Option.bind_some];rw [cond_pos (by simp; omega), mM i (by omega)];rw [show i + 1 = nk + (k + 1) by omega]
  ·rw [aA (show ¬ ((i % nk : Nat) : Int) = 0 by omega), if_neg c1, if_neg c1];simp only [cond_false];by_cases c2 : nk = 8 /\ i % 8 = 4
   ·rw [au (show (nk : Int) = 8 by omega), au (show ((i % 8 : Nat) : Int) = 4 by omega), if_pos c2];simp only [Bool.and_self, cond_true];rw [FD _ _ rfl];simp only [Option.bind_some];rw [cond_pos (by simp; omega), mM i (by omega)];rw [show i + 1 = nk + (k + 1) by omega]
   ·have : (decide ((nk : Int) = 8) && decide (((i % 8 : Nat) : Int) = 4)) = false := by
     by_cases c3 : nk = 8
     ·rw [aA (show ¬ ((i % 8 : Nat) : Int) = 4 by omega), Bool.and_false]
     ·rw [aA (show ¬ (nk : Int) = 8 by omega), Bool.false_and]
    rw [this, if_neg c2];simp only [cond_false];rw [FD _ _ hw.1];simp only [Option.bind_some];rw [cond_pos (by simp; omega), mM i (by omega), <- list4 hw.1];rw [show i + 1 = nk + (k + 1) by omega])
 refine (show _ = _ from e).trans ?_;rw [aj.q4];have w1 : IntKind.i64.wrap (4 * IntKind.i64.wrap ((nk : Int) + 7)) = ((4 * nk + 28 : Nat) : Int) := by rw [wrap64 (n := (nk : Int) + 7) (by omega) (by omega), wrap64 (by omega) (by omega)]; omega
 simp only [aj.b4, w1, aA (show ¬ ((nk + (3 * nk + 28) : Nat) : Int) < ((4 * nk + 28 : Nat) : Int) by omega), cond_false]
end
end Go.AM
end
section
namespace Go.AM
section
variable {ok : Bool} {n dn mu sm four x i t t1 t2 tp tq : Int} {key b tw ta out K was kb T sb bk : List Int} {yb W rn : List (List Int)} {last : Bool}
theorem Ux {q : Nat} (hW : Words W) (hl : W.length = 4 * q) (hq : q <= 100) : aj.l5 .lim (0, ok, n, 4, key, dn, mu, sm, sb, bk, yb, b, tw, ta, out, W, [], ()) = some (ok, n, key, dn, mu, sm, sb, bk, yb, b, tw, ta, out, gZ W, ()) := by
 have e := dB (f := aj.l5 .lim) (fun k => (((4 * k : Nat) : Int), ok, n, 4, key, dn, mu, sm, sb, bk, yb, b, tw, ta, out, W, (List.range k).map (qy W), ())) (n := q) (fun k hkq => by
  rw [aj.q5];have w1 : IntKind.i64.wrap (((4 * k : Nat) : Int) + 4) = ((4 * k + 4 : Nat) : Int) := by rw [wrap64 (by omega) (by omega)]; omega
  have w2 : mn 4 ((W.length : Int) - ((4 * k : Nat) : Int)) = 4 := by rw [ig]; omega
  have w3 : (cut W ((4 * k : Nat) : Int) ((4 * k + 4 : Nat) : Int)).length = 4 := by rw [mW, List.length_take, List.length_drop]; omega
  have at_ : ∀ j : Nat, j < 4 -> rd z4 (cut W ((4 * k : Nat) : Int) ((4 * k + 4 : Nat) : Int)) (j : Int) = rd z4 W ((4 * k + j : Nat) : Int) := fun j hj => by
   rw [mW];unfold rd;rw [Int.toNat_natCast, Int.toNat_natCast, List.getD_eq_getElem?_getD, List.getD_eq_getElem?_getD, List.getElem?_take_of_lt (by omega), List.getElem?_drop]
  have a0 : rd z4 (cut W ((4 * k : Nat) : Int) ((4 * k + 4 : Nat) : Int)) 0 = rd z4 W ((4 * k : Nat) : Int) := at_ 0 (by omega);have a1 : rd z4 (cut W ((4 * k : Nat) : Int) ((4 * k + 4 : Nat) : Int)) 1 = rd z4 W ((4 * k + 1 : Nat) : Int) := at_ 1 (by omega);have a2 : rd z4 (cut W ((4 * k : Nat) : Int) ((4 * k + 4 : Nat) : Int)) 2 = rd z4 W ((4 * k + 2 : Nat) : Int) := at_ 2 (by omega);have a3 : rd z4 (cut W ((4 * k : Nat) : Int) ((4 * k + 4 : Nat) : Int)) 3 = rd z4 W ((4 * k + 3 : Nat) : Int) := at_ 3 (by omega);have c4 : ∀ l : List Int, l.length = 4 -> cut l 0 4 = l := fun l hl => by
   have := mW l 0 4;rw [show ((0 : Nat) : Int) = 0 from rfl, show ((4 : Nat) : Int) = 4 from rfl] at this;rw [this, List.drop_zero, List.take_of_length_le (by omega)]
  have l0 := (hW.at (show 4 * k < W.length by omega)).1;have l1 := (hW.at (show 4 * k + 1 < W.length by omega)).1;have l2 := (hW.at (show 4 * k + 2 < W.length by omega)).1;have l3 := (hW.at (show 4 * k + 3 < W.length by omega)).1;have hfl : [rd z4 W ((4 * k : Nat) : Int), rd z4 W ((4 * k + 1 : Nat) : Int), rd z4 W ((4 * k + 2 : Nat) : Int), rd z4 W ((4 * k + 3 : Nat) : Int)].flatten = qy W k := by simp [qy]
  have hrl := Ar hW (j := k) (by omega);have tK := Io [rd z4 W ((4 * k : Nat) : Int), rd z4 W ((4 * k + 1 : Nat) : Int), rd z4 W ((4 * k + 2 : Nat) : Int), rd z4 W ((4 * k + 3 : Nat) : Int)] (by rw [hfl, hrl]; omega) (by simp);rw [hfl] at tK;simp only [aj.b5, aU (show (W.length : Int) < 9223372036854775808 by omega), au (show ((4 * k : Nat) : Int) < (W.length : Int) by omega), aP (show (0 : Int) <= ((4 * k : Nat) : Int) by omega) (show ((4 * k : Nat) : Int) <= (W.length : Int) by omega) (Int.le_refl _), aU (show (W.length : Int) - ((4 * k : Nat) : Int) < 9223372036854775808 by omega), w2, w1, aP (show (0 : Int) <= ((4 * k : Nat) : Int) by omega) (show ((4 * k : Nat) : Int) <= ((4 * k + 4 : Nat) : Int) by omega) (Int.le_refl _), au (show ((4 * k + 4 : Nat) : Int) <= (W.length : Int) by omega), Bool.and_self, w3, cond_true, aH (show (0 : Int) <= 0 by omega) (show (0 : Int) < ((4 : Nat) : Int) by decide), aH (show (0 : Int) <= 1 by omega) (show (1 : Int) < ((4 : Nat) : Int) by decide), aH (show (0 : Int) <= 2 by omega) (show (2 : Int) < ((4 : Nat) : Int) by decide), aH (show (0 : Int) <= 3 by omega) (show (3 : Int) < ((4 : Nat) : Int) by decide), a0, a1, a2, a3, c4 _ l0, c4 _ l1, c4 _ l2, c4 _ l3, tK, Option.bind_some, hrl, List.take_of_length_le (Nat.le_of_eq hrl)];rw [show (Nat.ble 1 16 && Nat.ble 16 16) = true from rfl, cond_true, cond_pos (by simp; omega)];simp only [List.range_succ, List.map_append, List.map_cons, List.map_nil];rfl)
 refine (show _ = _ from e).trans ?_;rw [aj.q5];simp only [aj.b5, aU (show (W.length : Int) < 9223372036854775808 by omega), aA (show ¬ ((4 * q : Nat) : Int) < (W.length : Int) by omega), cond_true, cond_false];unfold gZ;rw [hl, Nat.mul_div_cancel_left _ (by omega)]
theorem Xl (hk : key.length = 16 \/ key.length = 32) (hb : ∀ x ∈ key, B8 x) : aj.l6 .lim (n, key, 0, 0, sm, dY, dY, List.replicate 16 dY, b, tw, ta, out, [], ()) = some (n, b, tw, key, 1, 0, sm, mY 256, BJ 256, dK 256, ta, out, gZ (kH key), ()) := by
 have h0 : aj.l6 .lim (n, key, 0, 0, sm, dY, dY, List.replicate 16 dY, b, tw, ta, out, [], ()) = aj.b6 .lim (aj.l6 .lim) (n, key, 0, 0, sm, dY, dY, List.replicate 16 dY, b, tw, ta, out, [], ()) := aj.q6 _;rw [h0];have hd : (key.length : Int).tdiv 4 = ((key.length / 4 : Nat) : Int) := by rw [Int.tdiv_eq_ediv_of_nonneg (Int.natCast_nonneg _)]; simp
 have w1 : IntKind.i64.wrap ((key.length : Int).tdiv 4) = ((key.length / 4 : Nat) : Int) := by rw [hd, wrap64 (by omega) (by omega)]
 have t := Uw (ok := true) (key := key) (dn := 0) (mu := 1) (sm := sm) (b := b) (tw := tw) (n := n) (ta := ta) (out := out) (rn := []);have s := Xj (kb := key) (q := key.length / 4) (nk := ((key.length / 4 : Nat) : Int)) (ok := true) (key := key) (dn := 0) (mu := 1) (sm := sm) (sb := mY 256) (bk := BJ 256) (yb := dK 256) (b := b) (tw := tw) (n := n) (ta := ta) (out := out) (rn := []) (by omega) (by omega);have w := Xk (kb := key) (nk := key.length / 4) (ok := true) (key := key) (dn := 0) (mu := 1) (sm := sm) (bk := BJ 256) (yb := dK 256) (b := b) (tw := tw) (n := n) (ta := ta) (out := out) (rn := []) (by omega) (by omega) hb;have r := Ux (W := kH key) (q := key.length / 4 + 7) (ok := true) (key := key) (dn := 0) (mu := 1) (sm := sm) (sb := mY 256) (bk := BJ 256) (yb := dK 256) (b := b) (tw := tw) (n := n) (ta := ta) (out := out) (xP key hb) (by rw [sJ]; omega) (by omega);have hs : iP.run .lim (true, ()) = some 1 := rfl;have hw : (sched (key.length / 4) key (3 * (key.length / 4) + 28)).1 = kH key := rfl;simp only [aj.b6, decide_true, Bool.not_true, Bool.not_false, cond_true, t, Option.bind_some, aU (show (key.length : Int) < 9223372036854775808 by omega), w1];rw [s];simp only [Option.bind_some];rw [w];simp only [Option.bind_some];rw [hw, r];simp only [Option.bind_some, hs, show IntKind.i32.wrap (1 + -1) = 0 from by decide, decide_true, Bool.not_true, cond_false]
end
end Go.AM
end
section
namespace Go.AM
section
variable {ok : Bool} {n dn mu sm four x i t t1 t2 tp tq : Int} {key b tw ta out K was kb T sb bk : List Int} {yb W rn : List (List Int)} {last : Bool}
theorem Xm (hb : b.length = 16) : aj.l7 .lim (0, n, b, K, tw, key, dn, mu, sm, sb, bk, yb, ta, out, rn, ()) = some (n, uY b K, tw, key, dn, mu, sm, sb, bk, yb, ta, out, rn, ()) := by
 have e := iT (f := aj.l7 .lim) (fun k b => ((k : Int), n, b, K, tw, key, dn, mu, sm, sb, bk, yb, ta, out, rn, ())) (fun k v => dP .u8 v (rd 0 K (k : Int))) b hb (fun k hk m' hm hj => by
  rw [aj.q7];simp only [aj.b7, au (show (k : Int) < 16 by omega), aH (show (0 : Int) <= k by omega) (show (k : Int) < 16 by omega), cond_true, mM k (by omega), hj k (Nat.le_refl _), Int.toNat_natCast])
 refine (show _ = _ from e).trans ?_;rw [aj.q7];simp only [aj.b7, aA (show ¬ ((16 : Nat) : Int) < 16 by decide), cond_false];rfl
theorem Uy (hb : C_ b) : aj.l8 .lim (0, last, tp, tq, t1, t2, n, b, key, dn, mu, sm, mY 256, bk, yb, K, rn, tw, ta, out, ()) = some (last, tp, tq, t1, t2, n, tab 16 fun i => zo (rd 0 b (i : Int)), K, rn, tw, key, dn, mu, sm, mY 256, bk, yb, ta, out, ()) := by
 have e := iT (f := aj.l8 .lim) (fun k b => ((k : Int), last, tp, tq, t1, t2, n, b, key, dn, mu, sm, mY 256, bk, yb, K, rn, tw, ta, out, ())) (fun k v => zo v) b hb.1 (fun k hk m' hm hj => by
  rw [aj.q8];have h := hb.at hk;simp only [aj.b8, au (show (k : Int) < 16 by omega), aH (show (0 : Int) <= k by omega) (show (k : Int) < 16 by omega), cond_true, mM k (by omega), hj k (Nat.le_refl _), aH h.1 h.2, rM h, Int.toNat_natCast])
 refine (show _ = _ from e).trans ?_;rw [aj.q8];simp only [aj.b8, aA (show ¬ ((16 : Nat) : Int) < 16 by decide), cond_false]
theorem Zp (hb : b.length = 16) : aj.l9 .lim (4, 0, last, tp, tq, t1, t2, n, b, was, K, rn, tw, key, dn, mu, sm, sb, bk, yb, ta, out, ()) = some (last, tp, tq, t1, t2, n, tab 16 fun i => rd 0 was (((i + 4 * (i % 4)) % 16 : Nat) : Int), K, rn, tw, key, dn, mu, sm, sb, bk, yb, ta, out, ()) := by
 have e := iT (f := aj.l9 .lim) (fun k b => (4, (k : Int), last, tp, tq, t1, t2, n, b, was, K, rn, tw, key, dn, mu, sm, sb, bk, yb, ta, out, ())) (fun k v => rd 0 was (((k + 4 * (k % 4)) % 16 : Nat) : Int)) b hb (fun k hk m' hm hj => by
  rw [aj.q9];have m1 : ((k : Int)).tmod 4 = ((k % 4 : Nat) : Int) := by rw [Int.tmod_eq_emod_of_nonneg (Int.natCast_nonneg k)]; simp
  have w1 : IntKind.i64.wrap (4 * (k : Int).tmod 4) = ((4 * (k % 4) : Nat) : Int) := by rw [m1, wrap64 (by omega) (by omega)]; omega
  have w2 : IntKind.i64.wrap ((k : Int) + ((4 * (k % 4) : Nat) : Int)) = ((k + 4 * (k % 4) : Nat) : Int) := by rw [wrap64 (by omega) (by omega)]; omega
  have w3 : IntKind.i64.wrap (((k + 4 * (k % 4) : Nat) : Int) + 64) = ((k + 4 * (k % 4) + 64 : Nat) : Int) := by rw [wrap64 (by omega) (by omega)]; omega
  have m2 : (((k + 4 * (k % 4) + 64 : Nat) : Int)).tmod 16 = (((k + 4 * (k % 4)) % 16 : Nat) : Int) := by rw [Int.tmod_eq_emod_of_nonneg (Int.natCast_nonneg _)]; omega
  simp only [aj.b9, au (show (k : Int) < 16 by omega), aH (show (0 : Int) <= k by omega) (show (k : Int) < 16 by omega), cond_true, mM k (by omega), w1, w2, w3, m2, aH (show (0 : Int) <= (((k + 4 * (k % 4)) % 16 : Nat) : Int) by omega) (show (((k + 4 * (k % 4)) % 16 : Nat) : Int) < 16 by omega), Int.toNat_natCast])
 refine (show _ = _ from e).trans ?_;rw [aj.q9];simp only [aj.b9, aA (show ¬ ((16 : Nat) : Int) < 16 by decide), cond_false]
abbrev qE : List Int := [2, 3, 1, 1]
theorem Zq (hw : C_ was) {i : Nat} (hi : i < 16) (hb : b.length = 16) (h0 : rd 0 b (i : Int) = 0) : aj.l10 .lim ((i : Int), t, qE, 0, tp, tq, t1, t2, n, key, dn, mu, sm, sb, bk, dK 256, b, qE, was, K, rn, tw, ta, out, ()) = some (t, tp, tq, t1, t2, n, key, dn, mu, sm, sb, bk, dK 256, b.set i (rd 0 (oI was) (i : Int)), qE, was, K, rn, tw, ta, out, ()) := by
 have h4 : ∀ j : Nat, j < 4 -> IntKind.i64.wrap (IntKind.i64.wrap (IntKind.i64.wrap ((i : Int).tdiv 4) * 4) + (IntKind.i64.wrap ((i : Int) + (j : Int))).tmod 4) = ((i / 4 * 4 + (i + j) % 4 : Nat) : Int) := by
  intro j hj;have d1 : ((i : Int)).tdiv 4 = ((i / 4 : Nat) : Int) := by rw [Int.tdiv_eq_ediv_of_nonneg (Int.natCast_nonneg i)]; simp
  have d2 : IntKind.i64.wrap ((i : Int) + (j : Int)) = ((i + j : Nat) : Int) := by rw [wrap64 (by omega) (by omega)]; omega
  have d3 : (((i + j : Nat) : Int)).tmod 4 = (((i + j) % 4 : Nat) : Int) := by rw [Int.tmod_eq_emod_of_nonneg (Int.natCast_nonneg _)]; simp
  rw [d1, d2, d3, wrap64 (n := ((i / 4 : Nat) : Int)) (by omega) (by omega), wrap64 (n := ((i / 4 : Nat) : Int) * 4) (by omega) (by omega), wrap64 (by omega) (by omega)]; omega
 have hB : ∀ j : Nat, j < 4 -> B8 (rd 0 was ((i / 4 * 4 + (i + j) % 4 : Nat) : Int)) := fun j hj => hw.at (by omega)
 have g0 := h4 0 (by omega); have g1 := h4 1 (by omega); have g2 := h4 2 (by omega); have g3 := h4 3 (by omega);have b0 := hB 0 (by omega); have b1 := hB 1 (by omega); have b2 := hB 2 (by omega); have b3 := hB 3 (by omega);rw [show ((0 : Nat) : Int) = 0 from rfl] at g0;rw [show ((1 : Nat) : Int) = 1 from rfl] at g1;rw [show ((2 : Nat) : Int) = 2 from rfl] at g2;rw [show ((3 : Nat) : Int) = 3 from rfl] at g3;have r0 := (rD b0).2.1; have r1 := (rD b1).2.2; have r2 := (rD b2).1; have r3 := (rD b3).1;have step : ∀ (c : Int) (j j' : Int) (q : Nat) (v : Int) (bb : List Int), bb.length = 16 -> 0 <= j -> j < 4 -> rd 0 qE j = c -> 0 <= c -> c < 16 -> IntKind.i64.wrap (j + 1) = j' -> IntKind.i64.wrap (IntKind.i64.wrap (IntKind.i64.wrap ((i : Int).tdiv 4) * 4) + (IntKind.i64.wrap ((i : Int) + j)).tmod 4) = (q : Int) -> q < 16 -> rd 0 (rd dY (dK 256) c) (rd 0 was (q : Int)) = v -> B8 (rd 0 was (q : Int)) ->
   aj.l10 .lim ((i : Int), t, qE, j, tp, tq, t1, t2, n, key, dn, mu, sm, sb, bk, dK 256, bb, qE, was, K, rn, tw, ta, out, ()) = aj.l10 .lim ((i : Int), t, qE, j', tp, tq, t1, t2, n, key, dn, mu, sm, sb, bk, dK 256, bb.set i (dP .u8 (rd 0 bb (i : Int)) v), qE, was, K, rn, tw, ta, out, ()) := by
  intro c j j' q v bb hbb h1 h2 h3 h4 h5 h6 h7 h8 h9 h10;rw [aj.q10];simp only [aj.b10, au h2, aH h1 h2, h3, aH h4 h5, h7, aH (show (0 : Int) <= i by omega) (show (i : Int) < 16 by omega), aH (show (0 : Int) <= (q : Int) by omega) (show (q : Int) < 16 by omega), aH h10.1 h10.2, h9, h6, cond_true, Int.toNat_natCast]
 rw [step 2 0 1 _ _ b hb (by omega) (by omega) rfl (by omega) (by omega) rfl g0 (by omega) r0 b0];rw [step 3 1 2 _ _ _ (by simp [hb]) (by omega) (by omega) rfl (by omega) (by omega) rfl g1 (by omega) r1 b1];rw [step 1 2 3 _ _ _ (by simp [hb]) (by omega) (by omega) rfl (by omega) (by omega) rfl g2 (by omega) r2 b2];rw [step 1 3 4 _ _ _ (by simp [hb]) (by omega) (by omega) rfl (by omega) (by omega) rfl g3 (by omega) r3 b3];rw [aj.q10];simp only [aj.b10, aA (show ¬ (4 : Int) < 4 by omega), cond_false];have hl : ∀ v, i < (b.set i v).length := fun v => by simp [hb]; omega
 simp only [uj (show i < b.length by omega), uj (hl _), List.set_set, h0];unfold oI;rw [mJ hi];simp only [Nat.add_zero]
theorem S_mix (hw : C_ was) (hb : b.length = 16) : aj.Ul .lim (0, tp, tq, t1, t2, n, key, dn, mu, sm, sb, bk, dK 256, b, qE, was, K, rn, tw, ta, out, ()) = some (tp, tq, t1, t2, n, oI was, K, rn, tw, key, dn, mu, sm, sb, bk, dK 256, ta, out, ()) := by
 have e := iT (f := aj.Ul .lim) (fun k b => ((k : Int), tp, tq, t1, t2, n, key, dn, mu, sm, sb, bk, dK 256, b, qE, was, K, rn, tw, ta, out, ())) (fun k v => rd 0 (oI was) (k : Int)) b hb (fun k hk m' hm hj => by
  rw [aj.q11];have hm := fun h0 => Zq (tp := tp) (tq := tq) (t1 := t1) (t2 := t2) (key := key) (dn := dn) (mu := mu) (sm := sm) (sb := sb) (bk := bk) (K := K) (rn := rn) (tw := tw) (t := (k : Int)) (n := n) (ta := ta) (out := out) hw (b := m'.set k 0) hk (by simp [hm]) h0
  simp only [aj.b11, au (show (k : Int) < 16 by omega), aH (show (0 : Int) <= k by omega) (show (k : Int) < 16 by omega), cond_true, Int.toNat_natCast];rw [hm (uj (by omega))];simp only [Option.bind_some, mM k (by omega), List.set_set])
 refine (show _ = _ from e).trans ?_;rw [aj.q11];simp only [aj.b11, aA (show ¬ ((16 : Nat) : Int) < 16 by decide), cond_false];have : (tab 16 fun i => rd 0 (oI was) (i : Int)) = oI was := (Fv jf).symm;rw [this]
theorem Uz (hb : b.length = 16) : aj.l12 .lim (0, tp, tq, t1, t2, n, b, K, rn, tw, key, dn, mu, sm, sb, bk, yb, ta, out, ()) = some (tp, tq, t1, t2, n, rn, uY b K, tw, key, dn, mu, sm, sb, bk, yb, ta, out, ()) := by
 have e := iT (f := aj.l12 .lim) (fun k b => ((k : Int), tp, tq, t1, t2, n, b, K, rn, tw, key, dn, mu, sm, sb, bk, yb, ta, out, ())) (fun k v => dP .u8 v (rd 0 K (k : Int))) b hb (fun k hk m' hm hj => by
  rw [aj.q12];simp only [aj.b12, au (show (k : Int) < 16 by omega), aH (show (0 : Int) <= k by omega) (show (k : Int) < 16 by omega), cond_true, mM k (by omega), hj k (Nat.le_refl _), Int.toNat_natCast])
 refine (show _ = _ from e).trans ?_;rw [aj.q12];simp only [aj.b12, aA (show ¬ ((16 : Nat) : Int) < 16 by decide), cond_false];rfl
theorem Xn (b : List Int) : (tab 16 fun i => rd 0 (tab 16 fun i => zo (rd 0 b (i : Int))) (((i + 4 * (i % 4)) % 16 : Nat) : Int)) = qA b := ji fun k hk => by rw [mJ (by omega)]
theorem OC (hb : C_ b) : C_ (qA b) := ⟨jf, Ij fun k hk => Qo (hb.at (by omega))⟩
theorem S_all {r : Nat} (hW : Words W) (hl : W.length = 4 * (r + 1)) (hr : r <= 100) (hr0 : 0 < r) (hb : b.length = 16) :
  aj.Ox .lim (1, ((r : Nat) : Int), ((r : Nat) : Int), 0, n, gZ W, qB W b 0, tw, key, dn, mu, sm, mY 256, bk, dK 256, ta, out, ()) = some (n, qB W b r, tw, key, dn, mu, sm, mY 256, bk, dK 256, ta, out, gZ W, ()) := by
 have hn : (gZ W).length = r + 1 := by unfold gZ; simp; omega
 have e := dB (f := aj.Ox .lim) (fun k => (1, (r : Int), (r : Int), (k : Int), n, gZ W, qB W b k, tw, key, dn, mu, sm, mY 256, bk, dK 256, ta, out, ())) (n := r) (fun k hk => by
  rw [aj.q13];have hB := DN W b k;have hK : rd CZ (gZ W) (1 + (k : Int)) = qy W (k + 1) := by
   rw [show (1 + (k : Int)) = ((k + 1 : Nat) : Int) by omega, mX (by omega)];unfold gZ; simp
  have w1 : IntKind.i64.wrap (((gZ W).length : Int) - 2) = (r : Int) - 1 := by rw [wrap64 (by omega) (by omega)]; omega
  have hlast : decide ((k : Int) = (r : Int) - 1) = decide (k + 2 = W.length / 4) := by
   by_cases h : k + 1 = r
   ·rw [au (by omega), au (by omega)]
   ·rw [aA (by omega), aA (by omega)]
  simp only [aj.b13, au (show (k : Int) < (r : Int) by omega), aH (show (0 : Int) <= k by omega) (show (k : Int) < (r : Int) by omega), aU (show ((gZ W).length : Int) < 9223372036854775808 by omega), cond_true, hK, w1, hlast, Uy hB, Option.bind_some];rw [Zp jf];simp only [Option.bind_some, Xn];have hs := OC hB;have hc : ((((List.replicate 4 (0 : Int)).set 0 2).set 1 3).set 2 1).set 3 1 = qE := rfl;show _ = aj.Ox .lim (1, (r : Int), (r : Int), ((k + 1 : Nat) : Int), n, gZ W, Oz (decide (k + 2 = W.length / 4)) (qB W b k) (qy W (k + 1)), tw, key, dn, mu, sm, mY 256, bk, dK 256, ta, out, ());unfold Oz;cases decide (k + 2 = W.length / 4) with
  | true =>
   simp only [Bool.not_true, cond_false, cond_true];rw [Uz hs.1];simp only [Option.bind_some, mM k (by omega)]
  | false =>
   simp only [Bool.not_false, cond_false, cond_true, hc];rw [S_mix hs hs.1];simp only [Option.bind_some];have hml : (oI (qA (qB W b k))).length = 16 := jf;rw [Uz hml];simp only [Option.bind_some, mM k (by omega)])
 refine (show _ = _ from e).trans ?_;rw [aj.q13];simp only [aj.b13, aA (show ¬ (r : Int) < (r : Int) by omega), cond_false]
end
end Go.AM
end
section
namespace Go.AM
section
variable {ok : Bool} {n dn mu sm four x i t t1 t2 tp tq : Int} {key b tw ta out K was kb T sb bk : List Int} {yb W rn : List (List Int)} {last : Bool}
theorem UA {r : Nat} (hW : Words W) (hl : W.length = 4 * (r + 1)) (hr : r <= 100) (hr0 : 0 < r) (hb : b.length = 16) {β : Type} {Q : _ -> Option β} :
  (bif inB 0 ((gZ W).length : Int) then
   ((aj.l7 .lim (0, n, b, rd CZ (gZ W) 0, tw, key, dn, mu, sm, mY 256, bk, dK 256, ta, out, gZ W, ())).bind fun (n, b, tw, key, dn, mu, sm, sb, bk, yb, ta, out, rn, ()) =>
    bif dJ 1 (rn.length : Int) (rn.length : Int) then bif aB ((rn.length : Int) - 1) then (aj.Ox .lim (1, ((rn.length : Int) - 1), ((rn.length : Int) - 1), 0, n, rn, b, tw, key, dn, mu, sm, sb, bk, yb, ta, out, ())).bind Q else none else none) else none) = Q (n, qB W b r, tw, key, dn, mu, sm, mY 256, bk, dK 256, ta, out, gZ W, ()) := by
 have hn : (gZ W).length = r + 1 := by unfold gZ; simp; omega
 have h0 : rd CZ (gZ W) 0 = qy W 0 := by
  have := mX (d := CZ) (show 0 < (gZ W).length by omega);rw [show ((0 : Nat) : Int) = 0 from rfl] at this;rw [this]; unfold gZ; simp
 rw [cond_pos (aH (by omega) (by omega)), h0, Xm hb];simp only [Option.bind_some];rw [cond_pos (aP (by omega) (by omega) (by omega)), cond_pos (aU (by omega)), show ((gZ W).length : Int) - 1 = (r : Int) by omega];have := S_all (tw := tw) (key := key) (dn := dn) (mu := mu) (sm := sm) (bk := bk) (n := n) (ta := ta) (out := out) hW hl hr hr0 hb;rw [show qB W b 0 = uY b (qy W 0) from rfl] at this;rw [this];rfl
theorem Xo (hk : key.length = 16 \/ key.length = 32) (hkb : ∀ x ∈ key, B8 x) (hb : b.length = 16) :
  aj.L_ .lim (b, n, key, 0, 0, sm, dY, dY, List.replicate 16 dY, ta, out, [], ()) = some (n, encS key b, key, 1, 0, sm, mY 256, BJ 256, dK 256, ta, out, gZ (kH key), ()) := by
 have h0 : aj.L_ .lim (b, n, key, 0, 0, sm, dY, dY, List.replicate 16 dY, ta, out, [], ()) = aj.b14 .lim (aj.L_ .lim) (b, n, key, 0, 0, sm, dY, dY, List.replicate 16 dY, ta, out, [], ()) := aj.q14 _;rw [h0];have hr := Xl (sm := sm) (key := key) (b := b) (tw := CZ) (n := n) (ta := ta) (out := out) hk hkb;have hW := xP key hkb;have hl : (kH key).length = 4 * ((key.length / 4 + 6) + 1) := by rw [sJ]; omega
 have hq : (kH key).length / 4 - 1 = key.length / 4 + 6 := by omega
 unfold aj.b14;simp only [hr, Option.bind_some];refine (UA (Q := fun (n, b, tw, key, dn, mu, sm, sb, bk, yb, ta, out, rn, ()) => some (n, b, key, dn, mu, sm, sb, bk, yb, ta, out, rn, ())) hW hl (by omega) (by omega) hb).trans ?_;unfold encS;rw [hq]
theorem Xp (hk : key.length = 16 \/ key.length = 32) (hkb : ∀ x ∈ key, B8 x) (hb : b.length = 16) :
  aj.L_ .lim (b, n, key, 1, 0, sm, mY 256, BJ 256, dK 256, ta, out, gZ (kH key), ()) = some (n, encS key b, key, 1, 0, sm, mY 256, BJ 256, dK 256, ta, out, gZ (kH key), ()) := by
 have h0 : aj.L_ .lim (b, n, key, 1, 0, sm, mY 256, BJ 256, dK 256, ta, out, gZ (kH key), ()) = aj.b14 .lim (aj.L_ .lim) (b, n, key, 1, 0, sm, mY 256, BJ 256, dK 256, ta, out, gZ (kH key), ()) := aj.q14 _;rw [h0];have hr : aj.l6 .lim (n, key, 1, 0, sm, mY 256, BJ 256, dK 256, b, CZ, ta, out, gZ (kH key), ()) = some (n, b, CZ, key, 1, 0, sm, mY 256, BJ 256, dK 256, ta, out, gZ (kH key), ()) := by
  rw [aj.q6];simp only [aj.b6, aA (show ¬ (1 : Int) = 0 by omega), Bool.not_false, Bool.not_true, cond_false]
 have hW := xP key hkb;have hl : (kH key).length = 4 * ((key.length / 4 + 6) + 1) := by rw [sJ]; omega
 have hq : (kH key).length / 4 - 1 = key.length / 4 + 6 := by omega
 unfold aj.b14;simp only [hr, Option.bind_some];refine (UA (Q := fun (n, b, tw, key, dn, mu, sm, sb, bk, yb, ta, out, rn, ()) => some (n, b, key, dn, mu, sm, sb, bk, yb, ta, out, rn, ())) hW hl (by omega) (by omega) hb).trans ?_;unfold encS;rw [hq]
end
end Go.AM
end
section
namespace Go.AM
abbrev Bs (s : List Int) : Prop := ∀ x ∈ s, B8 x
abbrev dG : Nat := 9223372036854775808
def keyE (key : List Int) : Bool := decide (key.length = 16 \/ key.length = 32)
noncomputable def encR (key b : List Int) : List Int × Int := if key.length = 16 \/ key.length = 32 then (if b.length = 16 then (encS key b, 0) else ([], 10)) else ([], 13)
theorem UC {b : List Int} (h : b.length = 16) : (b.drop 0).take 16 = b := by rw [List.drop_zero, List.take_of_length_le (by omega)]
theorem xq {key b : List Int} (hk : key.length < dG) (hb : b.length < dG) (hkb : Bs key) : ak.run .lim (key, b, ()) = some ((encR key b).1, (encR key b).2, ()) := by
 unfold encR;simp only [ak.run, aF hk, aF hb, cond_true, Bool.or_true];by_cases h1 : key.length = 16 \/ key.length = 32
 ·have : (!decide ((key.length : Int) = 16) && !decide ((key.length : Int) = 32)) = false := by
   rcases h1 with h | h
   ·rw [au (show (key.length : Int) = 16 by omega)]; rfl
   ·rw [au (show (key.length : Int) = 32 by omega), Bool.not_true, Bool.and_false]
  rw [this, if_pos h1];simp only [cond_false];by_cases h2 : b.length = 16
  ·rw [au (show (b.length : Int) = 16 by omega), if_pos h2];simp only [Bool.not_true, cond_false, h2];rw [show (Nat.ble 1 16 && Nat.ble 16 16) = true from rfl, cond_true, List.take_of_length_le (by omega), Xi h1 hkb h2];simp only [Option.bind_some];rw [UC (pI _ _).1]
  ·rw [aA (show ¬ (b.length : Int) = 16 by omega), if_neg h2];rfl
 ·rw [aA (show ¬ (key.length : Int) = 16 by omega), aA (show ¬ (key.length : Int) = 32 by omega), if_neg h1];rfl
theorem RG {key : List Int} (hk : key.length < dG) : iV.run .lim (key, ()) = some (keyE key) := by
 simp only [iV.run, aF hk, cond_true, Bool.or_true, fA];unfold keyE;congr 1;exact decide_eq_decide.2 (by omega)
theorem FH {key b : List Int} (hk : key.length < dG) (hb : b.length < dG) : fG.run .lim (key, b, ()) = some (if key.length = 16 \/ key.length = 32 then (if b.length = 16 then 0 else 10) else 13) := by
 simp only [fG.run, RG hk, Option.bind_some, aF hb];unfold keyE;by_cases h1 : key.length = 16 \/ key.length = 32
 ·rw [au h1, if_pos h1];by_cases h2 : b.length = 16
  ·rw [au (show (b.length : Int) = 16 by omega), if_pos h2]; rfl
  ·rw [aA (show ¬ (b.length : Int) = 16 by omega), if_neg h2]; rfl
 ·rw [aA h1, if_neg h1]; rfl
theorem uy {key b : List Int} (hk : key.length < dG) (hb : b.length < dG) (hkb : Bs key) : dV.run .lim (key, b, ()) = some ((encR key b).1, (encR key b).2, ()) := by
 simp only [dV.run, FH hk hb, Option.bind_some];unfold encR;by_cases h1 : key.length = 16 \/ key.length = 32
 ·rw [if_pos h1, if_pos h1];by_cases h2 : b.length = 16
  ·rw [if_pos h2, if_pos h2, Ik h1 hkb];simp only [Option.bind_some, Qr h1 hkb h2];rfl
  ·rw [if_neg h2, if_neg h2]; rfl
 ·rw [if_neg h1, if_neg h1]; rfl
def MG : Nat -> List Int -> List Int
 | 0, m => m
 | i + 1, m => bif !decide (rd 0 (m.set i (IntKind.u8.wrap (rd 0 m (i : Int) + 1))) (i : Int) = 0) then m.set i (IntKind.u8.wrap (rd 0 m (i : Int) + 1)) else MG i (m.set i (IntKind.u8.wrap (rd 0 m (i : Int) + 1)))
theorem MH : ∀ i m, (MG i m).length = m.length
 | 0, _ => rfl
 | i + 1, m => by
  rw [MG];cases decide (rd 0 (m.set i (IntKind.u8.wrap (rd 0 m (i : Int) + 1))) (i : Int) = 0)
  ·simp
  ·simp [MH i]
noncomputable def jk (key at_ : List Int) : Nat -> List Int × List Int
 | 0 => ([], at_)
 | k + 1 => ((jk key at_ k).1 ++ encS key (jk key at_ k).2, MG 16 (jk key at_ k).2)
theorem oJ (key at_ : List Int) : ∀ k, (jk key at_ k).1.length = 16 * k /\ (jk key at_ k).2.length = at_.length
 | 0 => ⟨rfl, rfl⟩
 | k + 1 => by
  obtain ⟨h1, h2⟩ := oJ key at_ k;exact ⟨by rw [jk, List.length_append, h1, (pI _ _).1]; omega, by rw [jk, MH, h2]⟩
noncomputable def OD (key at_ : List Int) (n : Nat) : List Int := (jk key at_ ((n + 15) / 16)).1.take n
theorem xu (key at_ : List Int) (n : Nat) : (OD key at_ n).length = n := by unfold OD; rw [List.length_take, (oJ _ _ _).1]; omega
section
variable {n dn mu sm : Int} {key ta out sb bk w : List Int} {yb rn : List (List Int)}
theorem Ym : ∀ (i : Nat), i <= 16 -> ∀ (ta : List Int), ta.length = 16 -> aj.l15 .lim (n, (i : Int) - 1, key, dn, mu, sm, sb, bk, yb, ta, out, rn, ()) = some (n, key, dn, mu, sm, sb, bk, yb, MG i ta, out, rn, ())
 | 0, _, ta, ht => by
  rw [aj.q15];simp only [aj.b15, aA (show ¬ (((0 : Nat) : Int) - 1 >= 0) by omega), cond_false];rfl
 | i + 1, hi, ta, ht => by
  have w1 : IntKind.i64.wrap ((i : Int) - 1) = (i : Int) - 1 := wrap64 (by omega) (by omega);have ih := Ym i (by omega) (ta.set i (IntKind.u8.wrap (rd 0 ta (i : Int) + 1))) (by simpa using ht);rw [show ((i + 1 : Nat) : Int) - 1 = (i : Int) by omega, aj.q15, MG];simp only [aj.b15, au (show (i : Int) >= 0 by omega), aH (show (0 : Int) <= i by omega) (show (i : Int) < 16 by omega), cond_true, Int.toNat_natCast, w1, ih];cases decide (rd 0 (ta.set i (IntKind.u8.wrap (rd 0 ta (i : Int) + 1))) (i : Int) = 0) <;> rfl
theorem Yn : ∀ (i : Nat), i <= 16 -> ∀ (ta : List Int), ta.length = 16 -> aY.l0 .lim (n, out, (i : Int) - 1, w, ta, ()) = some (n, out, w, MG i ta, ())
 | 0, _, ta, ht => by
  rw [aY.q0];simp only [aY.b0, aA (show ¬ (((0 : Nat) : Int) - 1 >= 0) by omega), cond_false];rfl
 | i + 1, hi, ta, ht => by
  have w1 : IntKind.i64.wrap ((i : Int) - 1) = (i : Int) - 1 := wrap64 (by omega) (by omega);have ih := Yn i (by omega) (ta.set i (IntKind.u8.wrap (rd 0 ta (i : Int) + 1))) (by simpa using ht);rw [show ((i + 1 : Nat) : Int) - 1 = (i : Int) by omega, aY.q0, MG];simp only [aY.b0, au (show (i : Int) >= 0 by omega), List.length_set, ht, aH (show (0 : Int) <= i by omega) (show (i : Int) < ((16 : Nat) : Int) by omega), cond_true, Int.toNat_natCast, w1, ih];cases decide (rd 0 (ta.set i (IntKind.u8.wrap (rd 0 ta (i : Int) + 1))) (i : Int) = 0) <;> rfl
end
def RH (key at_ : List Int) (n : Int) : Int := if n < 0 \/ n > 65536 then 13 else if key.length = 16 \/ key.length = 32 then (if at_.length = 16 then 0 else 10) else 13
noncomputable def RI (key at_ : List Int) (n : Int) : List Int := if RH key at_ n = 0 then OD key at_ n.toNat else []
theorem Zr {key at_ : List Int} {q : Nat} (hk : key.length = 16 \/ key.length = 32) (hkb : Bs key) (ha : at_.length = 16) (hq : q <= 65536) :
  aj.Yi .lim ((q : Int), key, 0, 0, 0, dY, dY, List.replicate 16 dY, at_, [], [], ()) = some ((q : Int), (jk key at_ ((q + 15) / 16)).1, ()) := by
 have step : ∀ (k : Nat) (dn mu : Int) (sb bk : List Int) (yb rn : List (List Int)), k < (q + 15) / 16 -> aj.L_ .lim ((jk key at_ k).2, (q : Int), key, dn, mu, 0, sb, bk, yb, (jk key at_ k).2, (jk key at_ k).1, rn, ()) = some ((q : Int), encS key (jk key at_ k).2, key, 1, 0, 0, mY 256, BJ 256, dK 256, (jk key at_ k).2, (jk key at_ k).1, gZ (kH key), ()) ->
   aj.Yi .lim ((q : Int), key, dn, mu, 0, sb, bk, yb, (jk key at_ k).2, (jk key at_ k).1, rn, ()) = aj.Yi .lim ((q : Int), key, 1, 0, 0, mY 256, BJ 256, dK 256, (jk key at_ (k + 1)).2, (jk key at_ (k + 1)).1, gZ (kH key), ()) := by
  intro k dn mu sb bk yb rn hk e;obtain ⟨h1, h2⟩ := oJ key at_ k;have hi := Ym (n := (q : Int)) (dn := 1) (mu := 0) (sm := 0) (key := key) (sb := mY 256) (bk := BJ 256) (yb := dK 256) (rn := gZ (kH key)) (out := (jk key at_ k).1 ++ encS key (jk key at_ k).2) 16 (by omega) (jk key at_ k).2 (by omega);rw [show ((16 : Nat) : Int) - 1 = 15 from rfl] at hi;rw [aj.q16];simp only [aj.b16, aF (show (jk key at_ k).1.length < 9223372036854775808 by omega), au (show (((jk key at_ k).1.length : Nat) : Int) < (q : Int) by omega), cond_true, e, Option.bind_some, UC (pI key (jk key at_ k).2).1, (pI key (jk key at_ k).2).1, hi];rw [cond_pos (au (by omega))];rfl
 have fin : ∀ dn mu sb bk yb rn, aj.Yi .lim ((q : Int), key, dn, mu, 0, sb, bk, yb, (jk key at_ ((q + 15) / 16)).2, (jk key at_ ((q + 15) / 16)).1, rn, ()) = some ((q : Int), (jk key at_ ((q + 15) / 16)).1, ()) := by
  intro dn mu sb bk yb rn;obtain ⟨h1, h2⟩ := oJ key at_ ((q + 15) / 16);rw [aj.q16];simp only [aj.b16, aF (show (jk key at_ ((q + 15) / 16)).1.length < 9223372036854775808 by omega), aA (show ¬ (((jk key at_ ((q + 15) / 16)).1.length : Nat) : Int) < (q : Int) by omega), cond_true, cond_false]
 by_cases h0 : q = 0
 ·subst h0;exact fin 0 0 dY dY (List.replicate 16 dY) []
 ·obtain ⟨p, hp⟩ : ∃ p, (q + 15) / 16 = p + 1 := ⟨(q + 15) / 16 - 1, by omega⟩;have e0 := step 0 0 0 dY dY (List.replicate 16 dY) [] (by omega) (Xo (n := (q : Int)) (sm := 0) (ta := at_) (out := []) hk hkb ha);have e1 := dB (f := aj.Yi .lim) (fun k => ((q : Int), key, 1, 0, 0, mY 256, BJ 256, dK 256, (jk key at_ (k + 1)).2, (jk key at_ (k + 1)).1, gZ (kH key), ())) (n := p) (fun k hkp => step (k + 1) 1 0 (mY 256) (BJ 256) (dK 256) (gZ (kH key)) (by omega) (Xp (n := (q : Int)) (sm := 0) (ta := (jk key at_ (k + 1)).2) (out := (jk key at_ (k + 1)).1) hk hkb (by rw [(oJ _ _ _).2]; exact ha)));refine e0.trans (e1.trans ?_);rw [<- hp];exact fin _ _ _ _ _ _
theorem OE {key at_ : List Int} {n : Int} (hk : key.length < dG) (ha : at_.length < dG) (hkb : Bs key) : aj.run .lim (key, at_, n, ()) = some (RI key at_ n, RH key at_ n, ()) := by
 unfold RI RH;simp only [aj.run, aF hk, aF ha, cond_true, Bool.or_true, fA];by_cases h0 : n < 0 \/ n > 65536
 ·rw [au h0, if_pos h0, if_neg (by decide)]; rfl
 ·rw [aA h0, if_neg h0];simp only [cond_false];by_cases h1 : key.length = 16 \/ key.length = 32
  ·have : (!decide ((key.length : Int) = 16) && !decide ((key.length : Int) = 32)) = false := by
    rcases h1 with h | h
    ·rw [au (show (key.length : Int) = 16 by omega)]; rfl
    ·rw [au (show (key.length : Int) = 32 by omega), Bool.not_true, Bool.and_false]
   rw [this, if_pos h1];simp only [cond_false];by_cases h2 : at_.length = 16
   ·rw [au (show (at_.length : Int) = 16 by omega), if_pos h2, if_pos rfl];simp only [Bool.not_true, cond_false, h2];have hn : n = ((n.toNat : Nat) : Int) := by omega
    have hl := Zr (q := n.toNat) h1 hkb h2 (by omega);rw [<- hn] at hl;rw [show (Nat.ble 1 16 && Nat.ble 16 16) = true from rfl, cond_true, List.take_of_length_le (by omega), hl];simp only [Option.bind_some];have := (oJ key at_ ((n.toNat + 15) / 16)).1;rw [cond_pos (aP (by omega) (by omega) (by omega)), List.drop_zero, Int.sub_zero];rfl
   ·rw [aA (show ¬ (at_.length : Int) = 16 by omega), if_neg h2, if_neg (by decide)];rfl
  ·rw [aA (show ¬ (key.length : Int) = 16 by omega), aA (show ¬ (key.length : Int) = 32 by omega), if_neg h1, if_neg (by decide)];rfl
theorem OG {key at_ : List Int} {n : Int} (hk : key.length < dG) (ha : at_.length < dG) (hkb : Bs key) : aY.run .lim (key, at_, n, ()) = some (RI key at_ n, RH key at_ n, ()) := by
 unfold RI RH;simp only [aY.run, fA, FH hk ha, Option.bind_some];by_cases h0 : n < 0 \/ n > 65536
 ·rw [au h0, if_pos h0, if_neg (show ¬ (13 : Int) = 0 by decide)]; rfl
 ·rw [aA h0, if_neg h0];simp only [cond_false];by_cases h1 : key.length = 16 \/ key.length = 32
  ·rw [if_pos h1];by_cases h2 : at_.length = 16
   ·rw [if_pos h2, Ik h1 hkb];simp only [Option.bind_some, decide_true, Bool.not_true, cond_false];have hn : n = ((n.toNat : Nat) : Int) := by omega
    generalize hq : n.toNat = q at hn;subst hn;have e := dB (f := aY.l1 .lim) (fun k => ((q : Int), (jk key at_ k).1, (kH key).flatten, (jk key at_ k).2, ())) (n := (q + 15) / 16) (fun k hk => by
     obtain ⟨g1, g2⟩ := oJ key at_ k;have hi := Yn (n := (q : Int)) (w := (kH key).flatten) (out := (jk key at_ k).1 ++ encS key (jk key at_ k).2) 16 (by omega) (jk key at_ k).2 (by omega);rw [show ((16 : Nat) : Int) - 1 = 15 from rfl] at hi;rw [aY.q1];simp only [aY.b1, aF (show (jk key at_ k).1.length < 9223372036854775808 by omega), au (show (((jk key at_ k).1.length : Nat) : Int) < (q : Int) by omega), cond_true, Qr h1 hkb (show (jk key at_ k).2.length = 16 by omega), Option.bind_some, (pI key (jk key at_ k).2).1, hi];rw [cond_pos (au (by unfold maxStr; omega))];rfl)
    rw [show (jk key at_ 0).1 = [] from rfl, show (jk key at_ 0).2 = at_ from rfl] at e;obtain ⟨g1, g2⟩ := oJ key at_ ((q + 15) / 16);rw [e, aY.q1];simp only [aY.b1, aF (show (jk key at_ ((q + 15) / 16)).1.length < 9223372036854775808 by omega), aA (show ¬ (((jk key at_ ((q + 15) / 16)).1.length : Nat) : Int) < (q : Int) by omega), cond_true, cond_false, Option.bind_some];rw [cond_pos (aP (by omega) (by omega) (by omega)), if_pos trivial];congr 2
   ·rw [if_neg h2, if_neg (show ¬ (10 : Int) = 0 by decide)]; rfl
  ·rw [if_neg h1, if_neg (show ¬ (13 : Int) = 0 by decide)]; rfl
end Go.AM
end
section
namespace Go.AM
theorem Xq (n : Int) : IntKind.u32.wrap n = n % 4294967296 := by unfold IntKind.wrap; simp [IntKind.signed, IntKind.bits]
theorem Aw (n : Int) : IntKind.u64.wrap n = n % 18446744073709551616 := by unfold IntKind.wrap; simp [IntKind.signed, IntKind.bits]
theorem UD {w x y : Nat} (hx : x < 2 ^ w) (hy : y < 2 ^ w) : (BitVec.ofInt w (x : Int) ||| BitVec.ofInt w (y : Int)).toNat = x ||| y := by
 rw [BitVec.toNat_or, BitVec.toNat_ofInt, BitVec.toNat_ofInt];have e : ∀ z : Nat, z < 2 ^ w -> ((z : Int) % ((2 ^ w : Nat) : Int)).toNat = z := fun z hz => by rw [<- Int.natCast_emod, Int.toNat_natCast, Nat.mod_eq_of_lt hz]
 rw [e x hx, e y hy]
theorem UE {a b m : Nat} (h : b < 2 ^ m) : 2 ^ m * a ||| b = 2 ^ m * a + b := (Nat.two_pow_add_eq_or_of_lt h a).symm
theorem ior64 {a b : Nat} (m : Nat) (h : b < 2 ^ m) (hm : 2 ^ m * a + b < 9223372036854775808) : oL .i64 ((2 ^ m * a : Nat) : Int) (b : Int) = ((2 ^ m * a + b : Nat) : Int) := by
 show IntKind.i64.wrap ((BitVec.ofInt 64 ((2 ^ m * a : Nat) : Int) ||| BitVec.ofInt 64 (b : Int)).toNat : Int) = _;have h1 : 2 ^ m * a < 2 ^ 64 := Nat.lt_of_le_of_lt (Nat.le_add_right _ b) (Nat.lt_of_lt_of_le hm (by decide));have h2 : b < 2 ^ 64 := Nat.lt_of_le_of_lt (Nat.le_add_left _ (2 ^ m * a)) (Nat.lt_of_lt_of_le hm (by decide));rw [UD h1 h2, UE h, wrap64 (by omega) (by omega)]
theorem OH {a : Int} (h : B8 a) : ∃ n : Nat, a = (n : Int) /\ n < 256 := ⟨a.toNat, by have := h.1; omega, by have := h.1; have := h.2; omega⟩
theorem num2 {a b : Int} (ha : B8 a) (hb : B8 b) : oL .i64 (fB .i64 (IntKind.i64.wrap a) 8) (IntKind.i64.wrap b) = a * 256 + b := by
 obtain ⟨x, rfl, hx⟩ := OH ha;obtain ⟨y, rfl, hy⟩ := OH hb;rw [wrap64 (by omega) (by omega), wrap64 (by omega) (by omega)];have e : fB .i64 (x : Int) 8 = ((2 ^ 8 * x : Nat) : Int) := by
  show IntKind.i64.wrap ((x : Int) * 2 ^ 8) = _;rw [wrap64 (by omega) (by omega)]; omega
 rw [e, ior64 8 (by omega) (by omega)];omega
theorem Yo {a b : Int} (ha : B8 a) (hb : B8 b) : IntKind.i64.wrap (IntKind.i64.wrap (IntKind.i64.wrap a * 256) + IntKind.i64.wrap b) = a * 256 + b := by
 unfold B8 at ha hb;rw [wrap64 (n := a) (by omega) (by omega), wrap64 (n := b) (by omega) (by omega), wrap64 (n := a * 256) (by omega) (by omega), wrap64 (by omega) (by omega)]
theorem fZ (x : Int) (k m : Nat) (K : IntKind) (hm : m <= K.bits) : iZ K x (m : Int) = x / 2 ^ m := by
 show x.fdiv (2 ^ min ((m : Int).toNat) K.bits) = _;rw [Int.toNat_natCast, Nat.min_eq_left hm, Int.fdiv_eq_ediv_of_nonneg _ (by exact Int.le_of_lt (Int.pow_pos (by decide)))]
end Go.AM
end
section
namespace Go.AM
abbrev FF := Int × List Int
abbrev f0 : FF := ((0 : Int), ([] : List Int))
def eG (s : List Int) : Int := s.foldl (fun n c => n * 256 + c) 0
theorem Ip (s : List Int) (c : Int) : eG (s ++ [c]) = eG s * 256 + c := by unfold eG; rw [List.foldl_append]; rfl
theorem DR {s : List Int} (hs : Bs s) : ∀ k, k <= s.length -> 0 <= eG (s.take k) /\ eG (s.take k) < 256 ^ k := by
 intro k
 induction k with
 | zero => intro _; simp [eG]
 | succ k ih =>
  intro hk;have h := ih (by omega);rw [Am (d := (0 : Int)) (by omega), Ip, Int.pow_succ];have hc := hs _ (fJ (d := (0 : Int)) (i := (k : Int)) (by omega) (by omega));omega
theorem Zt {k : Nat} (h : k <= 7) : (256 : Int) ^ k <= 72057594037927936 := by
 have h1 := Nat.pow_le_pow_right (n := 256) (by decide) h;have h2 : ((256 ^ k : Nat) : Int) = (256 : Int) ^ k := by rw [Int.natCast_pow]; rfl
 omega
theorem Zu {a b : Nat} (m : Nat) (h : b < 2 ^ m) (hm : 2 ^ m * a + b < 18446744073709551616) : oL .u64 ((2 ^ m * a : Nat) : Int) (b : Int) = ((2 ^ m * a + b : Nat) : Int) := by
 show IntKind.u64.wrap ((BitVec.ofInt 64 ((2 ^ m * a : Nat) : Int) ||| BitVec.ofInt 64 (b : Int)).toNat : Int) = _;rw [UD (Nat.lt_of_le_of_lt (Nat.le_add_right _ b) hm) (Nat.lt_of_le_of_lt (Nat.le_add_left _ (2 ^ m * a)) hm), UE h, Aw];omega
theorem Zv {n c : Int} (h0 : 0 <= n) (h1 : n < 72057594037927936) (hc : B8 c) : oL .u64 (fB .u64 n 8) (IntKind.u64.wrap c) = n * 256 + c := by
 obtain ⟨x, rfl⟩ := Int.eq_ofNat_of_zero_le h0;obtain ⟨y, rfl, hy⟩ := OH hc;have e : fB .u64 (x : Int) 8 = ((2 ^ 8 * x : Nat) : Int) := by
  show IntKind.u64.wrap ((x : Int) * 2 ^ 8) = _;rw [Aw]; omega
 have e2 : IntKind.u64.wrap (y : Int) = (y : Int) := by rw [Aw]; omega
 rw [e, e2, Zu 8 (by omega) (by omega)];omega
theorem MI {s : List Int} (hs : Bs s) (hl : s.length <= 8) {k : Nat} (hk : k < s.length) : oL .u64 (fB .u64 (eG (s.take k)) 8) (IntKind.u64.wrap (rd 0 s (k : Int))) = eG (s.take (k + 1)) := by
 have hb := DR hs k (by omega);have hp := Zt (k := k) (by omega);rw [Zv hb.1 (by omega) (hs _ (fJ (by omega) (by omega))), Am (d := (0 : Int)) hk, Ip]
theorem FI {s : List Int} (hs : Bs s) (hl : s.length <= 8) : dI.run .lim (s, ()) = some (eG s) := by
 have e := dB (f := dI.l0 .lim) (fun k => (s, eG (s.take k), (s.length : Int), (k : Int), ())) (n := s.length) (fun k hk => by
  rw [dI.q0];simp only [dI.b0, au (show (k : Int) < (s.length : Int) by omega), aH (show (0 : Int) <= (k : Int) by omega) (show (k : Int) < (s.length : Int) by omega), cond_true, mM k (by omega), MI hs hl hk])
 have e0 : dI.l0 .lim (s, 0, (s.length : Int), 0, ()) = dI.l0 .lim (s, eG (s.take s.length), (s.length : Int), (s.length : Int), ()) := e;simp only [dI.run, aF (show s.length < 9223372036854775808 by omega), cond_true, e0, List.take_length];rw [dI.q0];simp only [dI.b0, aA (show ¬ (s.length : Int) < (s.length : Int) by omega), cond_false, Option.bind_some]
theorem BL {s : List Int} (hs : Bs s) (hl : s.length <= 8) : aK.run .lim (s, ()) = some (eG s) := by
 have e := dB (f := aK.l0 .lim) (fun k => (s, eG (s.take k), (k : Int), ())) (n := s.length) (fun k hk => by
  rw [aK.q0];simp only [aK.b0, aF (show s.length < 9223372036854775808 by omega), au (show (k : Int) < (s.length : Int) by omega), aH (show (0 : Int) <= (k : Int) by omega) (show (k : Int) < (s.length : Int) by omega), cond_true, mM k (by omega), MI hs hl hk])
 have e0 : aK.l0 .lim (s, 0, 0, ()) = aK.l0 .lim (s, eG (s.take s.length), (s.length : Int), ()) := e;simp only [aK.run, e0, List.take_length];rw [aK.q0];simp only [aK.b0, aF (show s.length < 9223372036854775808 by omega), aA (show ¬ (s.length : Int) < (s.length : Int) by omega), cond_true, cond_false, Option.bind_some]
theorem jB {α : Type} {s : List α} {a b : Nat} {i j : Int} (hi : i = (a : Int)) (hj : j = (b : Int)) : cut s i j = (s.take b).drop a := by subst hi; subst hj; rfl
theorem pJ {α : Type} {s : List α} {a : Nat} {i : Int} (hi : i = (a : Int)) : cut s i (s.length : Int) = s.drop a := by subst hi; unfold cut; rw [Int.toNat_natCast, Int.toNat_natCast, List.take_length]
theorem Bs.take {s : List Int} (h : Bs s) (n : Nat) : Bs (s.take n) := fun x hx => h x (List.mem_of_mem_take hx)
theorem Bs.drop {s : List Int} (h : Bs s) (n : Nat) : Bs (s.drop n) := fun x hx => h x (List.mem_of_mem_drop hx)
theorem Bs.cut {s : List Int} (h : Bs s) (i j : Int) : Bs (cut s i j) := fun x hx => h x (List.mem_of_mem_take (List.mem_of_mem_drop hx))
theorem Bs.app {s t : List Int} (h : Bs s) (k : Bs t) : Bs (s ++ t) := fun x hx => (List.mem_append.1 hx).elim (h x) (k x)
theorem and3 {n : Int} (h0 : 0 <= n) (h1 : n < 9223372036854775808) : gB .i64 n 3 = n % 4 := by
 obtain ⟨x, rfl⟩ := Int.eq_ofNat_of_zero_le h0;show IntKind.i64.wrap ((BitVec.ofInt 64 (x : Int) &&& BitVec.ofInt 64 3).toNat : Int) = _;rw [BitVec.toNat_and, BitVec.toNat_ofInt, show (BitVec.ofInt 64 3).toNat = 2 ^ 2 - 1 from rfl, Nat.and_two_pow_sub_one_eq_mod];have e : ((x : Int) % ((2 ^ 64 : Nat) : Int)).toNat = x := by omega
 rw [e, wrap64 (by omega) (by omega)]; omega
def eH (s : List Int) : Nat := (eG ((s.take 4).drop 2)).toNat
def zk (s : List Int) : Prop := s.length < 4 \/ eH s < 16 \/ eH s % 4 ≠ 0 \/ eH s > s.length
instance (s : List Int) : Decidable (zk s) := by unfold zk; exact inferInstance
def SL (s : List Int) : FF := (eG (s.take 2), (s.take (eH s)).drop 4)
def vI : Nat -> List Int -> List FF -> List FF × Int
 | 0, _, acc => (acc, 0)
 | n + 1, s, acc => if s = [] then (acc, 0) else if zk s then ([], 10) else if acc.length = 16 then ([], 18) else vI n (s.drop (eH s)) (acc ++ [SL s])
theorem JH {s : List Int} (hs : Bs s) (h : 4 <= s.length) : eG ((s.take 4).drop 2) = (eH s : Int) /\ eH s < 65536 := by
 have hb : Bs ((s.take 4).drop 2) := (hs.take 4).drop 2;have hl : ((s.take 4).drop 2).length = 2 := by rw [List.length_drop, List.length_take]; omega
 have := DR hb 2 (by omega);rw [List.take_of_length_le (by omega)] at this;unfold eH;omega
theorem JI {s : List Int} (hs : Bs s) (h : 2 <= s.length) : 0 <= eG (s.take 2) /\ eG (s.take 2) < 65536 := by
 have := DR hs 2 (by omega);omega
theorem Xr : ∀ (n : Nat) (s : List Int) (acc : List FF), s.length <= n -> Bs s -> s.length < 9223372036854775808 -> acc.length <= 16 ->
  ((dX.l0 .lim (s, 0, acc, ())).bind fun g_ => match g_ with
   | .inl (m, m1, ()) => some (([] : List FF), m, ())
   | .inr (.inl (m2, m3, ())) => some (([] : List FF), m2, ())
   | .inr (.inr (m4, m5, ())) => some (m5, 0, ())) = some ((vI n s acc).1, (vI n s acc).2, ()) := by
 intro n
 induction n with
 | zero =>
  intro s acc hn _ _ _;obtain rfl : s = [] := List.length_eq_zero_iff.1 (by omega);rw [dX.q0];simp only [dX.b0, decide_true, Bool.not_true, cond_false, Option.bind_some, vI]
 | succ n ih =>
  intro s acc hn hs hl ha;rw [dX.q0];by_cases h0 : s = []
  ·subst h0;simp only [dX.b0, decide_true, Bool.not_true, cond_false, Option.bind_some, vI, if_true]
  simp only [dX.b0, aA h0, Bool.not_false, cond_true, aF hl, vI, if_neg h0];by_cases h4 : s.length < 4
  ·simp only [aA (show ¬ (s.length : Int) >= 4 by omega), cond_false, Option.bind_some];rw [if_pos (show zk s from .inl h4)]
  ·obtain ⟨e1, e2⟩ := JH hs (by omega);have hc : cut s 2 4 = (s.take 4).drop 2 := jB (a := 2) (b := 4) rfl rfl;have hlen : ((s.take 4).drop 2).length <= 8 := by rw [List.length_drop, List.length_take]; omega
   have w : IntKind.i64.wrap (eH s : Int) = (eH s : Int) := wrap64 (by omega) (by omega);simp only [au (show (s.length : Int) >= 4 by omega), cond_true, aP (show (0 : Int) <= 2 by omega) (show (2 : Int) <= 4 by omega) (show (4 : Int) <= (s.length : Int) by omega), hc, FI ((hs.take 4).drop 2) hlen, Option.bind_some, e1, w, Bool.or_true];have h3 : gB .i64 (eH s : Int) 3 = ((eH s % 4 : Nat) : Int) := by rw [and3 (by omega) (by omega)]; omega
   by_cases hb : zk s
   ·rw [if_pos hb];have hq : (((decide ((eH s : Int) < 16)) || (!(decide ((gB .i64 (eH s : Int) 3) = 0)))) || (decide ((eH s : Int) > (s.length : Int)))) = true := by
     rw [h3];rcases hb with hb | hb | hb | hb
     ·exact absurd hb h4
     ·simp only [au (show (eH s : Int) < 16 by omega), Bool.true_or]
     ·simp only [aA (show ¬ ((eH s % 4 : Nat) : Int) = 0 by omega), Bool.not_false, Bool.or_true, Bool.true_or]
     ·simp only [au (show (eH s : Int) > (s.length : Int) by omega), Bool.or_true]
    simp only [hq, cond_true, Option.bind_some]
   ·rw [if_neg hb];unfold zk at hb;have hq : (((decide ((eH s : Int) < 16)) || (!(decide ((gB .i64 (eH s : Int) 3) = 0)))) || (decide ((eH s : Int) > (s.length : Int)))) = false := by rw [h3, aA (show ¬ (eH s : Int) < 16 by omega), au (show ((eH s % 4 : Nat) : Int) = 0 by omega), aA (show ¬ (eH s : Int) > (s.length : Int) by omega)]; rfl
    have hc2 : cut s 0 2 = s.take 2 := jB (a := 0) (b := 2) rfl rfl;have hv := JI hs (by omega);have w2 : IntKind.i64.wrap (eG (s.take 2)) = eG (s.take 2) := wrap64 (by omega) (by omega);have hc3 : cut s 4 (eH s : Int) = (s.take (eH s)).drop 4 := jB (a := 4) (b := eH s) rfl rfl;have hc4 : cut s (eH s : Int) (s.length : Int) = s.drop (eH s) := pJ rfl;simp only [hq, cond_false, aP (show (0 : Int) <= 0 by omega) (show (0 : Int) <= 2 by omega) (show (2 : Int) <= (s.length : Int) by omega), cond_true, hc2, FI (hs.take 2) (show (s.take 2).length <= 8 by rw [List.length_take]; omega), Option.bind_some, w2,
     aP (show (0 : Int) <= 4 by omega) (show (4 : Int) <= (eH s : Int) by omega) (show (eH s : Int) <= (s.length : Int) by omega), aP (show (0 : Int) <= (eH s : Int) by omega) (show (eH s : Int) <= (s.length : Int) by omega) (show (s.length : Int) <= (s.length : Int) by omega), aF (show acc.length < 9223372036854775808 by omega), hc3, hc4]
    by_cases h16 : acc.length = 16
    ·rw [au (show (acc.length : Int) = 16 by omega), if_pos h16]; rfl
    ·rw [aA (show ¬ (acc.length : Int) = 16 by omega), if_neg h16];simp only [cond_false];rw [cond_pos (au (by simp; omega))];exact ih (s.drop (eH s)) (acc ++ [SL s]) (by rw [List.length_drop]; omega) (hs.drop _) (by rw [List.length_drop]; omega) (by simp; omega)
theorem Yp {s : List Int} (hs : Bs s) (hl : s.length < 9223372036854775808) : dX.run .lim (s, ()) = some ((vI s.length s []).1, (vI s.length s []).2, ()) := by
 simp only [dX.run];exact Xr s.length s [] (Nat.le_refl _) hs hl (by simp)
theorem UF : ∀ (n : Nat) (s : List Int) (acc : List FF), s.length <= n -> Bs s -> s.length < 9223372036854775808 -> acc.length <= 16 ->
  ((bF.l0 .lim (s, acc, ())).bind fun g_ => match g_ with
   | .inl (t, ()) => some (([] : List FF), t, ())
   | .inr (.inl (t1, ())) => some (([] : List FF), t1, ())
   | .inr (.inr (.inl (t2, ()))) => some (([] : List FF), t2, ())
   | .inr (.inr (.inr (m, ()))) => some (m, 0, ())) = some ((vI n s acc).1, (vI n s acc).2, ()) := by
 intro n
 induction n with
 | zero =>
  intro s acc hn _ _ _;obtain rfl : s = [] := List.length_eq_zero_iff.1 (by omega);rw [bF.q0];simp only [bF.b0, decide_true, Bool.not_true, cond_false, Option.bind_some, vI]
 | succ n ih =>
  intro s acc hn hs hl ha;rw [bF.q0];by_cases h0 : s = []
  ·subst h0;simp only [bF.b0, decide_true, Bool.not_true, cond_false, Option.bind_some, vI, if_true]
  simp only [bF.b0, aA h0, Bool.not_false, cond_true, aF hl, vI, if_neg h0];by_cases h4 : s.length < 4
  ·simp only [au (show (s.length : Int) < 4 by omega), cond_true, Option.bind_some];rw [if_pos (show zk s from .inl h4)]
  ·obtain ⟨e1, e2⟩ := JH hs (by omega);have hc : cut s 2 4 = (s.take 4).drop 2 := jB (a := 2) (b := 4) rfl rfl;have hlen : ((s.take 4).drop 2).length <= 8 := by rw [List.length_drop, List.length_take]; omega
   have w : IntKind.i64.wrap (eH s : Int) = (eH s : Int) := wrap64 (by omega) (by omega);simp only [aA (show ¬ (s.length : Int) < 4 by omega), cond_true, cond_false, aP (show (0 : Int) <= 2 by omega) (show (2 : Int) <= 4 by omega) (show (4 : Int) <= (s.length : Int) by omega), hc, BL ((hs.take 4).drop 2) hlen, Option.bind_some, e1, w, Bool.or_true];have h3 : (eH s : Int).tmod 4 = ((eH s % 4 : Nat) : Int) := by rw [Int.tmod_eq_emod_of_nonneg (by omega)]; omega
   by_cases hb : zk s
   ·rw [if_pos hb];have hq : (((decide ((eH s : Int) < 16)) || (!(decide (((eH s : Int).tmod 4) = 0)))) || (decide ((eH s : Int) > (s.length : Int)))) = true := by
     rw [h3];rcases hb with hb | hb | hb | hb
     ·exact absurd hb h4
     ·simp only [au (show (eH s : Int) < 16 by omega), Bool.true_or]
     ·simp only [aA (show ¬ ((eH s % 4 : Nat) : Int) = 0 by omega), Bool.not_false, Bool.or_true, Bool.true_or]
     ·simp only [au (show (eH s : Int) > (s.length : Int) by omega), Bool.or_true]
    simp only [hq, cond_true, Option.bind_some]
   ·rw [if_neg hb];unfold zk at hb;have hq : (((decide ((eH s : Int) < 16)) || (!(decide (((eH s : Int).tmod 4) = 0)))) || (decide ((eH s : Int) > (s.length : Int)))) = false := by rw [h3, aA (show ¬ (eH s : Int) < 16 by omega), au (show ((eH s % 4 : Nat) : Int) = 0 by omega), aA (show ¬ (eH s : Int) > (s.length : Int) by omega)]; rfl
    have hc2 : cut s 0 2 = s.take 2 := jB (a := 0) (b := 2) rfl rfl;have hv := JI hs (by omega);have w2 : IntKind.i64.wrap (eG (s.take 2)) = eG (s.take 2) := wrap64 (by omega) (by omega);have hc3 : cut s 4 (eH s : Int) = (s.take (eH s)).drop 4 := jB (a := 4) (b := eH s) rfl rfl;have hc4 : cut s (eH s : Int) (s.length : Int) = s.drop (eH s) := pJ rfl;simp only [hq, cond_false, aF (show acc.length < 9223372036854775808 by omega), cond_true];by_cases h16 : acc.length = 16
    ·rw [au (show (acc.length : Int) = 16 by omega), if_pos h16]; rfl
    ·rw [aA (show ¬ (acc.length : Int) = 16 by omega), if_neg h16];simp only [cond_false, cond_true, aP (show (0 : Int) <= 0 by omega) (show (0 : Int) <= 2 by omega) (show (2 : Int) <= (s.length : Int) by omega), hc2, BL (hs.take 2) (show (s.take 2).length <= 8 by rw [List.length_take]; omega), Option.bind_some, w2,
      aP (show (0 : Int) <= 4 by omega) (show (4 : Int) <= (eH s : Int) by omega) (show (eH s : Int) <= (s.length : Int) by omega), aP (show (0 : Int) <= (eH s : Int) by omega) (show (eH s : Int) <= (s.length : Int) by omega) (show (s.length : Int) <= (s.length : Int) by omega), hc3, hc4]
     rw [cond_pos (au (by simp; omega))];exact ih (s.drop (eH s)) (acc ++ [SL s]) (by rw [List.length_drop]; omega) (hs.drop _) (by rw [List.length_drop]; omega) (by simp; omega)
theorem UG {s : List Int} (hs : Bs s) (hl : s.length < 9223372036854775808) : bF.run .lim (s, ()) = some ((vI s.length s []).1, (vI s.length s []).2, ()) := by
 simp only [bF.run];exact UF s.length s [] (Nat.le_refl _) hs hl (by simp)
end Go.AM
end
section
namespace Go.AM
theorem Zw {n : Int} : iZ .i64 n 8 = n / 256 := by
 have := fZ n 0 8 .i64 (by decide);exact this
def twoS (n : Int) : List Int := [IntKind.u8.wrap (iZ .i64 n 8), IntKind.u8.wrap n]
theorem iY (n : Int) : (twoS n).length = 2 := rfl
theorem JJ (n : Int) : Bs (twoS n) := fun x hx => by
 unfold twoS at hx;simp only [List.mem_cons, List.not_mem_nil, or_false] at hx;rcases hx with rfl | rfl <;> exact wU _
theorem Qs {t : List Int} (hb : Bs t) (hl : t.length = 2) : twoS (eG t) = t := by
 match t, hl with
 | [a, b], _ =>
  have ha := hb a (.head _);have hb := hb b (.tail _ (.head _));have e : eG [a, b] = a * 256 + b := by simp [eG]
  unfold twoS;rw [e, Zw, jY, jY];congr 1
  ·omega
  ·congr 1; omega
theorem val_two {n : Int} (h0 : 0 <= n) (h1 : n < 65536) : eG (twoS n) = n := by
 unfold twoS eG;rw [Zw, jY, jY];simp only [List.foldl_cons, List.foldl_nil];omega
def lS (f : FF) : List Int := twoS f.1 ++ twoS ((f.2.length : Int) + 4) ++ f.2
def aS (l : List FF) : List Int := (l.map lS).flatten
theorem oK (f : FF) : (lS f).length = 4 + f.2.length := by simp [lS, twoS]; omega
theorem BM (a b : List FF) : aS (a ++ b) = aS a ++ aS b := by simp [aS]
theorem RJ (f : FF) : aS [f] = lS f := by simp [aS]
theorem uz {l : List FF} {k : Nat} (h : k < l.length) : aS (l.take (k + 1)) = aS (l.take k) ++ lS (rd f0 l (k : Int)) := by rw [Am (d := f0) h, BM, RJ]
theorem MJ (l : List FF) (k : Nat) : (aS (l.take k)).length <= (aS l).length := by
 have : aS l = aS (l.take k) ++ aS (l.drop k) := by rw [<- BM, List.take_append_drop]
 rw [this, List.length_append]; omega
structure SN (f : FF) : Prop where
 k0 : 0 <= f.1
 k1 : f.1 < 65536
 l0 : 12 <= f.2.length
 l4 : f.2.length % 4 = 0
 l1 : f.2.length < 65532
 b : Bs f.2
theorem Xt {s : List Int} (hs : Bs s) (hb : ¬ zk s) : s.take (eH s) = lS (SL s) /\ SN (SL s) := by
 unfold zk at hb;obtain ⟨e1, e2⟩ := JH hs (by omega);have hv := JI hs (by omega);have hlen : ((s.take (eH s)).drop 4).length = eH s - 4 := by rw [List.length_drop, List.length_take]; omega
 refine ⟨?_, ⟨hv.1, hv.2, by show 12 <= ((s.take (eH s)).drop 4).length; omega, by show ((s.take (eH s)).drop 4).length % 4 = 0; omega, by show ((s.take (eH s)).drop 4).length < 65532; omega, (hs.take _).drop _⟩⟩;unfold lS SL;have h2 : twoS ((((s.take (eH s)).drop 4).length : Int) + 4) = (s.take 4).drop 2 := by
  rw [hlen, show ((eH s - 4 : Nat) : Int) + 4 = (eH s : Int) by omega, <- e1];exact Qs ((hs.take 4).drop 2) (by rw [List.length_drop, List.length_take]; omega)
 have h1 : twoS (eG (s.take 2)) = s.take 2 := Qs (hs.take 2) (by rw [List.length_take]; omega);show s.take (eH s) = twoS (eG (s.take 2)) ++ twoS ((((s.take (eH s)).drop 4).length : Int) + 4) ++ (s.take (eH s)).drop 4;rw [h1, h2];have h3 : s.take 2 ++ (s.take 4).drop 2 = s.take 4 := by
  have : s.take 2 = (s.take 4).take 2 := by rw [List.take_take]; rfl
  rw [this, List.take_append_drop]
 have h4 : s.take 4 = (s.take (eH s)).take 4 := by rw [List.take_take, Nat.min_eq_left (by omega)]
 rw [h3, h4, List.take_append_drop]
theorem Xu : ∀ (n : Nat) (s : List Int) (acc : List FF), s.length <= n -> Bs s -> (vI n s acc).2 = 0 -> ∃ l, (vI n s acc).1 = acc ++ l /\ s = aS l /\ (∀ f ∈ l, SN f) /\ (acc.length <= 16 -> (acc ++ l).length <= 16) := by
 intro n
 induction n with
 | zero =>
  intro s acc hn _ _;obtain rfl : s = [] := List.length_eq_zero_iff.1 (by omega);exact ⟨[], by simp [vI], rfl, fun f hf => (by cases hf), fun h => by simpa using h⟩
 | succ n ih =>
  intro s acc hn hs he;by_cases h0 : s = []
  ·subst h0;exact ⟨[], by simp [vI], rfl, fun f hf => (by cases hf), fun h => by simpa using h⟩
  ·simp only [vI, if_neg h0] at he ⊢
   by_cases hb : zk s
   ·rw [if_pos hb] at he; exact absurd he (by decide)
   ·rw [if_neg hb] at he ⊢
    by_cases h16 : acc.length = 16
    ·rw [if_pos h16] at he; exact absurd he (by decide)
    ·rw [if_neg h16] at he ⊢
     obtain ⟨e1, e2⟩ := Xt hs hb;have hb' := hb;unfold zk at hb';obtain ⟨l, k1, k2, k3, k4⟩ := ih (s.drop (eH s)) (acc ++ [SL s]) (by rw [List.length_drop]; omega) (hs.drop _) he;refine ⟨SL s :: l, by rw [k1, List.append_assoc]; rfl, ?_, fun f hf => ?_, fun h => ?_⟩
     ·have : aS (SL s :: l) = lS (SL s) ++ aS l := by simp [aS]
      rw [this, <- k2, <- e1, List.take_append_drop]
     ·rcases List.mem_cons.1 hf with rfl | hf
      ·exact e2
      ·exact k3 f hf
     ·have := k4 (by simp; omega);simpa [List.append_assoc] using this
def fE (f : FF) : Int := if f.1 < 0 \/ f.1 >= 65536 then 13 else if f.2.length < 12 \/ f.2.length % 4 ≠ 0 then 10 else 0
def sK (l : List FF) : Int := if l.length > 16 then 18 else match (List.range l.length).find? (fun k : Nat => !decide (fE (rd f0 l (k : Int)) = 0)) with
 | some k => fE (rd f0 l (k : Int))
 | none => if (aS l).length > 1232 then 12 else 0
def sN (l : List FF) : List Int := if sK l = 0 then aS l else []
theorem fE_ok {f : FF} (h : SN f) : fE f = 0 := by
 unfold fE;rw [if_neg (by have := h.k0; have := h.k1; omega), if_neg (by have := h.l0; have := h.l4; omega)]
theorem JK {l : List FF} (h : ∀ f ∈ l, SN f) (h16 : l.length <= 16) (hl : (aS l).length <= 1232) : sK l = 0 := by
 unfold sK;rw [if_neg (by omega)];have : (List.range l.length).find? (fun k : Nat => !decide (fE (rd f0 l (k : Int)) = 0)) = none := List.find?_eq_none.2 fun k hk => by
  have hk := List.mem_range.1 hk;rw [au (fE_ok (h _ (fJ (by omega) (by omega))))]; simp
 rw [this];simp only;rw [if_neg (by omega)]
def yw (l : List FF) : Nat -> List Int
 | 0 => []
 | k + 1 => if (aS (l.take (k + 1))).length > 1232 then yw l k else yw l k ++ lS (rd f0 l (k : Int))
theorem Qu {l : List FF} : ∀ k, k <= l.length -> (aS (l.take k)).length <= 1232 -> yw l k = aS (l.take k) := by
 intro k
 induction k with
 | zero => intro _ _; rfl
 | succ k ih =>
  intro hk h;have e := uz (l := l) (k := k) (by omega);unfold yw;rw [if_neg (by omega), e];rw [ih (by omega) (by rw [e, List.length_append] at h; omega)]
theorem Xv (n : Int) : wW.run .lim (n, ()) = some (twoS n) := rfl
def FL (l : List FF) : Prop := l.length < 9223372036854775808 /\ ∀ f ∈ l, f.2.length <= 140737488351232
theorem Iq {l : List FF} (hl : FL l) : fO.run .lim (l, ()) = some (sN l, sK l, ()) := by
 obtain ⟨h1, h2⟩ := hl;simp only [fO.run, aF h1, cond_true];by_cases h16 : l.length > 16
 ·rw [au (show (l.length : Int) > 16 by omega)];have : sK l = 18 := by unfold sK; rw [if_pos h16]
  unfold sN;rw [this]; rfl
 rw [aA (show ¬ (l.length : Int) > 16 by omega)];have e := qp (f := fO.l0 .lim) (fun k => (decide ((aS (l.take k)).length > 1232), l, (l.length : Int), (k : Int), yw l k, ())) l.length (fun k : Nat => !decide (fE (rd f0 l (k : Int)) = 0))
  (fun k => if fE (rd f0 l (k : Int)) = 13 then some (.inl (([] : List Int), 13, ())) else some (.inr (.inl (([] : List Int), 10, ())))) (fun k hk => by
  have hm := fJ (d := f0) (xs := l) (i := (k : Int)) (by omega) (by omega);have hb := h2 _ hm;rw [fO.q0];generalize hg : rd f0 l (k : Int) = f at hm hb;simp only [fO.b0, au (show (k : Int) < (l.length : Int) by omega), aH (show (0 : Int) <= (k : Int) by omega) (show (k : Int) < (l.length : Int) by omega), cond_true, hg, aF (show f.2.length < 9223372036854775808 by omega), Bool.or_true];unfold fE;by_cases hk1 : f.1 < 0 \/ f.1 >= 65536
  ·rw [if_pos hk1];have : ((decide (f.1 < 0)) || (decide (f.1 >= 65536))) = true := by rcases hk1 with q | q <;> simp only [au q, Bool.true_or, Bool.or_true]
   simp only [this, cond_true];rfl
  ·rw [if_neg hk1];have : ((decide (f.1 < 0)) || (decide (f.1 >= 65536))) = false := by rw [aA (show ¬ f.1 < 0 by omega), aA (show ¬ f.1 >= 65536 by omega)]; rfl
   simp only [this, cond_false];have h3 : gB .i64 (f.2.length : Int) 3 = ((f.2.length % 4 : Nat) : Int) := by rw [and3 (by omega) (by omega)]; omega
   by_cases hk2 : f.2.length < 12 \/ f.2.length % 4 ≠ 0
   ·rw [if_pos hk2];have : ((decide ((f.2.length : Int) < 12)) || (!(decide ((gB .i64 (f.2.length : Int) 3) = 0)))) = true := by
     rw [h3];rcases hk2 with q | q
     ·rw [au (show (f.2.length : Int) < 12 by omega)]; rfl
     ·rw [aA (show ¬ ((f.2.length % 4 : Nat) : Int) = 0 by omega)]; simp
    simp only [this, cond_true];rfl
   ·rw [if_neg hk2];have : ((decide ((f.2.length : Int) < 12)) || (!(decide ((gB .i64 (f.2.length : Int) 3) = 0)))) = false := by rw [h3, aA (show ¬ (f.2.length : Int) < 12 by omega), au (show ((f.2.length % 4 : Nat) : Int) = 0 by omega)]; rfl
    simp only [this, cond_false, decide_true, Bool.not_true, cond_false];have es := uz hk;have el : (aS (l.take (k + 1))).length = (aS (l.take k)).length + (4 + f.2.length) := by rw [es, List.length_append, oK, hg]
    have hu : ∀ b : Bool, (bif b then some () else some ()) = some () := fun b => by cases b <;> rfl
    simp only [hu, Option.bind_some, Xv];by_cases hlong : (aS (l.take k)).length > 1232
    ·have e1 : decide ((aS (l.take k)).length > 1232) = true := au hlong;have e2 : decide ((aS (l.take (k + 1))).length > 1232) = true := au (show (aS (l.take (k + 1))).length > 1232 by omega);have e3 : yw l (k + 1) = yw l k := by rw [yw, if_pos (show (aS (l.take (k + 1))).length > 1232 by omega)]
     simp only [e1, e2, e3, Bool.true_or, Bool.not_true, cond_false, mM k (by omega)]
    ·have e1 : decide ((aS (l.take k)).length > 1232) = false := aA hlong;have eo := Qu (l := l) k (by omega) (by omega);have ew : IntKind.i64.wrap ((IntKind.i64.wrap (((yw l k).length : Int) + 4)) + (f.2.length : Int)) = ((aS (l.take (k + 1))).length : Int) := by rw [eo, wrap64 (n := ((aS (l.take k)).length : Int) + 4) (by omega) (by omega), wrap64 (by omega) (by omega)]; omega
     have ed : decide (((aS (l.take (k + 1))).length : Int) > 1232) = decide ((aS (l.take (k + 1))).length > 1232) := by
      by_cases q : (aS (l.take (k + 1))).length > 1232
      ·rw [au q, au (show ((aS (l.take (k + 1))).length : Int) > 1232 by omega)]
      ·rw [aA q, aA (show ¬ ((aS (l.take (k + 1))).length : Int) > 1232 by omega)]
     simp only [e1, ew, ed, Bool.false_or];by_cases hl2 : (aS (l.take (k + 1))).length > 1232
     ·have e2 : decide ((aS (l.take (k + 1))).length > 1232) = true := au hl2;have e3 : yw l (k + 1) = yw l k := by rw [yw, if_pos hl2]
      simp only [e2, e3, Bool.not_true, cond_false, mM k (by omega)]
     ·have e2 : decide ((aS (l.take (k + 1))).length > 1232) = false := aA hl2;have e3 : yw l (k + 1) = yw l k ++ lS f := by rw [yw, if_neg hl2, hg]
      have e4 : IntKind.i64.wrap ((f.2.length : Int) + 4) = (f.2.length : Int) + 4 := wrap64 (by omega) (by omega);have e5 : Ie ((yw l k).length + (twoS f.1 ++ twoS ((f.2.length : Int) + 4) ++ f.2).length) = some () := by
       have : (twoS f.1 ++ twoS ((f.2.length : Int) + 4) ++ f.2).length = 4 + f.2.length := oK f;rw [this, eo];unfold Ie;rw [Nat.ble_eq_true_of_le (show (aS (l.take k)).length + (4 + f.2.length) <= 140737488355328 by omega)]; rfl
      simp only [e2, e3, e4, Bool.not_false, cond_true, mM k (by omega)];rw [cond_pos (au (by rw [iY, iY]; decide)), cond_pos (au (by rw [List.length_append, iY, iY]; unfold maxStr; omega)), e5];rfl)
 have e0 : fO.l0 .lim (false, l, (l.length : Int), 0, ([] : List Int), ()) = _ := e;rw [e0];unfold sN sK;rw [if_neg h16];cases hq : (List.range l.length).find? (fun k : Nat => !decide (fE (rd f0 l (k : Int)) = 0)) with
 | some k =>
  have hk := List.find?_some hq;simp only [Bool.not_eq_true', decide_eq_false_iff_not] at hk;simp only;have : fE (rd f0 l (k : Int)) = 13 \/ fE (rd f0 l (k : Int)) = 10 := by
   unfold fE at hk ⊢
   split
   ·exact .inl rfl
   ·split
    ·exact .inr rfl
    ·rename_i q1 q2; rw [if_neg q1, if_neg q2] at hk; exact absurd rfl hk
  rw [if_neg hk];rcases this with q | q
  ·rw [if_pos q, q]; rfl
  ·rw [if_neg (by omega), q]; rfl
 | none =>
  simp only [List.take_length];rw [fO.q0];simp only [fO.b0, aA (show ¬ (l.length : Int) < (l.length : Int) by omega), cond_false, Option.bind_some];by_cases hl : (aS l).length > 1232
  ·rw [au hl, if_pos hl]; rfl
  ·rw [aA hl, if_neg hl, Qu l.length (Nat.le_refl _) (by rw [List.take_length]; omega), List.take_length]; rfl
end Go.AM
end
section
namespace Go.AM
abbrev PK := Int × Int × Int × Int × Int × Int × Int × Int × Int × Int × Int × Int × Int × List FF
abbrev p0 : PK := ((0 : Int), (0, (0, (0, (0, (0, (0, (0, (0, (0, (0, (0, (0, ([] : List FF))))))))))))))
abbrev PK.fs (p : PK) : List FF := p.2.2.2.2.2.2.2.2.2.2.2.2.2
abbrev PK.cut (p : PK) (l : List FF) : PK := (p.1, p.2.1, p.2.2.1, p.2.2.2.1, p.2.2.2.2.1, p.2.2.2.2.2.1, p.2.2.2.2.2.2.1, p.2.2.2.2.2.2.2.1, p.2.2.2.2.2.2.2.2.1, p.2.2.2.2.2.2.2.2.2.1, p.2.2.2.2.2.2.2.2.2.2.1, p.2.2.2.2.2.2.2.2.2.2.2.1, p.2.2.2.2.2.2.2.2.2.2.2.2.1, l)
def OI (n low high : Int) : Bool := decide (low <= n) && decide (n <= high)
def RN (p : PK) : Bool := OI p.1 0 3 && OI p.2.1 0 7 && OI p.2.2.1 0 7 && OI p.2.2.2.1 0 255 && OI p.2.2.2.2.1 (-128) 127 && OI p.2.2.2.2.2.1 (-128) 127
def uD (n : Int) (k : Nat) : Int := IntKind.u8.wrap (iZ .u64 n (k : Int))
def SQ (n : Int) : List Int := [uD n 24, uD n 16, uD n 8, uD n 0]
def by8 (n : Int) : List Int := [uD n 56, uD n 48, uD n 40, uD n 32, uD n 24, uD n 16, uD n 8, uD n 0]
def V7 (a b c : Int) : Int := IntKind.u8.wrap (oL .i64 (oL .i64 (fB .i64 a 6) (fB .i64 b 3)) c)
def J8 (p : PK) : List Int := [V7 p.1 p.2.1 p.2.2.1, IntKind.u8.wrap p.2.2.2.1, IntKind.u8.wrap p.2.2.2.2.1, IntKind.u8.wrap p.2.2.2.2.2.1] ++
 (SQ (IntKind.u64.wrap p.2.2.2.2.2.2.1) ++ (SQ (IntKind.u64.wrap p.2.2.2.2.2.2.2.1) ++ (SQ (IntKind.u64.wrap p.2.2.2.2.2.2.2.2.1) ++ (by8 p.2.2.2.2.2.2.2.2.2.1 ++ (by8 p.2.2.2.2.2.2.2.2.2.2.1 ++ (by8 p.2.2.2.2.2.2.2.2.2.2.2.1 ++ by8 p.2.2.2.2.2.2.2.2.2.2.2.2.1))))))
theorem DT (p : PK) : (J8 p).length = 48 := rfl
def JL (p : PK) : Int := if RN p = true then sK p.fs else 13
def Gw (p : PK) : List Int := if JL p = 0 then J8 p ++ aS p.fs else []
def jh (m : List Int) (bp : Nat) (g : Nat -> Int) : Nat -> List Int
 | 0 => m
 | i + 1 => (jh m bp g i).set (bp + i) (g i)
theorem lZ (m : List Int) (bp : Nat) (g : Nat -> Int) : ∀ i, (jh m bp g i).length = m.length
 | 0 => rfl
 | i + 1 => by rw [jh, List.length_set, lZ m bp g i]
theorem w_l0 {bp bq : Nat} (hb : bp <= 48) (hq : bq <= 8) (hq0 : 1 <= bq) (n : Int) (f : List Int) (t : List Int) (t3 : Int) (m : List Int) (m1 m2 m3 m4 m5 m6 m7 m8 m9 m10 m11 m12 m13 : Int) (m14 : List FF) :
  aQ.l0 .lim ((bp : Int), (bq : Int), n, (bq : Int), 0, f, t, t3, m, m1, m2, m3, m4, m5, m6, m7, m8, m9, m10, m11, m12, m13, m14, ()) =
   some (f, t, t3, m1, m2, m3, m4, m5, m6, m7, m8, m9, m10, m11, m12, m13, m14, jh m bp (fun i => uD n (8 * (bq - 1 - i))) bq, ()) := by
 have e := dB (f := aQ.l0 .lim) (fun i => ((bp : Int), (bq : Int), n, (bq : Int), (i : Int), f, t, t3, jh m bp (fun i => uD n (8 * (bq - 1 - i))) i, m1, m2, m3, m4, m5, m6, m7, m8, m9, m10, m11, m12, m13, m14, ())) (n := bq) (fun i hi => by
  rw [aQ.q0];have w1 : IntKind.i64.wrap (8 * (IntKind.i64.wrap ((IntKind.i64.wrap ((bq : Int) - 1)) - (i : Int)))) = ((8 * (bq - 1 - i) : Nat) : Int) := by rw [wrap64 (n := (bq : Int) - 1) (by omega) (by omega), wrap64 (n := (bq : Int) - 1 - (i : Int)) (by omega) (by omega), wrap64 (by omega) (by omega)]; omega
  have w2 : ((bp : Int) + (i : Int)).toNat = bp + i := by omega
  simp only [aQ.b0, au (show (i : Int) < (bq : Int) by omega), aF (show bq < 9223372036854775808 by omega), w1, au (show (0 : Int) <= ((8 * (bq - 1 - i) : Nat) : Int) by omega), aH (show (0 : Int) <= (i : Int) by omega) (show (i : Int) < (bq : Int) by omega), cond_true, mM i (by omega), w2];rfl)
 have e0 : aQ.l0 .lim ((bp : Int), (bq : Int), n, (bq : Int), 0, f, t, t3, m, m1, m2, m3, m4, m5, m6, m7, m8, m9, m10, m11, m12, m13, m14, ()) = _ := e;rw [e0, aQ.q0];simp only [aQ.b0, aA (show ¬ (bq : Int) < (bq : Int) by omega), cond_false]
theorem w_l2 {bp bq : Nat} (hb : bp <= 48) (hq : bq <= 8) (hq0 : 1 <= bq) (n : Int) (f : List Int) (t : List Int) (t3 : Int) (m : List Int) :
  aQ.l2 .lim ((bp : Int), (bq : Int), n, (bq : Int), 0, f, t, t3, m, ()) = some (f, t, t3, jh m bp (fun i => uD n (8 * (bq - 1 - i))) bq, ()) := by
 have e := dB (f := aQ.l2 .lim) (fun i => ((bp : Int), (bq : Int), n, (bq : Int), (i : Int), f, t, t3, jh m bp (fun i => uD n (8 * (bq - 1 - i))) i, ())) (n := bq) (fun i hi => by
  rw [aQ.q2];have w1 : IntKind.i64.wrap (8 * (IntKind.i64.wrap ((IntKind.i64.wrap ((bq : Int) - 1)) - (i : Int)))) = ((8 * (bq - 1 - i) : Nat) : Int) := by rw [wrap64 (n := (bq : Int) - 1) (by omega) (by omega), wrap64 (n := (bq : Int) - 1 - (i : Int)) (by omega) (by omega), wrap64 (by omega) (by omega)]; omega
  have w2 : ((bp : Int) + (i : Int)).toNat = bp + i := by omega
  simp only [aQ.b2, au (show (i : Int) < (bq : Int) by omega), aF (show bq < 9223372036854775808 by omega), w1, au (show (0 : Int) <= ((8 * (bq - 1 - i) : Nat) : Int) by omega), aH (show (0 : Int) <= (i : Int) by omega) (show (i : Int) < (bq : Int) by omega), cond_true, mM i (by omega), w2];rfl)
 have e0 : aQ.l2 .lim ((bp : Int), (bq : Int), n, (bq : Int), 0, f, t, t3, m, ()) = _ := e;rw [e0, aQ.q2];simp only [aQ.b2, aA (show ¬ (bq : Int) < (bq : Int) by omega), cond_false]
theorem Xw (n low high : Int) : kP.run .lim (n, low, high, ()) = some (OI n low high) := rfl
theorem w_l1 (f a : List Int) (x0 x1 x2 : Int) (ha : a = [x0, x1, x2]) (m : List Int) (m1 m2 m3 m4 m5 m6 m7 m8 m9 m10 m11 m12 m13 : Int) (m14 : List FF) :
  aQ.l1 .lim (f, a, 0, m1, m2, m3, m4, m5, m6, m7, m8, m9, m10, m11, m12, m13, m14, m, ()) =
   some (f, m1, m2, m3, m4, m5, m6, m7, m8, m9, m10, m11, m12, m13, m14,
    jh (jh (jh m 4 (fun i => uD (IntKind.u64.wrap x0) (8 * (4 - 1 - i))) 4) 8 (fun i => uD (IntKind.u64.wrap x1) (8 * (4 - 1 - i))) 4) 12 (fun i => uD (IntKind.u64.wrap x2) (8 * (4 - 1 - i))) 4, ()) := by
 subst ha;have step : ∀ (k : Nat) (hk : k < 3) (x : Int) (_ : rd 0 [x0, x1, x2] (k : Int) = x) (q : List Int), aQ.l1 .lim (f, [x0, x1, x2], (k : Int), m1, m2, m3, m4, m5, m6, m7, m8, m9, m10, m11, m12, m13, m14, q, ()) =
   aQ.l1 .lim (f, [x0, x1, x2], ((k + 1 : Nat) : Int), m1, m2, m3, m4, m5, m6, m7, m8, m9, m10, m11, m12, m13, m14, jh q (4 + 4 * k) (fun i => uD (IntKind.u64.wrap x) (8 * (4 - 1 - i))) 4, ()) := by
  intro k hk x hx q;rw [aQ.q1];have w1 : IntKind.i64.wrap (4 + IntKind.i64.wrap (4 * (k : Int))) = ((4 + 4 * k : Nat) : Int) := by rw [wrap64 (n := 4 * (k : Int)) (by omega) (by omega), wrap64 (by omega) (by omega)]; omega
  have w2 : IntKind.i64.wrap (8 + IntKind.i64.wrap (4 * (k : Int))) = ((8 + 4 * k : Nat) : Int) := by rw [wrap64 (n := 4 * (k : Int)) (by omega) (by omega), wrap64 (by omega) (by omega)]; omega
  have w3 : ((8 + 4 * k : Nat) : Int) - ((4 + 4 * k : Nat) : Int) = ((4 : Nat) : Int) := by omega
  have h := w_l0 (bp := 4 + 4 * k) (bq := 4) (by omega) (by omega) (by omega) (IntKind.u64.wrap x) f [x0, x1, x2] (k : Int) q m1 m2 m3 m4 m5 m6 m7 m8 m9 m10 m11 m12 m13 m14;simp only [aQ.b1, au (show (k : Int) < 3 by omega), aH (show (0 : Int) <= (k : Int) by omega) (show (k : Int) < 3 by omega), w1, w2, w3, aP (show (0 : Int) <= ((4 + 4 * k : Nat) : Int) by omega) (show ((4 + 4 * k : Nat) : Int) <= ((8 + 4 * k : Nat) : Int) by omega) (show ((8 + 4 * k : Nat) : Int) <= 48 by omega), aF (show 4 < 9223372036854775808 by decide), cond_true, hx, h, Option.bind_some, mM k (by omega)]
 have s0 := step 0 (by decide) x0 rfl m;have s1 := step 1 (by decide) x1 rfl (jh m 4 (fun i => uD (IntKind.u64.wrap x0) (8 * (4 - 1 - i))) 4);have s2 := step 2 (by decide) x2 rfl (jh (jh m 4 (fun i => uD (IntKind.u64.wrap x0) (8 * (4 - 1 - i))) 4) 8 (fun i => uD (IntKind.u64.wrap x1) (8 * (4 - 1 - i))) 4);refine (s0.trans (s1.trans s2)).trans ?_;rw [aQ.q1];simp only [aQ.b1, aA (show ¬ ((2 + 1 : Nat) : Int) < 3 by decide), cond_false]
theorem w_l3 (f a : List Int) (x0 x1 x2 x3 : Int) (ha : a = [x0, x1, x2, x3]) (m : List Int) :
  aQ.l3 .lim (f, a, 0, m, ()) =
   some (f, jh (jh (jh (jh m 16 (fun i => uD x0 (8 * (8 - 1 - i))) 8) 24 (fun i => uD x1 (8 * (8 - 1 - i))) 8) 32 (fun i => uD x2 (8 * (8 - 1 - i))) 8) 40 (fun i => uD x3 (8 * (8 - 1 - i))) 8, ()) := by
 subst ha;have step : ∀ (k : Nat) (hk : k < 4) (x : Int) (_ : rd 0 [x0, x1, x2, x3] (k : Int) = x) (q : List Int), aQ.l3 .lim (f, [x0, x1, x2, x3], (k : Int), q, ()) =
   aQ.l3 .lim (f, [x0, x1, x2, x3], ((k + 1 : Nat) : Int), jh q (16 + 8 * k) (fun i => uD x (8 * (8 - 1 - i))) 8, ()) := by
  intro k hk x hx q;rw [aQ.q3];have w1 : IntKind.i64.wrap (16 + IntKind.i64.wrap (8 * (k : Int))) = ((16 + 8 * k : Nat) : Int) := by rw [wrap64 (n := 8 * (k : Int)) (by omega) (by omega), wrap64 (by omega) (by omega)]; omega
  have w2 : IntKind.i64.wrap (24 + IntKind.i64.wrap (8 * (k : Int))) = ((24 + 8 * k : Nat) : Int) := by rw [wrap64 (n := 8 * (k : Int)) (by omega) (by omega), wrap64 (by omega) (by omega)]; omega
  have w3 : ((24 + 8 * k : Nat) : Int) - ((16 + 8 * k : Nat) : Int) = ((8 : Nat) : Int) := by omega
  have h := w_l2 (bp := 16 + 8 * k) (bq := 8) (by omega) (by omega) (by omega) x f [x0, x1, x2, x3] (k : Int) q;simp only [aQ.b3, au (show (k : Int) < 4 by omega), aH (show (0 : Int) <= (k : Int) by omega) (show (k : Int) < 4 by omega), w1, w2, w3, aP (show (0 : Int) <= ((16 + 8 * k : Nat) : Int) by omega) (show ((16 + 8 * k : Nat) : Int) <= ((24 + 8 * k : Nat) : Int) by omega) (show ((24 + 8 * k : Nat) : Int) <= 48 by omega), aF (show 8 < 9223372036854775808 by decide), cond_true, hx, h, Option.bind_some, mM k (by omega)]
 have s0 := step 0 (by decide) x0 rfl m;have s1 := step 1 (by decide) x1 rfl (jh m 16 (fun i => uD x0 (8 * (8 - 1 - i))) 8);have s2 := step 2 (by decide) x2 rfl (jh (jh m 16 (fun i => uD x0 (8 * (8 - 1 - i))) 8) 24 (fun i => uD x1 (8 * (8 - 1 - i))) 8);have s3 := step 3 (by decide) x3 rfl (jh (jh (jh m 16 (fun i => uD x0 (8 * (8 - 1 - i))) 8) 24 (fun i => uD x1 (8 * (8 - 1 - i))) 8) 32 (fun i => uD x2 (8 * (8 - 1 - i))) 8);refine (s0.trans (s1.trans (s2.trans s3))).trans ?_;rw [aQ.q3];simp only [aQ.b3, aA (show ¬ ((3 + 1 : Nat) : Int) < 4 by decide), cond_false]
theorem Az {l : List FF} : (sN l).length <= 1232 := by
 unfold sN;split
 ·rename_i h;unfold sK at h;split at h
  ·cases h
  ·split at h
   ·rename_i k hq;have hk := List.find?_some hq;simp only [Bool.not_eq_true', decide_eq_false_iff_not] at hk;exact absurd h hk
   ·split at h
    ·cases h
    ·omega
 ·simp
theorem UH (x0 x1 x2 x3 : Int) (a b c d e f g : Nat -> Int) :
  ((jh (jh (jh (jh (jh (jh (jh (((((List.replicate 48 (0 : Int)).set 0 x0).set 1 x1).set 2 x2).set 3 x3) 4 a 4) 8 b 4) 12 c 4) 16 d 8) 24 e 8) 32 f 8) 40 g 8).drop 0).take 48 =
   [x0, x1, x2, x3] ++ ([a 0, a 1, a 2, a 3] ++ ([b 0, b 1, b 2, b 3] ++ ([c 0, c 1, c 2, c 3] ++ ([d 0, d 1, d 2, d 3, d 4, d 5, d 6, d 7] ++ ([e 0, e 1, e 2, e 3, e 4, e 5, e 6, e 7] ++ ([f 0, f 1, f 2, f 3, f 4, f 5, f 6, f 7] ++ [g 0, g 1, g 2, g 3, g 4, g 5, g 6, g 7])))))) := by kernel_rfl
theorem FK {p : PK} (hl : FL p.fs) : aQ.run .lim (p, ()) = some (Gw p, JL p, ()) := by
 obtain ⟨a, b, c, d, e, g, r1, r2, r3, q1, q2, q3, q4, l⟩ := p;simp only [aQ.run, Xw, Option.bind_some];unfold Gw JL RN;generalize OI a 0 3 = c1;generalize OI b 0 7 = c2;generalize OI c 0 7 = c3;generalize OI d 0 255 = c4;generalize OI e (-128) 127 = c5;generalize OI g (-128) 127 = c6;cases c1
 ·rfl
 cases c2
 ·rfl
 cases c3
 ·rfl
 cases c4
 ·rfl
 cases c5
 ·rfl
 cases c6
 ·rfl
 simp only [Bool.not_true, Bool.not_false, cond_true, cond_false, Option.bind_some, Bool.or_self, Bool.and_self, if_true];rw [Iq hl];simp only [Option.bind_some];have hfl : (sN (PK.fs (a, b, c, d, e, g, r1, r2, r3, q1, q2, q3, q4, l))).length <= 1232 := Az;show (bif !decide (sK l = 0) then some (([] : List Int), sK l, ()) else _) = some (if sK l = 0 then _ else [], sK l, ());by_cases h0 : sK l = 0
 ·rw [au h0, if_pos h0];simp only [Bool.not_true, cond_false];rw [w_l1 _ ((((List.replicate 3 (0 : Int)).set 0 r1).set 1 r2).set 2 r3) r1 r2 r3 rfl];simp only [Option.bind_some];rw [w_l3 _ (((((List.replicate 4 (0 : Int)).set 0 q1).set 1 q2).set 2 q3).set 3 q4) q1 q2 q3 q4 rfl];simp only [Option.bind_some];have hf : sN l = aS l := by unfold sN; rw [if_pos h0]
  rw [cond_pos (au (show _ <= maxStr by rw [List.length_take, List.drop_zero, lZ, lZ, lZ, lZ, lZ, lZ, lZ]; simp only [List.length_set, List.length_replicate]; unfold maxStr; omega)), h0, UH];have hf : sN (PK.fs (a, b, c, d, e, g, r1, r2, r3, q1, q2, q3, q4, l)) = aS (PK.fs (a, b, c, d, e, g, r1, r2, r3, q1, q2, q3, q4, l)) := hf;rw [hf];rfl
 ·rw [aA h0, if_neg h0]; rfl
end Go.AM
end
section
namespace Go.AM
def sg (c : Int) : Int := if c > 127 then c - 256 else c
def V8 (s : List Int) (fs : List FF) : PK := (rd 0 s 0 / 64, rd 0 s 0 / 8 % 8, rd 0 s 0 % 8, rd 0 s 1, sg (rd 0 s 2), sg (rd 0 s 3), eG ((s.take 8).drop 4), eG ((s.take 12).drop 8), eG ((s.take 16).drop 12),
 eG ((s.take 24).drop 16), eG ((s.take 32).drop 24), eG ((s.take 40).drop 32), eG ((s.take 48).drop 40), fs)
def JM (s : List Int) : Int := if s.length < 48 then 11 else if s.length > 1280 then 12 else (vI (s.drop 48).length (s.drop 48) []).2
def jF (s : List Int) : PK := if JM s = 0 then V8 s (vI (s.drop 48).length (s.drop 48) []).1 else p0
theorem by_a {c : Int} (h : B8 c) : IntKind.i64.wrap (iZ .u8 c 6) = c / 64 := iM (p := fun c => IntKind.i64.wrap (iZ .u8 c 6) = c / 64) (by decide +kernel) h
theorem by_b {c : Int} (h : B8 c) : IntKind.i64.wrap (gB .u8 (iZ .u8 c 3) 7) = c / 8 % 8 := iM (p := fun c => IntKind.i64.wrap (gB .u8 (iZ .u8 c 3) 7) = c / 8 % 8) (by decide +kernel) h
theorem by_c {c : Int} (h : B8 c) : IntKind.i64.wrap (gB .u8 c 7) = c % 8 := iM (p := fun c => IntKind.i64.wrap (gB .u8 c 7) = c % 8) (by decide +kernel) h
theorem Zx {c : Int} (h : B8 c) : IntKind.i64.wrap c = c := iM (p := fun c => IntKind.i64.wrap c = c) (by decide +kernel) h
theorem by_e {c : Int} (h : B8 c) : IntKind.i64.wrap (IntKind.i8.wrap c) = sg c := iM (p := fun c => IntKind.i64.wrap (IntKind.i8.wrap c) = sg c) (by decide +kernel) h
theorem by_f {c : Int} (h : B8 c) : gq.run .lim (c, ()) = some (sg c) := by
 have e1 := Zx h;unfold sg;simp only [gq.run, e1];by_cases q : c > 127
 ·rw [au q, if_pos q, wrap64 (by omega) (by omega)]; rfl
 ·rw [aA q, if_neg q]; rfl
theorem Zy {t : List Int} (hb : Bs t) (hl : t.length = 4) : IntKind.u32.wrap (eG t) = eG t /\ SQ (IntKind.u64.wrap (eG t)) = t := by
 have hv := DR hb 4 (by omega);rw [List.take_of_length_le (by omega)] at hv;refine ⟨by rw [Xq]; omega, ?_⟩;rw [show IntKind.u64.wrap (eG t) = eG t by rw [Aw]; omega]
 match t, hl with
 | [a, b, c, d], _ =>
  have h1 := hb a (by simp); have h2 := hb b (by simp); have h3 := hb c (by simp); have h4 := hb d (by simp);have e : eG [a, b, c, d] = ((a * 256 + b) * 256 + c) * 256 + d := by simp [eG]
  have s1 := fZ (eG [a, b, c, d]) 0 24 .u64 (by decide);have s2 := fZ (eG [a, b, c, d]) 0 16 .u64 (by decide);have s3 := fZ (eG [a, b, c, d]) 0 8 .u64 (by decide);have s4 := fZ (eG [a, b, c, d]) 0 0 .u64 (by decide);unfold SQ uD;simp only [s1, s2, s3, s4];simp only [jY, e];congr 1
  ·omega
  congr 1
  ·omega
  congr 1
  ·omega
  congr 1;omega
theorem val8 {t : List Int} (hb : Bs t) (hl : t.length = 8) : by8 (eG t) = t := by
 match t, hl with
 | [a, b, c, d, a', b', c', d'], _ =>
  have h1 := hb a (by simp); have h2 := hb b (by simp); have h3 := hb c (by simp); have h4 := hb d (by simp);have h5 := hb a' (by simp); have h6 := hb b' (by simp); have h7 := hb c' (by simp); have h8 := hb d' (by simp);have e : eG [a, b, c, d, a', b', c', d'] = ((((((a * 256 + b) * 256 + c) * 256 + d) * 256 + a') * 256 + b') * 256 + c') * 256 + d' := by simp [eG]
  have s1 := fZ (eG [a, b, c, d, a', b', c', d']) 0 56 .u64 (by decide);have s2 := fZ (eG [a, b, c, d, a', b', c', d']) 0 48 .u64 (by decide);have s3 := fZ (eG [a, b, c, d, a', b', c', d']) 0 40 .u64 (by decide);have s4 := fZ (eG [a, b, c, d, a', b', c', d']) 0 32 .u64 (by decide);have s5 := fZ (eG [a, b, c, d, a', b', c', d']) 0 24 .u64 (by decide);have s6 := fZ (eG [a, b, c, d, a', b', c', d']) 0 16 .u64 (by decide);have s7 := fZ (eG [a, b, c, d, a', b', c', d']) 0 8 .u64 (by decide);have s8 := fZ (eG [a, b, c, d, a', b', c', d']) 0 0 .u64 (by decide);unfold by8 uD;simp only [s1, s2, s3, s4, s5, s6, s7, s8];simp only [jY, e];congr 1
  ·omega
  congr 1
  ·omega
  congr 1
  ·omega
  congr 1
  ·omega
  congr 1
  ·omega
  congr 1
  ·omega
  congr 1
  ·omega
  congr 1;omega
theorem uF {s : List Int} {a b : Nat} (h : b <= s.length) : ((s.take b).drop a).length = b - a := by rw [List.length_drop, List.length_take, Nat.min_eq_left h]
theorem Xx {s : List Int} (hs : Bs s) (hl : s.length < 9223372036854775808) : su.run .lim (s, ()) = some (jF s, JM s, ()) := by
 simp only [su.run, aF hl, cond_true];unfold jF JM;by_cases h1 : s.length < 48
 ·rw [au (show (s.length : Int) < 48 by omega), if_pos h1]; rfl
 rw [aA (show ¬ (s.length : Int) < 48 by omega), if_neg h1];by_cases h2 : s.length > 1280
 ·rw [au (show (s.length : Int) > 1280 by omega), if_pos h2]; rfl
 rw [aA (show ¬ (s.length : Int) > 1280 by omega), if_neg h2];have hc : cut s 48 (s.length : Int) = s.drop 48 := pJ (a := 48) rfl;simp only [cond_false, aP (show (0 : Int) <= 48 by omega) (show (48 : Int) <= (s.length : Int) by omega) (Int.le_refl _), cond_true, hc, Yp (hs.drop 48) (show (s.drop 48).length < 9223372036854775808 by rw [List.length_drop]; omega), Option.bind_some];generalize vI (s.drop 48).length (s.drop 48) [] = r;obtain ⟨fs, e⟩ := r;simp only;by_cases h0 : e = 0
 ·rw [au h0, if_pos h0];have rb : ∀ k : Nat, k < 48 -> B8 (rd 0 s (k : Int)) := fun k hk => hs _ (fJ (by omega) (by omega))
  have r0 := rb 0 (by decide); have r1 := rb 1 (by decide); have r2 := rb 2 (by decide); have r3 := rb 3 (by decide);have v : ∀ a b : Nat, a <= b -> b <= 48 -> b - a <= 8 -> dI.run .lim ((s.take b).drop a, ()) = some (eG ((s.take b).drop a)) := fun a b _ hb hq => FI ((hs.take b).drop a) (by rw [uF (by omega)]; omega)
  have u : ∀ a b : Nat, b = a + 4 -> b <= 48 -> IntKind.u32.wrap (eG ((s.take b).drop a)) = eG ((s.take b).drop a) := fun a b h hb => (Zy ((hs.take b).drop a) (by rw [uF (by omega)]; omega)).1
  have c1 : cut s 4 8 = (s.take 8).drop 4 := jB rfl rfl;have c2 : cut s 8 12 = (s.take 12).drop 8 := jB rfl rfl;have c3 : cut s 12 16 = (s.take 16).drop 12 := jB rfl rfl;have c4 : cut s 16 24 = (s.take 24).drop 16 := jB rfl rfl;have c5 : cut s 24 32 = (s.take 32).drop 24 := jB rfl rfl;have c6 : cut s 32 40 = (s.take 40).drop 32 := jB rfl rfl;have c7 : cut s 40 48 = (s.take 48).drop 40 := jB rfl rfl;have k : ∀ a b : Int, 0 <= a -> a <= b -> b <= 48 -> dJ a b (s.length : Int) = true := fun a b x y z => aP x y (by omega)
  have i : ∀ a : Int, 0 <= a -> a < 48 -> inB a (s.length : Int) = true := fun a x y => aH x (by omega)
  simp only [Bool.not_true, cond_false, i 0 (by decide) (by decide), i 1 (by decide) (by decide), i 2 (by decide) (by decide), i 3 (by decide) (by decide), cond_true, k 4 8 (by decide) (by decide) (by decide), k 8 12 (by decide) (by decide) (by decide), k 12 16 (by decide) (by decide) (by decide), k 16 24 (by decide) (by decide) (by decide), k 24 32 (by decide) (by decide) (by decide), k 32 40 (by decide) (by decide) (by decide), k 40 48 (by decide) (by decide) (by decide),
   c1, c2, c3, c4, c5, c6, c7, v 4 8 (by decide) (by decide) (by decide), v 8 12 (by decide) (by decide) (by decide), v 12 16 (by decide) (by decide) (by decide), v 16 24 (by decide) (by decide) (by decide), v 24 32 (by decide) (by decide) (by decide), v 32 40 (by decide) (by decide) (by decide), v 40 48 (by decide) (by decide) (by decide), Option.bind_some, u 4 8 rfl (by decide), u 8 12 rfl (by decide), u 12 16 rfl (by decide)]
  have q0 : B8 (rd 0 s 0) := r0;have q1 : B8 (rd 0 s 1) := r1;have q2 : B8 (rd 0 s 2) := r2;have q3 : B8 (rd 0 s 3) := r3;simp only [by_a q0, by_b q0, by_c q0, Zx q1, by_e q2, by_e q3, h0];rfl
 ·rw [aA h0, if_neg h0]; rfl
theorem UJ {s : List Int} (hs : Bs s) (hl : s.length < 9223372036854775808) : jr.run .lim (s, ()) = some (jF s, JM s, ()) := by
 simp only [jr.run, aF hl, cond_true];unfold jF JM;by_cases h1 : s.length < 48
 ·rw [au (show (s.length : Int) < 48 by omega), if_pos h1]; rfl
 rw [aA (show ¬ (s.length : Int) < 48 by omega), if_neg h1];by_cases h2 : s.length > 1280
 ·rw [au (show (s.length : Int) > 1280 by omega), if_pos h2]; rfl
 rw [aA (show ¬ (s.length : Int) > 1280 by omega), if_neg h2];have hc : cut s 48 (s.length : Int) = s.drop 48 := pJ (a := 48) rfl;simp only [cond_false, aP (show (0 : Int) <= 48 by omega) (show (48 : Int) <= (s.length : Int) by omega) (Int.le_refl _), cond_true, hc, UG (hs.drop 48) (show (s.drop 48).length < 9223372036854775808 by rw [List.length_drop]; omega), Option.bind_some];generalize vI (s.drop 48).length (s.drop 48) [] = r;obtain ⟨fs, e⟩ := r;simp only;by_cases h0 : e = 0
 ·rw [au h0, if_pos h0];have rb : ∀ k : Nat, k < 48 -> B8 (rd 0 s (k : Int)) := fun k hk => hs _ (fJ (by omega) (by omega))
  have q0 : B8 (rd 0 s 0) := rb 0 (by decide);have q1 : B8 (rd 0 s 1) := rb 1 (by decide);have q2 : B8 (rd 0 s 2) := rb 2 (by decide);have q3 : B8 (rd 0 s 3) := rb 3 (by decide);have v : ∀ a b : Nat, a <= b -> b <= 48 -> b - a <= 8 -> aK.run .lim ((s.take b).drop a, ()) = some (eG ((s.take b).drop a)) := fun a b _ hb hq => BL ((hs.take b).drop a) (by rw [uF (by omega)]; omega)
  have u : ∀ a b : Nat, b = a + 4 -> b <= 48 -> IntKind.u32.wrap (eG ((s.take b).drop a)) = eG ((s.take b).drop a) := fun a b h hb => (Zy ((hs.take b).drop a) (by rw [uF (by omega)]; omega)).1
  have c1 : cut s 4 8 = (s.take 8).drop 4 := jB rfl rfl;have c2 : cut s 8 12 = (s.take 12).drop 8 := jB rfl rfl;have c3 : cut s 12 16 = (s.take 16).drop 12 := jB rfl rfl;have c4 : cut s 16 24 = (s.take 24).drop 16 := jB rfl rfl;have c5 : cut s 24 32 = (s.take 32).drop 24 := jB rfl rfl;have c6 : cut s 32 40 = (s.take 40).drop 32 := jB rfl rfl;have c7 : cut s 40 48 = (s.take 48).drop 40 := jB rfl rfl;have k : ∀ a b : Int, 0 <= a -> a <= b -> b <= 48 -> dJ a b (s.length : Int) = true := fun a b x y z => aP x y (by omega)
  have i : ∀ a : Int, 0 <= a -> a < 48 -> inB a (s.length : Int) = true := fun a x y => aH x (by omega)
  simp only [Bool.not_true, cond_false, i 0 (by decide) (by decide), i 1 (by decide) (by decide), i 2 (by decide) (by decide), i 3 (by decide) (by decide), cond_true, k 4 8 (by decide) (by decide) (by decide), k 8 12 (by decide) (by decide) (by decide), k 12 16 (by decide) (by decide) (by decide), k 16 24 (by decide) (by decide) (by decide), k 24 32 (by decide) (by decide) (by decide), k 32 40 (by decide) (by decide) (by decide), k 40 48 (by decide) (by decide) (by decide),
   c1, c2, c3, c4, c5, c6, c7, v 4 8 (by decide) (by decide) (by decide), v 8 12 (by decide) (by decide) (by decide), v 12 16 (by decide) (by decide) (by decide), v 16 24 (by decide) (by decide) (by decide), v 24 32 (by decide) (by decide) (by decide), v 32 40 (by decide) (by decide) (by decide), v 40 48 (by decide) (by decide) (by decide), Option.bind_some, u 4 8 rfl (by decide), u 8 12 rfl (by decide), u 12 16 rfl (by decide), by_f q2, by_f q3]
  simp only [by_a q0, by_b q0, by_c q0, Zx q1, h0];rfl
 ·rw [aA h0, if_neg h0]; rfl
theorem by_g {c : Int} (h : B8 c) : V7 (c / 64) (c / 8 % 8) (c % 8) = c := iM (p := fun c => V7 (c / 64) (c / 8 % 8) (c % 8) = c) (by decide +kernel) h
theorem by_h {c : Int} (h : B8 c) : IntKind.u8.wrap (sg c) = c := iM (p := fun c => IntKind.u8.wrap (sg c) = c) (by decide +kernel) h
theorem glue {s : List Int} {a b c : Nat} (h1 : a <= b) (h2 : b <= c) : (s.take b).drop a ++ (s.take c).drop b = (s.take c).drop a := by
 have e : s.take b = (s.take c).take b := by rw [List.take_take, Nat.min_eq_left h2]
 have e2 : (s.take c).drop b = ((s.take c).drop a).drop (b - a) := by rw [List.drop_drop]; congr 1; omega
 have e3 : ((s.take c).take b).drop a = ((s.take c).drop a).take (b - a) := by rw [List.drop_take]
 rw [e, e2, e3, List.take_append_drop]
theorem Xy {s : List Int} (hs : Bs s) (hl : 48 <= s.length) (fs : List FF) : J8 (V8 s fs) = s.take 48 /\ RN (V8 s fs) = true := by
 have rb : ∀ k : Nat, k < 48 -> B8 (rd 0 s (k : Int)) := fun k hk => hs _ (fJ (by omega) (by omega))
 have q0 : B8 (rd 0 s 0) := rb 0 (by decide);have q1 : B8 (rd 0 s 1) := rb 1 (by decide);have q2 : B8 (rd 0 s 2) := rb 2 (by decide);have q3 : B8 (rd 0 s 3) := rb 3 (by decide);constructor
 ·have u : ∀ a b : Nat, b = a + 4 -> b <= 48 -> SQ (IntKind.u64.wrap (eG ((s.take b).drop a))) = (s.take b).drop a := fun a b h hb => (Zy ((hs.take b).drop a) (by rw [uF (by omega)]; omega)).2
  have v : ∀ a b : Nat, b = a + 8 -> b <= 48 -> by8 (eG ((s.take b).drop a)) = (s.take b).drop a := fun a b h hb => val8 ((hs.take b).drop a) (by rw [uF (by omega)]; omega)
  have h4 := list4 (t := s.take 4) (by rw [List.length_take]; omega);have t0 : rd 0 (s.take 4) 0 = rd 0 s 0 := pG (k := 0) (n := 4) (by decide);have t1 : rd 0 (s.take 4) 1 = rd 0 s 1 := pG (k := 1) (n := 4) (by decide);have t2 : rd 0 (s.take 4) 2 = rd 0 s 2 := pG (k := 2) (n := 4) (by decide);have t3 : rd 0 (s.take 4) 3 = rd 0 s 3 := pG (k := 3) (n := 4) (by decide);rw [t0, t1, t2, t3] at h4;unfold J8 V8;simp only [by_g q0, pU q1, by_h q2, by_h q3, u 4 8 rfl (by decide), u 8 12 rfl (by decide), u 12 16 rfl (by decide), v 16 24 rfl (by decide), v 24 32 rfl (by decide), v 32 40 rfl (by decide), v 40 48 rfl (by decide)];rw [<- h4, glue (by decide) (by decide), glue (by decide) (by decide), glue (by decide) (by decide), glue (by decide) (by decide), glue (by decide) (by decide), glue (by decide) (by decide)];have := glue (s := s) (a := 0) (b := 4) (c := 48) (by decide) (by decide);simpa using this
 ·unfold RN V8 OI sg;simp only [Bool.and_eq_true, decide_eq_true_eq];refine ⟨⟨⟨⟨⟨?_, ?_⟩, ?_⟩, ?_⟩, ?_⟩, ?_⟩
  ·omega
  ·omega
  ·omega
  ·omega
  ·split <;> omega
  ·split <;> omega
structure Was (s : List Int) : Prop where
 l0 : 48 <= s.length
 l1 : s.length <= 1280
 eq : jF s = V8 s (jF s).fs
 st : s = s.take 48 ++ aS (jF s).fs
 ok : ∀ f ∈ (jF s).fs, SN f
 few : (jF s).fs.length <= 16
theorem was {s : List Int} (hs : Bs s) (h : JM s = 0) : Was s := by
 have h1 : 48 <= s.length := by
  unfold JM at h;split at h
  ·cases h
  ·omega
 have h2 : s.length <= 1280 := by
  unfold JM at h;rw [if_neg (by omega)] at h;split at h
  ·cases h
  ·omega
 have h3 : (vI (s.drop 48).length (s.drop 48) []).2 = 0 := by
  unfold JM at h
  rwa [if_neg (by omega), if_neg (by omega)] at h
 obtain ⟨l, k1, k2, k3, k4⟩ := Xu _ _ [] (Nat.le_refl _) (hs.drop 48) h3;have hr : jF s = V8 s l := by unfold jF; rw [if_pos h, k1]; rfl
 have hf : (jF s).fs = l := by rw [hr]; rfl
 refine ⟨h1, h2, by rw [hf, hr], by rw [hf, <- k2, List.take_append_drop], by rw [hf]; exact k3, by rw [hf]; simpa using k4 (by simp)⟩
theorem OJ {s : List Int} (hs : Bs s) (h : JM s = 0) (k : Nat) : aQ.run .lim (PK.cut (jF s) ((jF s).fs.take k), ()) = some (s.take (48 + (aS ((jF s).fs.take k)).length), 0, ()) := by
 have w := was hs h;have hle := MJ (jF s).fs k;have hsl : s.length = 48 + (aS (jF s).fs).length := by
  have := congrArg List.length w.st;rw [List.length_append, List.length_take, Nat.min_eq_left w.l0] at this;exact this
 have hok : ∀ f ∈ (jF s).fs.take k, SN f := fun f hf => w.ok f (List.mem_of_mem_take hf)
 have hfl : FL (PK.fs (PK.cut (jF s) ((jF s).fs.take k))) := by
  refine ⟨?_, fun f hf => ?_⟩
  ·show ((jF s).fs.take k).length < _;have := w.few;rw [List.length_take]; omega
  ·have := (hok f hf).l1; omega
 rw [FK hfl];have hb := Xy hs w.l0 ((jF s).fs.take k);have hc : PK.cut (jF s) ((jF s).fs.take k) = V8 s ((jF s).fs.take k) := by
  conv => lhs; rw [show PK.cut (jF s) ((jF s).fs.take k) = PK.cut (V8 s (jF s).fs) ((jF s).fs.take k) by rw [<- w.eq]]
  rfl
 have he : JL (PK.cut (jF s) ((jF s).fs.take k)) = 0 := by
  unfold JL;rw [hc, if_pos hb.2];show sK ((jF s).fs.take k) = 0;exact JK hok (by have := w.few; rw [List.length_take]; omega) (by have := w.l1; omega)
 have hs2 : Gw (PK.cut (jF s) ((jF s).fs.take k)) = s.take (48 + (aS ((jF s).fs.take k)).length) := by
  unfold Gw;rw [if_pos he, hc, hb.1];show s.take 48 ++ aS ((jF s).fs.take k) = _;have e1 : aS (jF s).fs = aS ((jF s).fs.take k) ++ aS ((jF s).fs.drop k) := by rw [<- BM, List.take_append_drop]
  have e2 : s = (s.take 48 ++ aS ((jF s).fs.take k)) ++ aS ((jF s).fs.drop k) := by rw [List.append_assoc, <- e1]; exact w.st
  have e3 : (s.take 48 ++ aS ((jF s).fs.take k)).length = 48 + (aS ((jF s).fs.take k)).length := by rw [List.length_append, List.length_take, Nat.min_eq_left w.l0]
  rw [<- e3];generalize aS ((jF s).fs.take k) = x at e2;generalize aS ((jF s).fs.drop k) = y at e2;generalize s.take 48 = z at e2;rw [e2, List.take_left]
 rw [he, hs2]
end Go.AM
end
section
namespace Go.AM
abbrev KK := List Int × List (List Int) × List Int × List Int
abbrev k0 : KK := ([], [], [], [])
theorem wk (k : Nat) (h : (k : Int) + 1 < 9223372036854775808) : IntKind.i64.wrap ((k : Int) + 1) = ((k + 1 : Nat) : Int) := by rw [wrap64 (by omega) (by omega)]; omega
theorem MK (a b : List (List Int)) (ha : a.length < 9223372036854775808) (hb : b.length < 9223372036854775808) : aV.run .lim (a, b, ()) = some (decide (a = b)) := by
 simp only [aV.run, aF ha, aF hb, cond_true];by_cases hl : a.length = b.length
 ·have e := rX (f := aV.l0 .lim) (fun k => (a, b, (a.length : Int), (k : Int), ())) a.length (fun k => !decide (rd ([] : List Int) a k = rd ([] : List Int) b k)) (some (.inl (false, ()))) (fun k hk => by
   rw [aV.q0];have w := wk k (by omega);simp (disch := omega) only [aU, aH, aP, wrap64, au, aA, dec_not, dec_and, fA, dA, cond_true, cond_false, Option.bind_some, Option.bind_none, Bool.or_true, Bool.true_or, Bool.and_true, Bool.true_and, Bool.and_false, Bool.false_and, Bool.or_false, Bool.false_or, Bool.not_true, Bool.not_false, Bool.or_self, Bool.and_self, Bool.not_not, if_true, if_false, and_self, true_and, and_true, and_false, false_and, or_true, true_or, or_false, false_or, not_true_eq_false, not_false_eq_true, decide_true, decide_false, eq_self, if_pos, if_neg, iK, ig, aV.b0, w])
  rw [JE hl] at e;rw [cond_neg (by simp (disch := omega) only [aU, aH, aP, wrap64, au, aA, dec_not, dec_and, fA, dA, cond_true, cond_false, Option.bind_some, Option.bind_none, Bool.or_true, Bool.true_or, Bool.and_true, Bool.true_and, Bool.and_false, Bool.false_and, Bool.or_false, Bool.false_or, Bool.not_true, Bool.not_false, Bool.or_self, Bool.and_self, Bool.not_not, if_true, if_false, and_self, true_and, and_true, and_false, false_and, or_true, true_or, or_false, false_or, not_true_eq_false, not_false_eq_true, decide_true, decide_false, eq_self, if_pos, if_neg, iK, ig]), show (0 : Int) = ((0 : Nat) : Int) from rfl, e];by_cases h : a = b
  ·simp (disch := omega) only [aU, aH, aP, wrap64, au, aA, dec_not, dec_and, fA, dA, cond_true, cond_false, Option.bind_some, Option.bind_none, Bool.or_true, Bool.true_or, Bool.and_true, Bool.true_and, Bool.and_false, Bool.false_and, Bool.or_false, Bool.false_or, Bool.not_true, Bool.not_false, Bool.or_self, Bool.and_self, Bool.not_not, if_true, if_false, and_self, true_and, and_true, and_false, false_and, or_true, true_or, or_false, false_or, not_true_eq_false, not_false_eq_true, decide_true, decide_false, eq_self, if_pos, if_neg, iK, ig];rw [aV.q0];simp (disch := omega) only [aU, aH, aP, wrap64, au, aA, dec_not, dec_and, fA, dA, cond_true, cond_false, Option.bind_some, Option.bind_none, Bool.or_true, Bool.true_or, Bool.and_true, Bool.true_and, Bool.and_false, Bool.false_and, Bool.or_false, Bool.false_or, Bool.not_true, Bool.not_false, Bool.or_self, Bool.and_self, Bool.not_not, if_true, if_false, and_self, true_and, and_true, and_false, false_and, or_true, true_or, or_false, false_or, not_true_eq_false, not_false_eq_true, decide_true, decide_false, eq_self, if_pos, if_neg, iK, ig, aV.b0]
  ·simp (disch := omega) only [aU, aH, aP, wrap64, au, aA, dec_not, dec_and, fA, dA, cond_true, cond_false, Option.bind_some, Option.bind_none, Bool.or_true, Bool.true_or, Bool.and_true, Bool.true_and, Bool.and_false, Bool.false_and, Bool.or_false, Bool.false_or, Bool.not_true, Bool.not_false, Bool.or_self, Bool.and_self, Bool.not_not, if_true, if_false, and_self, true_and, and_true, and_false, false_and, or_true, true_or, or_false, false_or, not_true_eq_false, not_false_eq_true, decide_true, decide_false, eq_self, if_pos, if_neg, iK, ig]
 ·rw [cond_pos (by simp (disch := omega) only [aU, aH, aP, wrap64, au, aA, dec_not, dec_and, fA, dA, cond_true, cond_false, Option.bind_some, Option.bind_none, Bool.or_true, Bool.true_or, Bool.and_true, Bool.true_and, Bool.and_false, Bool.false_and, Bool.or_false, Bool.false_or, Bool.not_true, Bool.not_false, Bool.or_self, Bool.and_self, Bool.not_not, if_true, if_false, and_self, true_and, and_true, and_false, false_and, or_true, true_or, or_false, false_or, not_true_eq_false, not_false_eq_true, decide_true, decide_false, eq_self, if_pos, if_neg, iK, ig]), aA (fun q => hl (by rw [q]))]
theorem texts_eq (a b : List (List Int)) (ha : a.length < 9223372036854775808) (hb : b.length < 9223372036854775808) : cO.run .lim (a, b, ()) = some (decide (a = b)) := by
 simp only [cO.run, aF ha, aF hb, cond_true];by_cases hl : a.length = b.length
 ·have e := rX (f := cO.l0 .lim) (fun k => (a, b, (k : Int), ())) a.length (fun k => !decide (rd ([] : List Int) a k = rd ([] : List Int) b k)) (some (.inl (false, ()))) (fun k hk => by
   rw [cO.q0];have w := wk k (by omega);simp (disch := omega) only [aU, aH, aP, wrap64, au, aA, dec_not, dec_and, fA, dA, cond_true, cond_false, Option.bind_some, Option.bind_none, Bool.or_true, Bool.true_or, Bool.and_true, Bool.true_and, Bool.and_false, Bool.false_and, Bool.or_false, Bool.false_or, Bool.not_true, Bool.not_false, Bool.or_self, Bool.and_self, Bool.not_not, if_true, if_false, and_self, true_and, and_true, and_false, false_and, or_true, true_or, or_false, false_or, not_true_eq_false, not_false_eq_true, decide_true, decide_false, eq_self, if_pos, if_neg, iK, ig, cO.b0, w])
  rw [JE hl] at e;rw [cond_neg (by simp (disch := omega) only [aU, aH, aP, wrap64, au, aA, dec_not, dec_and, fA, dA, cond_true, cond_false, Option.bind_some, Option.bind_none, Bool.or_true, Bool.true_or, Bool.and_true, Bool.true_and, Bool.and_false, Bool.false_and, Bool.or_false, Bool.false_or, Bool.not_true, Bool.not_false, Bool.or_self, Bool.and_self, Bool.not_not, if_true, if_false, and_self, true_and, and_true, and_false, false_and, or_true, true_or, or_false, false_or, not_true_eq_false, not_false_eq_true, decide_true, decide_false, eq_self, if_pos, if_neg, iK, ig]), show (0 : Int) = ((0 : Nat) : Int) from rfl, e];by_cases h : a = b
  ·simp (disch := omega) only [aU, aH, aP, wrap64, au, aA, dec_not, dec_and, fA, dA, cond_true, cond_false, Option.bind_some, Option.bind_none, Bool.or_true, Bool.true_or, Bool.and_true, Bool.true_and, Bool.and_false, Bool.false_and, Bool.or_false, Bool.false_or, Bool.not_true, Bool.not_false, Bool.or_self, Bool.and_self, Bool.not_not, if_true, if_false, and_self, true_and, and_true, and_false, false_and, or_true, true_or, or_false, false_or, not_true_eq_false, not_false_eq_true, decide_true, decide_false, eq_self, if_pos, if_neg, iK, ig];rw [cO.q0];simp (disch := omega) only [aU, aH, aP, wrap64, au, aA, dec_not, dec_and, fA, dA, cond_true, cond_false, Option.bind_some, Option.bind_none, Bool.or_true, Bool.true_or, Bool.and_true, Bool.true_and, Bool.and_false, Bool.false_and, Bool.or_false, Bool.false_or, Bool.not_true, Bool.not_false, Bool.or_self, Bool.and_self, Bool.not_not, if_true, if_false, and_self, true_and, and_true, and_false, false_and, or_true, true_or, or_false, false_or, not_true_eq_false, not_false_eq_true, decide_true, decide_false, eq_self, if_pos, if_neg, iK, ig, cO.b0]
  ·simp (disch := omega) only [aU, aH, aP, wrap64, au, aA, dec_not, dec_and, fA, dA, cond_true, cond_false, Option.bind_some, Option.bind_none, Bool.or_true, Bool.true_or, Bool.and_true, Bool.true_and, Bool.and_false, Bool.false_and, Bool.or_false, Bool.false_or, Bool.not_true, Bool.not_false, Bool.or_self, Bool.and_self, Bool.not_not, if_true, if_false, and_self, true_and, and_true, and_false, false_and, or_true, true_or, or_false, false_or, not_true_eq_false, not_false_eq_true, decide_true, decide_false, eq_self, if_pos, if_neg, iK, ig]
 ·rw [cond_pos (by simp (disch := omega) only [aU, aH, aP, wrap64, au, aA, dec_not, dec_and, fA, dA, cond_true, cond_false, Option.bind_some, Option.bind_none, Bool.or_true, Bool.true_or, Bool.and_true, Bool.true_and, Bool.and_false, Bool.false_and, Bool.or_false, Bool.false_or, Bool.not_true, Bool.not_false, Bool.or_self, Bool.and_self, Bool.not_not, if_true, if_false, and_self, true_and, and_true, and_false, false_and, or_true, true_or, or_false, false_or, not_true_eq_false, not_false_eq_true, decide_true, decide_false, eq_self, if_pos, if_neg, iK, ig]), aA (fun q => hl (by rw [q]))]
def FM (a b : KK) : Bool := decide (a.1 = b.1) && decide (a.2.2.1 = b.2.2.1) && decide (a.2.1 = b.2.1)
theorem UK (a b : KK) : FM a b = FM b a := by
 unfold FM;rw [show decide (a.1 = b.1) = decide (b.1 = a.1) from by congr 1; exact propext ⟨Eq.symm, Eq.symm⟩, show decide (a.2.2.1 = b.2.2.1) = decide (b.2.2.1 = a.2.2.1) from by congr 1; exact propext ⟨Eq.symm, Eq.symm⟩, show decide (a.2.1 = b.2.1) = decide (b.2.1 = a.2.1) from by congr 1; exact propext ⟨Eq.symm, Eq.symm⟩]
theorem UL (a b : KK) (ha : a.2.1.length < 9223372036854775808) (hb : b.2.1.length < 9223372036854775808) : oH.run .lim (a, b, ()) = some (FM a b) := by
 simp only [oH.run, MK _ _ ha hb];unfold FM;cases decide (a.1 = b.1) && decide (a.2.2.1 = b.2.2.1) <;> rfl
theorem RP (a b : KK) (ha : a.2.1.length < 9223372036854775808) (hb : b.2.1.length < 9223372036854775808) : gY.run .lim (a, b, ()) = some (FM a b) := by
 simp only [gY.run, texts_eq _ _ ha hb];unfold FM;cases decide (a.1 = b.1) && decide (a.2.2.1 = b.2.2.1) <;> rfl
def byteOf (n : Int) (k : Nat) : Int := (n / 256 ^ k) % 256
def Dc (n : Int) : List Int := (List.range 16).map fun i => byteOf n (15 - i)
def txt (n : Int) (plain : List Int) : List Int := Dc n ++ List.replicate plain.length 0
theorem rep0 : ∀ n : Nat, Dq [0] n = List.replicate n 0
 | 0 => rfl
 | n + 1 => by rw [Dq, rep0 n]; rfl
def part (n : Int) (k : Nat) : List Int := (List.range 16).map fun i => if i < 16 - k then 0 else byteOf n (15 - i)
theorem Ir (n : Int) : part n 0 = List.replicate 16 0 := by
 unfold part;rw [List.eq_replicate_iff];refine ⟨by simp, fun b hb => ?_⟩;obtain ⟨i, hi, rfl⟩ := List.mem_map.1 hb;rw [if_pos (by have := List.mem_range.1 hi; omega)]
theorem FN (n : Int) (k : Nat) : (part n k).length = 16 := by simp [part]
theorem ML (n : Int) (k : Nat) (hk : k < 16) : (part n k).set (15 - k) (byteOf n k) = part n (k + 1) := by
 apply List.ext_getElem (by simp [part])
 intro i h1 h2;have hi : i < 16 := by rw [List.length_set, FN] at h1; exact h1
 rw [List.getElem_set];simp only [part, List.getElem_map, List.getElem_range];split
 ·rw [if_neg (by omega)]; congr 1; omega
 ·by_cases h : i < 16 - (k + 1)
  ·rw [if_pos (by omega), if_pos h]
  ·rw [if_neg (by omega), if_neg h]
theorem UN (n : Int) : part n 16 = Dc n := by
 unfold part Dc;apply List.map_congr_left
 intro i _; rw [if_neg (by omega)]
theorem MN {n : Int} (h0 : 0 <= n) (h1 : n < 9223372036854775808) {k : Nat} (hk : 8 <= k) : byteOf n k = 0 := by
 unfold byteOf;rw [Int.ediv_eq_zero_of_lt h0]; · rfl
 obtain ⟨j, rfl⟩ : ∃ j, k = 8 + j := ⟨k - 8, by omega⟩;rw [Int.pow_add];have : (0 : Int) < 256 ^ j := Int.pow_pos (by omega);have h2 : (256 : Int) ^ 8 * 1 <= 256 ^ 8 * 256 ^ j := Int.mul_le_mul_of_nonneg_left (by omega) (by decide);have h3 : (256 : Int) ^ 8 = 18446744073709551616 := by decide
 rw [h3] at h2 ⊢; omega
theorem part8 {n : Int} (h0 : 0 <= n) (h1 : n < 9223372036854775808) : part n 8 = Dc n := by
 unfold part Dc;apply List.map_congr_left
 intro i _;split
 ·rw [MN h0 h1 (by omega)]
 ·rfl
theorem number_eq (n : Int) (plain : List Int) (h0 : 0 <= n) (h1 : n < 9223372036854775808) (hp : plain.length <= 100000) : fV.run .lim (n, plain, ()) = some (txt n plain) := by
 have e := dB (f := fV.l0 .lim) (fun k => (n, plain, (k : Int), part n k, ())) (n := 8) (fun k hk => by
  rw [fV.q0];have w := wk k (by omega);have w2 : IntKind.i64.wrap ((8 : Int) * k) = ((8 * k : Nat) : Int) := by rw [wrap64 (by omega) (by omega)]; omega
  have w3 : IntKind.i64.wrap ((15 : Int) - k) = ((15 - k : Nat) : Int) := by rw [wrap64 (by omega) (by omega)]; omega
  have hb : IntKind.u8.wrap (iZ .i64 n ((8 * k : Nat) : Int)) = byteOf n k := by
   rw [jY];unfold iZ byteOf;rw [Int.toNat_natCast, show min (8 * k) (IntKind.bits .i64) = 8 * k from by show min (8 * k) 64 = _; omega, Int.fdiv_eq_ediv_of_nonneg _ (Int.le_of_lt (Int.pow_pos (by omega))), Int.pow_mul];rfl
  simp (disch := omega) only [aU, aH, aP, wrap64, au, aA, dec_not, dec_and, fA, dA, cond_true, cond_false, Option.bind_some, Option.bind_none, Bool.or_true, Bool.true_or, Bool.and_true, Bool.true_and, Bool.and_false, Bool.false_and, Bool.or_false, Bool.false_or, Bool.not_true, Bool.not_false, Bool.or_self, Bool.and_self, Bool.not_not, if_true, if_false, and_self, true_and, and_true, and_false, false_and, or_true, true_or, or_false, false_or, not_true_eq_false, not_false_eq_true, decide_true, decide_false, eq_self, if_pos, if_neg, iK, ig, fV.b0, w, w2, w3, hb, Int.toNat_natCast, ML])
 rw [Ir, show ((0 : Nat) : Int) = 0 from rfl] at e;simp only [fV.run, e];rw [fV.q0];have hr : strings_Repeat.run .lim ([0], (plain.length : Int), ()) = some (List.replicate plain.length 0) := by
  show LW _ = _;unfold LW;rw [cond_pos (by simp; omega), Int.toNat_natCast, rep0]
 simp (disch := omega) only [aU, aH, aP, wrap64, au, aA, dec_not, dec_and, fA, dA, cond_true, cond_false, Option.bind_some, Option.bind_none, Bool.or_true, Bool.true_or, Bool.and_true, Bool.true_and, Bool.and_false, Bool.false_and, Bool.or_false, Bool.false_or, Bool.not_true, Bool.not_false, Bool.or_self, Bool.and_self, Bool.not_not, if_true, if_false, and_self, true_and, and_true, and_false, false_and, or_true, true_or, or_false, false_or, not_true_eq_false, not_false_eq_true, decide_true, decide_false, eq_self, if_pos, if_neg, iK, ig, fV.b0, aF (show plain.length < 9223372036854775808 by omega), hr];rw [part8 h0 h1, List.drop_zero, List.take_of_length_le (by simp [Dc]), if_pos]
 ·rfl
 ·rw [List.length_replicate, Dc, List.length_map, List.length_range]; unfold maxStr; omega
theorem UO (n : Int) (plain : List Int) (h0 : 0 <= n) (h1 : n < 9223372036854775808) (hp : plain.length <= 100000) : dH.run .lim (n, plain, ()) = some (txt n plain) := by
 have w0 : IntKind.i64.wrap ((16 : Int) + plain.length) = ((16 + plain.length : Nat) : Int) := by rw [wrap64 (by omega) (by omega)]; omega
 have e := dB (f := dH.l0 .lim) (fun k => (n / 256 ^ k, (15 : Int) - k, part n k ++ List.replicate plain.length 0, ())) (n := 16) (fun k hk => by
  rw [dH.q0];have hn : 0 <= n / 256 ^ k := Int.ediv_nonneg h0 (Int.le_of_lt (Int.pow_pos (by omega)));have hn2 : n / 256 ^ k <= n := Int.ediv_le_self _ h0;have w1 : IntKind.i64.wrap ((n / 256 ^ k).tdiv 256) = n / 256 ^ (k + 1) := by
   rw [Int.tdiv_eq_ediv_of_nonneg hn, Int.ediv_ediv_of_nonneg (Int.le_of_lt (Int.pow_pos (by omega))), show (256 : Int) ^ k * 256 = 256 ^ (k + 1) from (Int.pow_succ _ _).symm];have : n / 256 ^ (k + 1) <= n := Int.ediv_le_self _ h0;have : 0 <= n / 256 ^ (k + 1) := Int.ediv_nonneg h0 (Int.le_of_lt (Int.pow_pos (by omega)));rw [wrap64 (by omega) (by omega)]
  have w2 : IntKind.i64.wrap ((15 : Int) - k - 1) = (15 : Int) - (k + 1 : Nat) := by rw [wrap64 (by omega) (by omega)]; omega
  have hb : IntKind.u8.wrap ((n / 256 ^ k).tmod 256) = byteOf n k := by rw [jY, Int.tmod_eq_emod_of_nonneg hn]; unfold byteOf; omega
  have hl : (part n k ++ List.replicate plain.length 0).length = 16 + plain.length := by simp [FN]
  have ht : ((15 : Int) - k).toNat = 15 - k := by omega
  have hs : (part n k ++ List.replicate plain.length (0 : Int)).set (15 - k) (byteOf n k) = part n (k + 1) ++ List.replicate plain.length 0 := by rw [List.set_append_left _ _ (by rw [FN]; omega), ML n k hk]
  simp (disch := omega) only [aU, aH, aP, wrap64, au, aA, dec_not, dec_and, fA, dA, cond_true, cond_false, Option.bind_some, Option.bind_none, Bool.or_true, Bool.true_or, Bool.and_true, Bool.true_and, Bool.and_false, Bool.false_and, Bool.or_false, Bool.false_or, Bool.not_true, Bool.not_false, Bool.or_self, Bool.and_self, Bool.not_not, if_true, if_false, and_self, true_and, and_true, and_false, false_and, or_true, true_or, or_false, false_or, not_true_eq_false, not_false_eq_true, decide_true, decide_false, eq_self, if_pos, if_neg, iK, ig, dH.b0, w1, w2, hb, hl, ht, hs])
 have hz : List.replicate (16 + plain.length) (0 : Int) = part n 0 ++ List.replicate plain.length 0 := by rw [Ir, List.replicate_append_replicate]
 rw [Int.pow_zero, Int.ediv_one, show (15 : Int) - ((0 : Nat) : Int) = 15 from rfl] at e;simp only [dH.run, w0, Int.toNat_natCast, hz, e];rw [dH.q0];simp (disch := omega) only [aU, aH, aP, wrap64, au, aA, dec_not, dec_and, fA, dA, cond_true, cond_false, Option.bind_some, Option.bind_none, Bool.or_true, Bool.true_or, Bool.and_true, Bool.true_and, Bool.and_false, Bool.false_and, Bool.or_false, Bool.false_or, Bool.not_true, Bool.not_false, Bool.or_self, Bool.and_self, Bool.not_not, if_true, if_false, and_self, true_and, and_true, and_false, false_and, or_true, true_or, or_false, false_or, not_true_eq_false, not_false_eq_true, decide_true, decide_false, eq_self, if_pos, if_neg, iK, ig, dH.b0, aF (show plain.length < 9223372036854775808 by omega)];rw [cond_pos (by rw [Nat.blt_eq]; omega), UN];rfl
end Go.AM
end
section
namespace Go.AM
abbrev VV := Bool × List KK
def RQ (k : KK) : Prop := k.1.length < 9223372036854775808 /\ k.2.1.length < 9223372036854775808 /\ (∀ s ∈ k.2.1, s.length < 9223372036854775808) /\ k.2.2.1.length < 9223372036854775808 /\ k.2.2.2.length < 9223372036854775808
def okV (v : VV) : Prop := v.2.length < 9223372036854775808 /\ ∀ k ∈ v.2, RQ k
theorem okV.at {v : VV} (h : okV v) {k : Nat} (hk : k < v.2.length) : RQ (rd k0 v.2 (k : Int)) := h.2 _ (fJ (by omega) (by omega))
def oP (k : KK) : Int := if k.1.length ≠ 32 /\ k.1.length ≠ 64 then 13 else if k.2.1.length > 126 then 18 else 0
theorem FP (k : KK) (h : k.1.length < 9223372036854775808) (h2 : k.2.1.length < 9223372036854775808) : jH.run .lim (k, ()) = some (oP k) := by
 unfold oP;simp only [jH.run, aF h, aF h2, cond_true, Bool.or_true];by_cases h3 : k.1.length ≠ 32 /\ k.1.length ≠ 64
 ·rw [cond_pos (by simp (disch := omega) only [aU, aH, aP, wrap64, au, aA, dec_not, dec_and, fA, dA, cond_true, cond_false, Option.bind_some, Option.bind_none, Bool.or_true, Bool.true_or, Bool.and_true, Bool.true_and, Bool.and_false, Bool.false_and, Bool.or_false, Bool.false_or, Bool.not_true, Bool.not_false, Bool.or_self, Bool.and_self, Bool.not_not, if_true, if_false, and_self, true_and, and_true, and_false, false_and, or_true, true_or, or_false, false_or, not_true_eq_false, not_false_eq_true, decide_true, decide_false, eq_self, if_pos, if_neg, iK, ig, au (show ¬ ((k.1.length : Int) = 32) by omega), au (show ¬ ((k.1.length : Int) = 64) by omega)]), if_pos h3]
 ·rw [cond_neg, if_neg h3]
  ·by_cases h4 : k.2.1.length > 126 <;> simp (disch := omega) only [aU, aH, aP, wrap64, au, aA, dec_not, dec_and, fA, dA, cond_true, cond_false, Option.bind_some, Option.bind_none, Bool.or_true, Bool.true_or, Bool.and_true, Bool.true_and, Bool.and_false, Bool.false_and, Bool.or_false, Bool.false_or, Bool.not_true, Bool.not_false, Bool.or_self, Bool.and_self, Bool.not_not, if_true, if_false, and_self, true_and, and_true, and_false, false_and, or_true, true_or, or_false, false_or, not_true_eq_false, not_false_eq_true, decide_true, decide_false, eq_self, if_pos, if_neg, iK, ig]
  ·by_cases h4 : k.1.length = 32
   ·simp (disch := omega) only [aU, aH, aP, wrap64, au, aA, dec_not, dec_and, fA, dA, cond_true, cond_false, Option.bind_some, Option.bind_none, Bool.or_true, Bool.true_or, Bool.and_true, Bool.true_and, Bool.and_false, Bool.false_and, Bool.or_false, Bool.false_or, Bool.not_true, Bool.not_false, Bool.or_self, Bool.and_self, Bool.not_not, if_true, if_false, and_self, true_and, and_true, and_false, false_and, or_true, true_or, or_false, false_or, not_true_eq_false, not_false_eq_true, decide_true, decide_false, eq_self, if_pos, if_neg, iK, ig]
   ·simp (disch := omega) only [aU, aH, aP, wrap64, au, aA, dec_not, dec_and, fA, dA, cond_true, cond_false, Option.bind_some, Option.bind_none, Bool.or_true, Bool.true_or, Bool.and_true, Bool.true_and, Bool.and_false, Bool.false_and, Bool.or_false, Bool.false_or, Bool.not_true, Bool.not_false, Bool.or_self, Bool.and_self, Bool.not_not, if_true, if_false, and_self, true_and, and_true, and_false, false_and, or_true, true_or, or_false, false_or, not_true_eq_false, not_false_eq_true, decide_true, decide_false, eq_self, if_pos, if_neg, iK, ig]
def Gx (xs : List KK) (i : Nat) : Bool :=
 !decide (oP (rd k0 xs i) = 0) || decide ((rd k0 xs i).2.2.1.length > 65536) || !decide ((rd k0 xs i).2.2.2 = txt ((i : Int) + 1) (rd k0 xs i).2.2.1) || (List.range i).any fun j => FM (rd k0 xs j) (rd k0 xs i)
def uG (v : VV) : Bool := bif v.1 then decide (v.2.length <= 2048) && !((List.range v.2.length).any (Gx v.2)) else decide (v.2.length = 0)
theorem Xz (xs : List KK) (i : Nat) (q : KK) (b : Bool) (hi : i <= xs.length) (hy : xs.length < 9223372036854775808) (hok : ∀ k ∈ xs, RQ k) (hq : RQ q) :
  bD.l0 .lim ((i : Int), 0, b, xs, q.1, q.2.1, q.2.2.1, q.2.2.2, ()) = bif (List.range i).any (fun j => FM (rd k0 xs j) q) then some (.inl (false, ())) else some (.inr ((i : Int), b, xs, ())) := by
 have e := rX (f := bD.l0 .lim) (fun j => ((i : Int), (j : Int), b, xs, q.1, q.2.1, q.2.2.1, q.2.2.2, ())) i (fun j => FM (rd k0 xs j) q) (some (.inl (false, ()))) (fun k hk => by
  rw [bD.q0];have ha := RP q (rd k0 xs k) hq.2.1 (hok _ (fJ (by omega) (by omega))).2.1;rw [UK] at ha;have ha : gY.run .lim ((q.1, q.2.1, q.2.2.1, q.2.2.2), rd k0 xs k, ()) = some (FM (rd k0 xs k) q) := ha;simp (disch := omega) only [aU, aH, aP, wrap64, au, aA, dec_not, dec_and, fA, dA, cond_true, cond_false, Option.bind_some, Option.bind_none, Bool.or_true, Bool.true_or, Bool.and_true, Bool.true_and, Bool.and_false, Bool.false_and, Bool.or_false, Bool.false_or, Bool.not_true, Bool.not_false, Bool.or_self, Bool.and_self, Bool.not_not, if_true, if_false, and_self, true_and, and_true, and_false, false_and, or_true, true_or, or_false, false_or, not_true_eq_false, not_false_eq_true, decide_true, decide_false, eq_self, if_pos, if_neg, iK, ig, bD.b0, wk k (by omega), ha])
 refine e.trans ?_;rw [bD.q0];simp (disch := omega) only [aU, aH, aP, wrap64, au, aA, dec_not, dec_and, fA, dA, cond_true, cond_false, Option.bind_some, Option.bind_none, Bool.or_true, Bool.true_or, Bool.and_true, Bool.true_and, Bool.and_false, Bool.false_and, Bool.or_false, Bool.false_or, Bool.not_true, Bool.not_false, Bool.or_self, Bool.and_self, Bool.not_not, if_true, if_false, and_self, true_and, and_true, and_false, false_and, or_true, true_or, or_false, false_or, not_true_eq_false, not_false_eq_true, decide_true, decide_false, eq_self, if_pos, if_neg, iK, ig, bD.b0]
theorem refB (q : KK) : ((!decide ((q.1.length : Int) = 32) && !decide ((q.1.length : Int) = 64)) || decide ((q.2.1.length : Int) > 126)) = !decide (oP q = 0) := by
 unfold oP;by_cases h1 : q.1.length ≠ 32 /\ q.1.length ≠ 64
 ·rw [if_pos h1, aA (show ¬ (q.1.length : Int) = 32 by omega), aA (show ¬ (q.1.length : Int) = 64 by omega)]; rfl
 ·rw [if_neg h1];have : (!decide ((q.1.length : Int) = 32) && !decide ((q.1.length : Int) = 64)) = false := by
   by_cases h2 : q.1.length = 32
   ·rw [au (by omega)]; rfl
   ·rw [au (show (q.1.length : Int) = 64 by omega), Bool.not_true, Bool.and_false]
  rw [this, Bool.false_or];by_cases h3 : q.2.1.length > 126
  ·rw [if_pos h3, au (by omega)]; rfl
  ·rw [if_neg h3, aA (by omega)]; rfl
theorem XA (v : VV) (h : okV v) : bD.run .lim (v, ()) = some (uG v) := by
 obtain ⟨b, xs⟩ := v;have hx : xs.length < 9223372036854775808 := h.1;unfold uG;simp only [bD.run, aF hx];cases b with
 | false => simp only [cond_true, cond_false, Option.bind_some, Option.bind_none, Bool.or_true, Bool.true_or, Bool.and_true, Bool.true_and, Bool.and_false, Bool.false_and, Bool.or_false, Bool.false_or, Bool.not_true, Bool.not_false, Bool.or_self, Bool.and_self, Bool.not_not]; congr 2; simp
 | true =>
  simp only [cond_true, cond_false, Option.bind_some, Option.bind_none, Bool.or_true, Bool.true_or, Bool.and_true, Bool.true_and, Bool.and_false, Bool.false_and, Bool.or_false, Bool.false_or, Bool.not_true, Bool.not_false, Bool.or_self, Bool.and_self, Bool.not_not];by_cases h1 : xs.length <= 2048
  ·obtain ⟨j, _, e⟩ := LY (f := bD.l1 .lim) (fun k => ((k : Int), true, xs, ())) xs.length (Gx xs) (fun k => bif (!decide (oP (rd k0 xs k) = 0) || decide ((rd k0 xs k).2.2.1.length > 65536) || !decide ((rd k0 xs k).2.2.2 = txt ((k : Int) + 1) (rd k0 xs k).2.2.1)) then some (.inl (false, ())) else some (.inr (.inl (false, ())))) (fun k hk => by
    rw [bD.q1];have w := wk k (by omega);have hk' : RQ (rd k0 xs k) := h.at (v := (true, xs)) hk;have hn := fun hh => UO ((k : Int) + 1) (rd k0 xs k).2.2.1 (by omega) (by omega) hh
    have e2 := Xz xs k (rd k0 xs k) true (by omega) hx h.2 hk';unfold Gx;simp only [bD.b1, aF hx, au (show (k : Int) < (xs.length : Int) by omega), aH (show (0 : Int) <= k by omega) (show (k : Int) < xs.length by omega), aF hk'.1, aF hk'.2.1, aF hk'.2.2.2.1, w, refB];rw [show ((k + 1 : Nat) : Int) = (k : Int) + 1 by omega];simp only [cond_true, cond_false, Option.bind_some, Option.bind_none, Bool.or_true, Bool.true_or, Bool.and_true, Bool.true_and, Bool.and_false, Bool.false_and, Bool.or_false, Bool.false_or, Bool.not_true, Bool.not_false, Bool.or_self, Bool.and_self, Bool.not_not];by_cases c1 : oP (rd k0 xs k) = 0
    ·by_cases c2 : (rd k0 xs k).2.2.1.length > 65536
     ·simp only [au c1, au c2, au (show ((rd k0 xs k).2.2.1.length : Int) > 65536 by omega)];simp only [cond_true, cond_false, Option.bind_some, Option.bind_none, Bool.or_true, Bool.true_or, Bool.and_true, Bool.true_and, Bool.and_false, Bool.false_and, Bool.or_false, Bool.false_or, Bool.not_true, Bool.not_false, Bool.or_self, Bool.and_self, Bool.not_not]
     ·simp only [au c1, aA c2, aA (show ¬ ((rd k0 xs k).2.2.1.length : Int) > 65536 by omega)];simp only [cond_true, cond_false, Option.bind_some, Option.bind_none, Bool.or_true, Bool.true_or, Bool.and_true, Bool.true_and, Bool.and_false, Bool.false_and, Bool.or_false, Bool.false_or, Bool.not_true, Bool.not_false, Bool.or_self, Bool.and_self, Bool.not_not];rw [hn (by omega)];simp only [cond_true, cond_false, Option.bind_some, Option.bind_none, Bool.or_true, Bool.true_or, Bool.and_true, Bool.true_and, Bool.and_false, Bool.false_and, Bool.or_false, Bool.false_or, Bool.not_true, Bool.not_false, Bool.or_self, Bool.and_self, Bool.not_not];by_cases c3 : (rd k0 xs k).2.2.2 = txt ((k : Int) + 1) (rd k0 xs k).2.2.1
      ·simp only [au c3];simp only [cond_true, cond_false, Option.bind_some, Option.bind_none, Bool.or_true, Bool.true_or, Bool.and_true, Bool.true_and, Bool.and_false, Bool.false_and, Bool.or_false, Bool.false_or, Bool.not_true, Bool.not_false, Bool.or_self, Bool.and_self, Bool.not_not];rw [e2];cases (List.range k).any fun j => FM (rd k0 xs j) (rd k0 xs k)
       ·simp only [cond_true, cond_false, Option.bind_some, Option.bind_none, Bool.or_true, Bool.true_or, Bool.and_true, Bool.true_and, Bool.and_false, Bool.false_and, Bool.or_false, Bool.false_or, Bool.not_true, Bool.not_false, Bool.or_self, Bool.and_self, Bool.not_not]; rw [show IntKind.i64.wrap ((k : Int) + 1) = (k : Int) + 1 by rw [w]; omega]
       ·simp only [cond_true, cond_false, Option.bind_some, Option.bind_none, Bool.or_true, Bool.true_or, Bool.and_true, Bool.true_and, Bool.and_false, Bool.false_and, Bool.or_false, Bool.false_or, Bool.not_true, Bool.not_false, Bool.or_self, Bool.and_self, Bool.not_not]
      ·simp only [aA c3];simp only [cond_true, cond_false, Option.bind_some, Option.bind_none, Bool.or_true, Bool.true_or, Bool.and_true, Bool.true_and, Bool.and_false, Bool.false_and, Bool.or_false, Bool.false_or, Bool.not_true, Bool.not_false, Bool.or_self, Bool.and_self, Bool.not_not]
    ·simp only [aA c1];simp only [cond_true, cond_false, Option.bind_some, Option.bind_none, Bool.or_true, Bool.true_or, Bool.and_true, Bool.true_and, Bool.and_false, Bool.false_and, Bool.or_false, Bool.false_or, Bool.not_true, Bool.not_false, Bool.or_self, Bool.and_self, Bool.not_not])
   rw [show ((0 : Nat) : Int) = 0 from rfl] at e;rw [cond_neg (by simp (disch := omega) only [aU, aH, aP, wrap64, au, aA, dec_not, dec_and, fA, dA, cond_true, cond_false, Option.bind_some, Option.bind_none, Bool.or_true, Bool.true_or, Bool.and_true, Bool.true_and, Bool.and_false, Bool.false_and, Bool.or_false, Bool.false_or, Bool.not_true, Bool.not_false, Bool.or_self, Bool.and_self, Bool.not_not, if_true, if_false, and_self, true_and, and_true, and_false, false_and, or_true, true_or, or_false, false_or, not_true_eq_false, not_false_eq_true, decide_true, decide_false, eq_self, if_pos, if_neg, iK, ig]), e, bD.q1];simp (disch := omega) only [aU, aH, aP, wrap64, au, aA, dec_not, dec_and, fA, dA, cond_true, cond_false, Option.bind_some, Option.bind_none, Bool.or_true, Bool.true_or, Bool.and_true, Bool.true_and, Bool.and_false, Bool.false_and, Bool.or_false, Bool.false_or, Bool.not_true, Bool.not_false, Bool.or_self, Bool.and_self, Bool.not_not, if_true, if_false, and_self, true_and, and_true, and_false, false_and, or_true, true_or, or_false, false_or, not_true_eq_false, not_false_eq_true, decide_true, decide_false, eq_self, if_pos, if_neg, iK, ig, bD.b1, aF hx];cases (List.range xs.length).any (Gx xs)
   ·rfl
   ·simp only [cond_true, cond_false, Option.bind_some, Option.bind_none, Bool.or_true, Bool.true_or, Bool.and_true, Bool.true_and, Bool.and_false, Bool.false_and, Bool.or_false, Bool.false_or, Bool.not_true, Bool.not_false, Bool.or_self, Bool.and_self, Bool.not_not]; split <;> rfl
  ·rw [cond_pos (by simp (disch := omega) only [aU, aH, aP, wrap64, au, aA, dec_not, dec_and, fA, dA, cond_true, cond_false, Option.bind_some, Option.bind_none, Bool.or_true, Bool.true_or, Bool.and_true, Bool.true_and, Bool.and_false, Bool.false_and, Bool.or_false, Bool.false_or, Bool.not_true, Bool.not_false, Bool.or_self, Bool.and_self, Bool.not_not, if_true, if_false, and_self, true_and, and_true, and_false, false_and, or_true, true_or, or_false, false_or, not_true_eq_false, not_false_eq_true, decide_true, decide_false, eq_self, if_pos, if_neg, iK, ig]), aA h1];simp only [cond_true, cond_false, Option.bind_some, Option.bind_none, Bool.or_true, Bool.true_or, Bool.and_true, Bool.true_and, Bool.and_false, Bool.false_and, Bool.or_false, Bool.false_or, Bool.not_true, Bool.not_false, Bool.or_self, Bool.and_self, Bool.not_not]
theorem OL (v : VV) (h : okV v) : ∃ r, aN.run .lim (v, ()) = some r := by
 obtain ⟨b, xs⟩ := v;have hx : xs.length < 9223372036854775808 := h.1
 -- the inner loop
 have inner : ∀ (n : Nat) (left : Int) (j : Nat) (i : Int) (q : KK), RQ q -> j + n = q.2.1.length -> -9223372036854775808 <= left -> left < 9223372036854775808 -> ∃ l : Int, -9223372036854775808 <= l /\ l < 9223372036854775808 /\ aN.l0 .lim (left, i, (j : Int), b, xs, q.1, q.2.1, q.2.2.1, q.2.2.2, ()) = some (l, i, b, xs, ()) := by
  intro n
  induction n with
  | zero =>
   intro left j i q hq hj h1 h2;refine ⟨left, h1, h2, ?_⟩;rw [aN.q0];simp (disch := omega) only [aU, aH, aP, wrap64, au, aA, dec_not, dec_and, fA, dA, cond_true, cond_false, Option.bind_some, Option.bind_none, Bool.or_true, Bool.true_or, Bool.and_true, Bool.true_and, Bool.and_false, Bool.false_and, Bool.or_false, Bool.false_or, Bool.not_true, Bool.not_false, Bool.or_self, Bool.and_self, Bool.not_not, if_true, if_false, and_self, true_and, and_true, and_false, false_and, or_true, true_or, or_false, false_or, not_true_eq_false, not_false_eq_true, decide_true, decide_false, eq_self, if_pos, if_neg, iK, ig, aN.b0, aF hq.2.1]
  | succ n ih =>
   intro left j i q hq hj h1 h2;have hb := @BH (left - ((rd ([] : List Int) q.2.1 (j : Int)).length : Int));have hs := hq.2.2.1 (rd ([] : List Int) q.2.1 (j : Int)) (fJ (by omega) (by omega));by_cases hl : left >= 0
   ·obtain ⟨l, l1, l2, e⟩ := ih (IntKind.i64.wrap (left - ((rd ([] : List Int) q.2.1 (j : Int)).length : Int))) (j + 1) i q hq (by omega) hb.1 hb.2;refine ⟨l, l1, l2, ?_⟩;rw [aN.q0, <- e];have hj' := hq.2.1;simp only [aN.b0, aF hq.2.1, wk j (by omega), aF hs, au hl, au (show (j : Int) < (q.2.1.length : Int) by omega), aH (show (0 : Int) <= j by omega) (show (j : Int) < q.2.1.length by omega)];simp only [cond_true, cond_false, Option.bind_some, Option.bind_none, Bool.or_true, Bool.true_or, Bool.and_true, Bool.true_and, Bool.and_false, Bool.false_and, Bool.or_false, Bool.false_or, Bool.not_true, Bool.not_false, Bool.or_self, Bool.and_self, Bool.not_not]
   ·refine ⟨left, h1, h2, ?_⟩;rw [aN.q0];simp (disch := omega) only [aU, aH, aP, wrap64, au, aA, dec_not, dec_and, fA, dA, cond_true, cond_false, Option.bind_some, Option.bind_none, Bool.or_true, Bool.true_or, Bool.and_true, Bool.true_and, Bool.and_false, Bool.false_and, Bool.or_false, Bool.false_or, Bool.not_true, Bool.not_false, Bool.or_self, Bool.and_self, Bool.not_not, if_true, if_false, and_self, true_and, and_true, and_false, false_and, or_true, true_or, or_false, false_or, not_true_eq_false, not_false_eq_true, decide_true, decide_false, eq_self, if_pos, if_neg, iK, ig, aN.b0, aF hq.2.1]
 have outer : ∀ (n : Nat) (left : Int) (i : Nat), i + n = xs.length -> -9223372036854775808 <= left -> left < 9223372036854775808 -> ∃ l : Int, aN.l1 .lim (left, (i : Int), b, xs, ()) = some (l, b, xs, ()) := by
  intro n
  induction n with
  | zero =>
   intro left i hi h1 h2;refine ⟨left, ?_⟩;rw [aN.q1];simp (disch := omega) only [aU, aH, aP, wrap64, au, aA, dec_not, dec_and, fA, dA, cond_true, cond_false, Option.bind_some, Option.bind_none, Bool.or_true, Bool.true_or, Bool.and_true, Bool.true_and, Bool.and_false, Bool.false_and, Bool.or_false, Bool.false_or, Bool.not_true, Bool.not_false, Bool.or_self, Bool.and_self, Bool.not_not, if_true, if_false, and_self, true_and, and_true, and_false, false_and, or_true, true_or, or_false, false_or, not_true_eq_false, not_false_eq_true, decide_true, decide_false, eq_self, if_pos, if_neg, iK, ig, aN.b1, aF hx]
  | succ n ih =>
   intro left i hi h1 h2;by_cases hl : left >= 0
   ·have hk : RQ (rd k0 xs i) := h.at (v := (b, xs)) (by show i < xs.length; omega);rw [aN.q1];simp only [aN.b1, aF hx, aF hk.1, aF hk.2.1, aF hk.2.2.2.1, aF hk.2.2.2.2, au hl, au (show (i : Int) < (xs.length : Int) by omega), aH (show (0 : Int) <= i by omega) (show (i : Int) < xs.length by omega)];simp only [cond_true, cond_false, Option.bind_some, Option.bind_none, Bool.or_true, Bool.true_or, Bool.and_true, Bool.true_and, Bool.and_false, Bool.false_and, Bool.or_false, Bool.false_or, Bool.not_true, Bool.not_false, Bool.or_self, Bool.and_self, Bool.not_not];obtain ⟨l, l1, l2, e⟩ := inner _ (IntKind.i64.wrap (IntKind.i64.wrap (IntKind.i64.wrap (IntKind.i64.wrap (IntKind.i64.wrap (left - 10) - ((rd k0 xs i).1.length : Int)) - ((rd k0 xs i).2.2.1.length : Int)) - ((rd k0 xs i).2.2.2.length : Int)) - ((rd k0 xs i).2.1.length : Int))) 0 (i : Int) (rd k0 xs i) hk (Nat.zero_add _) BH.1 BH.2;rw [show ((0 : Nat) : Int) = 0 from rfl] at e;rw [e];obtain ⟨l', e'⟩ := ih l (i + 1) (by omega) l1 l2;refine ⟨l', ?_⟩;rw [<- e'];simp (disch := omega) only [aU, aH, aP, wrap64, au, aA, dec_not, dec_and, fA, dA, cond_true, cond_false, Option.bind_some, Option.bind_none, Bool.or_true, Bool.true_or, Bool.and_true, Bool.true_and, Bool.and_false, Bool.false_and, Bool.or_false, Bool.false_or, Bool.not_true, Bool.not_false, Bool.or_self, Bool.and_self, Bool.not_not, if_true, if_false, and_self, true_and, and_true, and_false, false_and, or_true, true_or, or_false, false_or, not_true_eq_false, not_false_eq_true, decide_true, decide_false, eq_self, if_pos, if_neg, iK, ig, wk i (by omega)]
   ·refine ⟨left, ?_⟩;rw [aN.q1];simp (disch := omega) only [aU, aH, aP, wrap64, au, aA, dec_not, dec_and, fA, dA, cond_true, cond_false, Option.bind_some, Option.bind_none, Bool.or_true, Bool.true_or, Bool.and_true, Bool.true_and, Bool.and_false, Bool.false_and, Bool.or_false, Bool.false_or, Bool.not_true, Bool.not_false, Bool.or_self, Bool.and_self, Bool.not_not, if_true, if_false, and_self, true_and, and_true, and_false, false_and, or_true, true_or, or_false, false_or, not_true_eq_false, not_false_eq_true, decide_true, decide_false, eq_self, if_pos, if_neg, iK, ig, aN.b1, aF hx]
 obtain ⟨l, e⟩ := outer xs.length 400000 0 (by omega) (by omega) (by omega);rw [show ((0 : Nat) : Int) = 0 from rfl] at e;refine ⟨decide (l >= 0) && decide ((xs.length : Int) <= 300), ?_⟩;simp only [aN.run, e, aF hx];simp only [cond_true, cond_false, Option.bind_some, Option.bind_none, Bool.or_true, Bool.true_or, Bool.and_true, Bool.true_and, Bool.and_false, Bool.false_and, Bool.or_false, Bool.false_or, Bool.not_true, Bool.not_false, Bool.or_self, Bool.and_self, Bool.not_not, aF hx]
end Go.AM
end
section
namespace Go.AM
def hit (key : List Int) (ad : List (List Int)) (t : List Int) (k : KK) : Bool := decide (k.2.2.2 = t) && decide (k.1 = key) && decide (k.2.1 = ad)
theorem Gy {n : Nat} (h : n <= 140737488351232) : n < 9223372036854775808 := by omega
theorem ok_v {v : VV} (h : Ty.ok (.pair .bool (.lst (.pair .str (.pair (.lst .str) (.pair .str .str))))) v) : okV v := by
 obtain ⟨_, h1, h2⟩ := h;refine ⟨Gy h1, fun k hk => ?_⟩;obtain ⟨a, ⟨b1, b2⟩, c, d⟩ := h2 k hk;exact ⟨Gy a.1, Gy b1, fun s hs => Gy (b2 s hs).1, Gy c.1, Gy d.1⟩
end Go.AM
end
