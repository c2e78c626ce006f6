import Derived.Test.YtmcceacnjpedeaaGreatPart2

/-! The functions that the laws of this seat reach, as plain functions, and what these answer; no condition. -/
set_option linter.unusedSimpArgs false
set_option linter.unusedVariables false

section
namespace Go.AM
open Go.Proofs
set_option maxRecDepth 100000
set_option linter.unusedVariables false
noncomputable section
namespace aX
def O (m_ : ah) : OO P := gJ []
def e0 : Spec := ⟨[fs 71 [.q 116, .z 116, .b 0, .q 15] [(0, .s), (1, .s), (5, .oy 0), (6, .w)]], [(0, .c [.ry])], 1⟩
def x0 : List Spec := [⟨[fs 71 [.q 15] [(5, .oy 0)]], [(0, .c [.ry])], 1⟩]
abbrev A0 : Type := LI × LI × Int × LI × Unit
abbrev B0 : Type := (LI × Unit)
def b0 (m_ : ah) (self : A0 -> Option B0) : A0 -> Option B0 := fun v_ => match v_ with
| (a, b, i, m, ()) =>
 bif aB (a.length : Int) then
 bif decide (i < (a.length : Int)) then
  bif inB i (a.length : Int) then
  bif inB i (b.length : Int) then
  bif inB i (m.length : Int) then
  self (a, b, (IntKind.i64.wrap (i + 1)), (m.set i.toNat (dP .u8 (rd 0 a i) (rd 0 b i))), ()) else none else none else none
 else
  some (m, ()) else none
theorem k0 (m_ : ah) : KQ 71 (O m_) [] e0 x0 [] (b0 m_) := fun _ _ => by kernel_rfl
def l0 (m_ : ah) : A0 -> Option B0 := loop m_ (b0 m_)
theorem q0 (v) : l0 .lim v = b0 .lim (l0 .lim) v := KS.q (k0 .lim) v
def s0 (m_ : ah) : SO P 71 := so m_ (k0 m_)
def run (m_ : ah) : (List Int) × (List Int) × Unit -> Option (List Int) := fun v_ => match v_ with
| (a, b, ()) =>
 bif aB (a.length : Int) then
 bif (((decide (0 <= (a.length : Int))) && (decide ((a.length : Int) <= (a.length : Int)))) && (Nat.blt ((a.length : Int).toNat) 70368744177664)) then
 (aX.l0 m_ (a, b, 0, (List.replicate ((a.length : Int).toNat) 0), ())).bind fun (m, ()) =>
 some m else none else none
theorem k (m_ : ah) : KT (O m_) [] ⟨71, [.one .str, .one .str], .one (.sh (.one .str)), run m_⟩ [s0 m_] := fun _ => by kernel_rfl
def c (m_ : ah) : CO P := co (k m_)
end aX

namespace gX
def O (m_ : ah) : OO P := gJ [aY.c m_, aX.c m_]
def run (m_ : ah) : (List Int) × (List Int) × (List Int) × Unit -> Option (List Int) := fun v_ => match v_ with
| (key, v, s, ()) =>
 bif inB 8 (v.length : Int) then
 bif inB 8 (v.length : Int) then
 bif inB 12 ((v.set 8 (gB .u8 (rd 0 v 8) 127)).length : Int) then
 bif inB 12 ((v.set 8 (gB .u8 (rd 0 v 8) 127)).length : Int) then
 bif aB (s.length : Int) then
 (aY.run m_ (key, ((v.set 8 (gB .u8 (rd 0 v 8) 127)).set 12 (gB .u8 (rd 0 (v.set 8 (gB .u8 (rd 0 v 8) 127)) 12) 127)), (s.length : Int), ())).bind fun (r, r1, ()) =>
 (aX.run m_ (s, r, ())).bind fun r2 =>
 some r2 else none else none else none else none else none
theorem k (m_ : ah) : KT (O m_) [] ⟨63, [.one .str, .one .str, .one .str], .one (.sh (.one .str)), run m_⟩ [] := fun _ => by kernel_rfl
def c (m_ : ah) : CO P := co (k m_)
end gX

namespace iW
def O (m_ : ah) : OO P := gJ []
def run (m_ : ah) : (List Int) × Unit -> Option (Bool) := fun v_ => match v_ with
| (key, ()) =>
 bif aB (key.length : Int) then
 bif ((!(!(decide ((key.length : Int) = 16)))) || (aB (key.length : Int))) then
 some ((decide ((key.length : Int) = 16)) || (decide ((key.length : Int) = 32))) else none else none
theorem k (m_ : ah) : KT (O m_) [] ⟨81, [.one .str], .one (.sh (.one .bool)), run m_⟩ [] := fun _ => by kernel_rfl
def c (m_ : ah) : CO P := co (k m_)
end iW

namespace dD
def O (m_ : ah) : OO P := gJ []
def run (m_ : ah) : Int × Unit -> Option (List Int) := fun v_ => match v_ with
| (n, ()) =>
 bif (((decide (0 <= n)) && (decide (n <= n))) && (Nat.blt n.toNat 70368744177664)) then
 some (List.replicate n.toNat 0) else none
theorem k (m_ : ah) : KT (O m_) [] ⟨83, [.one (.int .i64)], .one (.sh (.one .str)), run m_⟩ [] := fun _ => by kernel_rfl
def c (m_ : ah) : CO P := co (k m_)
end dD

namespace dV
def O (m_ : ah) : OO P := gJ [fG.c m_, aO.c m_, aC.c m_]
def run (m_ : ah) : (List Int) × (List Int) × Unit -> Option ((List Int) × Int × Unit) := fun v_ => match v_ with
| (key, block, ()) =>
 (fG.run m_ (key, block, ())).bind fun r =>
 bif !(decide (r = 0)) then
  some (([] : List Int), r, ())
 else
  (aO.run m_ (key, ())).bind fun r1 =>
  (aC.run m_ (r1, block, ())).bind fun r2 =>
  some (r2, 0, ())
theorem k (m_ : ah) : KT (O m_) [] ⟨93, [.one .str, .one .str], .jL [.sh (.one .str), .sh (.one (.int .i64))], run m_⟩ [] := fun _ => by kernel_rfl
def c (m_ : ah) : CO P := co (k m_)
end dV

namespace bJ
def O (m_ : ah) : OO P := gJ []
def e0 : Spec := ⟨[fs 84 [.q 116, .z 116, .b 0, .q 15] [(0, .s), (3, .oy 0), (4, .w)]], [(0, .c [.ry])], 1⟩
def x0 : List Spec := [⟨[fs 84 [.q 15] [(0, .s), (3, .oy 0)]], [(0, .c [.ry])], 1⟩]
abbrev A0 : Type := LI × Int × LI × Unit
abbrev B0 : Type := (LI × LI × Unit)
def b0 (m_ : ah) (self : A0 -> Option B0) : A0 -> Option B0 := fun v_ => match v_ with
| (b, i, m, ()) =>
 bif decide (i < 16) then
  bif inB i (b.length : Int) then
  bif inB i (m.length : Int) then
  bif decide (i < 15) then
   bif inB i ((m.set i.toNat (fA .u8 (rd 0 b i) 1)).length : Int) then
   bif inB (IntKind.i64.wrap (i + 1)) (b.length : Int) then
   bif inB i ((m.set i.toNat (fA .u8 (rd 0 b i) 1)).length : Int) then
   self (b, (IntKind.i64.wrap (i + 1)), ((m.set i.toNat (fA .u8 (rd 0 b i) 1)).set i.toNat (oJ .u8 (rd 0 (m.set i.toNat (fA .u8 (rd 0 b i) 1)) i) (jc .u8 (rd 0 b (IntKind.i64.wrap (i + 1))) 7))), ()) else none else none else none
  else
   self (b, (IntKind.i64.wrap (i + 1)), (m.set i.toNat (fA .u8 (rd 0 b i) 1)), ()) else none else none
 else
  some (b, m, ())
theorem k0 (m_ : ah) : KQ 84 (O m_) [] e0 x0 [] (b0 m_) := fun _ _ => by kernel_rfl
def l0 (m_ : ah) : A0 -> Option B0 := loop m_ (b0 m_)
theorem q0 (v) : l0 .lim v = b0 .lim (l0 .lim) v := KS.q (k0 .lim) v
def s0 (m_ : ah) : SO P 84 := so m_ (k0 m_)
def run (m_ : ah) : (List Int) × Unit -> Option (List Int) := fun v_ => match v_ with
| (b, ()) =>
 bif Nat.blt 16 70368744177664 then
 (bJ.l0 m_ (b, 0, (List.replicate 16 0), ())).bind fun (b1, m, ()) =>
 bif inB 0 (b1.length : Int) then
 bif decide ((rd 0 b1 0) >= 128) then
  bif inB 15 (m.length : Int) then
  bif inB 15 (m.length : Int) then
  some (m.set 15 (dP .u8 (rd 0 m 15) 135)) else none else none
 else
  some m else none else none
theorem k (m_ : ah) : KT (O m_) [] ⟨84, [.one .str], .one (.sh (.one .str)), run m_⟩ [s0 m_] := fun _ => by kernel_rfl
def c (m_ : ah) : CO P := co (k m_)
end bJ

namespace fK
def O (m_ : ah) : OO P := gJ [dD.c m_]
def run (m_ : ah) : (List Int) × Unit -> Option (List Int) := fun v_ => match v_ with
| (s, ()) =>
 bif decide (s.length + ([128] : List Int).length <= maxStr) then
 (dD.run m_ (16, ())).bind fun r =>
 bif decide ((s ++ ([128] : List Int)).length + r.length <= maxStr) then
 bif dG 0 16 (((s ++ ([128] : List Int)) ++ r).length : Int) then
 some (cut ((s ++ ([128] : List Int)) ++ r) 0 16) else none else none else none
theorem k (m_ : ah) : KT (O m_) [] ⟨85, [.one .str], .one (.sh (.one .str)), run m_⟩ [] := fun _ => by kernel_rfl
def c (m_ : ah) : CO P := co (k m_)
end fK

namespace bT
def O (m_ : ah) : OO P := gJ [aX.c m_, dD.c m_, bJ.c m_, fK.c m_, dV.c m_]
def e0 : Spec := ⟨[fs 82 [.q 248, .z 248, .b 0, .q 63] [(0, .s), (1, .s), (7, .s), (8, .s)]], [], 0⟩
def x0 : List Spec := [⟨[fs 82 [.q 63] [(0, .s), (1, .s), (7, .s), (8, .s)]], [], 0⟩]
abbrev A0 : Type := LI × LI × LI × LI × Unit
abbrev B0 : Type := (LI × LI × LI × LI × Unit)
def b0 (m_ : ah) (self : A0 -> Option B0) : A0 -> Option B0 := fun v_ => match v_ with
| (key, s, k, x, ()) =>
 bif aB (s.length : Int) then
 bif decide ((s.length : Int) > 16) then
  bif dG 0 16 (s.length : Int) then
  (aX.run m_ (x, (cut s 0 16), ())).bind fun r =>
  (dV.run m_ (key, r, ())).bind fun (r1, r2, ()) =>
  bif dG 16 (s.length : Int) (s.length : Int) then
  self (key, (cut s 16 (s.length : Int)), k, r1, ()) else none else none
 else
  some (key, s, k, x, ()) else none
theorem k0 (m_ : ah) : KQ 82 (O m_) [] e0 x0 [] (b0 m_) := fun _ _ => by kernel_rfl
def l0 (m_ : ah) : A0 -> Option B0 := loop m_ (b0 m_)
theorem q0 (v) : l0 .lim v = b0 .lim (l0 .lim) v := KS.q (k0 .lim) v
def s0 (m_ : ah) : SO P 82 := so m_ (k0 m_)
def run (m_ : ah) : (List Int) × (List Int) × Unit -> Option (List Int) := fun v_ => match v_ with
| (key, s, ()) =>
 (dD.run m_ (16, ())).bind fun r =>
 (dV.run m_ (key, r, ())).bind fun (r1, r2, ()) =>
 (bJ.run m_ (r1, ())).bind fun r3 =>
 (dD.run m_ (16, ())).bind fun r4 =>
 (bT.l0 m_ (key, s, r3, r4, ())).bind fun (key1, s1, k, x, ()) =>
 bif aB (s1.length : Int) then
 bif decide ((s1.length : Int) < 16) then
  (fK.run m_ (s1, ())).bind fun r5 =>
  (bJ.run m_ (k, ())).bind fun r6 =>
  (aX.run m_ (x, r5, ())).bind fun r7 =>
  (aX.run m_ (r7, r6, ())).bind fun r8 =>
  (dV.run m_ (key1, r8, ())).bind fun (r9, r10, ()) =>
  some r9
 else
  (aX.run m_ (x, s1, ())).bind fun r11 =>
  (aX.run m_ (r11, k, ())).bind fun r12 =>
  (dV.run m_ (key1, r12, ())).bind fun (r13, r14, ()) =>
  some r13 else none
theorem k (m_ : ah) : KT (O m_) [] ⟨82, [.one .str, .one .str], .one (.sh (.one .str)), run m_⟩ [s0 m_] := fun _ => by kernel_rfl
def c (m_ : ah) : CO P := co (k m_)
end bT

namespace dO
def O (m_ : ah) : OO P := gJ [aX.c m_, iW.c m_, bT.c m_, dD.c m_, bJ.c m_, fK.c m_]
def e0 : Spec := ⟨[fs 72 [.q 1012, .z 1012, .b 0, .q 127] [(0, .s), (1, .t), (6, .s), (7, .w)]], [], 0⟩
def x0 : List Spec := [⟨[fs 72 [.q 127] [(0, .s), (1, .t), (6, .s)]], [], 0⟩]
abbrev A0 : Type := LI × LL × LI × Int × Unit
abbrev B0 : Type := (LI × LL × LI × Unit)
def b0 (m_ : ah) (self : A0 -> Option B0) : A0 -> Option B0 := fun v_ => match v_ with
| (key, l, d, i, ()) =>
 bif aB (l.length : Int) then
 bif decide (i < (IntKind.i64.wrap ((l.length : Int) - 1))) then
  (bJ.run m_ (d, ())).bind fun r =>
  bif inB i (l.length : Int) then
  (bT.run m_ (key, (rd ([] : List Int) l i), ())).bind fun r1 =>
  (aX.run m_ (r, r1, ())).bind fun r2 =>
  self (key, l, r2, (IntKind.i64.wrap (i + 1)), ()) else none
 else
  some (key, l, d, ()) else none
theorem k0 (m_ : ah) : KQ 72 (O m_) [] e0 x0 [] (b0 m_) := fun _ _ => by kernel_rfl
def l0 (m_ : ah) : A0 -> Option B0 := loop m_ (b0 m_)
theorem q0 (v) : l0 .lim v = b0 .lim (l0 .lim) v := KS.q (k0 .lim) v
def s0 (m_ : ah) : SO P 72 := so m_ (k0 m_)
def run (m_ : ah) : (List Int) × (List (List Int)) × Unit -> Option ((List Int) × Int × Unit) := fun v_ => match v_ with
| (key, l, ()) =>
 (iW.run m_ (key, ())).bind fun r =>
 bif !r then
  some (([] : List Int), 13, ())
 else
  bif aB (l.length : Int) then
  bif decide ((l.length : Int) > 127) then
   some (([] : List Int), 18, ())
  else
   bif aB (l.length : Int) then
   bif decide ((l.length : Int) = 0) then
    (dD.run m_ (15, ())).bind fun r1 =>
    bif decide (r1.length + ([1] : List Int).length <= maxStr) then
    (bT.run m_ (key, (r1 ++ ([1] : List Int)), ())).bind fun r2 =>
    some (r2, 0, ()) else none
   else
    (dD.run m_ (16, ())).bind fun r3 =>
    (bT.run m_ (key, r3, ())).bind fun r4 =>
    (dO.l0 m_ (key, l, r4, 0, ())).bind fun (key1, l1, d, ()) =>
    bif aB (l1.length : Int) then
    bif inB (IntKind.i64.wrap ((l1.length : Int) - 1)) (l1.length : Int) then
    bif aB ((rd ([] : List Int) l1 (IntKind.i64.wrap ((l1.length : Int) - 1))).length : Int) then
    bif decide (((rd ([] : List Int) l1 (IntKind.i64.wrap ((l1.length : Int) - 1))).length : Int) < 16) then
     (bJ.run m_ (d, ())).bind fun r5 =>
     (fK.run m_ ((rd ([] : List Int) l1 (IntKind.i64.wrap ((l1.length : Int) - 1))), ())).bind fun r6 =>
     (aX.run m_ (r5, r6, ())).bind fun r7 =>
     (bT.run m_ (key1, r7, ())).bind fun r8 =>
     some (r8, 0, ())
    else
     bif aB ((rd ([] : List Int) l1 (IntKind.i64.wrap ((l1.length : Int) - 1))).length : Int) then
     bif dG 0 (IntKind.i64.wrap (((rd ([] : List Int) l1 (IntKind.i64.wrap ((l1.length : Int) - 1))).length : Int) - 16)) ((rd ([] : List Int) l1 (IntKind.i64.wrap ((l1.length : Int) - 1))).length : Int) then
     bif dG (IntKind.i64.wrap (((rd ([] : List Int) l1 (IntKind.i64.wrap ((l1.length : Int) - 1))).length : Int) - 16)) ((rd ([] : List Int) l1 (IntKind.i64.wrap ((l1.length : Int) - 1))).length : Int) ((rd ([] : List Int) l1 (IntKind.i64.wrap ((l1.length : Int) - 1))).length : Int) then
     (aX.run m_ ((cut (rd ([] : List Int) l1 (IntKind.i64.wrap ((l1.length : Int) - 1))) (IntKind.i64.wrap (((rd ([] : List Int) l1 (IntKind.i64.wrap ((l1.length : Int) - 1))).length : Int) - 16)) ((rd ([] : List Int) l1 (IntKind.i64.wrap ((l1.length : Int) - 1))).length : Int)), d, ())).bind fun r9 =>
     bif decide ((cut (rd ([] : List Int) l1 (IntKind.i64.wrap ((l1.length : Int) - 1))) 0 (IntKind.i64.wrap (((rd ([] : List Int) l1 (IntKind.i64.wrap ((l1.length : Int) - 1))).length : Int) - 16))).length + r9.length <= maxStr) then
     (bT.run m_ (key1, ((cut (rd ([] : List Int) l1 (IntKind.i64.wrap ((l1.length : Int) - 1))) 0 (IntKind.i64.wrap (((rd ([] : List Int) l1 (IntKind.i64.wrap ((l1.length : Int) - 1))).length : Int) - 16))) ++ r9), ())).bind fun r10 =>
     some (r10, 0, ()) else none else none else none else none else none else none else none else none else none
theorem k (m_ : ah) : KT (O m_) [] ⟨72, [.one .str, .one (.lst .str)], .jL [.sh (.one .str), .sh (.one (.int .i64))], run m_⟩ [s0 m_] := fun _ => by kernel_rfl
def c (m_ : ah) : CO P := co (k m_)
end dO

namespace jE
def O (m_ : ah) : OO P := gJ [dO.c m_]
def run (m_ : ah) : (List Int) × (List (List Int)) × (List Int) × Unit -> Option (List Int) := fun v_ => match v_ with
| (key, ad, plain, ()) =>
 bif decide (ad.length < 4398046511104) then
 bif decide (ad.length + ([plain] : List (List Int)).length < 4398046511104) then
 (dO.run m_ (key, (ad ++ ([plain] : List (List Int))), ())).bind fun (r, r1, ()) =>
 some r else none else none
theorem k (m_ : ah) : KT (O m_) [] ⟨64, [.one .str, .one (.lst .str), .one .str], .one (.sh (.one .str)), run m_⟩ [] := fun _ => by kernel_rfl
def c (m_ : ah) : CO P := co (k m_)
end jE

namespace jw
def O (m_ : ah) : OO P := gJ [iD.c m_, gX.c m_, jE.c m_]
def run (m_ : ah) : (List Int) × (List (List Int)) × (List Int) × Unit -> Option ((List Int) × Int × Unit) := fun v_ => match v_ with
| (key, ad, sealed, ()) =>
 (iD.run m_ (key, ad, ())).bind fun r =>
 bif !(decide (r = 0)) then
  some (([] : List Int), r, ())
 else
  bif aB (sealed.length : Int) then
  bif decide ((sealed.length : Int) < 16) then
   some (([] : List Int), 11, ())
  else
   bif aB (sealed.length : Int) then
   bif decide ((sealed.length : Int) > 65552) then
    some (([] : List Int), 12, ())
   else
    bif aB (key.length : Int) then
    bif dG 0 16 (sealed.length : Int) then
    bif dG (IntKind.i64.wrap ((key.length : Int).tdiv 2)) (key.length : Int) (key.length : Int) then
    bif dG 16 (sealed.length : Int) (sealed.length : Int) then
    (gX.run m_ ((cut key (IntKind.i64.wrap ((key.length : Int).tdiv 2)) (key.length : Int)), (cut sealed 0 16), (cut sealed 16 (sealed.length : Int)), ())).bind fun r1 =>
    bif dG 0 (IntKind.i64.wrap ((key.length : Int).tdiv 2)) (key.length : Int) then
    (jE.run m_ ((cut key 0 (IntKind.i64.wrap ((key.length : Int).tdiv 2))), ad, r1, ())).bind fun r2 =>
    bif !(decide (r2 = (cut sealed 0 16))) then
     some (([] : List Int), 17, ())
    else
     some (r1, 0, ()) else none else none else none else none else none else none else none
theorem k (m_ : ah) : KT (O m_) [] ⟨51, [.one .str, .one (.lst .str), .one .str], .jL [.sh (.one .str), .sh (.one (.int .i64))], run m_⟩ [] := fun _ => by kernel_rfl
def c (m_ : ah) : CO P := co (k m_)
end jw

namespace iE
def O (m_ : ah) : OO P := gJ []
def run (m_ : ah) : (List Int) × (List (List Int)) × Int × Unit -> Option (Int) := fun v_ => match v_ with
| (key, ad, n, ()) =>
 bif aB (key.length : Int) then
 bif ((!(!(decide ((key.length : Int) = 32)))) || (aB (key.length : Int))) then
 bif ((!(decide ((key.length : Int) = 32))) && (!(decide ((key.length : Int) = 64)))) then
  some 13
 else
  bif aB (ad.length : Int) then
  bif decide ((ad.length : Int) > 126) then
   some 18
  else
   bif decide (n > 65536) then
    some 12
   else
    some 0 else none else none else none
theorem k (m_ : ah) : KT (O m_) [] ⟨52, [.one .str, .one (.lst .str), .one (.int .i64)], .one (.sh (.one (.int .i64))), run m_⟩ [] := fun _ => by kernel_rfl
def c (m_ : ah) : CO P := co (k m_)
end iE

namespace b_
def O (m_ : ah) : OO P := gJ [jw.c m_, iE.c m_, cu.c m_]
def e0 : Spec := ⟨[fs 30 [.q 2036, .z 2036, .b 0, .q 255] [(1, .s), (2, .t), (3, .s), (4, .ptr 0 0), (11, .w)]], [(0, .c [.b, .dat y8])], 1⟩
def x0 : List Spec := [⟨[fs 30 [.q 260685, .b 1, .q 8147, .z 2036, .b 0, .q 255] [(8, .s), (9, .w)]], [], 0⟩, ⟨[fs 30 [.q 255] []], [], 0⟩]
abbrev A0 : Type := LI × LL × LI × Int × Bool × (List (List Int × (List LI × (List Int × List Int)))) × Unit
abbrev B0 : Type := (LI × Int × Unit) ⊕ (Unit)
def b0 (m_ : ah) (self : A0 -> Option B0) : A0 -> Option B0 := fun v_ => match v_ with
| (key, ad, sealed, i, m, m1, ()) =>
 bif aB (m1.length : Int) then
 bif decide (i < (m1.length : Int)) then
  bif inB i (m1.length : Int) then
  ((bif ((decide (((((rd fU m1 i).2).2).2) = sealed)) && (decide (((rd fU m1 i).1) = key))) then cu.run m_ (((rd fU m1 i).2).1, ad, ()) else some false)).bind fun r =>
  bif (((decide (((((rd fU m1 i).2).2).2) = sealed)) && (decide (((rd fU m1 i).1) = key))) && r) then
   some (.inl ((((rd fU m1 i).2).2).1, 0, ()))
  else
   self (key, ad, sealed, (IntKind.i64.wrap (i + 1)), m, m1, ()) else none
 else
  some (.inr (())) else none
theorem k0 (m_ : ah) : KQ 30 (O m_) [] e0 x0 [] (b0 m_) := fun _ _ => by kernel_rfl
def l0 (m_ : ah) : A0 -> Option B0 := loop m_ (b0 m_)
theorem q0 (v) : l0 .lim v = b0 .lim (l0 .lim) v := KS.q (k0 .lim) v
def s0 (m_ : ah) : SO P 30 := so m_ (k0 m_)
def run (m_ : ah) : P8 × (List Int) × (List (List Int)) × (List Int) × Unit -> Option ((List Int) × Int × Unit) := fun v_ => match v_ with
| (v, key, ad, sealed, ()) =>
 bif !v.1 then
  (jw.run m_ (key, ad, sealed, ())).bind fun (r, r1, ()) =>
  some (r, r1, ())
 else
  (iE.run m_ (key, ad, 0, ())).bind fun r2 =>
  bif !(decide (r2 = 0)) then
   some (([] : List Int), r2, ())
  else
   bif aB (sealed.length : Int) then
   bif decide ((sealed.length : Int) < 16) then
    some (([] : List Int), 11, ())
   else
    bif aB (sealed.length : Int) then
    bif decide ((sealed.length : Int) > 65552) then
     some (([] : List Int), 12, ())
    else
     (b_.l0 m_ (key, ad, sealed, 0, v.1, v.2, ())).bind fun g_ => match g_ with
     | .inl (t, t1, ()) =>
      some (t, t1, ())
     | .inr (()) =>
      some (([] : List Int), 17, ()) else none else none
theorem k (m_ : ah) : KT (O m_) [] ⟨30, [.ag y9, .one .str, .one (.lst .str), .one .str], .jL [.sh (.one .str), .sh (.one (.int .i64))], run m_⟩ [s0 m_] := fun _ => by kernel_rfl
def c (m_ : ah) : CO P := co (k m_)
end b_

namespace dJ
def O (m_ : ah) : OO P := gJ [gZ.c m_, aU.c m_, jv.c m_, cZ.c m_, b_.c m_]
def o0 : bV := .c [.b, .dat y8]
def o1 : bV := .c [.w, .w, .w, .w, .w, .w, .dat (.int .u32), .dat (.int .u32), .dat (.int .u32), .u, .u, .u, .u, .pz, .pz, .pz]
def o2 : bV := .c [.w, .w, .w, .w, .w, .w, .dat (.int .u32), .dat (.int .u32), .dat (.int .u32), .u, .u, .u, .u, .dat AL]
def e0 : Spec := ⟨[fs 10 [.q 2036, .z 2036, .b 0, .q 255] [(1, .s), (2, .s), (3, .ptr 0 0), (6, .ptr 1 0), (8, .ptr 2 0), (10, .own 3 (.int .i64)), (11, .w), (12, .w)]], [(0, o0), (1, o1), (2, o2), (3, .c [.row (.int .i64)])], 4⟩
def x0 : List Spec := [⟨[fs 10 [.q 255] [(1, .s), (2, .s), (3, .ptr 0 0), (6, .ptr 1 0), (8, .ptr 2 0), (10, .own 3 (.int .i64)), (11, .w)]], [(0, o0), (1, o1), (2, o2), (3, .c [.row (.int .i64)])], 4⟩]
abbrev A0 : Type := LI × LI × Int × Int × Bool × (List (List Int × (List LI × (List Int × List Int)))) × Int × Int × Int × Int × Int × Int × Int × Int × Int × Int × Int × Int × Int × Int × Int × Int × Int × Int × Int × Int × Int × Int × Int × Int × Int × Int × (List (Int × List Int)) × LI × Unit
abbrev B0 : Type := (LI × LI × Int × Bool × (List (List Int × (List LI × (List Int × List Int)))) × Int × Int × Int × Int × Int × Int × Int × Int × Int × Int × Int × Int × Int × Int × Int × Int × Int × Int × Int × Int × Int × Int × Int × Int × Int × Int × (List (Int × List Int)) × LI × Unit)
def b0 (m_ : ah) (self : A0 -> Option B0) : A0 -> Option B0 := fun v_ => match v_ with
| (s, key, n, i, m, m1, m2, m3, m4, m5, m6, m7, m8, m9, m10, m11, m12, m13, m14, m15, m16, m17, m18, m19, m20, m21, m22, m23, m24, tu, tC, vF, rP, wU, ()) =>
 bif inB 0 (wU.length : Int) then
 bif decide (i < (rd 0 wU 0)) then
  bif inB i (rP.length : Int) then
  bif aB (((rd ((0 : Int), ([] : List Int)) rP i).2).length : Int) then
  self (s, key, (IntKind.i64.wrap ((IntKind.i64.wrap (n + 4)) + (((rd ((0 : Int), ([] : List Int)) rP i).2).length : Int))), (IntKind.i64.wrap (i + 1)), m, m1, m2, m3, m4, m5, m6, m7, m8, m9, m10, m11, m12, m13, m14, m15, m16, m17, m18, m19, m20, m21, m22, m23, m24, tu, tC, vF, rP, wU, ()) else none else none
 else
  some (s, key, n, m, m1, m2, m3, m4, m5, m6, m7, m8, m9, m10, m11, m12, m13, m14, m15, m16, m17, m18, m19, m20, m21, m22, m23, m24, tu, tC, vF, rP, wU, ()) else none
theorem k0 (m_ : ah) : KQ 10 (O m_) [] e0 x0 [] (b0 m_) := fun _ _ => by kernel_rfl
def l0 (m_ : ah) : A0 -> Option B0 := loop m_ (b0 m_)
theorem q0 (v) : l0 .lim v = b0 .lim (l0 .lim) v := KS.q (k0 .lim) v
def s0 (m_ : ah) : SO P 10 := so m_ (k0 m_)
def run (m_ : ah) : P8 × (List Int) × (List Int) × Unit -> Option (DT0 × Int × Unit) := fun v_ => match v_ with
| (v, s, key, ()) =>
 (jv.run m_ (s, ())).bind fun (r, r1, ()) =>
 bif !(decide (r1 = 0)) then
  some (((0, (0, (0, (0, (0, (0, (0, (0, (0, (0, (0, (0, (0, ([] : List (Int × List Int))))))))))))))), Dq), r1, ())
 else
  (cZ.run m_ (r.2.2.2.2.2.2.2.2.2.2.2.2.2, 1028, ())).bind fun r2 =>
  bif aB (r2.length : Int) then
  bif decide ((r2.length : Int) = 0) then
   some (((0, (0, (0, (0, (0, (0, (0, (0, (0, (0, (0, (0, (0, ([] : List (Int × List Int))))))))))))))), Dq), 19, ())
  else
   (dJ.l0 m_ (s, key, 48, 0, v.1, v.2, 0, 0, 0, 0, 0, 0, 0, 0, 0, 0, 0, 0, 0, r.1, r.2.1, r.2.2.1, r.2.2.2.1, r.2.2.2.2.1, r.2.2.2.2.2.1, r.2.2.2.2.2.2.1, r.2.2.2.2.2.2.2.1, r.2.2.2.2.2.2.2.2.1, r.2.2.2.2.2.2.2.2.2.1, r.2.2.2.2.2.2.2.2.2.2.1, r.2.2.2.2.2.2.2.2.2.2.2.1, r.2.2.2.2.2.2.2.2.2.2.2.2.1, r.2.2.2.2.2.2.2.2.2.2.2.2.2, r2, ())).bind fun (s1, key1, n, m, m1, m2, m3, m4, m5, m6, m7, m8, m9, m10, m11, m12, m13, m14, m15, m16, m17, m18, m19, m20, m21, m22, m23, m24, tu, tC, vF, rP, wU, ()) =>
   bif inB 0 (wU.length : Int) then
   bif inB (rd 0 wU 0) (rP.length : Int) then
   (gZ.run m_ ((rd ((0 : Int), ([] : List Int)) rP (rd 0 wU 0)).2, ())).bind fun (r3, r4, r5, ()) =>
   bif !(decide (r5 = 0)) then
    some (((0, (0, (0, (0, (0, (0, (0, (0, (0, (0, (0, (0, (0, ([] : List (Int × List Int))))))))))))))), Dq), r5, ())
   else
    bif dG 0 n (s1.length : Int) then
    (b_.run m_ ((m, m1), key1, ([(cut s1 0 n), r3] : List (List Int)), r4, ())).bind fun (r6, r7, ()) =>
    bif !(decide (r7 = 0)) then
     some (((0, (0, (0, (0, (0, (0, (0, (0, (0, (0, (0, (0, (0, ([] : List (Int × List Int))))))))))))))), Dq), r7, ())
    else
     (aU.run m_ (r6, ())).bind fun (r8, r9, ()) =>
     bif !(decide (r9 = 0)) then
      some (((0, (0, (0, (0, (0, (0, (0, (0, (0, (0, (0, (0, (0, ([] : List (Int × List Int))))))))))))))), Dq), r9, ())
     else
      bif inB 0 (wU.length : Int) then
      bif dG 0 (rd 0 wU 0) (rP.length : Int) then
      some (((m15, (m16, (m17, (m18, (m19, (m20, (m21, (m22, (m23, (m24, (tu, (tC, (vF, ([] : List (Int × List Int))))))))))))))), ((cut rP 0 (rd 0 wU 0)), r8)), 0, ()) else none else none else none else none else none else none
theorem k (m_ : ah) : KT (O m_) [] ⟨10, [.ag y9, .one .str, .one .str], .jL [.sh (.ag WR), .sh (.one (.int .i64))], run m_⟩ [s0 m_] := fun _ => by kernel_rfl
def c (m_ : ah) : CO P := co (k m_)
end dJ

end
end Go.AM
end
section
namespace Go.AM
def WV : Nat -> Int -> Int -> Int -> Int
 | 0, _, _, r => r
 | n + 1, a, b, r => WV n (bif decide (gB .u8 a 128 = 0) then fA .u8 a 1 else dP .u8 (fA .u8 a 1) 27) (jc .u8 b 1) (bif decide (gB .u8 b 1 = 1) then dP .u8 r a else r)
def tm (a b : Int) : Int := WV 8 a b 0
theorem Yc : ∀ n a b r, B8 r -> B8 (WV n a b r)
 | 0, _, _, _, h => h
 | n + 1, a, b, r, h => Yc n _ _ _ (by cases decide (gB .u8 b 1 = 1) <;> first | exact h | exact CU _ _)
theorem WW (a b : Int) : B8 (tm a b) := Yc 8 a b 0 ⟨by decide, by decide⟩
theorem Ih (a b : Int) : cO.run .lim (a, b, ()) = some (tm a b) := by
 have key : ∀ (n i : Nat) (a b r : Int), i + n = 8 -> cO.l0 .lim (a, b, r, (i : Int), ()) = some (WV n a b r, ()) := by
  intro n
  induction n with
  | zero =>
   intro i a b r h;rw [cO.q0];simp (disch := omega) only [aV, aH, aQ, wrap64, au, aA, dec_not, dec_and, eY, dw, cond_true, cond_false, Option.bind_some, Option.bind_none, Bool.or_true, Bool.true_or, Bool.and_true, Bool.true_and, Bool.and_false, Bool.false_and, Bool.or_false, Bool.false_or, Bool.not_true, Bool.not_false, Bool.or_self, Bool.and_self, Bool.not_not, if_true, if_false, and_self, true_and, and_true, and_false, false_and, or_true, true_or, or_false, false_or, not_true_eq_false, not_false_eq_true, decide_true, decide_false, eq_self, if_pos, if_neg, iL, iq, cO.b0];rfl
  | succ n ih =>
   intro i a b r h;rw [cO.q0];simp only [cO.b0, lY i (by omega), ih (i + 1) _ _ _ (by omega), au (show (i : Int) < 8 by omega), cond_true];rw [WV];cases decide (gB .u8 b 1 = 1) <;> cases decide (gB .u8 a 128 = 0) <;> rfl
 have := key 8 0 a b 0 rfl;rw [show ((0 : Nat) : Int) = 0 from rfl] at this;simp only [cO.run, this, Option.bind_some];rfl
theorem LX : ∀ n a r, WV n a 0 r = r
 | 0, _, _ => rfl
 | n + 1, a, r => by
  rw [WV, show jc .u8 0 1 = 0 from by decide, LX n];rfl
theorem step_a {a : Int} (h : B8 a) : dP .u8 (fA .u8 a 1) (IntKind.u8.wrap (jc .u8 a 7 * 27)) = bif decide (gB .u8 a 128 = 0) then fA .u8 a 1 else dP .u8 (fA .u8 a 1) 27 :=
 iO (p := fun a => dP .u8 (fA .u8 a 1) (IntKind.u8.wrap (jc .u8 a 7 * 27)) = bif decide (gB .u8 a 128 = 0) then fA .u8 a 1 else dP .u8 (fA .u8 a 1) 27) (by decide +kernel) h
theorem bit_b {b : Int} (h : B8 b) : gB .u8 b 1 = 0 \/ gB .u8 b 1 = 1 :=
 iO (p := fun b => gB .u8 b 1 = 0 \/ gB .u8 b 1 = 1) (by decide +kernel) h
theorem Za {a : Int} : B8 (bif decide (gB .u8 a 128 = 0) then fA .u8 a 1 else dP .u8 (fA .u8 a 1) 27) := by
 cases decide (gB .u8 a 128 = 0)
 ·exact CU _ _
 ·exact P6 _ _
theorem pV {a b : Int} (ha : B8 a) (hb : B8 b) : fJ.run .lim (a, b, ()) = some (tm a b) := by
 have key : ∀ (n : Nat) (a b r : Int), B8 a -> B8 r -> 0 <= b -> b < 2 ^ n -> n <= 8 -> fJ.l0 .lim (a, b, r, ()) = some (WV n a b r, ()) := by
  intro n
  induction n with
  | zero =>
   intro a b r ha hr h0 h1 _;obtain rfl : b = 0 := by simp at h1; omega
   rw [fJ.q0];simp (disch := omega) only [aV, aH, aQ, wrap64, au, aA, dec_not, dec_and, eY, dw, cond_true, cond_false, Option.bind_some, Option.bind_none, Bool.or_true, Bool.true_or, Bool.and_true, Bool.true_and, Bool.and_false, Bool.false_and, Bool.or_false, Bool.false_or, Bool.not_true, Bool.not_false, Bool.or_self, Bool.and_self, Bool.not_not, if_true, if_false, and_self, true_and, and_true, and_false, false_and, or_true, true_or, or_false, false_or, not_true_eq_false, not_false_eq_true, decide_true, decide_false, eq_self, if_pos, if_neg, iL, iq, fJ.b0];rfl
  | succ n ih =>
   intro a b r ha hr h0 h1 hn;have hb : B8 b := by
    refine ⟨h0, Int.lt_of_lt_of_le h1 ?_⟩;have h2 : (2 : Int) ^ (n + 1) = ((2 ^ (n + 1) : Nat) : Int) := by simp
    have h3 : 2 ^ (n + 1) <= 2 ^ 8 := Nat.pow_le_pow_right (by omega) hn;rw [h2]; omega
   rw [fJ.q0];by_cases hz : b = 0
   ·subst hz;rw [LX];simp (disch := omega) only [aV, aH, aQ, wrap64, au, aA, dec_not, dec_and, eY, dw, cond_true, cond_false, Option.bind_some, Option.bind_none, Bool.or_true, Bool.true_or, Bool.and_true, Bool.true_and, Bool.and_false, Bool.false_and, Bool.or_false, Bool.false_or, Bool.not_true, Bool.not_false, Bool.or_self, Bool.and_self, Bool.not_not, if_true, if_false, and_self, true_and, and_true, and_false, false_and, or_true, true_or, or_false, false_or, not_true_eq_false, not_false_eq_true, decide_true, decide_false, eq_self, if_pos, if_neg, iL, iq, fJ.b0]
   ·have hs : jc .u8 b 1 = b / 2 := by rw [YS]; rfl
    have hm : IntKind.u8.wrap (a * gB .u8 b 1) = bif decide (gB .u8 b 1 = 1) then a else 0 := by
     rcases bit_b hb with e | e
     ·rw [e]; simp; decide
     ·rw [e, Int.mul_one, pR ha]; rfl
    have hx : dP .u8 r (bif decide (gB .u8 b 1 = 1) then a else 0) = bif decide (gB .u8 b 1 = 1) then dP .u8 r a else r := by
     cases decide (gB .u8 b 1 = 1)
     ·exact xor_zero hr
     ·rfl
    have hr' : B8 (bif decide (gB .u8 b 1 = 1) then dP .u8 r a else r) := by
     cases decide (gB .u8 b 1 = 1)
     ·exact hr
     ·exact CU _ _
    have h2 := ih _ (jc .u8 b 1) _ (@Za a) hr' (by rw [hs]; omega) (by rw [hs, Int.pow_succ] at *; omega) (by omega);simp only [fJ.b0, au (show b > 0 by omega), cond_true, step_a ha, hm, hx];rw [h2, WV]
 have := key 8 a b 0 ha ⟨by decide, by decide⟩ hb.1 hb.2 (by omega);simp only [fJ.run, this, Option.bind_some];rfl
noncomputable def zi (b : Int) : Int := (bU.run (.fuel 0) (b, ())).getD 0
set_option maxRecDepth 20000 in
theorem Ak {b : Int} (h : B8 b) : bU.run .lim (b, ()) = some (zi b) := by
 have h1 : ∀ b : Int, B8 b -> ∃ r, bU.run (.fuel 0) (b, ()) = some r := by
  intro b hb;exact ⟨_, cond_pos (aH hb.1 hb.2)⟩
 obtain ⟨r, hr⟩ := h1 b h;have : bU.run .lim (b, ()) = some r := hr;rw [this]; unfold zi; rw [hr]; rfl
def invS : Nat -> Int -> Int -> Int
 | 0, r, _ => r
 | n + 1, r, s => invS n (tm r (tm s s)) (tm s s)
def WX (b n : Int) : Int := oJ .u8 (fA .u8 b n) (jc .u8 b (8 - n))
def WY (b : Int) : Int := dP .u8 (dP .u8 (dP .u8 (dP .u8 (dP .u8 (invS 7 1 b) (WX (invS 7 1 b) 1)) (WX (invS 7 1 b) 2)) (WX (invS 7 1 b) 3)) (WX (invS 7 1 b) 4)) 99
theorem Om {b : Int} (hb : B8 b) : iJ.run .lim (b, ()) = some (invS 7 1 b) := by
 have key : ∀ (n i : Nat) (r s : Int), i + n = 7 -> B8 r -> B8 s -> iJ.l0 .lim (r, s, (i : Int), ()) = some (invS n r s, ()) := by
  intro n
  induction n with
  | zero =>
   intro i r s h _ _;rw [iJ.q0];simp (disch := omega) only [aV, aH, aQ, wrap64, au, aA, dec_not, dec_and, eY, dw, cond_true, cond_false, Option.bind_some, Option.bind_none, Bool.or_true, Bool.true_or, Bool.and_true, Bool.true_and, Bool.and_false, Bool.false_and, Bool.or_false, Bool.false_or, Bool.not_true, Bool.not_false, Bool.or_self, Bool.and_self, Bool.not_not, if_true, if_false, and_self, true_and, and_true, and_false, false_and, or_true, true_or, or_false, false_or, not_true_eq_false, not_false_eq_true, decide_true, decide_false, eq_self, if_pos, if_neg, iL, iq, iJ.b0];rfl
  | succ n ih =>
   intro i r s h hr hs;rw [iJ.q0];simp only [iJ.b0, lY i (by omega), au (show (i : Int) < 7 by omega), cond_true, pV hs hs, Option.bind_some, pV hr (WW s s), ih (i + 1) _ _ (by omega) (WW _ _) (WW _ _)];rfl
 have := key 7 0 1 b rfl ⟨by decide, by decide⟩ hb;rw [show ((0 : Nat) : Int) = 0 from rfl] at this;simp only [iJ.run, this, Option.bind_some]
theorem Zb {b : Int} (hb : B8 b) : rF.run .lim (b, ()) = some (WY b) := by
 simp only [rF.run, Om hb, Option.bind_some];have w : ∀ n : Int, qw.run .lim (invS 7 1 b, n, ()) = bif decide (0 <= n) then (bif decide (0 <= IntKind.i64.wrap (8 - n)) then some (oJ .u8 (fA .u8 (invS 7 1 b) n) (jc .u8 (invS 7 1 b) (IntKind.i64.wrap (8 - n)))) else none) else none := fun n => rfl
 rw [w, w, w, w];rfl
theorem Ii : ∀ n : Nat, n < 256 -> WY n = zi n := by decide +kernel
theorem Qc {b : Int} (hb : B8 b) : rF.run .lim (b, ()) = some (zi b) := by rw [Zb hb, iO (p := fun b => WY b = zi b) Ii hb]
theorem Qd {b : Int} (hb : B8 b) : B8 (zi b) := by rw [<- iO (p := fun b => WY b = zi b) Ii hb]; exact CU _ _
end Go.AM
end
section
namespace Go.AM
abbrev z4 : List Int := List.replicate 4 0
abbrev CW : List Int := List.replicate 16 0
abbrev dY : List Int := List.replicate 256 0
abbrev kL : List Int := [1, 2, 3, 9, 11, 13, 14]
theorem Yd : ∀ k : Nat, k < 7 -> 0 <= rd 0 kL (k : Int) /\ rd 0 kL (k : Int) < 16 := by decide
def dK (k : Nat) : List (List Int) :=
 let t := fun j : Int => mQ 256 k fun i => tm (i : Int) j
 [dY, t 1, t 2, t 3, dY, dY, dY, dY, dY, t 9, dY, t 11, dY, t 13, t 14, dY]
def CX (i : Nat) (yb : List (List Int)) : Nat -> List (List Int)
 | 0 => yb
 | k + 1 => (CX i yb k).set (rd 0 kL (k : Int)).toNat ((rd dY (CX i yb k) (rd 0 kL (k : Int))).set i (tm (i : Int) (rd 0 kL (k : Int))))
theorem Qe (k : Nat) : CX k (dK k) 7 = dK (k + 1) := by
 have e : CX k (dK k) 7 = (
  let t := fun j : Int => (mQ 256 k fun i => tm (i : Int) j).set k (tm (k : Int) j)
  [dY, t 1, t 2, t 3, dY, dY, dY, dY, dY, t 9, dY, t 11, dY, t 13, t 14, dY]) := rfl
 have h : ∀ j : Int, (mQ 256 k fun i => tm (i : Int) j).set k (tm (k : Int) j) = mQ 256 (k + 1) fun i => tm (i : Int) j := fun j => oD rfl
 rw [e];simp only [h];rfl
theorem Fv : dK 0 = List.replicate 16 dY := by
 unfold dK;simp only [nK];rfl
noncomputable def BG : Nat -> List Int
 | 0 => dY
 | k + 1 => (BG k).set (zi (k : Int)).toNat (k : Int)
noncomputable def mX (k : Nat) : List Int := mQ 256 k fun i => zi (i : Int)
theorem rQ {x : Int} (h : B8 x) : rd 0 (mX 256) x = zi x := by
 unfold mX;rw [su, P7 h.1 (by exact h.2), show ((x.toNat : Nat) : Int) = x by have := h.1; omega]
theorem rG {x : Int} (h : B8 x) : rd 0 (rd dY (dK 256) 1) x = tm x 1 /\ rd 0 (rd dY (dK 256) 2) x = tm x 2 /\ rd 0 (rd dY (dK 256) 3) x = tm x 3 := by
 have e : ∀ j : Int, rd 0 (mQ 256 256 fun i => tm (i : Int) j) x = tm x j := fun j => by rw [su, P7 h.1 (by exact h.2), show ((x.toNat : Nat) : Int) = x by have := h.1; omega]
 exact ⟨e 1, e 2, e 3⟩
def word (key : List Int) (j : Nat) : List Int := [rd 0 key ((4 * j : Nat) : Int), rd 0 key ((4 * j + 1 : Nat) : Int), rd 0 key ((4 * j + 2 : Nat) : Int), rd 0 key ((4 * j + 3 : Nat) : Int)]
theorem Ye {m : List Int} {k : Nat} (h : k + 4 <= m.length) : (m.drop k).take 4 = [rd 0 m (k : Int), rd 0 m ((k + 1 : Nat) : Int), rd 0 m ((k + 2 : Nat) : Int), rd 0 m ((k + 3 : Nat) : Int)] := by
 rw [mW (show k < m.length by omega), mW (show k + 1 < m.length by omega), mW (show k + 2 < m.length by omega), mW (show k + 3 < m.length by omega)];rw [List.drop_eq_getElem_cons (show k < m.length by omega), List.drop_eq_getElem_cons (show k + 1 < m.length by omega), List.drop_eq_getElem_cons (show k + 2 < m.length by omega), List.drop_eq_getElem_cons (show k + 3 < m.length by omega)];rfl
theorem mV {α : Type} (m : List α) (a b : Nat) : cut m (a : Int) (b : Int) = (m.drop a).take (b - a) := by unfold cut; rw [Int.toNat_natCast, Int.toNat_natCast, List.drop_take]
theorem LY {key : List Int} {j : Nat} (h : 4 * j + 4 <= key.length) : (cut key ((4 * j : Nat) : Int) ((4 * j + 4 : Nat) : Int)).take 4 = word key j := by
 rw [mV, show 4 * j + 4 - 4 * j = 4 by omega, List.take_take, Nat.min_self, Ye h];rfl
def Words (W : List (List Int)) : Prop := ∀ w ∈ W, w.length = 4 /\ ∀ x ∈ w, B8 x
theorem Words.at {W : List (List Int)} (h : Words W) {i : Nat} (hi : i < W.length) : (rd z4 W (i : Int)).length = 4 /\ ∀ x ∈ rd z4 W (i : Int), B8 x := h _ (fC (by omega) (by omega))
theorem Words.byte {W : List (List Int)} (h : Words W) {i : Nat} (hi : i < W.length) {j : Int} (h0 : 0 <= j) (hj : j < 4) : B8 (rd 0 (rd z4 W (i : Int)) j) := by
 have := h.at hi;exact this.2 _ (fC h0 (by omega))
theorem sH {W : List (List Int)} (h : Words W) : W.flatten.length = 4 * W.length := by
 induction W with
 | nil => rfl
 | cons w W ih =>
  rw [List.flatten_cons, List.length_append, ih fun x hx => h x (.tail _ hx), (h w (.head _)).1, List.length_cons]; omega
theorem nV {W : List (List Int)} (h : Words W) {i j : Nat} (hi : i < W.length) (hj : j < 4) : rd 0 W.flatten ((4 * i + j : Nat) : Int) = rd 0 (rd z4 W (i : Int)) (j : Int) := by
 induction W generalizing i with
 | nil => simp at hi
 | cons w W ih =>
  have hw := (h w (.head _)).1;cases i with
  | zero =>
   unfold rd;simp only [Int.toNat_natCast, List.flatten_cons, List.getD_eq_getElem?_getD];rw [List.getElem?_append_left (by omega)];simp
  | succ i =>
   have := ih (fun x hx => h x (.tail _ hx)) (by simpa using hi);unfold rd at this ⊢
   simp only [Int.toNat_natCast, List.flatten_cons, List.getD_eq_getElem?_getD] at this ⊢
   rw [List.getElem?_append_right (by omega), show 4 * (i + 1) + j - w.length = 4 * i + j by omega, this];simp
noncomputable def Qg (nk : Nat) (i : Nat) (x : Int) (t : List Int) : List Int :=
 if i % nk = 0 then [dP .u8 (zi (rd 0 t 1)) x, zi (rd 0 t 2), zi (rd 0 t 3), zi (rd 0 t 0)]
 else if nk = 8 /\ i % 8 = 4 then [zi (rd 0 t 0), zi (rd 0 t 1), zi (rd 0 t 2), zi (rd 0 t 3)]
 else [rd 0 t 0, rd 0 t 1, rd 0 t 2, rd 0 t 3]
def Fz (t w : List Int) : List Int := [dP .u8 (rd 0 t 0) (rd 0 w 0), dP .u8 (rd 0 t 1) (rd 0 w 1), dP .u8 (rd 0 t 2) (rd 0 w 2), dP .u8 (rd 0 t 3) (rd 0 w 3)]
noncomputable def stepW (nk : Nat) (s : List (List Int) × Int) : List (List Int) × Int :=
 (s.1 ++ [Fz (Qg nk s.1.length s.2 (rd z4 s.1 ((s.1.length - 1 : Nat) : Int))) (rd z4 s.1 ((s.1.length - nk : Nat) : Int))], if s.1.length % nk = 0 then tm s.2 2 else s.2)
noncomputable def sched (nk : Nat) (key : List Int) : Nat -> List (List Int) × Int
 | 0 => ((List.range nk).map (word key), 1)
 | k + 1 => stepW nk (sched nk key k)
theorem sJ (nk : Nat) (key : List Int) : ∀ k, (sched nk key k).1.length = nk + k
 | 0 => by simp [sched]
 | k + 1 => by rw [sched, stepW, List.length_append, sJ nk key k]; rfl
theorem DI (t w : List Int) : (Fz t w).length = 4 /\ ∀ x ∈ Fz t w, B8 x := by
 refine ⟨rfl, fun x hx => ?_⟩;simp only [Fz, List.mem_cons, List.not_mem_nil, or_false] at hx;rcases hx with rfl | rfl | rfl | rfl <;> exact CU _ _
theorem wZ (nk : Nat) (key : List Int) (hk : 4 * nk <= key.length) (hb : ∀ x ∈ key, B8 x) : ∀ k, Words (sched nk key k).1 /\ B8 (sched nk key k).2
 | 0 => by
  refine ⟨fun w hw => ?_, show B8 1 from ⟨by decide, by decide⟩⟩;obtain ⟨j, hj, rfl⟩ := List.mem_map.1 hw;have hj := List.mem_range.1 hj;refine ⟨rfl, fun x hx => ?_⟩;simp only [word, List.mem_cons, List.not_mem_nil, or_false] at hx;rcases hx with rfl | rfl | rfl | rfl <;> exact hb _ (fC (by omega) (by omega))
 | k + 1 => by
  obtain ⟨h1, h2⟩ := wZ nk key hk hb k;refine ⟨fun w hw => ?_, ?_⟩
  ·rcases List.mem_append.1 hw with hw | hw
   ·exact h1 w hw
   ·rw [List.mem_singleton.1 hw]; exact DI _ _
  ·show B8 (if _ then tm _ 2 else _);split
   ·exact WW _ _
   ·exact h2
noncomputable def kG (key : List Int) : List (List Int) := (sched (key.length / 4) key (3 * (key.length / 4) + 28)).1
theorem sK (key : List Int) : (kG key).length = 4 * (key.length / 4) + 28 := by unfold kG; rw [sJ]; omega
theorem xK (key : List Int) (hb : ∀ x ∈ key, B8 x) : Words (kG key) := (wZ _ key (by omega) hb _).1
def qy (W : List (List Int)) (j : Nat) : List Int := rd z4 W ((4 * j : Nat) : Int) ++ (rd z4 W ((4 * j + 1 : Nat) : Int) ++ (rd z4 W ((4 * j + 2 : Nat) : Int) ++ rd z4 W ((4 * j + 3 : Nat) : Int)))
def h_ (W : List (List Int)) : List (List Int) := (List.range (W.length / 4)).map (qy W)
theorem Am {W : List (List Int)} (h : Words W) {j : Nat} (hj : 4 * j + 3 < W.length) : (qy W j).length = 16 := by
 unfold qy;simp only [List.length_append, (h.at (show 4 * j < W.length by omega)).1, (h.at (show 4 * j + 1 < W.length by omega)).1, (h.at (show 4 * j + 2 < W.length by omega)).1, (h.at hj).1]
theorem DJ {W : List (List Int)} (h : Words W) {i : Nat} (hi : i < W.length) : (W.flatten.drop (4 * i)).take 4 = rd z4 W (i : Int) := by
 have hl := sH h;rw [Ye (by omega), list4 (h.at hi).1];have := nV h hi (j := 0) (by omega);rw [show 4 * i + 0 = 4 * i from rfl] at this;rw [this, nV h hi (j := 1) (by omega), nV h hi (j := 2) (by omega), nV h hi (j := 3) (by omega)];rfl
theorem LZ {W : List (List Int)} (h : Words W) {j : Nat} (hj : 4 * j + 3 < W.length) : cut W.flatten ((16 * j : Nat) : Int) ((16 * j + 16 : Nat) : Int) = qy W j := by
 have hl := sH h;have e0 := DJ h (show 4 * j < W.length by omega);have e1 := DJ h (show 4 * j + 1 < W.length by omega);have e2 := DJ h (show 4 * j + 2 < W.length by omega);have e3 := DJ h hj;rw [show 4 * (4 * j) = 16 * j by omega] at e0;rw [show 4 * (4 * j + 1) = 16 * j + 4 by omega] at e1;rw [show 4 * (4 * j + 2) = 16 * j + 8 by omega] at e2;rw [show 4 * (4 * j + 3) = 16 * j + 12 by omega] at e3;rw [mV, show 16 * j + 16 - 16 * j = 4 + (4 + (4 + 4)) by omega, List.take_add, List.take_add, List.take_add, List.drop_drop, List.drop_drop, List.drop_drop];unfold qy;rw [e0, e1, show 16 * j + 4 + 4 = 16 * j + 8 by omega, e2, show 16 * j + 8 + 4 = 16 * j + 12 by omega, e3]
noncomputable def qA (b : List Int) : List Int := tab 16 fun i => zi (rd 0 b (((i + 4 * (i % 4)) % 16 : Nat) : Int))
def oH (b : List Int) : List Int := tab 16 fun i =>
 dP .u8 (dP .u8 (dP .u8 (dP .u8 0 (tm (rd 0 b ((i / 4 * 4 + i % 4 : Nat) : Int)) 2)) (tm (rd 0 b ((i / 4 * 4 + (i + 1) % 4 : Nat) : Int)) 3)) (tm (rd 0 b ((i / 4 * 4 + (i + 2) % 4 : Nat) : Int)) 1)) (tm (rd 0 b ((i / 4 * 4 + (i + 3) % 4 : Nat) : Int)) 1)
def uX (b k : List Int) : List Int := tab 16 fun i => dP .u8 (rd 0 b (i : Int)) (rd 0 k (i : Int))
noncomputable def Oo (last : Bool) (b k : List Int) : List Int := uX (bif last then qA b else oH (qA b)) k
noncomputable def qB (W : List (List Int)) (b : List Int) : Nat -> List Int
 | 0 => uX b (qy W 0)
 | j + 1 => Oo (decide (j + 2 = W.length / 4)) (qB W b j) (qy W (j + 1))
noncomputable def encS (key b : List Int) : List Int := qB (kG key) b ((kG key).length / 4 - 1)
def CY (b : List Int) : Prop := b.length = 16 /\ ∀ x ∈ b, B8 x
theorem Ij {n : Nat} {g : Nat -> Int} (h : ∀ k, k < n -> B8 (g k)) : ∀ x ∈ tab n g, B8 x := by
 intro x hx;obtain ⟨i, hi, rfl⟩ := List.mem_map.1 hx;exact h i (List.mem_range.1 hi)
theorem L6 (b k : List Int) : CY (uX b k) := ⟨jg, Ij fun _ _ => CU _ _⟩
theorem DK (W : List (List Int)) (b : List Int) : ∀ j, CY (qB W b j)
 | 0 => L6 _ _
 | _ + 1 => L6 _ _
theorem pG (key b : List Int) : CY (encS key b) := DK _ _ _
theorem CY.at {b : List Int} (h : CY b) {i : Nat} (hi : i < 16) : B8 (rd 0 b (i : Int)) := h.2 _ (fC (by omega) (by rw [h.1]; omega))
end Go.AM
end
section
namespace Go.AM
theorem rd40 (a b c d : Int) : rd 0 [a, b, c, d] 0 = a := rfl
theorem rd41 (a b c d : Int) : rd 0 [a, b, c, d] 1 = b := rfl
theorem rd42 (a b c d : Int) : rd 0 [a, b, c, d] 2 = c := rfl
theorem rd43 (a b c d : Int) : rd 0 [a, b, c, d] 3 = d := rfl
theorem JB {α : Type} {d : α} {a b : List α} {k : Nat} (h : k < a.length) : rd d (a ++ b) (k : Int) = rd d a (k : Int) := by unfold rd; rw [Int.toNat_natCast, List.getD_eq_getElem?_getD, List.getD_eq_getElem?_getD, List.getElem?_append_left h]
theorem Oq {key : List Int} {q : Nat} (h : key.length = 4 * q) (hb : ∀ x ∈ key, B8 x) : ((List.range q).map (word key)).flatten = key := by
 have hW : Words ((List.range q).map (word key)) := by
  intro w hw;obtain ⟨j, hj, rfl⟩ := List.mem_map.1 hw;have hj := List.mem_range.1 hj;refine ⟨rfl, fun x hx => ?_⟩;simp only [word, List.mem_cons, List.not_mem_nil, or_false] at hx;rcases hx with rfl | rfl | rfl | rfl <;> exact hb _ (fC (by omega) (by omega))
 have hl := sH hW;rw [List.length_map, List.length_range] at hl;refine BD (d := 0) (by omega) fun k hk => ?_
 have hi : k / 4 < ((List.range q).map (word key)).length := by simp; omega
 have := nV hW hi (j := k % 4) (by omega);rw [show 4 * (k / 4) + k % 4 = k by omega] at this;rw [this, mW hi];simp only [List.getElem_map, List.getElem_range, word];rcases (show k % 4 = 0 \/ k % 4 = 1 \/ k % 4 = 2 \/ k % 4 = 3 by omega) with e | e | e | e <;> rw [e]
 ·show rd 0 key ((4 * (k / 4) : Nat) : Int) = _; congr 2; omega
 ·show rd 0 key ((4 * (k / 4) + 1 : Nat) : Int) = _; congr 2; omega
 ·show rd 0 key ((4 * (k / 4) + 2 : Nat) : Int) = _; congr 2; omega
 ·show rd 0 key ((4 * (k / 4) + 3 : Nat) : Int) = _; congr 2; omega
theorem WZ {W : List (List Int)} (hW : Words W) {i nk : Nat} {c : Int} {t : List Int} (h1 : nk <= i) (h2 : i = W.length) (h3 : 0 < nk) (h4 : i < 1000) (ht : t.length = 4) :
  aO.l0 .lim ((nk : Int), c, (i : Int), 0, W.flatten, t, ()) = some ((nk : Int), c, (i : Int), W.flatten ++ Fz t (rd z4 W ((i - nk : Nat) : Int)), ()) := by
 have hl := sH hW;have hx : ∀ k : Nat, k < 4 -> rd 0 (Fz t (rd z4 W ((i - nk : Nat) : Int))) (k : Int) = dP .u8 (rd 0 t (k : Int)) (rd 0 (rd z4 W ((i - nk : Nat) : Int)) (k : Int)) := by
  intro k hk;rcases (show k = 0 \/ k = 1 \/ k = 2 \/ k = 3 by omega) with rfl | rfl | rfl | rfl <;> rfl
 have e := dA (f := aO.l0 .lim) (fun k => ((nk : Int), c, (i : Int), (k : Int), W.flatten ++ (Fz t (rd z4 W ((i - nk : Nat) : Int))).take k, t, ())) (n := 4) (fun k hk => by
  rw [aO.q0];have w1 : IntKind.i64.wrap (4 * IntKind.i64.wrap ((i : Int) - (nk : Int))) = ((4 * (i - nk) : Nat) : Int) := by rw [wrap64 (n := (i : Int) - (nk : Int)) (by omega) (by omega), wrap64 (by omega) (by omega)]; omega
  have w2 : IntKind.i64.wrap (((4 * (i - nk) : Nat) : Int) + (k : Int)) = ((4 * (i - nk) + k : Nat) : Int) := by rw [wrap64 (by omega) (by omega)]; omega
  have hr := nV hW (i := i - nk) (j := k) (by omega) hk;have ha : rd 0 (W.flatten ++ (Fz t (rd z4 W ((i - nk : Nat) : Int))).take k) ((4 * (i - nk) + k : Nat) : Int) = rd 0 (rd z4 W ((i - nk : Nat) : Int)) (k : Int) := by rw [JB (by omega), hr]
  have hlen : (W.flatten ++ (Fz t (rd z4 W ((i - nk : Nat) : Int))).take k).length = 4 * i + k := by rw [List.length_append, hl, List.length_take, (DI _ _).1]; omega
  simp only [aO.b0, au (show (k : Int) < 4 by omega), w1, w2, ha, hlen, aH (show (0 : Int) <= ((4 * (i - nk) + k : Nat) : Int) by omega) (show ((4 * (i - nk) + k : Nat) : Int) < ((4 * i + k : Nat) : Int) by omega), aH (show (0 : Int) <= k by omega) (show (k : Int) < (t.length : Int) by omega), cond_true, lY k (by omega)];rw [cond_pos (by simp; omega), Ah (d := (0 : Int)) (by rw [(DI _ _).1]; omega), hx k hk, xor_comm, List.append_assoc])
 rw [List.take_zero, List.append_nil, show ((0 : Nat) : Int) = 0 from rfl] at e;rw [e, List.take_of_length_le (by rw [(DI _ _).1]; omega), aO.q0];simp only [aO.b0, aA (show ¬ ((4 : Nat) : Int) < 4 by decide), cond_false]
theorem Ik {key : List Int} (hk : key.length = 16 \/ key.length = 32) (hb : ∀ x ∈ key, B8 x) : aO.run .lim (key, ()) = some (kG key).flatten := by
 have hd : (key.length : Int).tdiv 4 = ((key.length / 4 : Nat) : Int) := by rw [Int.tdiv_eq_ediv_of_nonneg (Int.natCast_nonneg _)]; simp
 have w0 : IntKind.i64.wrap ((key.length : Int).tdiv 4) = ((key.length / 4 : Nat) : Int) := by rw [hd, wrap64 (by omega) (by omega)]
 generalize hnk : key.length / 4 = nk at w0;have hn : nk = 4 \/ nk = 8 := by omega
 have e := dA (f := aO.l1 .lim) (fun k => ((nk : Int), (sched nk key k).2, ((nk + k : Nat) : Int), (sched nk key k).1.flatten, ())) (n := 3 * nk + 28) (fun k hkq => by
  rw [aO.q1];obtain ⟨hW, hx⟩ := wZ nk key (by omega) hb k;have hl := sJ nk key k;have hs : sched nk key (k + 1) = stepW nk (sched nk key k) := rfl;rw [hs];unfold stepW;generalize hq : sched nk key k = q at hW hx hl;obtain ⟨W, x⟩ := q;simp only at hW hx hl ⊢
  have hi0 : nk + k < 1000 := by omega
  generalize hi : nk + k = i at hl hi0;have hw := hW.at (show i - 1 < W.length by omega);have hfl := sH hW;have hb0 := hW.byte (show i - 1 < W.length by omega) (j := 0) (by omega) (by omega);have hb1 := hW.byte (show i - 1 < W.length by omega) (j := 1) (by omega) (by omega);have hb2 := hW.byte (show i - 1 < W.length by omega) (j := 2) (by omega) (by omega);have hb3 := hW.byte (show i - 1 < W.length by omega) (j := 3) (by omega) (by omega);have f0 := nV hW (show i - 1 < W.length by omega) (j := 0) (by omega);have f1 := nV hW (show i - 1 < W.length by omega) (j := 1) (by omega);have f2 := nV hW (show i - 1 < W.length by omega) (j := 2) (by omega);have f3 := nV hW (show i - 1 < W.length by omega) (j := 3) (by omega);rw [show 4 * (i - 1) + 0 = 4 * i - 4 by omega, show ((0 : Nat) : Int) = 0 from rfl] at f0;rw [show 4 * (i - 1) + 1 = 4 * i - 3 by omega, show ((1 : Nat) : Int) = 1 from rfl] at f1;rw [show 4 * (i - 1) + 2 = 4 * i - 2 by omega, show ((2 : Nat) : Int) = 2 from rfl] at f2;rw [show 4 * (i - 1) + 3 = 4 * i - 1 by omega, show ((3 : Nat) : Int) = 3 from rfl] at f3;have w1 : IntKind.i64.wrap (4 * IntKind.i64.wrap ((nk : Int) + 7)) = ((4 * nk + 28 : Nat) : Int) := by rw [wrap64 (n := (nk : Int) + 7) (by omega) (by omega), wrap64 (by omega) (by omega)]; omega
  have w2 : IntKind.i64.wrap (4 * (i : Int)) = ((4 * i : Nat) : Int) := by rw [wrap64 (by omega) (by omega)]; omega
  have w4 : IntKind.i64.wrap (((4 * i : Nat) : Int) - 4) = ((4 * i - 4 : Nat) : Int) := by rw [wrap64 (by omega) (by omega)]; omega
  have w5 : IntKind.i64.wrap (((4 * i : Nat) : Int) - 3) = ((4 * i - 3 : Nat) : Int) := by rw [wrap64 (by omega) (by omega)]; omega
  have w6 : IntKind.i64.wrap (((4 * i : Nat) : Int) - 2) = ((4 * i - 2 : Nat) : Int) := by rw [wrap64 (by omega) (by omega)]; omega
  have w7 : IntKind.i64.wrap (((4 * i : Nat) : Int) - 1) = ((4 * i - 1 : Nat) : Int) := by rw [wrap64 (by omega) (by omega)]; omega
  have m1 : ((i : Int)).tmod (nk : Int) = ((i % nk : Nat) : Int) := by rw [Int.tmod_eq_emod_of_nonneg (Int.natCast_nonneg i)]; simp
  have m2 : ((i : Int)).tmod 8 = ((i % 8 : Nat) : Int) := by rw [Int.tmod_eq_emod_of_nonneg (Int.natCast_nonneg i)]; simp
  have FB := fun c t ht => WZ (c := c) (t := t) hW (i := i) (nk := nk) (by omega) (by omega) (by omega) (by omega) ht
  have hin : ∀ j : Nat, 1 <= j -> j <= 4 -> inB ((4 * i - j : Nat) : Int) (W.flatten.length : Int) = true := fun j h1 h2 => aH (by omega) (by omega)
  simp only [aO.b1, w1, w2, w4, w5, w6, w7, au (show (i : Int) < ((4 * nk + 28 : Nat) : Int) by omega), hin 4 (by omega) (by omega), hin 3 (by omega) (by omega), hin 2 (by omega) (by omega), hin 1 (by omega) (by omega), aA (show ¬ (nk : Int) = 0 by omega), m1, m2, cond_true, Bool.not_false, Bool.or_true, f0, f1, f2, f3, rd40, rd41, rd42, rd43, Ak hb0, Ak hb1, Ak hb2, Ak hb3, Option.bind_some, Ih];have hi4 : ∀ (a b c d : Int) (j : Int), 0 <= j -> j < 4 -> inB j (([a, b, c, d] : List Int).length : Int) = true := fun a b c d j h1 h2 => aH h1 h2
  simp only [hi4 _ _ _ _ 0 (by omega) (by omega), hi4 _ _ _ _ 1 (by omega) (by omega), hi4 _ _ _ _ 2 (by omega) (by omega), hi4 _ _ _ _ 3 (by omega) (by omega), cond_true];rw [hl];unfold Qg;have hfa : ∀ v : List Int, (W ++ [v]).flatten = W.flatten ++ v := fun v => by simp
  rw [hfa];by_cases c1 : i % nk = 0
  ·rw [au (show ((i % nk : Nat) : Int) = 0 by omega), if_pos c1, if_pos c1];simp only [cond_true];rw [FB _ _ rfl];simp only [Option.bind_some, lY i (by omega)];rw [show i + 1 = nk + (k + 1) by omega]
  ·rw [aA (show ¬ ((i % nk : Nat) : Int) = 0 by omega), if_neg c1, if_neg c1];simp only [cond_false];by_cases c2 : nk = 8 /\ i % 8 = 4
   ·rw [au (show (nk : Int) = 8 by omega), au (show ((i % 8 : Nat) : Int) = 4 by omega), if_pos c2];simp only [Bool.and_self, cond_true];rw [FB _ _ rfl];simp only [Option.bind_some, lY i (by omega)];rw [show i + 1 = nk + (k + 1) by omega]
   ·have : (decide ((nk : Int) = 8) && decide (((i % 8 : Nat) : Int) = 4)) = false := by
     by_cases c3 : nk = 8
     ·rw [aA (show ¬ ((i % 8 : Nat) : Int) = 4 by omega), Bool.and_false]
     ·rw [aA (show ¬ (nk : Int) = 8 by omega), Bool.false_and]
    rw [this, if_neg c2];simp only [cond_false];rw [FB _ _ rfl];simp only [Option.bind_some, lY i (by omega)];rw [show i + 1 = nk + (k + 1) by omega])
 have hs0 : (sched nk key 0).1.flatten = key := Oq (by omega) hb;rw [hs0, show (sched nk key 0).2 = 1 from rfl, Nat.add_zero] at e;have w1 : IntKind.i64.wrap (4 * IntKind.i64.wrap ((nk : Int) + 7)) = ((4 * nk + 28 : Nat) : Int) := by rw [wrap64 (n := (nk : Int) + 7) (by omega) (by omega), wrap64 (by omega) (by omega)]; omega
 simp only [aO.run, aF (show key.length < 9223372036854775808 by omega), cond_true, w0, e];rw [aO.q1];simp only [aO.b1, w1, aA (show ¬ ((nk + (3 * nk + 28) : Nat) : Int) < ((4 * nk + 28 : Nat) : Int) by omega), cond_false, Option.bind_some];unfold kG;rw [hnk]
theorem Rj {b : List Int} (hb : b.length = 16) : aT.run .lim (b, false, ()) = some (tab 16 fun i => rd 0 b (((i + 4 * (i % 4)) % 16 : Nat) : Int)) := by
 have inner : ∀ c : Nat, c < 4 -> aT.l0 .lim (b, false, (c : Int), 0, mQ 16 (4 * c) (fun i => rd 0 b (((i + 4 * (i % 4)) % 16 : Nat) : Int)), ()) = some (b, false, (c : Int), mQ 16 (4 * c + 4) (fun i => rd 0 b (((i + 4 * (i % 4)) % 16 : Nat) : Int)), ()) := by
  intro c hc;have e := dA (f := aT.l0 .lim) (fun r => (b, false, (c : Int), (r : Int), mQ 16 (4 * c + r) (fun i => rd 0 b (((i + 4 * (i % 4)) % 16 : Nat) : Int)), ())) (n := 4) (fun r hr => by
   rw [aT.q0];have w1 : IntKind.i64.wrap (4 * (c : Int)) = ((4 * c : Nat) : Int) := by rw [wrap64 (by omega) (by omega)]; omega
   have w2 : IntKind.i64.wrap (((4 * c : Nat) : Int) + (r : Int)) = ((4 * c + r : Nat) : Int) := by rw [wrap64 (by omega) (by omega)]; omega
   have w3 : IntKind.i64.wrap ((c : Int) + (r : Int)) = ((c + r : Nat) : Int) := by rw [wrap64 (by omega) (by omega)]; omega
   have m1 : (((c + r : Nat) : Int)).tmod 4 = (((c + r) % 4 : Nat) : Int) := by rw [Int.tmod_eq_emod_of_nonneg (Int.natCast_nonneg _)]; simp
   have w4 : IntKind.i64.wrap (4 * (((c + r) % 4 : Nat) : Int)) = ((4 * ((c + r) % 4) : Nat) : Int) := by rw [wrap64 (by omega) (by omega)]; omega
   have w5 : IntKind.i64.wrap (((4 * ((c + r) % 4) : Nat) : Int) + (r : Int)) = ((4 * ((c + r) % 4) + r : Nat) : Int) := by rw [wrap64 (by omega) (by omega)]; omega
   simp only [aT.b0, au (show (r : Int) < 4 by omega), w1, w2, w3, m1, w4, w5, hb, wR, aH (show (0 : Int) <= ((4 * ((c + r) % 4) + r : Nat) : Int) by omega) (show ((4 * ((c + r) % 4) + r : Nat) : Int) < ((16 : Nat) : Int) by omega), aH (show (0 : Int) <= ((4 * c + r : Nat) : Int) by omega) (show ((4 * c + r : Nat) : Int) < ((16 : Nat) : Int) by omega), cond_true, cond_false, lY r (by omega), Int.toNat_natCast];rw [oD]
   ·rfl
   ·congr 2; omega)
  rw [show ((0 : Nat) : Int) = 0 from rfl, Nat.add_zero] at e;rw [e, aT.q0];simp only [aT.b0, aA (show ¬ ((4 : Nat) : Int) < 4 by decide), cond_false]
 have e := dA (f := aT.l1 .lim) (fun c => (b, false, (c : Int), mQ 16 (4 * c) (fun i => rd 0 b (((i + 4 * (i % 4)) % 16 : Nat) : Int)), ())) (n := 4) (fun c hc => by
  rw [aT.q1];simp only [aT.b1, au (show (c : Int) < 4 by omega), cond_true, inner c hc, Option.bind_some, lY c (by omega)];rfl)
 rw [show ((0 : Nat) : Int) = 0 from rfl, Nat.mul_zero, nK] at e;simp only [aT.run, show Nat.blt 16 70368744177664 = true from rfl, cond_true, e];rw [aT.q1];simp only [aT.b1, aA (show ¬ ((4 : Nat) : Int) < 4 by decide), cond_false, Option.bind_some];rw [show 4 * 4 = 16 from rfl, su]
theorem Ui {b : List Int} (hb : b.length = 16) : aJ.run .lim (b, [2, 3, 1, 1], ()) = some (oH b) := by
 have cell : ∀ c r : Nat, c < 4 -> r < 4 -> aJ.l0 .lim (b, [2, 3, 1, 1], (c : Int), (r : Int), 0, mQ 16 (4 * c + r) (fun i => rd 0 (oH b) (i : Int)), ()) = some (b, [2, 3, 1, 1], (c : Int), (r : Int), mQ 16 (4 * c + r + 1) (fun i => rd 0 (oH b) (i : Int)), ()) := by
  intro c r hc hr;have h4 : ∀ j : Nat, j < 4 -> IntKind.i64.wrap (IntKind.i64.wrap (4 * (c : Int)) + (IntKind.i64.wrap ((r : Int) + (j : Int))).tmod 4) = (((4 * c + r) / 4 * 4 + (4 * c + r + j) % 4 : Nat) : Int) := by
   intro j hj;have d2 : IntKind.i64.wrap ((r : Int) + (j : Int)) = ((r + j : Nat) : Int) := by rw [wrap64 (by omega) (by omega)]; omega
   have d3 : (((r + j : Nat) : Int)).tmod 4 = (((r + j) % 4 : Nat) : Int) := by rw [Int.tmod_eq_emod_of_nonneg (Int.natCast_nonneg _)]; simp
   rw [d2, d3, wrap64 (n := 4 * (c : Int)) (by omega) (by omega), wrap64 (by omega) (by omega)]; omega
  have w2 : IntKind.i64.wrap (IntKind.i64.wrap (4 * (c : Int)) + (r : Int)) = ((4 * c + r : Nat) : Int) := by rw [wrap64 (n := 4 * (c : Int)) (by omega) (by omega), wrap64 (by omega) (by omega)]; omega
  have step : ∀ (k : Int) (k' : Int) (cf : Int) (q : Nat) (m : List Int), m.length = 16 -> 0 <= k -> k < 4 -> rd 0 ([2, 3, 1, 1] : List Int) k = cf -> IntKind.i64.wrap (k + 1) = k' -> IntKind.i64.wrap (IntKind.i64.wrap (4 * (c : Int)) + (IntKind.i64.wrap ((r : Int) + k)).tmod 4) = (q : Int) -> q < 16 ->
    aJ.l0 .lim (b, [2, 3, 1, 1], (c : Int), (r : Int), k, m, ()) = aJ.l0 .lim (b, [2, 3, 1, 1], (c : Int), (r : Int), k', m.set (4 * c + r) (dP .u8 (rd 0 m ((4 * c + r : Nat) : Int)) (tm (rd 0 b (q : Int)) cf)), ()) := by
   intro k k' cf q m hm h1 h2 h3 h4 h5 h6;rw [aJ.q0];simp only [aJ.b0, au h2, w2, h5, hm, hb, aH (show (0 : Int) <= ((4 * c + r : Nat) : Int) by omega) (show ((4 * c + r : Nat) : Int) < ((16 : Nat) : Int) by omega), aH (show (0 : Int) <= (q : Int) by omega) (show (q : Int) < ((16 : Nat) : Int) by omega), aH h1 (show k < ((([2, 3, 1, 1] : List Int).length : Nat) : Int) from h2), h3, h4, Ih, Option.bind_some, cond_true, Int.toNat_natCast]
  have g0 := h4 0 (by omega); have g1 := h4 1 (by omega); have g2 := h4 2 (by omega); have g3 := h4 3 (by omega);rw [show ((0 : Nat) : Int) = 0 from rfl] at g0;rw [show ((1 : Nat) : Int) = 1 from rfl] at g1;rw [show ((2 : Nat) : Int) = 2 from rfl] at g2;rw [show ((3 : Nat) : Int) = 3 from rfl] at g3;rw [step 0 1 2 _ _ wR (by omega) (by omega) rfl rfl g0 (by omega)];rw [step 1 2 3 _ _ (by simp) (by omega) (by omega) rfl rfl g1 (by omega)];rw [step 2 3 1 _ _ (by simp) (by omega) (by omega) rfl rfl g2 (by omega)];rw [step 3 4 1 _ _ (by simp) (by omega) (by omega) rfl rfl g3 (by omega)];rw [aJ.q0];simp only [aJ.b0, aA (show ¬ (4 : Int) < 4 by omega), cond_false];generalize hm : mQ 16 (4 * c + r) (fun i => rd 0 (oH b) (i : Int)) = m;have hml : m.length = 16 := by rw [<- hm, wR]
  have hl : ∀ v, 4 * c + r < (m.set (4 * c + r) v).length := fun v => by simp [hml]; omega
  have h0 : rd 0 m ((4 * c + r : Nat) : Int) = 0 := by rw [<- hm, WO (by omega)]
  simp only [uo (show 4 * c + r < m.length by omega), uo (hl _), List.set_set, h0];rw [<- hm, oD];unfold oH;rw [mG (by omega)];simp only [Nat.add_zero]
 have inner : ∀ c : Nat, c < 4 -> aJ.l1 .lim (b, [2, 3, 1, 1], (c : Int), 0, mQ 16 (4 * c) (fun i => rd 0 (oH b) (i : Int)), ()) = some (b, [2, 3, 1, 1], (c : Int), mQ 16 (4 * c + 4) (fun i => rd 0 (oH b) (i : Int)), ()) := by
  intro c hc;have e := dA (f := aJ.l1 .lim) (fun r => (b, [2, 3, 1, 1], (c : Int), (r : Int), mQ 16 (4 * c + r) (fun i => rd 0 (oH b) (i : Int)), ())) (n := 4) (fun r hr => by
   rw [aJ.q1];simp only [aJ.b1, au (show (r : Int) < 4 by omega), cond_true, cell c r hc hr, Option.bind_some, lY r (by omega)];rfl)
  rw [show ((0 : Nat) : Int) = 0 from rfl, Nat.add_zero] at e;rw [e, aJ.q1];simp only [aJ.b1, aA (show ¬ ((4 : Nat) : Int) < 4 by decide), cond_false]
 have e := dA (f := aJ.l2 .lim) (fun c => (b, [2, 3, 1, 1], (c : Int), mQ 16 (4 * c) (fun i => rd 0 (oH b) (i : Int)), ())) (n := 4) (fun c hc => by
  rw [aJ.q2];simp only [aJ.b2, au (show (c : Int) < 4 by omega), cond_true, inner c hc, Option.bind_some, lY c (by omega)];rfl)
 rw [show ((0 : Nat) : Int) = 0 from rfl, Nat.mul_zero, nK] at e;simp only [aJ.run, show Nat.blt 16 70368744177664 = true from rfl, cond_true, e];rw [aJ.q2];simp only [aJ.b2, aA (show ¬ ((4 : Nat) : Int) < 4 by decide), cond_false, Option.bind_some];rw [show 4 * 4 = 16 from rfl, su, <- Fq (m := oH b) jg]
theorem Rl {b w w1 : List Int} (hb : b.length = 16) (hw : w.length = 16) : aC.l0 .lim (w, 0, w1, b, ()) = some (w1, uX b w, ()) := by
 have e := iT (f := aC.l0 .lim) (fun k b => (w, (k : Int), w1, b, ())) (fun k v => dP .u8 v (rd 0 w (k : Int))) b hb (fun k hk m' hm hj => by
  rw [aC.q0];simp only [aC.b0, au (show (k : Int) < 16 by omega), hm, hw, aH (show (0 : Int) <= k by omega) (show (k : Int) < ((16 : Nat) : Int) by omega), cond_true, lY k (by omega), hj k (Nat.le_refl _), Int.toNat_natCast])
 refine (show _ = _ from e).trans ?_;rw [aC.q0];simp only [aC.b0, aA (show ¬ ((16 : Nat) : Int) < 16 by decide), cond_false];rfl
theorem L8 {b w w1 : List Int} {i1 : Int} (hb : b.length = 16) (hw : w.length = 16) : aC.l2 .lim (w, 0, w1, i1, b, ()) = some (w1, i1, uX b w, ()) := by
 have e := iT (f := aC.l2 .lim) (fun k b => (w, (k : Int), w1, i1, b, ())) (fun k v => dP .u8 v (rd 0 w (k : Int))) b hb (fun k hk m' hm hj => by
  rw [aC.q2];simp only [aC.b2, au (show (k : Int) < 16 by omega), hm, hw, aH (show (0 : Int) <= k by omega) (show (k : Int) < ((16 : Nat) : Int) by omega), cond_true, lY k (by omega), hj k (Nat.le_refl _), Int.toNat_natCast])
 refine (show _ = _ from e).trans ?_;rw [aC.q2];simp only [aC.b2, aA (show ¬ ((16 : Nat) : Int) < 16 by decide), cond_false];rfl
theorem Uj {b w : List Int} {i : Int} (hb : CY b) : aC.l1 .lim (w, i, 0, b, ()) = some (w, i, tab 16 (fun i => zi (rd 0 b (i : Int))), ()) := by
 have e := iT (f := aC.l1 .lim) (fun k b => (w, i, (k : Int), b, ())) (fun k v => zi v) b hb.1 (fun k hk m' hm hj => by
  rw [aC.q1];simp only [aC.b1, au (show (k : Int) < 16 by omega), hm, aH (show (0 : Int) <= k by omega) (show (k : Int) < ((16 : Nat) : Int) by omega), cond_true, lY k (by omega), hj k (Nat.le_refl _), Ak (hb.at hk), Option.bind_some, Int.toNat_natCast])
 refine (show _ = _ from e).trans ?_;rw [aC.q1];simp only [aC.b1, aA (show ¬ ((16 : Nat) : Int) < 16 by decide), cond_false]
theorem Rn (b : List Int) : (tab 16 fun i => rd 0 (tab 16 fun i => zi (rd 0 b (i : Int))) (((i + 4 * (i % 4)) % 16 : Nat) : Int)) = qA b := jk fun k hk => by rw [mG (by omega)]
theorem L9 {W : List (List Int)} {b : List Int} {r : Nat} (hW : Words W) (hl : W.length = 4 * (r + 1)) (hr : r <= 100) (hr0 : 0 < r) (hb : b.length = 16) : aC.run .lim (W.flatten, b, ()) = some (qB W b r) := by
 have hfl := sH hW;have h0 := LZ hW (j := 0) (by omega);rw [show ((16 * 0 : Nat) : Int) = 0 from rfl, show ((16 * 0 + 16 : Nat) : Int) = 16 from rfl] at h0;have e := dA (f := aC.l3 .lim) (fun k => (W.flatten, ((16 * (k + 1) : Nat) : Int), qB W b k, ())) (n := r) (fun k hk => by
  rw [aC.q3];have hB := DK W b k;have hc := LZ hW (j := k + 1) (by omega);have hkl := Am hW (j := k + 1) (by omega);have w1 : IntKind.i64.wrap (((16 * (k + 1) : Nat) : Int) + 16) = ((16 * (k + 1) + 16 : Nat) : Int) := by rw [wrap64 (by omega) (by omega)]; omega
  have hlast : decide (((16 * (k + 1) + 16 : Nat) : Int) < (W.flatten.length : Int)) = !decide (k + 2 = W.length / 4) := by
   by_cases h : k + 1 = r
   ·rw [aA (by omega), au (by omega)]; rfl
   ·rw [au (by omega), aA (by omega)]; rfl
  simp only [aC.b3, aF (show W.flatten.length < 9223372036854775808 by omega), au (show ((16 * (k + 1) : Nat) : Int) < (W.flatten.length : Int) by omega), cond_true, Uj hB, Option.bind_some, Rj jg, Rn, w1, hlast, aQ (show (0 : Int) <= ((16 * (k + 1) : Nat) : Int) by omega) (show ((16 * (k + 1) : Nat) : Int) <= ((16 * (k + 1) + 16 : Nat) : Int) by omega) (show ((16 * (k + 1) + 16 : Nat) : Int) <= (W.flatten.length : Int) by omega), hc];have hsl : (qA (qB W b k)).length = 16 := jg;have hml : (oH (qA (qB W b k))).length = 16 := jg;show _ = aC.l3 .lim (W.flatten, ((16 * (k + 1 + 1) : Nat) : Int), Oo (decide (k + 2 = W.length / 4)) (qB W b k) (qy W (k + 1)), ());unfold Oo;cases decide (k + 2 = W.length / 4) with
  | true =>
   simp only [Bool.not_true, cond_false, cond_true];rw [L8 hsl hkl];simp only [Option.bind_some, w1];rfl
  | false =>
   simp only [Bool.not_false, cond_false, cond_true, Ui hsl, Option.bind_some];rw [L8 hml hkl];simp only [Option.bind_some, w1];rfl)
 simp only [aC.run];rw [cond_pos (aQ (by omega) (by omega) (by omega)), h0, Rl hb (Am hW (by omega))];simp only [Option.bind_some];rw [show qB W b 0 = uX b (qy W 0) from rfl, show ((16 * (0 + 1) : Nat) : Int) = 16 from rfl] at e;rw [e, aC.q3];simp only [aC.b3, aF (show W.flatten.length < 9223372036854775808 by omega), aA (show ¬ ((16 * (r + 1) : Nat) : Int) < (W.flatten.length : Int) by omega), cond_true, cond_false, Option.bind_some]
theorem Qh {key b : List Int} (hk : key.length = 16 \/ key.length = 32) (hb : ∀ x ∈ key, B8 x) (hl : b.length = 16) : aC.run .lim ((kG key).flatten, b, ()) = some (encS key b) := by
 have h1 := sK key;rw [L9 (r := key.length / 4 + 6) (xK key hb) (by omega) (by omega) (by omega) hl];unfold encS;rw [show (kG key).length / 4 - 1 = key.length / 4 + 6 by omega]
end Go.AM
end
section
namespace Go.AM
section
variable {ok : Bool} {n dn mu sm four nk x i t t1 t2 tp tq : Int} {key b tw ta out K was kb T sb bk : List Int} {yb W rn : List (List Int)} {last : Bool}
theorem E_mul (i : Nat) (hi : i < 256) : ak.l0 .lim ((i : Int), t, 7, 0, ok, key, dn, mu, sm, sb, bk, yb, kL, b, tw, ()) = some (t, ok, key, dn, mu, sm, sb, bk, CX i yb 7, b, tw, ()) := by
 have e := dA (f := ak.l0 .lim) (fun k => ((i : Int), t, 7, (k : Int), ok, key, dn, mu, sm, sb, bk, CX i yb k, kL, b, tw, ())) (n := 7) (fun k hk => by
  rw [ak.q0];obtain ⟨h1, h2⟩ := Yd k hk;have hB : B8 (rd 0 kL (k : Int)) := ⟨h1, by omega⟩;have Ro : B8 (i : Int) := ⟨by omega, by omega⟩;simp only [ak.b0, au (show (k : Int) < 7 by omega), aH (show (0 : Int) <= k by omega) (show (k : Int) < (kL.length : Int) from show (k : Int) < 7 by omega), pR Ro, pV Ro hB, Option.bind_some, aH h1 (show rd 0 kL (k : Int) < 16 from h2), aH (show (0 : Int) <= i by omega) (show (i : Int) < 256 by omega), cond_true, lY k (by omega), Int.toNat_natCast];rfl)
 refine e.trans ?_;rw [ak.q0];simp only [ak.b0, aA (show ¬ ((7 : Nat) : Int) < 7 by decide), cond_false]
theorem Uk : ak.l1 .lim (0, ok, key, dn, mu, sm, dY, dY, List.replicate 16 dY, b, tw, ()) = some (ok, key, dn, mu, sm, mX 256, BG 256, dK 256, b, tw, ()) := by
 have e := dA (f := ak.l1 .lim) (fun k => ((k : Int), ok, key, dn, mu, sm, mX k, BG k, dK k, b, tw, ())) (n := 256) (fun k hk => by
  rw [ak.q1];have Ro : B8 (k : Int) := ⟨by omega, by omega⟩;have hs := Qd Ro;have hm := fun sb bk => E_mul (ok := ok) (key := key) (dn := dn) (mu := mu) (sm := sm) (sb := sb) (bk := bk) (yb := dK k) (b := b) (tw := tw) (t := (k : Int))  k hk
  simp only [ak.b1, au (show (k : Int) < 256 by omega), pR Ro, Qc Ro, Option.bind_some, aH (show (0 : Int) <= k by omega) (show (k : Int) < 256 by omega), aH hs.1 hs.2, cond_true, show ((([1, 2, 3, 9, 11, 13, 14] : List Int).length : Nat) : Int) = 7 from rfl, aV (show (7 : Int) < 9223372036854775808 by omega), hm, lY k (by omega), Qe];rw [show (mX k).set ((k : Int)).toNat (zi k) = mX (k + 1) from oD rfl];rfl)
 rw [show mX 0 = dY from nK, Fv, show BG 0 = dY from rfl, show ((0 : Nat) : Int) = 0 from rfl] at e;refine e.trans ?_;rw [ak.q1];simp only [ak.b1, aA (show ¬ ((256 : Nat) : Int) < 256 by decide), cond_false]
theorem W9 {q : Nat} (hk : kb.length = 4 * q) (hq : q <= 100) : ak.l2 .lim (0, nk, ok, 4, key, dn, mu, sm, sb, bk, yb, b, tw, kb, [], ()) = some (nk, ok, key, dn, mu, sm, sb, bk, yb, b, tw, (List.range q).map (word kb), ()) := by
 have e := dA (f := ak.l2 .lim) (fun k => (((4 * k : Nat) : Int), nk, ok, 4, key, dn, mu, sm, sb, bk, yb, b, tw, kb, (List.range k).map (word kb), ())) (n := q) (fun k hkq => by
  rw [ak.q2];have w1 : IntKind.i64.wrap (((4 * k : Nat) : Int) + 4) = ((4 * k + 4 : Nat) : Int) := by rw [wrap64 (by omega) (by omega)]; omega
  have w2 : mn 4 ((kb.length : Int) - ((4 * k : Nat) : Int)) = 4 := by rw [iq]; omega
  have w3 : (cut kb ((4 * k : Nat) : Int) ((4 * k + 4 : Nat) : Int)).length = 4 := by rw [mV, List.length_take, List.length_drop]; omega
  have w4 : (Nat.ble 1 4 && Nat.ble 4 (cut kb ((4 * k : Nat) : Int) ((4 * k + 4 : Nat) : Int)).length) = true := by rw [w3]; rfl
  simp only [ak.b2, aV (show (kb.length : Int) < 9223372036854775808 by omega), au (show ((4 * k : Nat) : Int) < (kb.length : Int) by omega), aQ (show (0 : Int) <= ((4 * k : Nat) : Int) by omega) (show ((4 * k : Nat) : Int) <= (kb.length : Int) by omega) (Int.le_refl _), aV (show (kb.length : Int) - ((4 * k : Nat) : Int) < 9223372036854775808 by omega), w2, w1, aQ (show (0 : Int) <= ((4 * k : Nat) : Int) by omega) (show ((4 * k : Nat) : Int) <= ((4 * k + 4 : Nat) : Int) by omega) (Int.le_refl _), au (show ((4 * k + 4 : Nat) : Int) <= (kb.length : Int) by omega), Bool.and_self, w4, cond_true];rw [cond_pos (by simp; omega), LY (by omega)];simp only [List.range_succ, List.map_append, List.map_cons, List.map_nil];rfl)
 refine e.trans ?_;rw [ak.q2];simp only [ak.b2, aV (show (kb.length : Int) < 9223372036854775808 by omega), aA (show ¬ ((4 * q : Nat) : Int) < (kb.length : Int) by omega), cond_true, cond_false]
theorem E_xor (hW : Words W) {i nk : Nat} (h1 : nk <= i) (h2 : i <= W.length) (h3 : 0 < nk) (h4 : i < 1000) (hT : T.length = 4) : ak.l3 .lim ((nk : Int), x, (i : Int), 0, ok, T, key, dn, mu, sm, sb, bk, yb, b, tw, W, ()) = some ((nk : Int), x, (i : Int), ok, Fz T (rd z4 W ((i - nk : Nat) : Int)), key, dn, mu, sm, sb, bk, yb, b, tw, W, ()) := by
 have w : IntKind.i64.wrap ((i : Int) - (nk : Int)) = ((i - nk : Nat) : Int) := by rw [wrap64 (by omega) (by omega)]; omega
 have e := iT (f := ak.l3 .lim) (fun k T => ((nk : Int), x, (i : Int), (k : Int), ok, T, key, dn, mu, sm, sb, bk, yb, b, tw, W, ())) (fun k v => dP .u8 v (rd 0 (rd z4 W ((i - nk : Nat) : Int)) (k : Int))) T hT (fun k hk m' hm hj => by
  rw [ak.q3];simp only [ak.b3, au (show (k : Int) < 4 by omega), aH (show (0 : Int) <= k by omega) (show (k : Int) < 4 by omega), w, aH (show (0 : Int) <= ((i - nk : Nat) : Int) by omega) (show ((i - nk : Nat) : Int) < (W.length : Int) by omega), cond_true, lY k (by omega), hj k (Nat.le_refl _), Int.toNat_natCast])
 refine e.trans ?_;rw [ak.q3];simp only [ak.b3, aA (show ¬ ((4 : Nat) : Int) < 4 by decide), cond_false];rfl
end
end Go.AM
end
section
namespace Go.AM
section
variable {ok : Bool} {n dn mu sm four x i t t1 t2 tp tq : Int} {key b tw ta out K was kb T sb bk : List Int} {yb W rn : List (List Int)} {last : Bool}
theorem Zc (a b c d : Int) : ((((List.replicate 4 (0 : Int)).set 0 a).set 1 b).set 2 c).set 3 d = [a, b, c, d] := rfl
theorem W_ {nk : Nat} (hn : nk = 4 \/ nk = 8) (hk : 4 * nk <= kb.length) (hb : ∀ x ∈ kb, B8 x) :
  ak.l4 .lim ((nk : Int), 1, (nk : Int), ok, key, dn, mu, sm, mX 256, bk, yb, b, tw, (List.range nk).map (word kb), ()) = some (ok, key, dn, mu, sm, mX 256, bk, yb, b, tw, (sched nk kb (3 * nk + 28)).1, ()) := by
 have e := dA (f := ak.l4 .lim) (fun k => ((nk : Int), (sched nk kb k).2, ((nk + k : Nat) : Int), ok, key, dn, mu, sm, mX 256, bk, yb, b, tw, (sched nk kb k).1, ())) (n := 3 * nk + 28) (fun k hkq => by
  rw [ak.q4];obtain ⟨hW, hx⟩ := wZ nk kb hk hb k;have hl := sJ nk kb k;have hs : sched nk kb (k + 1) = stepW nk (sched nk kb k) := rfl;rw [hs];unfold stepW;generalize hq : sched nk kb k = q at hW hx hl;obtain ⟨W, x⟩ := q;simp only at hW hx hl ⊢
  have hi0 : nk + k < 1000 := by omega
  generalize hi : nk + k = i at hl hi0;have hw := hW.at (show i - 1 < W.length by omega);have hb0 := hW.byte (show i - 1 < W.length by omega) (j := 0) (by omega) (by omega);have hb1 := hW.byte (show i - 1 < W.length by omega) (j := 1) (by omega) (by omega);have hb2 := hW.byte (show i - 1 < W.length by omega) (j := 2) (by omega) (by omega);have hb3 := hW.byte (show i - 1 < W.length by omega) (j := 3) (by omega) (by omega);have w1 : IntKind.i64.wrap (4 * IntKind.i64.wrap ((nk : Int) + 7)) = ((4 * nk + 28 : Nat) : Int) := by rw [wrap64 (n := (nk : Int) + 7) (by omega) (by omega), wrap64 (by omega) (by omega)]; omega
  have w2 : IntKind.i64.wrap ((i : Int) - 1) = ((i - 1 : Nat) : Int) := by rw [wrap64 (by omega) (by omega)]; omega
  have m1 : ((i : Int)).tmod (nk : Int) = ((i % nk : Nat) : Int) := by rw [Int.tmod_eq_emod_of_nonneg (Int.natCast_nonneg i)]; simp
  have m2 : ((i : Int)).tmod 8 = ((i % 8 : Nat) : Int) := by rw [Int.tmod_eq_emod_of_nonneg (Int.natCast_nonneg i)]; simp
  have FB := fun x T hT => E_xor (ok := ok) (key := key) (dn := dn) (mu := mu) (sm := sm) (sb := mX 256) (bk := bk) (yb := yb) (b := b) (tw := tw) (x := x) (T := T)  hW (i := i) (nk := nk) (by omega) (by omega) (by omega) (by omega) hT
  have cap : ∀ T : List Int, decide (W.length + ([T] : List (List Int)).length < 17592186044416) = true := fun T => au (by simp; omega)
  simp only [ak.b4, w1, au (show (i : Int) < ((4 * nk + 28 : Nat) : Int) by omega), w2, aH (show (0 : Int) <= ((i - 1 : Nat) : Int) by omega) (show ((i - 1 : Nat) : Int) < (W.length : Int) by omega), aA (show ¬ (nk : Int) = 0 by omega), m1, m2, cond_true, Bool.not_false, aH hb0.1 hb0.2, aH hb1.1 hb1.2, aH hb2.1 hb2.2, aH hb3.1 hb3.2, rQ hb0, rQ hb1, rQ hb2, rQ hb3, Zc, Bool.or_true];rw [hl];unfold Qg;by_cases c1 : i % nk = 0
  ·rw [au (show ((i % nk : Nat) : Int) = 0 by omega), if_pos c1, if_pos c1];simp only [cond_true, pV hx (show B8 2 from ⟨by decide, by decide⟩), Option.bind_some];rw [FB _ _ rfl];simp only [Option.bind_some];rw [cond_pos (by simp; omega), lY i (by omega)];rw [show i + 1 = nk + (k + 1) by omega]
  ·rw [aA (show ¬ ((i % nk : Nat) : Int) = 0 by omega), if_neg c1, if_neg c1];simp only [cond_false];by_cases c2 : nk = 8 /\ i % 8 = 4
   ·rw [au (show (nk : Int) = 8 by omega), au (show ((i % 8 : Nat) : Int) = 4 by omega), if_pos c2];simp only [Bool.and_self, cond_true];rw [FB _ _ rfl];simp only [Option.bind_some];rw [cond_pos (by simp; omega), lY i (by omega)];rw [show i + 1 = nk + (k + 1) by omega]
   ·have : (decide ((nk : Int) = 8) && decide (((i % 8 : Nat) : Int) = 4)) = false := by
     by_cases c3 : nk = 8
     ·rw [aA (show ¬ ((i % 8 : Nat) : Int) = 4 by omega), Bool.and_false]
     ·rw [aA (show ¬ (nk : Int) = 8 by omega), Bool.false_and]
    rw [this, if_neg c2];simp only [cond_false];rw [FB _ _ hw.1];simp only [Option.bind_some];rw [cond_pos (by simp; omega), lY i (by omega), <- list4 hw.1];rw [show i + 1 = nk + (k + 1) by omega])
 refine (show _ = _ from e).trans ?_;rw [ak.q4];have w1 : IntKind.i64.wrap (4 * IntKind.i64.wrap ((nk : Int) + 7)) = ((4 * nk + 28 : Nat) : Int) := by rw [wrap64 (n := (nk : Int) + 7) (by omega) (by omega), wrap64 (by omega) (by omega)]; omega
 simp only [ak.b4, w1, aA (show ¬ ((nk + (3 * nk + 28) : Nat) : Int) < ((4 * nk + 28 : Nat) : Int) by omega), cond_false]
end
end Go.AM
end
section
namespace Go.AM
theorem Il {l : List (List Int)} {k : Nat} (h : k < l.length) : (l.take (k + 1)).flatten = (l.take k).flatten ++ rd [] l (k : Int) := by rw [Ah (d := ([] : List Int)) h, List.flatten_append]; simp
theorem Ap (l : List (List Int)) (k : Nat) : (l.take k).flatten.length <= l.flatten.length := by
 have : l.flatten = (l.take k).flatten ++ (l.drop k).flatten := by rw [<- List.flatten_append, List.take_append_drop]
 rw [this, List.length_append]; omega
theorem Io (l : List (List Int)) (h : l.flatten.length <= 1000000) (hl : l.length <= 1000000) : aG.run .lim (l, ()) = some l.flatten := by
 have e := dA (f := aG.l0 .lim) (fun k => (l, (((l.take k).flatten.length : Nat) : Int), l, (l.length : Int), (k : Int), ())) (n := l.length) (fun k hk => by
  rw [aG.q0];have h1 := Il hk;have h2 := Ap l (k + 1);rw [h1, List.length_append] at h2;have w : IntKind.i64.wrap ((((l.take k).flatten.length : Nat) : Int) + ((rd ([] : List Int) l (k : Int)).length : Int)) = (((l.take (k + 1)).flatten.length : Nat) : Int) := by rw [wrap64 (by omega) (by omega), h1, List.length_append]; omega
  simp only [aG.b0, au (show (k : Int) < (l.length : Int) by omega), aH (show (0 : Int) <= k by omega) (show (k : Int) < (l.length : Int) by omega), aF (show (rd ([] : List Int) l (k : Int)).length < 9223372036854775808 by omega), w, aA (show ¬ ((((l.take (k + 1)).flatten.length : Nat) : Int) < 0) by omega), cond_true, cond_false, lY k (by omega)])
 have e1 := fun N : Nat => fun hN : N = l.flatten.length => dA (f := aG.l1 .lim) (fun k => ((((l.take k).flatten.length : Nat) : Int), l, (l.length : Int), (k : Int), (l.take k).flatten ++ List.replicate (N - (l.take k).flatten.length) 0, ())) (n := l.length) (fun k hk => by
  rw [aG.q1];have h1 := Il hk;have h2 := Ap l (k + 1);rw [h1, List.length_append] at h2;simp only [aG.b1, au (show (k : Int) < (l.length : Int) by omega), aH (show (0 : Int) <= k by omega) (show (k : Int) < (l.length : Int) by omega), cond_true, lY k (by omega), Int.toNat_natCast];have hc : (decide (((l.take k).flatten ++ List.replicate (N - (l.take k).flatten.length) (0 : Int)).length + (rd ([] : List Int) l (k : Int)).length < 70368744177664) && decide (0 <= (((l.take k).flatten.length : Nat) : Int))) = true := by rw [List.length_append, List.length_replicate, au (by omega), au (by omega)]; rfl
  rw [cond_pos hc, h1, List.length_append];have e3 : ((((l.take k).flatten.length : Nat) : Int) + ((rd ([] : List Int) l (k : Int)).length : Int)) = (((l.take k).flatten.length + (rd ([] : List Int) l (k : Int)).length : Nat) : Int) := by omega
  rw [e3, List.take_append_of_le_length (Nat.le_refl _), List.take_length, List.drop_append, List.drop_eq_nil_of_le (by omega), List.nil_append, List.drop_replicate, List.append_assoc];have e4 : N - (l.take k).flatten.length - ((l.take k).flatten.length + (rd ([] : List Int) l (k : Int)).length - (l.take k).flatten.length) = N - ((l.take k).flatten.length + (rd ([] : List Int) l (k : Int)).length) := by omega
  rw [e4])
 rw [List.take_length, List.take_zero, show ((([] : List (List Int)).flatten.length : Nat) : Int) = 0 from rfl, show ((0 : Nat) : Int) = 0 from rfl] at e;have ee : aG.l0 .lim (l, ((l.flatten.length : Nat) : Int), l, (l.length : Int), (l.length : Int), ()) = some (l, ((l.flatten.length : Nat) : Int), ()) := by
  rw [aG.q0];simp only [aG.b0, aA (show ¬ (l.length : Int) < (l.length : Int) by omega), cond_false]
 have ee1 : ∀ m, aG.l1 .lim (((l.flatten.length : Nat) : Int), l, (l.length : Int), (l.length : Int), m, ()) = some (((l.flatten.length : Nat) : Int), m, ()) := fun m => by
  rw [aG.q1];simp only [aG.b1, aA (show ¬ (l.length : Int) < (l.length : Int) by omega), cond_false]
 have e2 : aG.l1 .lim (0, l, (l.length : Int), 0, List.replicate l.flatten.length 0, ()) = some (((l.flatten.length : Nat) : Int), l.flatten, ()) := by
  have := e1 _ rfl;rw [List.take_length, List.take_zero, Nat.sub_self, List.replicate_zero, List.append_nil] at this;exact this.trans (ee1 _)
 simp only [aG.run, aF (show l.length < 9223372036854775808 by omega), cond_true, e, ee, Option.bind_some, Int.sub_zero, aA (show ¬ ((l.flatten.length : Nat) : Int) < 0 by omega), cond_false, wrap64 (show -9223372036854775808 <= ((l.flatten.length : Nat) : Int) by omega) (show ((l.flatten.length : Nat) : Int) < 9223372036854775808 by omega), Int.toNat_natCast];by_cases h0 : l.flatten.length = 0
 ·rw [aA (show ¬ ((l.flatten.length : Nat) : Int) > 0 by omega)];rw [h0, List.replicate_zero] at e2;simp only [cond_false];rw [e2];simp [List.length_eq_zero_iff.1 h0]
 ·rw [au (show ((l.flatten.length : Nat) : Int) > 0 by omega)];have hb : Nat.blt l.flatten.length 70368744177664 = true := by rw [Nat.blt_eq]; omega
  simp only [cond_true, au (show (0 : Int) <= ((l.flatten.length : Nat) : Int) by omega), hb, Bool.and_self, e2, Option.bind_some, List.drop_zero, Int.toNat_natCast, List.take_length];rw [cond_pos (aQ (Int.le_refl 0) (Int.le_refl 0) (Int.natCast_nonneg _))]
end Go.AM
end
section
namespace Go.AM
section
variable {ok : Bool} {n dn mu sm four x i t t1 t2 tp tq : Int} {key b tw ta out K was kb T sb bk : List Int} {yb W rn : List (List Int)} {last : Bool}
theorem Ul {q : Nat} (hW : Words W) (hl : W.length = 4 * q) (hq : q <= 100) : ak.l5 .lim (0, ok, 4, key, dn, mu, sm, sb, bk, yb, b, tw, W, [], ()) = some (ok, key, dn, mu, sm, sb, bk, yb, b, tw, h_ W, ()) := by
 have e := dA (f := ak.l5 .lim) (fun k => (((4 * k : Nat) : Int), ok, 4, key, dn, mu, sm, sb, bk, yb, b, tw, W, (List.range k).map (qy W), ())) (n := q) (fun k hkq => by
  rw [ak.q5];have w1 : IntKind.i64.wrap (((4 * k : Nat) : Int) + 4) = ((4 * k + 4 : Nat) : Int) := by rw [wrap64 (by omega) (by omega)]; omega
  have w2 : mn 4 ((W.length : Int) - ((4 * k : Nat) : Int)) = 4 := by rw [iq]; omega
  have w3 : (cut W ((4 * k : Nat) : Int) ((4 * k + 4 : Nat) : Int)).length = 4 := by rw [mV, List.length_take, List.length_drop]; omega
  have at_ : ∀ j : Nat, j < 4 -> rd z4 (cut W ((4 * k : Nat) : Int) ((4 * k + 4 : Nat) : Int)) (j : Int) = rd z4 W ((4 * k + j : Nat) : Int) := fun j hj => by
   rw [mV];unfold rd;rw [Int.toNat_natCast, Int.toNat_natCast, List.getD_eq_getElem?_getD, List.getD_eq_getElem?_getD, List.getElem?_take_of_lt (by omega), List.getElem?_drop]
  have a0 : rd z4 (cut W ((4 * k : Nat) : Int) ((4 * k + 4 : Nat) : Int)) 0 = rd z4 W ((4 * k : Nat) : Int) := at_ 0 (by omega);have a1 : rd z4 (cut W ((4 * k : Nat) : Int) ((4 * k + 4 : Nat) : Int)) 1 = rd z4 W ((4 * k + 1 : Nat) : Int) := at_ 1 (by omega);have a2 : rd z4 (cut W ((4 * k : Nat) : Int) ((4 * k + 4 : Nat) : Int)) 2 = rd z4 W ((4 * k + 2 : Nat) : Int) := at_ 2 (by omega);have a3 : rd z4 (cut W ((4 * k : Nat) : Int) ((4 * k + 4 : Nat) : Int)) 3 = rd z4 W ((4 * k + 3 : Nat) : Int) := at_ 3 (by omega);have c4 : ∀ l : List Int, l.length = 4 -> cut l 0 4 = l := fun l hl => by
   have := mV l 0 4;rw [show ((0 : Nat) : Int) = 0 from rfl, show ((4 : Nat) : Int) = 4 from rfl] at this;rw [this, List.drop_zero, List.take_of_length_le (by omega)]
  have l0 := (hW.at (show 4 * k < W.length by omega)).1;have l1 := (hW.at (show 4 * k + 1 < W.length by omega)).1;have l2 := (hW.at (show 4 * k + 2 < W.length by omega)).1;have l3 := (hW.at (show 4 * k + 3 < W.length by omega)).1;have hfl : [rd z4 W ((4 * k : Nat) : Int), rd z4 W ((4 * k + 1 : Nat) : Int), rd z4 W ((4 * k + 2 : Nat) : Int), rd z4 W ((4 * k + 3 : Nat) : Int)].flatten = qy W k := by simp [qy]
  have hrl := Am hW (j := k) (by omega);have tV := Io [rd z4 W ((4 * k : Nat) : Int), rd z4 W ((4 * k + 1 : Nat) : Int), rd z4 W ((4 * k + 2 : Nat) : Int), rd z4 W ((4 * k + 3 : Nat) : Int)] (by rw [hfl, hrl]; omega) (by simp);rw [hfl] at tV;simp only [ak.b5, aV (show (W.length : Int) < 9223372036854775808 by omega), au (show ((4 * k : Nat) : Int) < (W.length : Int) by omega), aQ (show (0 : Int) <= ((4 * k : Nat) : Int) by omega) (show ((4 * k : Nat) : Int) <= (W.length : Int) by omega) (Int.le_refl _), aV (show (W.length : Int) - ((4 * k : Nat) : Int) < 9223372036854775808 by omega), w2, w1, aQ (show (0 : Int) <= ((4 * k : Nat) : Int) by omega) (show ((4 * k : Nat) : Int) <= ((4 * k + 4 : Nat) : Int) by omega) (Int.le_refl _), au (show ((4 * k + 4 : Nat) : Int) <= (W.length : Int) by omega), Bool.and_self, w3, cond_true, aH (show (0 : Int) <= 0 by omega) (show (0 : Int) < ((4 : Nat) : Int) by decide), aH (show (0 : Int) <= 1 by omega) (show (1 : Int) < ((4 : Nat) : Int) by decide), aH (show (0 : Int) <= 2 by omega) (show (2 : Int) < ((4 : Nat) : Int) by decide), aH (show (0 : Int) <= 3 by omega) (show (3 : Int) < ((4 : Nat) : Int) by decide), a0, a1, a2, a3, c4 _ l0, c4 _ l1, c4 _ l2, c4 _ l3, tV, Option.bind_some, hrl, List.take_of_length_le (Nat.le_of_eq hrl)];rw [show (Nat.ble 1 16 && Nat.ble 16 16) = true from rfl, cond_true, cond_pos (by simp; omega)];simp only [List.range_succ, List.map_append, List.map_cons, List.map_nil];rfl)
 refine (show _ = _ from e).trans ?_;rw [ak.q5];simp only [ak.b5, aV (show (W.length : Int) < 9223372036854775808 by omega), aA (show ¬ ((4 * q : Nat) : Int) < (W.length : Int) by omega), cond_true, cond_false];unfold h_;rw [hl, Nat.mul_div_cancel_left _ (by omega)]
theorem Xa (hk : key.length = 16 \/ key.length = 32) (hb : ∀ x ∈ key, B8 x) : ak.l6 .lim (key, 0, 0, sm, dY, dY, List.replicate 16 dY, b, tw, ()) = some (b, tw, key, 1, 0, sm, mX 256, BG 256, dK 256, h_ (kG key), ()) := by
 have h0 : ak.l6 .lim (key, 0, 0, sm, dY, dY, List.replicate 16 dY, b, tw, ()) = ak.b6 .lim (ak.l6 .lim) (key, 0, 0, sm, dY, dY, List.replicate 16 dY, b, tw, ()) := ak.q6 _;rw [h0];have hd : (key.length : Int).tdiv 4 = ((key.length / 4 : Nat) : Int) := by rw [Int.tdiv_eq_ediv_of_nonneg (Int.natCast_nonneg _)]; simp
 have w1 : IntKind.i64.wrap ((key.length : Int).tdiv 4) = ((key.length / 4 : Nat) : Int) := by rw [hd, wrap64 (by omega) (by omega)]
 have t := Uk (ok := true) (key := key) (dn := 0) (mu := 1) (sm := sm) (b := b) (tw := tw);have s := W9 (kb := key) (q := key.length / 4) (nk := ((key.length / 4 : Nat) : Int)) (ok := true) (key := key) (dn := 0) (mu := 1) (sm := sm) (sb := mX 256) (bk := BG 256) (yb := dK 256) (b := b) (tw := tw)  (by omega) (by omega);have w := W_ (kb := key) (nk := key.length / 4) (ok := true) (key := key) (dn := 0) (mu := 1) (sm := sm) (bk := BG 256) (yb := dK 256) (b := b) (tw := tw)  (by omega) (by omega) hb;have r := Ul (W := kG key) (q := key.length / 4 + 7) (ok := true) (key := key) (dn := 0) (mu := 1) (sm := sm) (sb := mX 256) (bk := BG 256) (yb := dK 256) (b := b) (tw := tw)  (xK key hb) (by rw [sK]; omega) (by omega);have hs : iP.run .lim (true, ()) = some 1 := rfl;have hw : (sched (key.length / 4) key (3 * (key.length / 4) + 28)).1 = kG key := rfl;simp only [ak.b6, decide_true, Bool.not_true, Bool.not_false, cond_true, t, Option.bind_some, aV (show (key.length : Int) < 9223372036854775808 by omega), w1];rw [s];simp only [Option.bind_some];rw [w];simp only [Option.bind_some];rw [hw, r];simp only [Option.bind_some, hs, show IntKind.i32.wrap (1 + -1) = 0 from by decide, decide_true, Bool.not_true, cond_false]
end
end Go.AM
end
section
namespace Go.AM
section
variable {ok : Bool} {n dn mu sm four x i t t1 t2 tp tq : Int} {key b tw ta out K was kb T sb bk : List Int} {yb W rn : List (List Int)} {last : Bool}
theorem Xb (hb : b.length = 16) : ak.l7 .lim (0, b, K, tw, key, dn, mu, sm, sb, bk, yb, rn, ()) = some (uX b K, tw, key, dn, mu, sm, sb, bk, yb, rn, ()) := by
 have e := iT (f := ak.l7 .lim) (fun k b => ((k : Int), b, K, tw, key, dn, mu, sm, sb, bk, yb, rn, ())) (fun k v => dP .u8 v (rd 0 K (k : Int))) b hb (fun k hk m' hm hj => by
  rw [ak.q7];simp only [ak.b7, au (show (k : Int) < 16 by omega), aH (show (0 : Int) <= k by omega) (show (k : Int) < 16 by omega), cond_true, lY k (by omega), hj k (Nat.le_refl _), Int.toNat_natCast])
 refine (show _ = _ from e).trans ?_;rw [ak.q7];simp only [ak.b7, aA (show ¬ ((16 : Nat) : Int) < 16 by decide), cond_false];rfl
theorem Um (hb : CY b) : ak.l8 .lim (0, last, tp, tq, t1, t2, b, key, dn, mu, sm, mX 256, bk, yb, K, rn, tw, ()) = some (last, tp, tq, t1, t2, tab 16 fun i => zi (rd 0 b (i : Int)), K, rn, tw, key, dn, mu, sm, mX 256, bk, yb, ()) := by
 have e := iT (f := ak.l8 .lim) (fun k b => ((k : Int), last, tp, tq, t1, t2, b, key, dn, mu, sm, mX 256, bk, yb, K, rn, tw, ())) (fun k v => zi v) b hb.1 (fun k hk m' hm hj => by
  rw [ak.q8];have h := hb.at hk;simp only [ak.b8, au (show (k : Int) < 16 by omega), aH (show (0 : Int) <= k by omega) (show (k : Int) < 16 by omega), cond_true, lY k (by omega), hj k (Nat.le_refl _), aH h.1 h.2, rQ h, Int.toNat_natCast])
 refine (show _ = _ from e).trans ?_;rw [ak.q8];simp only [ak.b8, aA (show ¬ ((16 : Nat) : Int) < 16 by decide), cond_false]
theorem Zd (hb : b.length = 16) : ak.l9 .lim (4, 0, last, tp, tq, t1, t2, b, was, K, rn, tw, key, dn, mu, sm, sb, bk, yb, ()) = some (last, tp, tq, t1, t2, tab 16 fun i => rd 0 was (((i + 4 * (i % 4)) % 16 : Nat) : Int), K, rn, tw, key, dn, mu, sm, sb, bk, yb, ()) := by
 have e := iT (f := ak.l9 .lim) (fun k b => (4, (k : Int), last, tp, tq, t1, t2, b, was, K, rn, tw, key, dn, mu, sm, sb, bk, yb, ())) (fun k v => rd 0 was (((k + 4 * (k % 4)) % 16 : Nat) : Int)) b hb (fun k hk m' hm hj => by
  rw [ak.q9];have m1 : ((k : Int)).tmod 4 = ((k % 4 : Nat) : Int) := by rw [Int.tmod_eq_emod_of_nonneg (Int.natCast_nonneg k)]; simp
  have w1 : IntKind.i64.wrap (4 * (k : Int).tmod 4) = ((4 * (k % 4) : Nat) : Int) := by rw [m1, wrap64 (by omega) (by omega)]; omega
  have w2 : IntKind.i64.wrap ((k : Int) + ((4 * (k % 4) : Nat) : Int)) = ((k + 4 * (k % 4) : Nat) : Int) := by rw [wrap64 (by omega) (by omega)]; omega
  have w3 : IntKind.i64.wrap (((k + 4 * (k % 4) : Nat) : Int) + 64) = ((k + 4 * (k % 4) + 64 : Nat) : Int) := by rw [wrap64 (by omega) (by omega)]; omega
  have m2 : (((k + 4 * (k % 4) + 64 : Nat) : Int)).tmod 16 = (((k + 4 * (k % 4)) % 16 : Nat) : Int) := by rw [Int.tmod_eq_emod_of_nonneg (Int.natCast_nonneg _)]; omega
  simp only [ak.b9, au (show (k : Int) < 16 by omega), aH (show (0 : Int) <= k by omega) (show (k : Int) < 16 by omega), cond_true, lY k (by omega), w1, w2, w3, m2, aH (show (0 : Int) <= (((k + 4 * (k % 4)) % 16 : Nat) : Int) by omega) (show (((k + 4 * (k % 4)) % 16 : Nat) : Int) < 16 by omega), Int.toNat_natCast])
 refine (show _ = _ from e).trans ?_;rw [ak.q9];simp only [ak.b9, aA (show ¬ ((16 : Nat) : Int) < 16 by decide), cond_false]
abbrev qC : List Int := [2, 3, 1, 1]
theorem Ze (hw : CY was) {i : Nat} (hi : i < 16) (hb : b.length = 16) (h0 : rd 0 b (i : Int) = 0) : ak.l10 .lim ((i : Int), t, qC, 0, tp, tq, t1, t2, key, dn, mu, sm, sb, bk, dK 256, b, qC, was, K, rn, tw, ()) = some (t, tp, tq, t1, t2, key, dn, mu, sm, sb, bk, dK 256, b.set i (rd 0 (oH was) (i : Int)), qC, was, K, rn, tw, ()) := by
 have h4 : ∀ j : Nat, j < 4 -> IntKind.i64.wrap (IntKind.i64.wrap (IntKind.i64.wrap ((i : Int).tdiv 4) * 4) + (IntKind.i64.wrap ((i : Int) + (j : Int))).tmod 4) = ((i / 4 * 4 + (i + j) % 4 : Nat) : Int) := by
  intro j hj;have d1 : ((i : Int)).tdiv 4 = ((i / 4 : Nat) : Int) := by rw [Int.tdiv_eq_ediv_of_nonneg (Int.natCast_nonneg i)]; simp
  have d2 : IntKind.i64.wrap ((i : Int) + (j : Int)) = ((i + j : Nat) : Int) := by rw [wrap64 (by omega) (by omega)]; omega
  have d3 : (((i + j : Nat) : Int)).tmod 4 = (((i + j) % 4 : Nat) : Int) := by rw [Int.tmod_eq_emod_of_nonneg (Int.natCast_nonneg _)]; simp
  rw [d1, d2, d3, wrap64 (n := ((i / 4 : Nat) : Int)) (by omega) (by omega), wrap64 (n := ((i / 4 : Nat) : Int) * 4) (by omega) (by omega), wrap64 (by omega) (by omega)]; omega
 have hB : ∀ j : Nat, j < 4 -> B8 (rd 0 was ((i / 4 * 4 + (i + j) % 4 : Nat) : Int)) := fun j hj => hw.at (by omega)
 have g0 := h4 0 (by omega); have g1 := h4 1 (by omega); have g2 := h4 2 (by omega); have g3 := h4 3 (by omega);have b0 := hB 0 (by omega); have b1 := hB 1 (by omega); have b2 := hB 2 (by omega); have b3 := hB 3 (by omega);rw [show ((0 : Nat) : Int) = 0 from rfl] at g0;rw [show ((1 : Nat) : Int) = 1 from rfl] at g1;rw [show ((2 : Nat) : Int) = 2 from rfl] at g2;rw [show ((3 : Nat) : Int) = 3 from rfl] at g3;have r0 := (rG b0).2.1; have r1 := (rG b1).2.2; have r2 := (rG b2).1; have r3 := (rG b3).1;have step : ∀ (c : Int) (j j' : Int) (q : Nat) (v : Int) (bb : List Int), bb.length = 16 -> 0 <= j -> j < 4 -> rd 0 qC j = c -> 0 <= c -> c < 16 -> IntKind.i64.wrap (j + 1) = j' -> IntKind.i64.wrap (IntKind.i64.wrap (IntKind.i64.wrap ((i : Int).tdiv 4) * 4) + (IntKind.i64.wrap ((i : Int) + j)).tmod 4) = (q : Int) -> q < 16 -> rd 0 (rd dY (dK 256) c) (rd 0 was (q : Int)) = v -> B8 (rd 0 was (q : Int)) ->
   ak.l10 .lim ((i : Int), t, qC, j, tp, tq, t1, t2, key, dn, mu, sm, sb, bk, dK 256, bb, qC, was, K, rn, tw, ()) = ak.l10 .lim ((i : Int), t, qC, j', tp, tq, t1, t2, key, dn, mu, sm, sb, bk, dK 256, bb.set i (dP .u8 (rd 0 bb (i : Int)) v), qC, was, K, rn, tw, ()) := by
  intro c j j' q v bb hbb h1 h2 h3 h4 h5 h6 h7 h8 h9 h10;rw [ak.q10];simp only [ak.b10, au h2, aH h1 h2, h3, aH h4 h5, h7, aH (show (0 : Int) <= i by omega) (show (i : Int) < 16 by omega), aH (show (0 : Int) <= (q : Int) by omega) (show (q : Int) < 16 by omega), aH h10.1 h10.2, h9, h6, cond_true, Int.toNat_natCast]
 rw [step 2 0 1 _ _ b hb (by omega) (by omega) rfl (by omega) (by omega) rfl g0 (by omega) r0 b0];rw [step 3 1 2 _ _ _ (by simp [hb]) (by omega) (by omega) rfl (by omega) (by omega) rfl g1 (by omega) r1 b1];rw [step 1 2 3 _ _ _ (by simp [hb]) (by omega) (by omega) rfl (by omega) (by omega) rfl g2 (by omega) r2 b2];rw [step 1 3 4 _ _ _ (by simp [hb]) (by omega) (by omega) rfl (by omega) (by omega) rfl g3 (by omega) r3 b3];rw [ak.q10];simp only [ak.b10, aA (show ¬ (4 : Int) < 4 by omega), cond_false];have hl : ∀ v, i < (b.set i v).length := fun v => by simp [hb]; omega
 simp only [uo (show i < b.length by omega), uo (hl _), List.set_set, h0];unfold oH;rw [mG hi];simp only [Nat.add_zero]
theorem E_mix (hw : CY was) (hb : b.length = 16) : ak.Ug .lim (0, tp, tq, t1, t2, key, dn, mu, sm, sb, bk, dK 256, b, qC, was, K, rn, tw, ()) = some (tp, tq, t1, t2, oH was, K, rn, tw, key, dn, mu, sm, sb, bk, dK 256, ()) := by
 have e := iT (f := ak.Ug .lim) (fun k b => ((k : Int), tp, tq, t1, t2, key, dn, mu, sm, sb, bk, dK 256, b, qC, was, K, rn, tw, ())) (fun k v => rd 0 (oH was) (k : Int)) b hb (fun k hk m' hm hj => by
  rw [ak.q11];have hm := fun h0 => Ze (tp := tp) (tq := tq) (t1 := t1) (t2 := t2) (key := key) (dn := dn) (mu := mu) (sm := sm) (sb := sb) (bk := bk) (K := K) (rn := rn) (tw := tw) (t := (k : Int))  hw (b := m'.set k 0) hk (by simp [hm]) h0
  simp only [ak.b11, au (show (k : Int) < 16 by omega), aH (show (0 : Int) <= k by omega) (show (k : Int) < 16 by omega), cond_true, Int.toNat_natCast];rw [hm (uo (by omega))];simp only [Option.bind_some, lY k (by omega), List.set_set])
 refine (show _ = _ from e).trans ?_;rw [ak.q11];simp only [ak.b11, aA (show ¬ ((16 : Nat) : Int) < 16 by decide), cond_false];have : (tab 16 fun i => rd 0 (oH was) (i : Int)) = oH was := (Fq jg).symm;rw [this]
theorem Un (hb : b.length = 16) : ak.l12 .lim (0, tp, tq, t1, t2, b, K, rn, tw, key, dn, mu, sm, sb, bk, yb, ()) = some (tp, tq, t1, t2, rn, uX b K, tw, key, dn, mu, sm, sb, bk, yb, ()) := by
 have e := iT (f := ak.l12 .lim) (fun k b => ((k : Int), tp, tq, t1, t2, b, K, rn, tw, key, dn, mu, sm, sb, bk, yb, ())) (fun k v => dP .u8 v (rd 0 K (k : Int))) b hb (fun k hk m' hm hj => by
  rw [ak.q12];simp only [ak.b12, au (show (k : Int) < 16 by omega), aH (show (0 : Int) <= k by omega) (show (k : Int) < 16 by omega), cond_true, lY k (by omega), hj k (Nat.le_refl _), Int.toNat_natCast])
 refine (show _ = _ from e).trans ?_;rw [ak.q12];simp only [ak.b12, aA (show ¬ ((16 : Nat) : Int) < 16 by decide), cond_false];rfl
theorem Xc (b : List Int) : (tab 16 fun i => rd 0 (tab 16 fun i => zi (rd 0 b (i : Int))) (((i + 4 * (i % 4)) % 16 : Nat) : Int)) = qA b := jk fun k hk => by rw [mG (by omega)]
theorem Ot (hb : CY b) : CY (qA b) := ⟨jg, Ij fun k hk => Qd (hb.at (by omega))⟩
theorem E_all {r : Nat} (hW : Words W) (hl : W.length = 4 * (r + 1)) (hr : r <= 100) (hr0 : 0 < r) (hb : b.length = 16) :
  ak.Ol .lim (1, ((r : Nat) : Int), ((r : Nat) : Int), 0, h_ W, qB W b 0, tw, key, dn, mu, sm, mX 256, bk, dK 256, ()) = some (qB W b r, tw, key, dn, mu, sm, mX 256, bk, dK 256, h_ W, ()) := by
 have hn : (h_ W).length = r + 1 := by unfold h_; simp; omega
 have e := dA (f := ak.Ol .lim) (fun k => (1, (r : Int), (r : Int), (k : Int), h_ W, qB W b k, tw, key, dn, mu, sm, mX 256, bk, dK 256, ())) (n := r) (fun k hk => by
  rw [ak.q13];have hB := DK W b k;have hK : rd CW (h_ W) (1 + (k : Int)) = qy W (k + 1) := by
   rw [show (1 + (k : Int)) = ((k + 1 : Nat) : Int) by omega, mW (by omega)];unfold h_; simp
  have w1 : IntKind.i64.wrap (((h_ W).length : Int) - 2) = (r : Int) - 1 := by rw [wrap64 (by omega) (by omega)]; omega
  have hlast : decide ((k : Int) = (r : Int) - 1) = decide (k + 2 = W.length / 4) := by
   by_cases h : k + 1 = r
   ·rw [au (by omega), au (by omega)]
   ·rw [aA (by omega), aA (by omega)]
  simp only [ak.b13, au (show (k : Int) < (r : Int) by omega), aH (show (0 : Int) <= k by omega) (show (k : Int) < (r : Int) by omega), aV (show ((h_ W).length : Int) < 9223372036854775808 by omega), cond_true, hK, w1, hlast, Um hB, Option.bind_some];rw [Zd jg];simp only [Option.bind_some, Xc];have hs := Ot hB;have hc : ((((List.replicate 4 (0 : Int)).set 0 2).set 1 3).set 2 1).set 3 1 = qC := rfl;show _ = ak.Ol .lim (1, (r : Int), (r : Int), ((k + 1 : Nat) : Int), h_ W, Oo (decide (k + 2 = W.length / 4)) (qB W b k) (qy W (k + 1)), tw, key, dn, mu, sm, mX 256, bk, dK 256, ());unfold Oo;cases decide (k + 2 = W.length / 4) with
  | true =>
   simp only [Bool.not_true, cond_false, cond_true];rw [Un hs.1];simp only [Option.bind_some, lY k (by omega)]
  | false =>
   simp only [Bool.not_false, cond_false, cond_true, hc];rw [E_mix hs hs.1];simp only [Option.bind_some];have hml : (oH (qA (qB W b k))).length = 16 := jg;rw [Un hml];simp only [Option.bind_some, lY k (by omega)])
 refine (show _ = _ from e).trans ?_;rw [ak.q13];simp only [ak.b13, aA (show ¬ (r : Int) < (r : Int) by omega), cond_false]
end
end Go.AM
end
section
namespace Go.AM
section
variable {ok : Bool} {n dn mu sm four x i t t1 t2 tp tq : Int} {key b tw ta out K was kb T sb bk : List Int} {yb W rn : List (List Int)} {last : Bool}
theorem Zf {r : Nat} (hW : Words W) (hl : W.length = 4 * (r + 1)) (hr : r <= 100) (hr0 : 0 < r) (hb : b.length = 16) {β : Type} {Q : _ -> Option β} :
  (bif inB 0 ((h_ W).length : Int) then
   ((ak.l7 .lim (0, b, rd CW (h_ W) 0, tw, key, dn, mu, sm, mX 256, bk, dK 256, h_ W, ())).bind fun (b, tw, key, dn, mu, sm, sb, bk, yb, rn, ()) =>
    bif dG 1 (rn.length : Int) (rn.length : Int) then bif aB ((rn.length : Int) - 1) then (ak.Ol .lim (1, ((rn.length : Int) - 1), ((rn.length : Int) - 1), 0, rn, b, tw, key, dn, mu, sm, sb, bk, yb, ())).bind Q else none else none) else none) = Q (qB W b r, tw, key, dn, mu, sm, mX 256, bk, dK 256, h_ W, ()) := by
 have hn : (h_ W).length = r + 1 := by unfold h_; simp; omega
 have h0 : rd CW (h_ W) 0 = qy W 0 := by
  have := mW (d := CW) (show 0 < (h_ W).length by omega);rw [show ((0 : Nat) : Int) = 0 from rfl] at this;rw [this]; unfold h_; simp
 rw [cond_pos (aH (by omega) (by omega)), h0, Xb hb];simp only [Option.bind_some];rw [cond_pos (aQ (by omega) (by omega) (by omega)), cond_pos (aV (by omega)), show ((h_ W).length : Int) - 1 = (r : Int) by omega];have := E_all (tw := tw) (key := key) (dn := dn) (mu := mu) (sm := sm) (bk := bk)  hW hl hr hr0 hb;rw [show qB W b 0 = uX b (qy W 0) from rfl] at this;rw [this];rfl
theorem Xd (hk : key.length = 16 \/ key.length = 32) (hkb : ∀ x ∈ key, B8 x) (hb : b.length = 16) :
  ak.LW .lim (b, key, 0, 0, sm, dY, dY, List.replicate 16 dY, ()) = some (encS key b, ()) := by
 have h0 : ak.LW .lim (b, key, 0, 0, sm, dY, dY, List.replicate 16 dY, ()) = ak.b14 .lim (ak.LW .lim) (b, key, 0, 0, sm, dY, dY, List.replicate 16 dY, ()) := ak.q14 _;rw [h0];have hr := Xa (sm := sm) (key := key) (b := b) (tw := CW)  hk hkb;have hW := xK key hkb;have hl : (kG key).length = 4 * ((key.length / 4 + 6) + 1) := by rw [sK]; omega
 have hq : (kG key).length / 4 - 1 = key.length / 4 + 6 := by omega
 unfold ak.b14;simp only [hr, Option.bind_some];refine (Zf (Q := fun (b, tw, key, dn, mu, sm, sb, bk, yb, rn, ()) => some (b, ())) hW hl (by omega) (by omega) hb).trans ?_;unfold encS;rw [hq]
end
end Go.AM
end
section
namespace Go.AM
section
variable {ok : Bool} {n dn mu sm four nk x i t t1 t2 tp tq : Int} {key b tw ta out K was kb T sb bk : List Int} {yb W rn : List (List Int)} {last : Bool}
theorem S_mul (i : Nat) (hi : i < 256) : aj.l0 .lim ((i : Int), t, 7, 0, ok, n, key, dn, mu, sm, sb, bk, yb, kL, b, tw, ta, out, rn, ()) = some (t, ok, n, key, dn, mu, sm, sb, bk, CX i yb 7, b, tw, ta, out, rn, ()) := by
 have e := dA (f := aj.l0 .lim) (fun k => ((i : Int), t, 7, (k : Int), ok, n, key, dn, mu, sm, sb, bk, CX i yb k, kL, b, tw, ta, out, rn, ())) (n := 7) (fun k hk => by
  rw [aj.q0];obtain ⟨h1, h2⟩ := Yd k hk;have hB : B8 (rd 0 kL (k : Int)) := ⟨h1, by omega⟩;have Ro : B8 (i : Int) := ⟨by omega, by omega⟩;simp only [aj.b0, au (show (k : Int) < 7 by omega), aH (show (0 : Int) <= k by omega) (show (k : Int) < (kL.length : Int) from show (k : Int) < 7 by omega), pR Ro, pV Ro hB, Option.bind_some, aH h1 (show rd 0 kL (k : Int) < 16 from h2), aH (show (0 : Int) <= i by omega) (show (i : Int) < 256 by omega), cond_true, lY k (by omega), Int.toNat_natCast];rfl)
 refine e.trans ?_;rw [aj.q0];simp only [aj.b0, aA (show ¬ ((7 : Nat) : Int) < 7 by decide), cond_false]
theorem Uo : aj.l1 .lim (0, ok, n, key, dn, mu, sm, dY, dY, List.replicate 16 dY, b, tw, ta, out, rn, ()) = some (ok, n, key, dn, mu, sm, mX 256, BG 256, dK 256, b, tw, ta, out, rn, ()) := by
 have e := dA (f := aj.l1 .lim) (fun k => ((k : Int), ok, n, key, dn, mu, sm, mX k, BG k, dK k, b, tw, ta, out, rn, ())) (n := 256) (fun k hk => by
  rw [aj.q1];have Ro : B8 (k : Int) := ⟨by omega, by omega⟩;have hs := Qd Ro;have hm := fun sb bk => S_mul (ok := ok) (key := key) (dn := dn) (mu := mu) (sm := sm) (sb := sb) (bk := bk) (yb := dK k) (b := b) (tw := tw) (t := (k : Int)) (n := n) (ta := ta) (out := out) (rn := rn) k hk
  simp only [aj.b1, au (show (k : Int) < 256 by omega), pR Ro, Qc Ro, Option.bind_some, aH (show (0 : Int) <= k by omega) (show (k : Int) < 256 by omega), aH hs.1 hs.2, cond_true, show ((([1, 2, 3, 9, 11, 13, 14] : List Int).length : Nat) : Int) = 7 from rfl, aV (show (7 : Int) < 9223372036854775808 by omega), hm, lY k (by omega), Qe];rw [show (mX k).set ((k : Int)).toNat (zi k) = mX (k + 1) from oD rfl];rfl)
 rw [show mX 0 = dY from nK, Fv, show BG 0 = dY from rfl, show ((0 : Nat) : Int) = 0 from rfl] at e;refine e.trans ?_;rw [aj.q1];simp only [aj.b1, aA (show ¬ ((256 : Nat) : Int) < 256 by decide), cond_false]
theorem Xe {q : Nat} (hk : kb.length = 4 * q) (hq : q <= 100) : aj.l2 .lim (0, nk, ok, n, 4, key, dn, mu, sm, sb, bk, yb, b, tw, ta, out, kb, [], rn, ()) = some (nk, ok, n, key, dn, mu, sm, sb, bk, yb, b, tw, ta, out, (List.range q).map (word kb), rn, ()) := by
 have e := dA (f := aj.l2 .lim) (fun k => (((4 * k : Nat) : Int), nk, ok, n, 4, key, dn, mu, sm, sb, bk, yb, b, tw, ta, out, kb, (List.range k).map (word kb), rn, ())) (n := q) (fun k hkq => by
  rw [aj.q2];have w1 : IntKind.i64.wrap (((4 * k : Nat) : Int) + 4) = ((4 * k + 4 : Nat) : Int) := by rw [wrap64 (by omega) (by omega)]; omega
  have w2 : mn 4 ((kb.length : Int) - ((4 * k : Nat) : Int)) = 4 := by rw [iq]; omega
  have w3 : (cut kb ((4 * k : Nat) : Int) ((4 * k + 4 : Nat) : Int)).length = 4 := by rw [mV, List.length_take, List.length_drop]; omega
  have w4 : (Nat.ble 1 4 && Nat.ble 4 (cut kb ((4 * k : Nat) : Int) ((4 * k + 4 : Nat) : Int)).length) = true := by rw [w3]; rfl
  simp only [aj.b2, aV (show (kb.length : Int) < 9223372036854775808 by omega), au (show ((4 * k : Nat) : Int) < (kb.length : Int) by omega), aQ (show (0 : Int) <= ((4 * k : Nat) : Int) by omega) (show ((4 * k : Nat) : Int) <= (kb.length : Int) by omega) (Int.le_refl _), aV (show (kb.length : Int) - ((4 * k : Nat) : Int) < 9223372036854775808 by omega), w2, w1, aQ (show (0 : Int) <= ((4 * k : Nat) : Int) by omega) (show ((4 * k : Nat) : Int) <= ((4 * k + 4 : Nat) : Int) by omega) (Int.le_refl _), au (show ((4 * k + 4 : Nat) : Int) <= (kb.length : Int) by omega), Bool.and_self, w4, cond_true];rw [cond_pos (by simp; omega), LY (by omega)];simp only [List.range_succ, List.map_append, List.map_cons, List.map_nil];rfl)
 refine e.trans ?_;rw [aj.q2];simp only [aj.b2, aV (show (kb.length : Int) < 9223372036854775808 by omega), aA (show ¬ ((4 * q : Nat) : Int) < (kb.length : Int) by omega), cond_true, cond_false]
theorem S_xor (hW : Words W) {i nk : Nat} (h1 : nk <= i) (h2 : i <= W.length) (h3 : 0 < nk) (h4 : i < 1000) (hT : T.length = 4) : aj.l3 .lim ((nk : Int), x, (i : Int), 0, ok, n, T, key, dn, mu, sm, sb, bk, yb, b, tw, ta, out, W, rn, ()) = some ((nk : Int), x, (i : Int), ok, n, Fz T (rd z4 W ((i - nk : Nat) : Int)), key, dn, mu, sm, sb, bk, yb, b, tw, ta, out, W, rn, ()) := by
 have w : IntKind.i64.wrap ((i : Int) - (nk : Int)) = ((i - nk : Nat) : Int) := by rw [wrap64 (by omega) (by omega)]; omega
 have e := iT (f := aj.l3 .lim) (fun k T => ((nk : Int), x, (i : Int), (k : Int), ok, n, T, key, dn, mu, sm, sb, bk, yb, b, tw, ta, out, W, rn, ())) (fun k v => dP .u8 v (rd 0 (rd z4 W ((i - nk : Nat) : Int)) (k : Int))) T hT (fun k hk m' hm hj => by
  rw [aj.q3];simp only [aj.b3, au (show (k : Int) < 4 by omega), aH (show (0 : Int) <= k by omega) (show (k : Int) < 4 by omega), w, aH (show (0 : Int) <= ((i - nk : Nat) : Int) by omega) (show ((i - nk : Nat) : Int) < (W.length : Int) by omega), cond_true, lY k (by omega), hj k (Nat.le_refl _), Int.toNat_natCast])
 refine e.trans ?_;rw [aj.q3];simp only [aj.b3, aA (show ¬ ((4 : Nat) : Int) < 4 by decide), cond_false];rfl
end
end Go.AM
end
section
namespace Go.AM
section
variable {ok : Bool} {n dn mu sm four x i t t1 t2 tp tq : Int} {key b tw ta out K was kb T sb bk : List Int} {yb W rn : List (List Int)} {last : Bool}
theorem Zg (a b c d : Int) : ((((List.replicate 4 (0 : Int)).set 0 a).set 1 b).set 2 c).set 3 d = [a, b, c, d] := rfl
theorem Xf {nk : Nat} (hn : nk = 4 \/ nk = 8) (hk : 4 * nk <= kb.length) (hb : ∀ x ∈ kb, B8 x) :
  aj.l4 .lim ((nk : Int), 1, (nk : Int), ok, n, key, dn, mu, sm, mX 256, bk, yb, b, tw, ta, out, (List.range nk).map (word kb), rn, ()) = some (ok, n, key, dn, mu, sm, mX 256, bk, yb, b, tw, ta, out, (sched nk kb (3 * nk + 28)).1, rn, ()) := by
 have e := dA (f := aj.l4 .lim) (fun k => ((nk : Int), (sched nk kb k).2, ((nk + k : Nat) : Int), ok, n, key, dn, mu, sm, mX 256, bk, yb, b, tw, ta, out, (sched nk kb k).1, rn, ())) (n := 3 * nk + 28) (fun k hkq => by
  rw [aj.q4];obtain ⟨hW, hx⟩ := wZ nk kb hk hb k;have hl := sJ nk kb k;have hs : sched nk kb (k + 1) = stepW nk (sched nk kb k) := rfl;rw [hs];unfold stepW;generalize hq : sched nk kb k = q at hW hx hl;obtain ⟨W, x⟩ := q;simp only at hW hx hl ⊢
  have hi0 : nk + k < 1000 := by omega
  generalize hi : nk + k = i at hl hi0;have hw := hW.at (show i - 1 < W.length by omega);have hb0 := hW.byte (show i - 1 < W.length by omega) (j := 0) (by omega) (by omega);have hb1 := hW.byte (show i - 1 < W.length by omega) (j := 1) (by omega) (by omega);have hb2 := hW.byte (show i - 1 < W.length by omega) (j := 2) (by omega) (by omega);have hb3 := hW.byte (show i - 1 < W.length by omega) (j := 3) (by omega) (by omega);have w1 : IntKind.i64.wrap (4 * IntKind.i64.wrap ((nk : Int) + 7)) = ((4 * nk + 28 : Nat) : Int) := by rw [wrap64 (n := (nk : Int) + 7) (by omega) (by omega), wrap64 (by omega) (by omega)]; omega
  have w2 : IntKind.i64.wrap ((i : Int) - 1) = ((i - 1 : Nat) : Int) := by rw [wrap64 (by omega) (by omega)]; omega
  have m1 : ((i : Int)).tmod (nk : Int) = ((i % nk : Nat) : Int) := by rw [Int.tmod_eq_emod_of_nonneg (Int.natCast_nonneg i)]; simp
  have m2 : ((i : Int)).tmod 8 = ((i % 8 : Nat) : Int) := by rw [Int.tmod_eq_emod_of_nonneg (Int.natCast_nonneg i)]; simp
  have FB := fun x T hT => S_xor (ok := ok) (key := key) (dn := dn) (mu := mu) (sm := sm) (sb := mX 256) (bk := bk) (yb := yb) (b := b) (tw := tw) (x := x) (T := T) (n := n) (ta := ta) (out := out) (rn := rn) hW (i := i) (nk := nk) (by omega) (by omega) (by omega) (by omega) hT
  have cap : ∀ T : List Int, decide (W.length + ([T] : List (List Int)).length < 17592186044416) = true := fun T => au (by simp; omega)
  simp only [aj.b4, w1, au (show (i : Int) < ((4 * nk + 28 : Nat) : Int) by omega), w2, aH (show (0 : Int) <= ((i - 1 : Nat) : Int) by omega) (show ((i - 1 : Nat) : Int) < (W.length : Int) by omega), aA (show ¬ (nk : Int) = 0 by omega), m1, m2, cond_true, Bool.not_false, aH hb0.1 hb0.2, aH hb1.1 hb1.2, aH hb2.1 hb2.2, aH hb3.1 hb3.2, rQ hb0, rQ hb1, rQ hb2, rQ hb3, Zg, Bool.or_true];rw [hl];unfold Qg;by_cases c1 : i % nk = 0
  ·rw [au (show ((i % nk : Nat) : Int) = 0 by omega), if_pos c1, if_pos c1];simp only [cond_true, pV hx (show B8 2 from ⟨by decide, by decide⟩), Option.bind_some];rw [FB _ _ rfl];simp only [Option.bind_some];rw [cond_pos (by simp; omega), lY i (by omega)];rw [show i + 1 = nk + (k + 1) by omega]
  ·rw [aA (show ¬ ((i % nk : Nat) : Int) = 0 by omega), if_neg c1, if_neg c1];simp only [cond_false];by_cases c2 : nk = 8 /\ i % 8 = 4
   ·rw [au (show (nk : Int) = 8 by omega), au (show ((i % 8 : Nat) : Int) = 4 by omega), if_pos c2];simp only [Bool.and_self, cond_true];rw [FB _ _ rfl];simp only [Option.bind_some];rw [cond_pos (by simp; omega), lY i (by omega)];rw [show i + 1 = nk + (k + 1) by omega]
   ·have : (decide ((nk : Int) = 8) && decide (((i % 8 : Nat) : Int) = 4)) = false := by
     by_cases c3 : nk = 8
     ·rw [aA (show ¬ ((i % 8 : Nat) : Int) = 4 by omega), Bool.and_false]
     ·rw [aA (show ¬ (nk : Int) = 8 by omega), Bool.false_and]
    rw [this, if_neg c2];simp only [cond_false];rw [FB _ _ hw.1];simp only [Option.bind_some];rw [cond_pos (by simp; omega), lY i (by omega), <- list4 hw.1];rw [show i + 1 = nk + (k + 1) by omega])
 refine (show _ = _ from e).trans ?_;rw [aj.q4];have w1 : IntKind.i64.wrap (4 * IntKind.i64.wrap ((nk : Int) + 7)) = ((4 * nk + 28 : Nat) : Int) := by rw [wrap64 (n := (nk : Int) + 7) (by omega) (by omega), wrap64 (by omega) (by omega)]; omega
 simp only [aj.b4, w1, aA (show ¬ ((nk + (3 * nk + 28) : Nat) : Int) < ((4 * nk + 28 : Nat) : Int) by omega), cond_false]
end
end Go.AM
end
section
namespace Go.AM
section
variable {ok : Bool} {n dn mu sm four x i t t1 t2 tp tq : Int} {key b tw ta out K was kb T sb bk : List Int} {yb W rn : List (List Int)} {last : Bool}
theorem Ur {q : Nat} (hW : Words W) (hl : W.length = 4 * q) (hq : q <= 100) : aj.l5 .lim (0, ok, n, 4, key, dn, mu, sm, sb, bk, yb, b, tw, ta, out, W, [], ()) = some (ok, n, key, dn, mu, sm, sb, bk, yb, b, tw, ta, out, h_ W, ()) := by
 have e := dA (f := aj.l5 .lim) (fun k => (((4 * k : Nat) : Int), ok, n, 4, key, dn, mu, sm, sb, bk, yb, b, tw, ta, out, W, (List.range k).map (qy W), ())) (n := q) (fun k hkq => by
  rw [aj.q5];have w1 : IntKind.i64.wrap (((4 * k : Nat) : Int) + 4) = ((4 * k + 4 : Nat) : Int) := by rw [wrap64 (by omega) (by omega)]; omega
  have w2 : mn 4 ((W.length : Int) - ((4 * k : Nat) : Int)) = 4 := by rw [iq]; omega
  have w3 : (cut W ((4 * k : Nat) : Int) ((4 * k + 4 : Nat) : Int)).length = 4 := by rw [mV, List.length_take, List.length_drop]; omega
  have at_ : ∀ j : Nat, j < 4 -> rd z4 (cut W ((4 * k : Nat) : Int) ((4 * k + 4 : Nat) : Int)) (j : Int) = rd z4 W ((4 * k + j : Nat) : Int) := fun j hj => by
   rw [mV];unfold rd;rw [Int.toNat_natCast, Int.toNat_natCast, List.getD_eq_getElem?_getD, List.getD_eq_getElem?_getD, List.getElem?_take_of_lt (by omega), List.getElem?_drop]
  have a0 : rd z4 (cut W ((4 * k : Nat) : Int) ((4 * k + 4 : Nat) : Int)) 0 = rd z4 W ((4 * k : Nat) : Int) := at_ 0 (by omega);have a1 : rd z4 (cut W ((4 * k : Nat) : Int) ((4 * k + 4 : Nat) : Int)) 1 = rd z4 W ((4 * k + 1 : Nat) : Int) := at_ 1 (by omega);have a2 : rd z4 (cut W ((4 * k : Nat) : Int) ((4 * k + 4 : Nat) : Int)) 2 = rd z4 W ((4 * k + 2 : Nat) : Int) := at_ 2 (by omega);have a3 : rd z4 (cut W ((4 * k : Nat) : Int) ((4 * k + 4 : Nat) : Int)) 3 = rd z4 W ((4 * k + 3 : Nat) : Int) := at_ 3 (by omega);have c4 : ∀ l : List Int, l.length = 4 -> cut l 0 4 = l := fun l hl => by
   have := mV l 0 4;rw [show ((0 : Nat) : Int) = 0 from rfl, show ((4 : Nat) : Int) = 4 from rfl] at this;rw [this, List.drop_zero, List.take_of_length_le (by omega)]
  have l0 := (hW.at (show 4 * k < W.length by omega)).1;have l1 := (hW.at (show 4 * k + 1 < W.length by omega)).1;have l2 := (hW.at (show 4 * k + 2 < W.length by omega)).1;have l3 := (hW.at (show 4 * k + 3 < W.length by omega)).1;have hfl : [rd z4 W ((4 * k : Nat) : Int), rd z4 W ((4 * k + 1 : Nat) : Int), rd z4 W ((4 * k + 2 : Nat) : Int), rd z4 W ((4 * k + 3 : Nat) : Int)].flatten = qy W k := by simp [qy]
  have hrl := Am hW (j := k) (by omega);have tV := Io [rd z4 W ((4 * k : Nat) : Int), rd z4 W ((4 * k + 1 : Nat) : Int), rd z4 W ((4 * k + 2 : Nat) : Int), rd z4 W ((4 * k + 3 : Nat) : Int)] (by rw [hfl, hrl]; omega) (by simp);rw [hfl] at tV;simp only [aj.b5, aV (show (W.length : Int) < 9223372036854775808 by omega), au (show ((4 * k : Nat) : Int) < (W.length : Int) by omega), aQ (show (0 : Int) <= ((4 * k : Nat) : Int) by omega) (show ((4 * k : Nat) : Int) <= (W.length : Int) by omega) (Int.le_refl _), aV (show (W.length : Int) - ((4 * k : Nat) : Int) < 9223372036854775808 by omega), w2, w1, aQ (show (0 : Int) <= ((4 * k : Nat) : Int) by omega) (show ((4 * k : Nat) : Int) <= ((4 * k + 4 : Nat) : Int) by omega) (Int.le_refl _), au (show ((4 * k + 4 : Nat) : Int) <= (W.length : Int) by omega), Bool.and_self, w3, cond_true, aH (show (0 : Int) <= 0 by omega) (show (0 : Int) < ((4 : Nat) : Int) by decide), aH (show (0 : Int) <= 1 by omega) (show (1 : Int) < ((4 : Nat) : Int) by decide), aH (show (0 : Int) <= 2 by omega) (show (2 : Int) < ((4 : Nat) : Int) by decide), aH (show (0 : Int) <= 3 by omega) (show (3 : Int) < ((4 : Nat) : Int) by decide), a0, a1, a2, a3, c4 _ l0, c4 _ l1, c4 _ l2, c4 _ l3, tV, Option.bind_some, hrl, List.take_of_length_le (Nat.le_of_eq hrl)];rw [show (Nat.ble 1 16 && Nat.ble 16 16) = true from rfl, cond_true, cond_pos (by simp; omega)];simp only [List.range_succ, List.map_append, List.map_cons, List.map_nil];rfl)
 refine (show _ = _ from e).trans ?_;rw [aj.q5];simp only [aj.b5, aV (show (W.length : Int) < 9223372036854775808 by omega), aA (show ¬ ((4 * q : Nat) : Int) < (W.length : Int) by omega), cond_true, cond_false];unfold h_;rw [hl, Nat.mul_div_cancel_left _ (by omega)]
theorem Xg (hk : key.length = 16 \/ key.length = 32) (hb : ∀ x ∈ key, B8 x) : aj.l6 .lim (n, key, 0, 0, sm, dY, dY, List.replicate 16 dY, b, tw, ta, out, [], ()) = some (n, b, tw, key, 1, 0, sm, mX 256, BG 256, dK 256, ta, out, h_ (kG key), ()) := by
 have h0 : aj.l6 .lim (n, key, 0, 0, sm, dY, dY, List.replicate 16 dY, b, tw, ta, out, [], ()) = aj.b6 .lim (aj.l6 .lim) (n, key, 0, 0, sm, dY, dY, List.replicate 16 dY, b, tw, ta, out, [], ()) := aj.q6 _;rw [h0];have hd : (key.length : Int).tdiv 4 = ((key.length / 4 : Nat) : Int) := by rw [Int.tdiv_eq_ediv_of_nonneg (Int.natCast_nonneg _)]; simp
 have w1 : IntKind.i64.wrap ((key.length : Int).tdiv 4) = ((key.length / 4 : Nat) : Int) := by rw [hd, wrap64 (by omega) (by omega)]
 have t := Uo (ok := true) (key := key) (dn := 0) (mu := 1) (sm := sm) (b := b) (tw := tw) (n := n) (ta := ta) (out := out) (rn := []);have s := Xe (kb := key) (q := key.length / 4) (nk := ((key.length / 4 : Nat) : Int)) (ok := true) (key := key) (dn := 0) (mu := 1) (sm := sm) (sb := mX 256) (bk := BG 256) (yb := dK 256) (b := b) (tw := tw) (n := n) (ta := ta) (out := out) (rn := []) (by omega) (by omega);have w := Xf (kb := key) (nk := key.length / 4) (ok := true) (key := key) (dn := 0) (mu := 1) (sm := sm) (bk := BG 256) (yb := dK 256) (b := b) (tw := tw) (n := n) (ta := ta) (out := out) (rn := []) (by omega) (by omega) hb;have r := Ur (W := kG key) (q := key.length / 4 + 7) (ok := true) (key := key) (dn := 0) (mu := 1) (sm := sm) (sb := mX 256) (bk := BG 256) (yb := dK 256) (b := b) (tw := tw) (n := n) (ta := ta) (out := out) (xK key hb) (by rw [sK]; omega) (by omega);have hs : iP.run .lim (true, ()) = some 1 := rfl;have hw : (sched (key.length / 4) key (3 * (key.length / 4) + 28)).1 = kG key := rfl;simp only [aj.b6, decide_true, Bool.not_true, Bool.not_false, cond_true, t, Option.bind_some, aV (show (key.length : Int) < 9223372036854775808 by omega), w1];rw [s];simp only [Option.bind_some];rw [w];simp only [Option.bind_some];rw [hw, r];simp only [Option.bind_some, hs, show IntKind.i32.wrap (1 + -1) = 0 from by decide, decide_true, Bool.not_true, cond_false]
end
end Go.AM
end
section
namespace Go.AM
section
variable {ok : Bool} {n dn mu sm four x i t t1 t2 tp tq : Int} {key b tw ta out K was kb T sb bk : List Int} {yb W rn : List (List Int)} {last : Bool}
theorem Xh (hb : b.length = 16) : aj.l7 .lim (0, n, b, K, tw, key, dn, mu, sm, sb, bk, yb, ta, out, rn, ()) = some (n, uX b K, tw, key, dn, mu, sm, sb, bk, yb, ta, out, rn, ()) := by
 have e := iT (f := aj.l7 .lim) (fun k b => ((k : Int), n, b, K, tw, key, dn, mu, sm, sb, bk, yb, ta, out, rn, ())) (fun k v => dP .u8 v (rd 0 K (k : Int))) b hb (fun k hk m' hm hj => by
  rw [aj.q7];simp only [aj.b7, au (show (k : Int) < 16 by omega), aH (show (0 : Int) <= k by omega) (show (k : Int) < 16 by omega), cond_true, lY k (by omega), hj k (Nat.le_refl _), Int.toNat_natCast])
 refine (show _ = _ from e).trans ?_;rw [aj.q7];simp only [aj.b7, aA (show ¬ ((16 : Nat) : Int) < 16 by decide), cond_false];rfl
theorem Us (hb : CY b) : aj.l8 .lim (0, last, tp, tq, t1, t2, n, b, key, dn, mu, sm, mX 256, bk, yb, K, rn, tw, ta, out, ()) = some (last, tp, tq, t1, t2, n, tab 16 fun i => zi (rd 0 b (i : Int)), K, rn, tw, key, dn, mu, sm, mX 256, bk, yb, ta, out, ()) := by
 have e := iT (f := aj.l8 .lim) (fun k b => ((k : Int), last, tp, tq, t1, t2, n, b, key, dn, mu, sm, mX 256, bk, yb, K, rn, tw, ta, out, ())) (fun k v => zi v) b hb.1 (fun k hk m' hm hj => by
  rw [aj.q8];have h := hb.at hk;simp only [aj.b8, au (show (k : Int) < 16 by omega), aH (show (0 : Int) <= k by omega) (show (k : Int) < 16 by omega), cond_true, lY k (by omega), hj k (Nat.le_refl _), aH h.1 h.2, rQ h, Int.toNat_natCast])
 refine (show _ = _ from e).trans ?_;rw [aj.q8];simp only [aj.b8, aA (show ¬ ((16 : Nat) : Int) < 16 by decide), cond_false]
theorem Zh (hb : b.length = 16) : aj.l9 .lim (4, 0, last, tp, tq, t1, t2, n, b, was, K, rn, tw, key, dn, mu, sm, sb, bk, yb, ta, out, ()) = some (last, tp, tq, t1, t2, n, tab 16 fun i => rd 0 was (((i + 4 * (i % 4)) % 16 : Nat) : Int), K, rn, tw, key, dn, mu, sm, sb, bk, yb, ta, out, ()) := by
 have e := iT (f := aj.l9 .lim) (fun k b => (4, (k : Int), last, tp, tq, t1, t2, n, b, was, K, rn, tw, key, dn, mu, sm, sb, bk, yb, ta, out, ())) (fun k v => rd 0 was (((k + 4 * (k % 4)) % 16 : Nat) : Int)) b hb (fun k hk m' hm hj => by
  rw [aj.q9];have m1 : ((k : Int)).tmod 4 = ((k % 4 : Nat) : Int) := by rw [Int.tmod_eq_emod_of_nonneg (Int.natCast_nonneg k)]; simp
  have w1 : IntKind.i64.wrap (4 * (k : Int).tmod 4) = ((4 * (k % 4) : Nat) : Int) := by rw [m1, wrap64 (by omega) (by omega)]; omega
  have w2 : IntKind.i64.wrap ((k : Int) + ((4 * (k % 4) : Nat) : Int)) = ((k + 4 * (k % 4) : Nat) : Int) := by rw [wrap64 (by omega) (by omega)]; omega
  have w3 : IntKind.i64.wrap (((k + 4 * (k % 4) : Nat) : Int) + 64) = ((k + 4 * (k % 4) + 64 : Nat) : Int) := by rw [wrap64 (by omega) (by omega)]; omega
  have m2 : (((k + 4 * (k % 4) + 64 : Nat) : Int)).tmod 16 = (((k + 4 * (k % 4)) % 16 : Nat) : Int) := by rw [Int.tmod_eq_emod_of_nonneg (Int.natCast_nonneg _)]; omega
  simp only [aj.b9, au (show (k : Int) < 16 by omega), aH (show (0 : Int) <= k by omega) (show (k : Int) < 16 by omega), cond_true, lY k (by omega), w1, w2, w3, m2, aH (show (0 : Int) <= (((k + 4 * (k % 4)) % 16 : Nat) : Int) by omega) (show (((k + 4 * (k % 4)) % 16 : Nat) : Int) < 16 by omega), Int.toNat_natCast])
 refine (show _ = _ from e).trans ?_;rw [aj.q9];simp only [aj.b9, aA (show ¬ ((16 : Nat) : Int) < 16 by decide), cond_false]
abbrev qE : List Int := [2, 3, 1, 1]
theorem Zi (hw : CY was) {i : Nat} (hi : i < 16) (hb : b.length = 16) (h0 : rd 0 b (i : Int) = 0) : aj.l10 .lim ((i : Int), t, qE, 0, tp, tq, t1, t2, n, key, dn, mu, sm, sb, bk, dK 256, b, qE, was, K, rn, tw, ta, out, ()) = some (t, tp, tq, t1, t2, n, key, dn, mu, sm, sb, bk, dK 256, b.set i (rd 0 (oH was) (i : Int)), qE, was, K, rn, tw, ta, out, ()) := by
 have h4 : ∀ j : Nat, j < 4 -> IntKind.i64.wrap (IntKind.i64.wrap (IntKind.i64.wrap ((i : Int).tdiv 4) * 4) + (IntKind.i64.wrap ((i : Int) + (j : Int))).tmod 4) = ((i / 4 * 4 + (i + j) % 4 : Nat) : Int) := by
  intro j hj;have d1 : ((i : Int)).tdiv 4 = ((i / 4 : Nat) : Int) := by rw [Int.tdiv_eq_ediv_of_nonneg (Int.natCast_nonneg i)]; simp
  have d2 : IntKind.i64.wrap ((i : Int) + (j : Int)) = ((i + j : Nat) : Int) := by rw [wrap64 (by omega) (by omega)]; omega
  have d3 : (((i + j : Nat) : Int)).tmod 4 = (((i + j) % 4 : Nat) : Int) := by rw [Int.tmod_eq_emod_of_nonneg (Int.natCast_nonneg _)]; simp
  rw [d1, d2, d3, wrap64 (n := ((i / 4 : Nat) : Int)) (by omega) (by omega), wrap64 (n := ((i / 4 : Nat) : Int) * 4) (by omega) (by omega), wrap64 (by omega) (by omega)]; omega
 have hB : ∀ j : Nat, j < 4 -> B8 (rd 0 was ((i / 4 * 4 + (i + j) % 4 : Nat) : Int)) := fun j hj => hw.at (by omega)
 have g0 := h4 0 (by omega); have g1 := h4 1 (by omega); have g2 := h4 2 (by omega); have g3 := h4 3 (by omega);have b0 := hB 0 (by omega); have b1 := hB 1 (by omega); have b2 := hB 2 (by omega); have b3 := hB 3 (by omega);rw [show ((0 : Nat) : Int) = 0 from rfl] at g0;rw [show ((1 : Nat) : Int) = 1 from rfl] at g1;rw [show ((2 : Nat) : Int) = 2 from rfl] at g2;rw [show ((3 : Nat) : Int) = 3 from rfl] at g3;have r0 := (rG b0).2.1; have r1 := (rG b1).2.2; have r2 := (rG b2).1; have r3 := (rG b3).1;have step : ∀ (c : Int) (j j' : Int) (q : Nat) (v : Int) (bb : List Int), bb.length = 16 -> 0 <= j -> j < 4 -> rd 0 qE j = c -> 0 <= c -> c < 16 -> IntKind.i64.wrap (j + 1) = j' -> IntKind.i64.wrap (IntKind.i64.wrap (IntKind.i64.wrap ((i : Int).tdiv 4) * 4) + (IntKind.i64.wrap ((i : Int) + j)).tmod 4) = (q : Int) -> q < 16 -> rd 0 (rd dY (dK 256) c) (rd 0 was (q : Int)) = v -> B8 (rd 0 was (q : Int)) ->
   aj.l10 .lim ((i : Int), t, qE, j, tp, tq, t1, t2, n, key, dn, mu, sm, sb, bk, dK 256, bb, qE, was, K, rn, tw, ta, out, ()) = aj.l10 .lim ((i : Int), t, qE, j', tp, tq, t1, t2, n, key, dn, mu, sm, sb, bk, dK 256, bb.set i (dP .u8 (rd 0 bb (i : Int)) v), qE, was, K, rn, tw, ta, out, ()) := by
  intro c j j' q v bb hbb h1 h2 h3 h4 h5 h6 h7 h8 h9 h10;rw [aj.q10];simp only [aj.b10, au h2, aH h1 h2, h3, aH h4 h5, h7, aH (show (0 : Int) <= i by omega) (show (i : Int) < 16 by omega), aH (show (0 : Int) <= (q : Int) by omega) (show (q : Int) < 16 by omega), aH h10.1 h10.2, h9, h6, cond_true, Int.toNat_natCast]
 rw [step 2 0 1 _ _ b hb (by omega) (by omega) rfl (by omega) (by omega) rfl g0 (by omega) r0 b0];rw [step 3 1 2 _ _ _ (by simp [hb]) (by omega) (by omega) rfl (by omega) (by omega) rfl g1 (by omega) r1 b1];rw [step 1 2 3 _ _ _ (by simp [hb]) (by omega) (by omega) rfl (by omega) (by omega) rfl g2 (by omega) r2 b2];rw [step 1 3 4 _ _ _ (by simp [hb]) (by omega) (by omega) rfl (by omega) (by omega) rfl g3 (by omega) r3 b3];rw [aj.q10];simp only [aj.b10, aA (show ¬ (4 : Int) < 4 by omega), cond_false];have hl : ∀ v, i < (b.set i v).length := fun v => by simp [hb]; omega
 simp only [uo (show i < b.length by omega), uo (hl _), List.set_set, h0];unfold oH;rw [mG hi];simp only [Nat.add_zero]
theorem S_mix (hw : CY was) (hb : b.length = 16) : aj.Ug .lim (0, tp, tq, t1, t2, n, key, dn, mu, sm, sb, bk, dK 256, b, qE, was, K, rn, tw, ta, out, ()) = some (tp, tq, t1, t2, n, oH was, K, rn, tw, key, dn, mu, sm, sb, bk, dK 256, ta, out, ()) := by
 have e := iT (f := aj.Ug .lim) (fun k b => ((k : Int), tp, tq, t1, t2, n, key, dn, mu, sm, sb, bk, dK 256, b, qE, was, K, rn, tw, ta, out, ())) (fun k v => rd 0 (oH was) (k : Int)) b hb (fun k hk m' hm hj => by
  rw [aj.q11];have hm := fun h0 => Zi (tp := tp) (tq := tq) (t1 := t1) (t2 := t2) (key := key) (dn := dn) (mu := mu) (sm := sm) (sb := sb) (bk := bk) (K := K) (rn := rn) (tw := tw) (t := (k : Int)) (n := n) (ta := ta) (out := out) hw (b := m'.set k 0) hk (by simp [hm]) h0
  simp only [aj.b11, au (show (k : Int) < 16 by omega), aH (show (0 : Int) <= k by omega) (show (k : Int) < 16 by omega), cond_true, Int.toNat_natCast];rw [hm (uo (by omega))];simp only [Option.bind_some, lY k (by omega), List.set_set])
 refine (show _ = _ from e).trans ?_;rw [aj.q11];simp only [aj.b11, aA (show ¬ ((16 : Nat) : Int) < 16 by decide), cond_false];have : (tab 16 fun i => rd 0 (oH was) (i : Int)) = oH was := (Fq jg).symm;rw [this]
theorem Ut (hb : b.length = 16) : aj.l12 .lim (0, tp, tq, t1, t2, n, b, K, rn, tw, key, dn, mu, sm, sb, bk, yb, ta, out, ()) = some (tp, tq, t1, t2, n, rn, uX b K, tw, key, dn, mu, sm, sb, bk, yb, ta, out, ()) := by
 have e := iT (f := aj.l12 .lim) (fun k b => ((k : Int), tp, tq, t1, t2, n, b, K, rn, tw, key, dn, mu, sm, sb, bk, yb, ta, out, ())) (fun k v => dP .u8 v (rd 0 K (k : Int))) b hb (fun k hk m' hm hj => by
  rw [aj.q12];simp only [aj.b12, au (show (k : Int) < 16 by omega), aH (show (0 : Int) <= k by omega) (show (k : Int) < 16 by omega), cond_true, lY k (by omega), hj k (Nat.le_refl _), Int.toNat_natCast])
 refine (show _ = _ from e).trans ?_;rw [aj.q12];simp only [aj.b12, aA (show ¬ ((16 : Nat) : Int) < 16 by decide), cond_false];rfl
theorem Xi (b : List Int) : (tab 16 fun i => rd 0 (tab 16 fun i => zi (rd 0 b (i : Int))) (((i + 4 * (i % 4)) % 16 : Nat) : Int)) = qA b := jk fun k hk => by rw [mG (by omega)]
theorem Ou (hb : CY b) : CY (qA b) := ⟨jg, Ij fun k hk => Qd (hb.at (by omega))⟩
theorem S_all {r : Nat} (hW : Words W) (hl : W.length = 4 * (r + 1)) (hr : r <= 100) (hr0 : 0 < r) (hb : b.length = 16) :
  aj.Ol .lim (1, ((r : Nat) : Int), ((r : Nat) : Int), 0, n, h_ W, qB W b 0, tw, key, dn, mu, sm, mX 256, bk, dK 256, ta, out, ()) = some (n, qB W b r, tw, key, dn, mu, sm, mX 256, bk, dK 256, ta, out, h_ W, ()) := by
 have hn : (h_ W).length = r + 1 := by unfold h_; simp; omega
 have e := dA (f := aj.Ol .lim) (fun k => (1, (r : Int), (r : Int), (k : Int), n, h_ W, qB W b k, tw, key, dn, mu, sm, mX 256, bk, dK 256, ta, out, ())) (n := r) (fun k hk => by
  rw [aj.q13];have hB := DK W b k;have hK : rd CW (h_ W) (1 + (k : Int)) = qy W (k + 1) := by
   rw [show (1 + (k : Int)) = ((k + 1 : Nat) : Int) by omega, mW (by omega)];unfold h_; simp
  have w1 : IntKind.i64.wrap (((h_ W).length : Int) - 2) = (r : Int) - 1 := by rw [wrap64 (by omega) (by omega)]; omega
  have hlast : decide ((k : Int) = (r : Int) - 1) = decide (k + 2 = W.length / 4) := by
   by_cases h : k + 1 = r
   ·rw [au (by omega), au (by omega)]
   ·rw [aA (by omega), aA (by omega)]
  simp only [aj.b13, au (show (k : Int) < (r : Int) by omega), aH (show (0 : Int) <= k by omega) (show (k : Int) < (r : Int) by omega), aV (show ((h_ W).length : Int) < 9223372036854775808 by omega), cond_true, hK, w1, hlast, Us hB, Option.bind_some];rw [Zh jg];simp only [Option.bind_some, Xi];have hs := Ou hB;have hc : ((((List.replicate 4 (0 : Int)).set 0 2).set 1 3).set 2 1).set 3 1 = qE := rfl;show _ = aj.Ol .lim (1, (r : Int), (r : Int), ((k + 1 : Nat) : Int), n, h_ W, Oo (decide (k + 2 = W.length / 4)) (qB W b k) (qy W (k + 1)), tw, key, dn, mu, sm, mX 256, bk, dK 256, ta, out, ());unfold Oo;cases decide (k + 2 = W.length / 4) with
  | true =>
   simp only [Bool.not_true, cond_false, cond_true];rw [Ut hs.1];simp only [Option.bind_some, lY k (by omega)]
  | false =>
   simp only [Bool.not_false, cond_false, cond_true, hc];rw [S_mix hs hs.1];simp only [Option.bind_some];have hml : (oH (qA (qB W b k))).length = 16 := jg;rw [Ut hml];simp only [Option.bind_some, lY k (by omega)])
 refine (show _ = _ from e).trans ?_;rw [aj.q13];simp only [aj.b13, aA (show ¬ (r : Int) < (r : Int) by omega), cond_false]
end
end Go.AM
end
section
namespace Go.AM
section
variable {ok : Bool} {n dn mu sm four x i t t1 t2 tp tq : Int} {key b tw ta out K was kb T sb bk : List Int} {yb W rn : List (List Int)} {last : Bool}
theorem Uu {r : Nat} (hW : Words W) (hl : W.length = 4 * (r + 1)) (hr : r <= 100) (hr0 : 0 < r) (hb : b.length = 16) {β : Type} {Q : _ -> Option β} :
  (bif inB 0 ((h_ W).length : Int) then
   ((aj.l7 .lim (0, n, b, rd CW (h_ W) 0, tw, key, dn, mu, sm, mX 256, bk, dK 256, ta, out, h_ W, ())).bind fun (n, b, tw, key, dn, mu, sm, sb, bk, yb, ta, out, rn, ()) =>
    bif dG 1 (rn.length : Int) (rn.length : Int) then bif aB ((rn.length : Int) - 1) then (aj.Ol .lim (1, ((rn.length : Int) - 1), ((rn.length : Int) - 1), 0, n, rn, b, tw, key, dn, mu, sm, sb, bk, yb, ta, out, ())).bind Q else none else none) else none) = Q (n, qB W b r, tw, key, dn, mu, sm, mX 256, bk, dK 256, ta, out, h_ W, ()) := by
 have hn : (h_ W).length = r + 1 := by unfold h_; simp; omega
 have h0 : rd CW (h_ W) 0 = qy W 0 := by
  have := mW (d := CW) (show 0 < (h_ W).length by omega);rw [show ((0 : Nat) : Int) = 0 from rfl] at this;rw [this]; unfold h_; simp
 rw [cond_pos (aH (by omega) (by omega)), h0, Xh hb];simp only [Option.bind_some];rw [cond_pos (aQ (by omega) (by omega) (by omega)), cond_pos (aV (by omega)), show ((h_ W).length : Int) - 1 = (r : Int) by omega];have := S_all (tw := tw) (key := key) (dn := dn) (mu := mu) (sm := sm) (bk := bk) (n := n) (ta := ta) (out := out) hW hl hr hr0 hb;rw [show qB W b 0 = uX b (qy W 0) from rfl] at this;rw [this];rfl
theorem Xj (hk : key.length = 16 \/ key.length = 32) (hkb : ∀ x ∈ key, B8 x) (hb : b.length = 16) :
  aj.LW .lim (b, n, key, 0, 0, sm, dY, dY, List.replicate 16 dY, ta, out, [], ()) = some (n, encS key b, key, 1, 0, sm, mX 256, BG 256, dK 256, ta, out, h_ (kG key), ()) := by
 have h0 : aj.LW .lim (b, n, key, 0, 0, sm, dY, dY, List.replicate 16 dY, ta, out, [], ()) = aj.b14 .lim (aj.LW .lim) (b, n, key, 0, 0, sm, dY, dY, List.replicate 16 dY, ta, out, [], ()) := aj.q14 _;rw [h0];have hr := Xg (sm := sm) (key := key) (b := b) (tw := CW) (n := n) (ta := ta) (out := out) hk hkb;have hW := xK key hkb;have hl : (kG key).length = 4 * ((key.length / 4 + 6) + 1) := by rw [sK]; omega
 have hq : (kG key).length / 4 - 1 = key.length / 4 + 6 := by omega
 unfold aj.b14;simp only [hr, Option.bind_some];refine (Uu (Q := fun (n, b, tw, key, dn, mu, sm, sb, bk, yb, ta, out, rn, ()) => some (n, b, key, dn, mu, sm, sb, bk, yb, ta, out, rn, ())) hW hl (by omega) (by omega) hb).trans ?_;unfold encS;rw [hq]
theorem Xk (hk : key.length = 16 \/ key.length = 32) (hkb : ∀ x ∈ key, B8 x) (hb : b.length = 16) :
  aj.LW .lim (b, n, key, 1, 0, sm, mX 256, BG 256, dK 256, ta, out, h_ (kG key), ()) = some (n, encS key b, key, 1, 0, sm, mX 256, BG 256, dK 256, ta, out, h_ (kG key), ()) := by
 have h0 : aj.LW .lim (b, n, key, 1, 0, sm, mX 256, BG 256, dK 256, ta, out, h_ (kG key), ()) = aj.b14 .lim (aj.LW .lim) (b, n, key, 1, 0, sm, mX 256, BG 256, dK 256, ta, out, h_ (kG key), ()) := aj.q14 _;rw [h0];have hr : aj.l6 .lim (n, key, 1, 0, sm, mX 256, BG 256, dK 256, b, CW, ta, out, h_ (kG key), ()) = some (n, b, CW, key, 1, 0, sm, mX 256, BG 256, dK 256, ta, out, h_ (kG key), ()) := by
  rw [aj.q6];simp only [aj.b6, aA (show ¬ (1 : Int) = 0 by omega), Bool.not_false, Bool.not_true, cond_false]
 have hW := xK key hkb;have hl : (kG key).length = 4 * ((key.length / 4 + 6) + 1) := by rw [sK]; omega
 have hq : (kG key).length / 4 - 1 = key.length / 4 + 6 := by omega
 unfold aj.b14;simp only [hr, Option.bind_some];refine (Uu (Q := fun (n, b, tw, key, dn, mu, sm, sb, bk, yb, ta, out, rn, ()) => some (n, b, key, dn, mu, sm, sb, bk, yb, ta, out, rn, ())) hW hl (by omega) (by omega) hb).trans ?_;unfold encS;rw [hq]
end
end Go.AM
end
section
namespace Go.AM
abbrev Bs (s : List Int) : Prop := ∀ x ∈ s, B8 x
abbrev dF : Nat := 9223372036854775808
def keyE (key : List Int) : Bool := decide (key.length = 16 \/ key.length = 32)
noncomputable def encR (key b : List Int) : List Int × Int := if key.length = 16 \/ key.length = 32 then (if b.length = 16 then (encS key b, 0) else ([], 10)) else ([], 13)
theorem Uw {b : List Int} (h : b.length = 16) : (b.drop 0).take 16 = b := by rw [List.drop_zero, List.take_of_length_le (by omega)]
theorem w_ {key b : List Int} (hk : key.length < dF) (hb : b.length < dF) (hkb : Bs key) : ak.run .lim (key, b, ()) = some ((encR key b).1, (encR key b).2, ()) := by
 unfold encR;simp only [ak.run, aF hk, aF hb, cond_true, Bool.or_true];by_cases h1 : key.length = 16 \/ key.length = 32
 ·have : (!decide ((key.length : Int) = 16) && !decide ((key.length : Int) = 32)) = false := by
   rcases h1 with h | h
   ·rw [au (show (key.length : Int) = 16 by omega)]; rfl
   ·rw [au (show (key.length : Int) = 32 by omega), Bool.not_true, Bool.and_false]
  rw [this, if_pos h1];simp only [cond_false];by_cases h2 : b.length = 16
  ·rw [au (show (b.length : Int) = 16 by omega), if_pos h2];simp only [Bool.not_true, cond_false, h2];rw [show (Nat.ble 1 16 && Nat.ble 16 16) = true from rfl, cond_true, List.take_of_length_le (by omega), Xd h1 hkb h2];simp only [Option.bind_some];rw [Uw (pG _ _).1]
  ·rw [aA (show ¬ (b.length : Int) = 16 by omega), if_neg h2];rfl
 ·rw [aA (show ¬ (key.length : Int) = 16 by omega), aA (show ¬ (key.length : Int) = 32 by omega), if_neg h1];rfl
theorem Rq {key : List Int} (hk : key.length < dF) : iV.run .lim (key, ()) = some (keyE key) := by
 simp only [iV.run, aF hk, cond_true, Bool.or_true, eY];unfold keyE;congr 1;exact decide_eq_decide.2 (by omega)
theorem FC {key b : List Int} (hk : key.length < dF) (hb : b.length < dF) : fG.run .lim (key, b, ()) = some (if key.length = 16 \/ key.length = 32 then (if b.length = 16 then 0 else 10) else 13) := by
 simp only [fG.run, Rq hk, Option.bind_some, aF hb];unfold keyE;by_cases h1 : key.length = 16 \/ key.length = 32
 ·rw [au h1, if_pos h1];by_cases h2 : b.length = 16
  ·rw [au (show (b.length : Int) = 16 by omega), if_pos h2]; rfl
  ·rw [aA (show ¬ (b.length : Int) = 16 by omega), if_neg h2]; rfl
 ·rw [aA h1, if_neg h1]; rfl
theorem uz {key b : List Int} (hk : key.length < dF) (hb : b.length < dF) (hkb : Bs key) : dV.run .lim (key, b, ()) = some ((encR key b).1, (encR key b).2, ()) := by
 simp only [dV.run, FC hk hb, Option.bind_some];unfold encR;by_cases h1 : key.length = 16 \/ key.length = 32
 ·rw [if_pos h1, if_pos h1];by_cases h2 : b.length = 16
  ·rw [if_pos h2, if_pos h2, Ik h1 hkb];simp only [Option.bind_some, Qh h1 hkb h2];rfl
  ·rw [if_neg h2, if_neg h2]; rfl
 ·rw [if_neg h1, if_neg h1]; rfl
def L_ : Nat -> List Int -> List Int
 | 0, m => m
 | i + 1, m => bif !decide (rd 0 (m.set i (IntKind.u8.wrap (rd 0 m (i : Int) + 1))) (i : Int) = 0) then m.set i (IntKind.u8.wrap (rd 0 m (i : Int) + 1)) else L_ i (m.set i (IntKind.u8.wrap (rd 0 m (i : Int) + 1)))
theorem Mc : ∀ i m, (L_ i m).length = m.length
 | 0, _ => rfl
 | i + 1, m => by
  rw [L_];cases decide (rd 0 (m.set i (IntKind.u8.wrap (rd 0 m (i : Int) + 1))) (i : Int) = 0)
  ·simp
  ·simp [Mc i]
noncomputable def jl (key at_ : List Int) : Nat -> List Int × List Int
 | 0 => ([], at_)
 | k + 1 => ((jl key at_ k).1 ++ encS key (jl key at_ k).2, L_ 16 (jl key at_ k).2)
theorem oI (key at_ : List Int) : ∀ k, (jl key at_ k).1.length = 16 * k /\ (jl key at_ k).2.length = at_.length
 | 0 => ⟨rfl, rfl⟩
 | k + 1 => by
  obtain ⟨h1, h2⟩ := oI key at_ k;exact ⟨by rw [jl, List.length_append, h1, (pG _ _).1]; omega, by rw [jl, Mc, h2]⟩
noncomputable def Ov (key at_ : List Int) (n : Nat) : List Int := (jl key at_ ((n + 15) / 16)).1.take n
theorem xg (key at_ : List Int) (n : Nat) : (Ov key at_ n).length = n := by unfold Ov; rw [List.length_take, (oI _ _ _).1]; omega
section
variable {n dn mu sm : Int} {key ta out sb bk w : List Int} {yb rn : List (List Int)}
theorem Yf : ∀ (i : Nat), i <= 16 -> ∀ (ta : List Int), ta.length = 16 -> aj.l15 .lim (n, (i : Int) - 1, key, dn, mu, sm, sb, bk, yb, ta, out, rn, ()) = some (n, key, dn, mu, sm, sb, bk, yb, L_ i ta, out, rn, ())
 | 0, _, ta, ht => by
  rw [aj.q15];simp only [aj.b15, aA (show ¬ (((0 : Nat) : Int) - 1 >= 0) by omega), cond_false];rfl
 | i + 1, hi, ta, ht => by
  have w1 : IntKind.i64.wrap ((i : Int) - 1) = (i : Int) - 1 := wrap64 (by omega) (by omega);have ih := Yf i (by omega) (ta.set i (IntKind.u8.wrap (rd 0 ta (i : Int) + 1))) (by simpa using ht);rw [show ((i + 1 : Nat) : Int) - 1 = (i : Int) by omega, aj.q15, L_];simp only [aj.b15, au (show (i : Int) >= 0 by omega), aH (show (0 : Int) <= i by omega) (show (i : Int) < 16 by omega), cond_true, Int.toNat_natCast, w1, ih];cases decide (rd 0 (ta.set i (IntKind.u8.wrap (rd 0 ta (i : Int) + 1))) (i : Int) = 0) <;> rfl
theorem Yg : ∀ (i : Nat), i <= 16 -> ∀ (ta : List Int), ta.length = 16 -> aY.l0 .lim (n, out, (i : Int) - 1, w, ta, ()) = some (n, out, w, L_ i ta, ())
 | 0, _, ta, ht => by
  rw [aY.q0];simp only [aY.b0, aA (show ¬ (((0 : Nat) : Int) - 1 >= 0) by omega), cond_false];rfl
 | i + 1, hi, ta, ht => by
  have w1 : IntKind.i64.wrap ((i : Int) - 1) = (i : Int) - 1 := wrap64 (by omega) (by omega);have ih := Yg i (by omega) (ta.set i (IntKind.u8.wrap (rd 0 ta (i : Int) + 1))) (by simpa using ht);rw [show ((i + 1 : Nat) : Int) - 1 = (i : Int) by omega, aY.q0, L_];simp only [aY.b0, au (show (i : Int) >= 0 by omega), List.length_set, ht, aH (show (0 : Int) <= i by omega) (show (i : Int) < ((16 : Nat) : Int) by omega), cond_true, Int.toNat_natCast, w1, ih];cases decide (rd 0 (ta.set i (IntKind.u8.wrap (rd 0 ta (i : Int) + 1))) (i : Int) = 0) <;> rfl
end
def Rt (key at_ : List Int) (n : Int) : Int := if n < 0 \/ n > 65536 then 13 else if key.length = 16 \/ key.length = 32 then (if at_.length = 16 then 0 else 10) else 13
noncomputable def Ru (key at_ : List Int) (n : Int) : List Int := if Rt key at_ n = 0 then Ov key at_ n.toNat else []
theorem Zj {key at_ : List Int} {q : Nat} (hk : key.length = 16 \/ key.length = 32) (hkb : Bs key) (ha : at_.length = 16) (hq : q <= 65536) :
  aj.Yb .lim ((q : Int), key, 0, 0, 0, dY, dY, List.replicate 16 dY, at_, [], [], ()) = some ((q : Int), (jl key at_ ((q + 15) / 16)).1, ()) := by
 have step : ∀ (k : Nat) (dn mu : Int) (sb bk : List Int) (yb rn : List (List Int)), k < (q + 15) / 16 -> aj.LW .lim ((jl key at_ k).2, (q : Int), key, dn, mu, 0, sb, bk, yb, (jl key at_ k).2, (jl key at_ k).1, rn, ()) = some ((q : Int), encS key (jl key at_ k).2, key, 1, 0, 0, mX 256, BG 256, dK 256, (jl key at_ k).2, (jl key at_ k).1, h_ (kG key), ()) ->
   aj.Yb .lim ((q : Int), key, dn, mu, 0, sb, bk, yb, (jl key at_ k).2, (jl key at_ k).1, rn, ()) = aj.Yb .lim ((q : Int), key, 1, 0, 0, mX 256, BG 256, dK 256, (jl key at_ (k + 1)).2, (jl key at_ (k + 1)).1, h_ (kG key), ()) := by
  intro k dn mu sb bk yb rn hk e;obtain ⟨h1, h2⟩ := oI key at_ k;have hi := Yf (n := (q : Int)) (dn := 1) (mu := 0) (sm := 0) (key := key) (sb := mX 256) (bk := BG 256) (yb := dK 256) (rn := h_ (kG key)) (out := (jl key at_ k).1 ++ encS key (jl key at_ k).2) 16 (by omega) (jl key at_ k).2 (by omega);rw [show ((16 : Nat) : Int) - 1 = 15 from rfl] at hi;rw [aj.q16];simp only [aj.b16, aF (show (jl key at_ k).1.length < 9223372036854775808 by omega), au (show (((jl key at_ k).1.length : Nat) : Int) < (q : Int) by omega), cond_true, e, Option.bind_some, Uw (pG key (jl key at_ k).2).1, (pG key (jl key at_ k).2).1, hi];rw [cond_pos (au (by omega))];rfl
 have fin : ∀ dn mu sb bk yb rn, aj.Yb .lim ((q : Int), key, dn, mu, 0, sb, bk, yb, (jl key at_ ((q + 15) / 16)).2, (jl key at_ ((q + 15) / 16)).1, rn, ()) = some ((q : Int), (jl key at_ ((q + 15) / 16)).1, ()) := by
  intro dn mu sb bk yb rn;obtain ⟨h1, h2⟩ := oI key at_ ((q + 15) / 16);rw [aj.q16];simp only [aj.b16, aF (show (jl key at_ ((q + 15) / 16)).1.length < 9223372036854775808 by omega), aA (show ¬ (((jl key at_ ((q + 15) / 16)).1.length : Nat) : Int) < (q : Int) by omega), cond_true, cond_false]
 by_cases h0 : q = 0
 ·subst h0;exact fin 0 0 dY dY (List.replicate 16 dY) []
 ·obtain ⟨p, hp⟩ : ∃ p, (q + 15) / 16 = p + 1 := ⟨(q + 15) / 16 - 1, by omega⟩;have e0 := step 0 0 0 dY dY (List.replicate 16 dY) [] (by omega) (Xj (n := (q : Int)) (sm := 0) (ta := at_) (out := []) hk hkb ha);have e1 := dA (f := aj.Yb .lim) (fun k => ((q : Int), key, 1, 0, 0, mX 256, BG 256, dK 256, (jl key at_ (k + 1)).2, (jl key at_ (k + 1)).1, h_ (kG key), ())) (n := p) (fun k hkp => step (k + 1) 1 0 (mX 256) (BG 256) (dK 256) (h_ (kG key)) (by omega) (Xk (n := (q : Int)) (sm := 0) (ta := (jl key at_ (k + 1)).2) (out := (jl key at_ (k + 1)).1) hk hkb (by rw [(oI _ _ _).2]; exact ha)));refine e0.trans (e1.trans ?_);rw [<- hp];exact fin _ _ _ _ _ _
theorem Ox {key at_ : List Int} {n : Int} (hk : key.length < dF) (ha : at_.length < dF) (hkb : Bs key) : aj.run .lim (key, at_, n, ()) = some (Ru key at_ n, Rt key at_ n, ()) := by
 unfold Ru Rt;simp only [aj.run, aF hk, aF ha, cond_true, Bool.or_true, eY];by_cases h0 : n < 0 \/ n > 65536
 ·rw [au h0, if_pos h0, if_neg (by decide)]; rfl
 ·rw [aA h0, if_neg h0];simp only [cond_false];by_cases h1 : key.length = 16 \/ key.length = 32
  ·have : (!decide ((key.length : Int) = 16) && !decide ((key.length : Int) = 32)) = false := by
    rcases h1 with h | h
    ·rw [au (show (key.length : Int) = 16 by omega)]; rfl
    ·rw [au (show (key.length : Int) = 32 by omega), Bool.not_true, Bool.and_false]
   rw [this, if_pos h1];simp only [cond_false];by_cases h2 : at_.length = 16
   ·rw [au (show (at_.length : Int) = 16 by omega), if_pos h2, if_pos rfl];simp only [Bool.not_true, cond_false, h2];have hn : n = ((n.toNat : Nat) : Int) := by omega
    have hl := Zj (q := n.toNat) h1 hkb h2 (by omega);rw [<- hn] at hl;rw [show (Nat.ble 1 16 && Nat.ble 16 16) = true from rfl, cond_true, List.take_of_length_le (by omega), hl];simp only [Option.bind_some];have := (oI key at_ ((n.toNat + 15) / 16)).1;rw [cond_pos (aQ (by omega) (by omega) (by omega)), List.drop_zero, Int.sub_zero];rfl
   ·rw [aA (show ¬ (at_.length : Int) = 16 by omega), if_neg h2, if_neg (by decide)];rfl
  ·rw [aA (show ¬ (key.length : Int) = 16 by omega), aA (show ¬ (key.length : Int) = 32 by omega), if_neg h1, if_neg (by decide)];rfl
theorem Oy {key at_ : List Int} {n : Int} (hk : key.length < dF) (ha : at_.length < dF) (hkb : Bs key) : aY.run .lim (key, at_, n, ()) = some (Ru key at_ n, Rt key at_ n, ()) := by
 unfold Ru Rt;simp only [aY.run, eY, FC hk ha, Option.bind_some];by_cases h0 : n < 0 \/ n > 65536
 ·rw [au h0, if_pos h0, if_neg (show ¬ (13 : Int) = 0 by decide)]; rfl
 ·rw [aA h0, if_neg h0];simp only [cond_false];by_cases h1 : key.length = 16 \/ key.length = 32
  ·rw [if_pos h1];by_cases h2 : at_.length = 16
   ·rw [if_pos h2, Ik h1 hkb];simp only [Option.bind_some, decide_true, Bool.not_true, cond_false];have hn : n = ((n.toNat : Nat) : Int) := by omega
    generalize hq : n.toNat = q at hn;subst hn;have e := dA (f := aY.l1 .lim) (fun k => ((q : Int), (jl key at_ k).1, (kG key).flatten, (jl key at_ k).2, ())) (n := (q + 15) / 16) (fun k hk => by
     obtain ⟨g1, g2⟩ := oI key at_ k;have hi := Yg (n := (q : Int)) (w := (kG key).flatten) (out := (jl key at_ k).1 ++ encS key (jl key at_ k).2) 16 (by omega) (jl key at_ k).2 (by omega);rw [show ((16 : Nat) : Int) - 1 = 15 from rfl] at hi;rw [aY.q1];simp only [aY.b1, aF (show (jl key at_ k).1.length < 9223372036854775808 by omega), au (show (((jl key at_ k).1.length : Nat) : Int) < (q : Int) by omega), cond_true, Qh h1 hkb (show (jl key at_ k).2.length = 16 by omega), Option.bind_some, (pG key (jl key at_ k).2).1, hi];rw [cond_pos (au (by unfold maxStr; omega))];rfl)
    rw [show (jl key at_ 0).1 = [] from rfl, show (jl key at_ 0).2 = at_ from rfl] at e;obtain ⟨g1, g2⟩ := oI key at_ ((q + 15) / 16);rw [e, aY.q1];simp only [aY.b1, aF (show (jl key at_ ((q + 15) / 16)).1.length < 9223372036854775808 by omega), aA (show ¬ (((jl key at_ ((q + 15) / 16)).1.length : Nat) : Int) < (q : Int) by omega), cond_true, cond_false, Option.bind_some];rw [cond_pos (aQ (by omega) (by omega) (by omega)), if_pos trivial];congr 2
   ·rw [if_neg h2, if_neg (show ¬ (10 : Int) = 0 by decide)]; rfl
  ·rw [if_neg h1, if_neg (show ¬ (13 : Int) = 0 by decide)]; rfl
end Go.AM
end
section
namespace Go.AM
theorem Xl (n : Int) : IntKind.u32.wrap n = n % 4294967296 := by unfold IntKind.wrap; simp [IntKind.signed, IntKind.bits]
theorem Aq (n : Int) : IntKind.u64.wrap n = n % 18446744073709551616 := by unfold IntKind.wrap; simp [IntKind.signed, IntKind.bits]
theorem Ux {w x y : Nat} (hx : x < 2 ^ w) (hy : y < 2 ^ w) : (BitVec.ofInt w (x : Int) ||| BitVec.ofInt w (y : Int)).toNat = x ||| y := by
 rw [BitVec.toNat_or, BitVec.toNat_ofInt, BitVec.toNat_ofInt];have e : ∀ z : Nat, z < 2 ^ w -> ((z : Int) % ((2 ^ w : Nat) : Int)).toNat = z := fun z hz => by rw [<- Int.natCast_emod, Int.toNat_natCast, Nat.mod_eq_of_lt hz]
 rw [e x hx, e y hy]
theorem Uy {a b m : Nat} (h : b < 2 ^ m) : 2 ^ m * a ||| b = 2 ^ m * a + b := (Nat.two_pow_add_eq_or_of_lt h a).symm
theorem ior64 {a b : Nat} (m : Nat) (h : b < 2 ^ m) (hm : 2 ^ m * a + b < 9223372036854775808) : oJ .i64 ((2 ^ m * a : Nat) : Int) (b : Int) = ((2 ^ m * a + b : Nat) : Int) := by
 show IntKind.i64.wrap ((BitVec.ofInt 64 ((2 ^ m * a : Nat) : Int) ||| BitVec.ofInt 64 (b : Int)).toNat : Int) = _;have h1 : 2 ^ m * a < 2 ^ 64 := Nat.lt_of_le_of_lt (Nat.le_add_right _ b) (Nat.lt_of_lt_of_le hm (by decide));have h2 : b < 2 ^ 64 := Nat.lt_of_le_of_lt (Nat.le_add_left _ (2 ^ m * a)) (Nat.lt_of_lt_of_le hm (by decide));rw [Ux h1 h2, Uy h, wrap64 (by omega) (by omega)]
theorem Oz {a : Int} (h : B8 a) : ∃ n : Nat, a = (n : Int) /\ n < 256 := ⟨a.toNat, by have := h.1; omega, by have := h.1; have := h.2; omega⟩
theorem num2 {a b : Int} (ha : B8 a) (hb : B8 b) : oJ .i64 (fA .i64 (IntKind.i64.wrap a) 8) (IntKind.i64.wrap b) = a * 256 + b := by
 obtain ⟨x, rfl, hx⟩ := Oz ha;obtain ⟨y, rfl, hy⟩ := Oz hb;rw [wrap64 (by omega) (by omega), wrap64 (by omega) (by omega)];have e : fA .i64 (x : Int) 8 = ((2 ^ 8 * x : Nat) : Int) := by
  show IntKind.i64.wrap ((x : Int) * 2 ^ 8) = _;rw [wrap64 (by omega) (by omega)]; omega
 rw [e, ior64 8 (by omega) (by omega)];omega
theorem Yh {a b : Int} (ha : B8 a) (hb : B8 b) : IntKind.i64.wrap (IntKind.i64.wrap (IntKind.i64.wrap a * 256) + IntKind.i64.wrap b) = a * 256 + b := by
 unfold B8 at ha hb;rw [wrap64 (n := a) (by omega) (by omega), wrap64 (n := b) (by omega) (by omega), wrap64 (n := a * 256) (by omega) (by omega), wrap64 (by omega) (by omega)]
theorem f_ (x : Int) (k m : Nat) (K : IntKind) (hm : m <= K.bits) : jc K x (m : Int) = x / 2 ^ m := by
 show x.fdiv (2 ^ min ((m : Int).toNat) K.bits) = _;rw [Int.toNat_natCast, Nat.min_eq_left hm, Int.fdiv_eq_ediv_of_nonneg _ (by exact Int.le_of_lt (Int.pow_pos (by decide)))]
end Go.AM
end
section
namespace Go.AM
abbrev FF := Int × List Int
abbrev f0 : FF := ((0 : Int), ([] : List Int))
def eG (s : List Int) : Int := s.foldl (fun n c => n * 256 + c) 0
theorem Ip (s : List Int) (c : Int) : eG (s ++ [c]) = eG s * 256 + c := by unfold eG; rw [List.foldl_append]; rfl
theorem DL {s : List Int} (hs : Bs s) : ∀ k, k <= s.length -> 0 <= eG (s.take k) /\ eG (s.take k) < 256 ^ k := by
 intro k
 induction k with
 | zero => intro _; simp [eG]
 | succ k ih =>
  intro hk;have h := ih (by omega);rw [Ah (d := (0 : Int)) (by omega), Ip, Int.pow_succ];have hc := hs _ (fC (d := (0 : Int)) (i := (k : Int)) (by omega) (by omega));omega
theorem Zk {k : Nat} (h : k <= 7) : (256 : Int) ^ k <= 72057594037927936 := by
 have h1 := Nat.pow_le_pow_right (n := 256) (by decide) h;have h2 : ((256 ^ k : Nat) : Int) = (256 : Int) ^ k := by rw [Int.natCast_pow]; rfl
 omega
theorem Zl {a b : Nat} (m : Nat) (h : b < 2 ^ m) (hm : 2 ^ m * a + b < 18446744073709551616) : oJ .u64 ((2 ^ m * a : Nat) : Int) (b : Int) = ((2 ^ m * a + b : Nat) : Int) := by
 show IntKind.u64.wrap ((BitVec.ofInt 64 ((2 ^ m * a : Nat) : Int) ||| BitVec.ofInt 64 (b : Int)).toNat : Int) = _;rw [Ux (Nat.lt_of_le_of_lt (Nat.le_add_right _ b) hm) (Nat.lt_of_le_of_lt (Nat.le_add_left _ (2 ^ m * a)) hm), Uy h, Aq];omega
theorem Zm {n c : Int} (h0 : 0 <= n) (h1 : n < 72057594037927936) (hc : B8 c) : oJ .u64 (fA .u64 n 8) (IntKind.u64.wrap c) = n * 256 + c := by
 obtain ⟨x, rfl⟩ := Int.eq_ofNat_of_zero_le h0;obtain ⟨y, rfl, hy⟩ := Oz hc;have e : fA .u64 (x : Int) 8 = ((2 ^ 8 * x : Nat) : Int) := by
  show IntKind.u64.wrap ((x : Int) * 2 ^ 8) = _;rw [Aq]; omega
 have e2 : IntKind.u64.wrap (y : Int) = (y : Int) := by rw [Aq]; omega
 rw [e, e2, Zl 8 (by omega) (by omega)];omega
theorem Md {s : List Int} (hs : Bs s) (hl : s.length <= 8) {k : Nat} (hk : k < s.length) : oJ .u64 (fA .u64 (eG (s.take k)) 8) (IntKind.u64.wrap (rd 0 s (k : Int))) = eG (s.take (k + 1)) := by
 have hb := DL hs k (by omega);have hp := Zk (k := k) (by omega);rw [Zm hb.1 (by omega) (hs _ (fC (by omega) (by omega))), Ah (d := (0 : Int)) hk, Ip]
theorem FD {s : List Int} (hs : Bs s) (hl : s.length <= 8) : dI.run .lim (s, ()) = some (eG s) := by
 have e := dA (f := dI.l0 .lim) (fun k => (s, eG (s.take k), (s.length : Int), (k : Int), ())) (n := s.length) (fun k hk => by
  rw [dI.q0];simp only [dI.b0, au (show (k : Int) < (s.length : Int) by omega), aH (show (0 : Int) <= (k : Int) by omega) (show (k : Int) < (s.length : Int) by omega), cond_true, lY k (by omega), Md hs hl hk])
 have e0 : dI.l0 .lim (s, 0, (s.length : Int), 0, ()) = dI.l0 .lim (s, eG (s.take s.length), (s.length : Int), (s.length : Int), ()) := e;simp only [dI.run, aF (show s.length < 9223372036854775808 by omega), cond_true, e0, List.take_length];rw [dI.q0];simp only [dI.b0, aA (show ¬ (s.length : Int) < (s.length : Int) by omega), cond_false, Option.bind_some]
theorem BH {s : List Int} (hs : Bs s) (hl : s.length <= 8) : aK.run .lim (s, ()) = some (eG s) := by
 have e := dA (f := aK.l0 .lim) (fun k => (s, eG (s.take k), (k : Int), ())) (n := s.length) (fun k hk => by
  rw [aK.q0];simp only [aK.b0, aF (show s.length < 9223372036854775808 by omega), au (show (k : Int) < (s.length : Int) by omega), aH (show (0 : Int) <= (k : Int) by omega) (show (k : Int) < (s.length : Int) by omega), cond_true, lY k (by omega), Md hs hl hk])
 have e0 : aK.l0 .lim (s, 0, 0, ()) = aK.l0 .lim (s, eG (s.take s.length), (s.length : Int), ()) := e;simp only [aK.run, e0, List.take_length];rw [aK.q0];simp only [aK.b0, aF (show s.length < 9223372036854775808 by omega), aA (show ¬ (s.length : Int) < (s.length : Int) by omega), cond_true, cond_false, Option.bind_some]
theorem jC {α : Type} {s : List α} {a b : Nat} {i j : Int} (hi : i = (a : Int)) (hj : j = (b : Int)) : cut s i j = (s.take b).drop a := by subst hi; subst hj; rfl
theorem pI {α : Type} {s : List α} {a : Nat} {i : Int} (hi : i = (a : Int)) : cut s i (s.length : Int) = s.drop a := by subst hi; unfold cut; rw [Int.toNat_natCast, Int.toNat_natCast, List.take_length]
theorem Bs.take {s : List Int} (h : Bs s) (n : Nat) : Bs (s.take n) := fun x hx => h x (List.mem_of_mem_take hx)
theorem Bs.drop {s : List Int} (h : Bs s) (n : Nat) : Bs (s.drop n) := fun x hx => h x (List.mem_of_mem_drop hx)
theorem Bs.cut {s : List Int} (h : Bs s) (i j : Int) : Bs (cut s i j) := fun x hx => h x (List.mem_of_mem_take (List.mem_of_mem_drop hx))
theorem Bs.app {s t : List Int} (h : Bs s) (k : Bs t) : Bs (s ++ t) := fun x hx => (List.mem_append.1 hx).elim (h x) (k x)
theorem and3 {n : Int} (h0 : 0 <= n) (h1 : n < 9223372036854775808) : gB .i64 n 3 = n % 4 := by
 obtain ⟨x, rfl⟩ := Int.eq_ofNat_of_zero_le h0;show IntKind.i64.wrap ((BitVec.ofInt 64 (x : Int) &&& BitVec.ofInt 64 3).toNat : Int) = _;rw [BitVec.toNat_and, BitVec.toNat_ofInt, show (BitVec.ofInt 64 3).toNat = 2 ^ 2 - 1 from rfl, Nat.and_two_pow_sub_one_eq_mod];have e : ((x : Int) % ((2 ^ 64 : Nat) : Int)).toNat = x := by omega
 rw [e, wrap64 (by omega) (by omega)]; omega
def eH (s : List Int) : Nat := (eG ((s.take 4).drop 2)).toNat
def zf (s : List Int) : Prop := s.length < 4 \/ eH s < 16 \/ eH s % 4 ≠ 0 \/ eH s > s.length
instance (s : List Int) : Decidable (zf s) := by unfold zf; exact inferInstance
def SE (s : List Int) : FF := (eG (s.take 2), (s.take (eH s)).drop 4)
def qL : Nat -> List Int -> List FF -> List FF × Int
 | 0, _, acc => (acc, 0)
 | n + 1, s, acc => if s = [] then (acc, 0) else if zf s then ([], 10) else if acc.length = 16 then ([], 18) else qL n (s.drop (eH s)) (acc ++ [SE s])
theorem JC {s : List Int} (hs : Bs s) (h : 4 <= s.length) : eG ((s.take 4).drop 2) = (eH s : Int) /\ eH s < 65536 := by
 have hb : Bs ((s.take 4).drop 2) := (hs.take 4).drop 2;have hl : ((s.take 4).drop 2).length = 2 := by rw [List.length_drop, List.length_take]; omega
 have := DL hb 2 (by omega);rw [List.take_of_length_le (by omega)] at this;unfold eH;omega
theorem JD {s : List Int} (hs : Bs s) (h : 2 <= s.length) : 0 <= eG (s.take 2) /\ eG (s.take 2) < 65536 := by
 have := DL hs 2 (by omega);omega
theorem Xm : ∀ (n : Nat) (s : List Int) (acc : List FF), s.length <= n -> Bs s -> s.length < 9223372036854775808 -> acc.length <= 16 ->
  ((dX.l0 .lim (s, 0, acc, ())).bind fun g_ => match g_ with
   | .inl (m, m1, ()) => some (([] : List FF), m, ())
   | .inr (.inl (m2, m3, ())) => some (([] : List FF), m2, ())
   | .inr (.inr (m4, m5, ())) => some (m5, 0, ())) = some ((qL n s acc).1, (qL n s acc).2, ()) := by
 intro n
 induction n with
 | zero =>
  intro s acc hn _ _ _;obtain rfl : s = [] := List.length_eq_zero_iff.1 (by omega);rw [dX.q0];simp only [dX.b0, decide_true, Bool.not_true, cond_false, Option.bind_some, qL]
 | succ n ih =>
  intro s acc hn hs hl ha;rw [dX.q0];by_cases h0 : s = []
  ·subst h0;simp only [dX.b0, decide_true, Bool.not_true, cond_false, Option.bind_some, qL, if_true]
  simp only [dX.b0, aA h0, Bool.not_false, cond_true, aF hl, qL, if_neg h0];by_cases h4 : s.length < 4
  ·simp only [aA (show ¬ (s.length : Int) >= 4 by omega), cond_false, Option.bind_some];rw [if_pos (show zf s from .inl h4)]
  ·obtain ⟨e1, e2⟩ := JC hs (by omega);have hc : cut s 2 4 = (s.take 4).drop 2 := jC (a := 2) (b := 4) rfl rfl;have hlen : ((s.take 4).drop 2).length <= 8 := by rw [List.length_drop, List.length_take]; omega
   have w : IntKind.i64.wrap (eH s : Int) = (eH s : Int) := wrap64 (by omega) (by omega);simp only [au (show (s.length : Int) >= 4 by omega), cond_true, aQ (show (0 : Int) <= 2 by omega) (show (2 : Int) <= 4 by omega) (show (4 : Int) <= (s.length : Int) by omega), hc, FD ((hs.take 4).drop 2) hlen, Option.bind_some, e1, w, Bool.or_true];have h3 : gB .i64 (eH s : Int) 3 = ((eH s % 4 : Nat) : Int) := by rw [and3 (by omega) (by omega)]; omega
   by_cases hb : zf s
   ·rw [if_pos hb];have hq : (((decide ((eH s : Int) < 16)) || (!(decide ((gB .i64 (eH s : Int) 3) = 0)))) || (decide ((eH s : Int) > (s.length : Int)))) = true := by
     rw [h3];rcases hb with hb | hb | hb | hb
     ·exact absurd hb h4
     ·simp only [au (show (eH s : Int) < 16 by omega), Bool.true_or]
     ·simp only [aA (show ¬ ((eH s % 4 : Nat) : Int) = 0 by omega), Bool.not_false, Bool.or_true, Bool.true_or]
     ·simp only [au (show (eH s : Int) > (s.length : Int) by omega), Bool.or_true]
    simp only [hq, cond_true, Option.bind_some]
   ·rw [if_neg hb];unfold zf at hb;have hq : (((decide ((eH s : Int) < 16)) || (!(decide ((gB .i64 (eH s : Int) 3) = 0)))) || (decide ((eH s : Int) > (s.length : Int)))) = false := by rw [h3, aA (show ¬ (eH s : Int) < 16 by omega), au (show ((eH s % 4 : Nat) : Int) = 0 by omega), aA (show ¬ (eH s : Int) > (s.length : Int) by omega)]; rfl
    have hc2 : cut s 0 2 = s.take 2 := jC (a := 0) (b := 2) rfl rfl;have hv := JD hs (by omega);have w2 : IntKind.i64.wrap (eG (s.take 2)) = eG (s.take 2) := wrap64 (by omega) (by omega);have hc3 : cut s 4 (eH s : Int) = (s.take (eH s)).drop 4 := jC (a := 4) (b := eH s) rfl rfl;have hc4 : cut s (eH s : Int) (s.length : Int) = s.drop (eH s) := pI rfl;simp only [hq, cond_false, aQ (show (0 : Int) <= 0 by omega) (show (0 : Int) <= 2 by omega) (show (2 : Int) <= (s.length : Int) by omega), cond_true, hc2, FD (hs.take 2) (show (s.take 2).length <= 8 by rw [List.length_take]; omega), Option.bind_some, w2,
     aQ (show (0 : Int) <= 4 by omega) (show (4 : Int) <= (eH s : Int) by omega) (show (eH s : Int) <= (s.length : Int) by omega), aQ (show (0 : Int) <= (eH s : Int) by omega) (show (eH s : Int) <= (s.length : Int) by omega) (show (s.length : Int) <= (s.length : Int) by omega), aF (show acc.length < 9223372036854775808 by omega), hc3, hc4]
    by_cases h16 : acc.length = 16
    ·rw [au (show (acc.length : Int) = 16 by omega), if_pos h16]; rfl
    ·rw [aA (show ¬ (acc.length : Int) = 16 by omega), if_neg h16];simp only [cond_false];rw [cond_pos (au (by simp; omega))];exact ih (s.drop (eH s)) (acc ++ [SE s]) (by rw [List.length_drop]; omega) (hs.drop _) (by rw [List.length_drop]; omega) (by simp; omega)
theorem Yi {s : List Int} (hs : Bs s) (hl : s.length < 9223372036854775808) : dX.run .lim (s, ()) = some ((qL s.length s []).1, (qL s.length s []).2, ()) := by
 simp only [dX.run];exact Xm s.length s [] (Nat.le_refl _) hs hl (by simp)
theorem Uz : ∀ (n : Nat) (s : List Int) (acc : List FF), s.length <= n -> Bs s -> s.length < 9223372036854775808 -> acc.length <= 16 ->
  ((aU.l0 .lim (s, acc, ())).bind fun g_ => match g_ with
   | .inl (t, ()) => some (([] : List FF), t, ())
   | .inr (.inl (t1, ())) => some (([] : List FF), t1, ())
   | .inr (.inr (.inl (t2, ()))) => some (([] : List FF), t2, ())
   | .inr (.inr (.inr (m, ()))) => some (m, 0, ())) = some ((qL n s acc).1, (qL n s acc).2, ()) := by
 intro n
 induction n with
 | zero =>
  intro s acc hn _ _ _;obtain rfl : s = [] := List.length_eq_zero_iff.1 (by omega);rw [aU.q0];simp only [aU.b0, decide_true, Bool.not_true, cond_false, Option.bind_some, qL]
 | succ n ih =>
  intro s acc hn hs hl ha;rw [aU.q0];by_cases h0 : s = []
  ·subst h0;simp only [aU.b0, decide_true, Bool.not_true, cond_false, Option.bind_some, qL, if_true]
  simp only [aU.b0, aA h0, Bool.not_false, cond_true, aF hl, qL, if_neg h0];by_cases h4 : s.length < 4
  ·simp only [au (show (s.length : Int) < 4 by omega), cond_true, Option.bind_some];rw [if_pos (show zf s from .inl h4)]
  ·obtain ⟨e1, e2⟩ := JC hs (by omega);have hc : cut s 2 4 = (s.take 4).drop 2 := jC (a := 2) (b := 4) rfl rfl;have hlen : ((s.take 4).drop 2).length <= 8 := by rw [List.length_drop, List.length_take]; omega
   have w : IntKind.i64.wrap (eH s : Int) = (eH s : Int) := wrap64 (by omega) (by omega);simp only [aA (show ¬ (s.length : Int) < 4 by omega), cond_true, cond_false, aQ (show (0 : Int) <= 2 by omega) (show (2 : Int) <= 4 by omega) (show (4 : Int) <= (s.length : Int) by omega), hc, BH ((hs.take 4).drop 2) hlen, Option.bind_some, e1, w, Bool.or_true];have h3 : (eH s : Int).tmod 4 = ((eH s % 4 : Nat) : Int) := by rw [Int.tmod_eq_emod_of_nonneg (by omega)]; omega
   by_cases hb : zf s
   ·rw [if_pos hb];have hq : (((decide ((eH s : Int) < 16)) || (!(decide (((eH s : Int).tmod 4) = 0)))) || (decide ((eH s : Int) > (s.length : Int)))) = true := by
     rw [h3];rcases hb with hb | hb | hb | hb
     ·exact absurd hb h4
     ·simp only [au (show (eH s : Int) < 16 by omega), Bool.true_or]
     ·simp only [aA (show ¬ ((eH s % 4 : Nat) : Int) = 0 by omega), Bool.not_false, Bool.or_true, Bool.true_or]
     ·simp only [au (show (eH s : Int) > (s.length : Int) by omega), Bool.or_true]
    simp only [hq, cond_true, Option.bind_some]
   ·rw [if_neg hb];unfold zf at hb;have hq : (((decide ((eH s : Int) < 16)) || (!(decide (((eH s : Int).tmod 4) = 0)))) || (decide ((eH s : Int) > (s.length : Int)))) = false := by rw [h3, aA (show ¬ (eH s : Int) < 16 by omega), au (show ((eH s % 4 : Nat) : Int) = 0 by omega), aA (show ¬ (eH s : Int) > (s.length : Int) by omega)]; rfl
    have hc2 : cut s 0 2 = s.take 2 := jC (a := 0) (b := 2) rfl rfl;have hv := JD hs (by omega);have w2 : IntKind.i64.wrap (eG (s.take 2)) = eG (s.take 2) := wrap64 (by omega) (by omega);have hc3 : cut s 4 (eH s : Int) = (s.take (eH s)).drop 4 := jC (a := 4) (b := eH s) rfl rfl;have hc4 : cut s (eH s : Int) (s.length : Int) = s.drop (eH s) := pI rfl;simp only [hq, cond_false, aF (show acc.length < 9223372036854775808 by omega), cond_true];by_cases h16 : acc.length = 16
    ·rw [au (show (acc.length : Int) = 16 by omega), if_pos h16]; rfl
    ·rw [aA (show ¬ (acc.length : Int) = 16 by omega), if_neg h16];simp only [cond_false, cond_true, aQ (show (0 : Int) <= 0 by omega) (show (0 : Int) <= 2 by omega) (show (2 : Int) <= (s.length : Int) by omega), hc2, BH (hs.take 2) (show (s.take 2).length <= 8 by rw [List.length_take]; omega), Option.bind_some, w2,
      aQ (show (0 : Int) <= 4 by omega) (show (4 : Int) <= (eH s : Int) by omega) (show (eH s : Int) <= (s.length : Int) by omega), aQ (show (0 : Int) <= (eH s : Int) by omega) (show (eH s : Int) <= (s.length : Int) by omega) (show (s.length : Int) <= (s.length : Int) by omega), hc3, hc4]
     rw [cond_pos (au (by simp; omega))];exact ih (s.drop (eH s)) (acc ++ [SE s]) (by rw [List.length_drop]; omega) (hs.drop _) (by rw [List.length_drop]; omega) (by simp; omega)
theorem OA {s : List Int} (hs : Bs s) (hl : s.length < 9223372036854775808) : aU.run .lim (s, ()) = some ((qL s.length s []).1, (qL s.length s []).2, ()) := by
 simp only [aU.run];exact Uz s.length s [] (Nat.le_refl _) hs hl (by simp)
end Go.AM
end
section
namespace Go.AM
theorem Zn {n : Int} : jc .i64 n 8 = n / 256 := by
 have := f_ n 0 8 .i64 (by decide);exact this
def twoS (n : Int) : List Int := [IntKind.u8.wrap (jc .i64 n 8), IntKind.u8.wrap n]
theorem iY (n : Int) : (twoS n).length = 2 := rfl
theorem JE (n : Int) : Bs (twoS n) := fun x hx => by
 unfold twoS at hx;simp only [List.mem_cons, List.not_mem_nil, or_false] at hx;rcases hx with rfl | rfl <;> exact wQ _
theorem Qi {t : List Int} (hb : Bs t) (hl : t.length = 2) : twoS (eG t) = t := by
 match t, hl with
 | [a, b], _ =>
  have ha := hb a (.head _);have hb := hb b (.tail _ (.head _));have e : eG [a, b] = a * 256 + b := by simp [eG]
  unfold twoS;rw [e, Zn, jX, jX];congr 1
  ·omega
  ·congr 1; omega
theorem val_two {n : Int} (h0 : 0 <= n) (h1 : n < 65536) : eG (twoS n) = n := by
 unfold twoS eG;rw [Zn, jX, jX];simp only [List.foldl_cons, List.foldl_nil];omega
def lQ (f : FF) : List Int := twoS f.1 ++ twoS ((f.2.length : Int) + 4) ++ f.2
def aP (l : List FF) : List Int := (l.map lQ).flatten
theorem mJ (f : FF) : (lQ f).length = 4 + f.2.length := by simp [lQ, twoS]; omega
theorem BI (a b : List FF) : aP (a ++ b) = aP a ++ aP b := by simp [aP]
theorem Rw (f : FF) : aP [f] = lQ f := by simp [aP]
theorem qF {l : List FF} {k : Nat} (h : k < l.length) : aP (l.take (k + 1)) = aP (l.take k) ++ lQ (rd f0 l (k : Int)) := by rw [Ah (d := f0) h, BI, Rw]
theorem FH (l : List FF) (k : Nat) : (aP (l.take k)).length <= (aP l).length := by
 have : aP l = aP (l.take k) ++ aP (l.drop k) := by rw [<- BI, List.take_append_drop]
 rw [this, List.length_append]; omega
structure SG (f : FF) : Prop where
 k0 : 0 <= f.1
 k1 : f.1 < 65536
 l0 : 12 <= f.2.length
 l4 : f.2.length % 4 = 0
 l1 : f.2.length < 65532
 b : Bs f.2
theorem Xn {s : List Int} (hs : Bs s) (hb : ¬ zf s) : s.take (eH s) = lQ (SE s) /\ SG (SE s) := by
 unfold zf at hb;obtain ⟨e1, e2⟩ := JC hs (by omega);have hv := JD hs (by omega);have hlen : ((s.take (eH s)).drop 4).length = eH s - 4 := by rw [List.length_drop, List.length_take]; omega
 refine ⟨?_, ⟨hv.1, hv.2, by show 12 <= ((s.take (eH s)).drop 4).length; omega, by show ((s.take (eH s)).drop 4).length % 4 = 0; omega, by show ((s.take (eH s)).drop 4).length < 65532; omega, (hs.take _).drop _⟩⟩;unfold lQ SE;have h2 : twoS ((((s.take (eH s)).drop 4).length : Int) + 4) = (s.take 4).drop 2 := by
  rw [hlen, show ((eH s - 4 : Nat) : Int) + 4 = (eH s : Int) by omega, <- e1];exact Qi ((hs.take 4).drop 2) (by rw [List.length_drop, List.length_take]; omega)
 have h1 : twoS (eG (s.take 2)) = s.take 2 := Qi (hs.take 2) (by rw [List.length_take]; omega);show s.take (eH s) = twoS (eG (s.take 2)) ++ twoS ((((s.take (eH s)).drop 4).length : Int) + 4) ++ (s.take (eH s)).drop 4;rw [h1, h2];have h3 : s.take 2 ++ (s.take 4).drop 2 = s.take 4 := by
  have : s.take 2 = (s.take 4).take 2 := by rw [List.take_take]; rfl
  rw [this, List.take_append_drop]
 have h4 : s.take 4 = (s.take (eH s)).take 4 := by rw [List.take_take, Nat.min_eq_left (by omega)]
 rw [h3, h4, List.take_append_drop]
theorem Xo : ∀ (n : Nat) (s : List Int) (acc : List FF), s.length <= n -> Bs s -> (qL n s acc).2 = 0 -> ∃ l, (qL n s acc).1 = acc ++ l /\ s = aP l /\ (∀ f ∈ l, SG f) /\ (acc.length <= 16 -> (acc ++ l).length <= 16) := by
 intro n
 induction n with
 | zero =>
  intro s acc hn _ _;obtain rfl : s = [] := List.length_eq_zero_iff.1 (by omega);exact ⟨[], by simp [qL], rfl, fun f hf => (by cases hf), fun h => by simpa using h⟩
 | succ n ih =>
  intro s acc hn hs he;by_cases h0 : s = []
  ·subst h0;exact ⟨[], by simp [qL], rfl, fun f hf => (by cases hf), fun h => by simpa using h⟩
  ·simp only [qL, if_neg h0] at he ⊢
   by_cases hb : zf s
   ·rw [if_pos hb] at he; exact absurd he (by decide)
   ·rw [if_neg hb] at he ⊢
    by_cases h16 : acc.length = 16
    ·rw [if_pos h16] at he; exact absurd he (by decide)
    ·rw [if_neg h16] at he ⊢
     obtain ⟨e1, e2⟩ := Xn hs hb;have hb' := hb;unfold zf at hb';obtain ⟨l, k1, k2, k3, k4⟩ := ih (s.drop (eH s)) (acc ++ [SE s]) (by rw [List.length_drop]; omega) (hs.drop _) he;refine ⟨SE s :: l, by rw [k1, List.append_assoc]; rfl, ?_, fun f hf => ?_, fun h => ?_⟩
     ·have : aP (SE s :: l) = lQ (SE s) ++ aP l := by simp [aP]
      rw [this, <- k2, <- e1, List.take_append_drop]
     ·rcases List.mem_cons.1 hf with rfl | hf
      ·exact e2
      ·exact k3 f hf
     ·have := k4 (by simp; omega);simpa [List.append_assoc] using this
def fE (f : FF) : Int := if f.1 < 0 \/ f.1 >= 65536 then 13 else if f.2.length < 12 \/ f.2.length % 4 ≠ 0 then 10 else 0
def sN (l : List FF) : Int := if l.length > 16 then 18 else match (List.range l.length).find? (fun k : Nat => !decide (fE (rd f0 l (k : Int)) = 0)) with
 | some k => fE (rd f0 l (k : Int))
 | none => if (aP l).length > 1232 then 12 else 0
def sO (l : List FF) : List Int := if sN l = 0 then aP l else []
theorem fE_ok {f : FF} (h : SG f) : fE f = 0 := by
 unfold fE;rw [if_neg (by have := h.k0; have := h.k1; omega), if_neg (by have := h.l0; have := h.l4; omega)]
theorem JF {l : List FF} (h : ∀ f ∈ l, SG f) (h16 : l.length <= 16) (hl : (aP l).length <= 1232) : sN l = 0 := by
 unfold sN;rw [if_neg (by omega)];have : (List.range l.length).find? (fun k : Nat => !decide (fE (rd f0 l (k : Int)) = 0)) = none := List.find?_eq_none.2 fun k hk => by
  have hk := List.mem_range.1 hk;rw [au (fE_ok (h _ (fC (by omega) (by omega))))]; simp
 rw [this];simp only;rw [if_neg (by omega)]
def yh (l : List FF) : Nat -> List Int
 | 0 => []
 | k + 1 => if (aP (l.take (k + 1))).length > 1232 then yh l k else yh l k ++ lQ (rd f0 l (k : Int))
theorem Qj {l : List FF} : ∀ k, k <= l.length -> (aP (l.take k)).length <= 1232 -> yh l k = aP (l.take k) := by
 intro k
 induction k with
 | zero => intro _ _; rfl
 | succ k ih =>
  intro hk h;have e := qF (l := l) (k := k) (by omega);unfold yh;rw [if_neg (by omega), e];rw [ih (by omega) (by rw [e, List.length_append] at h; omega)]
theorem Xp (n : Int) : wS.run .lim (n, ()) = some (twoS n) := rfl
def FL (l : List FF) : Prop := l.length < 9223372036854775808 /\ ∀ f ∈ l, f.2.length <= 140737488351232
theorem Iq {l : List FF} (hl : FL l) : fO.run .lim (l, ()) = some (sO l, sN l, ()) := by
 obtain ⟨h1, h2⟩ := hl;simp only [fO.run, aF h1, cond_true];by_cases h16 : l.length > 16
 ·rw [au (show (l.length : Int) > 16 by omega)];have : sN l = 18 := by unfold sN; rw [if_pos h16]
  unfold sO;rw [this]; rfl
 rw [aA (show ¬ (l.length : Int) > 16 by omega)];have e := qp (f := fO.l0 .lim) (fun k => (decide ((aP (l.take k)).length > 1232), l, (l.length : Int), (k : Int), yh l k, ())) l.length (fun k : Nat => !decide (fE (rd f0 l (k : Int)) = 0))
  (fun k => if fE (rd f0 l (k : Int)) = 13 then some (.inl (([] : List Int), 13, ())) else some (.inr (.inl (([] : List Int), 10, ())))) (fun k hk => by
  have hm := fC (d := f0) (xs := l) (i := (k : Int)) (by omega) (by omega);have hb := h2 _ hm;rw [fO.q0];generalize hg : rd f0 l (k : Int) = f at hm hb;simp only [fO.b0, au (show (k : Int) < (l.length : Int) by omega), aH (show (0 : Int) <= (k : Int) by omega) (show (k : Int) < (l.length : Int) by omega), cond_true, hg, aF (show f.2.length < 9223372036854775808 by omega), Bool.or_true];unfold fE;by_cases hk1 : f.1 < 0 \/ f.1 >= 65536
  ·rw [if_pos hk1];have : ((decide (f.1 < 0)) || (decide (f.1 >= 65536))) = true := by rcases hk1 with q | q <;> simp only [au q, Bool.true_or, Bool.or_true]
   simp only [this, cond_true];rfl
  ·rw [if_neg hk1];have : ((decide (f.1 < 0)) || (decide (f.1 >= 65536))) = false := by rw [aA (show ¬ f.1 < 0 by omega), aA (show ¬ f.1 >= 65536 by omega)]; rfl
   simp only [this, cond_false];have h3 : gB .i64 (f.2.length : Int) 3 = ((f.2.length % 4 : Nat) : Int) := by rw [and3 (by omega) (by omega)]; omega
   by_cases hk2 : f.2.length < 12 \/ f.2.length % 4 ≠ 0
   ·rw [if_pos hk2];have : ((decide ((f.2.length : Int) < 12)) || (!(decide ((gB .i64 (f.2.length : Int) 3) = 0)))) = true := by
     rw [h3];rcases hk2 with q | q
     ·rw [au (show (f.2.length : Int) < 12 by omega)]; rfl
     ·rw [aA (show ¬ ((f.2.length % 4 : Nat) : Int) = 0 by omega)]; simp
    simp only [this, cond_true];rfl
   ·rw [if_neg hk2];have : ((decide ((f.2.length : Int) < 12)) || (!(decide ((gB .i64 (f.2.length : Int) 3) = 0)))) = false := by rw [h3, aA (show ¬ (f.2.length : Int) < 12 by omega), au (show ((f.2.length % 4 : Nat) : Int) = 0 by omega)]; rfl
    simp only [this, cond_false, decide_true, Bool.not_true, cond_false];have es := qF hk;have el : (aP (l.take (k + 1))).length = (aP (l.take k)).length + (4 + f.2.length) := by rw [es, List.length_append, mJ, hg]
    have hu : ∀ b : Bool, (bif b then some () else some ()) = some () := fun b => by cases b <;> rfl
    simp only [hu, Option.bind_some, Xp];by_cases hlong : (aP (l.take k)).length > 1232
    ·have e1 : decide ((aP (l.take k)).length > 1232) = true := au hlong;have e2 : decide ((aP (l.take (k + 1))).length > 1232) = true := au (show (aP (l.take (k + 1))).length > 1232 by omega);have e3 : yh l (k + 1) = yh l k := by rw [yh, if_pos (show (aP (l.take (k + 1))).length > 1232 by omega)]
     simp only [e1, e2, e3, Bool.true_or, Bool.not_true, cond_false, lY k (by omega)]
    ·have e1 : decide ((aP (l.take k)).length > 1232) = false := aA hlong;have eo := Qj (l := l) k (by omega) (by omega);have ew : IntKind.i64.wrap ((IntKind.i64.wrap (((yh l k).length : Int) + 4)) + (f.2.length : Int)) = ((aP (l.take (k + 1))).length : Int) := by rw [eo, wrap64 (n := ((aP (l.take k)).length : Int) + 4) (by omega) (by omega), wrap64 (by omega) (by omega)]; omega
     have ed : decide (((aP (l.take (k + 1))).length : Int) > 1232) = decide ((aP (l.take (k + 1))).length > 1232) := by
      by_cases q : (aP (l.take (k + 1))).length > 1232
      ·rw [au q, au (show ((aP (l.take (k + 1))).length : Int) > 1232 by omega)]
      ·rw [aA q, aA (show ¬ ((aP (l.take (k + 1))).length : Int) > 1232 by omega)]
     simp only [e1, ew, ed, Bool.false_or];by_cases hl2 : (aP (l.take (k + 1))).length > 1232
     ·have e2 : decide ((aP (l.take (k + 1))).length > 1232) = true := au hl2;have e3 : yh l (k + 1) = yh l k := by rw [yh, if_pos hl2]
      simp only [e2, e3, Bool.not_true, cond_false, lY k (by omega)]
     ·have e2 : decide ((aP (l.take (k + 1))).length > 1232) = false := aA hl2;have e3 : yh l (k + 1) = yh l k ++ lQ f := by rw [yh, if_neg hl2, hg]
      have e4 : IntKind.i64.wrap ((f.2.length : Int) + 4) = (f.2.length : Int) + 4 := wrap64 (by omega) (by omega);have e5 : Ie ((yh l k).length + (twoS f.1 ++ twoS ((f.2.length : Int) + 4) ++ f.2).length) = some () := by
       have : (twoS f.1 ++ twoS ((f.2.length : Int) + 4) ++ f.2).length = 4 + f.2.length := mJ f;rw [this, eo];unfold Ie;rw [Nat.ble_eq_true_of_le (show (aP (l.take k)).length + (4 + f.2.length) <= 140737488355328 by omega)]; rfl
      simp only [e2, e3, e4, Bool.not_false, cond_true, lY k (by omega)];rw [cond_pos (au (by rw [iY, iY]; decide)), cond_pos (au (by rw [List.length_append, iY, iY]; unfold maxStr; omega)), e5];rfl)
 have e0 : fO.l0 .lim (false, l, (l.length : Int), 0, ([] : List Int), ()) = _ := e;rw [e0];unfold sO sN;rw [if_neg h16];cases hq : (List.range l.length).find? (fun k : Nat => !decide (fE (rd f0 l (k : Int)) = 0)) with
 | some k =>
  have hk := List.find?_some hq;simp only [Bool.not_eq_true', decide_eq_false_iff_not] at hk;simp only;have : fE (rd f0 l (k : Int)) = 13 \/ fE (rd f0 l (k : Int)) = 10 := by
   unfold fE at hk ⊢
   split
   ·exact .inl rfl
   ·split
    ·exact .inr rfl
    ·rename_i q1 q2; rw [if_neg q1, if_neg q2] at hk; exact absurd rfl hk
  rw [if_neg hk];rcases this with q | q
  ·rw [if_pos q, q]; rfl
  ·rw [if_neg (by omega), q]; rfl
 | none =>
  simp only [List.take_length];rw [fO.q0];simp only [fO.b0, aA (show ¬ (l.length : Int) < (l.length : Int) by omega), cond_false, Option.bind_some];by_cases hl : (aP l).length > 1232
  ·rw [au hl, if_pos hl]; rfl
  ·rw [aA hl, if_neg hl, Qj l.length (Nat.le_refl _) (by rw [List.take_length]; omega), List.take_length]; rfl
end Go.AM
end
section
namespace Go.AM
abbrev PK := Int × Int × Int × Int × Int × Int × Int × Int × Int × Int × Int × Int × Int × List FF
abbrev p0 : PK := ((0 : Int), (0, (0, (0, (0, (0, (0, (0, (0, (0, (0, (0, (0, ([] : List FF))))))))))))))
abbrev PK.fs (p : PK) : List FF := p.2.2.2.2.2.2.2.2.2.2.2.2.2
abbrev PK.cut (p : PK) (l : List FF) : PK := (p.1, p.2.1, p.2.2.1, p.2.2.2.1, p.2.2.2.2.1, p.2.2.2.2.2.1, p.2.2.2.2.2.2.1, p.2.2.2.2.2.2.2.1, p.2.2.2.2.2.2.2.2.1, p.2.2.2.2.2.2.2.2.2.1, p.2.2.2.2.2.2.2.2.2.2.1, p.2.2.2.2.2.2.2.2.2.2.2.1, p.2.2.2.2.2.2.2.2.2.2.2.2.1, l)
def OB (n low high : Int) : Bool := decide (low <= n) && decide (n <= high)
def Rx (p : PK) : Bool := OB p.1 0 3 && OB p.2.1 0 7 && OB p.2.2.1 0 7 && OB p.2.2.2.1 0 255 && OB p.2.2.2.2.1 (-128) 127 && OB p.2.2.2.2.2.1 (-128) 127
def uD (n : Int) (k : Nat) : Int := IntKind.u8.wrap (jc .u64 n (k : Int))
def SH (n : Int) : List Int := [uD n 24, uD n 16, uD n 8, uD n 0]
def by8 (n : Int) : List Int := [uD n 56, uD n 48, uD n 40, uD n 32, uD n 24, uD n 16, uD n 8, uD n 0]
def VZ (a b c : Int) : Int := IntKind.u8.wrap (oJ .i64 (oJ .i64 (fA .i64 a 6) (fA .i64 b 3)) c)
def JZ (p : PK) : List Int := [VZ p.1 p.2.1 p.2.2.1, IntKind.u8.wrap p.2.2.2.1, IntKind.u8.wrap p.2.2.2.2.1, IntKind.u8.wrap p.2.2.2.2.2.1] ++
 (SH (IntKind.u64.wrap p.2.2.2.2.2.2.1) ++ (SH (IntKind.u64.wrap p.2.2.2.2.2.2.2.1) ++ (SH (IntKind.u64.wrap p.2.2.2.2.2.2.2.2.1) ++ (by8 p.2.2.2.2.2.2.2.2.2.1 ++ (by8 p.2.2.2.2.2.2.2.2.2.2.1 ++ (by8 p.2.2.2.2.2.2.2.2.2.2.2.1 ++ by8 p.2.2.2.2.2.2.2.2.2.2.2.2.1))))))
theorem DN (p : PK) : (JZ p).length = 48 := rfl
def JG (p : PK) : Int := if Rx p = true then sN p.fs else 13
def Gw (p : PK) : List Int := if JG p = 0 then JZ p ++ aP p.fs else []
def ji (m : List Int) (bp : Nat) (g : Nat -> Int) : Nat -> List Int
 | 0 => m
 | i + 1 => (ji m bp g i).set (bp + i) (g i)
theorem lX (m : List Int) (bp : Nat) (g : Nat -> Int) : ∀ i, (ji m bp g i).length = m.length
 | 0 => rfl
 | i + 1 => by rw [ji, List.length_set, lX m bp g i]
theorem w_l0 {bp bq : Nat} (hb : bp <= 48) (hq : bq <= 8) (hq0 : 1 <= bq) (n : Int) (f : List Int) (t : List Int) (t3 : Int) (m : List Int) (m1 m2 m3 m4 m5 m6 m7 m8 m9 m10 m11 m12 m13 : Int) (m14 : List FF) :
  aS.l0 .lim ((bp : Int), (bq : Int), n, (bq : Int), 0, f, t, t3, m, m1, m2, m3, m4, m5, m6, m7, m8, m9, m10, m11, m12, m13, m14, ()) =
   some (f, t, t3, m1, m2, m3, m4, m5, m6, m7, m8, m9, m10, m11, m12, m13, m14, ji m bp (fun i => uD n (8 * (bq - 1 - i))) bq, ()) := by
 have e := dA (f := aS.l0 .lim) (fun i => ((bp : Int), (bq : Int), n, (bq : Int), (i : Int), f, t, t3, ji m bp (fun i => uD n (8 * (bq - 1 - i))) i, m1, m2, m3, m4, m5, m6, m7, m8, m9, m10, m11, m12, m13, m14, ())) (n := bq) (fun i hi => by
  rw [aS.q0];have w1 : IntKind.i64.wrap (8 * (IntKind.i64.wrap ((IntKind.i64.wrap ((bq : Int) - 1)) - (i : Int)))) = ((8 * (bq - 1 - i) : Nat) : Int) := by rw [wrap64 (n := (bq : Int) - 1) (by omega) (by omega), wrap64 (n := (bq : Int) - 1 - (i : Int)) (by omega) (by omega), wrap64 (by omega) (by omega)]; omega
  have w2 : ((bp : Int) + (i : Int)).toNat = bp + i := by omega
  simp only [aS.b0, au (show (i : Int) < (bq : Int) by omega), aF (show bq < 9223372036854775808 by omega), w1, au (show (0 : Int) <= ((8 * (bq - 1 - i) : Nat) : Int) by omega), aH (show (0 : Int) <= (i : Int) by omega) (show (i : Int) < (bq : Int) by omega), cond_true, lY i (by omega), w2];rfl)
 have e0 : aS.l0 .lim ((bp : Int), (bq : Int), n, (bq : Int), 0, f, t, t3, m, m1, m2, m3, m4, m5, m6, m7, m8, m9, m10, m11, m12, m13, m14, ()) = _ := e;rw [e0, aS.q0];simp only [aS.b0, aA (show ¬ (bq : Int) < (bq : Int) by omega), cond_false]
theorem w_l2 {bp bq : Nat} (hb : bp <= 48) (hq : bq <= 8) (hq0 : 1 <= bq) (n : Int) (f : List Int) (t : List Int) (t3 : Int) (m : List Int) :
  aS.l2 .lim ((bp : Int), (bq : Int), n, (bq : Int), 0, f, t, t3, m, ()) = some (f, t, t3, ji m bp (fun i => uD n (8 * (bq - 1 - i))) bq, ()) := by
 have e := dA (f := aS.l2 .lim) (fun i => ((bp : Int), (bq : Int), n, (bq : Int), (i : Int), f, t, t3, ji m bp (fun i => uD n (8 * (bq - 1 - i))) i, ())) (n := bq) (fun i hi => by
  rw [aS.q2];have w1 : IntKind.i64.wrap (8 * (IntKind.i64.wrap ((IntKind.i64.wrap ((bq : Int) - 1)) - (i : Int)))) = ((8 * (bq - 1 - i) : Nat) : Int) := by rw [wrap64 (n := (bq : Int) - 1) (by omega) (by omega), wrap64 (n := (bq : Int) - 1 - (i : Int)) (by omega) (by omega), wrap64 (by omega) (by omega)]; omega
  have w2 : ((bp : Int) + (i : Int)).toNat = bp + i := by omega
  simp only [aS.b2, au (show (i : Int) < (bq : Int) by omega), aF (show bq < 9223372036854775808 by omega), w1, au (show (0 : Int) <= ((8 * (bq - 1 - i) : Nat) : Int) by omega), aH (show (0 : Int) <= (i : Int) by omega) (show (i : Int) < (bq : Int) by omega), cond_true, lY i (by omega), w2];rfl)
 have e0 : aS.l2 .lim ((bp : Int), (bq : Int), n, (bq : Int), 0, f, t, t3, m, ()) = _ := e;rw [e0, aS.q2];simp only [aS.b2, aA (show ¬ (bq : Int) < (bq : Int) by omega), cond_false]
theorem Xq (n low high : Int) : kN.run .lim (n, low, high, ()) = some (OB n low high) := rfl
theorem w_l1 (f a : List Int) (x0 x1 x2 : Int) (ha : a = [x0, x1, x2]) (m : List Int) (m1 m2 m3 m4 m5 m6 m7 m8 m9 m10 m11 m12 m13 : Int) (m14 : List FF) :
  aS.l1 .lim (f, a, 0, m1, m2, m3, m4, m5, m6, m7, m8, m9, m10, m11, m12, m13, m14, m, ()) =
   some (f, m1, m2, m3, m4, m5, m6, m7, m8, m9, m10, m11, m12, m13, m14,
    ji (ji (ji m 4 (fun i => uD (IntKind.u64.wrap x0) (8 * (4 - 1 - i))) 4) 8 (fun i => uD (IntKind.u64.wrap x1) (8 * (4 - 1 - i))) 4) 12 (fun i => uD (IntKind.u64.wrap x2) (8 * (4 - 1 - i))) 4, ()) := by
 subst ha;have step : ∀ (k : Nat) (hk : k < 3) (x : Int) (_ : rd 0 [x0, x1, x2] (k : Int) = x) (q : List Int), aS.l1 .lim (f, [x0, x1, x2], (k : Int), m1, m2, m3, m4, m5, m6, m7, m8, m9, m10, m11, m12, m13, m14, q, ()) =
   aS.l1 .lim (f, [x0, x1, x2], ((k + 1 : Nat) : Int), m1, m2, m3, m4, m5, m6, m7, m8, m9, m10, m11, m12, m13, m14, ji q (4 + 4 * k) (fun i => uD (IntKind.u64.wrap x) (8 * (4 - 1 - i))) 4, ()) := by
  intro k hk x hx q;rw [aS.q1];have w1 : IntKind.i64.wrap (4 + IntKind.i64.wrap (4 * (k : Int))) = ((4 + 4 * k : Nat) : Int) := by rw [wrap64 (n := 4 * (k : Int)) (by omega) (by omega), wrap64 (by omega) (by omega)]; omega
  have w2 : IntKind.i64.wrap (8 + IntKind.i64.wrap (4 * (k : Int))) = ((8 + 4 * k : Nat) : Int) := by rw [wrap64 (n := 4 * (k : Int)) (by omega) (by omega), wrap64 (by omega) (by omega)]; omega
  have w3 : ((8 + 4 * k : Nat) : Int) - ((4 + 4 * k : Nat) : Int) = ((4 : Nat) : Int) := by omega
  have h := w_l0 (bp := 4 + 4 * k) (bq := 4) (by omega) (by omega) (by omega) (IntKind.u64.wrap x) f [x0, x1, x2] (k : Int) q m1 m2 m3 m4 m5 m6 m7 m8 m9 m10 m11 m12 m13 m14;simp only [aS.b1, au (show (k : Int) < 3 by omega), aH (show (0 : Int) <= (k : Int) by omega) (show (k : Int) < 3 by omega), w1, w2, w3, aQ (show (0 : Int) <= ((4 + 4 * k : Nat) : Int) by omega) (show ((4 + 4 * k : Nat) : Int) <= ((8 + 4 * k : Nat) : Int) by omega) (show ((8 + 4 * k : Nat) : Int) <= 48 by omega), aF (show 4 < 9223372036854775808 by decide), cond_true, hx, h, Option.bind_some, lY k (by omega)]
 have s0 := step 0 (by decide) x0 rfl m;have s1 := step 1 (by decide) x1 rfl (ji m 4 (fun i => uD (IntKind.u64.wrap x0) (8 * (4 - 1 - i))) 4);have s2 := step 2 (by decide) x2 rfl (ji (ji m 4 (fun i => uD (IntKind.u64.wrap x0) (8 * (4 - 1 - i))) 4) 8 (fun i => uD (IntKind.u64.wrap x1) (8 * (4 - 1 - i))) 4);refine (s0.trans (s1.trans s2)).trans ?_;rw [aS.q1];simp only [aS.b1, aA (show ¬ ((2 + 1 : Nat) : Int) < 3 by decide), cond_false]
theorem w_l3 (f a : List Int) (x0 x1 x2 x3 : Int) (ha : a = [x0, x1, x2, x3]) (m : List Int) :
  aS.l3 .lim (f, a, 0, m, ()) =
   some (f, ji (ji (ji (ji m 16 (fun i => uD x0 (8 * (8 - 1 - i))) 8) 24 (fun i => uD x1 (8 * (8 - 1 - i))) 8) 32 (fun i => uD x2 (8 * (8 - 1 - i))) 8) 40 (fun i => uD x3 (8 * (8 - 1 - i))) 8, ()) := by
 subst ha;have step : ∀ (k : Nat) (hk : k < 4) (x : Int) (_ : rd 0 [x0, x1, x2, x3] (k : Int) = x) (q : List Int), aS.l3 .lim (f, [x0, x1, x2, x3], (k : Int), q, ()) =
   aS.l3 .lim (f, [x0, x1, x2, x3], ((k + 1 : Nat) : Int), ji q (16 + 8 * k) (fun i => uD x (8 * (8 - 1 - i))) 8, ()) := by
  intro k hk x hx q;rw [aS.q3];have w1 : IntKind.i64.wrap (16 + IntKind.i64.wrap (8 * (k : Int))) = ((16 + 8 * k : Nat) : Int) := by rw [wrap64 (n := 8 * (k : Int)) (by omega) (by omega), wrap64 (by omega) (by omega)]; omega
  have w2 : IntKind.i64.wrap (24 + IntKind.i64.wrap (8 * (k : Int))) = ((24 + 8 * k : Nat) : Int) := by rw [wrap64 (n := 8 * (k : Int)) (by omega) (by omega), wrap64 (by omega) (by omega)]; omega
  have w3 : ((24 + 8 * k : Nat) : Int) - ((16 + 8 * k : Nat) : Int) = ((8 : Nat) : Int) := by omega
  have h := w_l2 (bp := 16 + 8 * k) (bq := 8) (by omega) (by omega) (by omega) x f [x0, x1, x2, x3] (k : Int) q;simp only [aS.b3, au (show (k : Int) < 4 by omega), aH (show (0 : Int) <= (k : Int) by omega) (show (k : Int) < 4 by omega), w1, w2, w3, aQ (show (0 : Int) <= ((16 + 8 * k : Nat) : Int) by omega) (show ((16 + 8 * k : Nat) : Int) <= ((24 + 8 * k : Nat) : Int) by omega) (show ((24 + 8 * k : Nat) : Int) <= 48 by omega), aF (show 8 < 9223372036854775808 by decide), cond_true, hx, h, Option.bind_some, lY k (by omega)]
 have s0 := step 0 (by decide) x0 rfl m;have s1 := step 1 (by decide) x1 rfl (ji m 16 (fun i => uD x0 (8 * (8 - 1 - i))) 8);have s2 := step 2 (by decide) x2 rfl (ji (ji m 16 (fun i => uD x0 (8 * (8 - 1 - i))) 8) 24 (fun i => uD x1 (8 * (8 - 1 - i))) 8);have s3 := step 3 (by decide) x3 rfl (ji (ji (ji m 16 (fun i => uD x0 (8 * (8 - 1 - i))) 8) 24 (fun i => uD x1 (8 * (8 - 1 - i))) 8) 32 (fun i => uD x2 (8 * (8 - 1 - i))) 8);refine (s0.trans (s1.trans (s2.trans s3))).trans ?_;rw [aS.q3];simp only [aS.b3, aA (show ¬ ((3 + 1 : Nat) : Int) < 4 by decide), cond_false]
theorem Ar {l : List FF} : (sO l).length <= 1232 := by
 unfold sO;split
 ·rename_i h;unfold sN at h;split at h
  ·cases h
  ·split at h
   ·rename_i k hq;have hk := List.find?_some hq;simp only [Bool.not_eq_true', decide_eq_false_iff_not] at hk;exact absurd h hk
   ·split at h
    ·cases h
    ·omega
 ·simp
theorem UA (x0 x1 x2 x3 : Int) (a b c d e f g : Nat -> Int) :
  ((ji (ji (ji (ji (ji (ji (ji (((((List.replicate 48 (0 : Int)).set 0 x0).set 1 x1).set 2 x2).set 3 x3) 4 a 4) 8 b 4) 12 c 4) 16 d 8) 24 e 8) 32 f 8) 40 g 8).drop 0).take 48 =
   [x0, x1, x2, x3] ++ ([a 0, a 1, a 2, a 3] ++ ([b 0, b 1, b 2, b 3] ++ ([c 0, c 1, c 2, c 3] ++ ([d 0, d 1, d 2, d 3, d 4, d 5, d 6, d 7] ++ ([e 0, e 1, e 2, e 3, e 4, e 5, e 6, e 7] ++ ([f 0, f 1, f 2, f 3, f 4, f 5, f 6, f 7] ++ [g 0, g 1, g 2, g 3, g 4, g 5, g 6, g 7])))))) := by kernel_rfl
theorem FI {p : PK} (hl : FL p.fs) : aS.run .lim (p, ()) = some (Gw p, JG p, ()) := by
 obtain ⟨a, b, c, d, e, g, r1, r2, r3, q1, q2, q3, q4, l⟩ := p;simp only [aS.run, Xq, Option.bind_some];unfold Gw JG Rx;generalize OB a 0 3 = c1;generalize OB b 0 7 = c2;generalize OB c 0 7 = c3;generalize OB d 0 255 = c4;generalize OB e (-128) 127 = c5;generalize OB g (-128) 127 = c6;cases c1
 ·rfl
 cases c2
 ·rfl
 cases c3
 ·rfl
 cases c4
 ·rfl
 cases c5
 ·rfl
 cases c6
 ·rfl
 simp only [Bool.not_true, Bool.not_false, cond_true, cond_false, Option.bind_some, Bool.or_self, Bool.and_self, if_true];rw [Iq hl];simp only [Option.bind_some];have hfl : (sO (PK.fs (a, b, c, d, e, g, r1, r2, r3, q1, q2, q3, q4, l))).length <= 1232 := Ar;show (bif !decide (sN l = 0) then some (([] : List Int), sN l, ()) else _) = some (if sN l = 0 then _ else [], sN l, ());by_cases h0 : sN l = 0
 ·rw [au h0, if_pos h0];simp only [Bool.not_true, cond_false];rw [w_l1 _ ((((List.replicate 3 (0 : Int)).set 0 r1).set 1 r2).set 2 r3) r1 r2 r3 rfl];simp only [Option.bind_some];rw [w_l3 _ (((((List.replicate 4 (0 : Int)).set 0 q1).set 1 q2).set 2 q3).set 3 q4) q1 q2 q3 q4 rfl];simp only [Option.bind_some];have hf : sO l = aP l := by unfold sO; rw [if_pos h0]
  rw [cond_pos (au (show _ <= maxStr by rw [List.length_take, List.drop_zero, lX, lX, lX, lX, lX, lX, lX]; simp only [List.length_set, List.length_replicate]; unfold maxStr; omega)), h0, UA];have hf : sO (PK.fs (a, b, c, d, e, g, r1, r2, r3, q1, q2, q3, q4, l)) = aP (PK.fs (a, b, c, d, e, g, r1, r2, r3, q1, q2, q3, q4, l)) := hf;rw [hf];rfl
 ·rw [aA h0, if_neg h0]; rfl
end Go.AM
end
section
namespace Go.AM
def sg (c : Int) : Int := if c > 127 then c - 256 else c
def V3 (s : List Int) (fs : List FF) : PK := (rd 0 s 0 / 64, rd 0 s 0 / 8 % 8, rd 0 s 0 % 8, rd 0 s 1, sg (rd 0 s 2), sg (rd 0 s 3), eG ((s.take 8).drop 4), eG ((s.take 12).drop 8), eG ((s.take 16).drop 12),
 eG ((s.take 24).drop 16), eG ((s.take 32).drop 24), eG ((s.take 40).drop 32), eG ((s.take 48).drop 40), fs)
def Gx (s : List Int) : Int := if s.length < 48 then 11 else if s.length > 1280 then 12 else (qL (s.drop 48).length (s.drop 48) []).2
def iZ (s : List Int) : PK := if Gx s = 0 then V3 s (qL (s.drop 48).length (s.drop 48) []).1 else p0
theorem by_a {c : Int} (h : B8 c) : IntKind.i64.wrap (jc .u8 c 6) = c / 64 := iO (p := fun c => IntKind.i64.wrap (jc .u8 c 6) = c / 64) (by decide +kernel) h
theorem by_b {c : Int} (h : B8 c) : IntKind.i64.wrap (gB .u8 (jc .u8 c 3) 7) = c / 8 % 8 := iO (p := fun c => IntKind.i64.wrap (gB .u8 (jc .u8 c 3) 7) = c / 8 % 8) (by decide +kernel) h
theorem by_c {c : Int} (h : B8 c) : IntKind.i64.wrap (gB .u8 c 7) = c % 8 := iO (p := fun c => IntKind.i64.wrap (gB .u8 c 7) = c % 8) (by decide +kernel) h
theorem Zo {c : Int} (h : B8 c) : IntKind.i64.wrap c = c := iO (p := fun c => IntKind.i64.wrap c = c) (by decide +kernel) h
theorem by_e {c : Int} (h : B8 c) : IntKind.i64.wrap (IntKind.i8.wrap c) = sg c := iO (p := fun c => IntKind.i64.wrap (IntKind.i8.wrap c) = sg c) (by decide +kernel) h
theorem by_f {c : Int} (h : B8 c) : gu.run .lim (c, ()) = some (sg c) := by
 have e1 := Zo h;unfold sg;simp only [gu.run, e1];by_cases q : c > 127
 ·rw [au q, if_pos q, wrap64 (by omega) (by omega)]; rfl
 ·rw [aA q, if_neg q]; rfl
theorem Zp {t : List Int} (hb : Bs t) (hl : t.length = 4) : IntKind.u32.wrap (eG t) = eG t /\ SH (IntKind.u64.wrap (eG t)) = t := by
 have hv := DL hb 4 (by omega);rw [List.take_of_length_le (by omega)] at hv;refine ⟨by rw [Xl]; omega, ?_⟩;rw [show IntKind.u64.wrap (eG t) = eG t by rw [Aq]; omega]
 match t, hl with
 | [a, b, c, d], _ =>
  have h1 := hb a (by simp); have h2 := hb b (by simp); have h3 := hb c (by simp); have h4 := hb d (by simp);have e : eG [a, b, c, d] = ((a * 256 + b) * 256 + c) * 256 + d := by simp [eG]
  have s1 := f_ (eG [a, b, c, d]) 0 24 .u64 (by decide);have s2 := f_ (eG [a, b, c, d]) 0 16 .u64 (by decide);have s3 := f_ (eG [a, b, c, d]) 0 8 .u64 (by decide);have s4 := f_ (eG [a, b, c, d]) 0 0 .u64 (by decide);unfold SH uD;simp only [s1, s2, s3, s4];simp only [jX, e];congr 1
  ·omega
  congr 1
  ·omega
  congr 1
  ·omega
  congr 1;omega
theorem val8 {t : List Int} (hb : Bs t) (hl : t.length = 8) : by8 (eG t) = t := by
 match t, hl with
 | [a, b, c, d, a', b', c', d'], _ =>
  have h1 := hb a (by simp); have h2 := hb b (by simp); have h3 := hb c (by simp); have h4 := hb d (by simp);have h5 := hb a' (by simp); have h6 := hb b' (by simp); have h7 := hb c' (by simp); have h8 := hb d' (by simp);have e : eG [a, b, c, d, a', b', c', d'] = ((((((a * 256 + b) * 256 + c) * 256 + d) * 256 + a') * 256 + b') * 256 + c') * 256 + d' := by simp [eG]
  have s1 := f_ (eG [a, b, c, d, a', b', c', d']) 0 56 .u64 (by decide);have s2 := f_ (eG [a, b, c, d, a', b', c', d']) 0 48 .u64 (by decide);have s3 := f_ (eG [a, b, c, d, a', b', c', d']) 0 40 .u64 (by decide);have s4 := f_ (eG [a, b, c, d, a', b', c', d']) 0 32 .u64 (by decide);have s5 := f_ (eG [a, b, c, d, a', b', c', d']) 0 24 .u64 (by decide);have s6 := f_ (eG [a, b, c, d, a', b', c', d']) 0 16 .u64 (by decide);have s7 := f_ (eG [a, b, c, d, a', b', c', d']) 0 8 .u64 (by decide);have s8 := f_ (eG [a, b, c, d, a', b', c', d']) 0 0 .u64 (by decide);unfold by8 uD;simp only [s1, s2, s3, s4, s5, s6, s7, s8];simp only [jX, e];congr 1
  ·omega
  congr 1
  ·omega
  congr 1
  ·omega
  congr 1
  ·omega
  congr 1
  ·omega
  congr 1
  ·omega
  congr 1
  ·omega
  congr 1;omega
theorem uF {s : List Int} {a b : Nat} (h : b <= s.length) : ((s.take b).drop a).length = b - a := by rw [List.length_drop, List.length_take, Nat.min_eq_left h]
theorem Xr {s : List Int} (hs : Bs s) (hl : s.length < 9223372036854775808) : sG.run .lim (s, ()) = some (iZ s, Gx s, ()) := by
 simp only [sG.run, aF hl, cond_true];unfold iZ Gx;by_cases h1 : s.length < 48
 ·rw [au (show (s.length : Int) < 48 by omega), if_pos h1]; rfl
 rw [aA (show ¬ (s.length : Int) < 48 by omega), if_neg h1];by_cases h2 : s.length > 1280
 ·rw [au (show (s.length : Int) > 1280 by omega), if_pos h2]; rfl
 rw [aA (show ¬ (s.length : Int) > 1280 by omega), if_neg h2];have hc : cut s 48 (s.length : Int) = s.drop 48 := pI (a := 48) rfl;simp only [cond_false, aQ (show (0 : Int) <= 48 by omega) (show (48 : Int) <= (s.length : Int) by omega) (Int.le_refl _), cond_true, hc, Yi (hs.drop 48) (show (s.drop 48).length < 9223372036854775808 by rw [List.length_drop]; omega), Option.bind_some];generalize qL (s.drop 48).length (s.drop 48) [] = r;obtain ⟨fs, e⟩ := r;simp only;by_cases h0 : e = 0
 ·rw [au h0, if_pos h0];have rb : ∀ k : Nat, k < 48 -> B8 (rd 0 s (k : Int)) := fun k hk => hs _ (fC (by omega) (by omega))
  have r0 := rb 0 (by decide); have r1 := rb 1 (by decide); have r2 := rb 2 (by decide); have r3 := rb 3 (by decide);have v : ∀ a b : Nat, a <= b -> b <= 48 -> b - a <= 8 -> dI.run .lim ((s.take b).drop a, ()) = some (eG ((s.take b).drop a)) := fun a b _ hb hq => FD ((hs.take b).drop a) (by rw [uF (by omega)]; omega)
  have u : ∀ a b : Nat, b = a + 4 -> b <= 48 -> IntKind.u32.wrap (eG ((s.take b).drop a)) = eG ((s.take b).drop a) := fun a b h hb => (Zp ((hs.take b).drop a) (by rw [uF (by omega)]; omega)).1
  have c1 : cut s 4 8 = (s.take 8).drop 4 := jC rfl rfl;have c2 : cut s 8 12 = (s.take 12).drop 8 := jC rfl rfl;have c3 : cut s 12 16 = (s.take 16).drop 12 := jC rfl rfl;have c4 : cut s 16 24 = (s.take 24).drop 16 := jC rfl rfl;have c5 : cut s 24 32 = (s.take 32).drop 24 := jC rfl rfl;have c6 : cut s 32 40 = (s.take 40).drop 32 := jC rfl rfl;have c7 : cut s 40 48 = (s.take 48).drop 40 := jC rfl rfl;have k : ∀ a b : Int, 0 <= a -> a <= b -> b <= 48 -> dG a b (s.length : Int) = true := fun a b x y z => aQ x y (by omega)
  have i : ∀ a : Int, 0 <= a -> a < 48 -> inB a (s.length : Int) = true := fun a x y => aH x (by omega)
  simp only [Bool.not_true, cond_false, i 0 (by decide) (by decide), i 1 (by decide) (by decide), i 2 (by decide) (by decide), i 3 (by decide) (by decide), cond_true, k 4 8 (by decide) (by decide) (by decide), k 8 12 (by decide) (by decide) (by decide), k 12 16 (by decide) (by decide) (by decide), k 16 24 (by decide) (by decide) (by decide), k 24 32 (by decide) (by decide) (by decide), k 32 40 (by decide) (by decide) (by decide), k 40 48 (by decide) (by decide) (by decide),
   c1, c2, c3, c4, c5, c6, c7, v 4 8 (by decide) (by decide) (by decide), v 8 12 (by decide) (by decide) (by decide), v 12 16 (by decide) (by decide) (by decide), v 16 24 (by decide) (by decide) (by decide), v 24 32 (by decide) (by decide) (by decide), v 32 40 (by decide) (by decide) (by decide), v 40 48 (by decide) (by decide) (by decide), Option.bind_some, u 4 8 rfl (by decide), u 8 12 rfl (by decide), u 12 16 rfl (by decide)]
  have q0 : B8 (rd 0 s 0) := r0;have q1 : B8 (rd 0 s 1) := r1;have q2 : B8 (rd 0 s 2) := r2;have q3 : B8 (rd 0 s 3) := r3;simp only [by_a q0, by_b q0, by_c q0, Zo q1, by_e q2, by_e q3, h0];rfl
 ·rw [aA h0, if_neg h0]; rfl
theorem UC {s : List Int} (hs : Bs s) (hl : s.length < 9223372036854775808) : jv.run .lim (s, ()) = some (iZ s, Gx s, ()) := by
 simp only [jv.run, aF hl, cond_true];unfold iZ Gx;by_cases h1 : s.length < 48
 ·rw [au (show (s.length : Int) < 48 by omega), if_pos h1]; rfl
 rw [aA (show ¬ (s.length : Int) < 48 by omega), if_neg h1];by_cases h2 : s.length > 1280
 ·rw [au (show (s.length : Int) > 1280 by omega), if_pos h2]; rfl
 rw [aA (show ¬ (s.length : Int) > 1280 by omega), if_neg h2];have hc : cut s 48 (s.length : Int) = s.drop 48 := pI (a := 48) rfl;simp only [cond_false, aQ (show (0 : Int) <= 48 by omega) (show (48 : Int) <= (s.length : Int) by omega) (Int.le_refl _), cond_true, hc, OA (hs.drop 48) (show (s.drop 48).length < 9223372036854775808 by rw [List.length_drop]; omega), Option.bind_some];generalize qL (s.drop 48).length (s.drop 48) [] = r;obtain ⟨fs, e⟩ := r;simp only;by_cases h0 : e = 0
 ·rw [au h0, if_pos h0];have rb : ∀ k : Nat, k < 48 -> B8 (rd 0 s (k : Int)) := fun k hk => hs _ (fC (by omega) (by omega))
  have q0 : B8 (rd 0 s 0) := rb 0 (by decide);have q1 : B8 (rd 0 s 1) := rb 1 (by decide);have q2 : B8 (rd 0 s 2) := rb 2 (by decide);have q3 : B8 (rd 0 s 3) := rb 3 (by decide);have v : ∀ a b : Nat, a <= b -> b <= 48 -> b - a <= 8 -> aK.run .lim ((s.take b).drop a, ()) = some (eG ((s.take b).drop a)) := fun a b _ hb hq => BH ((hs.take b).drop a) (by rw [uF (by omega)]; omega)
  have u : ∀ a b : Nat, b = a + 4 -> b <= 48 -> IntKind.u32.wrap (eG ((s.take b).drop a)) = eG ((s.take b).drop a) := fun a b h hb => (Zp ((hs.take b).drop a) (by rw [uF (by omega)]; omega)).1
  have c1 : cut s 4 8 = (s.take 8).drop 4 := jC rfl rfl;have c2 : cut s 8 12 = (s.take 12).drop 8 := jC rfl rfl;have c3 : cut s 12 16 = (s.take 16).drop 12 := jC rfl rfl;have c4 : cut s 16 24 = (s.take 24).drop 16 := jC rfl rfl;have c5 : cut s 24 32 = (s.take 32).drop 24 := jC rfl rfl;have c6 : cut s 32 40 = (s.take 40).drop 32 := jC rfl rfl;have c7 : cut s 40 48 = (s.take 48).drop 40 := jC rfl rfl;have k : ∀ a b : Int, 0 <= a -> a <= b -> b <= 48 -> dG a b (s.length : Int) = true := fun a b x y z => aQ x y (by omega)
  have i : ∀ a : Int, 0 <= a -> a < 48 -> inB a (s.length : Int) = true := fun a x y => aH x (by omega)
  simp only [Bool.not_true, cond_false, i 0 (by decide) (by decide), i 1 (by decide) (by decide), i 2 (by decide) (by decide), i 3 (by decide) (by decide), cond_true, k 4 8 (by decide) (by decide) (by decide), k 8 12 (by decide) (by decide) (by decide), k 12 16 (by decide) (by decide) (by decide), k 16 24 (by decide) (by decide) (by decide), k 24 32 (by decide) (by decide) (by decide), k 32 40 (by decide) (by decide) (by decide), k 40 48 (by decide) (by decide) (by decide),
   c1, c2, c3, c4, c5, c6, c7, v 4 8 (by decide) (by decide) (by decide), v 8 12 (by decide) (by decide) (by decide), v 12 16 (by decide) (by decide) (by decide), v 16 24 (by decide) (by decide) (by decide), v 24 32 (by decide) (by decide) (by decide), v 32 40 (by decide) (by decide) (by decide), v 40 48 (by decide) (by decide) (by decide), Option.bind_some, u 4 8 rfl (by decide), u 8 12 rfl (by decide), u 12 16 rfl (by decide), by_f q2, by_f q3]
  simp only [by_a q0, by_b q0, by_c q0, Zo q1, h0];rfl
 ·rw [aA h0, if_neg h0]; rfl
theorem by_g {c : Int} (h : B8 c) : VZ (c / 64) (c / 8 % 8) (c % 8) = c := iO (p := fun c => VZ (c / 64) (c / 8 % 8) (c % 8) = c) (by decide +kernel) h
theorem by_h {c : Int} (h : B8 c) : IntKind.u8.wrap (sg c) = c := iO (p := fun c => IntKind.u8.wrap (sg c) = c) (by decide +kernel) h
theorem glue {s : List Int} {a b c : Nat} (h1 : a <= b) (h2 : b <= c) : (s.take b).drop a ++ (s.take c).drop b = (s.take c).drop a := by
 have e : s.take b = (s.take c).take b := by rw [List.take_take, Nat.min_eq_left h2]
 have e2 : (s.take c).drop b = ((s.take c).drop a).drop (b - a) := by rw [List.drop_drop]; congr 1; omega
 have e3 : ((s.take c).take b).drop a = ((s.take c).drop a).take (b - a) := by rw [List.drop_take]
 rw [e, e2, e3, List.take_append_drop]
theorem Xt {s : List Int} (hs : Bs s) (hl : 48 <= s.length) (fs : List FF) : JZ (V3 s fs) = s.take 48 /\ Rx (V3 s fs) = true := by
 have rb : ∀ k : Nat, k < 48 -> B8 (rd 0 s (k : Int)) := fun k hk => hs _ (fC (by omega) (by omega))
 have q0 : B8 (rd 0 s 0) := rb 0 (by decide);have q1 : B8 (rd 0 s 1) := rb 1 (by decide);have q2 : B8 (rd 0 s 2) := rb 2 (by decide);have q3 : B8 (rd 0 s 3) := rb 3 (by decide);constructor
 ·have u : ∀ a b : Nat, b = a + 4 -> b <= 48 -> SH (IntKind.u64.wrap (eG ((s.take b).drop a))) = (s.take b).drop a := fun a b h hb => (Zp ((hs.take b).drop a) (by rw [uF (by omega)]; omega)).2
  have v : ∀ a b : Nat, b = a + 8 -> b <= 48 -> by8 (eG ((s.take b).drop a)) = (s.take b).drop a := fun a b h hb => val8 ((hs.take b).drop a) (by rw [uF (by omega)]; omega)
  have h4 := list4 (t := s.take 4) (by rw [List.length_take]; omega);have t0 : rd 0 (s.take 4) 0 = rd 0 s 0 := pF (k := 0) (n := 4) (by decide);have t1 : rd 0 (s.take 4) 1 = rd 0 s 1 := pF (k := 1) (n := 4) (by decide);have t2 : rd 0 (s.take 4) 2 = rd 0 s 2 := pF (k := 2) (n := 4) (by decide);have t3 : rd 0 (s.take 4) 3 = rd 0 s 3 := pF (k := 3) (n := 4) (by decide);rw [t0, t1, t2, t3] at h4;unfold JZ V3;simp only [by_g q0, pR q1, by_h q2, by_h q3, u 4 8 rfl (by decide), u 8 12 rfl (by decide), u 12 16 rfl (by decide), v 16 24 rfl (by decide), v 24 32 rfl (by decide), v 32 40 rfl (by decide), v 40 48 rfl (by decide)];rw [<- h4, glue (by decide) (by decide), glue (by decide) (by decide), glue (by decide) (by decide), glue (by decide) (by decide), glue (by decide) (by decide), glue (by decide) (by decide)];have := glue (s := s) (a := 0) (b := 4) (c := 48) (by decide) (by decide);simpa using this
 ·unfold Rx V3 OB sg;simp only [Bool.and_eq_true, decide_eq_true_eq];refine ⟨⟨⟨⟨⟨?_, ?_⟩, ?_⟩, ?_⟩, ?_⟩, ?_⟩
  ·omega
  ·omega
  ·omega
  ·omega
  ·split <;> omega
  ·split <;> omega
structure Was (s : List Int) : Prop where
 l0 : 48 <= s.length
 l1 : s.length <= 1280
 eq : iZ s = V3 s (iZ s).fs
 st : s = s.take 48 ++ aP (iZ s).fs
 ok : ∀ f ∈ (iZ s).fs, SG f
 few : (iZ s).fs.length <= 16
theorem was {s : List Int} (hs : Bs s) (h : Gx s = 0) : Was s := by
 have h1 : 48 <= s.length := by
  unfold Gx at h;split at h
  ·cases h
  ·omega
 have h2 : s.length <= 1280 := by
  unfold Gx at h;rw [if_neg (by omega)] at h;split at h
  ·cases h
  ·omega
 have h3 : (qL (s.drop 48).length (s.drop 48) []).2 = 0 := by
  unfold Gx at h
  rwa [if_neg (by omega), if_neg (by omega)] at h
 obtain ⟨l, k1, k2, k3, k4⟩ := Xo _ _ [] (Nat.le_refl _) (hs.drop 48) h3;have hr : iZ s = V3 s l := by unfold iZ; rw [if_pos h, k1]; rfl
 have hf : (iZ s).fs = l := by rw [hr]; rfl
 refine ⟨h1, h2, by rw [hf, hr], by rw [hf, <- k2, List.take_append_drop], by rw [hf]; exact k3, by rw [hf]; simpa using k4 (by simp)⟩
theorem OC {s : List Int} (hs : Bs s) (h : Gx s = 0) (k : Nat) : aS.run .lim (PK.cut (iZ s) ((iZ s).fs.take k), ()) = some (s.take (48 + (aP ((iZ s).fs.take k)).length), 0, ()) := by
 have w := was hs h;have hle := FH (iZ s).fs k;have hsl : s.length = 48 + (aP (iZ s).fs).length := by
  have := congrArg List.length w.st;rw [List.length_append, List.length_take, Nat.min_eq_left w.l0] at this;exact this
 have hok : ∀ f ∈ (iZ s).fs.take k, SG f := fun f hf => w.ok f (List.mem_of_mem_take hf)
 have hfl : FL (PK.fs (PK.cut (iZ s) ((iZ s).fs.take k))) := by
  refine ⟨?_, fun f hf => ?_⟩
  ·show ((iZ s).fs.take k).length < _;have := w.few;rw [List.length_take]; omega
  ·have := (hok f hf).l1; omega
 rw [FI hfl];have hb := Xt hs w.l0 ((iZ s).fs.take k);have hc : PK.cut (iZ s) ((iZ s).fs.take k) = V3 s ((iZ s).fs.take k) := by
  conv => lhs; rw [show PK.cut (iZ s) ((iZ s).fs.take k) = PK.cut (V3 s (iZ s).fs) ((iZ s).fs.take k) by rw [<- w.eq]]
  rfl
 have he : JG (PK.cut (iZ s) ((iZ s).fs.take k)) = 0 := by
  unfold JG;rw [hc, if_pos hb.2];show sN ((iZ s).fs.take k) = 0;exact JF hok (by have := w.few; rw [List.length_take]; omega) (by have := w.l1; omega)
 have hs2 : Gw (PK.cut (iZ s) ((iZ s).fs.take k)) = s.take (48 + (aP ((iZ s).fs.take k)).length) := by
  unfold Gw;rw [if_pos he, hc, hb.1];show s.take 48 ++ aP ((iZ s).fs.take k) = _;have e1 : aP (iZ s).fs = aP ((iZ s).fs.take k) ++ aP ((iZ s).fs.drop k) := by rw [<- BI, List.take_append_drop]
  have e2 : s = (s.take 48 ++ aP ((iZ s).fs.take k)) ++ aP ((iZ s).fs.drop k) := by rw [List.append_assoc, <- e1]; exact w.st
  have e3 : (s.take 48 ++ aP ((iZ s).fs.take k)).length = 48 + (aP ((iZ s).fs.take k)).length := by rw [List.length_append, List.length_take, Nat.min_eq_left w.l0]
  rw [<- e3];generalize aP ((iZ s).fs.take k) = x at e2;generalize aP ((iZ s).fs.drop k) = y at e2;generalize s.take 48 = z at e2;rw [e2, List.take_left]
 rw [he, hs2]
end Go.AM
end
section
namespace Go.AM
abbrev KK := List Int × List (List Int) × List Int × List Int
abbrev k0 : KK := ([], [], [], [])
theorem wk (k : Nat) (h : (k : Int) + 1 < 9223372036854775808) : IntKind.i64.wrap ((k : Int) + 1) = ((k + 1 : Nat) : Int) := by rw [wrap64 (by omega) (by omega)]; omega
theorem Me (a b : List (List Int)) (ha : a.length < 9223372036854775808) (hb : b.length < 9223372036854775808) : aW.run .lim (a, b, ()) = some (decide (a = b)) := by
 simp only [aW.run, aF ha, aF hb, cond_true];by_cases hl : a.length = b.length
 ·have e := r_ (f := aW.l0 .lim) (fun k => (a, b, (a.length : Int), (k : Int), ())) a.length (fun k => !decide (rd ([] : List Int) a k = rd ([] : List Int) b k)) (some (.inl (false, ()))) (fun k hk => by
   rw [aW.q0];have w := wk k (by omega);simp (disch := omega) only [aV, aH, aQ, wrap64, au, aA, dec_not, dec_and, eY, dw, cond_true, cond_false, Option.bind_some, Option.bind_none, Bool.or_true, Bool.true_or, Bool.and_true, Bool.true_and, Bool.and_false, Bool.false_and, Bool.or_false, Bool.false_or, Bool.not_true, Bool.not_false, Bool.or_self, Bool.and_self, Bool.not_not, if_true, if_false, and_self, true_and, and_true, and_false, false_and, or_true, true_or, or_false, false_or, not_true_eq_false, not_false_eq_true, decide_true, decide_false, eq_self, if_pos, if_neg, iL, iq, aW.b0, w])
  rw [Ob hl] at e;rw [cond_neg (by simp (disch := omega) only [aV, aH, aQ, wrap64, au, aA, dec_not, dec_and, eY, dw, cond_true, cond_false, Option.bind_some, Option.bind_none, Bool.or_true, Bool.true_or, Bool.and_true, Bool.true_and, Bool.and_false, Bool.false_and, Bool.or_false, Bool.false_or, Bool.not_true, Bool.not_false, Bool.or_self, Bool.and_self, Bool.not_not, if_true, if_false, and_self, true_and, and_true, and_false, false_and, or_true, true_or, or_false, false_or, not_true_eq_false, not_false_eq_true, decide_true, decide_false, eq_self, if_pos, if_neg, iL, iq]), show (0 : Int) = ((0 : Nat) : Int) from rfl, e];by_cases h : a = b
  ·simp (disch := omega) only [aV, aH, aQ, wrap64, au, aA, dec_not, dec_and, eY, dw, cond_true, cond_false, Option.bind_some, Option.bind_none, Bool.or_true, Bool.true_or, Bool.and_true, Bool.true_and, Bool.and_false, Bool.false_and, Bool.or_false, Bool.false_or, Bool.not_true, Bool.not_false, Bool.or_self, Bool.and_self, Bool.not_not, if_true, if_false, and_self, true_and, and_true, and_false, false_and, or_true, true_or, or_false, false_or, not_true_eq_false, not_false_eq_true, decide_true, decide_false, eq_self, if_pos, if_neg, iL, iq];rw [aW.q0];simp (disch := omega) only [aV, aH, aQ, wrap64, au, aA, dec_not, dec_and, eY, dw, cond_true, cond_false, Option.bind_some, Option.bind_none, Bool.or_true, Bool.true_or, Bool.and_true, Bool.true_and, Bool.and_false, Bool.false_and, Bool.or_false, Bool.false_or, Bool.not_true, Bool.not_false, Bool.or_self, Bool.and_self, Bool.not_not, if_true, if_false, and_self, true_and, and_true, and_false, false_and, or_true, true_or, or_false, false_or, not_true_eq_false, not_false_eq_true, decide_true, decide_false, eq_self, if_pos, if_neg, iL, iq, aW.b0]
  ·simp (disch := omega) only [aV, aH, aQ, wrap64, au, aA, dec_not, dec_and, eY, dw, cond_true, cond_false, Option.bind_some, Option.bind_none, Bool.or_true, Bool.true_or, Bool.and_true, Bool.true_and, Bool.and_false, Bool.false_and, Bool.or_false, Bool.false_or, Bool.not_true, Bool.not_false, Bool.or_self, Bool.and_self, Bool.not_not, if_true, if_false, and_self, true_and, and_true, and_false, false_and, or_true, true_or, or_false, false_or, not_true_eq_false, not_false_eq_true, decide_true, decide_false, eq_self, if_pos, if_neg, iL, iq]
 ·rw [cond_pos (by simp (disch := omega) only [aV, aH, aQ, wrap64, au, aA, dec_not, dec_and, eY, dw, cond_true, cond_false, Option.bind_some, Option.bind_none, Bool.or_true, Bool.true_or, Bool.and_true, Bool.true_and, Bool.and_false, Bool.false_and, Bool.or_false, Bool.false_or, Bool.not_true, Bool.not_false, Bool.or_self, Bool.and_self, Bool.not_not, if_true, if_false, and_self, true_and, and_true, and_false, false_and, or_true, true_or, or_false, false_or, not_true_eq_false, not_false_eq_true, decide_true, decide_false, eq_self, if_pos, if_neg, iL, iq]), aA (fun q => hl (by rw [q]))]
theorem texts_eq (a b : List (List Int)) (ha : a.length < 9223372036854775808) (hb : b.length < 9223372036854775808) : cu.run .lim (a, b, ()) = some (decide (a = b)) := by
 simp only [cu.run, aF ha, aF hb, cond_true];by_cases hl : a.length = b.length
 ·have e := r_ (f := cu.l0 .lim) (fun k => (a, b, (k : Int), ())) a.length (fun k => !decide (rd ([] : List Int) a k = rd ([] : List Int) b k)) (some (.inl (false, ()))) (fun k hk => by
   rw [cu.q0];have w := wk k (by omega);simp (disch := omega) only [aV, aH, aQ, wrap64, au, aA, dec_not, dec_and, eY, dw, cond_true, cond_false, Option.bind_some, Option.bind_none, Bool.or_true, Bool.true_or, Bool.and_true, Bool.true_and, Bool.and_false, Bool.false_and, Bool.or_false, Bool.false_or, Bool.not_true, Bool.not_false, Bool.or_self, Bool.and_self, Bool.not_not, if_true, if_false, and_self, true_and, and_true, and_false, false_and, or_true, true_or, or_false, false_or, not_true_eq_false, not_false_eq_true, decide_true, decide_false, eq_self, if_pos, if_neg, iL, iq, cu.b0, w])
  rw [Ob hl] at e;rw [cond_neg (by simp (disch := omega) only [aV, aH, aQ, wrap64, au, aA, dec_not, dec_and, eY, dw, cond_true, cond_false, Option.bind_some, Option.bind_none, Bool.or_true, Bool.true_or, Bool.and_true, Bool.true_and, Bool.and_false, Bool.false_and, Bool.or_false, Bool.false_or, Bool.not_true, Bool.not_false, Bool.or_self, Bool.and_self, Bool.not_not, if_true, if_false, and_self, true_and, and_true, and_false, false_and, or_true, true_or, or_false, false_or, not_true_eq_false, not_false_eq_true, decide_true, decide_false, eq_self, if_pos, if_neg, iL, iq]), show (0 : Int) = ((0 : Nat) : Int) from rfl, e];by_cases h : a = b
  ·simp (disch := omega) only [aV, aH, aQ, wrap64, au, aA, dec_not, dec_and, eY, dw, cond_true, cond_false, Option.bind_some, Option.bind_none, Bool.or_true, Bool.true_or, Bool.and_true, Bool.true_and, Bool.and_false, Bool.false_and, Bool.or_false, Bool.false_or, Bool.not_true, Bool.not_false, Bool.or_self, Bool.and_self, Bool.not_not, if_true, if_false, and_self, true_and, and_true, and_false, false_and, or_true, true_or, or_false, false_or, not_true_eq_false, not_false_eq_true, decide_true, decide_false, eq_self, if_pos, if_neg, iL, iq];rw [cu.q0];simp (disch := omega) only [aV, aH, aQ, wrap64, au, aA, dec_not, dec_and, eY, dw, cond_true, cond_false, Option.bind_some, Option.bind_none, Bool.or_true, Bool.true_or, Bool.and_true, Bool.true_and, Bool.and_false, Bool.false_and, Bool.or_false, Bool.false_or, Bool.not_true, Bool.not_false, Bool.or_self, Bool.and_self, Bool.not_not, if_true, if_false, and_self, true_and, and_true, and_false, false_and, or_true, true_or, or_false, false_or, not_true_eq_false, not_false_eq_true, decide_true, decide_false, eq_self, if_pos, if_neg, iL, iq, cu.b0]
  ·simp (disch := omega) only [aV, aH, aQ, wrap64, au, aA, dec_not, dec_and, eY, dw, cond_true, cond_false, Option.bind_some, Option.bind_none, Bool.or_true, Bool.true_or, Bool.and_true, Bool.true_and, Bool.and_false, Bool.false_and, Bool.or_false, Bool.false_or, Bool.not_true, Bool.not_false, Bool.or_self, Bool.and_self, Bool.not_not, if_true, if_false, and_self, true_and, and_true, and_false, false_and, or_true, true_or, or_false, false_or, not_true_eq_false, not_false_eq_true, decide_true, decide_false, eq_self, if_pos, if_neg, iL, iq]
 ·rw [cond_pos (by simp (disch := omega) only [aV, aH, aQ, wrap64, au, aA, dec_not, dec_and, eY, dw, cond_true, cond_false, Option.bind_some, Option.bind_none, Bool.or_true, Bool.true_or, Bool.and_true, Bool.true_and, Bool.and_false, Bool.false_and, Bool.or_false, Bool.false_or, Bool.not_true, Bool.not_false, Bool.or_self, Bool.and_self, Bool.not_not, if_true, if_false, and_self, true_and, and_true, and_false, false_and, or_true, true_or, or_false, false_or, not_true_eq_false, not_false_eq_true, decide_true, decide_false, eq_self, if_pos, if_neg, iL, iq]), aA (fun q => hl (by rw [q]))]
def FK (a b : KK) : Bool := decide (a.1 = b.1) && decide (a.2.2.1 = b.2.2.1) && decide (a.2.1 = b.2.1)
theorem UD (a b : KK) : FK a b = FK b a := by
 unfold FK;rw [show decide (a.1 = b.1) = decide (b.1 = a.1) from by congr 1; exact propext ⟨Eq.symm, Eq.symm⟩, show decide (a.2.2.1 = b.2.2.1) = decide (b.2.2.1 = a.2.2.1) from by congr 1; exact propext ⟨Eq.symm, Eq.symm⟩, show decide (a.2.1 = b.2.1) = decide (b.2.1 = a.2.1) from by congr 1; exact propext ⟨Eq.symm, Eq.symm⟩]
theorem UE (a b : KK) (ha : a.2.1.length < 9223372036854775808) (hb : b.2.1.length < 9223372036854775808) : oG.run .lim (a, b, ()) = some (FK a b) := by
 simp only [oG.run, Me _ _ ha hb];unfold FK;cases decide (a.1 = b.1) && decide (a.2.2.1 = b.2.2.1) <;> rfl
theorem Ry (a b : KK) (ha : a.2.1.length < 9223372036854775808) (hb : b.2.1.length < 9223372036854775808) : gY.run .lim (a, b, ()) = some (FK a b) := by
 simp only [gY.run, texts_eq _ _ ha hb];unfold FK;cases decide (a.1 = b.1) && decide (a.2.2.1 = b.2.2.1) <;> rfl
def byteOf (n : Int) (k : Nat) : Int := (n / 256 ^ k) % 256
def CZ (n : Int) : List Int := (List.range 16).map fun i => byteOf n (15 - i)
def txt (n : Int) (plain : List Int) : List Int := CZ n ++ List.replicate plain.length 0
theorem rep0 : ∀ n : Nat, Dl [0] n = List.replicate n 0
 | 0 => rfl
 | n + 1 => by rw [Dl, rep0 n]; rfl
def part (n : Int) (k : Nat) : List Int := (List.range 16).map fun i => if i < 16 - k then 0 else byteOf n (15 - i)
theorem Ir (n : Int) : part n 0 = List.replicate 16 0 := by
 unfold part;rw [List.eq_replicate_iff];refine ⟨by simp, fun b hb => ?_⟩;obtain ⟨i, hi, rfl⟩ := List.mem_map.1 hb;rw [if_pos (by have := List.mem_range.1 hi; omega)]
theorem FM (n : Int) (k : Nat) : (part n k).length = 16 := by simp [part]
theorem MB (n : Int) (k : Nat) (hk : k < 16) : (part n k).set (15 - k) (byteOf n k) = part n (k + 1) := by
 apply List.ext_getElem (by simp [part])
 intro i h1 h2;have hi : i < 16 := by rw [List.length_set, FM] at h1; exact h1
 rw [List.getElem_set];simp only [part, List.getElem_map, List.getElem_range];split
 ·rw [if_neg (by omega)]; congr 1; omega
 ·by_cases h : i < 16 - (k + 1)
  ·rw [if_pos (by omega), if_pos h]
  ·rw [if_neg (by omega), if_neg h]
theorem UF (n : Int) : part n 16 = CZ n := by
 unfold part CZ;apply List.map_congr_left
 intro i _; rw [if_neg (by omega)]
theorem MC {n : Int} (h0 : 0 <= n) (h1 : n < 9223372036854775808) {k : Nat} (hk : 8 <= k) : byteOf n k = 0 := by
 unfold byteOf;rw [Int.ediv_eq_zero_of_lt h0]; · rfl
 obtain ⟨j, rfl⟩ : ∃ j, k = 8 + j := ⟨k - 8, by omega⟩;rw [Int.pow_add];have : (0 : Int) < 256 ^ j := Int.pow_pos (by omega);have h2 : (256 : Int) ^ 8 * 1 <= 256 ^ 8 * 256 ^ j := Int.mul_le_mul_of_nonneg_left (by omega) (by decide);have h3 : (256 : Int) ^ 8 = 18446744073709551616 := by decide
 rw [h3] at h2 ⊢; omega
theorem part8 {n : Int} (h0 : 0 <= n) (h1 : n < 9223372036854775808) : part n 8 = CZ n := by
 unfold part CZ;apply List.map_congr_left
 intro i _;split
 ·rw [MC h0 h1 (by omega)]
 ·rfl
theorem number_eq (n : Int) (plain : List Int) (h0 : 0 <= n) (h1 : n < 9223372036854775808) (hp : plain.length <= 100000) : fZ.run .lim (n, plain, ()) = some (txt n plain) := by
 have e := dA (f := fZ.l0 .lim) (fun k => (n, plain, (k : Int), part n k, ())) (n := 8) (fun k hk => by
  rw [fZ.q0];have w := wk k (by omega);have w2 : IntKind.i64.wrap ((8 : Int) * k) = ((8 * k : Nat) : Int) := by rw [wrap64 (by omega) (by omega)]; omega
  have w3 : IntKind.i64.wrap ((15 : Int) - k) = ((15 - k : Nat) : Int) := by rw [wrap64 (by omega) (by omega)]; omega
  have hb : IntKind.u8.wrap (jc .i64 n ((8 * k : Nat) : Int)) = byteOf n k := by
   rw [jX];unfold jc byteOf;rw [Int.toNat_natCast, show min (8 * k) (IntKind.bits .i64) = 8 * k from by show min (8 * k) 64 = _; omega, Int.fdiv_eq_ediv_of_nonneg _ (Int.le_of_lt (Int.pow_pos (by omega))), Int.pow_mul];rfl
  simp (disch := omega) only [aV, aH, aQ, wrap64, au, aA, dec_not, dec_and, eY, dw, cond_true, cond_false, Option.bind_some, Option.bind_none, Bool.or_true, Bool.true_or, Bool.and_true, Bool.true_and, Bool.and_false, Bool.false_and, Bool.or_false, Bool.false_or, Bool.not_true, Bool.not_false, Bool.or_self, Bool.and_self, Bool.not_not, if_true, if_false, and_self, true_and, and_true, and_false, false_and, or_true, true_or, or_false, false_or, not_true_eq_false, not_false_eq_true, decide_true, decide_false, eq_self, if_pos, if_neg, iL, iq, fZ.b0, w, w2, w3, hb, Int.toNat_natCast, MB])
 rw [Ir, show ((0 : Nat) : Int) = 0 from rfl] at e;simp only [fZ.run, e];rw [fZ.q0];have hr : strings_Repeat.run .lim ([0], (plain.length : Int), ()) = some (List.replicate plain.length 0) := by
  show LK _ = _;unfold LK;rw [cond_pos (by simp; omega), Int.toNat_natCast, rep0]
 simp (disch := omega) only [aV, aH, aQ, wrap64, au, aA, dec_not, dec_and, eY, dw, cond_true, cond_false, Option.bind_some, Option.bind_none, Bool.or_true, Bool.true_or, Bool.and_true, Bool.true_and, Bool.and_false, Bool.false_and, Bool.or_false, Bool.false_or, Bool.not_true, Bool.not_false, Bool.or_self, Bool.and_self, Bool.not_not, if_true, if_false, and_self, true_and, and_true, and_false, false_and, or_true, true_or, or_false, false_or, not_true_eq_false, not_false_eq_true, decide_true, decide_false, eq_self, if_pos, if_neg, iL, iq, fZ.b0, aF (show plain.length < 9223372036854775808 by omega), hr];rw [part8 h0 h1, List.drop_zero, List.take_of_length_le (by simp [CZ]), if_pos]
 ·rfl
 ·rw [List.length_replicate, CZ, List.length_map, List.length_range]; unfold maxStr; omega
theorem UG (n : Int) (plain : List Int) (h0 : 0 <= n) (h1 : n < 9223372036854775808) (hp : plain.length <= 100000) : dH.run .lim (n, plain, ()) = some (txt n plain) := by
 have w0 : IntKind.i64.wrap ((16 : Int) + plain.length) = ((16 + plain.length : Nat) : Int) := by rw [wrap64 (by omega) (by omega)]; omega
 have e := dA (f := dH.l0 .lim) (fun k => (n / 256 ^ k, (15 : Int) - k, part n k ++ List.replicate plain.length 0, ())) (n := 16) (fun k hk => by
  rw [dH.q0];have hn : 0 <= n / 256 ^ k := Int.ediv_nonneg h0 (Int.le_of_lt (Int.pow_pos (by omega)));have hn2 : n / 256 ^ k <= n := Int.ediv_le_self _ h0;have w1 : IntKind.i64.wrap ((n / 256 ^ k).tdiv 256) = n / 256 ^ (k + 1) := by
   rw [Int.tdiv_eq_ediv_of_nonneg hn, Int.ediv_ediv_of_nonneg (Int.le_of_lt (Int.pow_pos (by omega))), show (256 : Int) ^ k * 256 = 256 ^ (k + 1) from (Int.pow_succ _ _).symm];have : n / 256 ^ (k + 1) <= n := Int.ediv_le_self _ h0;have : 0 <= n / 256 ^ (k + 1) := Int.ediv_nonneg h0 (Int.le_of_lt (Int.pow_pos (by omega)));rw [wrap64 (by omega) (by omega)]
  have w2 : IntKind.i64.wrap ((15 : Int) - k - 1) = (15 : Int) - (k + 1 : Nat) := by rw [wrap64 (by omega) (by omega)]; omega
  have hb : IntKind.u8.wrap ((n / 256 ^ k).tmod 256) = byteOf n k := by rw [jX, Int.tmod_eq_emod_of_nonneg hn]; unfold byteOf; omega
  have hl : (part n k ++ List.replicate plain.length 0).length = 16 + plain.length := by simp [FM]
  have ht : ((15 : Int) - k).toNat = 15 - k := by omega
  have hs : (part n k ++ List.replicate plain.length (0 : Int)).set (15 - k) (byteOf n k) = part n (k + 1) ++ List.replicate plain.length 0 := by rw [List.set_append_left _ _ (by rw [FM]; omega), MB n k hk]
  simp (disch := omega) only [aV, aH, aQ, wrap64, au, aA, dec_not, dec_and, eY, dw, cond_true, cond_false, Option.bind_some, Option.bind_none, Bool.or_true, Bool.true_or, Bool.and_true, Bool.true_and, Bool.and_false, Bool.false_and, Bool.or_false, Bool.false_or, Bool.not_true, Bool.not_false, Bool.or_self, Bool.and_self, Bool.not_not, if_true, if_false, and_self, true_and, and_true, and_false, false_and, or_true, true_or, or_false, false_or, not_true_eq_false, not_false_eq_true, decide_true, decide_false, eq_self, if_pos, if_neg, iL, iq, dH.b0, w1, w2, hb, hl, ht, hs])
 have hz : List.replicate (16 + plain.length) (0 : Int) = part n 0 ++ List.replicate plain.length 0 := by rw [Ir, List.replicate_append_replicate]
 rw [Int.pow_zero, Int.ediv_one, show (15 : Int) - ((0 : Nat) : Int) = 15 from rfl] at e;simp only [dH.run, w0, Int.toNat_natCast, hz, e];rw [dH.q0];simp (disch := omega) only [aV, aH, aQ, wrap64, au, aA, dec_not, dec_and, eY, dw, cond_true, cond_false, Option.bind_some, Option.bind_none, Bool.or_true, Bool.true_or, Bool.and_true, Bool.true_and, Bool.and_false, Bool.false_and, Bool.or_false, Bool.false_or, Bool.not_true, Bool.not_false, Bool.or_self, Bool.and_self, Bool.not_not, if_true, if_false, and_self, true_and, and_true, and_false, false_and, or_true, true_or, or_false, false_or, not_true_eq_false, not_false_eq_true, decide_true, decide_false, eq_self, if_pos, if_neg, iL, iq, dH.b0, aF (show plain.length < 9223372036854775808 by omega)];rw [cond_pos (by rw [Nat.blt_eq]; omega), UF];rfl
end Go.AM
end
section
namespace Go.AM
abbrev VV := Bool × List KK
def Rz (k : KK) : Prop := k.1.length < 9223372036854775808 /\ k.2.1.length < 9223372036854775808 /\ (∀ s ∈ k.2.1, s.length < 9223372036854775808) /\ k.2.2.1.length < 9223372036854775808 /\ k.2.2.2.length < 9223372036854775808
def okV (v : VV) : Prop := v.2.length < 9223372036854775808 /\ ∀ k ∈ v.2, Rz k
theorem okV.at {v : VV} (h : okV v) {k : Nat} (hk : k < v.2.length) : Rz (rd k0 v.2 (k : Int)) := h.2 _ (fC (by omega) (by omega))
def oN (k : KK) : Int := if k.1.length ≠ 32 /\ k.1.length ≠ 64 then 13 else if k.2.1.length > 126 then 18 else 0
theorem FN (k : KK) (h : k.1.length < 9223372036854775808) (h2 : k.2.1.length < 9223372036854775808) : jG.run .lim (k, ()) = some (oN k) := by
 unfold oN;simp only [jG.run, aF h, aF h2, cond_true, Bool.or_true];by_cases h3 : k.1.length ≠ 32 /\ k.1.length ≠ 64
 ·rw [cond_pos (by simp (disch := omega) only [aV, aH, aQ, wrap64, au, aA, dec_not, dec_and, eY, dw, cond_true, cond_false, Option.bind_some, Option.bind_none, Bool.or_true, Bool.true_or, Bool.and_true, Bool.true_and, Bool.and_false, Bool.false_and, Bool.or_false, Bool.false_or, Bool.not_true, Bool.not_false, Bool.or_self, Bool.and_self, Bool.not_not, if_true, if_false, and_self, true_and, and_true, and_false, false_and, or_true, true_or, or_false, false_or, not_true_eq_false, not_false_eq_true, decide_true, decide_false, eq_self, if_pos, if_neg, iL, iq, au (show ¬ ((k.1.length : Int) = 32) by omega), au (show ¬ ((k.1.length : Int) = 64) by omega)]), if_pos h3]
 ·rw [cond_neg, if_neg h3]
  ·by_cases h4 : k.2.1.length > 126 <;> simp (disch := omega) only [aV, aH, aQ, wrap64, au, aA, dec_not, dec_and, eY, dw, cond_true, cond_false, Option.bind_some, Option.bind_none, Bool.or_true, Bool.true_or, Bool.and_true, Bool.true_and, Bool.and_false, Bool.false_and, Bool.or_false, Bool.false_or, Bool.not_true, Bool.not_false, Bool.or_self, Bool.and_self, Bool.not_not, if_true, if_false, and_self, true_and, and_true, and_false, false_and, or_true, true_or, or_false, false_or, not_true_eq_false, not_false_eq_true, decide_true, decide_false, eq_self, if_pos, if_neg, iL, iq]
  ·by_cases h4 : k.1.length = 32
   ·simp (disch := omega) only [aV, aH, aQ, wrap64, au, aA, dec_not, dec_and, eY, dw, cond_true, cond_false, Option.bind_some, Option.bind_none, Bool.or_true, Bool.true_or, Bool.and_true, Bool.true_and, Bool.and_false, Bool.false_and, Bool.or_false, Bool.false_or, Bool.not_true, Bool.not_false, Bool.or_self, Bool.and_self, Bool.not_not, if_true, if_false, and_self, true_and, and_true, and_false, false_and, or_true, true_or, or_false, false_or, not_true_eq_false, not_false_eq_true, decide_true, decide_false, eq_self, if_pos, if_neg, iL, iq]
   ·simp (disch := omega) only [aV, aH, aQ, wrap64, au, aA, dec_not, dec_and, eY, dw, cond_true, cond_false, Option.bind_some, Option.bind_none, Bool.or_true, Bool.true_or, Bool.and_true, Bool.true_and, Bool.and_false, Bool.false_and, Bool.or_false, Bool.false_or, Bool.not_true, Bool.not_false, Bool.or_self, Bool.and_self, Bool.not_not, if_true, if_false, and_self, true_and, and_true, and_false, false_and, or_true, true_or, or_false, false_or, not_true_eq_false, not_false_eq_true, decide_true, decide_false, eq_self, if_pos, if_neg, iL, iq]
def Gy (xs : List KK) (i : Nat) : Bool :=
 !decide (oN (rd k0 xs i) = 0) || decide ((rd k0 xs i).2.2.1.length > 65536) || !decide ((rd k0 xs i).2.2.2 = txt ((i : Int) + 1) (rd k0 xs i).2.2.1) || (List.range i).any fun j => FK (rd k0 xs j) (rd k0 xs i)
def uG (v : VV) : Bool := bif v.1 then decide (v.2.length <= 2048) && !((List.range v.2.length).any (Gy v.2)) else decide (v.2.length = 0)
theorem Xu (xs : List KK) (i : Nat) (q : KK) (b : Bool) (hi : i <= xs.length) (hy : xs.length < 9223372036854775808) (hok : ∀ k ∈ xs, Rz k) (hq : Rz q) :
  bG.l0 .lim ((i : Int), 0, b, xs, q.1, q.2.1, q.2.2.1, q.2.2.2, ()) = bif (List.range i).any (fun j => FK (rd k0 xs j) q) then some (.inl (false, ())) else some (.inr ((i : Int), b, xs, ())) := by
 have e := r_ (f := bG.l0 .lim) (fun j => ((i : Int), (j : Int), b, xs, q.1, q.2.1, q.2.2.1, q.2.2.2, ())) i (fun j => FK (rd k0 xs j) q) (some (.inl (false, ()))) (fun k hk => by
  rw [bG.q0];have ha := Ry q (rd k0 xs k) hq.2.1 (hok _ (fC (by omega) (by omega))).2.1;rw [UD] at ha;have ha : gY.run .lim ((q.1, q.2.1, q.2.2.1, q.2.2.2), rd k0 xs k, ()) = some (FK (rd k0 xs k) q) := ha;simp (disch := omega) only [aV, aH, aQ, wrap64, au, aA, dec_not, dec_and, eY, dw, cond_true, cond_false, Option.bind_some, Option.bind_none, Bool.or_true, Bool.true_or, Bool.and_true, Bool.true_and, Bool.and_false, Bool.false_and, Bool.or_false, Bool.false_or, Bool.not_true, Bool.not_false, Bool.or_self, Bool.and_self, Bool.not_not, if_true, if_false, and_self, true_and, and_true, and_false, false_and, or_true, true_or, or_false, false_or, not_true_eq_false, not_false_eq_true, decide_true, decide_false, eq_self, if_pos, if_neg, iL, iq, bG.b0, wk k (by omega), ha])
 refine e.trans ?_;rw [bG.q0];simp (disch := omega) only [aV, aH, aQ, wrap64, au, aA, dec_not, dec_and, eY, dw, cond_true, cond_false, Option.bind_some, Option.bind_none, Bool.or_true, Bool.true_or, Bool.and_true, Bool.true_and, Bool.and_false, Bool.false_and, Bool.or_false, Bool.false_or, Bool.not_true, Bool.not_false, Bool.or_self, Bool.and_self, Bool.not_not, if_true, if_false, and_self, true_and, and_true, and_false, false_and, or_true, true_or, or_false, false_or, not_true_eq_false, not_false_eq_true, decide_true, decide_false, eq_self, if_pos, if_neg, iL, iq, bG.b0]
theorem refB (q : KK) : ((!decide ((q.1.length : Int) = 32) && !decide ((q.1.length : Int) = 64)) || decide ((q.2.1.length : Int) > 126)) = !decide (oN q = 0) := by
 unfold oN;by_cases h1 : q.1.length ≠ 32 /\ q.1.length ≠ 64
 ·rw [if_pos h1, aA (show ¬ (q.1.length : Int) = 32 by omega), aA (show ¬ (q.1.length : Int) = 64 by omega)]; rfl
 ·rw [if_neg h1];have : (!decide ((q.1.length : Int) = 32) && !decide ((q.1.length : Int) = 64)) = false := by
   by_cases h2 : q.1.length = 32
   ·rw [au (by omega)]; rfl
   ·rw [au (show (q.1.length : Int) = 64 by omega), Bool.not_true, Bool.and_false]
  rw [this, Bool.false_or];by_cases h3 : q.2.1.length > 126
  ·rw [if_pos h3, au (by omega)]; rfl
  ·rw [if_neg h3, aA (by omega)]; rfl
theorem Xv (v : VV) (h : okV v) : bG.run .lim (v, ()) = some (uG v) := by
 obtain ⟨b, xs⟩ := v;have hx : xs.length < 9223372036854775808 := h.1;unfold uG;simp only [bG.run, aF hx];cases b with
 | false => simp only [cond_true, cond_false, Option.bind_some, Option.bind_none, Bool.or_true, Bool.true_or, Bool.and_true, Bool.true_and, Bool.and_false, Bool.false_and, Bool.or_false, Bool.false_or, Bool.not_true, Bool.not_false, Bool.or_self, Bool.and_self, Bool.not_not]; congr 2; simp
 | true =>
  simp only [cond_true, cond_false, Option.bind_some, Option.bind_none, Bool.or_true, Bool.true_or, Bool.and_true, Bool.true_and, Bool.and_false, Bool.false_and, Bool.or_false, Bool.false_or, Bool.not_true, Bool.not_false, Bool.or_self, Bool.and_self, Bool.not_not];by_cases h1 : xs.length <= 2048
  ·obtain ⟨j, _, e⟩ := LP (f := bG.l1 .lim) (fun k => ((k : Int), true, xs, ())) xs.length (Gy xs) (fun k => bif (!decide (oN (rd k0 xs k) = 0) || decide ((rd k0 xs k).2.2.1.length > 65536) || !decide ((rd k0 xs k).2.2.2 = txt ((k : Int) + 1) (rd k0 xs k).2.2.1)) then some (.inl (false, ())) else some (.inr (.inl (false, ())))) (fun k hk => by
    rw [bG.q1];have w := wk k (by omega);have hk' : Rz (rd k0 xs k) := h.at (v := (true, xs)) hk;have hn := fun hh => UG ((k : Int) + 1) (rd k0 xs k).2.2.1 (by omega) (by omega) hh
    have e2 := Xu xs k (rd k0 xs k) true (by omega) hx h.2 hk';unfold Gy;simp only [bG.b1, aF hx, au (show (k : Int) < (xs.length : Int) by omega), aH (show (0 : Int) <= k by omega) (show (k : Int) < xs.length by omega), aF hk'.1, aF hk'.2.1, aF hk'.2.2.2.1, w, refB];rw [show ((k + 1 : Nat) : Int) = (k : Int) + 1 by omega];simp only [cond_true, cond_false, Option.bind_some, Option.bind_none, Bool.or_true, Bool.true_or, Bool.and_true, Bool.true_and, Bool.and_false, Bool.false_and, Bool.or_false, Bool.false_or, Bool.not_true, Bool.not_false, Bool.or_self, Bool.and_self, Bool.not_not];by_cases c1 : oN (rd k0 xs k) = 0
    ·by_cases c2 : (rd k0 xs k).2.2.1.length > 65536
     ·simp only [au c1, au c2, au (show ((rd k0 xs k).2.2.1.length : Int) > 65536 by omega)];simp only [cond_true, cond_false, Option.bind_some, Option.bind_none, Bool.or_true, Bool.true_or, Bool.and_true, Bool.true_and, Bool.and_false, Bool.false_and, Bool.or_false, Bool.false_or, Bool.not_true, Bool.not_false, Bool.or_self, Bool.and_self, Bool.not_not]
     ·simp only [au c1, aA c2, aA (show ¬ ((rd k0 xs k).2.2.1.length : Int) > 65536 by omega)];simp only [cond_true, cond_false, Option.bind_some, Option.bind_none, Bool.or_true, Bool.true_or, Bool.and_true, Bool.true_and, Bool.and_false, Bool.false_and, Bool.or_false, Bool.false_or, Bool.not_true, Bool.not_false, Bool.or_self, Bool.and_self, Bool.not_not];rw [hn (by omega)];simp only [cond_true, cond_false, Option.bind_some, Option.bind_none, Bool.or_true, Bool.true_or, Bool.and_true, Bool.true_and, Bool.and_false, Bool.false_and, Bool.or_false, Bool.false_or, Bool.not_true, Bool.not_false, Bool.or_self, Bool.and_self, Bool.not_not];by_cases c3 : (rd k0 xs k).2.2.2 = txt ((k : Int) + 1) (rd k0 xs k).2.2.1
      ·simp only [au c3];simp only [cond_true, cond_false, Option.bind_some, Option.bind_none, Bool.or_true, Bool.true_or, Bool.and_true, Bool.true_and, Bool.and_false, Bool.false_and, Bool.or_false, Bool.false_or, Bool.not_true, Bool.not_false, Bool.or_self, Bool.and_self, Bool.not_not];rw [e2];cases (List.range k).any fun j => FK (rd k0 xs j) (rd k0 xs k)
       ·simp only [cond_true, cond_false, Option.bind_some, Option.bind_none, Bool.or_true, Bool.true_or, Bool.and_true, Bool.true_and, Bool.and_false, Bool.false_and, Bool.or_false, Bool.false_or, Bool.not_true, Bool.not_false, Bool.or_self, Bool.and_self, Bool.not_not]; rw [show IntKind.i64.wrap ((k : Int) + 1) = (k : Int) + 1 by rw [w]; omega]
       ·simp only [cond_true, cond_false, Option.bind_some, Option.bind_none, Bool.or_true, Bool.true_or, Bool.and_true, Bool.true_and, Bool.and_false, Bool.false_and, Bool.or_false, Bool.false_or, Bool.not_true, Bool.not_false, Bool.or_self, Bool.and_self, Bool.not_not]
      ·simp only [aA c3];simp only [cond_true, cond_false, Option.bind_some, Option.bind_none, Bool.or_true, Bool.true_or, Bool.and_true, Bool.true_and, Bool.and_false, Bool.false_and, Bool.or_false, Bool.false_or, Bool.not_true, Bool.not_false, Bool.or_self, Bool.and_self, Bool.not_not]
    ·simp only [aA c1];simp only [cond_true, cond_false, Option.bind_some, Option.bind_none, Bool.or_true, Bool.true_or, Bool.and_true, Bool.true_and, Bool.and_false, Bool.false_and, Bool.or_false, Bool.false_or, Bool.not_true, Bool.not_false, Bool.or_self, Bool.and_self, Bool.not_not])
   rw [show ((0 : Nat) : Int) = 0 from rfl] at e;rw [cond_neg (by simp (disch := omega) only [aV, aH, aQ, wrap64, au, aA, dec_not, dec_and, eY, dw, cond_true, cond_false, Option.bind_some, Option.bind_none, Bool.or_true, Bool.true_or, Bool.and_true, Bool.true_and, Bool.and_false, Bool.false_and, Bool.or_false, Bool.false_or, Bool.not_true, Bool.not_false, Bool.or_self, Bool.and_self, Bool.not_not, if_true, if_false, and_self, true_and, and_true, and_false, false_and, or_true, true_or, or_false, false_or, not_true_eq_false, not_false_eq_true, decide_true, decide_false, eq_self, if_pos, if_neg, iL, iq]), e, bG.q1];simp (disch := omega) only [aV, aH, aQ, wrap64, au, aA, dec_not, dec_and, eY, dw, cond_true, cond_false, Option.bind_some, Option.bind_none, Bool.or_true, Bool.true_or, Bool.and_true, Bool.true_and, Bool.and_false, Bool.false_and, Bool.or_false, Bool.false_or, Bool.not_true, Bool.not_false, Bool.or_self, Bool.and_self, Bool.not_not, if_true, if_false, and_self, true_and, and_true, and_false, false_and, or_true, true_or, or_false, false_or, not_true_eq_false, not_false_eq_true, decide_true, decide_false, eq_self, if_pos, if_neg, iL, iq, bG.b1, aF hx];cases (List.range xs.length).any (Gy xs)
   ·rfl
   ·simp only [cond_true, cond_false, Option.bind_some, Option.bind_none, Bool.or_true, Bool.true_or, Bool.and_true, Bool.true_and, Bool.and_false, Bool.false_and, Bool.or_false, Bool.false_or, Bool.not_true, Bool.not_false, Bool.or_self, Bool.and_self, Bool.not_not]; split <;> rfl
  ·rw [cond_pos (by simp (disch := omega) only [aV, aH, aQ, wrap64, au, aA, dec_not, dec_and, eY, dw, cond_true, cond_false, Option.bind_some, Option.bind_none, Bool.or_true, Bool.true_or, Bool.and_true, Bool.true_and, Bool.and_false, Bool.false_and, Bool.or_false, Bool.false_or, Bool.not_true, Bool.not_false, Bool.or_self, Bool.and_self, Bool.not_not, if_true, if_false, and_self, true_and, and_true, and_false, false_and, or_true, true_or, or_false, false_or, not_true_eq_false, not_false_eq_true, decide_true, decide_false, eq_self, if_pos, if_neg, iL, iq]), aA h1];simp only [cond_true, cond_false, Option.bind_some, Option.bind_none, Bool.or_true, Bool.true_or, Bool.and_true, Bool.true_and, Bool.and_false, Bool.false_and, Bool.or_false, Bool.false_or, Bool.not_true, Bool.not_false, Bool.or_self, Bool.and_self, Bool.not_not]
theorem OD (v : VV) (h : okV v) : ∃ r, aN.run .lim (v, ()) = some r := by
 obtain ⟨b, xs⟩ := v;have hx : xs.length < 9223372036854775808 := h.1
 -- the inner loop
 have inner : ∀ (n : Nat) (left : Int) (j : Nat) (i : Int) (q : KK), Rz q -> j + n = q.2.1.length -> -9223372036854775808 <= left -> left < 9223372036854775808 -> ∃ l : Int, -9223372036854775808 <= l /\ l < 9223372036854775808 /\ aN.l0 .lim (left, i, (j : Int), b, xs, q.1, q.2.1, q.2.2.1, q.2.2.2, ()) = some (l, i, b, xs, ()) := by
  intro n
  induction n with
  | zero =>
   intro left j i q hq hj h1 h2;refine ⟨left, h1, h2, ?_⟩;rw [aN.q0];simp (disch := omega) only [aV, aH, aQ, wrap64, au, aA, dec_not, dec_and, eY, dw, cond_true, cond_false, Option.bind_some, Option.bind_none, Bool.or_true, Bool.true_or, Bool.and_true, Bool.true_and, Bool.and_false, Bool.false_and, Bool.or_false, Bool.false_or, Bool.not_true, Bool.not_false, Bool.or_self, Bool.and_self, Bool.not_not, if_true, if_false, and_self, true_and, and_true, and_false, false_and, or_true, true_or, or_false, false_or, not_true_eq_false, not_false_eq_true, decide_true, decide_false, eq_self, if_pos, if_neg, iL, iq, aN.b0, aF hq.2.1]
  | succ n ih =>
   intro left j i q hq hj h1 h2;have hb := @BF (left - ((rd ([] : List Int) q.2.1 (j : Int)).length : Int));have hs := hq.2.2.1 (rd ([] : List Int) q.2.1 (j : Int)) (fC (by omega) (by omega));by_cases hl : left >= 0
   ·obtain ⟨l, l1, l2, e⟩ := ih (IntKind.i64.wrap (left - ((rd ([] : List Int) q.2.1 (j : Int)).length : Int))) (j + 1) i q hq (by omega) hb.1 hb.2;refine ⟨l, l1, l2, ?_⟩;rw [aN.q0, <- e];have hj' := hq.2.1;simp only [aN.b0, aF hq.2.1, wk j (by omega), aF hs, au hl, au (show (j : Int) < (q.2.1.length : Int) by omega), aH (show (0 : Int) <= j by omega) (show (j : Int) < q.2.1.length by omega)];simp only [cond_true, cond_false, Option.bind_some, Option.bind_none, Bool.or_true, Bool.true_or, Bool.and_true, Bool.true_and, Bool.and_false, Bool.false_and, Bool.or_false, Bool.false_or, Bool.not_true, Bool.not_false, Bool.or_self, Bool.and_self, Bool.not_not]
   ·refine ⟨left, h1, h2, ?_⟩;rw [aN.q0];simp (disch := omega) only [aV, aH, aQ, wrap64, au, aA, dec_not, dec_and, eY, dw, cond_true, cond_false, Option.bind_some, Option.bind_none, Bool.or_true, Bool.true_or, Bool.and_true, Bool.true_and, Bool.and_false, Bool.false_and, Bool.or_false, Bool.false_or, Bool.not_true, Bool.not_false, Bool.or_self, Bool.and_self, Bool.not_not, if_true, if_false, and_self, true_and, and_true, and_false, false_and, or_true, true_or, or_false, false_or, not_true_eq_false, not_false_eq_true, decide_true, decide_false, eq_self, if_pos, if_neg, iL, iq, aN.b0, aF hq.2.1]
 have outer : ∀ (n : Nat) (left : Int) (i : Nat), i + n = xs.length -> -9223372036854775808 <= left -> left < 9223372036854775808 -> ∃ l : Int, aN.l1 .lim (left, (i : Int), b, xs, ()) = some (l, b, xs, ()) := by
  intro n
  induction n with
  | zero =>
   intro left i hi h1 h2;refine ⟨left, ?_⟩;rw [aN.q1];simp (disch := omega) only [aV, aH, aQ, wrap64, au, aA, dec_not, dec_and, eY, dw, cond_true, cond_false, Option.bind_some, Option.bind_none, Bool.or_true, Bool.true_or, Bool.and_true, Bool.true_and, Bool.and_false, Bool.false_and, Bool.or_false, Bool.false_or, Bool.not_true, Bool.not_false, Bool.or_self, Bool.and_self, Bool.not_not, if_true, if_false, and_self, true_and, and_true, and_false, false_and, or_true, true_or, or_false, false_or, not_true_eq_false, not_false_eq_true, decide_true, decide_false, eq_self, if_pos, if_neg, iL, iq, aN.b1, aF hx]
  | succ n ih =>
   intro left i hi h1 h2;by_cases hl : left >= 0
   ·have hk : Rz (rd k0 xs i) := h.at (v := (b, xs)) (by show i < xs.length; omega);rw [aN.q1];simp only [aN.b1, aF hx, aF hk.1, aF hk.2.1, aF hk.2.2.2.1, aF hk.2.2.2.2, au hl, au (show (i : Int) < (xs.length : Int) by omega), aH (show (0 : Int) <= i by omega) (show (i : Int) < xs.length by omega)];simp only [cond_true, cond_false, Option.bind_some, Option.bind_none, Bool.or_true, Bool.true_or, Bool.and_true, Bool.true_and, Bool.and_false, Bool.false_and, Bool.or_false, Bool.false_or, Bool.not_true, Bool.not_false, Bool.or_self, Bool.and_self, Bool.not_not];obtain ⟨l, l1, l2, e⟩ := inner _ (IntKind.i64.wrap (IntKind.i64.wrap (IntKind.i64.wrap (IntKind.i64.wrap (IntKind.i64.wrap (left - 10) - ((rd k0 xs i).1.length : Int)) - ((rd k0 xs i).2.2.1.length : Int)) - ((rd k0 xs i).2.2.2.length : Int)) - ((rd k0 xs i).2.1.length : Int))) 0 (i : Int) (rd k0 xs i) hk (Nat.zero_add _) BF.1 BF.2;rw [show ((0 : Nat) : Int) = 0 from rfl] at e;rw [e];obtain ⟨l', e'⟩ := ih l (i + 1) (by omega) l1 l2;refine ⟨l', ?_⟩;rw [<- e'];simp (disch := omega) only [aV, aH, aQ, wrap64, au, aA, dec_not, dec_and, eY, dw, cond_true, cond_false, Option.bind_some, Option.bind_none, Bool.or_true, Bool.true_or, Bool.and_true, Bool.true_and, Bool.and_false, Bool.false_and, Bool.or_false, Bool.false_or, Bool.not_true, Bool.not_false, Bool.or_self, Bool.and_self, Bool.not_not, if_true, if_false, and_self, true_and, and_true, and_false, false_and, or_true, true_or, or_false, false_or, not_true_eq_false, not_false_eq_true, decide_true, decide_false, eq_self, if_pos, if_neg, iL, iq, wk i (by omega)]
   ·refine ⟨left, ?_⟩;rw [aN.q1];simp (disch := omega) only [aV, aH, aQ, wrap64, au, aA, dec_not, dec_and, eY, dw, cond_true, cond_false, Option.bind_some, Option.bind_none, Bool.or_true, Bool.true_or, Bool.and_true, Bool.true_and, Bool.and_false, Bool.false_and, Bool.or_false, Bool.false_or, Bool.not_true, Bool.not_false, Bool.or_self, Bool.and_self, Bool.not_not, if_true, if_false, and_self, true_and, and_true, and_false, false_and, or_true, true_or, or_false, false_or, not_true_eq_false, not_false_eq_true, decide_true, decide_false, eq_self, if_pos, if_neg, iL, iq, aN.b1, aF hx]
 obtain ⟨l, e⟩ := outer xs.length 400000 0 (by omega) (by omega) (by omega);rw [show ((0 : Nat) : Int) = 0 from rfl] at e;refine ⟨decide (l >= 0) && decide ((xs.length : Int) <= 300), ?_⟩;simp only [aN.run, e, aF hx];simp only [cond_true, cond_false, Option.bind_some, Option.bind_none, Bool.or_true, Bool.true_or, Bool.and_true, Bool.true_and, Bool.and_false, Bool.false_and, Bool.or_false, Bool.false_or, Bool.not_true, Bool.not_false, Bool.or_self, Bool.and_self, Bool.not_not, aF hx]
end Go.AM
end
section
namespace Go.AM
def hit (key : List Int) (ad : List (List Int)) (t : List Int) (k : KK) : Bool := decide (k.2.2.2 = t) && decide (k.1 = key) && decide (k.2.1 = ad)
theorem MF {n : Nat} (h : n <= 140737488351232) : n < 9223372036854775808 := by omega
theorem ok_v {v : VV} (h : Ty.ok (.pair .bool (.lst (.pair .str (.pair (.lst .str) (.pair .str .str))))) v) : okV v := by
 obtain ⟨_, h1, h2⟩ := h;refine ⟨MF h1, fun k hk => ?_⟩;obtain ⟨a, ⟨b1, b2⟩, c, d⟩ := h2 k hk;exact ⟨MF a.1, MF b1, fun s hs => MF (b2 s hs).1, MF c.1, MF d.1⟩
end Go.AM
end
section
namespace Go.AM
theorem kH {n : Nat} (h : n < 9223372036854775808) : n < dF := h
def dU (a b : List Int) : List Int := tab a.length fun i => dP .u8 (rd 0 a (i : Int)) (rd 0 b (i : Int))
@[simp] theorem fB (a b : List Int) : (dU a b).length = a.length := jg
theorem UH (a b : List Int) : Bs (dU a b) := Ij fun _ _ => CU _ _
theorem xM {a b : List Int} {k : Nat} (h : k < a.length) : rd 0 (dU a b) (k : Int) = dP .u8 (rd 0 a (k : Int)) (rd 0 b (k : Int)) := mG h
theorem RD {a b : List Int} (h : a.length = b.length) : dU a b = dU b a := by unfold dU; rw [h]; exact jk fun k _ => xor_comm _ _
theorem FP {a b c : List Int} (h : a.length = b.length) : dU (dU a b) c = dU a (dU b c) := by
 show tab (dU a b).length _ = tab a.length _;rw [fB];refine jk fun k hk => ?_
 rw [xM hk, xM (show k < b.length by omega), xor_assoc]
theorem RF {a b : List Int} (h : a.length <= b.length) (ha : Bs a) : dU (dU a b) b = a := by
 refine BD (d := 0) (by simp) fun k hk => ?_
 rw [fB, fB] at hk;rw [xM (by simpa using hk), xM hk, xor_assoc, xor_self, xor_zero (ha _ (fC (by omega) (by omega)))]
theorem pJ {a b : List Int} (h : a.length <= b.length) (hb : b.length < 1000000000000) : gV.run .lim (a, b, ()) = some (dU a b) := by
 have e := iT (f := gV.l0 .lim) (fun k m => (b, (a.length : Int), (k : Int), m, ())) (fun k v => dP .u8 v (rd 0 b (k : Int))) a rfl (fun k hk m' hm hj => by
  rw [gV.q0];simp only [gV.b0, au (show (k : Int) < (a.length : Int) by omega), hm, aH (show (0 : Int) <= k by omega) (show (k : Int) < (a.length : Int) by omega), aH (show (0 : Int) <= k by omega) (show (k : Int) < (b.length : Int) by omega), cond_true, lY k (by omega), hj k (Nat.le_refl _), Int.toNat_natCast])
 simp only [gV.run, aF (show a.length < 9223372036854775808 by omega), cond_true];rw [show (0 : Int) = ((0 : Nat) : Int) from rfl, e, gV.q0];simp only [gV.b0, aA (show ¬ (a.length : Int) < (a.length : Int) by omega), cond_false, Option.bind_some];rfl
theorem mM {a b : List Int} (h : a.length <= b.length) (hb : b.length < 1000000000000) : aX.run .lim (a, b, ()) = some (dU a b) := by
 have e := dA (f := aX.l0 .lim) (fun k => (a, b, (k : Int), mQ a.length k (fun i => dP .u8 (rd 0 a (i : Int)) (rd 0 b (i : Int))), ())) (n := a.length) (fun k hk => by
  rw [aX.q0];simp only [aX.b0, aF (show a.length < 9223372036854775808 by omega), wR, au (show (k : Int) < (a.length : Int) by omega), aH (show (0 : Int) <= k by omega) (show (k : Int) < (a.length : Int) by omega), aH (show (0 : Int) <= k by omega) (show (k : Int) < (b.length : Int) by omega), cond_true, lY k (by omega), Int.toNat_natCast];rw [oD rfl])
 have hb2 : Nat.blt a.length 70368744177664 = true := by rw [Nat.blt_eq]; omega
 rw [nK, show ((0 : Nat) : Int) = 0 from rfl] at e;simp only [aX.run, aF (show a.length < 9223372036854775808 by omega), cond_true, au (show (0 : Int) <= (a.length : Int) by omega), au (Int.le_refl (a.length : Int)), Int.toNat_natCast, hb2, Bool.and_self, e];rw [aX.q0];simp only [aX.b0, aF (show a.length < 9223372036854775808 by omega), aA (show ¬ (a.length : Int) < (a.length : Int) by omega), cond_true, cond_false, Option.bind_some, su];rfl
theorem Yj : ∀ n : Nat, Dl [0] n = List.replicate n 0
 | 0 => rfl
 | n + 1 => by rw [Dl, Yj n]; rfl
theorem qG {n : Nat} (h : n <= 1000000) : iM.run .lim ((n : Int), ()) = some (List.replicate n 0) := by
 have : strings_Repeat.run .lim ([0], (n : Int), ()) = some (List.replicate n 0) := by
  show LK _ = _;unfold LK;rw [cond_pos (by simp; omega), Int.toNat_natCast, Yj]
 simp only [iM.run, this, Option.bind_some]
theorem xO {n : Nat} (h : n <= 1000000) : dD.run .lim ((n : Int), ()) = some (List.replicate n 0) := by
 have hb2 : Nat.blt n 70368744177664 = true := by rw [Nat.blt_eq]; omega
 simp only [dD.run, au (show (0 : Int) <= (n : Int) by omega), au (Int.le_refl (n : Int)), Int.toNat_natCast, hb2, Bool.and_self, cond_true]
def J3 (b : List Int) (i : Nat) : Int := if i = 15 then fA .u8 (rd 0 b 15) 1 else oJ .u8 (fA .u8 (rd 0 b (i : Int)) 1) (jc .u8 (rd 0 b ((i + 1 : Nat) : Int)) 7)
def vC (b : List Int) : List Int := if rd 0 b 0 >= 128 then (tab 16 (J3 b)).set 15 (dP .u8 (fA .u8 (rd 0 b 15) 1) 135) else tab 16 (J3 b)
theorem Yk (b : List Int) (i : Nat) : B8 (J3 b i) := by unfold J3; split <;> first | exact P6 _ _ | exact or_B _ _
theorem lS (b : List Int) : CY (vC b) := by
 unfold vC;split
 ·refine ⟨by simp, fun x hx => ?_⟩;rcases List.mem_or_eq_of_mem_set hx with h | rfl
  ·exact Ij (fun k _ => Yk b k) x h
  ·exact CU _ _
 ·exact ⟨jg, Ij fun k _ => Yk b k⟩
theorem or_zero {a : Int} (h : B8 a) : oJ .u8 a 0 = a := by
 show IntKind.u8.wrap (BitVec.ofInt 8 a ||| BitVec.ofInt 8 0).toNat = a;rw [show BitVec.ofInt 8 0 = 0#8 from rfl, BitVec.or_zero, BitVec.toNat_ofInt, jX];unfold B8 at h;omega
def V4 (b : List Int) (k : Nat) : List Int := tab 16 fun i => if k <= i then J3 b i else rd 0 b (i : Int)
theorem Xw {b : List Int} {k : Nat} (hk : k < 16) : (V4 b (k + 1)).set k (J3 b k) = V4 b k := by
 unfold V4;rw [DF];refine jk fun i _ => ?_
 by_cases h1 : i = k
 ·subst h1; rw [if_pos rfl, if_pos (Nat.le_refl _)]
 ·rw [if_neg h1];by_cases h2 : k <= i
  ·rw [if_pos h2, if_pos (by omega)]
  ·rw [if_neg h2, if_neg (by omega)]
theorem Zq {b : List Int} {k : Nat} (hk : k < 16) : rd 0 (V4 b (k + 1)) (k : Int) = rd 0 b (k : Int) := by unfold V4; rw [mG hk, if_neg (by omega)]
theorem Zr {x : Int} (h : B8 x) : IntKind.u8.wrap (jc .u8 x 7 * 135) = if x >= 128 then 135 else 0 :=
 iO (p := fun x => IntKind.u8.wrap (jc .u8 x 7 * 135) = if x >= 128 then 135 else 0) (by decide +kernel) h
theorem RG {b : List Int} (hb : CY b) : jK.run .lim (b, ()) = some (vC b, 0, ()) := by
 obtain ⟨hl, hB⟩ := hb;have h0 : ∀ (b : List Int), tab 16 (fun i => if 16 <= i then J3 b i else rd 0 b (i : Int)) = tab 16 fun i => rd 0 b (i : Int) := fun b => jk fun i hi => by rw [if_neg (by omega)]
 have e := dA (f := jK.l0 .lim) (fun k => ((15 : Int) - (k : Int), (if k = 0 then 0 else jc .u8 (rd 0 b ((16 - k : Nat) : Int)) 7 : Int), V4 b (16 - k), ())) (n := 16) (fun k hk => by
  rw [jK.q0];have ei : (15 : Int) - (k : Int) = ((15 - k : Nat) : Int) := by omega
  have w1 : IntKind.i64.wrap (((15 - k : Nat) : Int) - 1) = (15 : Int) - ((k + 1 : Nat) : Int) := by rw [wrap64 (by omega) (by omega)]; omega
  have hr := Zq (b := b) (k := 15 - k) (by omega);have hs := Xw (b := b) (k := 15 - k) (by omega);rw [show 15 - k + 1 = 16 - k by omega] at hr hs;have hx : B8 (rd 0 b ((15 - k : Nat) : Int)) := hB _ (fC (by omega) (by omega));have hg : oJ .u8 (fA .u8 (rd 0 b ((15 - k : Nat) : Int)) 1) (if k = 0 then 0 else jc .u8 (rd 0 b ((16 - k : Nat) : Int)) 7) = J3 b (15 - k) := by
   unfold J3;by_cases hk0 : k = 0
   ·subst hk0; rw [if_pos rfl, if_pos (by omega), or_zero (P6 _ _)]; rfl
   ·rw [if_neg hk0, if_neg (by omega), show 15 - k + 1 = 16 - k by omega]
  have hl2 : (V4 b (16 - k)).length = 16 := jg;rw [ei];simp only [jK.b0, au (show ((15 - k : Nat) : Int) >= 0 by omega), hl2, aH (show (0 : Int) <= ((15 - k : Nat) : Int) by omega) (show ((15 - k : Nat) : Int) < ((16 : Nat) : Int) by omega), cond_true, hr, w1, Int.toNat_natCast, hg, hs];rw [if_neg (by omega), show 16 - (k + 1) = 15 - k by omega])
 have hst : V4 b 16 = b := by unfold V4; rw [h0, <- Fq hl]
 have w0 : IntKind.i64.wrap ((b.length : Int) - 1) = 15 := by rw [wrap64 (by omega) (by omega)]; omega
 rw [Nat.sub_zero, hst, if_pos rfl, show (15 : Int) - ((0 : Nat) : Int) = 15 from rfl, if_neg (by omega), Nat.sub_self] at e;have e0 : V4 b 0 = tab 16 (J3 b) := jk fun i _ => by rw [if_pos (Nat.zero_le _)]
 simp only [jK.run, aF (show b.length < 9223372036854775808 by omega), cond_true, au (show (b.length : Int) = 16 by omega), Bool.not_true, cond_false, w0, e, e0];rw [jK.q0];have hx0 : B8 (rd 0 b ((0 : Nat) : Int)) := hB _ (fC (by omega) (by omega));simp only [jK.b0, aA (show ¬ ((15 : Int) - ((16 : Nat) : Int) >= 0) by omega), cond_false, Option.bind_some, jg, aH (show (0 : Int) <= 15 by omega) (show (15 : Int) < ((16 : Nat) : Int) by omega), cond_true, Zr hx0];have h15 : rd 0 (tab 16 (J3 b)) 15 = fA .u8 (rd 0 b 15) 1 := by
  have := mG (n := 16) (g := J3 b) (k := 15) (by omega);rw [show ((15 : Nat) : Int) = 15 from rfl] at this;rw [this]; rfl
 rw [h15];unfold vC;rw [show ((0 : Nat) : Int) = 0 from rfl];by_cases hc : rd 0 b 0 >= 128
 ·rw [if_pos hc, if_pos hc]
 ·rw [if_neg hc, if_neg hc, xor_zero (P6 _ _), DF];congr 2
theorem uH {b : List Int} (hb : CY b) : kP.run .lim (b, ()) = some (vC b) := by simp only [kP.run, RG hb, Option.bind_some]
theorem xP {b : List Int} (hb : CY b) : bJ.run .lim (b, ()) = some (vC b) := by
 obtain ⟨hl, hB⟩ := hb;have e := dA (f := bJ.l0 .lim) (fun k => (b, (k : Int), mQ 16 k (J3 b), ())) (n := 16) (fun k hk => by
  rw [bJ.q0];have hg1 : k < 15 -> oJ .u8 (fA .u8 (rd 0 b (k : Int)) 1) (jc .u8 (rd 0 b ((k + 1 : Nat) : Int)) 7) = J3 b k := fun h => by unfold J3; rw [if_neg (by omega)]
  simp only [bJ.b0, au (show (k : Int) < 16 by omega), hl, wR, List.length_set, aH (show (0 : Int) <= k by omega) (show (k : Int) < ((16 : Nat) : Int) by omega), cond_true, lY k (by omega), Int.toNat_natCast];by_cases hk15 : k < 15
  ·rw [au (show (k : Int) < 15 by omega), aH (show (0 : Int) <= ((k + 1 : Nat) : Int) by omega) (show ((k + 1 : Nat) : Int) < ((16 : Nat) : Int) by omega), uo (by simpa using hk), hg1 hk15, List.set_set, oD rfl];rfl
  ·have : k = 15 := by omega
   subst this;rw [aA (show ¬ ((15 : Nat) : Int) < 15 by omega), oD (by unfold J3; rw [if_pos rfl]; rfl)];rfl)
 rw [nK, show ((0 : Nat) : Int) = 0 from rfl] at e;simp only [bJ.run, show Nat.blt 16 70368744177664 = true from rfl, cond_true, e];rw [bJ.q0];have h15 : rd 0 (tab 16 (J3 b)) 15 = fA .u8 (rd 0 b 15) 1 := by
  have := mG (n := 16) (g := J3 b) (k := 15) (by omega);rw [show ((15 : Nat) : Int) = 15 from rfl] at this;rw [this]; rfl
 simp only [bJ.b0, aA (show ¬ ((16 : Nat) : Int) < 16 by omega), cond_false, Option.bind_some, hl, aH (show (0 : Int) <= 0 by omega) (show (0 : Int) < ((16 : Nat) : Int) by omega), cond_true, su, jg, aH (show (0 : Int) <= 15 by omega) (show (15 : Int) < ((16 : Nat) : Int) by omega), h15];unfold vC;by_cases hc : rd 0 b 0 >= 128
 ·rw [au hc, if_pos hc]; rfl
 ·rw [aA hc, if_neg hc]; rfl
def uI (s : List Int) : List Int := s ++ (128 :: List.replicate (15 - s.length) 0)
theorem mO {s : List Int} (h : s.length < 16) : (uI s).length = 16 := by simp [uI]; omega
noncomputable def oV (key s : List Int) : Nat -> List Int
 | 0 => CW
 | k + 1 => encS key (dU (oV key s k) ((s.drop (16 * k)).take 16))
theorem JH (key s : List Int) : ∀ k, CY (oV key s k)
 | 0 => ⟨rfl, fun x hx => by rw [(List.mem_replicate.1 hx).2]; exact ⟨by decide, by decide⟩⟩
 | _ + 1 => pG _ _
noncomputable def xk (key : List Int) : List Int := vC (encS key CW)
noncomputable def gG (key s : List Int) : List Int := if s.length = 16 then dU s (xk key) else dU (uI s) (vC (xk key))
noncomputable def uY (key s : List Int) : List Int := encS key (dU (oV key s ((s.length - 1) / 16)) (gG key (s.drop (16 * ((s.length - 1) / 16)))))
theorem zh (key s : List Int) : CY (uY key s) := pG _ _
theorem xQ {key b : List Int} (hk : key.length = 16 \/ key.length = 32) (hb : b.length = 16) : encR key b = (encS key b, 0) := by unfold encR; rw [if_pos hk, if_pos hb]
theorem RH {key s : List Int} (h : s.length <= 16) : (gG key s).length = 16 := by
 unfold gG;split
 ·simpa
 ·rw [fB, mO (by omega)]
section
variable {key s : List Int}
theorem Au (hk : key.length = 16 \/ key.length = 32) (hkb : Bs key) (hs : s.length < dF) : dQ.run .lim ((key, xk key, vC (xk key)), s, ()) = some (uY key s) := by
 have z := qG (n := 16) (by omega);have hloop := dA (f := dQ.l0 .lim) (fun k => (s.drop (16 * k), key, xk key, vC (xk key), oV key s k, key, xk key, vC (xk key), ())) (n := (s.length - 1) / 16) (fun k hk' => by
  rw [dQ.q0];have hl : (s.drop (16 * k)).length = s.length - 16 * k := List.length_drop;have hc := JH key s k;have h1 : cut (s.drop (16 * k)) 0 16 = (s.drop (16 * k)).take 16 := by have := mV (s.drop (16 * k)) 0 16; simpa using this
  have h2 : cut (s.drop (16 * k)) 16 ((s.drop (16 * k)).length : Int) = s.drop (16 * (k + 1)) := by
   have := mV (s.drop (16 * k)) 16 (s.drop (16 * k)).length;rw [show ((16 : Nat) : Int) = 16 from rfl] at this;rw [this, List.drop_drop, List.take_of_length_le (by rw [List.length_drop]; omega)];congr 1
  have hx := pJ (a := oV key s k) (b := (s.drop (16 * k)).take 16) (by rw [hc.1, List.length_take]; omega) (by rw [List.length_take]; omega);have he := w_ (key := key) (b := dU (oV key s k) ((s.drop (16 * k)).take 16)) (kH (by omega)) (by rw [fB, hc.1]; decide) hkb;rw [xQ hk (by rw [fB, hc.1])] at he;have hlim : s.length < 9223372036854775808 := hs;simp only [dQ.b0, aF (show (s.drop (16 * k)).length < 9223372036854775808 by omega), au (show ((s.drop (16 * k)).length : Int) > 16 by omega), aQ (show (0 : Int) <= 0 by omega) (show (0 : Int) <= 16 by omega) (show (16 : Int) <= ((s.drop (16 * k)).length : Int) by omega), aQ (show (0 : Int) <= 16 by omega) (show (16 : Int) <= ((s.drop (16 * k)).length : Int) by omega) (Int.le_refl _), cond_true, h1, h2, hx, he, Option.bind_some];rfl)
 simp only [dQ.run];rw [show (16 : Int) = ((16 : Nat) : Int) from rfl, z];simp only [Option.bind_some];rw [Nat.mul_zero, List.drop_zero, show oV key s 0 = CW from rfl] at hloop;rw [hloop];generalize hq : (s.length - 1) / 16 = q;have hl : (s.drop (16 * q)).length = s.length - 16 * q := List.length_drop;have hlim : s.length < 9223372036854775808 := hs;rw [dQ.q0];have hc := JH key s q;have h16 : (s.drop (16 * q)).length <= 16 := by omega
 simp only [dQ.b0, aF (show (s.drop (16 * q)).length < 9223372036854775808 by omega), aA (show ¬ ((s.drop (16 * q)).length : Int) > 16 by omega), cond_true, cond_false, Option.bind_some];have he := w_ (key := key) (b := dU (oV key s q) (gG key (s.drop (16 * q)))) (kH (by omega)) (by rw [fB, hc.1]; decide) hkb;rw [xQ hk (by rw [fB, hc.1])] at he;have hll := RH (key := key) h16;have hx2 := pJ (a := oV key s q) (b := gG key (s.drop (16 * q))) (by rw [hc.1, hll]; omega) (by omega);have hcm : uY key s = encS key (dU (oV key s q) (gG key (s.drop (16 * q)))) := by unfold uY; rw [hq]
 rw [hcm];generalize hm : s.drop (16 * q) = m at *;by_cases h3 : m.length = 16
 ·rw [au (show (m.length : Int) = ((16 : Nat) : Int) by omega)];have hx1 := pJ (a := m) (b := xk key) (by rw [h3, show (xk key).length = 16 from (lS _).1]; omega) (by rw [show (xk key).length = 16 from (lS _).1]; omega);have hls : gG key m = dU m (xk key) := by unfold gG; rw [if_pos h3]
  rw [hls] at hx2 he ⊢
  simp only [cond_true, hx1, Option.bind_some, hx2, he]
 ·rw [aA (show ¬ (m.length : Int) = ((16 : Nat) : Int) by omega)];have hls : gG key m = dU (uI m) (vC (xk key)) := by unfold gG; rw [if_neg h3]
  have w15 : IntKind.i64.wrap (15 - (m.length : Int)) = ((15 - m.length : Nat) : Int) := by rw [wrap64 (by omega) (by omega)]; omega
  have hz := qG (n := 15 - m.length) (by omega);have Zt : (m ++ [128]) ++ List.replicate (15 - m.length) (0 : Int) = uI m := by unfold uI; simp
  have hx1 := pJ (a := uI m) (b := vC (xk key)) (by rw [mO (by omega), (lS _).1]; omega) (by rw [(lS _).1]; omega);rw [hls] at hx2 he ⊢
  simp only [cond_false];rw [cond_pos (au (by unfold maxStr; simp; omega)), w15, hz];simp only [Option.bind_some];rw [cond_pos (au (by unfold maxStr; simp; omega)), Zt, hx1];simp only [Option.bind_some, hx2, he]
theorem Iu {m : List Int} (h : m.length < 16) : fK.run .lim (m, ()) = some (uI m) := by
 have hz := xO (n := 16) (by omega);simp only [fK.run];rw [cond_pos (au (by unfold maxStr; simp; omega)), show (16 : Int) = ((16 : Nat) : Int) from rfl, hz];simp only [Option.bind_some];rw [cond_pos (au (by unfold maxStr; simp; omega)), cond_pos (aQ (by omega) (by omega) (by simp; omega))];congr 1;have := mV ((m ++ [128]) ++ List.replicate 16 (0 : Int)) 0 16;rw [show ((0 : Nat) : Int) = 0 from rfl] at this;rw [this, List.drop_zero, Nat.sub_zero, List.append_assoc, List.take_append, List.take_of_length_le (by omega)];unfold uI;congr 1;obtain ⟨p, hp⟩ : ∃ p, 16 - m.length = p + 1 := ⟨15 - m.length, by omega⟩;rw [hp, show 15 - m.length = p by omega, List.singleton_append, List.take_succ_cons, List.take_replicate];congr 2;omega
theorem xq (hk : key.length = 16 \/ key.length = 32) (hkb : Bs key) (hs : s.length < dF) : bT.run .lim (key, s, ()) = some (uY key s) := by
 have z := xO (n := 16) (by omega);have UJ : (List.replicate 16 (0 : Int)).length = 16 := rfl;have e0 := uz (key := key) (b := CW) (kH (by omega)) (by rw [UJ]; decide) hkb;rw [xQ hk UJ] at e0;have hloop := dA (f := bT.l0 .lim) (fun k => (key, s.drop (16 * k), xk key, oV key s k, ())) (n := (s.length - 1) / 16) (fun k hk' => by
  rw [bT.q0];have hl : (s.drop (16 * k)).length = s.length - 16 * k := List.length_drop;have hc := JH key s k;have h1 : cut (s.drop (16 * k)) 0 16 = (s.drop (16 * k)).take 16 := by have := mV (s.drop (16 * k)) 0 16; simpa using this
  have h2 : cut (s.drop (16 * k)) 16 ((s.drop (16 * k)).length : Int) = s.drop (16 * (k + 1)) := by
   have := mV (s.drop (16 * k)) 16 (s.drop (16 * k)).length;rw [show ((16 : Nat) : Int) = 16 from rfl] at this;rw [this, List.drop_drop, List.take_of_length_le (by rw [List.length_drop]; omega)];congr 1
  have hx := mM (a := oV key s k) (b := (s.drop (16 * k)).take 16) (by rw [hc.1, List.length_take]; omega) (by rw [List.length_take]; omega);have he := uz (key := key) (b := dU (oV key s k) ((s.drop (16 * k)).take 16)) (kH (by omega)) (by rw [fB, hc.1]; decide) hkb;rw [xQ hk (by rw [fB, hc.1])] at he;have hlim : s.length < 9223372036854775808 := hs;simp only [bT.b0, aF (show (s.drop (16 * k)).length < 9223372036854775808 by omega), au (show ((s.drop (16 * k)).length : Int) > 16 by omega), aQ (show (0 : Int) <= 0 by omega) (show (0 : Int) <= 16 by omega) (show (16 : Int) <= ((s.drop (16 * k)).length : Int) by omega), aQ (show (0 : Int) <= 16 by omega) (show (16 : Int) <= ((s.drop (16 * k)).length : Int) by omega) (Int.le_refl _), cond_true, h1, h2, hx, he, Option.bind_some];rfl)
 simp only [bT.run];rw [show (16 : Int) = ((16 : Nat) : Int) from rfl, z];simp only [Option.bind_some, e0, xP (pG _ _)];rw [Nat.mul_zero, List.drop_zero, show oV key s 0 = CW from rfl] at hloop;rw [show vC (encS key CW) = xk key from rfl, hloop];generalize hq : (s.length - 1) / 16 = q;have hl : (s.drop (16 * q)).length = s.length - 16 * q := List.length_drop;have hlim : s.length < 9223372036854775808 := hs;rw [bT.q0];have hc := JH key s q;have h16 : (s.drop (16 * q)).length <= 16 := by omega
 have he := uz (key := key) (b := dU (oV key s q) (gG key (s.drop (16 * q)))) (kH (by omega)) (by rw [fB, hc.1]; decide) hkb;rw [xQ hk (by rw [fB, hc.1])] at he;have hcm : uY key s = encS key (dU (oV key s q) (gG key (s.drop (16 * q)))) := by unfold uY; rw [hq]
 rw [hcm];simp only [bT.b0, aF (show (s.drop (16 * q)).length < 9223372036854775808 by omega), aA (show ¬ ((s.drop (16 * q)).length : Int) > 16 by omega), cond_true, cond_false, Option.bind_some];generalize hm : s.drop (16 * q) = m at *;have hk1 : (xk key).length = 16 := (lS _).1;by_cases h3 : m.length = 16
 ·rw [aA (show ¬ (m.length : Int) < ((16 : Nat) : Int) by omega)];have hx1 := mM (a := oV key s q) (b := m) (by rw [h3, hc.1]; omega) (by omega);have hx2 := mM (a := dU (oV key s q) m) (b := xk key) (by rw [fB, hc.1, hk1]; omega) (by omega);have hls : dU (dU (oV key s q) m) (xk key) = dU (oV key s q) (gG key m) := by unfold gG; rw [if_pos h3, FP (by rw [hc.1, h3])]
  simp only [cond_false, hx1, Option.bind_some, hx2, hls, he]
 ·rw [au (show (m.length : Int) < ((16 : Nat) : Int) by omega)];have hp := mO (s := m) (by omega);have ht : (vC (xk key)).length = 16 := (lS _).1;have hx1 := mM (a := oV key s q) (b := uI m) (by rw [hp, hc.1]; omega) (by omega);have hx2 := mM (a := dU (oV key s q) (uI m)) (b := vC (xk key)) (by rw [fB, hc.1, ht]; omega) (by omega);have hls : dU (dU (oV key s q) (uI m)) (vC (xk key)) = dU (oV key s q) (gG key m) := by unfold gG; rw [if_neg h3, FP (by rw [hc.1, hp])]
  simp only [cond_true, Iu (show m.length < 16 by omega), xP (show CY (xk key) from lS _), hx1, Option.bind_some, hx2, hls, he]
end
end Go.AM
end
