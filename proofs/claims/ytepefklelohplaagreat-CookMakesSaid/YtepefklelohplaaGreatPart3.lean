import Derived.Test.YtepefklelohplaaGreatPart2

/-! The functions that the laws of this seat reach, as plain functions, and what these answer; no condition. -/
set_option linter.unusedSimpArgs false
set_option linter.unusedVariables false

section
namespace Go.AM
open Go.Proofs
set_option maxRecDepth 100000
set_option linter.unusedVariables false
noncomputable section
/-! ### pendulum/pendulumref10.Seal -/
namespace pendulumref10_Seal
def inl : FuncId → Bool := fun f => [].any (Nat.beq f)
def O (m_ : Mode) : Ora := (oras [pendulumref10_refused.c m_, pendulumref10_streamed.c m_, pendulumref10_tag.c m_])
theorem Ok (m_ : Mode) {S0 w0} : OraOK P S0 w0 (O m_) := (oras_ok (ac (pendulumref10_refused.ok m_) (ac (pendulumref10_streamed.ok m_) (ac (pendulumref10_tag.ok m_) (an)))))
def run (m_ : Mode) : (List Int) × (List (List Int)) × (List Int) × Unit → Option ((List Int) × Int × Unit) := fun v_ => match v_ with
| (key, ad, plain, ()) =>
 (pendulumref10_refused.run m_ (key, ad, ())).bind fun r =>
 bif !(decide (r = 0)) then
  some (([] : List Int), r, ())
 else
  bif smallI (plain.length : Int) then
  bif decide ((plain.length : Int) > 65536) then
   some (([] : List Int), 12, ())
  else
   bif smallI (key.length : Int) then
   bif cutB 0 (IntKind.i64.wrap ((key.length : Int).tdiv 2)) (key.length : Int) then
   (pendulumref10_tag.run m_ ((cut key 0 (IntKind.i64.wrap ((key.length : Int).tdiv 2))), ad, plain, ())).bind fun r1 =>
   bif cutB (IntKind.i64.wrap ((key.length : Int).tdiv 2)) (key.length : Int) (key.length : Int) then
   (pendulumref10_streamed.run m_ ((cut key (IntKind.i64.wrap ((key.length : Int).tdiv 2)) (key.length : Int)), r1, plain, ())).bind fun r2 =>
   bif decide (r1.length + r2.length ≤ maxStr) then
   some ((r1 ++ r2), 0, ()) else none else none else none else none else none
def c (m_ : Mode) : Callee := ⟨50, [.one .str, .one (.lst .str), .one .str], .tup [.sh (.one .str), .sh (.one (.int .i64))], run m_⟩
theorem k (m_ : Mode) : KR P (O m_) inl [] (c m_) := by
  intro v_; kernel_rfl
theorem ok (m_ : Mode) : (c m_).OK P := KR.ok (fun S0 w0 => (Ok m_)) (by kernel_rfl) (by rfl) (fun S0 w0 cs0 => an) (k m_)
end pendulumref10_Seal

/-! ### pendulum/pendulumref22.Seal -/
namespace pendulumref22_Seal
def inl : FuncId → Bool := fun f => [].any (Nat.beq f)
def O (m_ : Mode) : Ora := (oras [pendulumref22_alike.c m_, pendulumref22_text.c m_, pendulumref22_refused.c m_, pendulumref10_Seal.c m_])
theorem Ok (m_ : Mode) {S0 w0} : OraOK P S0 w0 (O m_) := (oras_ok (ac (pendulumref22_alike.ok m_) (ac (pendulumref22_text.ok m_) (ac (pendulumref22_refused.ok m_) (ac (pendulumref10_Seal.ok m_) (an))))))
def p0 : Path := [.r, .r, .r, .r, .r, .r, .l, .r, .l, .l]
def p1 : Path := [.r, .r, .r, .r, .r, .r, .r]
def o2 : OSpec := .c [.b, .dat (.lst (.pair .str (.pair (.lst .str) (.pair .str .str))))]
def o3 : OSpec := .c [.s, .own 3 .str, .s, .s]
def e0 : Spec := ⟨[⟨40, [.c p0, .p p0, .b 0, .c p1], [(3, .s), (4, .ptr 0 0), (8, .ptr 1 0), (14, .ptr 2 0), (15, .w)], none, [], false⟩], [(0, o2), (1, .c [.b, .nilS]), (2, o3), (3, .c [.row .str])], 4⟩
def x0 : List Spec := [⟨[⟨40, [.c [.r, .r, .r, .r, .r, .r, .l, .r, .l, .l, .r, .l, .l, .r, .l, .r], .b 1, .c [.r, .r, .r, .r, .r, .r, .l, .r, .l, .l, .r, .r], .p p0, .b 0, .c p1], [(8, .ptr 0 0), (9, .s), (10, .w)], none, [], false⟩], [(0, o2)], 1⟩, ⟨[⟨40, [.c p1], [(3, .s), (4, .ptr 0 0), (8, .ptr 1 0), (14, .ptr 2 0)], none, [], false⟩], [(0, o2), (1, .c [.b, .nilS]), (2, o3), (3, .c [.row .str])], 4⟩]
abbrev A0 : Type := LI × Int × Bool × (List (List Int × (List LI × (List Int × List Int)))) × Bool × LI × LI × LI × LL × Unit
abbrev B0 : Type := (LI × Int × Bool × (List (List Int × (List LI × (List Int × List Int)))) × Unit) ⊕ (LI × Bool × (List (List Int × (List LI × (List Int × List Int)))) × Bool × LI × LI × LI × LL × Unit)
def b0 (m_ : Mode) (self : A0 → Option B0) : A0 → Option B0 := fun v_ => match v_ with
| (plain, i, m, m1, m2, m3, m4, m5, m6, ()) =>
 bif smallI (m1.length : Int) then
 bif decide (i < (m1.length : Int)) then
  bif inB i (m1.length : Int) then
  (pendulumref22_alike.run m_ ((m3, (m6, (m4, m5))), (rd dz1 m1 i), ())).bind fun r =>
  bif r then
   bif inB i (m1.length : Int) then
   some (.inl ((((rd dz1 m1 i).2).2).2, 0, m, m1, ())) else none
  else
   self (plain, (IntKind.i64.wrap (i + 1)), m, m1, m2, m3, m4, m5, m6, ()) else none
 else
  some (.inr (plain, m, m1, m2, m3, m4, m5, m6, ())) else none
theorem k0 (m_ : Mode) : KS P (O m_) inl e0 x0 [] (b0 m_) := by
  intro self v_; kernel_rfl
def l0 (m_ : Mode) : A0 → Option B0 := loop m_ (b0 m_)
theorem q0 (v) : l0 .lim v = b0 .lim (l0 .lim) v := KS.q (k0 .lim) v
def g0 (m_ : Mode) : Seg := ⟨e0, x0, l0 m_⟩
theorem s0 (m_ : Mode) (S0 w0 cs0) : SegGood P S0 w0 cs0 40 (g0 m_) := seg_ok m_ (Ok m_) (an) (by rfl) (by rfl) (k0 m_)
def run (m_ : Mode) : DT0 × (List Int) × (List (List Int)) × (List Int) × Unit → Option (DT0 × (List Int) × Int × Unit) := fun v_ => match v_ with
| (v, key, ad, plain, ()) =>
 bif !v.1 then
  (pendulumref10_Seal.run m_ (key, ad, plain, ())).bind fun (r, r1, ()) =>
  some (v, r, r1, ())
 else
  bif smallI (plain.length : Int) then
  (pendulumref22_refused.run m_ (key, ad, (plain.length : Int), ())).bind fun r2 =>
  bif !(decide (r2 = 0)) then
   some (v, ([] : List Int), r2, ())
  else
   bif decide (ad.length < 4398046511104) then
   (pendulumref22_Seal.l0 m_ (plain, 0, v.1, v.2, false, key, plain, ([] : List Int), ad, ())).bind fun g_ => match g_ with
   | .inl (t, t1, m, m1, ()) =>
    some ((m, m1), t, t1, ())
   | .inr (plain1, m2, m3, m4, m5, m6, m7, m8, ()) =>
    bif smallI (m3.length : Int) then
    bif decide ((m3.length : Int) ≥ 2048) then
     some ((m2, m3), ([] : List Int), 18, ())
    else
     bif smallI (m3.length : Int) then
     (pendulumref22_text.run m_ ((IntKind.i64.wrap ((m3.length : Int) + 1)), plain1, ())).bind fun r3 =>
     bif decide (m3.length < 977343669134) then
     bif decide (m3.length + ([(m5, (m8, (m6, r3)))] : List DT1).length < 977343669134) then
     some ((m2, (m3 ++ ([(m5, (m8, (m6, r3)))] : List DT1))), r3, 0, ()) else none else none else none else none else none else none
def c (m_ : Mode) : Callee := ⟨40, [.ag (.pair .bool (.lst (.pair .str (.pair (.lst .str) (.pair .str .str))))), .one .str, .one (.lst .str), .one .str], .tup [.sh (.ag (.pair .bool (.lst (.pair .str (.pair (.lst .str) (.pair .str .str)))))), .sh (.one .str), .sh (.one (.int .i64))], run m_⟩
theorem k (m_ : Mode) : KR P (O m_) inl [g0 m_] (c m_) := by
  intro v_; kernel_rfl
theorem ok (m_ : Mode) : (c m_).OK P := KR.ok (fun S0 w0 => (Ok m_)) (by kernel_rfl) (by rfl) (fun S0 w0 cs0 => ac (s0 m_ S0 w0 cs0) (an)) (k m_)
end pendulumref22_Seal

/-! ### pendulum/pendulumref25.Make -/
namespace pendulumref25_Make
def inl : FuncId → Bool := fun f => [].any (Nat.beq f)
def O (m_ : Mode) : Ora := (oras [pendulumref25_Fit.c m_, pendulumref25_plain.c m_, pendulumref25_number.c m_, pendulumref22_Seal.c m_])
theorem Ok (m_ : Mode) {S0 w0} : OraOK P S0 w0 (O m_) := (oras_ok (ac (pendulumref25_Fit.ok m_) (ac (pendulumref25_plain.ok m_) (ac (pendulumref25_number.ok m_) (ac (pendulumref22_Seal.ok m_) (an))))))
def run (m_ : Mode) : DT0 × DT3 × (Int × (List Int × List Int)) × (List Int) × Unit → Option (DT0 × (List Int) × Int × Unit) := fun v_ => match v_ with
| (v, r, k, nonce, ()) =>
 (pendulumref25_Fit.run m_ (k, ())).bind fun r1 =>
 bif !r1 then
  some (v, ([] : List Int), 13, ())
 else
  bif smallI (nonce.length : Int) then
  bif !(decide ((nonce.length : Int) = 16)) then
   some (v, ([] : List Int), 10, ())
  else
   bif smallI (r.1.length : Int) then
   bif inB (IntKind.i64.wrap ((r.1.length : Int) - 1)) (r.1.length : Int) then
   (pendulumref25_number.run m_ ((rd ((0 : Int), (([] : List Int), (0 : Int))) r.1 (IntKind.i64.wrap ((r.1.length : Int) - 1))).1, ())).bind fun r2 =>
   (pendulumref25_plain.run m_ (k, ())).bind fun r3 =>
   (pendulumref22_Seal.run m_ (v, ((rd ((0 : Int), (([] : List Int), (0 : Int))) r.1 (IntKind.i64.wrap ((r.1.length : Int) - 1))).2).1, ([r2, nonce] : List (List Int)), r3, ())).bind fun (r4, r5, r6, ()) =>
   bif !(decide (r6 = 0)) then
    some (v, ([] : List Int), r6, ())
   else
    bif decide (r2.length + nonce.length ≤ maxStr) then
    bif decide ((r2 ++ nonce).length + r5.length ≤ maxStr) then
    some (r4, ((r2 ++ nonce) ++ r5), 0, ()) else none else none else none else none else none
def c (m_ : Mode) : Callee := ⟨17, [.ag (.pair .bool (.lst (.pair .str (.pair (.lst .str) (.pair .str .str))))), .ag (.pair (.lst (.pair (.int .u32) (.pair .str (.int .i64)))) (.int .u32)), .ag (.pair (.int .i64) (.pair .str .str)), .one .str], .tup [.sh (.ag (.pair .bool (.lst (.pair .str (.pair (.lst .str) (.pair .str .str)))))), .sh (.one .str), .sh (.one (.int .i64))], run m_⟩
theorem k (m_ : Mode) : KR P (O m_) inl [] (c m_) := by
  intro v_; kernel_rfl
theorem ok (m_ : Mode) : (c m_).OK P := KR.ok (fun S0 w0 => (Ok m_)) (by kernel_rfl) (by rfl) (fun S0 w0 cs0 => an) (k m_)
end pendulumref25_Make

/-! ### pendulum/cook.Jar -/
namespace cook_Jar
def inl : FuncId → Bool := fun f => [33, 34, 41].any (Nat.beq f)
def O (m_ : Mode) : Ora := (oras [cook_Fit.c m_, cook_plain.c m_, ideal_Seal.c m_])
theorem Ok (m_ : Mode) {S0 w0} : OraOK P S0 w0 (O m_) := (oras_ok (ac (cook_Fit.ok m_) (ac (cook_plain.ok m_) (ac (ideal_Seal.ok m_) (an)))))
def p0 : Path := [.r, .r, .r, .r, .l, .r, .l]
def o1 : OSpec := .c [.b, .dat (.lst (.pair .str (.pair (.lst .str) (.pair .str .str))))]
def o2 : OSpec := .c [.b, .dat (.lst (.pair .str (.pair (.lst .str) (.pair .str .str)))), .dat (.int .u32), .s, .w, .w, .s, .s, .w]
def f3 : FSpec := ⟨18, [.inRange 4, .b 0, .c [.r, .r, .r, .r, .r]], [(4, .ptr 0 0), (8, .ptr 1 0), (11, .ptr 2 0), (12, .ptr 3 0)], none, [.mark 5], false⟩
def e0 : Spec := ⟨[⟨51, [.c [.r, .l, .l], .p [.r, .l, .l], .b 0], [(0, .fn (.yield 0) []), (2, .ptr 1 0), (7, .t), (8, .w), (9, .w)], none, [], false⟩, ⟨18, [.inRange 0, .b 0, .c [.r, .r, .r, .r, .r]], [(4, .ptr 2 0), (8, .ptr 3 0), (11, .ptr 4 0), (12, .ptr 5 0)], none, [.mark 6], false⟩], [(0, .loop .ready none 18 [(12, .ptr 5 0)] [25] p0 6), (1, .c [.ptr 4 0]), (2, o1), (3, .c [.b, .nilS]), (4, o2), (5, .c [.own 5007 .str]), (6, .deferred false), (5007, .c [.row .str])], 5008⟩
def x0 : List Spec := [⟨[⟨51, [.c [.r, .l, .l, .r, .r, .l, .l, .r, .r, .r, .l], .b 1, .c [.r, .l, .l, .r, .r, .r], .p [.r, .l, .l], .b 0], [], none, [], false⟩, f3], [(0, o1), (1, .c [.b, .nilS]), (2, o2), (3, .c [.own 6 .str]), (4, .loop .ready none 18 [(12, .ptr 3 0)] [25] p0 5), (5, .deferred false), (6, .c [.row .str])], 7⟩, ⟨[⟨51, [], [], none, [], false⟩, f3], [(0, o1), (1, .c [.b, .nilS]), (2, o2), (3, .c [.own 6 .str]), (4, .loop .ready none 18 [(12, .ptr 3 0)] [25] p0 5), (5, .deferred false), (6, .c [.row .str])], 7⟩]
abbrev A0 : Type := LL × Int × Int × Bool × (List (List Int × (List LI × (List Int × List Int)))) × Bool × Bool × (List (List Int × (List LI × (List Int × List Int)))) × Int × LI × Int × Int × LI × LI × Int × LL × Unit
abbrev B0 : Type := (Bool × (List (List Int × (List LI × (List Int × List Int)))) × Bool × Bool × (List (List Int × (List LI × (List Int × List Int)))) × Int × LI × Int × Int × LI × LI × Int × LL × Unit) ⊕ (Bool × (List (List Int × (List LI × (List Int × List Int)))) × Bool × Bool × (List (List Int × (List LI × (List Int × List Int)))) × Int × LI × Int × Int × LI × LI × Int × LL × Unit)
def b0 (m_ : Mode) (self : A0 → Option B0) : A0 → Option B0 := fun v_ => match v_ with
| (t, t1, t2, m, m1, m2, m3, m4, m5, m6, m7, m8, m9, m10, m11, m12, ()) =>
 bif decide (t2 < t1) then
  bif inB t2 (t.length : Int) then
  (cook_Fit.run m_ ((m8, (m9, m10)), ())).bind fun r =>
  bif !r then
   some (.inl (m, m1, m2, m3, m4, m5, m6, m7, m8, m9, m10, 13, m12, ()))
  else
   bif smallI ((rd ([] : List Int) t t2).length : Int) then
   bif !(decide (((rd ([] : List Int) t t2).length : Int) = 16)) then
    some (.inl (m, m1, m2, m3, m4, m5, m6, m7, m8, m9, m10, 10, m12, ()))
   else
    (cook_plain.run m_ ((m8, (m9, m10)), ())).bind fun r1 =>
    (ideal_Seal.run m_ ((m3, m4), m6, ([([(IntKind.u8.wrap (ishr .u32 m5 24)), (IntKind.u8.wrap (ishr .u32 m5 16)), (IntKind.u8.wrap (ishr .u32 m5 8)), (IntKind.u8.wrap m5)] : List Int), (rd ([] : List Int) t t2)] : List (List Int)), r1, ())).bind fun (r2, r3, r4, ()) =>
    bif decide (([(IntKind.u8.wrap (ishr .u32 m5 24)), (IntKind.u8.wrap (ishr .u32 m5 16)), (IntKind.u8.wrap (ishr .u32 m5 8)), (IntKind.u8.wrap m5)] : List Int).length + (rd ([] : List Int) t t2).length ≤ maxStr) then
    bif decide ((([(IntKind.u8.wrap (ishr .u32 m5 24)), (IntKind.u8.wrap (ishr .u32 m5 16)), (IntKind.u8.wrap (ishr .u32 m5 8)), (IntKind.u8.wrap m5)] : List Int) ++ (rd ([] : List Int) t t2)).length + r3.length ≤ maxStr) then
    bif !(!(decide (r4 = 0))) then
     bif decide (m12.length + ([((([(IntKind.u8.wrap (ishr .u32 m5 24)), (IntKind.u8.wrap (ishr .u32 m5 16)), (IntKind.u8.wrap (ishr .u32 m5 8)), (IntKind.u8.wrap m5)] : List Int) ++ (rd ([] : List Int) t t2)) ++ r3)] : List (List Int)).length < 4398046511104) then
     bif ((!(decide (r4 = 0))) || false) then
      some (.inl (m, m1, m2, r2.1, r2.2, m5, m6, m7, m8, m9, m10, r4, (m12 ++ ([((([(IntKind.u8.wrap (ishr .u32 m5 24)), (IntKind.u8.wrap (ishr .u32 m5 16)), (IntKind.u8.wrap (ishr .u32 m5 8)), (IntKind.u8.wrap m5)] : List Int) ++ (rd ([] : List Int) t t2)) ++ r3)] : List (List Int))), ()))
     else
      self (t, t1, (IntKind.i64.wrap (t2 + 1)), m, m1, m2, r2.1, r2.2, m5, m6, m7, m8, m9, m10, r4, (m12 ++ ([((([(IntKind.u8.wrap (ishr .u32 m5 24)), (IntKind.u8.wrap (ishr .u32 m5 16)), (IntKind.u8.wrap (ishr .u32 m5 8)), (IntKind.u8.wrap m5)] : List Int) ++ (rd ([] : List Int) t t2)) ++ r3)] : List (List Int))), ()) else none
    else
     bif ((!(decide (r4 = 0))) || true) then
      some (.inl (m, m1, m2, r2.1, r2.2, m5, m6, m7, m8, m9, m10, r4, m12, ()))
     else
      self (t, t1, (IntKind.i64.wrap (t2 + 1)), m, m1, m2, r2.1, r2.2, m5, m6, m7, m8, m9, m10, r4, m12, ()) else none else none else none else none
 else
  some (.inr (m, m1, m2, m3, m4, m5, m6, m7, m8, m9, m10, m11, m12, ()))
theorem k0 (m_ : Mode) : KS P (O m_) inl e0 x0 [] (b0 m_) := by
  intro self v_; kernel_rfl
def l0 (m_ : Mode) : A0 → Option B0 := loop m_ (b0 m_)
theorem q0 (v) : l0 .lim v = b0 .lim (l0 .lim) v := KS.q (k0 .lim) v
def g0 (m_ : Mode) : Seg := ⟨e0, x0, l0 m_⟩
theorem s0 (m_ : Mode) (S0 w0 cs0) : SegGood P S0 w0 cs0 18 (g0 m_) := seg_ok m_ (Ok m_) (an) (by rfl) (by rfl) (k0 m_)
def run (m_ : Mode) : DT0 × DT3 × (Int × (List Int × List Int)) × (List (List Int)) × Unit → Option (DT0 × (List (List Int)) × Int × Unit) := fun v_ => match v_ with
| (v, r, k, nonces, ()) =>
 bif smallI (nonces.length : Int) then
 bif decide ((nonces.length : Int) > 8) then
  some (v, ([] : List (List Int)), 18, ())
 else
  bif smallI (r.1.length : Int) then
  bif inB (IntKind.i64.wrap ((r.1.length : Int) - 1)) (r.1.length : Int) then
  bif smallI (nonces.length : Int) then
  (cook_Jar.l0 m_ (nonces, (nonces.length : Int), 0, v.1, v.2, false, v.1, v.2, (rd ((0 : Int), (([] : List Int), (0 : Int))) r.1 (IntKind.i64.wrap ((r.1.length : Int) - 1))).1, ((rd ((0 : Int), (([] : List Int), (0 : Int))) r.1 (IntKind.i64.wrap ((r.1.length : Int) - 1))).2).1, ((rd ((0 : Int), (([] : List Int), (0 : Int))) r.1 (IntKind.i64.wrap ((r.1.length : Int) - 1))).2).2, k.1, k.2.1, k.2.2, 0, ([] : List (List Int)), ())).bind fun g_ => match g_ with
  | .inl (m, m1, m2, m3, m4, m5, m6, m7, m8, m9, m10, m11, m12, ()) =>
   bif !(decide (m11 = 0)) then
    some ((m, m1), ([] : List (List Int)), m11, ())
   else
    some ((m3, m4), m12, 0, ())
  | .inr (m13, m14, m15, m16, m17, m18, m19, m20, m21, m22, m23, m24, m25, ()) =>
   bif !(decide (m24 = 0)) then
    some ((m13, m14), ([] : List (List Int)), m24, ())
   else
    some ((m16, m17), m25, 0, ()) else none else none else none else none
def c (m_ : Mode) : Callee := ⟨18, [.ag (.pair .bool (.lst (.pair .str (.pair (.lst .str) (.pair .str .str))))), .ag (.pair (.lst (.pair (.int .u32) (.pair .str (.int .i64)))) (.int .u32)), .ag (.pair (.int .i64) (.pair .str .str)), .one (.lst .str)], .tup [.sh (.ag (.pair .bool (.lst (.pair .str (.pair (.lst .str) (.pair .str .str)))))), .own .str, .sh (.one (.int .i64))], run m_⟩
theorem k (m_ : Mode) : KR P (O m_) inl [g0 m_] (c m_) := by
  intro v_; kernel_rfl
theorem ok (m_ : Mode) : (c m_).OK P := KR.ok (fun S0 w0 => (Ok m_)) (by kernel_rfl) (by rfl) (fun S0 w0 cs0 => ac (s0 m_ S0 w0 cs0) (an)) (k m_)
end cook_Jar

/-! ### pendulum/pendulumref25.Jar -/
namespace pendulumref25_Jar
def inl : FuncId → Bool := fun f => [].any (Nat.beq f)
def O (m_ : Mode) : Ora := (oras [pendulumref25_Make.c m_])
theorem Ok (m_ : Mode) {S0 w0} : OraOK P S0 w0 (O m_) := (oras_ok (ac (pendulumref25_Make.ok m_) (an)))
def p0 : Path := [.r, .r, .r, .r, .l, .r, .l, .l]
def o1 : OSpec := .c [.b, .dat (.lst (.pair .str (.pair (.lst .str) (.pair .str .str))))]
def e0 : Spec := ⟨[⟨19, [.c p0, .p p0, .b 0, .c [.r, .r, .r, .r, .r]], [(3, .t), (4, .ptr 0 0), (5, .ptr 1 0), (6, .ptr 2 0), (8, .ptr 3 0), (11, .ptr 4 0), (12, .own 5008 .str), (13, .w)], none, [], false⟩], [(0, o1), (1, .c [.dat (.lst (.pair (.int .u32) (.pair .str (.int .i64)))), .dat (.int .u32)]), (2, .c [.w, .s, .s]), (3, .c [.b, .nilS]), (4, o1), (5008, .c [.row .str])], 5009⟩
def x0 : List Spec := [⟨[⟨19, [.c [.r, .r, .r, .r, .l, .r, .l, .l, .r, .l, .l, .r, .l, .r, .l, .r], .c [.r, .r, .r, .r, .l, .r, .l, .l, .r, .l, .l, .r, .r], .b 1, .c [.r, .r, .r, .r, .l, .r, .l, .l, .r, .r], .p p0, .b 0, .c [.r, .r, .r, .r, .r]], [(8, .ptr 0 0), (9, .nilS), (10, .w)], none, [], false⟩], [(0, o1)], 1⟩, ⟨[⟨19, [.c [.r, .r, .r, .r, .r]], [(8, .ptr 0 0), (11, .ptr 1 0), (12, .own 2 .str)], none, [], false⟩], [(0, .c [.b, .nilS]), (1, o1), (2, .c [.row .str])], 3⟩]
abbrev A0 : Type := LL × Int × Bool × (List (List Int × (List LI × (List Int × List Int)))) × (List (Int × (List Int × Int))) × Int × Int × LI × LI × Bool × Bool × (List (List Int × (List LI × (List Int × List Int)))) × LL × Unit
abbrev B0 : Type := (Int × Bool × (List (List Int × (List LI × (List Int × List Int)))) × Unit) ⊕ (Bool × Bool × (List (List Int × (List LI × (List Int × List Int)))) × LL × Unit)
def b0 (m_ : Mode) (self : A0 → Option B0) : A0 → Option B0 := fun v_ => match v_ with
| (nonces, i, m, m1, m2, m3, m4, m5, m6, m7, m8, m9, m10, ()) =>
 bif smallI (nonces.length : Int) then
 bif decide (i < (nonces.length : Int)) then
  bif inB i (nonces.length : Int) then
  (pendulumref25_Make.run m_ ((m8, m9), (m2, m3), (m4, (m5, m6)), (rd ([] : List Int) nonces i), ())).bind fun (r, r1, r2, ()) =>
  bif !(decide (r2 = 0)) then
   some (.inl (r2, m, m1, ()))
  else
   bif decide (m10.length + ([r1] : List (List Int)).length < 4398046511104) then
   self (nonces, (IntKind.i64.wrap (i + 1)), m, m1, m2, m3, m4, m5, m6, m7, r.1, r.2, (m10 ++ ([r1] : List (List Int))), ()) else none else none
 else
  some (.inr (m7, m8, m9, m10, ())) else none
theorem k0 (m_ : Mode) : KS P (O m_) inl e0 x0 [] (b0 m_) := by
  intro self v_; kernel_rfl
def l0 (m_ : Mode) : A0 → Option B0 := loop m_ (b0 m_)
theorem q0 (v) : l0 .lim v = b0 .lim (l0 .lim) v := KS.q (k0 .lim) v
def g0 (m_ : Mode) : Seg := ⟨e0, x0, l0 m_⟩
theorem s0 (m_ : Mode) (S0 w0 cs0) : SegGood P S0 w0 cs0 19 (g0 m_) := seg_ok m_ (Ok m_) (an) (by rfl) (by rfl) (k0 m_)
def run (m_ : Mode) : DT0 × DT3 × (Int × (List Int × List Int)) × (List (List Int)) × Unit → Option (DT0 × (List (List Int)) × Int × Unit) := fun v_ => match v_ with
| (v, r, k, nonces, ()) =>
 bif smallI (nonces.length : Int) then
 bif decide ((nonces.length : Int) > 8) then
  some (v, ([] : List (List Int)), 18, ())
 else
  (pendulumref25_Jar.l0 m_ (nonces, 0, v.1, v.2, r.1, r.2, k.1, k.2.1, k.2.2, false, v.1, v.2, ([] : List (List Int)), ())).bind fun g_ => match g_ with
  | .inl (t, m, m1, ()) =>
   some ((m, m1), ([] : List (List Int)), t, ())
  | .inr (m2, m3, m4, m5, ()) =>
   some ((m3, m4), m5, 0, ()) else none
def c (m_ : Mode) : Callee := ⟨19, [.ag (.pair .bool (.lst (.pair .str (.pair (.lst .str) (.pair .str .str))))), .ag (.pair (.lst (.pair (.int .u32) (.pair .str (.int .i64)))) (.int .u32)), .ag (.pair (.int .i64) (.pair .str .str)), .one (.lst .str)], .tup [.sh (.ag (.pair .bool (.lst (.pair .str (.pair (.lst .str) (.pair .str .str)))))), .own .str, .sh (.one (.int .i64))], run m_⟩
theorem k (m_ : Mode) : KR P (O m_) inl [g0 m_] (c m_) := by
  intro v_; kernel_rfl
theorem ok (m_ : Mode) : (c m_).OK P := KR.ok (fun S0 w0 => (Ok m_)) (by kernel_rfl) (by rfl) (fun S0 w0 cs0 => ac (s0 m_ S0 w0 cs0) (an)) (k m_)
end pendulumref25_Jar

/-! ### pendulum/pendulumref25.Size -/
namespace pendulumref25_Size
def inl : FuncId → Bool := fun f => [].any (Nat.beq f)
def O (m_ : Mode) : Ora := (oras [pendulumref19_KeySize.c m_])
theorem Ok (m_ : Mode) {S0 w0} : OraOK P S0 w0 (O m_) := (oras_ok (ac (pendulumref19_KeySize.ok m_) (an)))
def run (m_ : Mode) : Int × Unit → Option (Int) := fun v_ => match v_ with
| (aead, ()) =>
 (pendulumref19_KeySize.run m_ (aead, ())).bind fun r =>
 bif decide (r = 0) then
  some 0
 else
  some (IntKind.i64.wrap (40 + (IntKind.i64.wrap (2 * r))))
def c (m_ : Mode) : Callee := ⟨20, [.one (.int .i64)], .one (.sh (.one (.int .i64))), run m_⟩
theorem k (m_ : Mode) : KR P (O m_) inl [] (c m_) := by
  intro v_; kernel_rfl
theorem ok (m_ : Mode) : (c m_).OK P := KR.ok (fun S0 w0 => (Ok m_)) (by kernel_rfl) (by rfl) (fun S0 w0 cs0 => an) (k m_)
end pendulumref25_Size

/-! ### pendulum/pendulumref25.Texts -/
namespace pendulumref25_Texts
def inl : FuncId → Bool := fun f => [].any (Nat.beq f)
def O (m_ : Mode) : Ora := (oras [])
theorem Ok (m_ : Mode) {S0 w0} : OraOK P S0 w0 (O m_) := (oras_ok (an))
def p0 : Path := [.r, .r, .l, .r, .l, .l]
def e0 : Spec := ⟨[⟨22, [.c p0, .p p0, .b 0, .c [.r, .r, .r]], [(0, .t), (1, .t), (5, .w)], none, [], false⟩], [], 0⟩
def x0 : List Spec := [⟨[⟨22, [.c [.r, .r, .l, .r, .l, .l, .r, .l, .l, .r, .l, .r], .b 1, .c [.r, .r, .l, .r, .l, .l, .r, .r], .p p0, .b 0, .c [.r, .r, .r]], [(4, .b)], none, [], false⟩], [], 0⟩, ⟨[⟨22, [.c [.r, .r, .r]], [], none, [], false⟩], [], 0⟩]
abbrev A0 : Type := LL × LL × Int × Unit
abbrev B0 : Type := (Bool × Unit) ⊕ (Unit)
def b0 (m_ : Mode) (self : A0 → Option B0) : A0 → Option B0 := fun v_ => match v_ with
| (a, b, i, ()) =>
 bif smallI (a.length : Int) then
 bif decide (i < (a.length : Int)) then
  bif inB i (a.length : Int) then
  bif inB i (b.length : Int) then
  bif !(decide ((rd ([] : List Int) a i) = (rd ([] : List Int) b i))) then
   some (.inl (false, ()))
  else
   self (a, b, (IntKind.i64.wrap (i + 1)), ()) else none else none
 else
  some (.inr (())) else none
theorem k0 (m_ : Mode) : KS P (O m_) inl e0 x0 [] (b0 m_) := by
  intro self v_; kernel_rfl
def l0 (m_ : Mode) : A0 → Option B0 := loop m_ (b0 m_)
theorem q0 (v) : l0 .lim v = b0 .lim (l0 .lim) v := KS.q (k0 .lim) v
def g0 (m_ : Mode) : Seg := ⟨e0, x0, l0 m_⟩
theorem s0 (m_ : Mode) (S0 w0 cs0) : SegGood P S0 w0 cs0 22 (g0 m_) := seg_ok m_ (Ok m_) (an) (by rfl) (by rfl) (k0 m_)
def run (m_ : Mode) : (List (List Int)) × (List (List Int)) × Unit → Option (Bool) := fun v_ => match v_ with
| (a, b, ()) =>
 bif smallI (a.length : Int) then
 bif smallI (b.length : Int) then
 bif !(decide ((a.length : Int) = (b.length : Int))) then
  some false
 else
  (pendulumref25_Texts.l0 m_ (a, b, 0, ())).bind fun g_ => match g_ with
  | .inl (t, ()) =>
   some t
  | .inr (()) =>
   some true else none else none
def c (m_ : Mode) : Callee := ⟨22, [.one (.lst .str), .one (.lst .str)], .one (.sh (.one .bool)), run m_⟩
theorem k (m_ : Mode) : KR P (O m_) inl [g0 m_] (c m_) := by
  intro v_; kernel_rfl
theorem ok (m_ : Mode) : (c m_).OK P := KR.ok (fun S0 w0 => (Ok m_)) (by kernel_rfl) (by rfl) (fun S0 w0 cs0 => ac (s0 m_ S0 w0 cs0) (an)) (k m_)
end pendulumref25_Texts

end
end Go.AM
end
section
namespace Go.AM
abbrev KK := List Int × List (List Int) × List Int × List Int
abbrev k0 : KK := ([], [], [], [])
theorem wk (k : Nat) (h : (k : Int) + 1 < 9223372036854775808) : IntKind.i64.wrap ((k : Int) + 1) = ((k + 1 : Nat) : Int) := by
 rw [wrap64 (by omega) (by omega)]; omega
theorem equal_eq (a b : List (List Int)) (ha : a.length < 9223372036854775808) (hb : b.length < 9223372036854775808) : slices_Equal_string_string.run .lim (a, b, ()) = some (decide (a = b)) := by
 simp only [slices_Equal_string_string.run, smallN ha, smallN hb, cond_true]
 by_cases hl : a.length = b.length
 ·have e := loop_any (f := slices_Equal_string_string.l0 .lim) (fun k => (a, b, (a.length : Int), (k : Int), ())) a.length (fun k => !decide (rd ([] : List Int) a k = rd ([] : List Int) b k)) (some (.inl (false, ()))) (fun k hk => by
   rw [slices_Equal_string_string.q0]
   have w := wk k (by omega)
   simp (disch := omega) only [smallI_t, inB_t, cutB_t, wrap64, dec_t, dec_f, dec_not, dec_and, dec_or, cond_ite, cond_true, cond_false, Option.bind_some, Option.bind_none, Bool.or_true, Bool.true_or, Bool.and_true, Bool.true_and, Bool.and_false, Bool.false_and, Bool.or_false, Bool.false_or, Bool.not_true, Bool.not_false, Bool.or_self, Bool.and_self, Bool.not_not, if_true, if_false, and_self, true_and, and_true, and_false, false_and, or_true, true_or, or_false, false_or, not_true_eq_false, not_false_eq_true, decide_true, decide_false, eq_self, if_pos, if_neg, mx_eq, mn_eq, slices_Equal_string_string.b0, w])
  rw [any_ne hl] at e
  rw [cond_neg (by simp (disch := omega) only [smallI_t, inB_t, cutB_t, wrap64, dec_t, dec_f, dec_not, dec_and, dec_or, cond_ite, cond_true, cond_false, Option.bind_some, Option.bind_none, Bool.or_true, Bool.true_or, Bool.and_true, Bool.true_and, Bool.and_false, Bool.false_and, Bool.or_false, Bool.false_or, Bool.not_true, Bool.not_false, Bool.or_self, Bool.and_self, Bool.not_not, if_true, if_false, and_self, true_and, and_true, and_false, false_and, or_true, true_or, or_false, false_or, not_true_eq_false, not_false_eq_true, decide_true, decide_false, eq_self, if_pos, if_neg, mx_eq, mn_eq]), show (0 : Int) = ((0 : Nat) : Int) from rfl, e]
  by_cases h : a = b
  ·simp (disch := omega) only [smallI_t, inB_t, cutB_t, wrap64, dec_t, dec_f, dec_not, dec_and, dec_or, cond_ite, cond_true, cond_false, Option.bind_some, Option.bind_none, Bool.or_true, Bool.true_or, Bool.and_true, Bool.true_and, Bool.and_false, Bool.false_and, Bool.or_false, Bool.false_or, Bool.not_true, Bool.not_false, Bool.or_self, Bool.and_self, Bool.not_not, if_true, if_false, and_self, true_and, and_true, and_false, false_and, or_true, true_or, or_false, false_or, not_true_eq_false, not_false_eq_true, decide_true, decide_false, eq_self, if_pos, if_neg, mx_eq, mn_eq]
   rw [slices_Equal_string_string.q0]
   simp (disch := omega) only [smallI_t, inB_t, cutB_t, wrap64, dec_t, dec_f, dec_not, dec_and, dec_or, cond_ite, cond_true, cond_false, Option.bind_some, Option.bind_none, Bool.or_true, Bool.true_or, Bool.and_true, Bool.true_and, Bool.and_false, Bool.false_and, Bool.or_false, Bool.false_or, Bool.not_true, Bool.not_false, Bool.or_self, Bool.and_self, Bool.not_not, if_true, if_false, and_self, true_and, and_true, and_false, false_and, or_true, true_or, or_false, false_or, not_true_eq_false, not_false_eq_true, decide_true, decide_false, eq_self, if_pos, if_neg, mx_eq, mn_eq, slices_Equal_string_string.b0]
  ·simp (disch := omega) only [smallI_t, inB_t, cutB_t, wrap64, dec_t, dec_f, dec_not, dec_and, dec_or, cond_ite, cond_true, cond_false, Option.bind_some, Option.bind_none, Bool.or_true, Bool.true_or, Bool.and_true, Bool.true_and, Bool.and_false, Bool.false_and, Bool.or_false, Bool.false_or, Bool.not_true, Bool.not_false, Bool.or_self, Bool.and_self, Bool.not_not, if_true, if_false, and_self, true_and, and_true, and_false, false_and, or_true, true_or, or_false, false_or, not_true_eq_false, not_false_eq_true, decide_true, decide_false, eq_self, if_pos, if_neg, mx_eq, mn_eq]
 ·rw [cond_pos (by simp (disch := omega) only [smallI_t, inB_t, cutB_t, wrap64, dec_t, dec_f, dec_not, dec_and, dec_or, cond_ite, cond_true, cond_false, Option.bind_some, Option.bind_none, Bool.or_true, Bool.true_or, Bool.and_true, Bool.true_and, Bool.and_false, Bool.false_and, Bool.or_false, Bool.false_or, Bool.not_true, Bool.not_false, Bool.or_self, Bool.and_self, Bool.not_not, if_true, if_false, and_self, true_and, and_true, and_false, false_and, or_true, true_or, or_false, false_or, not_true_eq_false, not_false_eq_true, decide_true, decide_false, eq_self, if_pos, if_neg, mx_eq, mn_eq]), dec_f (fun q => hl (by rw [q]))]
theorem texts_eq (a b : List (List Int)) (ha : a.length < 9223372036854775808) (hb : b.length < 9223372036854775808) : pendulumref22_texts.run .lim (a, b, ()) = some (decide (a = b)) := by
 simp only [pendulumref22_texts.run, smallN ha, smallN hb, cond_true]
 by_cases hl : a.length = b.length
 ·have e := loop_any (f := pendulumref22_texts.l0 .lim) (fun k => (a, b, (k : Int), ())) a.length (fun k => !decide (rd ([] : List Int) a k = rd ([] : List Int) b k)) (some (.inl (false, ()))) (fun k hk => by
   rw [pendulumref22_texts.q0]
   have w := wk k (by omega)
   simp (disch := omega) only [smallI_t, inB_t, cutB_t, wrap64, dec_t, dec_f, dec_not, dec_and, dec_or, cond_ite, cond_true, cond_false, Option.bind_some, Option.bind_none, Bool.or_true, Bool.true_or, Bool.and_true, Bool.true_and, Bool.and_false, Bool.false_and, Bool.or_false, Bool.false_or, Bool.not_true, Bool.not_false, Bool.or_self, Bool.and_self, Bool.not_not, if_true, if_false, and_self, true_and, and_true, and_false, false_and, or_true, true_or, or_false, false_or, not_true_eq_false, not_false_eq_true, decide_true, decide_false, eq_self, if_pos, if_neg, mx_eq, mn_eq, pendulumref22_texts.b0, w])
  rw [any_ne hl] at e
  rw [cond_neg (by simp (disch := omega) only [smallI_t, inB_t, cutB_t, wrap64, dec_t, dec_f, dec_not, dec_and, dec_or, cond_ite, cond_true, cond_false, Option.bind_some, Option.bind_none, Bool.or_true, Bool.true_or, Bool.and_true, Bool.true_and, Bool.and_false, Bool.false_and, Bool.or_false, Bool.false_or, Bool.not_true, Bool.not_false, Bool.or_self, Bool.and_self, Bool.not_not, if_true, if_false, and_self, true_and, and_true, and_false, false_and, or_true, true_or, or_false, false_or, not_true_eq_false, not_false_eq_true, decide_true, decide_false, eq_self, if_pos, if_neg, mx_eq, mn_eq]), show (0 : Int) = ((0 : Nat) : Int) from rfl, e]
  by_cases h : a = b
  ·simp (disch := omega) only [smallI_t, inB_t, cutB_t, wrap64, dec_t, dec_f, dec_not, dec_and, dec_or, cond_ite, cond_true, cond_false, Option.bind_some, Option.bind_none, Bool.or_true, Bool.true_or, Bool.and_true, Bool.true_and, Bool.and_false, Bool.false_and, Bool.or_false, Bool.false_or, Bool.not_true, Bool.not_false, Bool.or_self, Bool.and_self, Bool.not_not, if_true, if_false, and_self, true_and, and_true, and_false, false_and, or_true, true_or, or_false, false_or, not_true_eq_false, not_false_eq_true, decide_true, decide_false, eq_self, if_pos, if_neg, mx_eq, mn_eq]
   rw [pendulumref22_texts.q0]
   simp (disch := omega) only [smallI_t, inB_t, cutB_t, wrap64, dec_t, dec_f, dec_not, dec_and, dec_or, cond_ite, cond_true, cond_false, Option.bind_some, Option.bind_none, Bool.or_true, Bool.true_or, Bool.and_true, Bool.true_and, Bool.and_false, Bool.false_and, Bool.or_false, Bool.false_or, Bool.not_true, Bool.not_false, Bool.or_self, Bool.and_self, Bool.not_not, if_true, if_false, and_self, true_and, and_true, and_false, false_and, or_true, true_or, or_false, false_or, not_true_eq_false, not_false_eq_true, decide_true, decide_false, eq_self, if_pos, if_neg, mx_eq, mn_eq, pendulumref22_texts.b0]
  ·simp (disch := omega) only [smallI_t, inB_t, cutB_t, wrap64, dec_t, dec_f, dec_not, dec_and, dec_or, cond_ite, cond_true, cond_false, Option.bind_some, Option.bind_none, Bool.or_true, Bool.true_or, Bool.and_true, Bool.true_and, Bool.and_false, Bool.false_and, Bool.or_false, Bool.false_or, Bool.not_true, Bool.not_false, Bool.or_self, Bool.and_self, Bool.not_not, if_true, if_false, and_self, true_and, and_true, and_false, false_and, or_true, true_or, or_false, false_or, not_true_eq_false, not_false_eq_true, decide_true, decide_false, eq_self, if_pos, if_neg, mx_eq, mn_eq]
 ·rw [cond_pos (by simp (disch := omega) only [smallI_t, inB_t, cutB_t, wrap64, dec_t, dec_f, dec_not, dec_and, dec_or, cond_ite, cond_true, cond_false, Option.bind_some, Option.bind_none, Bool.or_true, Bool.true_or, Bool.and_true, Bool.true_and, Bool.and_false, Bool.false_and, Bool.or_false, Bool.false_or, Bool.not_true, Bool.not_false, Bool.or_self, Bool.and_self, Bool.not_not, if_true, if_false, and_self, true_and, and_true, and_false, false_and, or_true, true_or, or_false, false_or, not_true_eq_false, not_false_eq_true, decide_true, decide_false, eq_self, if_pos, if_neg, mx_eq, mn_eq]), dec_f (fun q => hl (by rw [q]))]
def alk (a b : KK) : Bool := decide (a.1 = b.1) && decide (a.2.2.1 = b.2.2.1) && decide (a.2.1 = b.2.1)
theorem alk_symm (a b : KK) : alk a b = alk b a := by
 unfold alk
 rw [show decide (a.1 = b.1) = decide (b.1 = a.1) from by congr 1; exact propext ⟨Eq.symm, Eq.symm⟩, show decide (a.2.2.1 = b.2.2.1) = decide (b.2.2.1 = a.2.2.1) from by congr 1; exact propext ⟨Eq.symm, Eq.symm⟩, show decide (a.2.1 = b.2.1) = decide (b.2.1 = a.2.1) from by congr 1; exact propext ⟨Eq.symm, Eq.symm⟩]
theorem alike_eq (a b : KK) (ha : a.2.1.length < 9223372036854775808) (hb : b.2.1.length < 9223372036854775808) : ideal_alike.run .lim (a, b, ()) = some (alk a b) := by
 simp only [ideal_alike.run, equal_eq _ _ ha hb]
 unfold alk
 cases decide (a.1 = b.1) && decide (a.2.2.1 = b.2.2.1) <;> rfl
theorem ralike_eq (a b : KK) (ha : a.2.1.length < 9223372036854775808) (hb : b.2.1.length < 9223372036854775808) : pendulumref22_alike.run .lim (a, b, ()) = some (alk a b) := by
 simp only [pendulumref22_alike.run, texts_eq _ _ ha hb]
 unfold alk
 cases decide (a.1 = b.1) && decide (a.2.2.1 = b.2.2.1) <;> rfl
def byteOf (n : Int) (k : Nat) : Int := (n / 256 ^ k) % 256
def num16 (n : Int) : List Int := (List.range 16).map fun i => byteOf n (15 - i)
def txt (n : Int) (plain : List Int) : List Int := num16 n ++ List.replicate plain.length 0
theorem rep0 : ∀ n : Nat, repL [0] n = List.replicate n 0
 | 0 => rfl
 | n + 1 => by rw [repL, rep0 n]; rfl
def part (n : Int) (k : Nat) : List Int := (List.range 16).map fun i => if i < 16 - k then 0 else byteOf n (15 - i)
theorem part_zero (n : Int) : part n 0 = List.replicate 16 0 := by
 unfold part
 rw [List.eq_replicate_iff]
 refine ⟨by simp, fun b hb => ?_⟩
 obtain ⟨i, hi, rfl⟩ := List.mem_map.1 hb
 rw [if_pos (by have := List.mem_range.1 hi; omega)]
theorem part_len (n : Int) (k : Nat) : (part n k).length = 16 := by simp [part]
theorem part_set (n : Int) (k : Nat) (hk : k < 16) : (part n k).set (15 - k) (byteOf n k) = part n (k + 1) := by
 apply List.ext_getElem (by simp [part])
 intro i h1 h2
 have hi : i < 16 := by rw [List.length_set, part_len] at h1; exact h1
 rw [List.getElem_set]
 simp only [part, List.getElem_map, List.getElem_range]
 split
 ·rw [if_neg (by omega)]; congr 1; omega
 ·by_cases h : i < 16 - (k + 1)
  ·rw [if_pos (by omega), if_pos h]
  ·rw [if_neg (by omega), if_neg h]
theorem part_end (n : Int) : part n 16 = num16 n := by
 unfold part num16
 apply List.map_congr_left
 intro i _; rw [if_neg (by omega)]
theorem byteOf_high {n : Int} (h0 : 0 ≤ n) (h1 : n < 9223372036854775808) {k : Nat} (hk : 8 ≤ k) : byteOf n k = 0 := by
 unfold byteOf
 rw [Int.ediv_eq_zero_of_lt h0]; · rfl
 obtain ⟨j, rfl⟩ : ∃ j, k = 8 + j := ⟨k - 8, by omega⟩
 rw [Int.pow_add]
 have : (0 : Int) < 256 ^ j := Int.pow_pos (by omega)
 have h2 : (256 : Int) ^ 8 * 1 ≤ 256 ^ 8 * 256 ^ j := Int.mul_le_mul_of_nonneg_left (by omega) (by decide)
 have h3 : (256 : Int) ^ 8 = 18446744073709551616 := by decide
 rw [h3] at h2 ⊢; omega
theorem part8 {n : Int} (h0 : 0 ≤ n) (h1 : n < 9223372036854775808) : part n 8 = num16 n := by
 unfold part num16
 apply List.map_congr_left
 intro i _
 split
 ·rw [byteOf_high h0 h1 (by omega)]
 ·rfl
theorem number_eq (n : Int) (plain : List Int) (h0 : 0 ≤ n) (h1 : n < 9223372036854775808) (hp : plain.length ≤ 100000) : ideal_number.run .lim (n, plain, ()) = some (txt n plain) := by
 have e := loop_to (f := ideal_number.l0 .lim) (fun k => (n, plain, (k : Int), part n k, ())) (n := 8) (fun k hk => by
  rw [ideal_number.q0]
  have w := wk k (by omega)
  have w2 : IntKind.i64.wrap ((8 : Int) * k) = ((8 * k : Nat) : Int) := by rw [wrap64 (by omega) (by omega)]; omega
  have w3 : IntKind.i64.wrap ((15 : Int) - k) = ((15 - k : Nat) : Int) := by rw [wrap64 (by omega) (by omega)]; omega
  have hb : IntKind.u8.wrap (ishr .i64 n ((8 * k : Nat) : Int)) = byteOf n k := by
   rw [wrapu8]
   unfold ishr byteOf
   rw [Int.toNat_natCast, show min (8 * k) (IntKind.bits .i64) = 8 * k from by show min (8 * k) 64 = _; omega, Int.fdiv_eq_ediv_of_nonneg _ (Int.le_of_lt (Int.pow_pos (by omega))), Int.pow_mul]
   rfl
  simp (disch := omega) only [smallI_t, inB_t, cutB_t, wrap64, dec_t, dec_f, dec_not, dec_and, dec_or, cond_ite, cond_true, cond_false, Option.bind_some, Option.bind_none, Bool.or_true, Bool.true_or, Bool.and_true, Bool.true_and, Bool.and_false, Bool.false_and, Bool.or_false, Bool.false_or, Bool.not_true, Bool.not_false, Bool.or_self, Bool.and_self, Bool.not_not, if_true, if_false, and_self, true_and, and_true, and_false, false_and, or_true, true_or, or_false, false_or, not_true_eq_false, not_false_eq_true, decide_true, decide_false, eq_self, if_pos, if_neg, mx_eq, mn_eq, ideal_number.b0, w, w2, w3, hb, Int.toNat_natCast, part_set])
 rw [part_zero, show ((0 : Nat) : Int) = 0 from rfl] at e
 simp only [ideal_number.run, e]
 rw [ideal_number.q0]
 have hr : strings_Repeat.run .lim ([0], (plain.length : Int), ()) = some (List.replicate plain.length 0) := by
  show repF _ = _
  unfold repF
  rw [cond_pos (by simp; omega), Int.toNat_natCast, rep0]
 simp (disch := omega) only [smallI_t, inB_t, cutB_t, wrap64, dec_t, dec_f, dec_not, dec_and, dec_or, cond_ite, cond_true, cond_false, Option.bind_some, Option.bind_none, Bool.or_true, Bool.true_or, Bool.and_true, Bool.true_and, Bool.and_false, Bool.false_and, Bool.or_false, Bool.false_or, Bool.not_true, Bool.not_false, Bool.or_self, Bool.and_self, Bool.not_not, if_true, if_false, and_self, true_and, and_true, and_false, false_and, or_true, true_or, or_false, false_or, not_true_eq_false, not_false_eq_true, decide_true, decide_false, eq_self, if_pos, if_neg, mx_eq, mn_eq, ideal_number.b0, smallN (show plain.length < 9223372036854775808 by omega), hr]
 rw [part8 h0 h1, List.drop_zero, List.take_of_length_le (by simp [num16]), if_pos]
 ·rfl
 ·rw [List.length_replicate, num16, List.length_map, List.length_range]; unfold maxStr; omega
theorem rtext_eq (n : Int) (plain : List Int) (h0 : 0 ≤ n) (h1 : n < 9223372036854775808) (hp : plain.length ≤ 100000) : pendulumref22_text.run .lim (n, plain, ()) = some (txt n plain) := by
 have w0 : IntKind.i64.wrap ((16 : Int) + plain.length) = ((16 + plain.length : Nat) : Int) := by rw [wrap64 (by omega) (by omega)]; omega
 have e := loop_to (f := pendulumref22_text.l0 .lim) (fun k => (n / 256 ^ k, (15 : Int) - k, part n k ++ List.replicate plain.length 0, ())) (n := 16) (fun k hk => by
  rw [pendulumref22_text.q0]
  have hn : 0 ≤ n / 256 ^ k := Int.ediv_nonneg h0 (Int.le_of_lt (Int.pow_pos (by omega)))
  have hn2 : n / 256 ^ k ≤ n := Int.ediv_le_self _ h0
  have w1 : IntKind.i64.wrap ((n / 256 ^ k).tdiv 256) = n / 256 ^ (k + 1) := by
   rw [Int.tdiv_eq_ediv_of_nonneg hn, Int.ediv_ediv_of_nonneg (Int.le_of_lt (Int.pow_pos (by omega))), show (256 : Int) ^ k * 256 = 256 ^ (k + 1) from (Int.pow_succ _ _).symm]
   have : n / 256 ^ (k + 1) ≤ n := Int.ediv_le_self _ h0
   have : 0 ≤ n / 256 ^ (k + 1) := Int.ediv_nonneg h0 (Int.le_of_lt (Int.pow_pos (by omega)))
   rw [wrap64 (by omega) (by omega)]
  have w2 : IntKind.i64.wrap ((15 : Int) - k - 1) = (15 : Int) - (k + 1 : Nat) := by rw [wrap64 (by omega) (by omega)]; omega
  have hb : IntKind.u8.wrap ((n / 256 ^ k).tmod 256) = byteOf n k := by
   rw [wrapu8, Int.tmod_eq_emod_of_nonneg hn]; unfold byteOf; omega
  have hl : (part n k ++ List.replicate plain.length 0).length = 16 + plain.length := by simp [part_len]
  have ht : ((15 : Int) - k).toNat = 15 - k := by omega
  have hs : (part n k ++ List.replicate plain.length (0 : Int)).set (15 - k) (byteOf n k) = part n (k + 1) ++ List.replicate plain.length 0 := by
   rw [List.set_append_left _ _ (by rw [part_len]; omega), part_set n k hk]
  simp (disch := omega) only [smallI_t, inB_t, cutB_t, wrap64, dec_t, dec_f, dec_not, dec_and, dec_or, cond_ite, cond_true, cond_false, Option.bind_some, Option.bind_none, Bool.or_true, Bool.true_or, Bool.and_true, Bool.true_and, Bool.and_false, Bool.false_and, Bool.or_false, Bool.false_or, Bool.not_true, Bool.not_false, Bool.or_self, Bool.and_self, Bool.not_not, if_true, if_false, and_self, true_and, and_true, and_false, false_and, or_true, true_or, or_false, false_or, not_true_eq_false, not_false_eq_true, decide_true, decide_false, eq_self, if_pos, if_neg, mx_eq, mn_eq, pendulumref22_text.b0, w1, w2, hb, hl, ht, hs])
 have hz : List.replicate (16 + plain.length) (0 : Int) = part n 0 ++ List.replicate plain.length 0 := by rw [part_zero, List.replicate_append_replicate]
 rw [Int.pow_zero, Int.ediv_one, show (15 : Int) - ((0 : Nat) : Int) = 15 from rfl] at e
 simp only [pendulumref22_text.run, w0, Int.toNat_natCast, hz, e]
 rw [pendulumref22_text.q0]
 simp (disch := omega) only [smallI_t, inB_t, cutB_t, wrap64, dec_t, dec_f, dec_not, dec_and, dec_or, cond_ite, cond_true, cond_false, Option.bind_some, Option.bind_none, Bool.or_true, Bool.true_or, Bool.and_true, Bool.true_and, Bool.and_false, Bool.false_and, Bool.or_false, Bool.false_or, Bool.not_true, Bool.not_false, Bool.or_self, Bool.and_self, Bool.not_not, if_true, if_false, and_self, true_and, and_true, and_false, false_and, or_true, true_or, or_false, false_or, not_true_eq_false, not_false_eq_true, decide_true, decide_false, eq_self, if_pos, if_neg, mx_eq, mn_eq, pendulumref22_text.b0, smallN (show plain.length < 9223372036854775808 by omega)]
 rw [cond_pos (by rw [Nat.blt_eq]; omega), part_end]
 rfl
end Go.AM
end
section
namespace Go.AM
abbrev VV := Bool × List KK
def okK (k : KK) : Prop := k.1.length < 9223372036854775808 ∧ k.2.1.length < 9223372036854775808 ∧ (∀ s ∈ k.2.1, s.length < 9223372036854775808) ∧ k.2.2.1.length < 9223372036854775808 ∧ k.2.2.2.length < 9223372036854775808
def okV (v : VV) : Prop := v.2.length < 9223372036854775808 ∧ ∀ k ∈ v.2, okK k
theorem okV.at {v : VV} (h : okV v) {k : Nat} (hk : k < v.2.length) : okK (rd k0 v.2 (k : Int)) := h.2 _ (rd_mem (by omega) (by omega))
def refE (k : KK) : Int := if k.1.length ≠ 32 ∧ k.1.length ≠ 64 then 13 else if k.2.1.length > 126 then 18 else 0
theorem refused_eq (k : KK) (h : k.1.length < 9223372036854775808) (h2 : k.2.1.length < 9223372036854775808) : ideal_refused.run .lim (k, ()) = some (refE k) := by
 unfold refE
 simp only [ideal_refused.run, smallN h, smallN h2, cond_true, Bool.or_true]
 by_cases h3 : k.1.length ≠ 32 ∧ k.1.length ≠ 64
 ·rw [cond_pos (by simp (disch := omega) only [smallI_t, inB_t, cutB_t, wrap64, dec_t, dec_f, dec_not, dec_and, dec_or, cond_ite, cond_true, cond_false, Option.bind_some, Option.bind_none, Bool.or_true, Bool.true_or, Bool.and_true, Bool.true_and, Bool.and_false, Bool.false_and, Bool.or_false, Bool.false_or, Bool.not_true, Bool.not_false, Bool.or_self, Bool.and_self, Bool.not_not, if_true, if_false, and_self, true_and, and_true, and_false, false_and, or_true, true_or, or_false, false_or, not_true_eq_false, not_false_eq_true, decide_true, decide_false, eq_self, if_pos, if_neg, mx_eq, mn_eq, dec_t (show ¬ ((k.1.length : Int) = 32) by omega), dec_t (show ¬ ((k.1.length : Int) = 64) by omega)]), if_pos h3]
 ·rw [cond_neg, if_neg h3]
  ·by_cases h4 : k.2.1.length > 126 <;> simp (disch := omega) only [smallI_t, inB_t, cutB_t, wrap64, dec_t, dec_f, dec_not, dec_and, dec_or, cond_ite, cond_true, cond_false, Option.bind_some, Option.bind_none, Bool.or_true, Bool.true_or, Bool.and_true, Bool.true_and, Bool.and_false, Bool.false_and, Bool.or_false, Bool.false_or, Bool.not_true, Bool.not_false, Bool.or_self, Bool.and_self, Bool.not_not, if_true, if_false, and_self, true_and, and_true, and_false, false_and, or_true, true_or, or_false, false_or, not_true_eq_false, not_false_eq_true, decide_true, decide_false, eq_self, if_pos, if_neg, mx_eq, mn_eq]
  ·by_cases h4 : k.1.length = 32
   ·simp (disch := omega) only [smallI_t, inB_t, cutB_t, wrap64, dec_t, dec_f, dec_not, dec_and, dec_or, cond_ite, cond_true, cond_false, Option.bind_some, Option.bind_none, Bool.or_true, Bool.true_or, Bool.and_true, Bool.true_and, Bool.and_false, Bool.false_and, Bool.or_false, Bool.false_or, Bool.not_true, Bool.not_false, Bool.or_self, Bool.and_self, Bool.not_not, if_true, if_false, and_self, true_and, and_true, and_false, false_and, or_true, true_or, or_false, false_or, not_true_eq_false, not_false_eq_true, decide_true, decide_false, eq_self, if_pos, if_neg, mx_eq, mn_eq]
   ·simp (disch := omega) only [smallI_t, inB_t, cutB_t, wrap64, dec_t, dec_f, dec_not, dec_and, dec_or, cond_ite, cond_true, cond_false, Option.bind_some, Option.bind_none, Bool.or_true, Bool.true_or, Bool.and_true, Bool.true_and, Bool.and_false, Bool.false_and, Bool.or_false, Bool.false_or, Bool.not_true, Bool.not_false, Bool.or_self, Bool.and_self, Bool.not_not, if_true, if_false, and_self, true_and, and_true, and_false, false_and, or_true, true_or, or_false, false_or, not_true_eq_false, not_false_eq_true, decide_true, decide_false, eq_self, if_pos, if_neg, mx_eq, mn_eq]
def badK (xs : List KK) (i : Nat) : Bool :=
 !decide (refE (rd k0 xs i) = 0) || decide ((rd k0 xs i).2.2.1.length > 65536) || !decide ((rd k0 xs i).2.2.2 = txt ((i : Int) + 1) (rd k0 xs i).2.2.1) || (List.range i).any fun j => alk (rd k0 xs j) (rd k0 xs i)
def fitV (v : VV) : Bool := bif v.1 then decide (v.2.length ≤ 2048) && !((List.range v.2.length).any (badK v.2)) else decide (v.2.length = 0)
theorem rfit_in (xs : List KK) (i : Nat) (q : KK) (b : Bool) (hi : i ≤ xs.length) (hy : xs.length < 9223372036854775808) (hok : ∀ k ∈ xs, okK k) (hq : okK q) :
  pendulumref22_Fit.l0 .lim ((i : Int), 0, b, xs, q.1, q.2.1, q.2.2.1, q.2.2.2, ()) = bif (List.range i).any (fun j => alk (rd k0 xs j) q) then some (.inl (false, ())) else some (.inr ((i : Int), b, xs, ())) := by
 have e := loop_any (f := pendulumref22_Fit.l0 .lim) (fun j => ((i : Int), (j : Int), b, xs, q.1, q.2.1, q.2.2.1, q.2.2.2, ())) i (fun j => alk (rd k0 xs j) q) (some (.inl (false, ()))) (fun k hk => by
  rw [pendulumref22_Fit.q0]
  have ha := ralike_eq q (rd k0 xs k) hq.2.1 (hok _ (rd_mem (by omega) (by omega))).2.1
  rw [alk_symm] at ha
  have ha : pendulumref22_alike.run .lim ((q.1, q.2.1, q.2.2.1, q.2.2.2), rd k0 xs k, ()) = some (alk (rd k0 xs k) q) := ha
  simp (disch := omega) only [smallI_t, inB_t, cutB_t, wrap64, dec_t, dec_f, dec_not, dec_and, dec_or, cond_ite, cond_true, cond_false, Option.bind_some, Option.bind_none, Bool.or_true, Bool.true_or, Bool.and_true, Bool.true_and, Bool.and_false, Bool.false_and, Bool.or_false, Bool.false_or, Bool.not_true, Bool.not_false, Bool.or_self, Bool.and_self, Bool.not_not, if_true, if_false, and_self, true_and, and_true, and_false, false_and, or_true, true_or, or_false, false_or, not_true_eq_false, not_false_eq_true, decide_true, decide_false, eq_self, if_pos, if_neg, mx_eq, mn_eq, pendulumref22_Fit.b0, wk k (by omega), ha])
 refine e.trans ?_
 rw [pendulumref22_Fit.q0]
 simp (disch := omega) only [smallI_t, inB_t, cutB_t, wrap64, dec_t, dec_f, dec_not, dec_and, dec_or, cond_ite, cond_true, cond_false, Option.bind_some, Option.bind_none, Bool.or_true, Bool.true_or, Bool.and_true, Bool.true_and, Bool.and_false, Bool.false_and, Bool.or_false, Bool.false_or, Bool.not_true, Bool.not_false, Bool.or_self, Bool.and_self, Bool.not_not, if_true, if_false, and_self, true_and, and_true, and_false, false_and, or_true, true_or, or_false, false_or, not_true_eq_false, not_false_eq_true, decide_true, decide_false, eq_self, if_pos, if_neg, mx_eq, mn_eq, pendulumref22_Fit.b0]
theorem refB (q : KK) : ((!decide ((q.1.length : Int) = 32) && !decide ((q.1.length : Int) = 64)) || decide ((q.2.1.length : Int) > 126)) = !decide (refE q = 0) := by
 unfold refE
 by_cases h1 : q.1.length ≠ 32 ∧ q.1.length ≠ 64
 ·rw [if_pos h1, dec_f (show ¬ (q.1.length : Int) = 32 by omega), dec_f (show ¬ (q.1.length : Int) = 64 by omega)]; rfl
 ·rw [if_neg h1]
  have : (!decide ((q.1.length : Int) = 32) && !decide ((q.1.length : Int) = 64)) = false := by
   by_cases h2 : q.1.length = 32
   ·rw [dec_t (by omega)]; rfl
   ·rw [dec_t (show (q.1.length : Int) = 64 by omega), Bool.not_true, Bool.and_false]
  rw [this, Bool.false_or]
  by_cases h3 : q.2.1.length > 126
  ·rw [if_pos h3, dec_t (by omega)]; rfl
  ·rw [if_neg h3, dec_f (by omega)]; rfl
theorem rfit_eq (v : VV) (h : okV v) : pendulumref22_Fit.run .lim (v, ()) = some (fitV v) := by
 obtain ⟨b, xs⟩ := v
 have hx : xs.length < 9223372036854775808 := h.1
 unfold fitV
 simp only [pendulumref22_Fit.run, smallN hx]
 cases b with
 | false => simp only [cond_true, cond_false, Option.bind_some, Option.bind_none, Bool.or_true, Bool.true_or, Bool.and_true, Bool.true_and, Bool.and_false, Bool.false_and, Bool.or_false, Bool.false_or, Bool.not_true, Bool.not_false, Bool.or_self, Bool.and_self, Bool.not_not]; congr 2; simp
 | true =>
  simp only [cond_true, cond_false, Option.bind_some, Option.bind_none, Bool.or_true, Bool.true_or, Bool.and_true, Bool.true_and, Bool.and_false, Bool.false_and, Bool.or_false, Bool.false_or, Bool.not_true, Bool.not_false, Bool.or_self, Bool.and_self, Bool.not_not]
  by_cases h1 : xs.length ≤ 2048
  ·obtain ⟨j, _, e⟩ := loop_hit (f := pendulumref22_Fit.l1 .lim) (fun k => ((k : Int), true, xs, ())) xs.length (badK xs) (fun k => bif (!decide (refE (rd k0 xs k) = 0) || decide ((rd k0 xs k).2.2.1.length > 65536) || !decide ((rd k0 xs k).2.2.2 = txt ((k : Int) + 1) (rd k0 xs k).2.2.1)) then some (.inl (false, ())) else some (.inr (.inl (false, ())))) (fun k hk => by
    rw [pendulumref22_Fit.q1]
    have w := wk k (by omega)
    have hk' : okK (rd k0 xs k) := h.at (v := (true, xs)) hk
    have hn := fun hh => rtext_eq ((k : Int) + 1) (rd k0 xs k).2.2.1 (by omega) (by omega) hh
    have e2 := rfit_in xs k (rd k0 xs k) true (by omega) hx h.2 hk'
    unfold badK
    simp only [pendulumref22_Fit.b1, smallN hx, dec_t (show (k : Int) < (xs.length : Int) by omega), inB_t (show (0 : Int) ≤ k by omega) (show (k : Int) < xs.length by omega), smallN hk'.1, smallN hk'.2.1, smallN hk'.2.2.2.1, w, refB]
    rw [show ((k + 1 : Nat) : Int) = (k : Int) + 1 by omega]
    simp only [cond_true, cond_false, Option.bind_some, Option.bind_none, Bool.or_true, Bool.true_or, Bool.and_true, Bool.true_and, Bool.and_false, Bool.false_and, Bool.or_false, Bool.false_or, Bool.not_true, Bool.not_false, Bool.or_self, Bool.and_self, Bool.not_not]
    by_cases c1 : refE (rd k0 xs k) = 0
    ·by_cases c2 : (rd k0 xs k).2.2.1.length > 65536
     ·simp only [dec_t c1, dec_t c2, dec_t (show ((rd k0 xs k).2.2.1.length : Int) > 65536 by omega)]
      simp only [cond_true, cond_false, Option.bind_some, Option.bind_none, Bool.or_true, Bool.true_or, Bool.and_true, Bool.true_and, Bool.and_false, Bool.false_and, Bool.or_false, Bool.false_or, Bool.not_true, Bool.not_false, Bool.or_self, Bool.and_self, Bool.not_not]
     ·simp only [dec_t c1, dec_f c2, dec_f (show ¬ ((rd k0 xs k).2.2.1.length : Int) > 65536 by omega)]
      simp only [cond_true, cond_false, Option.bind_some, Option.bind_none, Bool.or_true, Bool.true_or, Bool.and_true, Bool.true_and, Bool.and_false, Bool.false_and, Bool.or_false, Bool.false_or, Bool.not_true, Bool.not_false, Bool.or_self, Bool.and_self, Bool.not_not]
      rw [hn (by omega)]
      simp only [cond_true, cond_false, Option.bind_some, Option.bind_none, Bool.or_true, Bool.true_or, Bool.and_true, Bool.true_and, Bool.and_false, Bool.false_and, Bool.or_false, Bool.false_or, Bool.not_true, Bool.not_false, Bool.or_self, Bool.and_self, Bool.not_not]
      by_cases c3 : (rd k0 xs k).2.2.2 = txt ((k : Int) + 1) (rd k0 xs k).2.2.1
      ·simp only [dec_t c3]
       simp only [cond_true, cond_false, Option.bind_some, Option.bind_none, Bool.or_true, Bool.true_or, Bool.and_true, Bool.true_and, Bool.and_false, Bool.false_and, Bool.or_false, Bool.false_or, Bool.not_true, Bool.not_false, Bool.or_self, Bool.and_self, Bool.not_not]
       rw [e2]
       cases (List.range k).any fun j => alk (rd k0 xs j) (rd k0 xs k)
       ·simp only [cond_true, cond_false, Option.bind_some, Option.bind_none, Bool.or_true, Bool.true_or, Bool.and_true, Bool.true_and, Bool.and_false, Bool.false_and, Bool.or_false, Bool.false_or, Bool.not_true, Bool.not_false, Bool.or_self, Bool.and_self, Bool.not_not]; rw [show IntKind.i64.wrap ((k : Int) + 1) = (k : Int) + 1 by rw [w]; omega]
       ·simp only [cond_true, cond_false, Option.bind_some, Option.bind_none, Bool.or_true, Bool.true_or, Bool.and_true, Bool.true_and, Bool.and_false, Bool.false_and, Bool.or_false, Bool.false_or, Bool.not_true, Bool.not_false, Bool.or_self, Bool.and_self, Bool.not_not]
      ·simp only [dec_f c3]
       simp only [cond_true, cond_false, Option.bind_some, Option.bind_none, Bool.or_true, Bool.true_or, Bool.and_true, Bool.true_and, Bool.and_false, Bool.false_and, Bool.or_false, Bool.false_or, Bool.not_true, Bool.not_false, Bool.or_self, Bool.and_self, Bool.not_not]
    ·simp only [dec_f c1]
     simp only [cond_true, cond_false, Option.bind_some, Option.bind_none, Bool.or_true, Bool.true_or, Bool.and_true, Bool.true_and, Bool.and_false, Bool.false_and, Bool.or_false, Bool.false_or, Bool.not_true, Bool.not_false, Bool.or_self, Bool.and_self, Bool.not_not])
   rw [show ((0 : Nat) : Int) = 0 from rfl] at e
   rw [cond_neg (by simp (disch := omega) only [smallI_t, inB_t, cutB_t, wrap64, dec_t, dec_f, dec_not, dec_and, dec_or, cond_ite, cond_true, cond_false, Option.bind_some, Option.bind_none, Bool.or_true, Bool.true_or, Bool.and_true, Bool.true_and, Bool.and_false, Bool.false_and, Bool.or_false, Bool.false_or, Bool.not_true, Bool.not_false, Bool.or_self, Bool.and_self, Bool.not_not, if_true, if_false, and_self, true_and, and_true, and_false, false_and, or_true, true_or, or_false, false_or, not_true_eq_false, not_false_eq_true, decide_true, decide_false, eq_self, if_pos, if_neg, mx_eq, mn_eq]), e, pendulumref22_Fit.q1]
   simp (disch := omega) only [smallI_t, inB_t, cutB_t, wrap64, dec_t, dec_f, dec_not, dec_and, dec_or, cond_ite, cond_true, cond_false, Option.bind_some, Option.bind_none, Bool.or_true, Bool.true_or, Bool.and_true, Bool.true_and, Bool.and_false, Bool.false_and, Bool.or_false, Bool.false_or, Bool.not_true, Bool.not_false, Bool.or_self, Bool.and_self, Bool.not_not, if_true, if_false, and_self, true_and, and_true, and_false, false_and, or_true, true_or, or_false, false_or, not_true_eq_false, not_false_eq_true, decide_true, decide_false, eq_self, if_pos, if_neg, mx_eq, mn_eq, pendulumref22_Fit.b1, smallN hx]
   cases (List.range xs.length).any (badK xs)
   ·rfl
   ·simp only [cond_true, cond_false, Option.bind_some, Option.bind_none, Bool.or_true, Bool.true_or, Bool.and_true, Bool.true_and, Bool.and_false, Bool.false_and, Bool.or_false, Bool.false_or, Bool.not_true, Bool.not_false, Bool.or_self, Bool.and_self, Bool.not_not]; split <;> rfl
  ·rw [cond_pos (by simp (disch := omega) only [smallI_t, inB_t, cutB_t, wrap64, dec_t, dec_f, dec_not, dec_and, dec_or, cond_ite, cond_true, cond_false, Option.bind_some, Option.bind_none, Bool.or_true, Bool.true_or, Bool.and_true, Bool.true_and, Bool.and_false, Bool.false_and, Bool.or_false, Bool.false_or, Bool.not_true, Bool.not_false, Bool.or_self, Bool.and_self, Bool.not_not, if_true, if_false, and_self, true_and, and_true, and_false, false_and, or_true, true_or, or_false, false_or, not_true_eq_false, not_false_eq_true, decide_true, decide_false, eq_self, if_pos, if_neg, mx_eq, mn_eq]), dec_f h1]
   simp only [cond_true, cond_false, Option.bind_some, Option.bind_none, Bool.or_true, Bool.true_or, Bool.and_true, Bool.true_and, Bool.and_false, Bool.false_and, Bool.or_false, Bool.false_or, Bool.not_true, Bool.not_false, Bool.or_self, Bool.and_self, Bool.not_not]
theorem alk_text (a b : KK) : (alk a b && decide (a.2.2.2 = b.2.2.2)) = decide (a = b) := by
 obtain ⟨a1, a2, a3, a4⟩ := a
 obtain ⟨b1, b2, b3, b4⟩ := b
 unfold alk
 simp only
 by_cases h1 : a1 = b1 <;> by_cases h2 : a2 = b2 <;> by_cases h3 : a3 = b3 <;> by_cases h4 : a4 = b4 <;> simp [h1, h2, h3, h4]
theorem rsame_eq (v w : VV) (hv : okV v) (hw : okV w) : pendulumref22_Same.run .lim (v, w, ()) = some (decide (v = w)) := by
 obtain ⟨a, xs⟩ := v
 obtain ⟨b, ys⟩ := w
 have hx : xs.length < 9223372036854775808 := hv.1
 have hy : ys.length < 9223372036854775808 := hw.1
 simp only [pendulumref22_Same.run, smallN hx, smallN hy]
 by_cases hab : a = b
 ·subst hab
  rw [show (a == a) = true by simp]
  simp only [cond_true, cond_false, Option.bind_some, Option.bind_none, Bool.or_true, Bool.true_or, Bool.and_true, Bool.true_and, Bool.and_false, Bool.false_and, Bool.or_false, Bool.false_or, Bool.not_true, Bool.not_false, Bool.or_self, Bool.and_self, Bool.not_not]
  by_cases hl : xs.length = ys.length
  ·have e := loop_any (f := pendulumref22_Same.l0 .lim) (fun k => ((k : Int), a, xs, a, ys, ())) xs.length (fun k => !decide (rd k0 xs k = rd k0 ys k)) (some (.inl (false, ()))) (fun k hk => by
    rw [pendulumref22_Same.q0]
    have hs := ralike_eq (rd k0 xs k) (rd k0 ys k) (hv.at hk).2.1 (hw.at (v := (a, ys)) (k := k) (by show k < ys.length; omega)).2.1
    simp only [pendulumref22_Same.b0, wk k (by omega), hs, smallN hx, dec_t (show (k : Int) < (xs.length : Int) by omega), inB_t (show (0 : Int) ≤ k by omega) (show (k : Int) < xs.length by omega), inB_t (show (0 : Int) ≤ k by omega) (show (k : Int) < ys.length by omega)]
    simp only [cond_true, cond_false, Option.bind_some, Option.bind_none, Bool.or_true, Bool.true_or, Bool.and_true, Bool.true_and, Bool.and_false, Bool.false_and, Bool.or_false, Bool.false_or, Bool.not_true, Bool.not_false, Bool.or_self, Bool.and_self, Bool.not_not]
    rw [← alk_text (rd k0 xs k) (rd k0 ys k)]
    cases alk (rd k0 xs k) (rd k0 ys k) <;> simp only [cond_true, cond_false, Option.bind_some, Option.bind_none, Bool.or_true, Bool.true_or, Bool.and_true, Bool.true_and, Bool.and_false, Bool.false_and, Bool.or_false, Bool.false_or, Bool.not_true, Bool.not_false, Bool.or_self, Bool.and_self, Bool.not_not])
   rw [any_ne hl, show ((0 : Nat) : Int) = 0 from rfl] at e
   rw [cond_neg (by simp (disch := omega) only [smallI_t, inB_t, cutB_t, wrap64, dec_t, dec_f, dec_not, dec_and, dec_or, cond_ite, cond_true, cond_false, Option.bind_some, Option.bind_none, Bool.or_true, Bool.true_or, Bool.and_true, Bool.true_and, Bool.and_false, Bool.false_and, Bool.or_false, Bool.false_or, Bool.not_true, Bool.not_false, Bool.or_self, Bool.and_self, Bool.not_not, if_true, if_false, and_self, true_and, and_true, and_false, false_and, or_true, true_or, or_false, false_or, not_true_eq_false, not_false_eq_true, decide_true, decide_false, eq_self, if_pos, if_neg, mx_eq, mn_eq]), e, pendulumref22_Same.q0]
   simp (disch := omega) only [smallI_t, inB_t, cutB_t, wrap64, dec_t, dec_f, dec_not, dec_and, dec_or, cond_ite, cond_true, cond_false, Option.bind_some, Option.bind_none, Bool.or_true, Bool.true_or, Bool.and_true, Bool.true_and, Bool.and_false, Bool.false_and, Bool.or_false, Bool.false_or, Bool.not_true, Bool.not_false, Bool.or_self, Bool.and_self, Bool.not_not, if_true, if_false, and_self, true_and, and_true, and_false, false_and, or_true, true_or, or_false, false_or, not_true_eq_false, not_false_eq_true, decide_true, decide_false, eq_self, if_pos, if_neg, mx_eq, mn_eq, pendulumref22_Same.b0, smallN hx]
   by_cases h : xs = ys
   ·subst h; simp (disch := omega) only [smallI_t, inB_t, cutB_t, wrap64, dec_t, dec_f, dec_not, dec_and, dec_or, cond_ite, cond_true, cond_false, Option.bind_some, Option.bind_none, Bool.or_true, Bool.true_or, Bool.and_true, Bool.true_and, Bool.and_false, Bool.false_and, Bool.or_false, Bool.false_or, Bool.not_true, Bool.not_false, Bool.or_self, Bool.and_self, Bool.not_not, if_true, if_false, and_self, true_and, and_true, and_false, false_and, or_true, true_or, or_false, false_or, not_true_eq_false, not_false_eq_true, decide_true, decide_false, eq_self, if_pos, if_neg, mx_eq, mn_eq]
   ·rw [dec_f (fun q => h (Prod.mk.inj q).2)]; simp (disch := omega) only [smallI_t, inB_t, cutB_t, wrap64, dec_t, dec_f, dec_not, dec_and, dec_or, cond_ite, cond_true, cond_false, Option.bind_some, Option.bind_none, Bool.or_true, Bool.true_or, Bool.and_true, Bool.true_and, Bool.and_false, Bool.false_and, Bool.or_false, Bool.false_or, Bool.not_true, Bool.not_false, Bool.or_self, Bool.and_self, Bool.not_not, if_true, if_false, and_self, true_and, and_true, and_false, false_and, or_true, true_or, or_false, false_or, not_true_eq_false, not_false_eq_true, decide_true, decide_false, eq_self, if_pos, if_neg, mx_eq, mn_eq]
  ·rw [cond_pos (by simp (disch := omega) only [smallI_t, inB_t, cutB_t, wrap64, dec_t, dec_f, dec_not, dec_and, dec_or, cond_ite, cond_true, cond_false, Option.bind_some, Option.bind_none, Bool.or_true, Bool.true_or, Bool.and_true, Bool.true_and, Bool.and_false, Bool.false_and, Bool.or_false, Bool.false_or, Bool.not_true, Bool.not_false, Bool.or_self, Bool.and_self, Bool.not_not, if_true, if_false, and_self, true_and, and_true, and_false, false_and, or_true, true_or, or_false, false_or, not_true_eq_false, not_false_eq_true, decide_true, decide_false, eq_self, if_pos, if_neg, mx_eq, mn_eq]), dec_f]
   exact fun q => hl (by rw [(Prod.mk.inj q).2])
 ·rw [show (a == b) = false by simpa using hab, dec_f (fun q => hab (Prod.mk.inj q).1)]
  simp only [cond_true, cond_false, Option.bind_some, Option.bind_none, Bool.or_true, Bool.true_or, Bool.and_true, Bool.true_and, Bool.and_false, Bool.false_and, Bool.or_false, Bool.false_or, Bool.not_true, Bool.not_false, Bool.or_self, Bool.and_self, Bool.not_not]
theorem light_some (v : VV) (h : okV v) : ∃ r, pendulumref22_Light.run .lim (v, ()) = some r := by
 obtain ⟨b, xs⟩ := v
 have hx : xs.length < 9223372036854775808 := h.1
 -- the inner loop
 have inner : ∀ (n : Nat) (left : Int) (j : Nat) (i : Int) (q : KK), okK q → j + n = q.2.1.length → -9223372036854775808 ≤ left → left < 9223372036854775808 → ∃ l : Int, -9223372036854775808 ≤ l ∧ l < 9223372036854775808 ∧ pendulumref22_Light.l0 .lim (left, i, (j : Int), b, xs, q.1, q.2.1, q.2.2.1, q.2.2.2, ()) = some (l, i, b, xs, ()) := by
  intro n
  induction n with
  | zero =>
   intro left j i q hq hj h1 h2
   refine ⟨left, h1, h2, ?_⟩
   rw [pendulumref22_Light.q0]
   simp (disch := omega) only [smallI_t, inB_t, cutB_t, wrap64, dec_t, dec_f, dec_not, dec_and, dec_or, cond_ite, cond_true, cond_false, Option.bind_some, Option.bind_none, Bool.or_true, Bool.true_or, Bool.and_true, Bool.true_and, Bool.and_false, Bool.false_and, Bool.or_false, Bool.false_or, Bool.not_true, Bool.not_false, Bool.or_self, Bool.and_self, Bool.not_not, if_true, if_false, and_self, true_and, and_true, and_false, false_and, or_true, true_or, or_false, false_or, not_true_eq_false, not_false_eq_true, decide_true, decide_false, eq_self, if_pos, if_neg, mx_eq, mn_eq, pendulumref22_Light.b0, smallN hq.2.1]
  | succ n ih =>
   intro left j i q hq hj h1 h2
   have hb := @wrap64_lo (left - ((rd ([] : List Int) q.2.1 (j : Int)).length : Int))
   have hs := hq.2.2.1 (rd ([] : List Int) q.2.1 (j : Int)) (rd_mem (by omega) (by omega))
   by_cases hl : left ≥ 0
   ·obtain ⟨l, l1, l2, e⟩ := ih (IntKind.i64.wrap (left - ((rd ([] : List Int) q.2.1 (j : Int)).length : Int))) (j + 1) i q hq (by omega) hb.1 hb.2
    refine ⟨l, l1, l2, ?_⟩
    rw [pendulumref22_Light.q0, ← e]
    have hj' := hq.2.1
    simp only [pendulumref22_Light.b0, smallN hq.2.1, wk j (by omega), smallN hs, dec_t hl, dec_t (show (j : Int) < (q.2.1.length : Int) by omega), inB_t (show (0 : Int) ≤ j by omega) (show (j : Int) < q.2.1.length by omega)]
    simp only [cond_true, cond_false, Option.bind_some, Option.bind_none, Bool.or_true, Bool.true_or, Bool.and_true, Bool.true_and, Bool.and_false, Bool.false_and, Bool.or_false, Bool.false_or, Bool.not_true, Bool.not_false, Bool.or_self, Bool.and_self, Bool.not_not]
   ·refine ⟨left, h1, h2, ?_⟩
    rw [pendulumref22_Light.q0]
    simp (disch := omega) only [smallI_t, inB_t, cutB_t, wrap64, dec_t, dec_f, dec_not, dec_and, dec_or, cond_ite, cond_true, cond_false, Option.bind_some, Option.bind_none, Bool.or_true, Bool.true_or, Bool.and_true, Bool.true_and, Bool.and_false, Bool.false_and, Bool.or_false, Bool.false_or, Bool.not_true, Bool.not_false, Bool.or_self, Bool.and_self, Bool.not_not, if_true, if_false, and_self, true_and, and_true, and_false, false_and, or_true, true_or, or_false, false_or, not_true_eq_false, not_false_eq_true, decide_true, decide_false, eq_self, if_pos, if_neg, mx_eq, mn_eq, pendulumref22_Light.b0, smallN hq.2.1]
 have outer : ∀ (n : Nat) (left : Int) (i : Nat), i + n = xs.length → -9223372036854775808 ≤ left → left < 9223372036854775808 → ∃ l : Int, pendulumref22_Light.l1 .lim (left, (i : Int), b, xs, ()) = some (l, b, xs, ()) := by
  intro n
  induction n with
  | zero =>
   intro left i hi h1 h2
   refine ⟨left, ?_⟩
   rw [pendulumref22_Light.q1]
   simp (disch := omega) only [smallI_t, inB_t, cutB_t, wrap64, dec_t, dec_f, dec_not, dec_and, dec_or, cond_ite, cond_true, cond_false, Option.bind_some, Option.bind_none, Bool.or_true, Bool.true_or, Bool.and_true, Bool.true_and, Bool.and_false, Bool.false_and, Bool.or_false, Bool.false_or, Bool.not_true, Bool.not_false, Bool.or_self, Bool.and_self, Bool.not_not, if_true, if_false, and_self, true_and, and_true, and_false, false_and, or_true, true_or, or_false, false_or, not_true_eq_false, not_false_eq_true, decide_true, decide_false, eq_self, if_pos, if_neg, mx_eq, mn_eq, pendulumref22_Light.b1, smallN hx]
  | succ n ih =>
   intro left i hi h1 h2
   by_cases hl : left ≥ 0
   ·have hk : okK (rd k0 xs i) := h.at (v := (b, xs)) (by show i < xs.length; omega)
    rw [pendulumref22_Light.q1]
    simp only [pendulumref22_Light.b1, smallN hx, smallN hk.1, smallN hk.2.1, smallN hk.2.2.2.1, smallN hk.2.2.2.2, dec_t hl, dec_t (show (i : Int) < (xs.length : Int) by omega), inB_t (show (0 : Int) ≤ i by omega) (show (i : Int) < xs.length by omega)]
    simp only [cond_true, cond_false, Option.bind_some, Option.bind_none, Bool.or_true, Bool.true_or, Bool.and_true, Bool.true_and, Bool.and_false, Bool.false_and, Bool.or_false, Bool.false_or, Bool.not_true, Bool.not_false, Bool.or_self, Bool.and_self, Bool.not_not]
    obtain ⟨l, l1, l2, e⟩ := inner _ (IntKind.i64.wrap (IntKind.i64.wrap (IntKind.i64.wrap (IntKind.i64.wrap (IntKind.i64.wrap (left - 10) - ((rd k0 xs i).1.length : Int)) - ((rd k0 xs i).2.2.1.length : Int)) - ((rd k0 xs i).2.2.2.length : Int)) - ((rd k0 xs i).2.1.length : Int))) 0 (i : Int) (rd k0 xs i) hk (Nat.zero_add _) wrap64_lo.1 wrap64_lo.2
    rw [show ((0 : Nat) : Int) = 0 from rfl] at e
    rw [e]
    obtain ⟨l', e'⟩ := ih l (i + 1) (by omega) l1 l2
    refine ⟨l', ?_⟩
    rw [← e']
    simp (disch := omega) only [smallI_t, inB_t, cutB_t, wrap64, dec_t, dec_f, dec_not, dec_and, dec_or, cond_ite, cond_true, cond_false, Option.bind_some, Option.bind_none, Bool.or_true, Bool.true_or, Bool.and_true, Bool.true_and, Bool.and_false, Bool.false_and, Bool.or_false, Bool.false_or, Bool.not_true, Bool.not_false, Bool.or_self, Bool.and_self, Bool.not_not, if_true, if_false, and_self, true_and, and_true, and_false, false_and, or_true, true_or, or_false, false_or, not_true_eq_false, not_false_eq_true, decide_true, decide_false, eq_self, if_pos, if_neg, mx_eq, mn_eq, wk i (by omega)]
   ·refine ⟨left, ?_⟩
    rw [pendulumref22_Light.q1]
    simp (disch := omega) only [smallI_t, inB_t, cutB_t, wrap64, dec_t, dec_f, dec_not, dec_and, dec_or, cond_ite, cond_true, cond_false, Option.bind_some, Option.bind_none, Bool.or_true, Bool.true_or, Bool.and_true, Bool.true_and, Bool.and_false, Bool.false_and, Bool.or_false, Bool.false_or, Bool.not_true, Bool.not_false, Bool.or_self, Bool.and_self, Bool.not_not, if_true, if_false, and_self, true_and, and_true, and_false, false_and, or_true, true_or, or_false, false_or, not_true_eq_false, not_false_eq_true, decide_true, decide_false, eq_self, if_pos, if_neg, mx_eq, mn_eq, pendulumref22_Light.b1, smallN hx]
 obtain ⟨l, e⟩ := outer xs.length 400000 0 (by omega) (by omega) (by omega)
 rw [show ((0 : Nat) : Int) = 0 from rfl] at e
 refine ⟨decide (l ≥ 0) && decide ((xs.length : Int) ≤ 300), ?_⟩
 simp only [pendulumref22_Light.run, e, smallN hx]
 simp only [cond_true, cond_false, Option.bind_some, Option.bind_none, Bool.or_true, Bool.true_or, Bool.and_true, Bool.true_and, Bool.and_false, Bool.false_and, Bool.or_false, Bool.false_or, Bool.not_true, Bool.not_false, Bool.or_self, Bool.and_self, Bool.not_not, smallN hx]
end Go.AM
end
section
namespace Go.AM
def hit (key : List Int) (ad : List (List Int)) (t : List Int) (k : KK) : Bool := decide (k.2.2.2 = t) && decide (k.1 = key) && decide (k.2.1 = ad)
theorem lt63 {n : Nat} (h : n ≤ 140737488351232) : n < 9223372036854775808 := by omega
theorem ok_v {v : VV} (h : Ty.ok (.pair .bool (.lst (.pair .str (.pair (.lst .str) (.pair .str .str))))) v) : okV v := by
 obtain ⟨_, h1, h2⟩ := h
 refine ⟨lt63 h1, fun k hk => ?_⟩
 obtain ⟨a, ⟨b1, b2⟩, c, d⟩ := h2 k hk
 exact ⟨lt63 a.1, lt63 b1, fun s hs => lt63 (b2 s hs).1, lt63 c.1, lt63 d.1⟩
end Go.AM
end
section
namespace Go.AM
abbrev B8 (x : Int) : Prop := 0 ≤ x ∧ x < 256
theorem wrapu8_B (n : Int) : B8 (IntKind.u8.wrap n) := by rw [wrapu8]; unfold B8; omega
theorem wrapu8_id {n : Int} (h : B8 n) : IntKind.u8.wrap n = n := by rw [wrapu8]; unfold B8 at h; omega
theorem xor_B (a b : Int) : B8 (ixor .u8 a b) := by unfold ixor bits2; exact wrapu8_B _
theorem or_B (a b : Int) : B8 (ior .u8 a b) := by unfold ior bits2; exact wrapu8_B _
theorem shl_B (a b : Int) : B8 (ishl .u8 a b) := by unfold ishl; exact wrapu8_B _
theorem shr_eq {a k : Int} : ishr .u8 a k = a / 2 ^ min k.toNat 8 := by
 unfold ishr
 rw [Int.fdiv_eq_ediv_of_nonneg _ (Int.le_of_lt (Int.pow_pos (by omega)))]
 rfl
theorem xor_comm (a b : Int) : ixor .u8 a b = ixor .u8 b a := by
 show IntKind.u8.wrap (BitVec.ofInt 8 a ^^^ BitVec.ofInt 8 b).toNat = IntKind.u8.wrap (BitVec.ofInt 8 b ^^^ BitVec.ofInt 8 a).toNat
 rw [BitVec.xor_comm]
theorem ofInt_wrap8 (x : BitVec 8) : BitVec.ofInt 8 (IntKind.u8.wrap x.toNat) = x := by
 rw [wrapu8]
 apply BitVec.eq_of_toNat_eq
 have := x.isLt
 rw [BitVec.toNat_ofInt]
 omega
theorem xor_assoc (a b c : Int) : ixor .u8 (ixor .u8 a b) c = ixor .u8 a (ixor .u8 b c) := by
 show IntKind.u8.wrap (BitVec.ofInt 8 (IntKind.u8.wrap (BitVec.ofInt 8 a ^^^ BitVec.ofInt 8 b).toNat) ^^^ BitVec.ofInt 8 c).toNat = IntKind.u8.wrap (BitVec.ofInt 8 a ^^^ BitVec.ofInt 8 (IntKind.u8.wrap (BitVec.ofInt 8 b ^^^ BitVec.ofInt 8 c).toNat)).toNat
 rw [ofInt_wrap8, ofInt_wrap8, BitVec.xor_assoc]
theorem xor_self (a : Int) : ixor .u8 a a = 0 := by
 show IntKind.u8.wrap (BitVec.ofInt 8 a ^^^ BitVec.ofInt 8 a).toNat = 0
 rw [BitVec.xor_self]; rfl
theorem xor_zero {a : Int} (h : B8 a) : ixor .u8 a 0 = a := by
 show IntKind.u8.wrap (BitVec.ofInt 8 a ^^^ BitVec.ofInt 8 0).toNat = a
 rw [show BitVec.ofInt 8 0 = 0#8 from rfl, BitVec.xor_zero, BitVec.toNat_ofInt, wrapu8]
 unfold B8 at h
 omega
theorem zero_xor {a : Int} (h : B8 a) : ixor .u8 0 a = a := by rw [xor_comm, xor_zero h]
theorem byte_cases {p : Int → Prop} (h : ∀ n : Nat, n < 256 → p n) {a : Int} (ha : B8 a) : p a := by
 have := h a.toNat (by unfold B8 at ha; omega)
 rwa [show ((a.toNat : Nat) : Int) = a by unfold B8 at ha; omega] at this
def tab (n : Nat) (g : Nat → Int) : List Int := (List.range n).map g
@[simp] theorem tab_len {n : Nat} {g : Nat → Int} : (tab n g).length = n := by simp [tab]
theorem rd_tab {n : Nat} {g : Nat → Int} {k : Nat} (h : k < n) : rd 0 (tab n g) (k : Int) = g k := by
 rw [rd_ix (by simpa using h)]; simp [tab]
theorem rd_tabI {n : Nat} {g : Nat → Int} {k : Int} (h0 : 0 ≤ k) (h : k < n) : rd 0 (tab n g) k = g k.toNat := by
 have := rd_tab (n := n) (g := g) (k := k.toNat) (by omega)
 rwa [show ((k.toNat : Nat) : Int) = k by omega] at this
theorem tab_congr {n : Nat} {g h : Nat → Int} (e : ∀ k, k < n → g k = h k) : tab n g = tab n h := by
 unfold tab; exact List.map_congr_left fun k hk => e k (List.mem_range.1 hk)
theorem tab_set {n : Nat} {g : Nat → Int} {k : Nat} {v : Int} : (tab n g).set k v = tab n fun i => if i = k then v else g i := by
 unfold tab
 apply List.ext_getElem (by simp)
 intro i h1 h2
 simp only [List.getElem_set, List.getElem_map, List.getElem_range]
 by_cases h : k = i
 ·rw [if_pos h, if_pos h.symm]
 ·rw [if_neg h, if_neg (Ne.symm h)]
theorem tab_of {m : List Int} {n : Nat} (h : m.length = n) : m = tab n fun i => rd 0 m (i : Int) := by
 apply rd_ext (d := 0) (by simp [h])
 intro k hk
 rw [rd_tab (by omega)]
def tabP (n k : Nat) (g : Nat → Int) : List Int := tab n fun i => if i < k then g i else 0
@[simp] theorem tabP_len {n k : Nat} {g : Nat → Int} : (tabP n k g).length = n := tab_len
theorem tabP_zero {n : Nat} {g : Nat → Int} : tabP n 0 g = List.replicate n 0 := by
 unfold tabP tab
 rw [List.eq_replicate_iff]
 exact ⟨by simp, fun b hb => by obtain ⟨i, _, rfl⟩ := List.mem_map.1 hb; simp⟩
theorem tabP_end {n : Nat} {g : Nat → Int} : tabP n n g = tab n g := tab_congr fun k hk => by rw [if_pos hk]
theorem tabP_set {n k : Nat} {g : Nat → Int} {v : Int} (h : v = g k) : (tabP n k g).set k v = tabP n (k + 1) g := by
 unfold tabP
 rw [tab_set]
 refine tab_congr fun i _ => ?_
 by_cases h1 : i = k
 ·subst h1; rw [if_pos rfl, if_pos (by omega), h]
 ·rw [if_neg h1]
  by_cases h2 : i < k
  ·rw [if_pos h2, if_pos (by omega)]
  ·rw [if_neg h2, if_neg (by omega)]
theorem rd_tabP {n k : Nat} {g : Nat → Int} (h : k < n) : rd 0 (tabP n k g) (k : Int) = 0 := by
 unfold tabP; rw [rd_tab h, if_neg (by omega)]
theorem rd_set {m : List Int} {k : Nat} {v : Int} (h : k < m.length) : rd 0 (m.set k v) (k : Int) = v := by
 rw [rd_ix (by simpa using h)]; simp
theorem loop_upd {α β : Type} {f : α → Option β} (st : Nat → List Int → α) (g : Nat → Int → Int) (m : List Int) {n : Nat} (hn : m.length = n)
  (h : ∀ k, k < n → ∀ m' : List Int, m'.length = n → (∀ j, k ≤ j → rd 0 m' (j : Int) = rd 0 m (j : Int)) → f (st k m') = f (st (k + 1) (m'.set k (g k (rd 0 m (k : Int)))))) :
  f (st 0 m) = f (st n (tab n fun i => g i (rd 0 m (i : Int)))) := by
 have key : ∀ k, k ≤ n → f (st 0 m) = f (st k (tab n fun i => if i < k then g i (rd 0 m (i : Int)) else rd 0 m (i : Int))) := by
  intro k
  induction k with
  | zero =>
   intro _
   rw [show (tab n fun i => if i < 0 then g i (rd 0 m (i : Int)) else rd 0 m (i : Int)) = m from by
    conv => rhs; rw [tab_of hn]
    exact tab_congr fun i _ => by rw [if_neg (by omega)]]
  | succ k ih =>
   intro hk
   rw [ih (by omega), h k (by omega) _ (by simp) fun j hj => by
    by_cases hjn : j < n
    ·rw [rd_tab hjn, if_neg (by omega)]
    ·unfold rd
     rw [Int.toNat_natCast, List.getD_eq_getElem?_getD, List.getD_eq_getElem?_getD, List.getElem?_eq_none (by simp; omega), List.getElem?_eq_none (by omega)]]
   congr 2
   rw [tab_set]
   refine tab_congr fun i _ => ?_
   by_cases h1 : i = k
   ·subst h1; rw [if_pos rfl, if_pos (by omega)]
   ·rw [if_neg h1]
    by_cases h2 : i < k
    ·rw [if_pos h2, if_pos (by omega)]
    ·rw [if_neg h2, if_neg (by omega)]
 rw [key n (Nat.le_refl _)]
 congr 2
 exact tab_congr fun i hi => by rw [if_pos hi]
theorem list4 {t : List Int} (h : t.length = 4) : t = [rd 0 t 0, rd 0 t 1, rd 0 t 2, rd 0 t 3] := by
 match t, h with
 | [a, b, c, d], _ => rfl
theorem wk' (k : Nat) (h : k < 4611686018427387904) : IntKind.i64.wrap ((k : Int) + 1) = ((k + 1 : Nat) : Int) := by
 rw [wrap64 (by omega) (by omega)]; omega
end Go.AM
end
section
namespace Go.AM
def tmS : Nat → Int → Int → Int → Int
 | 0, _, _, r => r
 | n + 1, a, b, r => tmS n (bif decide (iand .u8 a 128 = 0) then ishl .u8 a 1 else ixor .u8 (ishl .u8 a 1) 27) (ishr .u8 b 1) (bif decide (iand .u8 b 1 = 1) then ixor .u8 r a else r)
def tm (a b : Int) : Int := tmS 8 a b 0
theorem tmS_B : ∀ n a b r, B8 r → B8 (tmS n a b r)
 | 0, _, _, _, h => h
 | n + 1, a, b, r, h => tmS_B n _ _ _ (by cases decide (iand .u8 b 1 = 1) <;> first | exact h | exact xor_B _ _)
theorem tm_B (a b : Int) : B8 (tm a b) := tmS_B 8 a b 0 ⟨by decide, by decide⟩
theorem rtimes_eq (a b : Int) : pendulumref08_Times.run .lim (a, b, ()) = some (tm a b) := by
 have key : ∀ (n i : Nat) (a b r : Int), i + n = 8 → pendulumref08_Times.l0 .lim (a, b, r, (i : Int), ()) = some (tmS n a b r, ()) := by
  intro n
  induction n with
  | zero =>
   intro i a b r h
   rw [pendulumref08_Times.q0]
   simp (disch := omega) only [smallI_t, inB_t, cutB_t, wrap64, dec_t, dec_f, dec_not, dec_and, dec_or, cond_ite, cond_true, cond_false, Option.bind_some, Option.bind_none, Bool.or_true, Bool.true_or, Bool.and_true, Bool.true_and, Bool.and_false, Bool.false_and, Bool.or_false, Bool.false_or, Bool.not_true, Bool.not_false, Bool.or_self, Bool.and_self, Bool.not_not, if_true, if_false, and_self, true_and, and_true, and_false, false_and, or_true, true_or, or_false, false_or, not_true_eq_false, not_false_eq_true, decide_true, decide_false, eq_self, if_pos, if_neg, mx_eq, mn_eq, pendulumref08_Times.b0]
   rfl
  | succ n ih =>
   intro i a b r h
   rw [pendulumref08_Times.q0]
   simp only [pendulumref08_Times.b0, wk' i (by omega), ih (i + 1) _ _ _ (by omega), dec_t (show (i : Int) < 8 by omega), cond_true]
   rw [tmS]
   cases decide (iand .u8 b 1 = 1) <;> cases decide (iand .u8 a 128 = 0) <;> rfl
 have := key 8 0 a b 0 rfl
 rw [show ((0 : Nat) : Int) = 0 from rfl] at this
 simp only [pendulumref08_Times.run, this, Option.bind_some]
 rfl
theorem tmS_zero : ∀ n a r, tmS n a 0 r = r
 | 0, _, _ => rfl
 | n + 1, a, r => by
  rw [tmS, show ishr .u8 0 1 = 0 from by decide, tmS_zero n]
  rfl
theorem step_a {a : Int} (h : B8 a) : ixor .u8 (ishl .u8 a 1) (IntKind.u8.wrap (ishr .u8 a 7 * 27)) = bif decide (iand .u8 a 128 = 0) then ishl .u8 a 1 else ixor .u8 (ishl .u8 a 1) 27 :=
 byte_cases (p := fun a => ixor .u8 (ishl .u8 a 1) (IntKind.u8.wrap (ishr .u8 a 7 * 27)) = bif decide (iand .u8 a 128 = 0) then ishl .u8 a 1 else ixor .u8 (ishl .u8 a 1) 27) (by decide +kernel) h
theorem bit_b {b : Int} (h : B8 b) : iand .u8 b 1 = 0 ∨ iand .u8 b 1 = 1 :=
 byte_cases (p := fun b => iand .u8 b 1 = 0 ∨ iand .u8 b 1 = 1) (by decide +kernel) h
theorem step_B {a : Int} : B8 (bif decide (iand .u8 a 128 = 0) then ishl .u8 a 1 else ixor .u8 (ishl .u8 a 1) 27) := by
 cases decide (iand .u8 a 128 = 0)
 ·exact xor_B _ _
 ·exact shl_B _ _
theorem atimes_eq {a b : Int} (ha : B8 a) (hb : B8 b) : aes_Times.run .lim (a, b, ()) = some (tm a b) := by
 have key : ∀ (n : Nat) (a b r : Int), B8 a → B8 r → 0 ≤ b → b < 2 ^ n → n ≤ 8 → aes_Times.l0 .lim (a, b, r, ()) = some (tmS n a b r, ()) := by
  intro n
  induction n with
  | zero =>
   intro a b r ha hr h0 h1 _
   obtain rfl : b = 0 := by simp at h1; omega
   rw [aes_Times.q0]
   simp (disch := omega) only [smallI_t, inB_t, cutB_t, wrap64, dec_t, dec_f, dec_not, dec_and, dec_or, cond_ite, cond_true, cond_false, Option.bind_some, Option.bind_none, Bool.or_true, Bool.true_or, Bool.and_true, Bool.true_and, Bool.and_false, Bool.false_and, Bool.or_false, Bool.false_or, Bool.not_true, Bool.not_false, Bool.or_self, Bool.and_self, Bool.not_not, if_true, if_false, and_self, true_and, and_true, and_false, false_and, or_true, true_or, or_false, false_or, not_true_eq_false, not_false_eq_true, decide_true, decide_false, eq_self, if_pos, if_neg, mx_eq, mn_eq, aes_Times.b0]
   rfl
  | succ n ih =>
   intro a b r ha hr h0 h1 hn
   have hb : B8 b := by
    refine ⟨h0, Int.lt_of_lt_of_le h1 ?_⟩
    have h2 : (2 : Int) ^ (n + 1) = ((2 ^ (n + 1) : Nat) : Int) := by simp
    have h3 : 2 ^ (n + 1) ≤ 2 ^ 8 := Nat.pow_le_pow_right (by omega) hn
    rw [h2]; omega
   rw [aes_Times.q0]
   by_cases hz : b = 0
   ·subst hz
    rw [tmS_zero]
    simp (disch := omega) only [smallI_t, inB_t, cutB_t, wrap64, dec_t, dec_f, dec_not, dec_and, dec_or, cond_ite, cond_true, cond_false, Option.bind_some, Option.bind_none, Bool.or_true, Bool.true_or, Bool.and_true, Bool.true_and, Bool.and_false, Bool.false_and, Bool.or_false, Bool.false_or, Bool.not_true, Bool.not_false, Bool.or_self, Bool.and_self, Bool.not_not, if_true, if_false, and_self, true_and, and_true, and_false, false_and, or_true, true_or, or_false, false_or, not_true_eq_false, not_false_eq_true, decide_true, decide_false, eq_self, if_pos, if_neg, mx_eq, mn_eq, aes_Times.b0]
   ·have hs : ishr .u8 b 1 = b / 2 := by rw [shr_eq]; rfl
    have hm : IntKind.u8.wrap (a * iand .u8 b 1) = bif decide (iand .u8 b 1 = 1) then a else 0 := by
     rcases bit_b hb with e | e
     ·rw [e]; simp; decide
     ·rw [e, Int.mul_one, wrapu8_id ha]; rfl
    have hx : ixor .u8 r (bif decide (iand .u8 b 1 = 1) then a else 0) = bif decide (iand .u8 b 1 = 1) then ixor .u8 r a else r := by
     cases decide (iand .u8 b 1 = 1)
     ·exact xor_zero hr
     ·rfl
    have hr' : B8 (bif decide (iand .u8 b 1 = 1) then ixor .u8 r a else r) := by
     cases decide (iand .u8 b 1 = 1)
     ·exact hr
     ·exact xor_B _ _
    have h2 := ih _ (ishr .u8 b 1) _ (@step_B a) hr' (by rw [hs]; omega) (by rw [hs, Int.pow_succ] at *; omega) (by omega)
    simp only [aes_Times.b0, dec_t (show b > 0 by omega), cond_true, step_a ha, hm, hx]
    rw [h2, tmS]
 have := key 8 a b 0 ha ⟨by decide, by decide⟩ hb.1 hb.2 (by omega)
 simp only [aes_Times.run, this, Option.bind_some]
 rfl
noncomputable def sbx (b : Int) : Int := (pendulumref08_Sub.run (.fuel 0) (b, ())).getD 0
set_option maxRecDepth 20000 in
theorem rsub_eq {b : Int} (h : B8 b) : pendulumref08_Sub.run .lim (b, ()) = some (sbx b) := by
 have h1 : ∀ b : Int, B8 b → ∃ r, pendulumref08_Sub.run (.fuel 0) (b, ()) = some r := by
  intro b hb
  exact ⟨_, cond_pos (inB_t hb.1 hb.2)⟩
 obtain ⟨r, hr⟩ := h1 b h
 have : pendulumref08_Sub.run .lim (b, ()) = some r := hr
 rw [this]; unfold sbx; rw [hr]; rfl
def invS : Nat → Int → Int → Int
 | 0, r, _ => r
 | n + 1, r, s => invS n (tm r (tm s s)) (tm s s)
def rotS (b n : Int) : Int := ior .u8 (ishl .u8 b n) (ishr .u8 b (8 - n))
def subS (b : Int) : Int := ixor .u8 (ixor .u8 (ixor .u8 (ixor .u8 (ixor .u8 (invS 7 1 b) (rotS (invS 7 1 b) 1)) (rotS (invS 7 1 b) 2)) (rotS (invS 7 1 b) 3)) (rotS (invS 7 1 b) 4)) 99
theorem inverse_eq {b : Int} (hb : B8 b) : aes_inverse.run .lim (b, ()) = some (invS 7 1 b) := by
 have key : ∀ (n i : Nat) (r s : Int), i + n = 7 → B8 r → B8 s → aes_inverse.l0 .lim (r, s, (i : Int), ()) = some (invS n r s, ()) := by
  intro n
  induction n with
  | zero =>
   intro i r s h _ _
   rw [aes_inverse.q0]
   simp (disch := omega) only [smallI_t, inB_t, cutB_t, wrap64, dec_t, dec_f, dec_not, dec_and, dec_or, cond_ite, cond_true, cond_false, Option.bind_some, Option.bind_none, Bool.or_true, Bool.true_or, Bool.and_true, Bool.true_and, Bool.and_false, Bool.false_and, Bool.or_false, Bool.false_or, Bool.not_true, Bool.not_false, Bool.or_self, Bool.and_self, Bool.not_not, if_true, if_false, and_self, true_and, and_true, and_false, false_and, or_true, true_or, or_false, false_or, not_true_eq_false, not_false_eq_true, decide_true, decide_false, eq_self, if_pos, if_neg, mx_eq, mn_eq, aes_inverse.b0]
   rfl
  | succ n ih =>
   intro i r s h hr hs
   rw [aes_inverse.q0]
   simp only [aes_inverse.b0, wk' i (by omega), dec_t (show (i : Int) < 7 by omega), cond_true, atimes_eq hs hs, Option.bind_some, atimes_eq hr (tm_B s s), ih (i + 1) _ _ (by omega) (tm_B _ _) (tm_B _ _)]
   rfl
 have := key 7 0 1 b rfl ⟨by decide, by decide⟩ hb
 rw [show ((0 : Nat) : Int) = 0 from rfl] at this
 simp only [aes_inverse.run, this, Option.bind_some]
theorem asub_S {b : Int} (hb : B8 b) : aes_Sub.run .lim (b, ()) = some (subS b) := by
 simp only [aes_Sub.run, inverse_eq hb, Option.bind_some]
 have w : ∀ n : Int, aes_turn.run .lim (invS 7 1 b, n, ()) = bif decide (0 ≤ n) then (bif decide (0 ≤ IntKind.i64.wrap (8 - n)) then some (ior .u8 (ishl .u8 (invS 7 1 b) n) (ishr .u8 (invS 7 1 b) (IntKind.i64.wrap (8 - n)))) else none) else none := fun n => rfl
 rw [w, w, w, w]
 rfl
theorem sub_table : ∀ n : Nat, n < 256 → subS n = sbx n := by decide +kernel
theorem asub_eq {b : Int} (hb : B8 b) : aes_Sub.run .lim (b, ()) = some (sbx b) := by
 rw [asub_S hb, byte_cases (p := fun b => subS b = sbx b) sub_table hb]
theorem sbx_B {b : Int} (hb : B8 b) : B8 (sbx b) := by
 rw [← byte_cases (p := fun b => subS b = sbx b) sub_table hb]; exact xor_B _ _
end Go.AM
end
section
namespace Go.AM
abbrev z4 : List Int := List.replicate 4 0
abbrev z16 : List Int := List.replicate 16 0
abbrev z256 : List Int := List.replicate 256 0
abbrev kL : List Int := [1, 2, 3, 9, 11, 13, 14]
theorem kL_ok : ∀ k : Nat, k < 7 → 0 ≤ rd 0 kL (k : Int) ∧ rd 0 kL (k : Int) < 16 := by decide
def rowsT (k : Nat) : List (List Int) :=
 let t := fun j : Int => tabP 256 k fun i => tm (i : Int) j
 [z256, t 1, t 2, t 3, z256, z256, z256, z256, z256, t 9, z256, t 11, z256, t 13, t 14, z256]
def rowsS (i : Nat) (yb : List (List Int)) : Nat → List (List Int)
 | 0 => yb
 | k + 1 => (rowsS i yb k).set (rd 0 kL (k : Int)).toNat ((rd z256 (rowsS i yb k) (rd 0 kL (k : Int))).set i (tm (i : Int) (rd 0 kL (k : Int))))
theorem rowsS_7 (k : Nat) : rowsS k (rowsT k) 7 = rowsT (k + 1) := by
 have e : rowsS k (rowsT k) 7 = (
  let t := fun j : Int => (tabP 256 k fun i => tm (i : Int) j).set k (tm (k : Int) j)
  [z256, t 1, t 2, t 3, z256, z256, z256, z256, z256, t 9, z256, t 11, z256, t 13, t 14, z256]) := rfl
 have h : ∀ j : Int, (tabP 256 k fun i => tm (i : Int) j).set k (tm (k : Int) j) = tabP 256 (k + 1) fun i => tm (i : Int) j := fun j => tabP_set rfl
 rw [e]
 simp only [h]
 rfl
theorem rowsT_zero : rowsT 0 = List.replicate 16 z256 := by
 unfold rowsT
 simp only [tabP_zero]
 rfl
noncomputable def bkS : Nat → List Int
 | 0 => z256
 | k + 1 => (bkS k).set (sbx (k : Int)).toNat (k : Int)
noncomputable def sbT (k : Nat) : List Int := tabP 256 k fun i => sbx (i : Int)
theorem rd_sbT {x : Int} (h : B8 x) : rd 0 (sbT 256) x = sbx x := by
 unfold sbT
 rw [tabP_end, rd_tabI h.1 (by exact h.2), show ((x.toNat : Nat) : Int) = x by have := h.1; omega]
theorem rd_rows {x : Int} (h : B8 x) : rd 0 (rd z256 (rowsT 256) 1) x = tm x 1 ∧ rd 0 (rd z256 (rowsT 256) 2) x = tm x 2 ∧ rd 0 (rd z256 (rowsT 256) 3) x = tm x 3 := by
 have e : ∀ j : Int, rd 0 (tabP 256 256 fun i => tm (i : Int) j) x = tm x j := fun j => by
  rw [tabP_end, rd_tabI h.1 (by exact h.2), show ((x.toNat : Nat) : Int) = x by have := h.1; omega]
 exact ⟨e 1, e 2, e 3⟩
def word (key : List Int) (j : Nat) : List Int := [rd 0 key ((4 * j : Nat) : Int), rd 0 key ((4 * j + 1 : Nat) : Int), rd 0 key ((4 * j + 2 : Nat) : Int), rd 0 key ((4 * j + 3 : Nat) : Int)]
theorem drop4 {m : List Int} {k : Nat} (h : k + 4 ≤ m.length) : (m.drop k).take 4 = [rd 0 m (k : Int), rd 0 m ((k + 1 : Nat) : Int), rd 0 m ((k + 2 : Nat) : Int), rd 0 m ((k + 3 : Nat) : Int)] := by
 rw [rd_ix (show k < m.length by omega), rd_ix (show k + 1 < m.length by omega), rd_ix (show k + 2 < m.length by omega), rd_ix (show k + 3 < m.length by omega)]
 rw [List.drop_eq_getElem_cons (show k < m.length by omega), List.drop_eq_getElem_cons (show k + 1 < m.length by omega), List.drop_eq_getElem_cons (show k + 2 < m.length by omega), List.drop_eq_getElem_cons (show k + 3 < m.length by omega)]
 rfl
theorem cutN {α : Type} (m : List α) (a b : Nat) : cut m (a : Int) (b : Int) = (m.drop a).take (b - a) := by
 unfold cut; rw [Int.toNat_natCast, Int.toNat_natCast, List.drop_take]
theorem cut_word {key : List Int} {j : Nat} (h : 4 * j + 4 ≤ key.length) : (cut key ((4 * j : Nat) : Int) ((4 * j + 4 : Nat) : Int)).take 4 = word key j := by
 rw [cutN, show 4 * j + 4 - 4 * j = 4 by omega, List.take_take, Nat.min_self, drop4 h]
 rfl
def Words (W : List (List Int)) : Prop := ∀ w ∈ W, w.length = 4 ∧ ∀ x ∈ w, B8 x
theorem Words.at {W : List (List Int)} (h : Words W) {i : Nat} (hi : i < W.length) : (rd z4 W (i : Int)).length = 4 ∧ ∀ x ∈ rd z4 W (i : Int), B8 x := h _ (rd_mem (by omega) (by omega))
theorem Words.byte {W : List (List Int)} (h : Words W) {i : Nat} (hi : i < W.length) {j : Int} (h0 : 0 ≤ j) (hj : j < 4) : B8 (rd 0 (rd z4 W (i : Int)) j) := by
 have := h.at hi
 exact this.2 _ (rd_mem h0 (by omega))
theorem flat_len {W : List (List Int)} (h : Words W) : W.flatten.length = 4 * W.length := by
 induction W with
 | nil => rfl
 | cons w W ih =>
  rw [List.flatten_cons, List.length_append, ih fun x hx => h x (.tail _ hx), (h w (.head _)).1, List.length_cons]; omega
theorem rd_flat {W : List (List Int)} (h : Words W) {i j : Nat} (hi : i < W.length) (hj : j < 4) : rd 0 W.flatten ((4 * i + j : Nat) : Int) = rd 0 (rd z4 W (i : Int)) (j : Int) := by
 induction W generalizing i with
 | nil => simp at hi
 | cons w W ih =>
  have hw := (h w (.head _)).1
  cases i with
  | zero =>
   unfold rd
   simp only [Int.toNat_natCast, List.flatten_cons, List.getD_eq_getElem?_getD]
   rw [List.getElem?_append_left (by omega)]
   simp
  | succ i =>
   have := ih (fun x hx => h x (.tail _ hx)) (by simpa using hi)
   unfold rd at this ⊢
   simp only [Int.toNat_natCast, List.flatten_cons, List.getD_eq_getElem?_getD] at this ⊢
   rw [List.getElem?_append_right (by omega), show 4 * (i + 1) + j - w.length = 4 * i + j by omega, this]
   simp
noncomputable def turnW (nk : Nat) (i : Nat) (x : Int) (t : List Int) : List Int :=
 if i % nk = 0 then [ixor .u8 (sbx (rd 0 t 1)) x, sbx (rd 0 t 2), sbx (rd 0 t 3), sbx (rd 0 t 0)]
 else if nk = 8 ∧ i % 8 = 4 then [sbx (rd 0 t 0), sbx (rd 0 t 1), sbx (rd 0 t 2), sbx (rd 0 t 3)]
 else [rd 0 t 0, rd 0 t 1, rd 0 t 2, rd 0 t 3]
def xor4 (t w : List Int) : List Int := [ixor .u8 (rd 0 t 0) (rd 0 w 0), ixor .u8 (rd 0 t 1) (rd 0 w 1), ixor .u8 (rd 0 t 2) (rd 0 w 2), ixor .u8 (rd 0 t 3) (rd 0 w 3)]
noncomputable def stepW (nk : Nat) (s : List (List Int) × Int) : List (List Int) × Int :=
 (s.1 ++ [xor4 (turnW nk s.1.length s.2 (rd z4 s.1 ((s.1.length - 1 : Nat) : Int))) (rd z4 s.1 ((s.1.length - nk : Nat) : Int))], if s.1.length % nk = 0 then tm s.2 2 else s.2)
noncomputable def sched (nk : Nat) (key : List Int) : Nat → List (List Int) × Int
 | 0 => ((List.range nk).map (word key), 1)
 | k + 1 => stepW nk (sched nk key k)
theorem sched_len (nk : Nat) (key : List Int) : ∀ k, (sched nk key k).1.length = nk + k
 | 0 => by simp [sched]
 | k + 1 => by rw [sched, stepW, List.length_append, sched_len nk key k]; rfl
theorem xor4_ok (t w : List Int) : (xor4 t w).length = 4 ∧ ∀ x ∈ xor4 t w, B8 x := by
 refine ⟨rfl, fun x hx => ?_⟩
 simp only [xor4, List.mem_cons, List.not_mem_nil, or_false] at hx
 rcases hx with rfl | rfl | rfl | rfl <;> exact xor_B _ _
theorem sched_ok (nk : Nat) (key : List Int) (hk : 4 * nk ≤ key.length) (hb : ∀ x ∈ key, B8 x) : ∀ k, Words (sched nk key k).1 ∧ B8 (sched nk key k).2
 | 0 => by
  refine ⟨fun w hw => ?_, show B8 1 from ⟨by decide, by decide⟩⟩
  obtain ⟨j, hj, rfl⟩ := List.mem_map.1 hw
  have hj := List.mem_range.1 hj
  refine ⟨rfl, fun x hx => ?_⟩
  simp only [word, List.mem_cons, List.not_mem_nil, or_false] at hx
  rcases hx with rfl | rfl | rfl | rfl <;> exact hb _ (rd_mem (by omega) (by omega))
 | k + 1 => by
  obtain ⟨h1, h2⟩ := sched_ok nk key hk hb k
  refine ⟨fun w hw => ?_, ?_⟩
  ·rcases List.mem_append.1 hw with hw | hw
   ·exact h1 w hw
   ·rw [List.mem_singleton.1 hw]; exact xor4_ok _ _
  ·show B8 (if _ then tm _ 2 else _)
   split
   ·exact tm_B _ _
   ·exact h2
noncomputable def allW (key : List Int) : List (List Int) := (sched (key.length / 4) key (3 * (key.length / 4) + 28)).1
theorem allW_len (key : List Int) : (allW key).length = 4 * (key.length / 4) + 28 := by unfold allW; rw [sched_len]; omega
theorem allW_ok (key : List Int) (hb : ∀ x ∈ key, B8 x) : Words (allW key) := (sched_ok _ key (by omega) hb _).1
def rndK (W : List (List Int)) (j : Nat) : List Int := rd z4 W ((4 * j : Nat) : Int) ++ (rd z4 W ((4 * j + 1 : Nat) : Int) ++ (rd z4 W ((4 * j + 2 : Nat) : Int) ++ rd z4 W ((4 * j + 3 : Nat) : Int)))
def rnds (W : List (List Int)) : List (List Int) := (List.range (W.length / 4)).map (rndK W)
theorem rndK_len {W : List (List Int)} (h : Words W) {j : Nat} (hj : 4 * j + 3 < W.length) : (rndK W j).length = 16 := by
 unfold rndK
 simp only [List.length_append, (h.at (show 4 * j < W.length by omega)).1, (h.at (show 4 * j + 1 < W.length by omega)).1, (h.at (show 4 * j + 2 < W.length by omega)).1, (h.at hj).1]
theorem flat_at {W : List (List Int)} (h : Words W) {i : Nat} (hi : i < W.length) : (W.flatten.drop (4 * i)).take 4 = rd z4 W (i : Int) := by
 have hl := flat_len h
 rw [drop4 (by omega), list4 (h.at hi).1]
 have := rd_flat h hi (j := 0) (by omega)
 rw [show 4 * i + 0 = 4 * i from rfl] at this
 rw [this, rd_flat h hi (j := 1) (by omega), rd_flat h hi (j := 2) (by omega), rd_flat h hi (j := 3) (by omega)]
 rfl
theorem cut_flat {W : List (List Int)} (h : Words W) {j : Nat} (hj : 4 * j + 3 < W.length) : cut W.flatten ((16 * j : Nat) : Int) ((16 * j + 16 : Nat) : Int) = rndK W j := by
 have hl := flat_len h
 have e0 := flat_at h (show 4 * j < W.length by omega)
 have e1 := flat_at h (show 4 * j + 1 < W.length by omega)
 have e2 := flat_at h (show 4 * j + 2 < W.length by omega)
 have e3 := flat_at h hj
 rw [show 4 * (4 * j) = 16 * j by omega] at e0
 rw [show 4 * (4 * j + 1) = 16 * j + 4 by omega] at e1
 rw [show 4 * (4 * j + 2) = 16 * j + 8 by omega] at e2
 rw [show 4 * (4 * j + 3) = 16 * j + 12 by omega] at e3
 rw [cutN, show 16 * j + 16 - 16 * j = 4 + (4 + (4 + 4)) by omega, List.take_add, List.take_add, List.take_add, List.drop_drop, List.drop_drop, List.drop_drop]
 unfold rndK
 rw [e0, e1, show 16 * j + 4 + 4 = 16 * j + 8 by omega, e2, show 16 * j + 8 + 4 = 16 * j + 12 by omega, e3]
noncomputable def shiftS (b : List Int) : List Int := tab 16 fun i => sbx (rd 0 b (((i + 4 * (i % 4)) % 16 : Nat) : Int))
def mixS (b : List Int) : List Int := tab 16 fun i =>
 ixor .u8 (ixor .u8 (ixor .u8 (ixor .u8 0 (tm (rd 0 b ((i / 4 * 4 + i % 4 : Nat) : Int)) 2)) (tm (rd 0 b ((i / 4 * 4 + (i + 1) % 4 : Nat) : Int)) 3)) (tm (rd 0 b ((i / 4 * 4 + (i + 2) % 4 : Nat) : Int)) 1)) (tm (rd 0 b ((i / 4 * 4 + (i + 3) % 4 : Nat) : Int)) 1)
def plusS (b k : List Int) : List Int := tab 16 fun i => ixor .u8 (rd 0 b (i : Int)) (rd 0 k (i : Int))
noncomputable def rndS (last : Bool) (b k : List Int) : List Int := plusS (bif last then shiftS b else mixS (shiftS b)) k
noncomputable def encN (W : List (List Int)) (b : List Int) : Nat → List Int
 | 0 => plusS b (rndK W 0)
 | j + 1 => rndS (decide (j + 2 = W.length / 4)) (encN W b j) (rndK W (j + 1))
noncomputable def encS (key b : List Int) : List Int := encN (allW key) b ((allW key).length / 4 - 1)
def Blk (b : List Int) : Prop := b.length = 16 ∧ ∀ x ∈ b, B8 x
theorem tab_B {n : Nat} {g : Nat → Int} (h : ∀ k, k < n → B8 (g k)) : ∀ x ∈ tab n g, B8 x := by
 intro x hx
 obtain ⟨i, hi, rfl⟩ := List.mem_map.1 hx
 exact h i (List.mem_range.1 hi)
theorem plusS_ok (b k : List Int) : Blk (plusS b k) := ⟨tab_len, tab_B fun _ _ => xor_B _ _⟩
theorem encN_ok (W : List (List Int)) (b : List Int) : ∀ j, Blk (encN W b j)
 | 0 => plusS_ok _ _
 | _ + 1 => plusS_ok _ _
theorem encS_ok (key b : List Int) : Blk (encS key b) := encN_ok _ _ _
theorem Blk.at {b : List Int} (h : Blk b) {i : Nat} (hi : i < 16) : B8 (rd 0 b (i : Int)) := h.2 _ (rd_mem (by omega) (by rw [h.1]; omega))
end Go.AM
end
section
namespace Go.AM
theorem rd40 (a b c d : Int) : rd 0 [a, b, c, d] 0 = a := rfl
theorem rd41 (a b c d : Int) : rd 0 [a, b, c, d] 1 = b := rfl
theorem rd42 (a b c d : Int) : rd 0 [a, b, c, d] 2 = c := rfl
theorem rd43 (a b c d : Int) : rd 0 [a, b, c, d] 3 = d := rfl
theorem rd_app {α : Type} {d : α} {a b : List α} {k : Nat} (h : k < a.length) : rd d (a ++ b) (k : Int) = rd d a (k : Int) := by
 unfold rd; rw [Int.toNat_natCast, List.getD_eq_getElem?_getD, List.getD_eq_getElem?_getD, List.getElem?_append_left h]
theorem words_flat {key : List Int} {q : Nat} (h : key.length = 4 * q) (hb : ∀ x ∈ key, B8 x) : ((List.range q).map (word key)).flatten = key := by
 have hW : Words ((List.range q).map (word key)) := by
  intro w hw
  obtain ⟨j, hj, rfl⟩ := List.mem_map.1 hw
  have hj := List.mem_range.1 hj
  refine ⟨rfl, fun x hx => ?_⟩
  simp only [word, List.mem_cons, List.not_mem_nil, or_false] at hx
  rcases hx with rfl | rfl | rfl | rfl <;> exact hb _ (rd_mem (by omega) (by omega))
 have hl := flat_len hW
 rw [List.length_map, List.length_range] at hl
 refine rd_ext (d := 0) (by omega) fun k hk => ?_
 have hi : k / 4 < ((List.range q).map (word key)).length := by simp; omega
 have := rd_flat hW hi (j := k % 4) (by omega)
 rw [show 4 * (k / 4) + k % 4 = k by omega] at this
 rw [this, rd_ix hi]
 simp only [List.getElem_map, List.getElem_range, word]
 rcases (show k % 4 = 0 ∨ k % 4 = 1 ∨ k % 4 = 2 ∨ k % 4 = 3 by omega) with e | e | e | e <;> rw [e]
 ·show rd 0 key ((4 * (k / 4) : Nat) : Int) = _; congr 2; omega
 ·show rd 0 key ((4 * (k / 4) + 1 : Nat) : Int) = _; congr 2; omega
 ·show rd 0 key ((4 * (k / 4) + 2 : Nat) : Int) = _; congr 2; omega
 ·show rd 0 key ((4 * (k / 4) + 3 : Nat) : Int) = _; congr 2; omega
theorem rxor_eq {W : List (List Int)} (hW : Words W) {i nk : Nat} {c : Int} {t : List Int} (h1 : nk ≤ i) (h2 : i = W.length) (h3 : 0 < nk) (h4 : i < 1000) (ht : t.length = 4) :
  pendulumref08_words.l0 .lim ((nk : Int), c, (i : Int), 0, W.flatten, t, ()) = some ((nk : Int), c, (i : Int), W.flatten ++ xor4 t (rd z4 W ((i - nk : Nat) : Int)), ()) := by
 have hl := flat_len hW
 have hx : ∀ k : Nat, k < 4 → rd 0 (xor4 t (rd z4 W ((i - nk : Nat) : Int))) (k : Int) = ixor .u8 (rd 0 t (k : Int)) (rd 0 (rd z4 W ((i - nk : Nat) : Int)) (k : Int)) := by
  intro k hk
  rcases (show k = 0 ∨ k = 1 ∨ k = 2 ∨ k = 3 by omega) with rfl | rfl | rfl | rfl <;> rfl
 have e := loop_to (f := pendulumref08_words.l0 .lim) (fun k => ((nk : Int), c, (i : Int), (k : Int), W.flatten ++ (xor4 t (rd z4 W ((i - nk : Nat) : Int))).take k, t, ())) (n := 4) (fun k hk => by
  rw [pendulumref08_words.q0]
  have w1 : IntKind.i64.wrap (4 * IntKind.i64.wrap ((i : Int) - (nk : Int))) = ((4 * (i - nk) : Nat) : Int) := by rw [wrap64 (n := (i : Int) - (nk : Int)) (by omega) (by omega), wrap64 (by omega) (by omega)]; omega
  have w2 : IntKind.i64.wrap (((4 * (i - nk) : Nat) : Int) + (k : Int)) = ((4 * (i - nk) + k : Nat) : Int) := by rw [wrap64 (by omega) (by omega)]; omega
  have hr := rd_flat hW (i := i - nk) (j := k) (by omega) hk
  have ha : rd 0 (W.flatten ++ (xor4 t (rd z4 W ((i - nk : Nat) : Int))).take k) ((4 * (i - nk) + k : Nat) : Int) = rd 0 (rd z4 W ((i - nk : Nat) : Int)) (k : Int) := by rw [rd_app (by omega), hr]
  have hlen : (W.flatten ++ (xor4 t (rd z4 W ((i - nk : Nat) : Int))).take k).length = 4 * i + k := by rw [List.length_append, hl, List.length_take, (xor4_ok _ _).1]; omega
  simp only [pendulumref08_words.b0, dec_t (show (k : Int) < 4 by omega), w1, w2, ha, hlen, inB_t (show (0 : Int) ≤ ((4 * (i - nk) + k : Nat) : Int) by omega) (show ((4 * (i - nk) + k : Nat) : Int) < ((4 * i + k : Nat) : Int) by omega), inB_t (show (0 : Int) ≤ k by omega) (show (k : Int) < (t.length : Int) by omega), cond_true, wk' k (by omega)]
  rw [cond_pos (by simp; omega), take_rd (d := (0 : Int)) (by rw [(xor4_ok _ _).1]; omega), hx k hk, xor_comm, List.append_assoc])
 rw [List.take_zero, List.append_nil, show ((0 : Nat) : Int) = 0 from rfl] at e
 rw [e, List.take_of_length_le (by rw [(xor4_ok _ _).1]; omega), pendulumref08_words.q0]
 simp only [pendulumref08_words.b0, dec_f (show ¬ ((4 : Nat) : Int) < 4 by decide), cond_false]
theorem rwords_eq {key : List Int} (hk : key.length = 16 ∨ key.length = 32) (hb : ∀ x ∈ key, B8 x) : pendulumref08_words.run .lim (key, ()) = some (allW key).flatten := by
 have hd : (key.length : Int).tdiv 4 = ((key.length / 4 : Nat) : Int) := by rw [Int.tdiv_eq_ediv_of_nonneg (Int.natCast_nonneg _)]; simp
 have w0 : IntKind.i64.wrap ((key.length : Int).tdiv 4) = ((key.length / 4 : Nat) : Int) := by rw [hd, wrap64 (by omega) (by omega)]
 generalize hnk : key.length / 4 = nk at w0
 have hn : nk = 4 ∨ nk = 8 := by omega
 have e := loop_to (f := pendulumref08_words.l1 .lim) (fun k => ((nk : Int), (sched nk key k).2, ((nk + k : Nat) : Int), (sched nk key k).1.flatten, ())) (n := 3 * nk + 28) (fun k hkq => by
  rw [pendulumref08_words.q1]
  obtain ⟨hW, hx⟩ := sched_ok nk key (by omega) hb k
  have hl := sched_len nk key k
  have hs : sched nk key (k + 1) = stepW nk (sched nk key k) := rfl
  rw [hs]
  unfold stepW
  generalize hq : sched nk key k = q at hW hx hl
  obtain ⟨W, x⟩ := q
  simp only at hW hx hl ⊢
  have hi0 : nk + k < 1000 := by omega
  generalize hi : nk + k = i at hl hi0
  have hw := hW.at (show i - 1 < W.length by omega)
  have hfl := flat_len hW
  have hb0 := hW.byte (show i - 1 < W.length by omega) (j := 0) (by omega) (by omega)
  have hb1 := hW.byte (show i - 1 < W.length by omega) (j := 1) (by omega) (by omega)
  have hb2 := hW.byte (show i - 1 < W.length by omega) (j := 2) (by omega) (by omega)
  have hb3 := hW.byte (show i - 1 < W.length by omega) (j := 3) (by omega) (by omega)
  have f0 := rd_flat hW (show i - 1 < W.length by omega) (j := 0) (by omega)
  have f1 := rd_flat hW (show i - 1 < W.length by omega) (j := 1) (by omega)
  have f2 := rd_flat hW (show i - 1 < W.length by omega) (j := 2) (by omega)
  have f3 := rd_flat hW (show i - 1 < W.length by omega) (j := 3) (by omega)
  rw [show 4 * (i - 1) + 0 = 4 * i - 4 by omega, show ((0 : Nat) : Int) = 0 from rfl] at f0
  rw [show 4 * (i - 1) + 1 = 4 * i - 3 by omega, show ((1 : Nat) : Int) = 1 from rfl] at f1
  rw [show 4 * (i - 1) + 2 = 4 * i - 2 by omega, show ((2 : Nat) : Int) = 2 from rfl] at f2
  rw [show 4 * (i - 1) + 3 = 4 * i - 1 by omega, show ((3 : Nat) : Int) = 3 from rfl] at f3
  have w1 : IntKind.i64.wrap (4 * IntKind.i64.wrap ((nk : Int) + 7)) = ((4 * nk + 28 : Nat) : Int) := by rw [wrap64 (n := (nk : Int) + 7) (by omega) (by omega), wrap64 (by omega) (by omega)]; omega
  have w2 : IntKind.i64.wrap (4 * (i : Int)) = ((4 * i : Nat) : Int) := by rw [wrap64 (by omega) (by omega)]; omega
  have w4 : IntKind.i64.wrap (((4 * i : Nat) : Int) - 4) = ((4 * i - 4 : Nat) : Int) := by rw [wrap64 (by omega) (by omega)]; omega
  have w5 : IntKind.i64.wrap (((4 * i : Nat) : Int) - 3) = ((4 * i - 3 : Nat) : Int) := by rw [wrap64 (by omega) (by omega)]; omega
  have w6 : IntKind.i64.wrap (((4 * i : Nat) : Int) - 2) = ((4 * i - 2 : Nat) : Int) := by rw [wrap64 (by omega) (by omega)]; omega
  have w7 : IntKind.i64.wrap (((4 * i : Nat) : Int) - 1) = ((4 * i - 1 : Nat) : Int) := by rw [wrap64 (by omega) (by omega)]; omega
  have m1 : ((i : Int)).tmod (nk : Int) = ((i % nk : Nat) : Int) := by rw [Int.tmod_eq_emod_of_nonneg (Int.natCast_nonneg i)]; simp
  have m2 : ((i : Int)).tmod 8 = ((i % 8 : Nat) : Int) := by rw [Int.tmod_eq_emod_of_nonneg (Int.natCast_nonneg i)]; simp
  have hxor := fun c t ht => rxor_eq (c := c) (t := t) hW (i := i) (nk := nk) (by omega) (by omega) (by omega) (by omega) ht
  have hin : ∀ j : Nat, 1 ≤ j → j ≤ 4 → inB ((4 * i - j : Nat) : Int) (W.flatten.length : Int) = true := fun j h1 h2 => inB_t (by omega) (by omega)
  simp only [pendulumref08_words.b1, w1, w2, w4, w5, w6, w7, dec_t (show (i : Int) < ((4 * nk + 28 : Nat) : Int) by omega), hin 4 (by omega) (by omega), hin 3 (by omega) (by omega), hin 2 (by omega) (by omega), hin 1 (by omega) (by omega), dec_f (show ¬ (nk : Int) = 0 by omega), m1, m2, cond_true, Bool.not_false, Bool.or_true, f0, f1, f2, f3, rd40, rd41, rd42, rd43, rsub_eq hb0, rsub_eq hb1, rsub_eq hb2, rsub_eq hb3, Option.bind_some, rtimes_eq]
  have hi4 : ∀ (a b c d : Int) (j : Int), 0 ≤ j → j < 4 → inB j (([a, b, c, d] : List Int).length : Int) = true := fun a b c d j h1 h2 => inB_t h1 h2
  simp only [hi4 _ _ _ _ 0 (by omega) (by omega), hi4 _ _ _ _ 1 (by omega) (by omega), hi4 _ _ _ _ 2 (by omega) (by omega), hi4 _ _ _ _ 3 (by omega) (by omega), cond_true]
  rw [hl]
  unfold turnW
  have hfa : ∀ v : List Int, (W ++ [v]).flatten = W.flatten ++ v := fun v => by simp
  rw [hfa]
  by_cases c1 : i % nk = 0
  ·rw [dec_t (show ((i % nk : Nat) : Int) = 0 by omega), if_pos c1, if_pos c1]
   simp only [cond_true]
   rw [hxor _ _ rfl]
   simp only [Option.bind_some, wk' i (by omega)]
   rw [show i + 1 = nk + (k + 1) by omega]
  ·rw [dec_f (show ¬ ((i % nk : Nat) : Int) = 0 by omega), if_neg c1, if_neg c1]
   simp only [cond_false]
   by_cases c2 : nk = 8 ∧ i % 8 = 4
   ·rw [dec_t (show (nk : Int) = 8 by omega), dec_t (show ((i % 8 : Nat) : Int) = 4 by omega), if_pos c2]
    simp only [Bool.and_self, cond_true]
    rw [hxor _ _ rfl]
    simp only [Option.bind_some, wk' i (by omega)]
    rw [show i + 1 = nk + (k + 1) by omega]
   ·have : (decide ((nk : Int) = 8) && decide (((i % 8 : Nat) : Int) = 4)) = false := by
     by_cases c3 : nk = 8
     ·rw [dec_f (show ¬ ((i % 8 : Nat) : Int) = 4 by omega), Bool.and_false]
     ·rw [dec_f (show ¬ (nk : Int) = 8 by omega), Bool.false_and]
    rw [this, if_neg c2]
    simp only [cond_false]
    rw [hxor _ _ rfl]
    simp only [Option.bind_some, wk' i (by omega)]
    rw [show i + 1 = nk + (k + 1) by omega])
 have hs0 : (sched nk key 0).1.flatten = key := words_flat (by omega) hb
 rw [hs0, show (sched nk key 0).2 = 1 from rfl, Nat.add_zero] at e
 have w1 : IntKind.i64.wrap (4 * IntKind.i64.wrap ((nk : Int) + 7)) = ((4 * nk + 28 : Nat) : Int) := by rw [wrap64 (n := (nk : Int) + 7) (by omega) (by omega), wrap64 (by omega) (by omega)]; omega
 simp only [pendulumref08_words.run, smallN (show key.length < 9223372036854775808 by omega), cond_true, w0, e]
 rw [pendulumref08_words.q1]
 simp only [pendulumref08_words.b1, w1, dec_f (show ¬ ((nk + (3 * nk + 28) : Nat) : Int) < ((4 * nk + 28 : Nat) : Int) by omega), cond_false, Option.bind_some]
 unfold allW
 rw [hnk]
theorem turned_eq {b : List Int} (hb : b.length = 16) : pendulumref08_turned.run .lim (b, false, ()) = some (tab 16 fun i => rd 0 b (((i + 4 * (i % 4)) % 16 : Nat) : Int)) := by
 have inner : ∀ c : Nat, c < 4 → pendulumref08_turned.l0 .lim (b, false, (c : Int), 0, tabP 16 (4 * c) (fun i => rd 0 b (((i + 4 * (i % 4)) % 16 : Nat) : Int)), ()) = some (b, false, (c : Int), tabP 16 (4 * c + 4) (fun i => rd 0 b (((i + 4 * (i % 4)) % 16 : Nat) : Int)), ()) := by
  intro c hc
  have e := loop_to (f := pendulumref08_turned.l0 .lim) (fun r => (b, false, (c : Int), (r : Int), tabP 16 (4 * c + r) (fun i => rd 0 b (((i + 4 * (i % 4)) % 16 : Nat) : Int)), ())) (n := 4) (fun r hr => by
   rw [pendulumref08_turned.q0]
   have w1 : IntKind.i64.wrap (4 * (c : Int)) = ((4 * c : Nat) : Int) := by rw [wrap64 (by omega) (by omega)]; omega
   have w2 : IntKind.i64.wrap (((4 * c : Nat) : Int) + (r : Int)) = ((4 * c + r : Nat) : Int) := by rw [wrap64 (by omega) (by omega)]; omega
   have w3 : IntKind.i64.wrap ((c : Int) + (r : Int)) = ((c + r : Nat) : Int) := by rw [wrap64 (by omega) (by omega)]; omega
   have m1 : (((c + r : Nat) : Int)).tmod 4 = (((c + r) % 4 : Nat) : Int) := by rw [Int.tmod_eq_emod_of_nonneg (Int.natCast_nonneg _)]; simp
   have w4 : IntKind.i64.wrap (4 * (((c + r) % 4 : Nat) : Int)) = ((4 * ((c + r) % 4) : Nat) : Int) := by rw [wrap64 (by omega) (by omega)]; omega
   have w5 : IntKind.i64.wrap (((4 * ((c + r) % 4) : Nat) : Int) + (r : Int)) = ((4 * ((c + r) % 4) + r : Nat) : Int) := by rw [wrap64 (by omega) (by omega)]; omega
   simp only [pendulumref08_turned.b0, dec_t (show (r : Int) < 4 by omega), w1, w2, w3, m1, w4, w5, hb, tabP_len, inB_t (show (0 : Int) ≤ ((4 * ((c + r) % 4) + r : Nat) : Int) by omega) (show ((4 * ((c + r) % 4) + r : Nat) : Int) < ((16 : Nat) : Int) by omega), inB_t (show (0 : Int) ≤ ((4 * c + r : Nat) : Int) by omega) (show ((4 * c + r : Nat) : Int) < ((16 : Nat) : Int) by omega), cond_true, cond_false, wk' r (by omega), Int.toNat_natCast]
   rw [tabP_set]
   ·rfl
   ·congr 2; omega)
  rw [show ((0 : Nat) : Int) = 0 from rfl, Nat.add_zero] at e
  rw [e, pendulumref08_turned.q0]
  simp only [pendulumref08_turned.b0, dec_f (show ¬ ((4 : Nat) : Int) < 4 by decide), cond_false]
 have e := loop_to (f := pendulumref08_turned.l1 .lim) (fun c => (b, false, (c : Int), tabP 16 (4 * c) (fun i => rd 0 b (((i + 4 * (i % 4)) % 16 : Nat) : Int)), ())) (n := 4) (fun c hc => by
  rw [pendulumref08_turned.q1]
  simp only [pendulumref08_turned.b1, dec_t (show (c : Int) < 4 by omega), cond_true, inner c hc, Option.bind_some, wk' c (by omega)]
  rfl)
 rw [show ((0 : Nat) : Int) = 0 from rfl, Nat.mul_zero, tabP_zero] at e
 simp only [pendulumref08_turned.run, show Nat.blt 16 70368744177664 = true from rfl, cond_true, e]
 rw [pendulumref08_turned.q1]
 simp only [pendulumref08_turned.b1, dec_f (show ¬ ((4 : Nat) : Int) < 4 by decide), cond_false, Option.bind_some]
 rw [show 4 * 4 = 16 from rfl, tabP_end]
theorem mixed_eq {b : List Int} (hb : b.length = 16) : pendulumref08_mixed.run .lim (b, [2, 3, 1, 1], ()) = some (mixS b) := by
 have cell : ∀ c r : Nat, c < 4 → r < 4 → pendulumref08_mixed.l0 .lim (b, [2, 3, 1, 1], (c : Int), (r : Int), 0, tabP 16 (4 * c + r) (fun i => rd 0 (mixS b) (i : Int)), ()) = some (b, [2, 3, 1, 1], (c : Int), (r : Int), tabP 16 (4 * c + r + 1) (fun i => rd 0 (mixS b) (i : Int)), ()) := by
  intro c r hc hr
  have h4 : ∀ j : Nat, j < 4 → IntKind.i64.wrap (IntKind.i64.wrap (4 * (c : Int)) + (IntKind.i64.wrap ((r : Int) + (j : Int))).tmod 4) = (((4 * c + r) / 4 * 4 + (4 * c + r + j) % 4 : Nat) : Int) := by
   intro j hj
   have d2 : IntKind.i64.wrap ((r : Int) + (j : Int)) = ((r + j : Nat) : Int) := by rw [wrap64 (by omega) (by omega)]; omega
   have d3 : (((r + j : Nat) : Int)).tmod 4 = (((r + j) % 4 : Nat) : Int) := by rw [Int.tmod_eq_emod_of_nonneg (Int.natCast_nonneg _)]; simp
   rw [d2, d3, wrap64 (n := 4 * (c : Int)) (by omega) (by omega), wrap64 (by omega) (by omega)]; omega
  have w2 : IntKind.i64.wrap (IntKind.i64.wrap (4 * (c : Int)) + (r : Int)) = ((4 * c + r : Nat) : Int) := by rw [wrap64 (n := 4 * (c : Int)) (by omega) (by omega), wrap64 (by omega) (by omega)]; omega
  have step : ∀ (k : Int) (k' : Int) (cf : Int) (q : Nat) (m : List Int), m.length = 16 → 0 ≤ k → k < 4 → rd 0 ([2, 3, 1, 1] : List Int) k = cf → IntKind.i64.wrap (k + 1) = k' → IntKind.i64.wrap (IntKind.i64.wrap (4 * (c : Int)) + (IntKind.i64.wrap ((r : Int) + k)).tmod 4) = (q : Int) → q < 16 →
    pendulumref08_mixed.l0 .lim (b, [2, 3, 1, 1], (c : Int), (r : Int), k, m, ()) = pendulumref08_mixed.l0 .lim (b, [2, 3, 1, 1], (c : Int), (r : Int), k', m.set (4 * c + r) (ixor .u8 (rd 0 m ((4 * c + r : Nat) : Int)) (tm (rd 0 b (q : Int)) cf)), ()) := by
   intro k k' cf q m hm h1 h2 h3 h4 h5 h6
   rw [pendulumref08_mixed.q0]
   simp only [pendulumref08_mixed.b0, dec_t h2, w2, h5, hm, hb, inB_t (show (0 : Int) ≤ ((4 * c + r : Nat) : Int) by omega) (show ((4 * c + r : Nat) : Int) < ((16 : Nat) : Int) by omega), inB_t (show (0 : Int) ≤ (q : Int) by omega) (show (q : Int) < ((16 : Nat) : Int) by omega), inB_t h1 (show k < ((([2, 3, 1, 1] : List Int).length : Nat) : Int) from h2), h3, h4, rtimes_eq, Option.bind_some, cond_true, Int.toNat_natCast]
  have g0 := h4 0 (by omega); have g1 := h4 1 (by omega); have g2 := h4 2 (by omega); have g3 := h4 3 (by omega)
  rw [show ((0 : Nat) : Int) = 0 from rfl] at g0
  rw [show ((1 : Nat) : Int) = 1 from rfl] at g1
  rw [show ((2 : Nat) : Int) = 2 from rfl] at g2
  rw [show ((3 : Nat) : Int) = 3 from rfl] at g3
  rw [step 0 1 2 _ _ tabP_len (by omega) (by omega) rfl rfl g0 (by omega)]
  rw [step 1 2 3 _ _ (by simp) (by omega) (by omega) rfl rfl g1 (by omega)]
  rw [step 2 3 1 _ _ (by simp) (by omega) (by omega) rfl rfl g2 (by omega)]
  rw [step 3 4 1 _ _ (by simp) (by omega) (by omega) rfl rfl g3 (by omega)]
  rw [pendulumref08_mixed.q0]
  simp only [pendulumref08_mixed.b0, dec_f (show ¬ (4 : Int) < 4 by omega), cond_false]
  generalize hm : tabP 16 (4 * c + r) (fun i => rd 0 (mixS b) (i : Int)) = m
  have hml : m.length = 16 := by rw [← hm, tabP_len]
  have hl : ∀ v, 4 * c + r < (m.set (4 * c + r) v).length := fun v => by simp [hml]; omega
  have h0 : rd 0 m ((4 * c + r : Nat) : Int) = 0 := by rw [← hm, rd_tabP (by omega)]
  simp only [rd_set (show 4 * c + r < m.length by omega), rd_set (hl _), List.set_set, h0]
  rw [← hm, tabP_set]
  unfold mixS
  rw [rd_tab (by omega)]
  simp only [Nat.add_zero]
 have inner : ∀ c : Nat, c < 4 → pendulumref08_mixed.l1 .lim (b, [2, 3, 1, 1], (c : Int), 0, tabP 16 (4 * c) (fun i => rd 0 (mixS b) (i : Int)), ()) = some (b, [2, 3, 1, 1], (c : Int), tabP 16 (4 * c + 4) (fun i => rd 0 (mixS b) (i : Int)), ()) := by
  intro c hc
  have e := loop_to (f := pendulumref08_mixed.l1 .lim) (fun r => (b, [2, 3, 1, 1], (c : Int), (r : Int), tabP 16 (4 * c + r) (fun i => rd 0 (mixS b) (i : Int)), ())) (n := 4) (fun r hr => by
   rw [pendulumref08_mixed.q1]
   simp only [pendulumref08_mixed.b1, dec_t (show (r : Int) < 4 by omega), cond_true, cell c r hc hr, Option.bind_some, wk' r (by omega)]
   rfl)
  rw [show ((0 : Nat) : Int) = 0 from rfl, Nat.add_zero] at e
  rw [e, pendulumref08_mixed.q1]
  simp only [pendulumref08_mixed.b1, dec_f (show ¬ ((4 : Nat) : Int) < 4 by decide), cond_false]
 have e := loop_to (f := pendulumref08_mixed.l2 .lim) (fun c => (b, [2, 3, 1, 1], (c : Int), tabP 16 (4 * c) (fun i => rd 0 (mixS b) (i : Int)), ())) (n := 4) (fun c hc => by
  rw [pendulumref08_mixed.q2]
  simp only [pendulumref08_mixed.b2, dec_t (show (c : Int) < 4 by omega), cond_true, inner c hc, Option.bind_some, wk' c (by omega)]
  rfl)
 rw [show ((0 : Nat) : Int) = 0 from rfl, Nat.mul_zero, tabP_zero] at e
 simp only [pendulumref08_mixed.run, show Nat.blt 16 70368744177664 = true from rfl, cond_true, e]
 rw [pendulumref08_mixed.q2]
 simp only [pendulumref08_mixed.b2, dec_f (show ¬ ((4 : Nat) : Int) < 4 by decide), cond_false, Option.bind_some]
 rw [show 4 * 4 = 16 from rfl, tabP_end, ← tab_of (m := mixS b) tab_len]
theorem rplus0_eq {b w w1 : List Int} (hb : b.length = 16) (hw : w.length = 16) : pendulumref08_encrypt.l0 .lim (w, 0, w1, b, ()) = some (w1, plusS b w, ()) := by
 have e := loop_upd (f := pendulumref08_encrypt.l0 .lim) (fun k b => (w, (k : Int), w1, b, ())) (fun k v => ixor .u8 v (rd 0 w (k : Int))) b hb (fun k hk m' hm hj => by
  rw [pendulumref08_encrypt.q0]
  simp only [pendulumref08_encrypt.b0, dec_t (show (k : Int) < 16 by omega), hm, hw, inB_t (show (0 : Int) ≤ k by omega) (show (k : Int) < ((16 : Nat) : Int) by omega), cond_true, wk' k (by omega), hj k (Nat.le_refl _), Int.toNat_natCast])
 refine (show _ = _ from e).trans ?_
 rw [pendulumref08_encrypt.q0]
 simp only [pendulumref08_encrypt.b0, dec_f (show ¬ ((16 : Nat) : Int) < 16 by decide), cond_false]
 rfl
theorem rplus_eq {b w w1 : List Int} {i1 : Int} (hb : b.length = 16) (hw : w.length = 16) : pendulumref08_encrypt.l2 .lim (w, 0, w1, i1, b, ()) = some (w1, i1, plusS b w, ()) := by
 have e := loop_upd (f := pendulumref08_encrypt.l2 .lim) (fun k b => (w, (k : Int), w1, i1, b, ())) (fun k v => ixor .u8 v (rd 0 w (k : Int))) b hb (fun k hk m' hm hj => by
  rw [pendulumref08_encrypt.q2]
  simp only [pendulumref08_encrypt.b2, dec_t (show (k : Int) < 16 by omega), hm, hw, inB_t (show (0 : Int) ≤ k by omega) (show (k : Int) < ((16 : Nat) : Int) by omega), cond_true, wk' k (by omega), hj k (Nat.le_refl _), Int.toNat_natCast])
 refine (show _ = _ from e).trans ?_
 rw [pendulumref08_encrypt.q2]
 simp only [pendulumref08_encrypt.b2, dec_f (show ¬ ((16 : Nat) : Int) < 16 by decide), cond_false]
 rfl
theorem rsubs_eq {b w : List Int} {i : Int} (hb : Blk b) : pendulumref08_encrypt.l1 .lim (w, i, 0, b, ()) = some (w, i, tab 16 (fun i => sbx (rd 0 b (i : Int))), ()) := by
 have e := loop_upd (f := pendulumref08_encrypt.l1 .lim) (fun k b => (w, i, (k : Int), b, ())) (fun k v => sbx v) b hb.1 (fun k hk m' hm hj => by
  rw [pendulumref08_encrypt.q1]
  simp only [pendulumref08_encrypt.b1, dec_t (show (k : Int) < 16 by omega), hm, inB_t (show (0 : Int) ≤ k by omega) (show (k : Int) < ((16 : Nat) : Int) by omega), cond_true, wk' k (by omega), hj k (Nat.le_refl _), rsub_eq (hb.at hk), Option.bind_some, Int.toNat_natCast])
 refine (show _ = _ from e).trans ?_
 rw [pendulumref08_encrypt.q1]
 simp only [pendulumref08_encrypt.b1, dec_f (show ¬ ((16 : Nat) : Int) < 16 by decide), cond_false]
theorem shift_tab (b : List Int) : (tab 16 fun i => rd 0 (tab 16 fun i => sbx (rd 0 b (i : Int))) (((i + 4 * (i % 4)) % 16 : Nat) : Int)) = shiftS b := tab_congr fun k hk => by rw [rd_tab (by omega)]
theorem rencrypt_eq {W : List (List Int)} {b : List Int} {r : Nat} (hW : Words W) (hl : W.length = 4 * (r + 1)) (hr : r ≤ 100) (hr0 : 0 < r) (hb : b.length = 16) : pendulumref08_encrypt.run .lim (W.flatten, b, ()) = some (encN W b r) := by
 have hfl := flat_len hW
 have h0 := cut_flat hW (j := 0) (by omega)
 rw [show ((16 * 0 : Nat) : Int) = 0 from rfl, show ((16 * 0 + 16 : Nat) : Int) = 16 from rfl] at h0
 have e := loop_to (f := pendulumref08_encrypt.l3 .lim) (fun k => (W.flatten, ((16 * (k + 1) : Nat) : Int), encN W b k, ())) (n := r) (fun k hk => by
  rw [pendulumref08_encrypt.q3]
  have hB := encN_ok W b k
  have hc := cut_flat hW (j := k + 1) (by omega)
  have hkl := rndK_len hW (j := k + 1) (by omega)
  have w1 : IntKind.i64.wrap (((16 * (k + 1) : Nat) : Int) + 16) = ((16 * (k + 1) + 16 : Nat) : Int) := by rw [wrap64 (by omega) (by omega)]; omega
  have hlast : decide (((16 * (k + 1) + 16 : Nat) : Int) < (W.flatten.length : Int)) = !decide (k + 2 = W.length / 4) := by
   by_cases h : k + 1 = r
   ·rw [dec_f (by omega), dec_t (by omega)]; rfl
   ·rw [dec_t (by omega), dec_f (by omega)]; rfl
  simp only [pendulumref08_encrypt.b3, smallN (show W.flatten.length < 9223372036854775808 by omega), dec_t (show ((16 * (k + 1) : Nat) : Int) < (W.flatten.length : Int) by omega), cond_true, rsubs_eq hB, Option.bind_some, turned_eq tab_len, shift_tab, w1, hlast, cutB_t (show (0 : Int) ≤ ((16 * (k + 1) : Nat) : Int) by omega) (show ((16 * (k + 1) : Nat) : Int) ≤ ((16 * (k + 1) + 16 : Nat) : Int) by omega) (show ((16 * (k + 1) + 16 : Nat) : Int) ≤ (W.flatten.length : Int) by omega), hc]
  have hsl : (shiftS (encN W b k)).length = 16 := tab_len
  have hml : (mixS (shiftS (encN W b k))).length = 16 := tab_len
  show _ = pendulumref08_encrypt.l3 .lim (W.flatten, ((16 * (k + 1 + 1) : Nat) : Int), rndS (decide (k + 2 = W.length / 4)) (encN W b k) (rndK W (k + 1)), ())
  unfold rndS
  cases decide (k + 2 = W.length / 4) with
  | true =>
   simp only [Bool.not_true, cond_false, cond_true]
   rw [rplus_eq hsl hkl]
   simp only [Option.bind_some, w1]
   rfl
  | false =>
   simp only [Bool.not_false, cond_false, cond_true, mixed_eq hsl, Option.bind_some]
   rw [rplus_eq hml hkl]
   simp only [Option.bind_some, w1]
   rfl)
 simp only [pendulumref08_encrypt.run]
 rw [cond_pos (cutB_t (by omega) (by omega) (by omega)), h0, rplus0_eq hb (rndK_len hW (by omega))]
 simp only [Option.bind_some]
 rw [show encN W b 0 = plusS b (rndK W 0) from rfl, show ((16 * (0 + 1) : Nat) : Int) = 16 from rfl] at e
 rw [e, pendulumref08_encrypt.q3]
 simp only [pendulumref08_encrypt.b3, smallN (show W.flatten.length < 9223372036854775808 by omega), dec_f (show ¬ ((16 * (r + 1) : Nat) : Int) < (W.flatten.length : Int) by omega), cond_true, cond_false, Option.bind_some]
theorem renc_eq {key b : List Int} (hk : key.length = 16 ∨ key.length = 32) (hb : ∀ x ∈ key, B8 x) (hl : b.length = 16) : pendulumref08_encrypt.run .lim ((allW key).flatten, b, ()) = some (encS key b) := by
 have h1 := allW_len key
 rw [rencrypt_eq (r := key.length / 4 + 6) (allW_ok key hb) (by omega) (by omega) (by omega) hl]
 unfold encS
 rw [show (allW key).length / 4 - 1 = key.length / 4 + 6 by omega]
end Go.AM
end
section
namespace Go.AM
section
variable {ok : Bool} {n dn mu sm four nk x i t t1 t2 tp tq : Int} {key b tw ta out K was kb T sb bk : List Int} {yb W rn : List (List Int)} {last : Bool}
theorem E_mul (i : Nat) (hi : i < 256) : aes_Encrypt.l0 .lim ((i : Int), t, 7, 0, ok, key, dn, mu, sm, sb, bk, yb, kL, b, tw, ()) = some (t, ok, key, dn, mu, sm, sb, bk, rowsS i yb 7, b, tw, ()) := by
 have e := loop_to (f := aes_Encrypt.l0 .lim) (fun k => ((i : Int), t, 7, (k : Int), ok, key, dn, mu, sm, sb, bk, rowsS i yb k, kL, b, tw, ())) (n := 7) (fun k hk => by
  rw [aes_Encrypt.q0]
  obtain ⟨h1, h2⟩ := kL_ok k hk
  have hB : B8 (rd 0 kL (k : Int)) := ⟨h1, by omega⟩
  have hi8 : B8 (i : Int) := ⟨by omega, by omega⟩
  simp only [aes_Encrypt.b0, dec_t (show (k : Int) < 7 by omega), inB_t (show (0 : Int) ≤ k by omega) (show (k : Int) < (kL.length : Int) from show (k : Int) < 7 by omega), wrapu8_id hi8, atimes_eq hi8 hB, Option.bind_some, inB_t h1 (show rd 0 kL (k : Int) < 16 from h2), inB_t (show (0 : Int) ≤ i by omega) (show (i : Int) < 256 by omega), cond_true, wk' k (by omega), Int.toNat_natCast]
  rfl)
 refine e.trans ?_
 rw [aes_Encrypt.q0]
 simp only [aes_Encrypt.b0, dec_f (show ¬ ((7 : Nat) : Int) < 7 by decide), cond_false]
theorem E_tables : aes_Encrypt.l1 .lim (0, ok, key, dn, mu, sm, z256, z256, List.replicate 16 z256, b, tw, ()) = some (ok, key, dn, mu, sm, sbT 256, bkS 256, rowsT 256, b, tw, ()) := by
 have e := loop_to (f := aes_Encrypt.l1 .lim) (fun k => ((k : Int), ok, key, dn, mu, sm, sbT k, bkS k, rowsT k, b, tw, ())) (n := 256) (fun k hk => by
  rw [aes_Encrypt.q1]
  have hi8 : B8 (k : Int) := ⟨by omega, by omega⟩
  have hs := sbx_B hi8
  have hm := fun sb bk => E_mul (ok := ok) (key := key) (dn := dn) (mu := mu) (sm := sm) (sb := sb) (bk := bk) (yb := rowsT k) (b := b) (tw := tw) (t := (k : Int))  k hk
  simp only [aes_Encrypt.b1, dec_t (show (k : Int) < 256 by omega), wrapu8_id hi8, asub_eq hi8, Option.bind_some, inB_t (show (0 : Int) ≤ k by omega) (show (k : Int) < 256 by omega), inB_t hs.1 hs.2, cond_true, show ((([1, 2, 3, 9, 11, 13, 14] : List Int).length : Nat) : Int) = 7 from rfl, smallI_t (show (7 : Int) < 9223372036854775808 by omega), hm, wk' k (by omega), rowsS_7]
  rw [show (sbT k).set ((k : Int)).toNat (sbx k) = sbT (k + 1) from tabP_set rfl]
  rfl)
 rw [show sbT 0 = z256 from tabP_zero, rowsT_zero, show bkS 0 = z256 from rfl, show ((0 : Nat) : Int) = 0 from rfl] at e
 refine e.trans ?_
 rw [aes_Encrypt.q1]
 simp only [aes_Encrypt.b1, dec_f (show ¬ ((256 : Nat) : Int) < 256 by decide), cond_false]
theorem E_split {q : Nat} (hk : kb.length = 4 * q) (hq : q ≤ 100) : aes_Encrypt.l2 .lim (0, nk, ok, 4, key, dn, mu, sm, sb, bk, yb, b, tw, kb, [], ()) = some (nk, ok, key, dn, mu, sm, sb, bk, yb, b, tw, (List.range q).map (word kb), ()) := by
 have e := loop_to (f := aes_Encrypt.l2 .lim) (fun k => (((4 * k : Nat) : Int), nk, ok, 4, key, dn, mu, sm, sb, bk, yb, b, tw, kb, (List.range k).map (word kb), ())) (n := q) (fun k hkq => by
  rw [aes_Encrypt.q2]
  have w1 : IntKind.i64.wrap (((4 * k : Nat) : Int) + 4) = ((4 * k + 4 : Nat) : Int) := by rw [wrap64 (by omega) (by omega)]; omega
  have w2 : mn 4 ((kb.length : Int) - ((4 * k : Nat) : Int)) = 4 := by rw [mn_eq]; omega
  have w3 : (cut kb ((4 * k : Nat) : Int) ((4 * k + 4 : Nat) : Int)).length = 4 := by rw [cutN, List.length_take, List.length_drop]; omega
  have w4 : (Nat.ble 1 4 && Nat.ble 4 (cut kb ((4 * k : Nat) : Int) ((4 * k + 4 : Nat) : Int)).length) = true := by rw [w3]; rfl
  simp only [aes_Encrypt.b2, smallI_t (show (kb.length : Int) < 9223372036854775808 by omega), dec_t (show ((4 * k : Nat) : Int) < (kb.length : Int) by omega), cutB_t (show (0 : Int) ≤ ((4 * k : Nat) : Int) by omega) (show ((4 * k : Nat) : Int) ≤ (kb.length : Int) by omega) (Int.le_refl _), smallI_t (show (kb.length : Int) - ((4 * k : Nat) : Int) < 9223372036854775808 by omega), w2, w1, cutB_t (show (0 : Int) ≤ ((4 * k : Nat) : Int) by omega) (show ((4 * k : Nat) : Int) ≤ ((4 * k + 4 : Nat) : Int) by omega) (Int.le_refl _), dec_t (show ((4 * k + 4 : Nat) : Int) ≤ (kb.length : Int) by omega), Bool.and_self, w4, cond_true]
  rw [cond_pos (by simp; omega), cut_word (by omega)]
  simp only [List.range_succ, List.map_append, List.map_cons, List.map_nil]
  rfl)
 refine e.trans ?_
 rw [aes_Encrypt.q2]
 simp only [aes_Encrypt.b2, smallI_t (show (kb.length : Int) < 9223372036854775808 by omega), dec_f (show ¬ ((4 * q : Nat) : Int) < (kb.length : Int) by omega), cond_true, cond_false]
theorem E_xor (hW : Words W) {i nk : Nat} (h1 : nk ≤ i) (h2 : i ≤ W.length) (h3 : 0 < nk) (h4 : i < 1000) (hT : T.length = 4) : aes_Encrypt.l3 .lim ((nk : Int), x, (i : Int), 0, ok, T, key, dn, mu, sm, sb, bk, yb, b, tw, W, ()) = some ((nk : Int), x, (i : Int), ok, xor4 T (rd z4 W ((i - nk : Nat) : Int)), key, dn, mu, sm, sb, bk, yb, b, tw, W, ()) := by
 have w : IntKind.i64.wrap ((i : Int) - (nk : Int)) = ((i - nk : Nat) : Int) := by rw [wrap64 (by omega) (by omega)]; omega
 have e := loop_upd (f := aes_Encrypt.l3 .lim) (fun k T => ((nk : Int), x, (i : Int), (k : Int), ok, T, key, dn, mu, sm, sb, bk, yb, b, tw, W, ())) (fun k v => ixor .u8 v (rd 0 (rd z4 W ((i - nk : Nat) : Int)) (k : Int))) T hT (fun k hk m' hm hj => by
  rw [aes_Encrypt.q3]
  simp only [aes_Encrypt.b3, dec_t (show (k : Int) < 4 by omega), inB_t (show (0 : Int) ≤ k by omega) (show (k : Int) < 4 by omega), w, inB_t (show (0 : Int) ≤ ((i - nk : Nat) : Int) by omega) (show ((i - nk : Nat) : Int) < (W.length : Int) by omega), cond_true, wk' k (by omega), hj k (Nat.le_refl _), Int.toNat_natCast])
 refine e.trans ?_
 rw [aes_Encrypt.q3]
 simp only [aes_Encrypt.b3, dec_f (show ¬ ((4 : Nat) : Int) < 4 by decide), cond_false]
 rfl
end
end Go.AM
end
section
namespace Go.AM
section
variable {ok : Bool} {n dn mu sm four x i t t1 t2 tp tq : Int} {key b tw ta out K was kb T sb bk : List Int} {yb W rn : List (List Int)} {last : Bool}
theorem E_set4 (a b c d : Int) : ((((List.replicate 4 (0 : Int)).set 0 a).set 1 b).set 2 c).set 3 d = [a, b, c, d] := rfl
theorem E_words {nk : Nat} (hn : nk = 4 ∨ nk = 8) (hk : 4 * nk ≤ kb.length) (hb : ∀ x ∈ kb, B8 x) :
  aes_Encrypt.l4 .lim ((nk : Int), 1, (nk : Int), ok, key, dn, mu, sm, sbT 256, bk, yb, b, tw, (List.range nk).map (word kb), ()) = some (ok, key, dn, mu, sm, sbT 256, bk, yb, b, tw, (sched nk kb (3 * nk + 28)).1, ()) := by
 have e := loop_to (f := aes_Encrypt.l4 .lim) (fun k => ((nk : Int), (sched nk kb k).2, ((nk + k : Nat) : Int), ok, key, dn, mu, sm, sbT 256, bk, yb, b, tw, (sched nk kb k).1, ())) (n := 3 * nk + 28) (fun k hkq => by
  rw [aes_Encrypt.q4]
  obtain ⟨hW, hx⟩ := sched_ok nk kb hk hb k
  have hl := sched_len nk kb k
  have hs : sched nk kb (k + 1) = stepW nk (sched nk kb k) := rfl
  rw [hs]
  unfold stepW
  generalize hq : sched nk kb k = q at hW hx hl
  obtain ⟨W, x⟩ := q
  simp only at hW hx hl ⊢
  have hi0 : nk + k < 1000 := by omega
  generalize hi : nk + k = i at hl hi0
  have hw := hW.at (show i - 1 < W.length by omega)
  have hb0 := hW.byte (show i - 1 < W.length by omega) (j := 0) (by omega) (by omega)
  have hb1 := hW.byte (show i - 1 < W.length by omega) (j := 1) (by omega) (by omega)
  have hb2 := hW.byte (show i - 1 < W.length by omega) (j := 2) (by omega) (by omega)
  have hb3 := hW.byte (show i - 1 < W.length by omega) (j := 3) (by omega) (by omega)
  have w1 : IntKind.i64.wrap (4 * IntKind.i64.wrap ((nk : Int) + 7)) = ((4 * nk + 28 : Nat) : Int) := by rw [wrap64 (n := (nk : Int) + 7) (by omega) (by omega), wrap64 (by omega) (by omega)]; omega
  have w2 : IntKind.i64.wrap ((i : Int) - 1) = ((i - 1 : Nat) : Int) := by rw [wrap64 (by omega) (by omega)]; omega
  have m1 : ((i : Int)).tmod (nk : Int) = ((i % nk : Nat) : Int) := by rw [Int.tmod_eq_emod_of_nonneg (Int.natCast_nonneg i)]; simp
  have m2 : ((i : Int)).tmod 8 = ((i % 8 : Nat) : Int) := by rw [Int.tmod_eq_emod_of_nonneg (Int.natCast_nonneg i)]; simp
  have hxor := fun x T hT => E_xor (ok := ok) (key := key) (dn := dn) (mu := mu) (sm := sm) (sb := sbT 256) (bk := bk) (yb := yb) (b := b) (tw := tw) (x := x) (T := T)  hW (i := i) (nk := nk) (by omega) (by omega) (by omega) (by omega) hT
  have cap : ∀ T : List Int, decide (W.length + ([T] : List (List Int)).length < 17592186044416) = true := fun T => dec_t (by simp; omega)
  simp only [aes_Encrypt.b4, w1, dec_t (show (i : Int) < ((4 * nk + 28 : Nat) : Int) by omega), w2, inB_t (show (0 : Int) ≤ ((i - 1 : Nat) : Int) by omega) (show ((i - 1 : Nat) : Int) < (W.length : Int) by omega), dec_f (show ¬ (nk : Int) = 0 by omega), m1, m2, cond_true, Bool.not_false, inB_t hb0.1 hb0.2, inB_t hb1.1 hb1.2, inB_t hb2.1 hb2.2, inB_t hb3.1 hb3.2, rd_sbT hb0, rd_sbT hb1, rd_sbT hb2, rd_sbT hb3, E_set4, Bool.or_true]
  rw [hl]
  unfold turnW
  by_cases c1 : i % nk = 0
  ·rw [dec_t (show ((i % nk : Nat) : Int) = 0 by omega), if_pos c1, if_pos c1]
   simp only [cond_true, atimes_eq hx (show B8 2 from ⟨by decide, by decide⟩), Option.bind_some]
   rw [hxor _ _ rfl]
   simp only [Option.bind_some]
   rw [cond_pos (by simp; omega), wk' i (by omega)]
   rw [show i + 1 = nk + (k + 1) by omega]
  ·rw [dec_f (show ¬ ((i % nk : Nat) : Int) = 0 by omega), if_neg c1, if_neg c1]
   simp only [cond_false]
   by_cases c2 : nk = 8 ∧ i % 8 = 4
   ·rw [dec_t (show (nk : Int) = 8 by omega), dec_t (show ((i % 8 : Nat) : Int) = 4 by omega), if_pos c2]
    simp only [Bool.and_self, cond_true]
    rw [hxor _ _ rfl]
    simp only [Option.bind_some]
    rw [cond_pos (by simp; omega), wk' i (by omega)]
    rw [show i + 1 = nk + (k + 1) by omega]
   ·have : (decide ((nk : Int) = 8) && decide (((i % 8 : Nat) : Int) = 4)) = false := by
     by_cases c3 : nk = 8
     ·rw [dec_f (show ¬ ((i % 8 : Nat) : Int) = 4 by omega), Bool.and_false]
     ·rw [dec_f (show ¬ (nk : Int) = 8 by omega), Bool.false_and]
    rw [this, if_neg c2]
    simp only [cond_false]
    rw [hxor _ _ hw.1]
    simp only [Option.bind_some]
    rw [cond_pos (by simp; omega), wk' i (by omega), ← list4 hw.1]
    rw [show i + 1 = nk + (k + 1) by omega])
 refine (show _ = _ from e).trans ?_
 rw [aes_Encrypt.q4]
 have w1 : IntKind.i64.wrap (4 * IntKind.i64.wrap ((nk : Int) + 7)) = ((4 * nk + 28 : Nat) : Int) := by rw [wrap64 (n := (nk : Int) + 7) (by omega) (by omega), wrap64 (by omega) (by omega)]; omega
 simp only [aes_Encrypt.b4, w1, dec_f (show ¬ ((nk + (3 * nk + 28) : Nat) : Int) < ((4 * nk + 28 : Nat) : Int) by omega), cond_false]
end
end Go.AM
end
section
namespace Go.AM
theorem take_flat {l : List (List Int)} {k : Nat} (h : k < l.length) : (l.take (k + 1)).flatten = (l.take k).flatten ++ rd [] l (k : Int) := by
 rw [take_rd (d := ([] : List Int)) h, List.flatten_append]; simp
theorem take_flat_le (l : List (List Int)) (k : Nat) : (l.take k).flatten.length ≤ l.flatten.length := by
 have : l.flatten = (l.take k).flatten ++ (l.drop k).flatten := by rw [← List.flatten_append, List.take_append_drop]
 rw [this, List.length_append]; omega
theorem concat_eq (l : List (List Int)) (h : l.flatten.length ≤ 1000000) (hl : l.length ≤ 1000000) : slices_Concat_byte_byte.run .lim (l, ()) = some l.flatten := by
 have e := loop_to (f := slices_Concat_byte_byte.l0 .lim) (fun k => (l, (((l.take k).flatten.length : Nat) : Int), l, (l.length : Int), (k : Int), ())) (n := l.length) (fun k hk => by
  rw [slices_Concat_byte_byte.q0]
  have h1 := take_flat hk
  have h2 := take_flat_le l (k + 1)
  rw [h1, List.length_append] at h2
  have w : IntKind.i64.wrap ((((l.take k).flatten.length : Nat) : Int) + ((rd ([] : List Int) l (k : Int)).length : Int)) = (((l.take (k + 1)).flatten.length : Nat) : Int) := by
   rw [wrap64 (by omega) (by omega), h1, List.length_append]; omega
  simp only [slices_Concat_byte_byte.b0, dec_t (show (k : Int) < (l.length : Int) by omega), inB_t (show (0 : Int) ≤ k by omega) (show (k : Int) < (l.length : Int) by omega), smallN (show (rd ([] : List Int) l (k : Int)).length < 9223372036854775808 by omega), w, dec_f (show ¬ ((((l.take (k + 1)).flatten.length : Nat) : Int) < 0) by omega), cond_true, cond_false, wk' k (by omega)])
 have e1 := fun N : Nat => fun hN : N = l.flatten.length => loop_to (f := slices_Concat_byte_byte.l1 .lim) (fun k => ((((l.take k).flatten.length : Nat) : Int), l, (l.length : Int), (k : Int), (l.take k).flatten ++ List.replicate (N - (l.take k).flatten.length) 0, ())) (n := l.length) (fun k hk => by
  rw [slices_Concat_byte_byte.q1]
  have h1 := take_flat hk
  have h2 := take_flat_le l (k + 1)
  rw [h1, List.length_append] at h2
  simp only [slices_Concat_byte_byte.b1, dec_t (show (k : Int) < (l.length : Int) by omega), inB_t (show (0 : Int) ≤ k by omega) (show (k : Int) < (l.length : Int) by omega), cond_true, wk' k (by omega), Int.toNat_natCast]
  have hc : (decide (((l.take k).flatten ++ List.replicate (N - (l.take k).flatten.length) (0 : Int)).length + (rd ([] : List Int) l (k : Int)).length < 70368744177664) && decide (0 ≤ (((l.take k).flatten.length : Nat) : Int))) = true := by
   rw [List.length_append, List.length_replicate, dec_t (by omega), dec_t (by omega)]; rfl
  rw [cond_pos hc, h1, List.length_append]
  have e3 : ((((l.take k).flatten.length : Nat) : Int) + ((rd ([] : List Int) l (k : Int)).length : Int)) = (((l.take k).flatten.length + (rd ([] : List Int) l (k : Int)).length : Nat) : Int) := by omega
  rw [e3, List.take_append_of_le_length (Nat.le_refl _), List.take_length, List.drop_append, List.drop_eq_nil_of_le (by omega), List.nil_append, List.drop_replicate, List.append_assoc]
  have e4 : N - (l.take k).flatten.length - ((l.take k).flatten.length + (rd ([] : List Int) l (k : Int)).length - (l.take k).flatten.length) = N - ((l.take k).flatten.length + (rd ([] : List Int) l (k : Int)).length) := by omega
  rw [e4])
 rw [List.take_length, List.take_zero, show ((([] : List (List Int)).flatten.length : Nat) : Int) = 0 from rfl, show ((0 : Nat) : Int) = 0 from rfl] at e
 have ee : slices_Concat_byte_byte.l0 .lim (l, ((l.flatten.length : Nat) : Int), l, (l.length : Int), (l.length : Int), ()) = some (l, ((l.flatten.length : Nat) : Int), ()) := by
  rw [slices_Concat_byte_byte.q0]
  simp only [slices_Concat_byte_byte.b0, dec_f (show ¬ (l.length : Int) < (l.length : Int) by omega), cond_false]
 have ee1 : ∀ m, slices_Concat_byte_byte.l1 .lim (((l.flatten.length : Nat) : Int), l, (l.length : Int), (l.length : Int), m, ()) = some (((l.flatten.length : Nat) : Int), m, ()) := fun m => by
  rw [slices_Concat_byte_byte.q1]
  simp only [slices_Concat_byte_byte.b1, dec_f (show ¬ (l.length : Int) < (l.length : Int) by omega), cond_false]
 have e2 : slices_Concat_byte_byte.l1 .lim (0, l, (l.length : Int), 0, List.replicate l.flatten.length 0, ()) = some (((l.flatten.length : Nat) : Int), l.flatten, ()) := by
  have := e1 _ rfl
  rw [List.take_length, List.take_zero, Nat.sub_self, List.replicate_zero, List.append_nil] at this
  exact this.trans (ee1 _)
 simp only [slices_Concat_byte_byte.run, smallN (show l.length < 9223372036854775808 by omega), cond_true, e, ee, Option.bind_some, Int.sub_zero, dec_f (show ¬ ((l.flatten.length : Nat) : Int) < 0 by omega), cond_false, wrap64 (show -9223372036854775808 ≤ ((l.flatten.length : Nat) : Int) by omega) (show ((l.flatten.length : Nat) : Int) < 9223372036854775808 by omega), Int.toNat_natCast]
 by_cases h0 : l.flatten.length = 0
 ·rw [dec_f (show ¬ ((l.flatten.length : Nat) : Int) > 0 by omega)]
  rw [h0, List.replicate_zero] at e2
  simp only [cond_false]
  rw [e2]
  simp [List.length_eq_zero_iff.1 h0]
 ·rw [dec_t (show ((l.flatten.length : Nat) : Int) > 0 by omega)]
  have hb : Nat.blt l.flatten.length 70368744177664 = true := by rw [Nat.blt_eq]; omega
  simp only [cond_true, dec_t (show (0 : Int) ≤ ((l.flatten.length : Nat) : Int) by omega), hb, Bool.and_self, e2, Option.bind_some, List.drop_zero, Int.toNat_natCast, List.take_length]
  rw [cond_pos (cutB_t (Int.le_refl 0) (Int.le_refl 0) (Int.natCast_nonneg _))]
end Go.AM
end
section
namespace Go.AM
section
variable {ok : Bool} {n dn mu sm four x i t t1 t2 tp tq : Int} {key b tw ta out K was kb T sb bk : List Int} {yb W rn : List (List Int)} {last : Bool}
theorem E_rounds {q : Nat} (hW : Words W) (hl : W.length = 4 * q) (hq : q ≤ 100) : aes_Encrypt.l5 .lim (0, ok, 4, key, dn, mu, sm, sb, bk, yb, b, tw, W, [], ()) = some (ok, key, dn, mu, sm, sb, bk, yb, b, tw, rnds W, ()) := by
 have e := loop_to (f := aes_Encrypt.l5 .lim) (fun k => (((4 * k : Nat) : Int), ok, 4, key, dn, mu, sm, sb, bk, yb, b, tw, W, (List.range k).map (rndK W), ())) (n := q) (fun k hkq => by
  rw [aes_Encrypt.q5]
  have w1 : IntKind.i64.wrap (((4 * k : Nat) : Int) + 4) = ((4 * k + 4 : Nat) : Int) := by rw [wrap64 (by omega) (by omega)]; omega
  have w2 : mn 4 ((W.length : Int) - ((4 * k : Nat) : Int)) = 4 := by rw [mn_eq]; omega
  have w3 : (cut W ((4 * k : Nat) : Int) ((4 * k + 4 : Nat) : Int)).length = 4 := by rw [cutN, List.length_take, List.length_drop]; omega
  have at_ : ∀ j : Nat, j < 4 → rd z4 (cut W ((4 * k : Nat) : Int) ((4 * k + 4 : Nat) : Int)) (j : Int) = rd z4 W ((4 * k + j : Nat) : Int) := fun j hj => by
   rw [cutN]
   unfold rd
   rw [Int.toNat_natCast, Int.toNat_natCast, List.getD_eq_getElem?_getD, List.getD_eq_getElem?_getD, List.getElem?_take_of_lt (by omega), List.getElem?_drop]
  have a0 : rd z4 (cut W ((4 * k : Nat) : Int) ((4 * k + 4 : Nat) : Int)) 0 = rd z4 W ((4 * k : Nat) : Int) := at_ 0 (by omega)
  have a1 : rd z4 (cut W ((4 * k : Nat) : Int) ((4 * k + 4 : Nat) : Int)) 1 = rd z4 W ((4 * k + 1 : Nat) : Int) := at_ 1 (by omega)
  have a2 : rd z4 (cut W ((4 * k : Nat) : Int) ((4 * k + 4 : Nat) : Int)) 2 = rd z4 W ((4 * k + 2 : Nat) : Int) := at_ 2 (by omega)
  have a3 : rd z4 (cut W ((4 * k : Nat) : Int) ((4 * k + 4 : Nat) : Int)) 3 = rd z4 W ((4 * k + 3 : Nat) : Int) := at_ 3 (by omega)
  have c4 : ∀ l : List Int, l.length = 4 → cut l 0 4 = l := fun l hl => by
   have := cutN l 0 4
   rw [show ((0 : Nat) : Int) = 0 from rfl, show ((4 : Nat) : Int) = 4 from rfl] at this
   rw [this, List.drop_zero, List.take_of_length_le (by omega)]
  have l0 := (hW.at (show 4 * k < W.length by omega)).1
  have l1 := (hW.at (show 4 * k + 1 < W.length by omega)).1
  have l2 := (hW.at (show 4 * k + 2 < W.length by omega)).1
  have l3 := (hW.at (show 4 * k + 3 < W.length by omega)).1
  have hfl : [rd z4 W ((4 * k : Nat) : Int), rd z4 W ((4 * k + 1 : Nat) : Int), rd z4 W ((4 * k + 2 : Nat) : Int), rd z4 W ((4 * k + 3 : Nat) : Int)].flatten = rndK W k := by simp [rndK]
  have hrl := rndK_len hW (j := k) (by omega)
  have hcat := concat_eq [rd z4 W ((4 * k : Nat) : Int), rd z4 W ((4 * k + 1 : Nat) : Int), rd z4 W ((4 * k + 2 : Nat) : Int), rd z4 W ((4 * k + 3 : Nat) : Int)] (by rw [hfl, hrl]; omega) (by simp)
  rw [hfl] at hcat
  simp only [aes_Encrypt.b5, smallI_t (show (W.length : Int) < 9223372036854775808 by omega), dec_t (show ((4 * k : Nat) : Int) < (W.length : Int) by omega), cutB_t (show (0 : Int) ≤ ((4 * k : Nat) : Int) by omega) (show ((4 * k : Nat) : Int) ≤ (W.length : Int) by omega) (Int.le_refl _), smallI_t (show (W.length : Int) - ((4 * k : Nat) : Int) < 9223372036854775808 by omega), w2, w1, cutB_t (show (0 : Int) ≤ ((4 * k : Nat) : Int) by omega) (show ((4 * k : Nat) : Int) ≤ ((4 * k + 4 : Nat) : Int) by omega) (Int.le_refl _), dec_t (show ((4 * k + 4 : Nat) : Int) ≤ (W.length : Int) by omega), Bool.and_self, w3, cond_true, inB_t (show (0 : Int) ≤ 0 by omega) (show (0 : Int) < ((4 : Nat) : Int) by decide), inB_t (show (0 : Int) ≤ 1 by omega) (show (1 : Int) < ((4 : Nat) : Int) by decide), inB_t (show (0 : Int) ≤ 2 by omega) (show (2 : Int) < ((4 : Nat) : Int) by decide), inB_t (show (0 : Int) ≤ 3 by omega) (show (3 : Int) < ((4 : Nat) : Int) by decide), a0, a1, a2, a3, c4 _ l0, c4 _ l1, c4 _ l2, c4 _ l3, hcat, Option.bind_some, hrl, List.take_of_length_le (Nat.le_of_eq hrl)]
  rw [show (Nat.ble 1 16 && Nat.ble 16 16) = true from rfl, cond_true, cond_pos (by simp; omega)]
  simp only [List.range_succ, List.map_append, List.map_cons, List.map_nil]
  rfl)
 refine (show _ = _ from e).trans ?_
 rw [aes_Encrypt.q5]
 simp only [aes_Encrypt.b5, smallI_t (show (W.length : Int) < 9223372036854775808 by omega), dec_f (show ¬ ((4 * q : Nat) : Int) < (W.length : Int) by omega), cond_true, cond_false]
 unfold rnds
 rw [hl, Nat.mul_div_cancel_left _ (by omega)]
theorem E_ready (hk : key.length = 16 ∨ key.length = 32) (hb : ∀ x ∈ key, B8 x) : aes_Encrypt.l6 .lim (key, 0, 0, sm, z256, z256, List.replicate 16 z256, b, tw, ()) = some (b, tw, key, 1, 0, sm, sbT 256, bkS 256, rowsT 256, rnds (allW key), ()) := by
 have h0 : aes_Encrypt.l6 .lim (key, 0, 0, sm, z256, z256, List.replicate 16 z256, b, tw, ()) = aes_Encrypt.b6 .lim (aes_Encrypt.l6 .lim) (key, 0, 0, sm, z256, z256, List.replicate 16 z256, b, tw, ()) := aes_Encrypt.q6 _
 rw [h0]
 have hd : (key.length : Int).tdiv 4 = ((key.length / 4 : Nat) : Int) := by rw [Int.tdiv_eq_ediv_of_nonneg (Int.natCast_nonneg _)]; simp
 have w1 : IntKind.i64.wrap ((key.length : Int).tdiv 4) = ((key.length / 4 : Nat) : Int) := by rw [hd, wrap64 (by omega) (by omega)]
 have t := E_tables (ok := true) (key := key) (dn := 0) (mu := 1) (sm := sm) (b := b) (tw := tw)
 have s := E_split (kb := key) (q := key.length / 4) (nk := ((key.length / 4 : Nat) : Int)) (ok := true) (key := key) (dn := 0) (mu := 1) (sm := sm) (sb := sbT 256) (bk := bkS 256) (yb := rowsT 256) (b := b) (tw := tw)  (by omega) (by omega)
 have w := E_words (kb := key) (nk := key.length / 4) (ok := true) (key := key) (dn := 0) (mu := 1) (sm := sm) (bk := bkS 256) (yb := rowsT 256) (b := b) (tw := tw)  (by omega) (by omega) hb
 have r := E_rounds (W := allW key) (q := key.length / 4 + 7) (ok := true) (key := key) (dn := 0) (mu := 1) (sm := sm) (sb := sbT 256) (bk := bkS 256) (yb := rowsT 256) (b := b) (tw := tw)  (allW_ok key hb) (by rw [allW_len]; omega) (by omega)
 have hs : sync_atomic_b32.run .lim (true, ()) = some 1 := rfl
 have hw : (sched (key.length / 4) key (3 * (key.length / 4) + 28)).1 = allW key := rfl
 simp only [aes_Encrypt.b6, decide_true, Bool.not_true, Bool.not_false, cond_true, t, Option.bind_some, smallI_t (show (key.length : Int) < 9223372036854775808 by omega), w1]
 rw [s]
 simp only [Option.bind_some]
 rw [w]
 simp only [Option.bind_some]
 rw [hw, r]
 simp only [Option.bind_some, hs, show IntKind.i32.wrap (1 + -1) = 0 from by decide, decide_true, Bool.not_true, cond_false]
end
end Go.AM
end
section
namespace Go.AM
section
variable {ok : Bool} {n dn mu sm four x i t t1 t2 tp tq : Int} {key b tw ta out K was kb T sb bk : List Int} {yb W rn : List (List Int)} {last : Bool}
theorem E_plus0 (hb : b.length = 16) : aes_Encrypt.l7 .lim (0, b, K, tw, key, dn, mu, sm, sb, bk, yb, rn, ()) = some (plusS b K, tw, key, dn, mu, sm, sb, bk, yb, rn, ()) := by
 have e := loop_upd (f := aes_Encrypt.l7 .lim) (fun k b => ((k : Int), b, K, tw, key, dn, mu, sm, sb, bk, yb, rn, ())) (fun k v => ixor .u8 v (rd 0 K (k : Int))) b hb (fun k hk m' hm hj => by
  rw [aes_Encrypt.q7]
  simp only [aes_Encrypt.b7, dec_t (show (k : Int) < 16 by omega), inB_t (show (0 : Int) ≤ k by omega) (show (k : Int) < 16 by omega), cond_true, wk' k (by omega), hj k (Nat.le_refl _), Int.toNat_natCast])
 refine (show _ = _ from e).trans ?_
 rw [aes_Encrypt.q7]
 simp only [aes_Encrypt.b7, dec_f (show ¬ ((16 : Nat) : Int) < 16 by decide), cond_false]
 rfl
theorem E_become (hb : Blk b) : aes_Encrypt.l8 .lim (0, last, tp, tq, t1, t2, b, key, dn, mu, sm, sbT 256, bk, yb, K, rn, tw, ()) = some (last, tp, tq, t1, t2, tab 16 fun i => sbx (rd 0 b (i : Int)), K, rn, tw, key, dn, mu, sm, sbT 256, bk, yb, ()) := by
 have e := loop_upd (f := aes_Encrypt.l8 .lim) (fun k b => ((k : Int), last, tp, tq, t1, t2, b, key, dn, mu, sm, sbT 256, bk, yb, K, rn, tw, ())) (fun k v => sbx v) b hb.1 (fun k hk m' hm hj => by
  rw [aes_Encrypt.q8]
  have h := hb.at hk
  simp only [aes_Encrypt.b8, dec_t (show (k : Int) < 16 by omega), inB_t (show (0 : Int) ≤ k by omega) (show (k : Int) < 16 by omega), cond_true, wk' k (by omega), hj k (Nat.le_refl _), inB_t h.1 h.2, rd_sbT h, Int.toNat_natCast])
 refine (show _ = _ from e).trans ?_
 rw [aes_Encrypt.q8]
 simp only [aes_Encrypt.b8, dec_f (show ¬ ((16 : Nat) : Int) < 16 by decide), cond_false]
theorem E_turn (hb : b.length = 16) : aes_Encrypt.l9 .lim (4, 0, last, tp, tq, t1, t2, b, was, K, rn, tw, key, dn, mu, sm, sb, bk, yb, ()) = some (last, tp, tq, t1, t2, tab 16 fun i => rd 0 was (((i + 4 * (i % 4)) % 16 : Nat) : Int), K, rn, tw, key, dn, mu, sm, sb, bk, yb, ()) := by
 have e := loop_upd (f := aes_Encrypt.l9 .lim) (fun k b => (4, (k : Int), last, tp, tq, t1, t2, b, was, K, rn, tw, key, dn, mu, sm, sb, bk, yb, ())) (fun k v => rd 0 was (((k + 4 * (k % 4)) % 16 : Nat) : Int)) b hb (fun k hk m' hm hj => by
  rw [aes_Encrypt.q9]
  have m1 : ((k : Int)).tmod 4 = ((k % 4 : Nat) : Int) := by rw [Int.tmod_eq_emod_of_nonneg (Int.natCast_nonneg k)]; simp
  have w1 : IntKind.i64.wrap (4 * (k : Int).tmod 4) = ((4 * (k % 4) : Nat) : Int) := by rw [m1, wrap64 (by omega) (by omega)]; omega
  have w2 : IntKind.i64.wrap ((k : Int) + ((4 * (k % 4) : Nat) : Int)) = ((k + 4 * (k % 4) : Nat) : Int) := by rw [wrap64 (by omega) (by omega)]; omega
  have w3 : IntKind.i64.wrap (((k + 4 * (k % 4) : Nat) : Int) + 64) = ((k + 4 * (k % 4) + 64 : Nat) : Int) := by rw [wrap64 (by omega) (by omega)]; omega
  have m2 : (((k + 4 * (k % 4) + 64 : Nat) : Int)).tmod 16 = (((k + 4 * (k % 4)) % 16 : Nat) : Int) := by rw [Int.tmod_eq_emod_of_nonneg (Int.natCast_nonneg _)]; omega
  simp only [aes_Encrypt.b9, dec_t (show (k : Int) < 16 by omega), inB_t (show (0 : Int) ≤ k by omega) (show (k : Int) < 16 by omega), cond_true, wk' k (by omega), w1, w2, w3, m2, inB_t (show (0 : Int) ≤ (((k + 4 * (k % 4)) % 16 : Nat) : Int) by omega) (show (((k + 4 * (k % 4)) % 16 : Nat) : Int) < 16 by omega), Int.toNat_natCast])
 refine (show _ = _ from e).trans ?_
 rw [aes_Encrypt.q9]
 simp only [aes_Encrypt.b9, dec_f (show ¬ ((16 : Nat) : Int) < 16 by decide), cond_false]
abbrev E_coef : List Int := [2, 3, 1, 1]
theorem E_mix1 (hw : Blk was) {i : Nat} (hi : i < 16) (hb : b.length = 16) (h0 : rd 0 b (i : Int) = 0) : aes_Encrypt.l10 .lim ((i : Int), t, E_coef, 0, tp, tq, t1, t2, key, dn, mu, sm, sb, bk, rowsT 256, b, E_coef, was, K, rn, tw, ()) = some (t, tp, tq, t1, t2, key, dn, mu, sm, sb, bk, rowsT 256, b.set i (rd 0 (mixS was) (i : Int)), E_coef, was, K, rn, tw, ()) := by
 have h4 : ∀ j : Nat, j < 4 → IntKind.i64.wrap (IntKind.i64.wrap (IntKind.i64.wrap ((i : Int).tdiv 4) * 4) + (IntKind.i64.wrap ((i : Int) + (j : Int))).tmod 4) = ((i / 4 * 4 + (i + j) % 4 : Nat) : Int) := by
  intro j hj
  have d1 : ((i : Int)).tdiv 4 = ((i / 4 : Nat) : Int) := by rw [Int.tdiv_eq_ediv_of_nonneg (Int.natCast_nonneg i)]; simp
  have d2 : IntKind.i64.wrap ((i : Int) + (j : Int)) = ((i + j : Nat) : Int) := by rw [wrap64 (by omega) (by omega)]; omega
  have d3 : (((i + j : Nat) : Int)).tmod 4 = (((i + j) % 4 : Nat) : Int) := by rw [Int.tmod_eq_emod_of_nonneg (Int.natCast_nonneg _)]; simp
  rw [d1, d2, d3, wrap64 (n := ((i / 4 : Nat) : Int)) (by omega) (by omega), wrap64 (n := ((i / 4 : Nat) : Int) * 4) (by omega) (by omega), wrap64 (by omega) (by omega)]; omega
 have hB : ∀ j : Nat, j < 4 → B8 (rd 0 was ((i / 4 * 4 + (i + j) % 4 : Nat) : Int)) := fun j hj => hw.at (by omega)
 have g0 := h4 0 (by omega); have g1 := h4 1 (by omega); have g2 := h4 2 (by omega); have g3 := h4 3 (by omega)
 have b0 := hB 0 (by omega); have b1 := hB 1 (by omega); have b2 := hB 2 (by omega); have b3 := hB 3 (by omega)
 rw [show ((0 : Nat) : Int) = 0 from rfl] at g0
 rw [show ((1 : Nat) : Int) = 1 from rfl] at g1
 rw [show ((2 : Nat) : Int) = 2 from rfl] at g2
 rw [show ((3 : Nat) : Int) = 3 from rfl] at g3
 have r0 := (rd_rows b0).2.1; have r1 := (rd_rows b1).2.2; have r2 := (rd_rows b2).1; have r3 := (rd_rows b3).1
 have step : ∀ (c : Int) (j j' : Int) (q : Nat) (v : Int) (bb : List Int), bb.length = 16 → 0 ≤ j → j < 4 → rd 0 E_coef j = c → 0 ≤ c → c < 16 → IntKind.i64.wrap (j + 1) = j' → IntKind.i64.wrap (IntKind.i64.wrap (IntKind.i64.wrap ((i : Int).tdiv 4) * 4) + (IntKind.i64.wrap ((i : Int) + j)).tmod 4) = (q : Int) → q < 16 → rd 0 (rd z256 (rowsT 256) c) (rd 0 was (q : Int)) = v → B8 (rd 0 was (q : Int)) →
   aes_Encrypt.l10 .lim ((i : Int), t, E_coef, j, tp, tq, t1, t2, key, dn, mu, sm, sb, bk, rowsT 256, bb, E_coef, was, K, rn, tw, ()) = aes_Encrypt.l10 .lim ((i : Int), t, E_coef, j', tp, tq, t1, t2, key, dn, mu, sm, sb, bk, rowsT 256, bb.set i (ixor .u8 (rd 0 bb (i : Int)) v), E_coef, was, K, rn, tw, ()) := by
  intro c j j' q v bb hbb h1 h2 h3 h4 h5 h6 h7 h8 h9 h10
  rw [aes_Encrypt.q10]
  simp only [aes_Encrypt.b10, dec_t h2, inB_t h1 h2, h3, inB_t h4 h5, h7, inB_t (show (0 : Int) ≤ i by omega) (show (i : Int) < 16 by omega), inB_t (show (0 : Int) ≤ (q : Int) by omega) (show (q : Int) < 16 by omega), inB_t h10.1 h10.2, h9, h6, cond_true, Int.toNat_natCast]
 rw [step 2 0 1 _ _ b hb (by omega) (by omega) rfl (by omega) (by omega) rfl g0 (by omega) r0 b0]
 rw [step 3 1 2 _ _ _ (by simp [hb]) (by omega) (by omega) rfl (by omega) (by omega) rfl g1 (by omega) r1 b1]
 rw [step 1 2 3 _ _ _ (by simp [hb]) (by omega) (by omega) rfl (by omega) (by omega) rfl g2 (by omega) r2 b2]
 rw [step 1 3 4 _ _ _ (by simp [hb]) (by omega) (by omega) rfl (by omega) (by omega) rfl g3 (by omega) r3 b3]
 rw [aes_Encrypt.q10]
 simp only [aes_Encrypt.b10, dec_f (show ¬ (4 : Int) < 4 by omega), cond_false]
 have hl : ∀ v, i < (b.set i v).length := fun v => by simp [hb]; omega
 simp only [rd_set (show i < b.length by omega), rd_set (hl _), List.set_set, h0]
 unfold mixS
 rw [rd_tab hi]
 simp only [Nat.add_zero]
theorem E_mix (hw : Blk was) (hb : b.length = 16) : aes_Encrypt.l11 .lim (0, tp, tq, t1, t2, key, dn, mu, sm, sb, bk, rowsT 256, b, E_coef, was, K, rn, tw, ()) = some (tp, tq, t1, t2, mixS was, K, rn, tw, key, dn, mu, sm, sb, bk, rowsT 256, ()) := by
 have e := loop_upd (f := aes_Encrypt.l11 .lim) (fun k b => ((k : Int), tp, tq, t1, t2, key, dn, mu, sm, sb, bk, rowsT 256, b, E_coef, was, K, rn, tw, ())) (fun k v => rd 0 (mixS was) (k : Int)) b hb (fun k hk m' hm hj => by
  rw [aes_Encrypt.q11]
  have hm := fun h0 => E_mix1 (tp := tp) (tq := tq) (t1 := t1) (t2 := t2) (key := key) (dn := dn) (mu := mu) (sm := sm) (sb := sb) (bk := bk) (K := K) (rn := rn) (tw := tw) (t := (k : Int))  hw (b := m'.set k 0) hk (by simp [hm]) h0
  simp only [aes_Encrypt.b11, dec_t (show (k : Int) < 16 by omega), inB_t (show (0 : Int) ≤ k by omega) (show (k : Int) < 16 by omega), cond_true, Int.toNat_natCast]
  rw [hm (rd_set (by omega))]
  simp only [Option.bind_some, wk' k (by omega), List.set_set])
 refine (show _ = _ from e).trans ?_
 rw [aes_Encrypt.q11]
 simp only [aes_Encrypt.b11, dec_f (show ¬ ((16 : Nat) : Int) < 16 by decide), cond_false]
 have : (tab 16 fun i => rd 0 (mixS was) (i : Int)) = mixS was := (tab_of tab_len).symm
 rw [this]
theorem E_plus (hb : b.length = 16) : aes_Encrypt.l12 .lim (0, tp, tq, t1, t2, b, K, rn, tw, key, dn, mu, sm, sb, bk, yb, ()) = some (tp, tq, t1, t2, rn, plusS b K, tw, key, dn, mu, sm, sb, bk, yb, ()) := by
 have e := loop_upd (f := aes_Encrypt.l12 .lim) (fun k b => ((k : Int), tp, tq, t1, t2, b, K, rn, tw, key, dn, mu, sm, sb, bk, yb, ())) (fun k v => ixor .u8 v (rd 0 K (k : Int))) b hb (fun k hk m' hm hj => by
  rw [aes_Encrypt.q12]
  simp only [aes_Encrypt.b12, dec_t (show (k : Int) < 16 by omega), inB_t (show (0 : Int) ≤ k by omega) (show (k : Int) < 16 by omega), cond_true, wk' k (by omega), hj k (Nat.le_refl _), Int.toNat_natCast])
 refine (show _ = _ from e).trans ?_
 rw [aes_Encrypt.q12]
 simp only [aes_Encrypt.b12, dec_f (show ¬ ((16 : Nat) : Int) < 16 by decide), cond_false]
 rfl
theorem E_shift (b : List Int) : (tab 16 fun i => rd 0 (tab 16 fun i => sbx (rd 0 b (i : Int))) (((i + 4 * (i % 4)) % 16 : Nat) : Int)) = shiftS b := tab_congr fun k hk => by rw [rd_tab (by omega)]
theorem E_shift_ok (hb : Blk b) : Blk (shiftS b) := ⟨tab_len, tab_B fun k hk => sbx_B (hb.at (by omega))⟩
theorem E_all {r : Nat} (hW : Words W) (hl : W.length = 4 * (r + 1)) (hr : r ≤ 100) (hr0 : 0 < r) (hb : b.length = 16) :
  aes_Encrypt.l13 .lim (1, ((r : Nat) : Int), ((r : Nat) : Int), 0, rnds W, encN W b 0, tw, key, dn, mu, sm, sbT 256, bk, rowsT 256, ()) = some (encN W b r, tw, key, dn, mu, sm, sbT 256, bk, rowsT 256, rnds W, ()) := by
 have hn : (rnds W).length = r + 1 := by unfold rnds; simp; omega
 have e := loop_to (f := aes_Encrypt.l13 .lim) (fun k => (1, (r : Int), (r : Int), (k : Int), rnds W, encN W b k, tw, key, dn, mu, sm, sbT 256, bk, rowsT 256, ())) (n := r) (fun k hk => by
  rw [aes_Encrypt.q13]
  have hB := encN_ok W b k
  have hK : rd z16 (rnds W) (1 + (k : Int)) = rndK W (k + 1) := by
   rw [show (1 + (k : Int)) = ((k + 1 : Nat) : Int) by omega, rd_ix (by omega)]
   unfold rnds; simp
  have w1 : IntKind.i64.wrap (((rnds W).length : Int) - 2) = (r : Int) - 1 := by rw [wrap64 (by omega) (by omega)]; omega
  have hlast : decide ((k : Int) = (r : Int) - 1) = decide (k + 2 = W.length / 4) := by
   by_cases h : k + 1 = r
   ·rw [dec_t (by omega), dec_t (by omega)]
   ·rw [dec_f (by omega), dec_f (by omega)]
  simp only [aes_Encrypt.b13, dec_t (show (k : Int) < (r : Int) by omega), inB_t (show (0 : Int) ≤ k by omega) (show (k : Int) < (r : Int) by omega), smallI_t (show ((rnds W).length : Int) < 9223372036854775808 by omega), cond_true, hK, w1, hlast, E_become hB, Option.bind_some]
  rw [E_turn tab_len]
  simp only [Option.bind_some, E_shift]
  have hs := E_shift_ok hB
  have hc : ((((List.replicate 4 (0 : Int)).set 0 2).set 1 3).set 2 1).set 3 1 = E_coef := rfl
  show _ = aes_Encrypt.l13 .lim (1, (r : Int), (r : Int), ((k + 1 : Nat) : Int), rnds W, rndS (decide (k + 2 = W.length / 4)) (encN W b k) (rndK W (k + 1)), tw, key, dn, mu, sm, sbT 256, bk, rowsT 256, ())
  unfold rndS
  cases decide (k + 2 = W.length / 4) with
  | true =>
   simp only [Bool.not_true, cond_false, cond_true]
   rw [E_plus hs.1]
   simp only [Option.bind_some, wk' k (by omega)]
  | false =>
   simp only [Bool.not_false, cond_false, cond_true, hc]
   rw [E_mix hs hs.1]
   simp only [Option.bind_some]
   have hml : (mixS (shiftS (encN W b k))).length = 16 := tab_len
   rw [E_plus hml]
   simp only [Option.bind_some, wk' k (by omega)])
 refine (show _ = _ from e).trans ?_
 rw [aes_Encrypt.q13]
 simp only [aes_Encrypt.b13, dec_f (show ¬ (r : Int) < (r : Int) by omega), cond_false]
end
end Go.AM
end
section
namespace Go.AM
section
variable {ok : Bool} {n dn mu sm four x i t t1 t2 tp tq : Int} {key b tw ta out K was kb T sb bk : List Int} {yb W rn : List (List Int)} {last : Bool}
theorem E_tail {r : Nat} (hW : Words W) (hl : W.length = 4 * (r + 1)) (hr : r ≤ 100) (hr0 : 0 < r) (hb : b.length = 16) {β : Type} {Q : _ → Option β} :
  (bif inB 0 ((rnds W).length : Int) then
   ((aes_Encrypt.l7 .lim (0, b, rd z16 (rnds W) 0, tw, key, dn, mu, sm, sbT 256, bk, rowsT 256, rnds W, ())).bind fun (b, tw, key, dn, mu, sm, sb, bk, yb, rn, ()) =>
    bif cutB 1 (rn.length : Int) (rn.length : Int) then bif smallI ((rn.length : Int) - 1) then (aes_Encrypt.l13 .lim (1, ((rn.length : Int) - 1), ((rn.length : Int) - 1), 0, rn, b, tw, key, dn, mu, sm, sb, bk, yb, ())).bind Q else none else none) else none) = Q (encN W b r, tw, key, dn, mu, sm, sbT 256, bk, rowsT 256, rnds W, ()) := by
 have hn : (rnds W).length = r + 1 := by unfold rnds; simp; omega
 have h0 : rd z16 (rnds W) 0 = rndK W 0 := by
  have := rd_ix (d := z16) (show 0 < (rnds W).length by omega)
  rw [show ((0 : Nat) : Int) = 0 from rfl] at this
  rw [this]; unfold rnds; simp
 rw [cond_pos (inB_t (by omega) (by omega)), h0, E_plus0 hb]
 simp only [Option.bind_some]
 rw [cond_pos (cutB_t (by omega) (by omega) (by omega)), cond_pos (smallI_t (by omega)), show ((rnds W).length : Int) - 1 = (r : Int) by omega]
 have := E_all (tw := tw) (key := key) (dn := dn) (mu := mu) (sm := sm) (bk := bk)  hW hl hr hr0 hb
 rw [show encN W b 0 = plusS b (rndK W 0) from rfl] at this
 rw [this]
 rfl
theorem E_first (hk : key.length = 16 ∨ key.length = 32) (hkb : ∀ x ∈ key, B8 x) (hb : b.length = 16) :
  aes_Encrypt.l14 .lim (b, key, 0, 0, sm, z256, z256, List.replicate 16 z256, ()) = some (encS key b, ()) := by
 have h0 : aes_Encrypt.l14 .lim (b, key, 0, 0, sm, z256, z256, List.replicate 16 z256, ()) = aes_Encrypt.b14 .lim (aes_Encrypt.l14 .lim) (b, key, 0, 0, sm, z256, z256, List.replicate 16 z256, ()) := aes_Encrypt.q14 _
 rw [h0]
 have hr := E_ready (sm := sm) (key := key) (b := b) (tw := z16)  hk hkb
 have hW := allW_ok key hkb
 have hl : (allW key).length = 4 * ((key.length / 4 + 6) + 1) := by rw [allW_len]; omega
 have hq : (allW key).length / 4 - 1 = key.length / 4 + 6 := by omega
 unfold aes_Encrypt.b14
 simp only [hr, Option.bind_some]
 refine (E_tail (Q := fun (b, tw, key, dn, mu, sm, sb, bk, yb, rn, ()) => some (b, ())) hW hl (by omega) (by omega) hb).trans ?_
 unfold encS
 rw [hq]
end
end Go.AM
end
section
namespace Go.AM
section
variable {ok : Bool} {n dn mu sm four nk x i t t1 t2 tp tq : Int} {key b tw ta out K was kb T sb bk : List Int} {yb W rn : List (List Int)} {last : Bool}
theorem S_mul (i : Nat) (hi : i < 256) : aes_Stream.l0 .lim ((i : Int), t, 7, 0, ok, n, key, dn, mu, sm, sb, bk, yb, kL, b, tw, ta, out, rn, ()) = some (t, ok, n, key, dn, mu, sm, sb, bk, rowsS i yb 7, b, tw, ta, out, rn, ()) := by
 have e := loop_to (f := aes_Stream.l0 .lim) (fun k => ((i : Int), t, 7, (k : Int), ok, n, key, dn, mu, sm, sb, bk, rowsS i yb k, kL, b, tw, ta, out, rn, ())) (n := 7) (fun k hk => by
  rw [aes_Stream.q0]
  obtain ⟨h1, h2⟩ := kL_ok k hk
  have hB : B8 (rd 0 kL (k : Int)) := ⟨h1, by omega⟩
  have hi8 : B8 (i : Int) := ⟨by omega, by omega⟩
  simp only [aes_Stream.b0, dec_t (show (k : Int) < 7 by omega), inB_t (show (0 : Int) ≤ k by omega) (show (k : Int) < (kL.length : Int) from show (k : Int) < 7 by omega), wrapu8_id hi8, atimes_eq hi8 hB, Option.bind_some, inB_t h1 (show rd 0 kL (k : Int) < 16 from h2), inB_t (show (0 : Int) ≤ i by omega) (show (i : Int) < 256 by omega), cond_true, wk' k (by omega), Int.toNat_natCast]
  rfl)
 refine e.trans ?_
 rw [aes_Stream.q0]
 simp only [aes_Stream.b0, dec_f (show ¬ ((7 : Nat) : Int) < 7 by decide), cond_false]
theorem S_tables : aes_Stream.l1 .lim (0, ok, n, key, dn, mu, sm, z256, z256, List.replicate 16 z256, b, tw, ta, out, rn, ()) = some (ok, n, key, dn, mu, sm, sbT 256, bkS 256, rowsT 256, b, tw, ta, out, rn, ()) := by
 have e := loop_to (f := aes_Stream.l1 .lim) (fun k => ((k : Int), ok, n, key, dn, mu, sm, sbT k, bkS k, rowsT k, b, tw, ta, out, rn, ())) (n := 256) (fun k hk => by
  rw [aes_Stream.q1]
  have hi8 : B8 (k : Int) := ⟨by omega, by omega⟩
  have hs := sbx_B hi8
  have hm := fun sb bk => S_mul (ok := ok) (key := key) (dn := dn) (mu := mu) (sm := sm) (sb := sb) (bk := bk) (yb := rowsT k) (b := b) (tw := tw) (t := (k : Int)) (n := n) (ta := ta) (out := out) (rn := rn) k hk
  simp only [aes_Stream.b1, dec_t (show (k : Int) < 256 by omega), wrapu8_id hi8, asub_eq hi8, Option.bind_some, inB_t (show (0 : Int) ≤ k by omega) (show (k : Int) < 256 by omega), inB_t hs.1 hs.2, cond_true, show ((([1, 2, 3, 9, 11, 13, 14] : List Int).length : Nat) : Int) = 7 from rfl, smallI_t (show (7 : Int) < 9223372036854775808 by omega), hm, wk' k (by omega), rowsS_7]
  rw [show (sbT k).set ((k : Int)).toNat (sbx k) = sbT (k + 1) from tabP_set rfl]
  rfl)
 rw [show sbT 0 = z256 from tabP_zero, rowsT_zero, show bkS 0 = z256 from rfl, show ((0 : Nat) : Int) = 0 from rfl] at e
 refine e.trans ?_
 rw [aes_Stream.q1]
 simp only [aes_Stream.b1, dec_f (show ¬ ((256 : Nat) : Int) < 256 by decide), cond_false]
theorem S_split {q : Nat} (hk : kb.length = 4 * q) (hq : q ≤ 100) : aes_Stream.l2 .lim (0, nk, ok, n, 4, key, dn, mu, sm, sb, bk, yb, b, tw, ta, out, kb, [], rn, ()) = some (nk, ok, n, key, dn, mu, sm, sb, bk, yb, b, tw, ta, out, (List.range q).map (word kb), rn, ()) := by
 have e := loop_to (f := aes_Stream.l2 .lim) (fun k => (((4 * k : Nat) : Int), nk, ok, n, 4, key, dn, mu, sm, sb, bk, yb, b, tw, ta, out, kb, (List.range k).map (word kb), rn, ())) (n := q) (fun k hkq => by
  rw [aes_Stream.q2]
  have w1 : IntKind.i64.wrap (((4 * k : Nat) : Int) + 4) = ((4 * k + 4 : Nat) : Int) := by rw [wrap64 (by omega) (by omega)]; omega
  have w2 : mn 4 ((kb.length : Int) - ((4 * k : Nat) : Int)) = 4 := by rw [mn_eq]; omega
  have w3 : (cut kb ((4 * k : Nat) : Int) ((4 * k + 4 : Nat) : Int)).length = 4 := by rw [cutN, List.length_take, List.length_drop]; omega
  have w4 : (Nat.ble 1 4 && Nat.ble 4 (cut kb ((4 * k : Nat) : Int) ((4 * k + 4 : Nat) : Int)).length) = true := by rw [w3]; rfl
  simp only [aes_Stream.b2, smallI_t (show (kb.length : Int) < 9223372036854775808 by omega), dec_t (show ((4 * k : Nat) : Int) < (kb.length : Int) by omega), cutB_t (show (0 : Int) ≤ ((4 * k : Nat) : Int) by omega) (show ((4 * k : Nat) : Int) ≤ (kb.length : Int) by omega) (Int.le_refl _), smallI_t (show (kb.length : Int) - ((4 * k : Nat) : Int) < 9223372036854775808 by omega), w2, w1, cutB_t (show (0 : Int) ≤ ((4 * k : Nat) : Int) by omega) (show ((4 * k : Nat) : Int) ≤ ((4 * k + 4 : Nat) : Int) by omega) (Int.le_refl _), dec_t (show ((4 * k + 4 : Nat) : Int) ≤ (kb.length : Int) by omega), Bool.and_self, w4, cond_true]
  rw [cond_pos (by simp; omega), cut_word (by omega)]
  simp only [List.range_succ, List.map_append, List.map_cons, List.map_nil]
  rfl)
 refine e.trans ?_
 rw [aes_Stream.q2]
 simp only [aes_Stream.b2, smallI_t (show (kb.length : Int) < 9223372036854775808 by omega), dec_f (show ¬ ((4 * q : Nat) : Int) < (kb.length : Int) by omega), cond_true, cond_false]
theorem S_xor (hW : Words W) {i nk : Nat} (h1 : nk ≤ i) (h2 : i ≤ W.length) (h3 : 0 < nk) (h4 : i < 1000) (hT : T.length = 4) : aes_Stream.l3 .lim ((nk : Int), x, (i : Int), 0, ok, n, T, key, dn, mu, sm, sb, bk, yb, b, tw, ta, out, W, rn, ()) = some ((nk : Int), x, (i : Int), ok, n, xor4 T (rd z4 W ((i - nk : Nat) : Int)), key, dn, mu, sm, sb, bk, yb, b, tw, ta, out, W, rn, ()) := by
 have w : IntKind.i64.wrap ((i : Int) - (nk : Int)) = ((i - nk : Nat) : Int) := by rw [wrap64 (by omega) (by omega)]; omega
 have e := loop_upd (f := aes_Stream.l3 .lim) (fun k T => ((nk : Int), x, (i : Int), (k : Int), ok, n, T, key, dn, mu, sm, sb, bk, yb, b, tw, ta, out, W, rn, ())) (fun k v => ixor .u8 v (rd 0 (rd z4 W ((i - nk : Nat) : Int)) (k : Int))) T hT (fun k hk m' hm hj => by
  rw [aes_Stream.q3]
  simp only [aes_Stream.b3, dec_t (show (k : Int) < 4 by omega), inB_t (show (0 : Int) ≤ k by omega) (show (k : Int) < 4 by omega), w, inB_t (show (0 : Int) ≤ ((i - nk : Nat) : Int) by omega) (show ((i - nk : Nat) : Int) < (W.length : Int) by omega), cond_true, wk' k (by omega), hj k (Nat.le_refl _), Int.toNat_natCast])
 refine e.trans ?_
 rw [aes_Stream.q3]
 simp only [aes_Stream.b3, dec_f (show ¬ ((4 : Nat) : Int) < 4 by decide), cond_false]
 rfl
end
end Go.AM
end
section
namespace Go.AM
section
variable {ok : Bool} {n dn mu sm four x i t t1 t2 tp tq : Int} {key b tw ta out K was kb T sb bk : List Int} {yb W rn : List (List Int)} {last : Bool}
theorem S_set4 (a b c d : Int) : ((((List.replicate 4 (0 : Int)).set 0 a).set 1 b).set 2 c).set 3 d = [a, b, c, d] := rfl
theorem S_words {nk : Nat} (hn : nk = 4 ∨ nk = 8) (hk : 4 * nk ≤ kb.length) (hb : ∀ x ∈ kb, B8 x) :
  aes_Stream.l4 .lim ((nk : Int), 1, (nk : Int), ok, n, key, dn, mu, sm, sbT 256, bk, yb, b, tw, ta, out, (List.range nk).map (word kb), rn, ()) = some (ok, n, key, dn, mu, sm, sbT 256, bk, yb, b, tw, ta, out, (sched nk kb (3 * nk + 28)).1, rn, ()) := by
 have e := loop_to (f := aes_Stream.l4 .lim) (fun k => ((nk : Int), (sched nk kb k).2, ((nk + k : Nat) : Int), ok, n, key, dn, mu, sm, sbT 256, bk, yb, b, tw, ta, out, (sched nk kb k).1, rn, ())) (n := 3 * nk + 28) (fun k hkq => by
  rw [aes_Stream.q4]
  obtain ⟨hW, hx⟩ := sched_ok nk kb hk hb k
  have hl := sched_len nk kb k
  have hs : sched nk kb (k + 1) = stepW nk (sched nk kb k) := rfl
  rw [hs]
  unfold stepW
  generalize hq : sched nk kb k = q at hW hx hl
  obtain ⟨W, x⟩ := q
  simp only at hW hx hl ⊢
  have hi0 : nk + k < 1000 := by omega
  generalize hi : nk + k = i at hl hi0
  have hw := hW.at (show i - 1 < W.length by omega)
  have hb0 := hW.byte (show i - 1 < W.length by omega) (j := 0) (by omega) (by omega)
  have hb1 := hW.byte (show i - 1 < W.length by omega) (j := 1) (by omega) (by omega)
  have hb2 := hW.byte (show i - 1 < W.length by omega) (j := 2) (by omega) (by omega)
  have hb3 := hW.byte (show i - 1 < W.length by omega) (j := 3) (by omega) (by omega)
  have w1 : IntKind.i64.wrap (4 * IntKind.i64.wrap ((nk : Int) + 7)) = ((4 * nk + 28 : Nat) : Int) := by rw [wrap64 (n := (nk : Int) + 7) (by omega) (by omega), wrap64 (by omega) (by omega)]; omega
  have w2 : IntKind.i64.wrap ((i : Int) - 1) = ((i - 1 : Nat) : Int) := by rw [wrap64 (by omega) (by omega)]; omega
  have m1 : ((i : Int)).tmod (nk : Int) = ((i % nk : Nat) : Int) := by rw [Int.tmod_eq_emod_of_nonneg (Int.natCast_nonneg i)]; simp
  have m2 : ((i : Int)).tmod 8 = ((i % 8 : Nat) : Int) := by rw [Int.tmod_eq_emod_of_nonneg (Int.natCast_nonneg i)]; simp
  have hxor := fun x T hT => S_xor (ok := ok) (key := key) (dn := dn) (mu := mu) (sm := sm) (sb := sbT 256) (bk := bk) (yb := yb) (b := b) (tw := tw) (x := x) (T := T) (n := n) (ta := ta) (out := out) (rn := rn) hW (i := i) (nk := nk) (by omega) (by omega) (by omega) (by omega) hT
  have cap : ∀ T : List Int, decide (W.length + ([T] : List (List Int)).length < 17592186044416) = true := fun T => dec_t (by simp; omega)
  simp only [aes_Stream.b4, w1, dec_t (show (i : Int) < ((4 * nk + 28 : Nat) : Int) by omega), w2, inB_t (show (0 : Int) ≤ ((i - 1 : Nat) : Int) by omega) (show ((i - 1 : Nat) : Int) < (W.length : Int) by omega), dec_f (show ¬ (nk : Int) = 0 by omega), m1, m2, cond_true, Bool.not_false, inB_t hb0.1 hb0.2, inB_t hb1.1 hb1.2, inB_t hb2.1 hb2.2, inB_t hb3.1 hb3.2, rd_sbT hb0, rd_sbT hb1, rd_sbT hb2, rd_sbT hb3, S_set4, Bool.or_true]
  rw [hl]
  unfold turnW
  by_cases c1 : i % nk = 0
  ·rw [dec_t (show ((i % nk : Nat) : Int) = 0 by omega), if_pos c1, if_pos c1]
   simp only [cond_true, atimes_eq hx (show B8 2 from ⟨by decide, by decide⟩), Option.bind_some]
   rw [hxor _ _ rfl]
   simp only [Option.bind_some]
   rw [cond_pos (by simp; omega), wk' i (by omega)]
   rw [show i + 1 = nk + (k + 1) by omega]
  ·rw [dec_f (show ¬ ((i % nk : Nat) : Int) = 0 by omega), if_neg c1, if_neg c1]
   simp only [cond_false]
   by_cases c2 : nk = 8 ∧ i % 8 = 4
   ·rw [dec_t (show (nk : Int) = 8 by omega), dec_t (show ((i % 8 : Nat) : Int) = 4 by omega), if_pos c2]
    simp only [Bool.and_self, cond_true]
    rw [hxor _ _ rfl]
    simp only [Option.bind_some]
    rw [cond_pos (by simp; omega), wk' i (by omega)]
    rw [show i + 1 = nk + (k + 1) by omega]
   ·have : (decide ((nk : Int) = 8) && decide (((i % 8 : Nat) : Int) = 4)) = false := by
     by_cases c3 : nk = 8
     ·rw [dec_f (show ¬ ((i % 8 : Nat) : Int) = 4 by omega), Bool.and_false]
     ·rw [dec_f (show ¬ (nk : Int) = 8 by omega), Bool.false_and]
    rw [this, if_neg c2]
    simp only [cond_false]
    rw [hxor _ _ hw.1]
    simp only [Option.bind_some]
    rw [cond_pos (by simp; omega), wk' i (by omega), ← list4 hw.1]
    rw [show i + 1 = nk + (k + 1) by omega])
 refine (show _ = _ from e).trans ?_
 rw [aes_Stream.q4]
 have w1 : IntKind.i64.wrap (4 * IntKind.i64.wrap ((nk : Int) + 7)) = ((4 * nk + 28 : Nat) : Int) := by rw [wrap64 (n := (nk : Int) + 7) (by omega) (by omega), wrap64 (by omega) (by omega)]; omega
 simp only [aes_Stream.b4, w1, dec_f (show ¬ ((nk + (3 * nk + 28) : Nat) : Int) < ((4 * nk + 28 : Nat) : Int) by omega), cond_false]
end
end Go.AM
end
section
namespace Go.AM
section
variable {ok : Bool} {n dn mu sm four x i t t1 t2 tp tq : Int} {key b tw ta out K was kb T sb bk : List Int} {yb W rn : List (List Int)} {last : Bool}
theorem S_rounds {q : Nat} (hW : Words W) (hl : W.length = 4 * q) (hq : q ≤ 100) : aes_Stream.l5 .lim (0, ok, n, 4, key, dn, mu, sm, sb, bk, yb, b, tw, ta, out, W, [], ()) = some (ok, n, key, dn, mu, sm, sb, bk, yb, b, tw, ta, out, rnds W, ()) := by
 have e := loop_to (f := aes_Stream.l5 .lim) (fun k => (((4 * k : Nat) : Int), ok, n, 4, key, dn, mu, sm, sb, bk, yb, b, tw, ta, out, W, (List.range k).map (rndK W), ())) (n := q) (fun k hkq => by
  rw [aes_Stream.q5]
  have w1 : IntKind.i64.wrap (((4 * k : Nat) : Int) + 4) = ((4 * k + 4 : Nat) : Int) := by rw [wrap64 (by omega) (by omega)]; omega
  have w2 : mn 4 ((W.length : Int) - ((4 * k : Nat) : Int)) = 4 := by rw [mn_eq]; omega
  have w3 : (cut W ((4 * k : Nat) : Int) ((4 * k + 4 : Nat) : Int)).length = 4 := by rw [cutN, List.length_take, List.length_drop]; omega
  have at_ : ∀ j : Nat, j < 4 → rd z4 (cut W ((4 * k : Nat) : Int) ((4 * k + 4 : Nat) : Int)) (j : Int) = rd z4 W ((4 * k + j : Nat) : Int) := fun j hj => by
   rw [cutN]
   unfold rd
   rw [Int.toNat_natCast, Int.toNat_natCast, List.getD_eq_getElem?_getD, List.getD_eq_getElem?_getD, List.getElem?_take_of_lt (by omega), List.getElem?_drop]
  have a0 : rd z4 (cut W ((4 * k : Nat) : Int) ((4 * k + 4 : Nat) : Int)) 0 = rd z4 W ((4 * k : Nat) : Int) := at_ 0 (by omega)
  have a1 : rd z4 (cut W ((4 * k : Nat) : Int) ((4 * k + 4 : Nat) : Int)) 1 = rd z4 W ((4 * k + 1 : Nat) : Int) := at_ 1 (by omega)
  have a2 : rd z4 (cut W ((4 * k : Nat) : Int) ((4 * k + 4 : Nat) : Int)) 2 = rd z4 W ((4 * k + 2 : Nat) : Int) := at_ 2 (by omega)
  have a3 : rd z4 (cut W ((4 * k : Nat) : Int) ((4 * k + 4 : Nat) : Int)) 3 = rd z4 W ((4 * k + 3 : Nat) : Int) := at_ 3 (by omega)
  have c4 : ∀ l : List Int, l.length = 4 → cut l 0 4 = l := fun l hl => by
   have := cutN l 0 4
   rw [show ((0 : Nat) : Int) = 0 from rfl, show ((4 : Nat) : Int) = 4 from rfl] at this
   rw [this, List.drop_zero, List.take_of_length_le (by omega)]
  have l0 := (hW.at (show 4 * k < W.length by omega)).1
  have l1 := (hW.at (show 4 * k + 1 < W.length by omega)).1
  have l2 := (hW.at (show 4 * k + 2 < W.length by omega)).1
  have l3 := (hW.at (show 4 * k + 3 < W.length by omega)).1
  have hfl : [rd z4 W ((4 * k : Nat) : Int), rd z4 W ((4 * k + 1 : Nat) : Int), rd z4 W ((4 * k + 2 : Nat) : Int), rd z4 W ((4 * k + 3 : Nat) : Int)].flatten = rndK W k := by simp [rndK]
  have hrl := rndK_len hW (j := k) (by omega)
  have hcat := concat_eq [rd z4 W ((4 * k : Nat) : Int), rd z4 W ((4 * k + 1 : Nat) : Int), rd z4 W ((4 * k + 2 : Nat) : Int), rd z4 W ((4 * k + 3 : Nat) : Int)] (by rw [hfl, hrl]; omega) (by simp)
  rw [hfl] at hcat
  simp only [aes_Stream.b5, smallI_t (show (W.length : Int) < 9223372036854775808 by omega), dec_t (show ((4 * k : Nat) : Int) < (W.length : Int) by omega), cutB_t (show (0 : Int) ≤ ((4 * k : Nat) : Int) by omega) (show ((4 * k : Nat) : Int) ≤ (W.length : Int) by omega) (Int.le_refl _), smallI_t (show (W.length : Int) - ((4 * k : Nat) : Int) < 9223372036854775808 by omega), w2, w1, cutB_t (show (0 : Int) ≤ ((4 * k : Nat) : Int) by omega) (show ((4 * k : Nat) : Int) ≤ ((4 * k + 4 : Nat) : Int) by omega) (Int.le_refl _), dec_t (show ((4 * k + 4 : Nat) : Int) ≤ (W.length : Int) by omega), Bool.and_self, w3, cond_true, inB_t (show (0 : Int) ≤ 0 by omega) (show (0 : Int) < ((4 : Nat) : Int) by decide), inB_t (show (0 : Int) ≤ 1 by omega) (show (1 : Int) < ((4 : Nat) : Int) by decide), inB_t (show (0 : Int) ≤ 2 by omega) (show (2 : Int) < ((4 : Nat) : Int) by decide), inB_t (show (0 : Int) ≤ 3 by omega) (show (3 : Int) < ((4 : Nat) : Int) by decide), a0, a1, a2, a3, c4 _ l0, c4 _ l1, c4 _ l2, c4 _ l3, hcat, Option.bind_some, hrl, List.take_of_length_le (Nat.le_of_eq hrl)]
  rw [show (Nat.ble 1 16 && Nat.ble 16 16) = true from rfl, cond_true, cond_pos (by simp; omega)]
  simp only [List.range_succ, List.map_append, List.map_cons, List.map_nil]
  rfl)
 refine (show _ = _ from e).trans ?_
 rw [aes_Stream.q5]
 simp only [aes_Stream.b5, smallI_t (show (W.length : Int) < 9223372036854775808 by omega), dec_f (show ¬ ((4 * q : Nat) : Int) < (W.length : Int) by omega), cond_true, cond_false]
 unfold rnds
 rw [hl, Nat.mul_div_cancel_left _ (by omega)]
theorem S_ready (hk : key.length = 16 ∨ key.length = 32) (hb : ∀ x ∈ key, B8 x) : aes_Stream.l6 .lim (n, key, 0, 0, sm, z256, z256, List.replicate 16 z256, b, tw, ta, out, [], ()) = some (n, b, tw, key, 1, 0, sm, sbT 256, bkS 256, rowsT 256, ta, out, rnds (allW key), ()) := by
 have h0 : aes_Stream.l6 .lim (n, key, 0, 0, sm, z256, z256, List.replicate 16 z256, b, tw, ta, out, [], ()) = aes_Stream.b6 .lim (aes_Stream.l6 .lim) (n, key, 0, 0, sm, z256, z256, List.replicate 16 z256, b, tw, ta, out, [], ()) := aes_Stream.q6 _
 rw [h0]
 have hd : (key.length : Int).tdiv 4 = ((key.length / 4 : Nat) : Int) := by rw [Int.tdiv_eq_ediv_of_nonneg (Int.natCast_nonneg _)]; simp
 have w1 : IntKind.i64.wrap ((key.length : Int).tdiv 4) = ((key.length / 4 : Nat) : Int) := by rw [hd, wrap64 (by omega) (by omega)]
 have t := S_tables (ok := true) (key := key) (dn := 0) (mu := 1) (sm := sm) (b := b) (tw := tw) (n := n) (ta := ta) (out := out) (rn := [])
 have s := S_split (kb := key) (q := key.length / 4) (nk := ((key.length / 4 : Nat) : Int)) (ok := true) (key := key) (dn := 0) (mu := 1) (sm := sm) (sb := sbT 256) (bk := bkS 256) (yb := rowsT 256) (b := b) (tw := tw) (n := n) (ta := ta) (out := out) (rn := []) (by omega) (by omega)
 have w := S_words (kb := key) (nk := key.length / 4) (ok := true) (key := key) (dn := 0) (mu := 1) (sm := sm) (bk := bkS 256) (yb := rowsT 256) (b := b) (tw := tw) (n := n) (ta := ta) (out := out) (rn := []) (by omega) (by omega) hb
 have r := S_rounds (W := allW key) (q := key.length / 4 + 7) (ok := true) (key := key) (dn := 0) (mu := 1) (sm := sm) (sb := sbT 256) (bk := bkS 256) (yb := rowsT 256) (b := b) (tw := tw) (n := n) (ta := ta) (out := out) (allW_ok key hb) (by rw [allW_len]; omega) (by omega)
 have hs : sync_atomic_b32.run .lim (true, ()) = some 1 := rfl
 have hw : (sched (key.length / 4) key (3 * (key.length / 4) + 28)).1 = allW key := rfl
 simp only [aes_Stream.b6, decide_true, Bool.not_true, Bool.not_false, cond_true, t, Option.bind_some, smallI_t (show (key.length : Int) < 9223372036854775808 by omega), w1]
 rw [s]
 simp only [Option.bind_some]
 rw [w]
 simp only [Option.bind_some]
 rw [hw, r]
 simp only [Option.bind_some, hs, show IntKind.i32.wrap (1 + -1) = 0 from by decide, decide_true, Bool.not_true, cond_false]
end
end Go.AM
end
section
namespace Go.AM
section
variable {ok : Bool} {n dn mu sm four x i t t1 t2 tp tq : Int} {key b tw ta out K was kb T sb bk : List Int} {yb W rn : List (List Int)} {last : Bool}
theorem S_plus0 (hb : b.length = 16) : aes_Stream.l7 .lim (0, n, b, K, tw, key, dn, mu, sm, sb, bk, yb, ta, out, rn, ()) = some (n, plusS b K, tw, key, dn, mu, sm, sb, bk, yb, ta, out, rn, ()) := by
 have e := loop_upd (f := aes_Stream.l7 .lim) (fun k b => ((k : Int), n, b, K, tw, key, dn, mu, sm, sb, bk, yb, ta, out, rn, ())) (fun k v => ixor .u8 v (rd 0 K (k : Int))) b hb (fun k hk m' hm hj => by
  rw [aes_Stream.q7]
  simp only [aes_Stream.b7, dec_t (show (k : Int) < 16 by omega), inB_t (show (0 : Int) ≤ k by omega) (show (k : Int) < 16 by omega), cond_true, wk' k (by omega), hj k (Nat.le_refl _), Int.toNat_natCast])
 refine (show _ = _ from e).trans ?_
 rw [aes_Stream.q7]
 simp only [aes_Stream.b7, dec_f (show ¬ ((16 : Nat) : Int) < 16 by decide), cond_false]
 rfl
theorem S_become (hb : Blk b) : aes_Stream.l8 .lim (0, last, tp, tq, t1, t2, n, b, key, dn, mu, sm, sbT 256, bk, yb, K, rn, tw, ta, out, ()) = some (last, tp, tq, t1, t2, n, tab 16 fun i => sbx (rd 0 b (i : Int)), K, rn, tw, key, dn, mu, sm, sbT 256, bk, yb, ta, out, ()) := by
 have e := loop_upd (f := aes_Stream.l8 .lim) (fun k b => ((k : Int), last, tp, tq, t1, t2, n, b, key, dn, mu, sm, sbT 256, bk, yb, K, rn, tw, ta, out, ())) (fun k v => sbx v) b hb.1 (fun k hk m' hm hj => by
  rw [aes_Stream.q8]
  have h := hb.at hk
  simp only [aes_Stream.b8, dec_t (show (k : Int) < 16 by omega), inB_t (show (0 : Int) ≤ k by omega) (show (k : Int) < 16 by omega), cond_true, wk' k (by omega), hj k (Nat.le_refl _), inB_t h.1 h.2, rd_sbT h, Int.toNat_natCast])
 refine (show _ = _ from e).trans ?_
 rw [aes_Stream.q8]
 simp only [aes_Stream.b8, dec_f (show ¬ ((16 : Nat) : Int) < 16 by decide), cond_false]
theorem S_turn (hb : b.length = 16) : aes_Stream.l9 .lim (4, 0, last, tp, tq, t1, t2, n, b, was, K, rn, tw, key, dn, mu, sm, sb, bk, yb, ta, out, ()) = some (last, tp, tq, t1, t2, n, tab 16 fun i => rd 0 was (((i + 4 * (i % 4)) % 16 : Nat) : Int), K, rn, tw, key, dn, mu, sm, sb, bk, yb, ta, out, ()) := by
 have e := loop_upd (f := aes_Stream.l9 .lim) (fun k b => (4, (k : Int), last, tp, tq, t1, t2, n, b, was, K, rn, tw, key, dn, mu, sm, sb, bk, yb, ta, out, ())) (fun k v => rd 0 was (((k + 4 * (k % 4)) % 16 : Nat) : Int)) b hb (fun k hk m' hm hj => by
  rw [aes_Stream.q9]
  have m1 : ((k : Int)).tmod 4 = ((k % 4 : Nat) : Int) := by rw [Int.tmod_eq_emod_of_nonneg (Int.natCast_nonneg k)]; simp
  have w1 : IntKind.i64.wrap (4 * (k : Int).tmod 4) = ((4 * (k % 4) : Nat) : Int) := by rw [m1, wrap64 (by omega) (by omega)]; omega
  have w2 : IntKind.i64.wrap ((k : Int) + ((4 * (k % 4) : Nat) : Int)) = ((k + 4 * (k % 4) : Nat) : Int) := by rw [wrap64 (by omega) (by omega)]; omega
  have w3 : IntKind.i64.wrap (((k + 4 * (k % 4) : Nat) : Int) + 64) = ((k + 4 * (k % 4) + 64 : Nat) : Int) := by rw [wrap64 (by omega) (by omega)]; omega
  have m2 : (((k + 4 * (k % 4) + 64 : Nat) : Int)).tmod 16 = (((k + 4 * (k % 4)) % 16 : Nat) : Int) := by rw [Int.tmod_eq_emod_of_nonneg (Int.natCast_nonneg _)]; omega
  simp only [aes_Stream.b9, dec_t (show (k : Int) < 16 by omega), inB_t (show (0 : Int) ≤ k by omega) (show (k : Int) < 16 by omega), cond_true, wk' k (by omega), w1, w2, w3, m2, inB_t (show (0 : Int) ≤ (((k + 4 * (k % 4)) % 16 : Nat) : Int) by omega) (show (((k + 4 * (k % 4)) % 16 : Nat) : Int) < 16 by omega), Int.toNat_natCast])
 refine (show _ = _ from e).trans ?_
 rw [aes_Stream.q9]
 simp only [aes_Stream.b9, dec_f (show ¬ ((16 : Nat) : Int) < 16 by decide), cond_false]
abbrev S_coef : List Int := [2, 3, 1, 1]
theorem S_mix1 (hw : Blk was) {i : Nat} (hi : i < 16) (hb : b.length = 16) (h0 : rd 0 b (i : Int) = 0) : aes_Stream.l10 .lim ((i : Int), t, S_coef, 0, tp, tq, t1, t2, n, key, dn, mu, sm, sb, bk, rowsT 256, b, S_coef, was, K, rn, tw, ta, out, ()) = some (t, tp, tq, t1, t2, n, key, dn, mu, sm, sb, bk, rowsT 256, b.set i (rd 0 (mixS was) (i : Int)), S_coef, was, K, rn, tw, ta, out, ()) := by
 have h4 : ∀ j : Nat, j < 4 → IntKind.i64.wrap (IntKind.i64.wrap (IntKind.i64.wrap ((i : Int).tdiv 4) * 4) + (IntKind.i64.wrap ((i : Int) + (j : Int))).tmod 4) = ((i / 4 * 4 + (i + j) % 4 : Nat) : Int) := by
  intro j hj
  have d1 : ((i : Int)).tdiv 4 = ((i / 4 : Nat) : Int) := by rw [Int.tdiv_eq_ediv_of_nonneg (Int.natCast_nonneg i)]; simp
  have d2 : IntKind.i64.wrap ((i : Int) + (j : Int)) = ((i + j : Nat) : Int) := by rw [wrap64 (by omega) (by omega)]; omega
  have d3 : (((i + j : Nat) : Int)).tmod 4 = (((i + j) % 4 : Nat) : Int) := by rw [Int.tmod_eq_emod_of_nonneg (Int.natCast_nonneg _)]; simp
  rw [d1, d2, d3, wrap64 (n := ((i / 4 : Nat) : Int)) (by omega) (by omega), wrap64 (n := ((i / 4 : Nat) : Int) * 4) (by omega) (by omega), wrap64 (by omega) (by omega)]; omega
 have hB : ∀ j : Nat, j < 4 → B8 (rd 0 was ((i / 4 * 4 + (i + j) % 4 : Nat) : Int)) := fun j hj => hw.at (by omega)
 have g0 := h4 0 (by omega); have g1 := h4 1 (by omega); have g2 := h4 2 (by omega); have g3 := h4 3 (by omega)
 have b0 := hB 0 (by omega); have b1 := hB 1 (by omega); have b2 := hB 2 (by omega); have b3 := hB 3 (by omega)
 rw [show ((0 : Nat) : Int) = 0 from rfl] at g0
 rw [show ((1 : Nat) : Int) = 1 from rfl] at g1
 rw [show ((2 : Nat) : Int) = 2 from rfl] at g2
 rw [show ((3 : Nat) : Int) = 3 from rfl] at g3
 have r0 := (rd_rows b0).2.1; have r1 := (rd_rows b1).2.2; have r2 := (rd_rows b2).1; have r3 := (rd_rows b3).1
 have step : ∀ (c : Int) (j j' : Int) (q : Nat) (v : Int) (bb : List Int), bb.length = 16 → 0 ≤ j → j < 4 → rd 0 S_coef j = c → 0 ≤ c → c < 16 → IntKind.i64.wrap (j + 1) = j' → IntKind.i64.wrap (IntKind.i64.wrap (IntKind.i64.wrap ((i : Int).tdiv 4) * 4) + (IntKind.i64.wrap ((i : Int) + j)).tmod 4) = (q : Int) → q < 16 → rd 0 (rd z256 (rowsT 256) c) (rd 0 was (q : Int)) = v → B8 (rd 0 was (q : Int)) →
   aes_Stream.l10 .lim ((i : Int), t, S_coef, j, tp, tq, t1, t2, n, key, dn, mu, sm, sb, bk, rowsT 256, bb, S_coef, was, K, rn, tw, ta, out, ()) = aes_Stream.l10 .lim ((i : Int), t, S_coef, j', tp, tq, t1, t2, n, key, dn, mu, sm, sb, bk, rowsT 256, bb.set i (ixor .u8 (rd 0 bb (i : Int)) v), S_coef, was, K, rn, tw, ta, out, ()) := by
  intro c j j' q v bb hbb h1 h2 h3 h4 h5 h6 h7 h8 h9 h10
  rw [aes_Stream.q10]
  simp only [aes_Stream.b10, dec_t h2, inB_t h1 h2, h3, inB_t h4 h5, h7, inB_t (show (0 : Int) ≤ i by omega) (show (i : Int) < 16 by omega), inB_t (show (0 : Int) ≤ (q : Int) by omega) (show (q : Int) < 16 by omega), inB_t h10.1 h10.2, h9, h6, cond_true, Int.toNat_natCast]
 rw [step 2 0 1 _ _ b hb (by omega) (by omega) rfl (by omega) (by omega) rfl g0 (by omega) r0 b0]
 rw [step 3 1 2 _ _ _ (by simp [hb]) (by omega) (by omega) rfl (by omega) (by omega) rfl g1 (by omega) r1 b1]
 rw [step 1 2 3 _ _ _ (by simp [hb]) (by omega) (by omega) rfl (by omega) (by omega) rfl g2 (by omega) r2 b2]
 rw [step 1 3 4 _ _ _ (by simp [hb]) (by omega) (by omega) rfl (by omega) (by omega) rfl g3 (by omega) r3 b3]
 rw [aes_Stream.q10]
 simp only [aes_Stream.b10, dec_f (show ¬ (4 : Int) < 4 by omega), cond_false]
 have hl : ∀ v, i < (b.set i v).length := fun v => by simp [hb]; omega
 simp only [rd_set (show i < b.length by omega), rd_set (hl _), List.set_set, h0]
 unfold mixS
 rw [rd_tab hi]
 simp only [Nat.add_zero]
theorem S_mix (hw : Blk was) (hb : b.length = 16) : aes_Stream.l11 .lim (0, tp, tq, t1, t2, n, key, dn, mu, sm, sb, bk, rowsT 256, b, S_coef, was, K, rn, tw, ta, out, ()) = some (tp, tq, t1, t2, n, mixS was, K, rn, tw, key, dn, mu, sm, sb, bk, rowsT 256, ta, out, ()) := by
 have e := loop_upd (f := aes_Stream.l11 .lim) (fun k b => ((k : Int), tp, tq, t1, t2, n, key, dn, mu, sm, sb, bk, rowsT 256, b, S_coef, was, K, rn, tw, ta, out, ())) (fun k v => rd 0 (mixS was) (k : Int)) b hb (fun k hk m' hm hj => by
  rw [aes_Stream.q11]
  have hm := fun h0 => S_mix1 (tp := tp) (tq := tq) (t1 := t1) (t2 := t2) (key := key) (dn := dn) (mu := mu) (sm := sm) (sb := sb) (bk := bk) (K := K) (rn := rn) (tw := tw) (t := (k : Int)) (n := n) (ta := ta) (out := out) hw (b := m'.set k 0) hk (by simp [hm]) h0
  simp only [aes_Stream.b11, dec_t (show (k : Int) < 16 by omega), inB_t (show (0 : Int) ≤ k by omega) (show (k : Int) < 16 by omega), cond_true, Int.toNat_natCast]
  rw [hm (rd_set (by omega))]
  simp only [Option.bind_some, wk' k (by omega), List.set_set])
 refine (show _ = _ from e).trans ?_
 rw [aes_Stream.q11]
 simp only [aes_Stream.b11, dec_f (show ¬ ((16 : Nat) : Int) < 16 by decide), cond_false]
 have : (tab 16 fun i => rd 0 (mixS was) (i : Int)) = mixS was := (tab_of tab_len).symm
 rw [this]
theorem S_plus (hb : b.length = 16) : aes_Stream.l12 .lim (0, tp, tq, t1, t2, n, b, K, rn, tw, key, dn, mu, sm, sb, bk, yb, ta, out, ()) = some (tp, tq, t1, t2, n, rn, plusS b K, tw, key, dn, mu, sm, sb, bk, yb, ta, out, ()) := by
 have e := loop_upd (f := aes_Stream.l12 .lim) (fun k b => ((k : Int), tp, tq, t1, t2, n, b, K, rn, tw, key, dn, mu, sm, sb, bk, yb, ta, out, ())) (fun k v => ixor .u8 v (rd 0 K (k : Int))) b hb (fun k hk m' hm hj => by
  rw [aes_Stream.q12]
  simp only [aes_Stream.b12, dec_t (show (k : Int) < 16 by omega), inB_t (show (0 : Int) ≤ k by omega) (show (k : Int) < 16 by omega), cond_true, wk' k (by omega), hj k (Nat.le_refl _), Int.toNat_natCast])
 refine (show _ = _ from e).trans ?_
 rw [aes_Stream.q12]
 simp only [aes_Stream.b12, dec_f (show ¬ ((16 : Nat) : Int) < 16 by decide), cond_false]
 rfl
theorem S_shift (b : List Int) : (tab 16 fun i => rd 0 (tab 16 fun i => sbx (rd 0 b (i : Int))) (((i + 4 * (i % 4)) % 16 : Nat) : Int)) = shiftS b := tab_congr fun k hk => by rw [rd_tab (by omega)]
theorem S_shift_ok (hb : Blk b) : Blk (shiftS b) := ⟨tab_len, tab_B fun k hk => sbx_B (hb.at (by omega))⟩
theorem S_all {r : Nat} (hW : Words W) (hl : W.length = 4 * (r + 1)) (hr : r ≤ 100) (hr0 : 0 < r) (hb : b.length = 16) :
  aes_Stream.l13 .lim (1, ((r : Nat) : Int), ((r : Nat) : Int), 0, n, rnds W, encN W b 0, tw, key, dn, mu, sm, sbT 256, bk, rowsT 256, ta, out, ()) = some (n, encN W b r, tw, key, dn, mu, sm, sbT 256, bk, rowsT 256, ta, out, rnds W, ()) := by
 have hn : (rnds W).length = r + 1 := by unfold rnds; simp; omega
 have e := loop_to (f := aes_Stream.l13 .lim) (fun k => (1, (r : Int), (r : Int), (k : Int), n, rnds W, encN W b k, tw, key, dn, mu, sm, sbT 256, bk, rowsT 256, ta, out, ())) (n := r) (fun k hk => by
  rw [aes_Stream.q13]
  have hB := encN_ok W b k
  have hK : rd z16 (rnds W) (1 + (k : Int)) = rndK W (k + 1) := by
   rw [show (1 + (k : Int)) = ((k + 1 : Nat) : Int) by omega, rd_ix (by omega)]
   unfold rnds; simp
  have w1 : IntKind.i64.wrap (((rnds W).length : Int) - 2) = (r : Int) - 1 := by rw [wrap64 (by omega) (by omega)]; omega
  have hlast : decide ((k : Int) = (r : Int) - 1) = decide (k + 2 = W.length / 4) := by
   by_cases h : k + 1 = r
   ·rw [dec_t (by omega), dec_t (by omega)]
   ·rw [dec_f (by omega), dec_f (by omega)]
  simp only [aes_Stream.b13, dec_t (show (k : Int) < (r : Int) by omega), inB_t (show (0 : Int) ≤ k by omega) (show (k : Int) < (r : Int) by omega), smallI_t (show ((rnds W).length : Int) < 9223372036854775808 by omega), cond_true, hK, w1, hlast, S_become hB, Option.bind_some]
  rw [S_turn tab_len]
  simp only [Option.bind_some, S_shift]
  have hs := S_shift_ok hB
  have hc : ((((List.replicate 4 (0 : Int)).set 0 2).set 1 3).set 2 1).set 3 1 = S_coef := rfl
  show _ = aes_Stream.l13 .lim (1, (r : Int), (r : Int), ((k + 1 : Nat) : Int), n, rnds W, rndS (decide (k + 2 = W.length / 4)) (encN W b k) (rndK W (k + 1)), tw, key, dn, mu, sm, sbT 256, bk, rowsT 256, ta, out, ())
  unfold rndS
  cases decide (k + 2 = W.length / 4) with
  | true =>
   simp only [Bool.not_true, cond_false, cond_true]
   rw [S_plus hs.1]
   simp only [Option.bind_some, wk' k (by omega)]
  | false =>
   simp only [Bool.not_false, cond_false, cond_true, hc]
   rw [S_mix hs hs.1]
   simp only [Option.bind_some]
   have hml : (mixS (shiftS (encN W b k))).length = 16 := tab_len
   rw [S_plus hml]
   simp only [Option.bind_some, wk' k (by omega)])
 refine (show _ = _ from e).trans ?_
 rw [aes_Stream.q13]
 simp only [aes_Stream.b13, dec_f (show ¬ (r : Int) < (r : Int) by omega), cond_false]
end
end Go.AM
end
section
namespace Go.AM
section
variable {ok : Bool} {n dn mu sm four x i t t1 t2 tp tq : Int} {key b tw ta out K was kb T sb bk : List Int} {yb W rn : List (List Int)} {last : Bool}
theorem S_tail {r : Nat} (hW : Words W) (hl : W.length = 4 * (r + 1)) (hr : r ≤ 100) (hr0 : 0 < r) (hb : b.length = 16) {β : Type} {Q : _ → Option β} :
  (bif inB 0 ((rnds W).length : Int) then
   ((aes_Stream.l7 .lim (0, n, b, rd z16 (rnds W) 0, tw, key, dn, mu, sm, sbT 256, bk, rowsT 256, ta, out, rnds W, ())).bind fun (n, b, tw, key, dn, mu, sm, sb, bk, yb, ta, out, rn, ()) =>
    bif cutB 1 (rn.length : Int) (rn.length : Int) then bif smallI ((rn.length : Int) - 1) then (aes_Stream.l13 .lim (1, ((rn.length : Int) - 1), ((rn.length : Int) - 1), 0, n, rn, b, tw, key, dn, mu, sm, sb, bk, yb, ta, out, ())).bind Q else none else none) else none) = Q (n, encN W b r, tw, key, dn, mu, sm, sbT 256, bk, rowsT 256, ta, out, rnds W, ()) := by
 have hn : (rnds W).length = r + 1 := by unfold rnds; simp; omega
 have h0 : rd z16 (rnds W) 0 = rndK W 0 := by
  have := rd_ix (d := z16) (show 0 < (rnds W).length by omega)
  rw [show ((0 : Nat) : Int) = 0 from rfl] at this
  rw [this]; unfold rnds; simp
 rw [cond_pos (inB_t (by omega) (by omega)), h0, S_plus0 hb]
 simp only [Option.bind_some]
 rw [cond_pos (cutB_t (by omega) (by omega) (by omega)), cond_pos (smallI_t (by omega)), show ((rnds W).length : Int) - 1 = (r : Int) by omega]
 have := S_all (tw := tw) (key := key) (dn := dn) (mu := mu) (sm := sm) (bk := bk) (n := n) (ta := ta) (out := out) hW hl hr hr0 hb
 rw [show encN W b 0 = plusS b (rndK W 0) from rfl] at this
 rw [this]
 rfl
theorem S_first (hk : key.length = 16 ∨ key.length = 32) (hkb : ∀ x ∈ key, B8 x) (hb : b.length = 16) :
  aes_Stream.l14 .lim (b, n, key, 0, 0, sm, z256, z256, List.replicate 16 z256, ta, out, [], ()) = some (n, encS key b, key, 1, 0, sm, sbT 256, bkS 256, rowsT 256, ta, out, rnds (allW key), ()) := by
 have h0 : aes_Stream.l14 .lim (b, n, key, 0, 0, sm, z256, z256, List.replicate 16 z256, ta, out, [], ()) = aes_Stream.b14 .lim (aes_Stream.l14 .lim) (b, n, key, 0, 0, sm, z256, z256, List.replicate 16 z256, ta, out, [], ()) := aes_Stream.q14 _
 rw [h0]
 have hr := S_ready (sm := sm) (key := key) (b := b) (tw := z16) (n := n) (ta := ta) (out := out) hk hkb
 have hW := allW_ok key hkb
 have hl : (allW key).length = 4 * ((key.length / 4 + 6) + 1) := by rw [allW_len]; omega
 have hq : (allW key).length / 4 - 1 = key.length / 4 + 6 := by omega
 unfold aes_Stream.b14
 simp only [hr, Option.bind_some]
 refine (S_tail (Q := fun (n, b, tw, key, dn, mu, sm, sb, bk, yb, ta, out, rn, ()) => some (n, b, key, dn, mu, sm, sb, bk, yb, ta, out, rn, ())) hW hl (by omega) (by omega) hb).trans ?_
 unfold encS
 rw [hq]
theorem S_again (hk : key.length = 16 ∨ key.length = 32) (hkb : ∀ x ∈ key, B8 x) (hb : b.length = 16) :
  aes_Stream.l14 .lim (b, n, key, 1, 0, sm, sbT 256, bkS 256, rowsT 256, ta, out, rnds (allW key), ()) = some (n, encS key b, key, 1, 0, sm, sbT 256, bkS 256, rowsT 256, ta, out, rnds (allW key), ()) := by
 have h0 : aes_Stream.l14 .lim (b, n, key, 1, 0, sm, sbT 256, bkS 256, rowsT 256, ta, out, rnds (allW key), ()) = aes_Stream.b14 .lim (aes_Stream.l14 .lim) (b, n, key, 1, 0, sm, sbT 256, bkS 256, rowsT 256, ta, out, rnds (allW key), ()) := aes_Stream.q14 _
 rw [h0]
 have hr : aes_Stream.l6 .lim (n, key, 1, 0, sm, sbT 256, bkS 256, rowsT 256, b, z16, ta, out, rnds (allW key), ()) = some (n, b, z16, key, 1, 0, sm, sbT 256, bkS 256, rowsT 256, ta, out, rnds (allW key), ()) := by
  rw [aes_Stream.q6]
  simp only [aes_Stream.b6, dec_f (show ¬ (1 : Int) = 0 by omega), Bool.not_false, Bool.not_true, cond_false]
 have hW := allW_ok key hkb
 have hl : (allW key).length = 4 * ((key.length / 4 + 6) + 1) := by rw [allW_len]; omega
 have hq : (allW key).length / 4 - 1 = key.length / 4 + 6 := by omega
 unfold aes_Stream.b14
 simp only [hr, Option.bind_some]
 refine (S_tail (Q := fun (n, b, tw, key, dn, mu, sm, sb, bk, yb, ta, out, rn, ()) => some (n, b, key, dn, mu, sm, sb, bk, yb, ta, out, rn, ())) hW hl (by omega) (by omega) hb).trans ?_
 unfold encS
 rw [hq]
end
end Go.AM
end
section
namespace Go.AM
abbrev Bs (s : List Int) : Prop := ∀ x ∈ s, B8 x
abbrev lim63 : Nat := 9223372036854775808
def keyE (key : List Int) : Bool := decide (key.length = 16 ∨ key.length = 32)
noncomputable def encR (key b : List Int) : List Int × Int := if key.length = 16 ∨ key.length = 32 then (if b.length = 16 then (encS key b, 0) else ([], 10)) else ([], 13)
theorem take16 {b : List Int} (h : b.length = 16) : (b.drop 0).take 16 = b := by rw [List.drop_zero, List.take_of_length_le (by omega)]
theorem aencrypt_eq {key b : List Int} (hk : key.length < lim63) (hb : b.length < lim63) (hkb : Bs key) : aes_Encrypt.run .lim (key, b, ()) = some ((encR key b).1, (encR key b).2, ()) := by
 unfold encR
 simp only [aes_Encrypt.run, smallN hk, smallN hb, cond_true, Bool.or_true]
 by_cases h1 : key.length = 16 ∨ key.length = 32
 ·have : (!decide ((key.length : Int) = 16) && !decide ((key.length : Int) = 32)) = false := by
   rcases h1 with h | h
   ·rw [dec_t (show (key.length : Int) = 16 by omega)]; rfl
   ·rw [dec_t (show (key.length : Int) = 32 by omega), Bool.not_true, Bool.and_false]
  rw [this, if_pos h1]
  simp only [cond_false]
  by_cases h2 : b.length = 16
  ·rw [dec_t (show (b.length : Int) = 16 by omega), if_pos h2]
   simp only [Bool.not_true, cond_false, h2]
   rw [show (Nat.ble 1 16 && Nat.ble 16 16) = true from rfl, cond_true, List.take_of_length_le (by omega), E_first h1 hkb h2]
   simp only [Option.bind_some]
   rw [take16 (encS_ok _ _).1]
  ·rw [dec_f (show ¬ (b.length : Int) = 16 by omega), if_neg h2]
   rfl
 ·rw [dec_f (show ¬ (key.length : Int) = 16 by omega), dec_f (show ¬ (key.length : Int) = 32 by omega), if_neg h1]
  rfl
theorem rsized_eq {key : List Int} (hk : key.length < lim63) : pendulumref08_sized.run .lim (key, ()) = some (keyE key) := by
 simp only [pendulumref08_sized.run, smallN hk, cond_true, Bool.or_true, dec_or]
 unfold keyE
 congr 1
 exact decide_eq_decide.2 (by omega)
theorem rsized2_eq {key b : List Int} (hk : key.length < lim63) (hb : b.length < lim63) : pendulumref08_sized2.run .lim (key, b, ()) = some (if key.length = 16 ∨ key.length = 32 then (if b.length = 16 then 0 else 10) else 13) := by
 simp only [pendulumref08_sized2.run, rsized_eq hk, Option.bind_some, smallN hb]
 unfold keyE
 by_cases h1 : key.length = 16 ∨ key.length = 32
 ·rw [dec_t h1, if_pos h1]
  by_cases h2 : b.length = 16
  ·rw [dec_t (show (b.length : Int) = 16 by omega), if_pos h2]; rfl
  ·rw [dec_f (show ¬ (b.length : Int) = 16 by omega), if_neg h2]; rfl
 ·rw [dec_f h1, if_neg h1]; rfl
theorem rencrypt_run {key b : List Int} (hk : key.length < lim63) (hb : b.length < lim63) (hkb : Bs key) : pendulumref08_Encrypt.run .lim (key, b, ()) = some ((encR key b).1, (encR key b).2, ()) := by
 simp only [pendulumref08_Encrypt.run, rsized2_eq hk hb, Option.bind_some]
 unfold encR
 by_cases h1 : key.length = 16 ∨ key.length = 32
 ·rw [if_pos h1, if_pos h1]
  by_cases h2 : b.length = 16
  ·rw [if_pos h2, if_pos h2, rwords_eq h1 hkb]
   simp only [Option.bind_some, renc_eq h1 hkb h2]
   rfl
  ·rw [if_neg h2, if_neg h2]; rfl
 ·rw [if_neg h1, if_neg h1]; rfl
def incS : Nat → List Int → List Int
 | 0, m => m
 | i + 1, m => bif !decide (rd 0 (m.set i (IntKind.u8.wrap (rd 0 m (i : Int) + 1))) (i : Int) = 0) then m.set i (IntKind.u8.wrap (rd 0 m (i : Int) + 1)) else incS i (m.set i (IntKind.u8.wrap (rd 0 m (i : Int) + 1)))
theorem incS_len : ∀ i m, (incS i m).length = m.length
 | 0, _ => rfl
 | i + 1, m => by
  rw [incS]
  cases decide (rd 0 (m.set i (IntKind.u8.wrap (rd 0 m (i : Int) + 1))) (i : Int) = 0)
  ·simp
  ·simp [incS_len i]
noncomputable def ctrS (key at_ : List Int) : Nat → List Int × List Int
 | 0 => ([], at_)
 | k + 1 => ((ctrS key at_ k).1 ++ encS key (ctrS key at_ k).2, incS 16 (ctrS key at_ k).2)
theorem ctrS_len (key at_ : List Int) : ∀ k, (ctrS key at_ k).1.length = 16 * k ∧ (ctrS key at_ k).2.length = at_.length
 | 0 => ⟨rfl, rfl⟩
 | k + 1 => by
  obtain ⟨h1, h2⟩ := ctrS_len key at_ k
  exact ⟨by rw [ctrS, List.length_append, h1, (encS_ok _ _).1]; omega, by rw [ctrS, incS_len, h2]⟩
noncomputable def strS (key at_ : List Int) (n : Nat) : List Int := (ctrS key at_ ((n + 15) / 16)).1.take n
theorem strS_len (key at_ : List Int) (n : Nat) : (strS key at_ n).length = n := by
 unfold strS; rw [List.length_take, (ctrS_len _ _ _).1]; omega
section
variable {n dn mu sm : Int} {key ta out sb bk w : List Int} {yb rn : List (List Int)}
theorem S_inc : ∀ (i : Nat), i ≤ 16 → ∀ (ta : List Int), ta.length = 16 → aes_Stream.l15 .lim (n, (i : Int) - 1, key, dn, mu, sm, sb, bk, yb, ta, out, rn, ()) = some (n, key, dn, mu, sm, sb, bk, yb, incS i ta, out, rn, ())
 | 0, _, ta, ht => by
  rw [aes_Stream.q15]
  simp only [aes_Stream.b15, dec_f (show ¬ (((0 : Nat) : Int) - 1 ≥ 0) by omega), cond_false]
  rfl
 | i + 1, hi, ta, ht => by
  have w1 : IntKind.i64.wrap ((i : Int) - 1) = (i : Int) - 1 := wrap64 (by omega) (by omega)
  have ih := S_inc i (by omega) (ta.set i (IntKind.u8.wrap (rd 0 ta (i : Int) + 1))) (by simpa using ht)
  rw [show ((i + 1 : Nat) : Int) - 1 = (i : Int) by omega, aes_Stream.q15, incS]
  simp only [aes_Stream.b15, dec_t (show (i : Int) ≥ 0 by omega), inB_t (show (0 : Int) ≤ i by omega) (show (i : Int) < 16 by omega), cond_true, Int.toNat_natCast, w1, ih]
  cases decide (rd 0 (ta.set i (IntKind.u8.wrap (rd 0 ta (i : Int) + 1))) (i : Int) = 0) <;> rfl
theorem R_inc : ∀ (i : Nat), i ≤ 16 → ∀ (ta : List Int), ta.length = 16 → pendulumref08_Stream.l0 .lim (n, out, (i : Int) - 1, w, ta, ()) = some (n, out, w, incS i ta, ())
 | 0, _, ta, ht => by
  rw [pendulumref08_Stream.q0]
  simp only [pendulumref08_Stream.b0, dec_f (show ¬ (((0 : Nat) : Int) - 1 ≥ 0) by omega), cond_false]
  rfl
 | i + 1, hi, ta, ht => by
  have w1 : IntKind.i64.wrap ((i : Int) - 1) = (i : Int) - 1 := wrap64 (by omega) (by omega)
  have ih := R_inc i (by omega) (ta.set i (IntKind.u8.wrap (rd 0 ta (i : Int) + 1))) (by simpa using ht)
  rw [show ((i + 1 : Nat) : Int) - 1 = (i : Int) by omega, pendulumref08_Stream.q0, incS]
  simp only [pendulumref08_Stream.b0, dec_t (show (i : Int) ≥ 0 by omega), List.length_set, ht, inB_t (show (0 : Int) ≤ i by omega) (show (i : Int) < ((16 : Nat) : Int) by omega), cond_true, Int.toNat_natCast, w1, ih]
  cases decide (rd 0 (ta.set i (IntKind.u8.wrap (rd 0 ta (i : Int) + 1))) (i : Int) = 0) <;> rfl
end
def strE (key at_ : List Int) (n : Int) : Int := if n < 0 ∨ n > 65536 then 13 else if key.length = 16 ∨ key.length = 32 then (if at_.length = 16 then 0 else 10) else 13
noncomputable def strR (key at_ : List Int) (n : Int) : List Int := if strE key at_ n = 0 then strS key at_ n.toNat else []
theorem S_loop {key at_ : List Int} {q : Nat} (hk : key.length = 16 ∨ key.length = 32) (hkb : Bs key) (ha : at_.length = 16) (hq : q ≤ 65536) :
  aes_Stream.l16 .lim ((q : Int), key, 0, 0, 0, z256, z256, List.replicate 16 z256, at_, [], [], ()) = some ((q : Int), (ctrS key at_ ((q + 15) / 16)).1, ()) := by
 have step : ∀ (k : Nat) (dn mu : Int) (sb bk : List Int) (yb rn : List (List Int)), k < (q + 15) / 16 → aes_Stream.l14 .lim ((ctrS key at_ k).2, (q : Int), key, dn, mu, 0, sb, bk, yb, (ctrS key at_ k).2, (ctrS key at_ k).1, rn, ()) = some ((q : Int), encS key (ctrS key at_ k).2, key, 1, 0, 0, sbT 256, bkS 256, rowsT 256, (ctrS key at_ k).2, (ctrS key at_ k).1, rnds (allW key), ()) →
   aes_Stream.l16 .lim ((q : Int), key, dn, mu, 0, sb, bk, yb, (ctrS key at_ k).2, (ctrS key at_ k).1, rn, ()) = aes_Stream.l16 .lim ((q : Int), key, 1, 0, 0, sbT 256, bkS 256, rowsT 256, (ctrS key at_ (k + 1)).2, (ctrS key at_ (k + 1)).1, rnds (allW key), ()) := by
  intro k dn mu sb bk yb rn hk e
  obtain ⟨h1, h2⟩ := ctrS_len key at_ k
  have hi := S_inc (n := (q : Int)) (dn := 1) (mu := 0) (sm := 0) (key := key) (sb := sbT 256) (bk := bkS 256) (yb := rowsT 256) (rn := rnds (allW key)) (out := (ctrS key at_ k).1 ++ encS key (ctrS key at_ k).2) 16 (by omega) (ctrS key at_ k).2 (by omega)
  rw [show ((16 : Nat) : Int) - 1 = 15 from rfl] at hi
  rw [aes_Stream.q16]
  simp only [aes_Stream.b16, smallN (show (ctrS key at_ k).1.length < 9223372036854775808 by omega), dec_t (show (((ctrS key at_ k).1.length : Nat) : Int) < (q : Int) by omega), cond_true, e, Option.bind_some, take16 (encS_ok key (ctrS key at_ k).2).1, (encS_ok key (ctrS key at_ k).2).1, hi]
  rw [cond_pos (dec_t (by omega))]
  rfl
 have fin : ∀ dn mu sb bk yb rn, aes_Stream.l16 .lim ((q : Int), key, dn, mu, 0, sb, bk, yb, (ctrS key at_ ((q + 15) / 16)).2, (ctrS key at_ ((q + 15) / 16)).1, rn, ()) = some ((q : Int), (ctrS key at_ ((q + 15) / 16)).1, ()) := by
  intro dn mu sb bk yb rn
  obtain ⟨h1, h2⟩ := ctrS_len key at_ ((q + 15) / 16)
  rw [aes_Stream.q16]
  simp only [aes_Stream.b16, smallN (show (ctrS key at_ ((q + 15) / 16)).1.length < 9223372036854775808 by omega), dec_f (show ¬ (((ctrS key at_ ((q + 15) / 16)).1.length : Nat) : Int) < (q : Int) by omega), cond_true, cond_false]
 by_cases h0 : q = 0
 ·subst h0
  exact fin 0 0 z256 z256 (List.replicate 16 z256) []
 ·obtain ⟨p, hp⟩ : ∃ p, (q + 15) / 16 = p + 1 := ⟨(q + 15) / 16 - 1, by omega⟩
  have e0 := step 0 0 0 z256 z256 (List.replicate 16 z256) [] (by omega) (S_first (n := (q : Int)) (sm := 0) (ta := at_) (out := []) hk hkb ha)
  have e1 := loop_to (f := aes_Stream.l16 .lim) (fun k => ((q : Int), key, 1, 0, 0, sbT 256, bkS 256, rowsT 256, (ctrS key at_ (k + 1)).2, (ctrS key at_ (k + 1)).1, rnds (allW key), ())) (n := p) (fun k hkp => step (k + 1) 1 0 (sbT 256) (bkS 256) (rowsT 256) (rnds (allW key)) (by omega) (S_again (n := (q : Int)) (sm := 0) (ta := (ctrS key at_ (k + 1)).2) (out := (ctrS key at_ (k + 1)).1) hk hkb (by rw [(ctrS_len _ _ _).2]; exact ha)))
  refine e0.trans (e1.trans ?_)
  rw [← hp]
  exact fin _ _ _ _ _ _
theorem astream_eq {key at_ : List Int} {n : Int} (hk : key.length < lim63) (ha : at_.length < lim63) (hkb : Bs key) : aes_Stream.run .lim (key, at_, n, ()) = some (strR key at_ n, strE key at_ n, ()) := by
 unfold strR strE
 simp only [aes_Stream.run, smallN hk, smallN ha, cond_true, Bool.or_true, dec_or]
 by_cases h0 : n < 0 ∨ n > 65536
 ·rw [dec_t h0, if_pos h0, if_neg (by decide)]; rfl
 ·rw [dec_f h0, if_neg h0]
  simp only [cond_false]
  by_cases h1 : key.length = 16 ∨ key.length = 32
  ·have : (!decide ((key.length : Int) = 16) && !decide ((key.length : Int) = 32)) = false := by
    rcases h1 with h | h
    ·rw [dec_t (show (key.length : Int) = 16 by omega)]; rfl
    ·rw [dec_t (show (key.length : Int) = 32 by omega), Bool.not_true, Bool.and_false]
   rw [this, if_pos h1]
   simp only [cond_false]
   by_cases h2 : at_.length = 16
   ·rw [dec_t (show (at_.length : Int) = 16 by omega), if_pos h2, if_pos rfl]
    simp only [Bool.not_true, cond_false, h2]
    have hn : n = ((n.toNat : Nat) : Int) := by omega
    have hl := S_loop (q := n.toNat) h1 hkb h2 (by omega)
    rw [← hn] at hl
    rw [show (Nat.ble 1 16 && Nat.ble 16 16) = true from rfl, cond_true, List.take_of_length_le (by omega), hl]
    simp only [Option.bind_some]
    have := (ctrS_len key at_ ((n.toNat + 15) / 16)).1
    rw [cond_pos (cutB_t (by omega) (by omega) (by omega)), List.drop_zero, Int.sub_zero]
    rfl
   ·rw [dec_f (show ¬ (at_.length : Int) = 16 by omega), if_neg h2, if_neg (by decide)]
    rfl
  ·rw [dec_f (show ¬ (key.length : Int) = 16 by omega), dec_f (show ¬ (key.length : Int) = 32 by omega), if_neg h1, if_neg (by decide)]
   rfl
theorem rstream_eq {key at_ : List Int} {n : Int} (hk : key.length < lim63) (ha : at_.length < lim63) (hkb : Bs key) : pendulumref08_Stream.run .lim (key, at_, n, ()) = some (strR key at_ n, strE key at_ n, ()) := by
 unfold strR strE
 simp only [pendulumref08_Stream.run, dec_or, rsized2_eq hk ha, Option.bind_some]
 by_cases h0 : n < 0 ∨ n > 65536
 ·rw [dec_t h0, if_pos h0, if_neg (show ¬ (13 : Int) = 0 by decide)]; rfl
 ·rw [dec_f h0, if_neg h0]
  simp only [cond_false]
  by_cases h1 : key.length = 16 ∨ key.length = 32
  ·rw [if_pos h1]
   by_cases h2 : at_.length = 16
   ·rw [if_pos h2, rwords_eq h1 hkb]
    simp only [Option.bind_some, decide_true, Bool.not_true, cond_false]
    have hn : n = ((n.toNat : Nat) : Int) := by omega
    generalize hq : n.toNat = q at hn
    subst hn
    have e := loop_to (f := pendulumref08_Stream.l1 .lim) (fun k => ((q : Int), (ctrS key at_ k).1, (allW key).flatten, (ctrS key at_ k).2, ())) (n := (q + 15) / 16) (fun k hk => by
     obtain ⟨g1, g2⟩ := ctrS_len key at_ k
     have hi := R_inc (n := (q : Int)) (w := (allW key).flatten) (out := (ctrS key at_ k).1 ++ encS key (ctrS key at_ k).2) 16 (by omega) (ctrS key at_ k).2 (by omega)
     rw [show ((16 : Nat) : Int) - 1 = 15 from rfl] at hi
     rw [pendulumref08_Stream.q1]
     simp only [pendulumref08_Stream.b1, smallN (show (ctrS key at_ k).1.length < 9223372036854775808 by omega), dec_t (show (((ctrS key at_ k).1.length : Nat) : Int) < (q : Int) by omega), cond_true, renc_eq h1 hkb (show (ctrS key at_ k).2.length = 16 by omega), Option.bind_some, (encS_ok key (ctrS key at_ k).2).1, hi]
     rw [cond_pos (dec_t (by unfold maxStr; omega))]
     rfl)
    rw [show (ctrS key at_ 0).1 = [] from rfl, show (ctrS key at_ 0).2 = at_ from rfl] at e
    obtain ⟨g1, g2⟩ := ctrS_len key at_ ((q + 15) / 16)
    rw [e, pendulumref08_Stream.q1]
    simp only [pendulumref08_Stream.b1, smallN (show (ctrS key at_ ((q + 15) / 16)).1.length < 9223372036854775808 by omega), dec_f (show ¬ (((ctrS key at_ ((q + 15) / 16)).1.length : Nat) : Int) < (q : Int) by omega), cond_true, cond_false, Option.bind_some]
    rw [cond_pos (cutB_t (by omega) (by omega) (by omega)), if_pos trivial]
    congr 2
   ·rw [if_neg h2, if_neg (show ¬ (10 : Int) = 0 by decide)]; rfl
  ·rw [if_neg h1, if_neg (show ¬ (13 : Int) = 0 by decide)]; rfl
end Go.AM
end
section
namespace Go.AM
theorem lim_of {n : Nat} (h : n < 9223372036854775808) : n < lim63 := h
def xorL (a b : List Int) : List Int := tab a.length fun i => ixor .u8 (rd 0 a (i : Int)) (rd 0 b (i : Int))
@[simp] theorem xorL_len (a b : List Int) : (xorL a b).length = a.length := tab_len
theorem xorL_B (a b : List Int) : Bs (xorL a b) := tab_B fun _ _ => xor_B _ _
theorem rd_xorL {a b : List Int} {k : Nat} (h : k < a.length) : rd 0 (xorL a b) (k : Int) = ixor .u8 (rd 0 a (k : Int)) (rd 0 b (k : Int)) := rd_tab h
theorem xorL_comm {a b : List Int} (h : a.length = b.length) : xorL a b = xorL b a := by
 unfold xorL; rw [h]; exact tab_congr fun k _ => xor_comm _ _
theorem xorL_assoc {a b c : List Int} (h : a.length = b.length) : xorL (xorL a b) c = xorL a (xorL b c) := by
 show tab (xorL a b).length _ = tab a.length _
 rw [xorL_len]
 refine tab_congr fun k hk => ?_
 rw [rd_xorL hk, rd_xorL (show k < b.length by omega), xor_assoc]
theorem xorL_back {a b : List Int} (h : a.length ≤ b.length) (ha : Bs a) : xorL (xorL a b) b = a := by
 refine rd_ext (d := 0) (by simp) fun k hk => ?_
 rw [xorL_len, xorL_len] at hk
 rw [rd_xorL (by simpa using hk), rd_xorL hk, xor_assoc, xor_self, xor_zero (ha _ (rd_mem (by omega) (by omega)))]
theorem sxor_eq {a b : List Int} (h : a.length ≤ b.length) (hb : b.length < 1000000000000) : siv_xor.run .lim (a, b, ()) = some (xorL a b) := by
 have e := loop_upd (f := siv_xor.l0 .lim) (fun k m => (b, (a.length : Int), (k : Int), m, ())) (fun k v => ixor .u8 v (rd 0 b (k : Int))) a rfl (fun k hk m' hm hj => by
  rw [siv_xor.q0]
  simp only [siv_xor.b0, dec_t (show (k : Int) < (a.length : Int) by omega), hm, inB_t (show (0 : Int) ≤ k by omega) (show (k : Int) < (a.length : Int) by omega), inB_t (show (0 : Int) ≤ k by omega) (show (k : Int) < (b.length : Int) by omega), cond_true, wk' k (by omega), hj k (Nat.le_refl _), Int.toNat_natCast])
 simp only [siv_xor.run, smallN (show a.length < 9223372036854775808 by omega), cond_true]
 rw [show (0 : Int) = ((0 : Nat) : Int) from rfl, e, siv_xor.q0]
 simp only [siv_xor.b0, dec_f (show ¬ (a.length : Int) < (a.length : Int) by omega), cond_false, Option.bind_some]
 rfl
theorem rxor_run {a b : List Int} (h : a.length ≤ b.length) (hb : b.length < 1000000000000) : pendulumref09_Xor.run .lim (a, b, ()) = some (xorL a b) := by
 have e := loop_to (f := pendulumref09_Xor.l0 .lim) (fun k => (a, b, (k : Int), tabP a.length k (fun i => ixor .u8 (rd 0 a (i : Int)) (rd 0 b (i : Int))), ())) (n := a.length) (fun k hk => by
  rw [pendulumref09_Xor.q0]
  simp only [pendulumref09_Xor.b0, smallN (show a.length < 9223372036854775808 by omega), tabP_len, dec_t (show (k : Int) < (a.length : Int) by omega), inB_t (show (0 : Int) ≤ k by omega) (show (k : Int) < (a.length : Int) by omega), inB_t (show (0 : Int) ≤ k by omega) (show (k : Int) < (b.length : Int) by omega), cond_true, wk' k (by omega), Int.toNat_natCast]
  rw [tabP_set rfl])
 have hb2 : Nat.blt a.length 70368744177664 = true := by rw [Nat.blt_eq]; omega
 rw [tabP_zero, show ((0 : Nat) : Int) = 0 from rfl] at e
 simp only [pendulumref09_Xor.run, smallN (show a.length < 9223372036854775808 by omega), cond_true, dec_t (show (0 : Int) ≤ (a.length : Int) by omega), dec_t (Int.le_refl (a.length : Int)), Int.toNat_natCast, hb2, Bool.and_self, e]
 rw [pendulumref09_Xor.q0]
 simp only [pendulumref09_Xor.b0, smallN (show a.length < 9223372036854775808 by omega), dec_f (show ¬ (a.length : Int) < (a.length : Int) by omega), cond_true, cond_false, Option.bind_some, tabP_end]
 rfl
theorem rep0' : ∀ n : Nat, repL [0] n = List.replicate n 0
 | 0 => rfl
 | n + 1 => by rw [repL, rep0' n]; rfl
theorem zeros_eq {n : Nat} (h : n ≤ 1000000) : siv_zeros.run .lim ((n : Int), ()) = some (List.replicate n 0) := by
 have : strings_Repeat.run .lim ([0], (n : Int), ()) = some (List.replicate n 0) := by
  show repF _ = _
  unfold repF
  rw [cond_pos (by simp; omega), Int.toNat_natCast, rep0']
 simp only [siv_zeros.run, this, Option.bind_some]
theorem rzeros_eq {n : Nat} (h : n ≤ 1000000) : pendulumref10_zeros.run .lim ((n : Int), ()) = some (List.replicate n 0) := by
 have hb2 : Nat.blt n 70368744177664 = true := by rw [Nat.blt_eq]; omega
 simp only [pendulumref10_zeros.run, dec_t (show (0 : Int) ≤ (n : Int) by omega), dec_t (Int.le_refl (n : Int)), Int.toNat_natCast, hb2, Bool.and_self, cond_true]
def twG (b : List Int) (i : Nat) : Int := if i = 15 then ishl .u8 (rd 0 b 15) 1 else ior .u8 (ishl .u8 (rd 0 b (i : Int)) 1) (ishr .u8 (rd 0 b ((i + 1 : Nat) : Int)) 7)
def twS (b : List Int) : List Int := if rd 0 b 0 ≥ 128 then (tab 16 (twG b)).set 15 (ixor .u8 (ishl .u8 (rd 0 b 15) 1) 135) else tab 16 (twG b)
theorem twG_B (b : List Int) (i : Nat) : B8 (twG b i) := by unfold twG; split <;> first | exact shl_B _ _ | exact or_B _ _
theorem twS_ok (b : List Int) : Blk (twS b) := by
 unfold twS
 split
 ·refine ⟨by simp, fun x hx => ?_⟩
  rcases List.mem_or_eq_of_mem_set hx with h | rfl
  ·exact tab_B (fun k _ => twG_B b k) x h
  ·exact xor_B _ _
 ·exact ⟨tab_len, tab_B fun k _ => twG_B b k⟩
theorem or_zero {a : Int} (h : B8 a) : ior .u8 a 0 = a := by
 show IntKind.u8.wrap (BitVec.ofInt 8 a ||| BitVec.ofInt 8 0).toNat = a
 rw [show BitVec.ofInt 8 0 = 0#8 from rfl, BitVec.or_zero, BitVec.toNat_ofInt, wrapu8]
 unfold B8 at h
 omega
def twP (b : List Int) (k : Nat) : List Int := tab 16 fun i => if k ≤ i then twG b i else rd 0 b (i : Int)
theorem twP_set {b : List Int} {k : Nat} (hk : k < 16) : (twP b (k + 1)).set k (twG b k) = twP b k := by
 unfold twP
 rw [tab_set]
 refine tab_congr fun i _ => ?_
 by_cases h1 : i = k
 ·subst h1; rw [if_pos rfl, if_pos (Nat.le_refl _)]
 ·rw [if_neg h1]
  by_cases h2 : k ≤ i
  ·rw [if_pos h2, if_pos (by omega)]
  ·rw [if_neg h2, if_neg (by omega)]
theorem rd_twP {b : List Int} {k : Nat} (hk : k < 16) : rd 0 (twP b (k + 1)) (k : Int) = rd 0 b (k : Int) := by
 unfold twP; rw [rd_tab hk, if_neg (by omega)]
theorem hi_bit {x : Int} (h : B8 x) : IntKind.u8.wrap (ishr .u8 x 7 * 135) = if x ≥ 128 then 135 else 0 :=
 byte_cases (p := fun x => IntKind.u8.wrap (ishr .u8 x 7 * 135) = if x ≥ 128 then 135 else 0) (by decide +kernel) h
theorem stwice_eq {b : List Int} (hb : Blk b) : siv_Twice.run .lim (b, ()) = some (twS b, 0, ()) := by
 obtain ⟨hl, hB⟩ := hb
 have h0 : ∀ (b : List Int), tab 16 (fun i => if 16 ≤ i then twG b i else rd 0 b (i : Int)) = tab 16 fun i => rd 0 b (i : Int) := fun b => tab_congr fun i hi => by rw [if_neg (by omega)]
 have e := loop_to (f := siv_Twice.l0 .lim) (fun k => ((15 : Int) - (k : Int), (if k = 0 then 0 else ishr .u8 (rd 0 b ((16 - k : Nat) : Int)) 7 : Int), twP b (16 - k), ())) (n := 16) (fun k hk => by
  rw [siv_Twice.q0]
  have ei : (15 : Int) - (k : Int) = ((15 - k : Nat) : Int) := by omega
  have w1 : IntKind.i64.wrap (((15 - k : Nat) : Int) - 1) = (15 : Int) - ((k + 1 : Nat) : Int) := by rw [wrap64 (by omega) (by omega)]; omega
  have hr := rd_twP (b := b) (k := 15 - k) (by omega)
  have hs := twP_set (b := b) (k := 15 - k) (by omega)
  rw [show 15 - k + 1 = 16 - k by omega] at hr hs
  have hx : B8 (rd 0 b ((15 - k : Nat) : Int)) := hB _ (rd_mem (by omega) (by omega))
  have hg : ior .u8 (ishl .u8 (rd 0 b ((15 - k : Nat) : Int)) 1) (if k = 0 then 0 else ishr .u8 (rd 0 b ((16 - k : Nat) : Int)) 7) = twG b (15 - k) := by
   unfold twG
   by_cases hk0 : k = 0
   ·subst hk0; rw [if_pos rfl, if_pos (by omega), or_zero (shl_B _ _)]; rfl
   ·rw [if_neg hk0, if_neg (by omega), show 15 - k + 1 = 16 - k by omega]
  have hl2 : (twP b (16 - k)).length = 16 := tab_len
  rw [ei]
  simp only [siv_Twice.b0, dec_t (show ((15 - k : Nat) : Int) ≥ 0 by omega), hl2, inB_t (show (0 : Int) ≤ ((15 - k : Nat) : Int) by omega) (show ((15 - k : Nat) : Int) < ((16 : Nat) : Int) by omega), cond_true, hr, w1, Int.toNat_natCast, hg, hs]
  rw [if_neg (by omega), show 16 - (k + 1) = 15 - k by omega])
 have hst : twP b 16 = b := by unfold twP; rw [h0, ← tab_of hl]
 have w0 : IntKind.i64.wrap ((b.length : Int) - 1) = 15 := by rw [wrap64 (by omega) (by omega)]; omega
 rw [Nat.sub_zero, hst, if_pos rfl, show (15 : Int) - ((0 : Nat) : Int) = 15 from rfl, if_neg (by omega), Nat.sub_self] at e
 have e0 : twP b 0 = tab 16 (twG b) := tab_congr fun i _ => by rw [if_pos (Nat.zero_le _)]
 simp only [siv_Twice.run, smallN (show b.length < 9223372036854775808 by omega), cond_true, dec_t (show (b.length : Int) = 16 by omega), Bool.not_true, cond_false, w0, e, e0]
 rw [siv_Twice.q0]
 have hx0 : B8 (rd 0 b ((0 : Nat) : Int)) := hB _ (rd_mem (by omega) (by omega))
 simp only [siv_Twice.b0, dec_f (show ¬ ((15 : Int) - ((16 : Nat) : Int) ≥ 0) by omega), cond_false, Option.bind_some, tab_len, inB_t (show (0 : Int) ≤ 15 by omega) (show (15 : Int) < ((16 : Nat) : Int) by omega), cond_true, hi_bit hx0]
 have h15 : rd 0 (tab 16 (twG b)) 15 = ishl .u8 (rd 0 b 15) 1 := by
  have := rd_tab (n := 16) (g := twG b) (k := 15) (by omega)
  rw [show ((15 : Nat) : Int) = 15 from rfl] at this
  rw [this]; rfl
 rw [h15]
 unfold twS
 rw [show ((0 : Nat) : Int) = 0 from rfl]
 by_cases hc : rd 0 b 0 ≥ 128
 ·rw [if_pos hc, if_pos hc]
 ·rw [if_neg hc, if_neg hc, xor_zero (shl_B _ _), tab_set]
  congr 2
theorem stwice_run {b : List Int} (hb : Blk b) : siv_twice.run .lim (b, ()) = some (twS b) := by
 simp only [siv_twice.run, stwice_eq hb, Option.bind_some]
theorem rtwice_eq {b : List Int} (hb : Blk b) : pendulumref10_twice.run .lim (b, ()) = some (twS b) := by
 obtain ⟨hl, hB⟩ := hb
 have e := loop_to (f := pendulumref10_twice.l0 .lim) (fun k => (b, (k : Int), tabP 16 k (twG b), ())) (n := 16) (fun k hk => by
  rw [pendulumref10_twice.q0]
  have hg1 : k < 15 → ior .u8 (ishl .u8 (rd 0 b (k : Int)) 1) (ishr .u8 (rd 0 b ((k + 1 : Nat) : Int)) 7) = twG b k := fun h => by unfold twG; rw [if_neg (by omega)]
  simp only [pendulumref10_twice.b0, dec_t (show (k : Int) < 16 by omega), hl, tabP_len, List.length_set, inB_t (show (0 : Int) ≤ k by omega) (show (k : Int) < ((16 : Nat) : Int) by omega), cond_true, wk' k (by omega), Int.toNat_natCast]
  by_cases hk15 : k < 15
  ·rw [dec_t (show (k : Int) < 15 by omega), inB_t (show (0 : Int) ≤ ((k + 1 : Nat) : Int) by omega) (show ((k + 1 : Nat) : Int) < ((16 : Nat) : Int) by omega), rd_set (by simpa using hk), hg1 hk15, List.set_set, tabP_set rfl]
   rfl
  ·have : k = 15 := by omega
   subst this
   rw [dec_f (show ¬ ((15 : Nat) : Int) < 15 by omega), tabP_set (by unfold twG; rw [if_pos rfl]; rfl)]
   rfl)
 rw [tabP_zero, show ((0 : Nat) : Int) = 0 from rfl] at e
 simp only [pendulumref10_twice.run, show Nat.blt 16 70368744177664 = true from rfl, cond_true, e]
 rw [pendulumref10_twice.q0]
 have h15 : rd 0 (tab 16 (twG b)) 15 = ishl .u8 (rd 0 b 15) 1 := by
  have := rd_tab (n := 16) (g := twG b) (k := 15) (by omega)
  rw [show ((15 : Nat) : Int) = 15 from rfl] at this
  rw [this]; rfl
 simp only [pendulumref10_twice.b0, dec_f (show ¬ ((16 : Nat) : Int) < 16 by omega), cond_false, Option.bind_some, hl, inB_t (show (0 : Int) ≤ 0 by omega) (show (0 : Int) < ((16 : Nat) : Int) by omega), cond_true, tabP_end, tab_len, inB_t (show (0 : Int) ≤ 15 by omega) (show (15 : Int) < ((16 : Nat) : Int) by omega), h15]
 unfold twS
 by_cases hc : rd 0 b 0 ≥ 128
 ·rw [dec_t hc, if_pos hc]; rfl
 ·rw [dec_f hc, if_neg hc]; rfl
def padS (s : List Int) : List Int := s ++ (128 :: List.replicate (15 - s.length) 0)
theorem padS_len {s : List Int} (h : s.length < 16) : (padS s).length = 16 := by simp [padS]; omega
noncomputable def cmN (key s : List Int) : Nat → List Int
 | 0 => z16
 | k + 1 => encS key (xorL (cmN key s k) ((s.drop (16 * k)).take 16))
theorem cmN_ok (key s : List Int) : ∀ k, Blk (cmN key s k)
 | 0 => ⟨rfl, fun x hx => by rw [(List.mem_replicate.1 hx).2]; exact ⟨by decide, by decide⟩⟩
 | _ + 1 => encS_ok _ _
noncomputable def k1S (key : List Int) : List Int := twS (encS key z16)
noncomputable def lastS (key s : List Int) : List Int := if s.length = 16 then xorL s (k1S key) else xorL (padS s) (twS (k1S key))
noncomputable def cmS (key s : List Int) : List Int := encS key (xorL (cmN key s ((s.length - 1) / 16)) (lastS key (s.drop (16 * ((s.length - 1) / 16)))))
theorem cmS_ok (key s : List Int) : Blk (cmS key s) := encS_ok _ _
theorem encR_ok {key b : List Int} (hk : key.length = 16 ∨ key.length = 32) (hb : b.length = 16) : encR key b = (encS key b, 0) := by
 unfold encR; rw [if_pos hk, if_pos hb]
theorem lastS_len {key s : List Int} (h : s.length ≤ 16) : (lastS key s).length = 16 := by
 unfold lastS
 split
 ·simpa
 ·rw [xorL_len, padS_len (by omega)]
section
variable {key s : List Int}
theorem stag_eq (hk : key.length = 16 ∨ key.length = 32) (hkb : Bs key) (hs : s.length < lim63) : siv_maker_tag.run .lim ((key, k1S key, twS (k1S key)), s, ()) = some (cmS key s) := by
 have z := zeros_eq (n := 16) (by omega)
 have hloop := loop_to (f := siv_maker_tag.l0 .lim) (fun k => (s.drop (16 * k), key, k1S key, twS (k1S key), cmN key s k, key, k1S key, twS (k1S key), ())) (n := (s.length - 1) / 16) (fun k hk' => by
  rw [siv_maker_tag.q0]
  have hl : (s.drop (16 * k)).length = s.length - 16 * k := List.length_drop
  have hc := cmN_ok key s k
  have h1 : cut (s.drop (16 * k)) 0 16 = (s.drop (16 * k)).take 16 := by have := cutN (s.drop (16 * k)) 0 16; simpa using this
  have h2 : cut (s.drop (16 * k)) 16 ((s.drop (16 * k)).length : Int) = s.drop (16 * (k + 1)) := by
   have := cutN (s.drop (16 * k)) 16 (s.drop (16 * k)).length
   rw [show ((16 : Nat) : Int) = 16 from rfl] at this
   rw [this, List.drop_drop, List.take_of_length_le (by rw [List.length_drop]; omega)]
   congr 1
  have hx := sxor_eq (a := cmN key s k) (b := (s.drop (16 * k)).take 16) (by rw [hc.1, List.length_take]; omega) (by rw [List.length_take]; omega)
  have he := aencrypt_eq (key := key) (b := xorL (cmN key s k) ((s.drop (16 * k)).take 16)) (lim_of (by omega)) (by rw [xorL_len, hc.1]; decide) hkb
  rw [encR_ok hk (by rw [xorL_len, hc.1])] at he
  have hlim : s.length < 9223372036854775808 := hs
  simp only [siv_maker_tag.b0, smallN (show (s.drop (16 * k)).length < 9223372036854775808 by omega), dec_t (show ((s.drop (16 * k)).length : Int) > 16 by omega), cutB_t (show (0 : Int) ≤ 0 by omega) (show (0 : Int) ≤ 16 by omega) (show (16 : Int) ≤ ((s.drop (16 * k)).length : Int) by omega), cutB_t (show (0 : Int) ≤ 16 by omega) (show (16 : Int) ≤ ((s.drop (16 * k)).length : Int) by omega) (Int.le_refl _), cond_true, h1, h2, hx, he, Option.bind_some]
  rfl)
 simp only [siv_maker_tag.run]
 rw [show (16 : Int) = ((16 : Nat) : Int) from rfl, z]
 simp only [Option.bind_some]
 rw [Nat.mul_zero, List.drop_zero, show cmN key s 0 = z16 from rfl] at hloop
 rw [hloop]
 generalize hq : (s.length - 1) / 16 = q
 have hl : (s.drop (16 * q)).length = s.length - 16 * q := List.length_drop
 have hlim : s.length < 9223372036854775808 := hs
 rw [siv_maker_tag.q0]
 have hc := cmN_ok key s q
 have h16 : (s.drop (16 * q)).length ≤ 16 := by omega
 simp only [siv_maker_tag.b0, smallN (show (s.drop (16 * q)).length < 9223372036854775808 by omega), dec_f (show ¬ ((s.drop (16 * q)).length : Int) > 16 by omega), cond_true, cond_false, Option.bind_some]
 have he := aencrypt_eq (key := key) (b := xorL (cmN key s q) (lastS key (s.drop (16 * q)))) (lim_of (by omega)) (by rw [xorL_len, hc.1]; decide) hkb
 rw [encR_ok hk (by rw [xorL_len, hc.1])] at he
 have hll := lastS_len (key := key) h16
 have hx2 := sxor_eq (a := cmN key s q) (b := lastS key (s.drop (16 * q))) (by rw [hc.1, hll]; omega) (by omega)
 have hcm : cmS key s = encS key (xorL (cmN key s q) (lastS key (s.drop (16 * q)))) := by unfold cmS; rw [hq]
 rw [hcm]
 generalize hm : s.drop (16 * q) = m at *
 by_cases h3 : m.length = 16
 ·rw [dec_t (show (m.length : Int) = ((16 : Nat) : Int) by omega)]
  have hx1 := sxor_eq (a := m) (b := k1S key) (by rw [h3, show (k1S key).length = 16 from (twS_ok _).1]; omega) (by rw [show (k1S key).length = 16 from (twS_ok _).1]; omega)
  have hls : lastS key m = xorL m (k1S key) := by unfold lastS; rw [if_pos h3]
  rw [hls] at hx2 he ⊢
  simp only [cond_true, hx1, Option.bind_some, hx2, he]
 ·rw [dec_f (show ¬ (m.length : Int) = ((16 : Nat) : Int) by omega)]
  have hls : lastS key m = xorL (padS m) (twS (k1S key)) := by unfold lastS; rw [if_neg h3]
  have w15 : IntKind.i64.wrap (15 - (m.length : Int)) = ((15 - m.length : Nat) : Int) := by rw [wrap64 (by omega) (by omega)]; omega
  have hz := zeros_eq (n := 15 - m.length) (by omega)
  have hpad : (m ++ [128]) ++ List.replicate (15 - m.length) (0 : Int) = padS m := by unfold padS; simp
  have hx1 := sxor_eq (a := padS m) (b := twS (k1S key)) (by rw [padS_len (by omega), (twS_ok _).1]; omega) (by rw [(twS_ok _).1]; omega)
  rw [hls] at hx2 he ⊢
  simp only [cond_false]
  rw [cond_pos (dec_t (by unfold maxStr; simp; omega)), w15, hz]
  simp only [Option.bind_some]
  rw [cond_pos (dec_t (by unfold maxStr; simp; omega)), hpad, hx1]
  simp only [Option.bind_some, hx2, he]
theorem rwhole_eq {m : List Int} (h : m.length < 16) : pendulumref10_whole.run .lim (m, ()) = some (padS m) := by
 have hz := rzeros_eq (n := 16) (by omega)
 simp only [pendulumref10_whole.run]
 rw [cond_pos (dec_t (by unfold maxStr; simp; omega)), show (16 : Int) = ((16 : Nat) : Int) from rfl, hz]
 simp only [Option.bind_some]
 rw [cond_pos (dec_t (by unfold maxStr; simp; omega)), cond_pos (cutB_t (by omega) (by omega) (by simp; omega))]
 congr 1
 have := cutN ((m ++ [128]) ++ List.replicate 16 (0 : Int)) 0 16
 rw [show ((0 : Nat) : Int) = 0 from rfl] at this
 rw [this, List.drop_zero, Nat.sub_zero, List.append_assoc, List.take_append, List.take_of_length_le (by omega)]
 unfold padS
 congr 1
 obtain ⟨p, hp⟩ : ∃ p, 16 - m.length = p + 1 := ⟨15 - m.length, by omega⟩
 rw [hp, show 15 - m.length = p by omega, List.singleton_append, List.take_succ_cons, List.take_replicate]
 congr 2
 omega
theorem rcmac_eq (hk : key.length = 16 ∨ key.length = 32) (hkb : Bs key) (hs : s.length < lim63) : pendulumref10_cmac.run .lim (key, s, ()) = some (cmS key s) := by
 have z := rzeros_eq (n := 16) (by omega)
 have hz16 : (List.replicate 16 (0 : Int)).length = 16 := rfl
 have e0 := rencrypt_run (key := key) (b := z16) (lim_of (by omega)) (by rw [hz16]; decide) hkb
 rw [encR_ok hk hz16] at e0
 have hloop := loop_to (f := pendulumref10_cmac.l0 .lim) (fun k => (key, s.drop (16 * k), k1S key, cmN key s k, ())) (n := (s.length - 1) / 16) (fun k hk' => by
  rw [pendulumref10_cmac.q0]
  have hl : (s.drop (16 * k)).length = s.length - 16 * k := List.length_drop
  have hc := cmN_ok key s k
  have h1 : cut (s.drop (16 * k)) 0 16 = (s.drop (16 * k)).take 16 := by have := cutN (s.drop (16 * k)) 0 16; simpa using this
  have h2 : cut (s.drop (16 * k)) 16 ((s.drop (16 * k)).length : Int) = s.drop (16 * (k + 1)) := by
   have := cutN (s.drop (16 * k)) 16 (s.drop (16 * k)).length
   rw [show ((16 : Nat) : Int) = 16 from rfl] at this
   rw [this, List.drop_drop, List.take_of_length_le (by rw [List.length_drop]; omega)]
   congr 1
  have hx := rxor_run (a := cmN key s k) (b := (s.drop (16 * k)).take 16) (by rw [hc.1, List.length_take]; omega) (by rw [List.length_take]; omega)
  have he := rencrypt_run (key := key) (b := xorL (cmN key s k) ((s.drop (16 * k)).take 16)) (lim_of (by omega)) (by rw [xorL_len, hc.1]; decide) hkb
  rw [encR_ok hk (by rw [xorL_len, hc.1])] at he
  have hlim : s.length < 9223372036854775808 := hs
  simp only [pendulumref10_cmac.b0, smallN (show (s.drop (16 * k)).length < 9223372036854775808 by omega), dec_t (show ((s.drop (16 * k)).length : Int) > 16 by omega), cutB_t (show (0 : Int) ≤ 0 by omega) (show (0 : Int) ≤ 16 by omega) (show (16 : Int) ≤ ((s.drop (16 * k)).length : Int) by omega), cutB_t (show (0 : Int) ≤ 16 by omega) (show (16 : Int) ≤ ((s.drop (16 * k)).length : Int) by omega) (Int.le_refl _), cond_true, h1, h2, hx, he, Option.bind_some]
  rfl)
 simp only [pendulumref10_cmac.run]
 rw [show (16 : Int) = ((16 : Nat) : Int) from rfl, z]
 simp only [Option.bind_some, e0, rtwice_eq (encS_ok _ _)]
 rw [Nat.mul_zero, List.drop_zero, show cmN key s 0 = z16 from rfl] at hloop
 rw [show twS (encS key z16) = k1S key from rfl, hloop]
 generalize hq : (s.length - 1) / 16 = q
 have hl : (s.drop (16 * q)).length = s.length - 16 * q := List.length_drop
 have hlim : s.length < 9223372036854775808 := hs
 rw [pendulumref10_cmac.q0]
 have hc := cmN_ok key s q
 have h16 : (s.drop (16 * q)).length ≤ 16 := by omega
 have he := rencrypt_run (key := key) (b := xorL (cmN key s q) (lastS key (s.drop (16 * q)))) (lim_of (by omega)) (by rw [xorL_len, hc.1]; decide) hkb
 rw [encR_ok hk (by rw [xorL_len, hc.1])] at he
 have hcm : cmS key s = encS key (xorL (cmN key s q) (lastS key (s.drop (16 * q)))) := by unfold cmS; rw [hq]
 rw [hcm]
 simp only [pendulumref10_cmac.b0, smallN (show (s.drop (16 * q)).length < 9223372036854775808 by omega), dec_f (show ¬ ((s.drop (16 * q)).length : Int) > 16 by omega), cond_true, cond_false, Option.bind_some]
 generalize hm : s.drop (16 * q) = m at *
 have hk1 : (k1S key).length = 16 := (twS_ok _).1
 by_cases h3 : m.length = 16
 ·rw [dec_f (show ¬ (m.length : Int) < ((16 : Nat) : Int) by omega)]
  have hx1 := rxor_run (a := cmN key s q) (b := m) (by rw [h3, hc.1]; omega) (by omega)
  have hx2 := rxor_run (a := xorL (cmN key s q) m) (b := k1S key) (by rw [xorL_len, hc.1, hk1]; omega) (by omega)
  have hls : xorL (xorL (cmN key s q) m) (k1S key) = xorL (cmN key s q) (lastS key m) := by unfold lastS; rw [if_pos h3, xorL_assoc (by rw [hc.1, h3])]
  simp only [cond_false, hx1, Option.bind_some, hx2, hls, he]
 ·rw [dec_t (show (m.length : Int) < ((16 : Nat) : Int) by omega)]
  have hp := padS_len (s := m) (by omega)
  have ht : (twS (k1S key)).length = 16 := (twS_ok _).1
  have hx1 := rxor_run (a := cmN key s q) (b := padS m) (by rw [hp, hc.1]; omega) (by omega)
  have hx2 := rxor_run (a := xorL (cmN key s q) (padS m)) (b := twS (k1S key)) (by rw [xorL_len, hc.1, ht]; omega) (by omega)
  have hls : xorL (xorL (cmN key s q) (padS m)) (twS (k1S key)) = xorL (cmN key s q) (lastS key m) := by unfold lastS; rw [if_neg h3, xorL_assoc (by rw [hc.1, hp])]
  simp only [cond_true, rwhole_eq (show m.length < 16 by omega), rtwice_eq (show Blk (k1S key) from twS_ok _), hx1, Option.bind_some, hx2, hls, he]
end
end Go.AM
end
section
namespace Go.AM
noncomputable def s2N (key : List Int) (l : List (List Int)) : Nat → List Int
 | 0 => cmS key z16
 | k + 1 => xorL (twS (s2N key l k)) (cmS key (rd [] l (k : Int)))
noncomputable def s2E (key d s : List Int) : List Int :=
 if s.length < 16 then cmS key (xorL (padS s) (twS d)) else cmS key (s.take (s.length - 16) ++ xorL (s.drop (s.length - 16)) d)
noncomputable def s2S (key : List Int) (l : List (List Int)) : List Int :=
 if l.length = 0 then cmS key (List.replicate 15 0 ++ [1]) else s2E key (s2N key l (l.length - 1)) (rd [] l ((l.length - 1 : Nat) : Int))
theorem s2N_ok (key : List Int) (l : List (List Int)) : ∀ k, Blk (s2N key l k)
 | 0 => cmS_ok _ _
 | k + 1 => ⟨by rw [s2N, xorL_len, (twS_ok _).1], xorL_B _ _⟩
theorem s2S_ok (key : List Int) (l : List (List Int)) : Blk (s2S key l) := by
 unfold s2S s2E
 split
 ·exact cmS_ok _ _
 ·split <;> exact cmS_ok _ _
theorem k1_blk (key : List Int) : Blk (k1S key) := twS_ok _
theorem sbegin_eq {key : List Int} (hk : key.length = 16 ∨ key.length = 32) (hkb : Bs key) : siv_begin.run .lim (key, ()) = some ((key, (k1S key, twS (k1S key))), 0, ()) := by
 have z := zeros_eq (n := 16) (by omega)
 have hz16 : (List.replicate 16 (0 : Int)).length = 16 := rfl
 have he := aencrypt_eq (key := key) (b := z16) (lim_of (by omega)) (by rw [hz16]; decide) hkb
 rw [encR_ok hk hz16] at he
 simp only [siv_begin.run]
 rw [show (16 : Int) = ((16 : Nat) : Int) from rfl, z]
 simp only [Option.bind_some, he, decide_true, Bool.not_true, cond_false, stwice_run (encS_ok key z16)]
 rw [show twS (encS key z16) = k1S key from rfl, stwice_run (k1_blk key)]
 rfl
section
variable {key : List Int}
theorem srow_eq {l : List (List Int)} (hk : key.length = 16 ∨ key.length = 32) (hkb : Bs key) (hl : l.length < lim63) (hs : ∀ s ∈ l, s.length < lim63) :
  siv_maker_row.run .lim ((key, (k1S key, twS (k1S key))), l, ()) = some (s2S key l) := by
 have hlim : l.length < 9223372036854775808 := hl
 simp only [siv_maker_row.run, smallN hlim, cond_true]
 unfold s2S
 by_cases h0 : l.length = 0
 ·rw [dec_t (show (l.length : Int) = 0 by omega), if_pos h0]
  have z := zeros_eq (n := 15) (by omega)
  simp only [cond_true]
  rw [show (15 : Int) = ((15 : Nat) : Int) from rfl, z]
  simp only [Option.bind_some]
  rw [cond_pos (by decide), stag_eq hk hkb (by decide)]
  rfl
 ·rw [dec_f (show ¬ (l.length : Int) = 0 by omega), if_neg h0]
  have z := zeros_eq (n := 16) (by omega)
  have w1 : IntKind.i64.wrap ((l.length : Int) - 1) = ((l.length - 1 : Nat) : Int) := by rw [wrap64 (by omega) (by omega)]; omega
  have hc : cut l 0 ((l.length - 1 : Nat) : Int) = l.take (l.length - 1) := by
   have := cutN l 0 (l.length - 1)
   rw [show ((0 : Nat) : Int) = 0 from rfl] at this
   rw [this, List.drop_zero, Nat.sub_zero]
  have htl : (l.take (l.length - 1)).length = l.length - 1 := by rw [List.length_take]; omega
  generalize hs1 : rd ([] : List Int) l ((l.length - 1 : Nat) : Int) = s
  have hsl : s.length < 9223372036854775808 := by rw [← hs1]; exact hs _ (rd_mem (by omega) (by omega))
  have hloop := loop_to (f := siv_maker_row.l0 .lim) (fun k => (s2N key l k, s, l.take (l.length - 1), ((l.length - 1 : Nat) : Int), (k : Int), key, k1S key, twS (k1S key), ())) (n := l.length - 1) (fun k hk' => by
   rw [siv_maker_row.q0]
   have hok := s2N_ok key l k
   have ht := stag_eq (key := key) (s := rd [] l (k : Int)) hk hkb (hs _ (rd_mem (by omega) (by omega)))
   have hx := sxor_eq (a := twS (s2N key l k)) (b := cmS key (rd [] l (k : Int))) (by rw [(twS_ok _).1, (cmS_ok _ _).1]; omega) (by rw [(cmS_ok _ _).1]; omega)
   simp only [siv_maker_row.b0, dec_t (show (k : Int) < ((l.length - 1 : Nat) : Int) by omega), htl, inB_t (show (0 : Int) ≤ k by omega) (show (k : Int) < ((l.length - 1 : Nat) : Int) by omega), rd_take (d := ([] : List Int)) (xs := l) hk', cond_true, stwice_run hok, Option.bind_some, ht, hx, wk k (by omega)]
   rfl)
  rw [show s2N key l 0 = cmS key z16 from rfl, show ((0 : Nat) : Int) = 0 from rfl] at hloop
  simp only [cond_false]
  rw [show (16 : Int) = ((16 : Nat) : Int) from rfl, z]
  simp only [Option.bind_some, stag_eq hk hkb (show (List.replicate 16 (0 : Int)).length < lim63 by decide), w1, inB_t (show (0 : Int) ≤ ((l.length - 1 : Nat) : Int) by omega) (show ((l.length - 1 : Nat) : Int) < (l.length : Int) by omega), cutB_t (Int.le_refl 0) (show (0 : Int) ≤ ((l.length - 1 : Nat) : Int) by omega) (show ((l.length - 1 : Nat) : Int) ≤ (l.length : Int) by omega), cond_true, hc, htl, smallN (show l.length - 1 < 9223372036854775808 by omega), hs1]
  rw [hloop, siv_maker_row.q0]
  simp only [siv_maker_row.b0, dec_f (show ¬ ((l.length - 1 : Nat) : Int) < ((l.length - 1 : Nat) : Int) by omega), cond_false, Option.bind_some, smallN hsl, cond_true]
  have w2 : IntKind.i64.wrap ((s.length : Int) - ((16 : Nat) : Int)) = (s.length : Int) - 16 := by rw [wrap64 (by omega) (by omega)]; omega
  rw [w2]
  have hd := s2N_ok key l (l.length - 1)
  unfold s2E
  by_cases h3 : s.length < 16
  ·rw [dec_f (show ¬ ((s.length : Int) - 16 ≥ 0) by omega), if_pos h3]
   have w15 : IntKind.i64.wrap (15 - (s.length : Int)) = ((15 - s.length : Nat) : Int) := by rw [wrap64 (by omega) (by omega)]; omega
   have hz := zeros_eq (n := 15 - s.length) (by omega)
   have hpad : (s ++ [128]) ++ List.replicate (15 - s.length) (0 : Int) = padS s := by unfold padS; simp
   have hx := sxor_eq (a := padS s) (b := twS (s2N key l (l.length - 1))) (by rw [padS_len h3, (twS_ok _).1]; omega) (by rw [(twS_ok _).1]; omega)
   simp only [cond_false]
   rw [cond_pos (dec_t (by unfold maxStr; simp; omega)), w15, hz]
   simp only [Option.bind_some]
   rw [cond_pos (dec_t (by unfold maxStr; simp; omega)), hpad]
   simp only [stwice_run hd, Option.bind_some, hx]
   rw [stag_eq hk hkb (by rw [xorL_len, padS_len h3]; decide)]
   rfl
  ·rw [dec_t (show (s.length : Int) - 16 ≥ 0 by omega), if_neg h3]
   have e16 : (s.length : Int) - 16 = ((s.length - 16 : Nat) : Int) := by omega
   have hc1 : cut s ((s.length - 16 : Nat) : Int) (s.length : Int) = s.drop (s.length - 16) := by
    rw [cutN, List.take_of_length_le (by rw [List.length_drop]; omega)]
   have hc2 : cut s 0 ((s.length - 16 : Nat) : Int) = s.take (s.length - 16) := by
    have := cutN s 0 (s.length - 16)
    rw [show ((0 : Nat) : Int) = 0 from rfl] at this
    rw [this, List.drop_zero, Nat.sub_zero]
   have hx := sxor_eq (a := s.drop (s.length - 16)) (b := s2N key l (l.length - 1)) (by rw [List.length_drop, hd.1]; omega) (by rw [hd.1]; omega)
   have htl2 : (s.take (s.length - 16) ++ xorL (s.drop (s.length - 16)) (s2N key l (l.length - 1))).length = s.length := by rw [List.length_append, xorL_len, List.length_take, List.length_drop]; omega
   simp only [e16, cond_true, cutB_t (Int.le_refl 0) (show (0 : Int) ≤ ((s.length - 16 : Nat) : Int) by omega) (show ((s.length - 16 : Nat) : Int) ≤ (s.length : Int) by omega), cutB_t (show (0 : Int) ≤ ((s.length - 16 : Nat) : Int) by omega) (show ((s.length - 16 : Nat) : Int) ≤ (s.length : Int) by omega) (Int.le_refl _), hc1, hc2, hx, Option.bind_some]
   rw [cond_pos (dec_t (by rw [xorL_len, List.length_take, List.length_drop]; unfold maxStr; omega)), stag_eq hk hkb (by rw [htl2]; exact hsl)]
   rfl
theorem rs2v_eq {l : List (List Int)} (hk : key.length = 16 ∨ key.length = 32) (hkb : Bs key) (hl : l.length ≤ 127) (hs : ∀ s ∈ l, s.length < lim63) :
  pendulumref10_S2v.run .lim (key, l, ()) = some (s2S key l, 0, ()) := by
 have hsz : pendulumref10_sized.run .lim (key, ()) = some true := by
  have hk63 : key.length < 9223372036854775808 := by omega
  simp only [pendulumref10_sized.run, smallN hk63, cond_true, Bool.or_true]
  rcases hk with h | h
  ·rw [dec_t (show (key.length : Int) = 16 by omega)]; rfl
  ·rw [dec_t (show (key.length : Int) = 32 by omega), Bool.or_true]
 simp only [pendulumref10_S2v.run, hsz, Option.bind_some, Bool.not_true, cond_false, smallN (show l.length < 9223372036854775808 by omega), cond_true, dec_f (show ¬ (l.length : Int) > 127 by omega)]
 unfold s2S
 by_cases h0 : l.length = 0
 ·rw [dec_t (show (l.length : Int) = 0 by omega), if_pos h0]
  have z := rzeros_eq (n := 15) (by omega)
  simp only [cond_true]
  rw [show (15 : Int) = ((15 : Nat) : Int) from rfl, z]
  simp only [Option.bind_some]
  rw [cond_pos (by decide), rcmac_eq hk hkb (by decide)]
  rfl
 ·rw [dec_f (show ¬ (l.length : Int) = 0 by omega), if_neg h0]
  have z := rzeros_eq (n := 16) (by omega)
  have w1 : IntKind.i64.wrap ((l.length : Int) - 1) = ((l.length - 1 : Nat) : Int) := by rw [wrap64 (by omega) (by omega)]; omega
  have hloop := loop_to (f := pendulumref10_S2v.l0 .lim) (fun k => (key, l, s2N key l k, (k : Int), ())) (n := l.length - 1) (fun k hk' => by
   rw [pendulumref10_S2v.q0]
   have hok := s2N_ok key l k
   have ht := rcmac_eq (key := key) (s := rd [] l (k : Int)) hk hkb (hs _ (rd_mem (by omega) (by omega)))
   have hx := rxor_run (a := twS (s2N key l k)) (b := cmS key (rd [] l (k : Int))) (by rw [(twS_ok _).1, (cmS_ok _ _).1]; omega) (by rw [(cmS_ok _ _).1]; omega)
   simp only [pendulumref10_S2v.b0, smallN (show l.length < 9223372036854775808 by omega), w1, dec_t (show (k : Int) < ((l.length - 1 : Nat) : Int) by omega), inB_t (show (0 : Int) ≤ k by omega) (show (k : Int) < (l.length : Int) by omega), cond_true, rtwice_eq hok, Option.bind_some, ht, hx, wk k (by omega)]
   rfl)
  rw [show s2N key l 0 = cmS key z16 from rfl, show ((0 : Nat) : Int) = 0 from rfl] at hloop
  simp only [cond_false]
  rw [show (16 : Int) = ((16 : Nat) : Int) from rfl, z]
  simp only [Option.bind_some, rcmac_eq hk hkb (show (List.replicate 16 (0 : Int)).length < lim63 by decide)]
  rw [hloop, pendulumref10_S2v.q0]
  generalize hs1 : rd ([] : List Int) l ((l.length - 1 : Nat) : Int) = s
  have hsl : s.length < 9223372036854775808 := by rw [← hs1]; exact hs _ (rd_mem (by omega) (by omega))
  simp only [pendulumref10_S2v.b0, smallN (show l.length < 9223372036854775808 by omega), w1, dec_f (show ¬ ((l.length - 1 : Nat) : Int) < ((l.length - 1 : Nat) : Int) by omega), cond_false, Option.bind_some, cond_true, inB_t (show (0 : Int) ≤ ((l.length - 1 : Nat) : Int) by omega) (show ((l.length - 1 : Nat) : Int) < (l.length : Int) by omega), hs1, smallN hsl]
  have w2 : IntKind.i64.wrap ((s.length : Int) - ((16 : Nat) : Int)) = (s.length : Int) - 16 := by rw [wrap64 (by omega) (by omega)]; omega
  rw [w2]
  have hd := s2N_ok key l (l.length - 1)
  unfold s2E
  by_cases h3 : s.length < 16
  ·rw [dec_t (show (s.length : Int) < ((16 : Nat) : Int) by omega), if_pos h3]
   have hx := rxor_run (a := twS (s2N key l (l.length - 1))) (b := padS s) (by rw [padS_len h3, (twS_ok _).1]; omega) (by rw [padS_len h3]; omega)
   rw [xorL_comm (by rw [padS_len h3, (twS_ok _).1])] at hx
   simp only [cond_true, rtwice_eq hd, rwhole_eq h3, Option.bind_some, hx]
   rw [rcmac_eq hk hkb (by rw [xorL_len, padS_len h3]; decide)]
   rfl
  ·rw [dec_f (show ¬ (s.length : Int) < ((16 : Nat) : Int) by omega), if_neg h3]
   have e16 : (s.length : Int) - 16 = ((s.length - 16 : Nat) : Int) := by omega
   have hc1 : cut s ((s.length - 16 : Nat) : Int) (s.length : Int) = s.drop (s.length - 16) := by
    rw [cutN, List.take_of_length_le (by rw [List.length_drop]; omega)]
   have hc2 : cut s 0 ((s.length - 16 : Nat) : Int) = s.take (s.length - 16) := by
    have := cutN s 0 (s.length - 16)
    rw [show ((0 : Nat) : Int) = 0 from rfl] at this
    rw [this, List.drop_zero, Nat.sub_zero]
   have hx := rxor_run (a := s.drop (s.length - 16)) (b := s2N key l (l.length - 1)) (by rw [List.length_drop, hd.1]; omega) (by rw [hd.1]; omega)
   have htl2 : (s.take (s.length - 16) ++ xorL (s.drop (s.length - 16)) (s2N key l (l.length - 1))).length = s.length := by rw [List.length_append, xorL_len, List.length_take, List.length_drop]; omega
   simp only [e16, cond_false, cutB_t (Int.le_refl 0) (show (0 : Int) ≤ ((s.length - 16 : Nat) : Int) by omega) (show ((s.length - 16 : Nat) : Int) ≤ (s.length : Int) by omega), cutB_t (show (0 : Int) ≤ ((s.length - 16 : Nat) : Int) by omega) (show ((s.length - 16 : Nat) : Int) ≤ (s.length : Int) by omega) (Int.le_refl _), cond_true, hc1, hc2, hx, Option.bind_some]
   rw [cond_pos (dec_t (by rw [xorL_len, List.length_take, List.length_drop]; unfold maxStr; omega)), rcmac_eq hk hkb (by rw [htl2]; exact hsl)]
   rfl
def maskV (v : List Int) : List Int := (v.set 8 (iand .u8 (rd 0 v 8) 127)).set 12 (iand .u8 (rd 0 (v.set 8 (iand .u8 (rd 0 v 8) 127)) 12) 127)
theorem maskV_len (v : List Int) : (maskV v).length = v.length := by simp [maskV]
noncomputable def strmS (key v s : List Int) : List Int := xorL s (strS key (maskV v) s.length)
theorem strmS_len (key v s : List Int) : (strmS key v s).length = s.length := xorL_len _ _
theorem strmS_B (key v s : List Int) : Bs (strmS key v s) := xorL_B _ _
theorem strmS_back (key v : List Int) {s : List Int} (h : Bs s) : strmS key v (strmS key v s) = s := by
 unfold strmS
 rw [xorL_len, xorL_back (by rw [strS_len]; omega) h]
theorem strR_ok {key v : List Int} {n : Nat} (hk : key.length = 16 ∨ key.length = 32) (hv : v.length = 16) (hn : n ≤ 65536) : strR key v (n : Int) = strS key v n := by
 unfold strR strE
 rw [if_neg (show ¬ ((n : Int) < 0 ∨ (n : Int) > 65536) by omega), if_pos hk, if_pos hv, if_pos rfl, Int.toNat_natCast]
theorem sstream_eq {v s : List Int} (hk : key.length = 16 ∨ key.length = 32) (hkb : Bs key) (hv : v.length = 16) (hs : s.length ≤ 65536) : siv_stream.run .lim (key, v, s, ()) = some (strmS key v s) := by
 have ha := astream_eq (key := key) (at_ := maskV v) (n := (s.length : Int)) (lim_of (by omega)) (by rw [maskV_len, hv]; decide) hkb
 rw [strR_ok hk (by rw [maskV_len, hv]) hs] at ha
 have hx := sxor_eq (a := s) (b := strS key (maskV v) s.length) (by rw [strS_len]; omega) (by rw [strS_len]; omega)
 unfold maskV at ha hx
 simp only [siv_stream.run, List.length_set, hv, inB_t (show (0 : Int) ≤ 8 by omega) (show (8 : Int) < ((16 : Nat) : Int) by omega), inB_t (show (0 : Int) ≤ 12 by omega) (show (12 : Int) < ((16 : Nat) : Int) by omega), smallN (show s.length < 9223372036854775808 by omega), cond_true, ha, Option.bind_some, hx]
 rfl
theorem rstreamed_eq {v s : List Int} (hk : key.length = 16 ∨ key.length = 32) (hkb : Bs key) (hv : v.length = 16) (hs : s.length ≤ 65536) : pendulumref10_streamed.run .lim (key, v, s, ()) = some (strmS key v s) := by
 have ha := rstream_eq (key := key) (at_ := maskV v) (n := (s.length : Int)) (lim_of (by omega)) (by rw [maskV_len, hv]; decide) hkb
 rw [strR_ok hk (by rw [maskV_len, hv]) hs] at ha
 have hx := rxor_run (a := s) (b := strS key (maskV v) s.length) (by rw [strS_len]; omega) (by rw [strS_len]; omega)
 unfold maskV at ha hx
 simp only [pendulumref10_streamed.run, List.length_set, hv, inB_t (show (0 : Int) ≤ 8 by omega) (show (8 : Int) < ((16 : Nat) : Int) by omega), inB_t (show (0 : Int) ≤ 12 by omega) (show (12 : Int) < ((16 : Nat) : Int) by omega), smallN (show s.length < 9223372036854775808 by omega), cond_true, ha, Option.bind_some, hx]
 rfl
abbrev half1 (key : List Int) : List Int := key.take (key.length / 2)
abbrev half2 (key : List Int) : List Int := key.drop (key.length / 2)
def sivE (key : List Int) (ad : List (List Int)) : Int := if key.length = 32 ∨ key.length = 64 then (if ad.length ≥ 127 then 18 else 0) else 13
noncomputable def sealS (key : List Int) (ad : List (List Int)) (plain : List Int) : List Int :=
 s2S (half1 key) (ad ++ [plain]) ++ strmS (half2 key) (s2S (half1 key) (ad ++ [plain])) plain
noncomputable def sealR (key : List Int) (ad : List (List Int)) (plain : List Int) : List Int × Int :=
 if sivE key ad = 0 then (if plain.length > 65536 then ([], 12) else (sealS key ad plain, 0)) else ([], sivE key ad)
noncomputable def openS (key sealed : List Int) : List Int := strmS (half2 key) (sealed.take 16) (sealed.drop 16)
noncomputable def openR (key : List Int) (ad : List (List Int)) (sealed : List Int) : List Int × Int :=
 if sivE key ad = 0 then (if sealed.length < 16 then ([], 11) else if sealed.length > 65552 then ([], 12) else
  if s2S (half1 key) (ad ++ [openS key sealed]) = sealed.take 16 then (openS key sealed, 0) else ([], 17)) else ([], sivE key ad)
theorem bs_take {s : List Int} (h : Bs s) (n : Nat) : Bs (s.take n) := fun x hx => h x (List.mem_of_mem_take hx)
theorem bs_drop {s : List Int} (h : Bs s) (n : Nat) : Bs (s.drop n) := fun x hx => h x (List.mem_of_mem_drop hx)
theorem halves_len {key : List Int} (h : key.length = 32 ∨ key.length = 64) : ((half1 key).length = 16 ∨ (half1 key).length = 32) ∧ ((half2 key).length = 16 ∨ (half2 key).length = 32) := by
 unfold half1 half2
 rw [List.length_take, List.length_drop]; omega
theorem shalves_eq {ad : List (List Int)} (hk : key.length < lim63) (hkb : Bs key) (ha : ad.length < lim63) :
  ∃ r r1, siv_halves.run .lim (key, ad, ()) = some (r, r1, sivE key ad, ()) ∧ (sivE key ad = 0 → r = (half1 key, (k1S (half1 key), twS (k1S (half1 key)))) ∧ r1 = half2 key) := by
 have hk63 : key.length < 9223372036854775808 := hk
 have ha63 : ad.length < 9223372036854775808 := ha
 have hd : (key.length : Int).tdiv 2 = ((key.length / 2 : Nat) : Int) := by rw [Int.tdiv_eq_ediv_of_nonneg (Int.natCast_nonneg _)]; simp
 have w1 : IntKind.i64.wrap ((key.length : Int).tdiv 2) = ((key.length / 2 : Nat) : Int) := by rw [hd, wrap64 (by omega) (by omega)]
 unfold sivE
 simp only [siv_halves.run, smallN hk63, smallN ha63, cond_true, Bool.or_true, w1]
 by_cases h1 : key.length = 32 ∨ key.length = 64
 ·have : (!decide ((key.length : Int) = 32) && !decide ((key.length : Int) = 64)) = false := by
   rcases h1 with h | h
   ·rw [dec_t (show (key.length : Int) = 32 by omega)]; rfl
   ·rw [dec_t (show (key.length : Int) = 64 by omega), Bool.not_true, Bool.and_false]
  rw [this, if_pos h1]
  simp only [cond_false]
  by_cases h2 : ad.length ≥ 127
  ·rw [dec_t (show (ad.length : Int) ≥ 127 by omega), if_pos h2]
   exact ⟨_, _, rfl, fun h => absurd h (by decide)⟩
  ·rw [dec_f (show ¬ (ad.length : Int) ≥ 127 by omega), if_neg h2]
   have hc1 : cut key 0 ((key.length / 2 : Nat) : Int) = half1 key := by
    have := cutN key 0 (key.length / 2)
    rw [show ((0 : Nat) : Int) = 0 from rfl] at this
    rw [this, List.drop_zero, Nat.sub_zero]
   have hc2 : cut key ((key.length / 2 : Nat) : Int) (key.length : Int) = half2 key := by
    rw [cutN, List.take_of_length_le (by rw [List.length_drop]; omega)]
   simp only [cond_false, cutB_t (Int.le_refl 0) (show (0 : Int) ≤ ((key.length / 2 : Nat) : Int) by omega) (show ((key.length / 2 : Nat) : Int) ≤ (key.length : Int) by omega), cutB_t (show (0 : Int) ≤ ((key.length / 2 : Nat) : Int) by omega) (show ((key.length / 2 : Nat) : Int) ≤ (key.length : Int) by omega) (Int.le_refl _), cond_true, hc1, hc2, sbegin_eq (halves_len h1).1 (bs_take hkb _), Option.bind_some]
   exact ⟨_, _, rfl, fun _ => ⟨rfl, rfl⟩⟩
 ·rw [dec_f (show ¬ (key.length : Int) = 32 by omega), dec_f (show ¬ (key.length : Int) = 64 by omega), if_neg h1]
  exact ⟨_, _, rfl, fun h => absurd h (by decide)⟩
theorem rrefused_eq {ad : List (List Int)} (hk : key.length < lim63) (ha : ad.length < lim63) : pendulumref10_refused.run .lim (key, ad, ()) = some (sivE key ad) := by
 have hk63 : key.length < 9223372036854775808 := hk
 have ha63 : ad.length < 9223372036854775808 := ha
 unfold sivE
 simp only [pendulumref10_refused.run, smallN hk63, smallN ha63, cond_true, Bool.or_true]
 by_cases h1 : key.length = 32 ∨ key.length = 64
 ·have : (!decide ((key.length : Int) = 32) && !decide ((key.length : Int) = 64)) = false := by
   rcases h1 with h | h
   ·rw [dec_t (show (key.length : Int) = 32 by omega)]; rfl
   ·rw [dec_t (show (key.length : Int) = 64 by omega), Bool.not_true, Bool.and_false]
  rw [this, if_pos h1]
  by_cases h2 : ad.length ≥ 127
  ·rw [dec_t (show (ad.length : Int) ≥ 127 by omega), if_pos h2]; rfl
  ·rw [dec_f (show ¬ (ad.length : Int) ≥ 127 by omega), if_neg h2]; rfl
 ·rw [dec_f (show ¬ (key.length : Int) = 32 by omega), dec_f (show ¬ (key.length : Int) = 64 by omega), if_neg h1]; rfl
theorem sivE_zero {ad : List (List Int)} (h : sivE key ad = 0) : (key.length = 32 ∨ key.length = 64) ∧ ad.length < 127 := by
 unfold sivE at h
 split at h
 ·split at h
  ·exact absurd h (by decide)
  ·exact ⟨by assumption, by omega⟩
 ·exact absurd h (by decide)
theorem clone_eq {ad : List (List Int)} (h : ad.length < 4398046511104) : slices_Clone_string_string.run .lim (ad, ()) = some ad := by
 simp only [slices_Clone_string_string.run]
 rw [cond_pos (dec_t (by simpa using h)), List.nil_append]
theorem sseal_eq {ad : List (List Int)} {plain : List Int} (hk : key.length < lim63) (hkb : Bs key) (ha : ad.length < lim63) (had : ∀ s ∈ ad, s.length < lim63) (hp : plain.length < lim63) :
  siv_Seal.run .lim (key, ad, plain, ()) = some ((sealR key ad plain).1, (sealR key ad plain).2, ()) := by
 obtain ⟨r, r1, e, hz⟩ := shalves_eq hk hkb ha
 have hp63 : plain.length < 9223372036854775808 := hp
 unfold sealR
 simp only [siv_Seal.run, e, Option.bind_some, smallN hp63, cond_true]
 by_cases h0 : sivE key ad = 0
 ·obtain ⟨rfl, rfl⟩ := hz h0
  obtain ⟨h1, h2⟩ := sivE_zero h0
  obtain ⟨g1, g2⟩ := halves_len h1
  rw [dec_t h0, if_pos h0]
  simp only [Bool.not_true, cond_false]
  by_cases h3 : plain.length > 65536
  ·rw [dec_t (show (plain.length : Int) > 65536 by omega), if_pos h3]; rfl
  ·rw [dec_f (show ¬ (plain.length : Int) > 65536 by omega), if_neg h3]
   have hall : ∀ s ∈ ad ++ [plain], s.length < lim63 := fun s hs => by
    rcases List.mem_append.1 hs with hs | hs
    ·exact had s hs
    ·rw [List.mem_singleton.1 hs]; exact hp
   have hv := (s2S_ok (half1 key) (ad ++ [plain])).1
   simp only [cond_false, clone_eq (show ad.length < 4398046511104 by omega), Option.bind_some]
   rw [cond_pos (dec_t (by simp; omega)), srow_eq g1 (bs_take hkb _) (lim_of (by simp; omega)) hall]
   simp only [Option.bind_some, sstream_eq g2 (bs_drop hkb _) hv (show plain.length ≤ 65536 by omega)]
   rw [cond_pos (dec_t (by rw [hv, strmS_len]; unfold maxStr; omega))]
   rfl
 ·rw [dec_f h0, if_neg h0]
  rfl
theorem rtag_eq {ad : List (List Int)} {plain : List Int} (hk : key.length = 16 ∨ key.length = 32) (hkb : Bs key) (ha : ad.length < 127) (hs : ∀ s ∈ ad ++ [plain], s.length < lim63) : pendulumref10_tag.run .lim (key, ad, plain, ()) = some (s2S key (ad ++ [plain])) := by
 simp only [pendulumref10_tag.run]
 rw [cond_pos (dec_t (by omega)), cond_pos (dec_t (by simp; omega)), rs2v_eq hk hkb (by simp; omega) hs]
 rfl
theorem rseal_eq {ad : List (List Int)} {plain : List Int} (hk : key.length < lim63) (hkb : Bs key) (ha : ad.length < lim63) (had : ∀ s ∈ ad, s.length < lim63) (hp : plain.length < lim63) :
  pendulumref10_Seal.run .lim (key, ad, plain, ()) = some ((sealR key ad plain).1, (sealR key ad plain).2, ()) := by
 have hp63 : plain.length < 9223372036854775808 := hp
 have hk63 : key.length < 9223372036854775808 := hk
 have hd : (key.length : Int).tdiv 2 = ((key.length / 2 : Nat) : Int) := by rw [Int.tdiv_eq_ediv_of_nonneg (Int.natCast_nonneg _)]; simp
 have w1 : IntKind.i64.wrap ((key.length : Int).tdiv 2) = ((key.length / 2 : Nat) : Int) := by rw [hd, wrap64 (by omega) (by omega)]
 unfold sealR
 simp only [pendulumref10_Seal.run, rrefused_eq hk ha, Option.bind_some, smallN hp63, smallN hk63, cond_true, w1]
 by_cases h0 : sivE key ad = 0
 ·obtain ⟨h1, h2⟩ := sivE_zero h0
  obtain ⟨g1, g2⟩ := halves_len h1
  rw [dec_t h0, if_pos h0]
  simp only [Bool.not_true, cond_false]
  by_cases h3 : plain.length > 65536
  ·rw [dec_t (show (plain.length : Int) > 65536 by omega), if_pos h3]; rfl
  ·rw [dec_f (show ¬ (plain.length : Int) > 65536 by omega), if_neg h3]
   have hall : ∀ s ∈ ad ++ [plain], s.length < lim63 := fun s hs => by
    rcases List.mem_append.1 hs with hs | hs
    ·exact had s hs
    ·rw [List.mem_singleton.1 hs]; exact hp
   have hc1 : cut key 0 ((key.length / 2 : Nat) : Int) = half1 key := by
    have := cutN key 0 (key.length / 2)
    rw [show ((0 : Nat) : Int) = 0 from rfl] at this
    rw [this, List.drop_zero, Nat.sub_zero]
   have hc2 : cut key ((key.length / 2 : Nat) : Int) (key.length : Int) = half2 key := by
    rw [cutN, List.take_of_length_le (by rw [List.length_drop]; omega)]
   have hv := (s2S_ok (half1 key) (ad ++ [plain])).1
   simp only [cond_false, cutB_t (Int.le_refl 0) (show (0 : Int) ≤ ((key.length / 2 : Nat) : Int) by omega) (show ((key.length / 2 : Nat) : Int) ≤ (key.length : Int) by omega), cutB_t (show (0 : Int) ≤ ((key.length / 2 : Nat) : Int) by omega) (show ((key.length / 2 : Nat) : Int) ≤ (key.length : Int) by omega) (Int.le_refl _), cond_true, hc1, hc2, rtag_eq g1 (bs_take hkb _) h2 hall, Option.bind_some, rstreamed_eq g2 (bs_drop hkb _) hv (show plain.length ≤ 65536 by omega)]
   rw [cond_pos (dec_t (by rw [hv, strmS_len]; unfold maxStr; omega))]
   rfl
 ·rw [dec_f h0, if_neg h0]
  rfl
theorem xorL_zero {a b : List Int} (h : a.length = b.length) (ha : Bs a) (hb : Bs b) : xorL a b = List.replicate a.length 0 ↔ b = a := by
 constructor
 ·intro e
  refine (rd_ext (d := 0) h.symm fun k hk => ?_)
  have h1 : rd 0 (xorL a b) (k : Int) = 0 := by
   rw [e, rd_ix (by simp; omega)]; simp
  rw [rd_xorL (by omega)] at h1
  have := xor_assoc (rd 0 a (k : Int)) (rd 0 b (k : Int)) (rd 0 b (k : Int))
  rw [h1, xor_self, zero_xor (hb _ (rd_mem (by omega) (by omega))), xor_zero (ha _ (rd_mem (by omega) (by omega)))] at this
  exact this
 ·rintro rfl
  refine rd_ext (d := 0) (by simp) fun k hk => ?_
  rw [xorL_len] at hk
  rw [rd_xorL hk, xor_self, rd_ix (by simpa using hk)]; simp
theorem sopen_eq {ad : List (List Int)} {sealed : List Int} (hk : key.length < lim63) (hkb : Bs key) (ha : ad.length < lim63) (had : ∀ s ∈ ad, s.length < lim63) (hp : sealed.length < lim63) (hpb : Bs sealed) :
  siv_Open.run .lim (key, ad, sealed, ()) = some ((openR key ad sealed).1, (openR key ad sealed).2, ()) := by
 obtain ⟨r, r1, e, hz⟩ := shalves_eq hk hkb ha
 have hp63 : sealed.length < 9223372036854775808 := hp
 unfold openR
 simp only [siv_Open.run, e, Option.bind_some, smallN hp63, cond_true]
 by_cases h0 : sivE key ad = 0
 ·obtain ⟨rfl, rfl⟩ := hz h0
  obtain ⟨h1, h2⟩ := sivE_zero h0
  obtain ⟨g1, g2⟩ := halves_len h1
  rw [dec_t h0, if_pos h0]
  simp only [Bool.not_true, cond_false]
  by_cases h3 : sealed.length < 16
  ·rw [dec_t (show (sealed.length : Int) < 16 by omega), if_pos h3]; rfl
  ·rw [dec_f (show ¬ (sealed.length : Int) < 16 by omega), if_neg h3]
   simp only [cond_false]
   by_cases h4 : sealed.length > 65552
   ·rw [dec_t (show (sealed.length : Int) > 65552 by omega), if_pos h4]; rfl
   ·rw [dec_f (show ¬ (sealed.length : Int) > 65552 by omega), if_neg h4]
    have hc1 : cut sealed 0 16 = sealed.take 16 := by
     have := cutN sealed 0 16
     simpa using this
    have hc2 : cut sealed 16 (sealed.length : Int) = sealed.drop 16 := by
     have := cutN sealed 16 sealed.length
     rw [show ((16 : Nat) : Int) = 16 from rfl] at this
     rw [this, List.take_of_length_le (by rw [List.length_drop]; omega)]
    have ht : (sealed.take 16).length = 16 := by rw [List.length_take]; omega
    have hdl : (sealed.drop 16).length = sealed.length - 16 := List.length_drop
    have hol : (openS key sealed).length = sealed.length - 16 := by unfold openS; rw [strmS_len, hdl]
    have hall : ∀ s ∈ ad ++ [openS key sealed], s.length < lim63 := fun s hs => by
     rcases List.mem_append.1 hs with hs | hs
     ·exact had s hs
     ·rw [List.mem_singleton.1 hs, hol]; exact lim_of (by omega)
    have hv := s2S_ok (half1 key) (ad ++ [openS key sealed])
    have z := zeros_eq (n := 16) (by omega)
    have hx := sxor_eq (a := sealed.take 16) (b := s2S (half1 key) (ad ++ [openS key sealed])) (by rw [ht, hv.1]; omega) (by rw [hv.1]; omega)
    have hst := sstream_eq (v := sealed.take 16) (s := sealed.drop 16) g2 (bs_drop hkb _) ht (by omega)
    rw [show strmS (half2 key) (sealed.take 16) (sealed.drop 16) = openS key sealed from rfl] at hst
    simp only [cond_false, cutB_t (Int.le_refl 0) (show (0 : Int) ≤ 16 by omega) (show (16 : Int) ≤ (sealed.length : Int) by omega), cutB_t (show (0 : Int) ≤ 16 by omega) (show (16 : Int) ≤ (sealed.length : Int) by omega) (Int.le_refl _), cond_true, hc1, hc2, hst, Option.bind_some, clone_eq (show ad.length < 4398046511104 by omega)]
    rw [cond_pos (dec_t (by simp; omega)), srow_eq g1 (bs_take hkb _) (lim_of (by simp; omega)) hall]
    simp only [Option.bind_some, hx]
    rw [show (16 : Int) = ((16 : Nat) : Int) from rfl, z]
    simp only [Option.bind_some]
    have hiff := xorL_zero (a := sealed.take 16) (b := s2S (half1 key) (ad ++ [openS key sealed])) (by rw [ht, hv.1]) (bs_take hpb _) hv.2
    rw [ht] at hiff
    by_cases h5 : s2S (half1 key) (ad ++ [openS key sealed]) = sealed.take 16
    ·rw [dec_t (hiff.2 h5), if_pos h5]; rfl
    ·rw [dec_f (fun q => h5 (hiff.1 q)), if_neg h5]; rfl
 ·rw [dec_f h0, if_neg h0]
  rfl
end
theorem open_seal {key : List Int} {ad : List (List Int)} {plain : List Int} (h0 : sivE key ad = 0) (hp : plain.length ≤ 65536) (hpb : Bs plain) : openR key ad (sealS key ad plain) = (plain, 0) := by
 have hv := s2S_ok (half1 key) (ad ++ [plain])
 have ht : (sealS key ad plain).take 16 = s2S (half1 key) (ad ++ [plain]) := by
  unfold sealS; rw [List.take_append_of_le_length (by rw [hv.1]; omega), List.take_of_length_le (by rw [hv.1]; omega)]
 have hd : (sealS key ad plain).drop 16 = strmS (half2 key) (s2S (half1 key) (ad ++ [plain])) plain := by
  unfold sealS; rw [List.drop_append_of_le_length (by rw [hv.1]; omega), List.drop_of_length_le (by rw [hv.1]; omega), List.nil_append]
 have hl : (sealS key ad plain).length = plain.length + 16 := by unfold sealS; rw [List.length_append, hv.1, strmS_len]; omega
 have ho : openS key (sealS key ad plain) = plain := by unfold openS; rw [ht, hd, strmS_back _ _ hpb]
 unfold openR
 rw [if_pos h0, if_neg (by omega), if_neg (by omega), ho, ht, if_pos rfl]
theorem sealS_len (key : List Int) (ad : List (List Int)) (plain : List Int) : (sealS key ad plain).length = plain.length + 16 := by
 unfold sealS; rw [List.length_append, (s2S_ok _ _).1, strmS_len]; omega
theorem sealS_B (key : List Int) (ad : List (List Int)) (plain : List Int) : Bs (sealS key ad plain) := fun x h => by
 unfold sealS at h
 rcases List.mem_append.1 h with h | h
 ·exact (s2S_ok _ _).2 x h
 ·exact strmS_B _ _ _ x h
end Go.AM
end
section
namespace Go.AM
def sealE (key : List Int) (ad : List (List Int)) (n : Nat) : Int := if refE (key, ad, [], []) = 0 then (if n > 65536 then 12 else 0) else refE (key, ad, [], [])
theorem refE_eq (key : List Int) (ad : List (List Int)) (p t : List Int) : refE (key, ad, p, t) = refE (key, ad, [], []) := rfl
noncomputable def sealI (xs : List KK) (key : List Int) (ad : List (List Int)) (plain : List Int) : List KK × List Int × Int :=
 if sealE key ad plain.length = 0 then
  match (List.range xs.length).find? (fun j : Nat => alk (rd k0 xs (j : Int)) (key, ad, plain, [])) with
  | some k => (xs, (rd k0 xs (k : Int)).2.2.2, 0)
  | none => if xs.length ≥ 2048 then (xs, [], 18) else (xs ++ [(key, ad, plain, txt (xs.length + 1) plain)], txt (xs.length + 1) plain, 0)
 else (xs, [], sealE key ad plain.length)
noncomputable def openI (xs : List KK) (key : List Int) (ad : List (List Int)) (t : List Int) : List Int × Int :=
 if refE (key, ad, [], []) = 0 then (if t.length < 16 then ([], 11) else if t.length > 65552 then ([], 12) else
  match (List.range xs.length).find? (fun j : Nat => hit key ad t (rd k0 xs (j : Int))) with
  | some k => ((rd k0 xs (k : Int)).2.2.1, 0)
  | none => ([], 17)) else ([], refE (key, ad, [], []))
noncomputable def sealV (v : VV) (key : List Int) (ad : List (List Int)) (plain : List Int) : VV × List Int × Int :=
 bif v.1 then ((true, (sealI v.2 key ad plain).1), (sealI v.2 key ad plain).2) else (v, sealR key ad plain)
noncomputable def openV' (v : VV) (key : List Int) (ad : List (List Int)) (t : List Int) : List Int × Int := bif v.1 then openI v.2 key ad t else openR key ad t
structure Txts (key : List Int) (ad : List (List Int)) (s : List Int) : Prop where
 k : key.length < lim63
 kb : Bs key
 a : ad.length < lim63
 al : ∀ t ∈ ad, t.length < lim63
 s : s.length < lim63
theorem refE_siv (key : List Int) (ad : List (List Int)) : sivE key ad = refE (key, ad, [], []) := by
 show _ = if key.length ≠ 32 ∧ key.length ≠ 64 then 13 else if ad.length > 126 then 18 else 0
 unfold sivE
 by_cases h : key.length = 32 ∨ key.length = 64
 ·rw [if_pos h, if_neg (show ¬ (key.length ≠ 32 ∧ key.length ≠ 64) by omega)]
  by_cases h2 : ad.length ≥ 127
  ·rw [if_pos h2, if_pos (show ad.length > 126 by omega)]
  ·rw [if_neg h2, if_neg (show ¬ ad.length > 126 by omega)]
 ·rw [if_neg h, if_pos (show key.length ≠ 32 ∧ key.length ≠ 64 by omega)]
theorem cloneK_eq {xs : List KK} (h : xs.length < 2048) : slices_Clone_api_Kept_api_Kept.run .lim (xs, ()) = some xs := by
 simp only [slices_Clone_api_Kept_api_Kept.run]
 rw [cond_pos (dec_t (by simp; omega)), List.nil_append]
theorem seal_find (xs : List KK) (key : List Int) (ad : List (List Int)) (plain : List Int) (b : Bool) (hx : xs.length < lim63) (hok : ∀ k ∈ xs, okK k) (ha : ad.length < lim63) :
  ideal_Seal.l0 .lim (xs, (xs.length : Int), 0, key, ad, plain, [], xs, b, xs, false, ()) = match (List.range xs.length).find? (fun j : Nat => alk (rd k0 xs (j : Int)) (key, ad, plain, [])) with
   | some k => some (.inl ((k : Int), xs, key, ad, plain, [], b, xs, false, ()))
   | none => some (.inr (xs, key, ad, plain, [], b, xs, false, ())) := by
 have hx63 : xs.length < 9223372036854775808 := hx
 have e := loop_first (f := ideal_Seal.l0 .lim) (fun k => (xs, (xs.length : Int), (k : Int), key, ad, plain, [], xs, b, xs, false, ())) xs.length (fun j : Nat => alk (rd k0 xs (j : Int)) (key, ad, plain, [])) (fun k => some (.inl ((k : Int), xs, key, ad, plain, [], b, xs, false, ()))) (fun k hk => by
  rw [ideal_Seal.q0]
  have hm : okK (rd k0 xs k) := hok _ (rd_mem (by omega) (by omega))
  simp only [ideal_Seal.b0, alike_eq (rd k0 xs k) (key, ad, plain, []) hm.2.1 ha, wk k (by omega), dec_t (show (k : Int) < (xs.length : Int) by omega), inB_t (show (0 : Int) ≤ k by omega) (show (k : Int) < (xs.length : Int) by omega), cond_true, Option.bind_some])
 rw [show ((0 : Nat) : Int) = 0 from rfl] at e
 rw [e]
 cases (List.range xs.length).find? (fun j : Nat => alk (rd k0 xs (j : Int)) (key, ad, plain, [])) with
 | some k => rfl
 | none =>
  simp only
  rw [ideal_Seal.q0]
  simp only [ideal_Seal.b0, dec_f (show ¬ (xs.length : Int) < (xs.length : Int) by omega), cond_false]
theorem seal_eq {v : VV} (hv : okV v) (hf : fitV v = true) {key : List Int} {ad : List (List Int)} {plain : List Int} (T : Txts key ad plain) :
  ideal_Seal.run .lim (v, key, ad, plain, ()) = some ((sealV v key ad plain).1, (sealV v key ad plain).2.1, (sealV v key ad plain).2.2, ()) := by
 obtain ⟨b, xs⟩ := v
 have hx : xs.length < lim63 := hv.1
 have hp63 : plain.length < 9223372036854775808 := T.s
 have hx63 : xs.length < 9223372036854775808 := hx
 unfold sealV
 cases b with
 | false =>
  have hn : xs = [] := by
   unfold fitV at hf
   simpa using hf
  subst hn
  have hs := sseal_eq T.k T.kb T.a T.al T.s
  simp only [ideal_Seal.run, ideal_truth_seal.run, hs, Option.bind_some, cond_false]
  unfold sealR
  by_cases h0 : sivE key ad = 0
  ·rw [if_pos h0]
   by_cases h1 : plain.length > 65536
   ·rw [if_pos h1]; rfl
   ·rw [if_neg h1]; rfl
  ·rw [if_neg h0, dec_f h0]; rfl
 | true =>
  have hr := refused_eq (key, ad, plain, []) T.k T.a
  rw [refE_eq] at hr
  have hf' := seal_find xs key ad plain true hx hv.2 T.a
  simp only [ideal_Seal.run, hr, Option.bind_some, smallN hp63, smallN hx63, cond_true, hf']
  unfold sealI sealE
  by_cases h0 : refE (key, ad, [], []) = 0
  ·rw [dec_t h0, if_pos h0]
   simp only [Bool.not_true, cond_false]
   by_cases h1 : plain.length > 65536
   ·rw [dec_t (show (plain.length : Int) > 65536 by omega), if_pos h1, if_neg (by decide)]; rfl
   ·rw [dec_f (show ¬ (plain.length : Int) > 65536 by omega), if_neg h1, if_pos rfl]
    simp only [cond_false]
    cases hq : (List.range xs.length).find? (fun j : Nat => alk (rd k0 xs (j : Int)) (key, ad, plain, [])) with
    | some k =>
     have hk : k < xs.length := List.mem_range.1 (List.mem_of_find?_eq_some hq)
     simp only [Option.bind_some]
     rw [cond_pos (dec_t (by omega)), cond_pos (inB_t (by omega) (by omega))]
    | none =>
     simp only [Option.bind_some, smallN hx63, cond_true]
     by_cases h2 : xs.length ≥ 2048
     ·rw [dec_t (show (xs.length : Int) ≥ 2048 by omega), if_pos h2]; rfl
     ·rw [dec_f (show ¬ (xs.length : Int) ≥ 2048 by omega), if_neg h2]
      have ha126 : ad.length ≤ 126 := by
       have := sivE_zero (key := key) (ad := ad) (by rw [refE_siv]; exact h0)
       omega
      have w1 : IntKind.i64.wrap ((xs.length : Int) + 1) = (xs.length : Int) + 1 := wrap64 (by omega) (by omega)
      simp only [cond_false, clone_eq (show ad.length < 4398046511104 by omega), Option.bind_some, w1, number_eq ((xs.length : Int) + 1) plain (by omega) (by omega) (by omega), cloneK_eq (show xs.length < 2048 by omega)]
      rw [cond_pos (dec_t (by simp; omega))]
  ·rw [dec_f h0, if_neg h0, if_neg h0]; rfl
theorem rseal_find (xs : List KK) (key : List Int) (ad : List (List Int)) (plain : List Int) (hx : xs.length < lim63) (hok : ∀ k ∈ xs, okK k) (ha : ad.length < lim63) :
  pendulumref22_Seal.l0 .lim (plain, 0, true, xs, false, key, plain, [], ad, ()) = match (List.range xs.length).find? (fun j : Nat => alk (rd k0 xs (j : Int)) (key, ad, plain, [])) with
   | some k => some (.inl ((rd k0 xs (k : Int)).2.2.2, 0, true, xs, ()))
   | none => some (.inr (plain, true, xs, false, key, plain, [], ad, ())) := by
 have hx63 : xs.length < 9223372036854775808 := hx
 have e := loop_first (f := pendulumref22_Seal.l0 .lim) (fun k => (plain, (k : Int), true, xs, false, key, plain, [], ad, ())) xs.length (fun j : Nat => alk (rd k0 xs (j : Int)) (key, ad, plain, [])) (fun k => some (.inl ((rd k0 xs (k : Int)).2.2.2, 0, true, xs, ()))) (fun k hk => by
  rw [pendulumref22_Seal.q0]
  have hm : okK (rd k0 xs k) := hok _ (rd_mem (by omega) (by omega))
  have hr := ralike_eq (key, ad, plain, []) (rd k0 xs k) ha hm.2.1
  rw [alk_symm] at hr
  simp only [pendulumref22_Seal.b0, smallN hx63, hr, wk k (by omega), dec_t (show (k : Int) < (xs.length : Int) by omega), inB_t (show (0 : Int) ≤ k by omega) (show (k : Int) < (xs.length : Int) by omega), cond_true, Option.bind_some])
 rw [show ((0 : Nat) : Int) = 0 from rfl] at e
 rw [e]
 cases (List.range xs.length).find? (fun j : Nat => alk (rd k0 xs (j : Int)) (key, ad, plain, [])) with
 | some k => rfl
 | none =>
  simp only
  rw [pendulumref22_Seal.q0]
  simp only [pendulumref22_Seal.b0, smallN hx63, dec_f (show ¬ (xs.length : Int) < (xs.length : Int) by omega), cond_false, cond_true]
theorem rrefused22_eq {key : List Int} {ad : List (List Int)} (hk : key.length < lim63) (ha : ad.length < lim63) (n : Nat) : pendulumref22_refused.run .lim (key, ad, (n : Int), ()) = some (sealE key ad n) := by
 have hk63 : key.length < 9223372036854775808 := hk
 have ha63 : ad.length < 9223372036854775808 := ha
 unfold sealE refE
 simp only [pendulumref22_refused.run, smallN hk63, smallN ha63, cond_true, Bool.or_true]
 by_cases h1 : key.length ≠ 32 ∧ key.length ≠ 64
 ·rw [if_pos h1, dec_f (show ¬ (key.length : Int) = 32 by omega), dec_f (show ¬ (key.length : Int) = 64 by omega)]; rfl
 ·rw [if_neg h1]
  have : (!decide ((key.length : Int) = 32) && !decide ((key.length : Int) = 64)) = false := by
   by_cases h : key.length = 32
   ·rw [dec_t (show (key.length : Int) = 32 by omega)]; rfl
   ·rw [dec_t (show (key.length : Int) = 64 by omega), Bool.not_true, Bool.and_false]
  rw [this]
  by_cases h2 : ad.length > 126
  ·rw [dec_t (show (ad.length : Int) > 126 by omega), if_pos h2]; rfl
  ·rw [dec_f (show ¬ (ad.length : Int) > 126 by omega), if_neg h2, if_pos rfl]
   by_cases h3 : n > 65536
   ·rw [dec_t (show (n : Int) > 65536 by omega), if_pos h3]; rfl
   ·rw [dec_f (show ¬ (n : Int) > 65536 by omega), if_neg h3]; rfl
theorem rsealv_eq {v : VV} (hv : okV v) {key : List Int} {ad : List (List Int)} {plain : List Int} (T : Txts key ad plain) :
  pendulumref22_Seal.run .lim (v, key, ad, plain, ()) = some ((sealV v key ad plain).1, (sealV v key ad plain).2.1, (sealV v key ad plain).2.2, ()) := by
 obtain ⟨b, xs⟩ := v
 have hx : xs.length < lim63 := hv.1
 have hp63 : plain.length < 9223372036854775808 := T.s
 have hx63 : xs.length < 9223372036854775808 := hx
 unfold sealV
 cases b with
 | false =>
  have hs := rseal_eq T.k T.kb T.a T.al T.s
  simp only [pendulumref22_Seal.run, hs, Option.bind_some, cond_false, Bool.not_false, cond_true]
 | true =>
  have hr := rrefused22_eq T.k T.a plain.length
  have hf' := rseal_find xs key ad plain hx hv.2 T.a
  simp only [pendulumref22_Seal.run, hr, Option.bind_some, smallN hp63, smallN hx63, cond_true, cond_false, Bool.not_true, hf']
  unfold sealI
  by_cases h0 : sealE key ad plain.length = 0
  ·rw [dec_t h0, if_pos h0]
   have h00 : refE (key, ad, [], []) = 0 ∧ plain.length ≤ 65536 := by
    unfold sealE at h0
    split at h0
    ·split at h0
     ·exact absurd h0 (by decide)
     ·exact ⟨by assumption, by omega⟩
    ·exact absurd h0 (by assumption)
   have ha126 : ad.length ≤ 126 := by
    have := sivE_zero (key := key) (ad := ad) (by rw [refE_siv]; exact h00.1)
    omega
   simp only [Bool.not_true, cond_false]
   rw [cond_pos (dec_t (show ad.length < 4398046511104 by omega))]
   cases hq : (List.range xs.length).find? (fun j : Nat => alk (rd k0 xs (j : Int)) (key, ad, plain, [])) with
   | some k => rfl
   | none =>
    simp only [Option.bind_some, smallN hx63, cond_true]
    by_cases h2 : xs.length ≥ 2048
    ·rw [dec_t (show (xs.length : Int) ≥ 2048 by omega), if_pos h2]; rfl
    ·rw [dec_f (show ¬ (xs.length : Int) ≥ 2048 by omega), if_neg h2]
     have w1 : IntKind.i64.wrap ((xs.length : Int) + 1) = (xs.length : Int) + 1 := wrap64 (by omega) (by omega)
     simp only [cond_false, w1, rtext_eq ((xs.length : Int) + 1) plain (by omega) (by omega) (by omega), Option.bind_some]
     rw [cond_pos (dec_t (by omega)), cond_pos (dec_t (by simp; omega))]
  ·rw [dec_f h0, if_neg h0]; rfl
theorem open_find' (xs : List KK) (key : List Int) (ad : List (List Int)) (t : List Int) (hx : xs.length < lim63) (hok : ∀ k ∈ xs, okK k) (ha : ad.length < lim63) :
  ideal_Open.l0 .lim (xs, (xs.length : Int), 0, key, ad, [], t, xs, ()) = match (List.range xs.length).find? (fun j : Nat => hit key ad t (rd k0 xs (j : Int))) with
   | some k => some (.inl ((k : Int), xs, ()))
   | none => some (.inr (xs, ())) := by
 have hx63 : xs.length < 9223372036854775808 := hx
 have e := loop_first (f := ideal_Open.l0 .lim) (fun k => (xs, (xs.length : Int), (k : Int), key, ad, [], t, xs, ())) xs.length (fun j : Nat => hit key ad t (rd k0 xs (j : Int))) (fun k => some (.inl ((k : Int), xs, ()))) (fun k hk => by
  rw [ideal_Open.q0]
  have hm : okK (rd k0 xs k) := hok _ (rd_mem (by omega) (by omega))
  simp only [ideal_Open.b0, equal_eq _ _ hm.2.1 ha, wk k (by omega), dec_t (show (k : Int) < (xs.length : Int) by omega), inB_t (show (0 : Int) ≤ k by omega) (show (k : Int) < xs.length by omega)]
  unfold hit
  cases decide ((rd k0 xs k).2.2.2 = t) && decide ((rd k0 xs k).1 = key) <;> simp only [cond_true, cond_false, Option.bind_some, Option.bind_none, Bool.or_true, Bool.true_or, Bool.and_true, Bool.true_and, Bool.and_false, Bool.false_and, Bool.or_false, Bool.false_or, Bool.not_true, Bool.not_false, Bool.or_self, Bool.and_self, Bool.not_not])
 rw [show ((0 : Nat) : Int) = 0 from rfl] at e
 rw [e]
 cases (List.range xs.length).find? (fun j : Nat => hit key ad t (rd k0 xs (j : Int))) with
 | some k => rfl
 | none =>
  simp only
  rw [ideal_Open.q0]
  simp only [ideal_Open.b0, dec_f (show ¬ (xs.length : Int) < (xs.length : Int) by omega), cond_false]
theorem openv_eq {v : VV} (hv : okV v) {key : List Int} {ad : List (List Int)} {t : List Int} (T : Txts key ad t) (htb : Bs t) :
  ideal_Open.run .lim (v, key, ad, t, ()) = some ((openV' v key ad t).1, (openV' v key ad t).2, ()) := by
 obtain ⟨b, xs⟩ := v
 have hx : xs.length < lim63 := hv.1
 have hp63 : t.length < 9223372036854775808 := T.s
 have hx63 : xs.length < 9223372036854775808 := hx
 unfold openV'
 cases b with
 | false =>
  have hs := sopen_eq T.k T.kb T.a T.al T.s htb
  simp only [ideal_Open.run, ideal_truth_open.run, hs, Option.bind_some, cond_false]
 | true =>
  have hr := refused_eq (key, ad, [], t) T.k T.a
  rw [refE_eq] at hr
  have hf' := open_find' xs key ad t hx hv.2 T.a
  simp only [ideal_Open.run, hr, Option.bind_some, smallN hp63, smallN hx63, cond_true, hf']
  unfold openI
  by_cases h0 : refE (key, ad, [], []) = 0
  ·rw [dec_t h0, if_pos h0]
   simp only [Bool.not_true, cond_false]
   by_cases h1 : t.length < 16
   ·rw [dec_t (show (t.length : Int) < 16 by omega), if_pos h1]; rfl
   ·rw [dec_f (show ¬ (t.length : Int) < 16 by omega), if_neg h1]
    by_cases h2 : t.length > 65552
    ·rw [dec_t (show (t.length : Int) > 65552 by omega), if_pos h2]; rfl
    ·rw [dec_f (show ¬ (t.length : Int) > 65552 by omega), if_neg h2]
     simp only [cond_false]
     cases hq : (List.range xs.length).find? (fun j : Nat => hit key ad t (rd k0 xs (j : Int))) with
     | some k =>
      have hk : k < xs.length := List.mem_range.1 (List.mem_of_find?_eq_some hq)
      simp only [Option.bind_some]
      rw [cond_neg (dec_f (by omega)), cond_pos (inB_t (by omega) (by omega))]
     | none => rfl
  ·rw [dec_f h0, if_neg h0]; rfl
end Go.AM
end
