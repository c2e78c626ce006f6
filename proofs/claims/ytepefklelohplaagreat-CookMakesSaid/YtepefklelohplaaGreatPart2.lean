import Derived.Test.YtepefklelohplaaGreatPart1
import Derived.Test.YtepefklelohplaaGreatProg
import Derived.Shelf.Strings.Repeat

/-! The functions that the laws of this seat reach, as plain functions, and what these answer; no condition. -/
set_option linter.unusedSimpArgs false
set_option linter.unusedVariables false

section
namespace Go.Proofs
def Tryz.lays105_ren : Go.Shelf.Ren := ⟨fun | 105 => 101 | 212 => 102 | 99 => 103 | 165 => 104 | 166 => 105 | 170 => 106 | 169 => 107 | 263 => 108 | 264 => 109 | 206 => 110 | 240 => 111 | 241 => 112 | 276 => 113 | 277 => 114 | n => n, fun | 9 => 9 | 3 => 3 | 4 => 4 | 20 => 20 | 0 => 0 | 46 => 67 | 109 => 141 | 5 => 5 | 72 => 146 | 76 => 150 | 51 => 26 | 146 => 152 | 53 => 52 | 148 => 154 | 70 => 144 | 37 => 92 | 75 => 149 | 127 => 129 | 164 => 156 | 80 => 119 | n => n, fun | n => n⟩
theorem Tryz.lays105 : Go.Proofs.Lays.n105 Tryz.prog Tryz.lays105_ren := {
  mixed := by kernel_rfl
  f99 := Tryz.func103.trans (congrArg some (by kernel_rfl))
  f105 := Tryz.func101.trans (congrArg some (by kernel_rfl))
  f165 := Tryz.func104.trans (congrArg some (by kernel_rfl))
  f166 := Tryz.func105.trans (congrArg some (by kernel_rfl))
  f169 := Tryz.func107.trans (congrArg some (by kernel_rfl))
  f170 := Tryz.func106.trans (congrArg some (by kernel_rfl))
  f206 := Tryz.func110.trans (congrArg some (by kernel_rfl))
  f212 := Tryz.func102.trans (congrArg some (by kernel_rfl))
  f240 := Tryz.func111.trans (congrArg some (by kernel_rfl))
  f241 := Tryz.func112.trans (congrArg some (by kernel_rfl))
  f263 := Tryz.func108.trans (congrArg some (by kernel_rfl))
  f264 := Tryz.func109.trans (congrArg some (by kernel_rfl))
  f276 := Tryz.func113.trans (congrArg some (by kernel_rfl))
  f277 := Tryz.func114.trans (congrArg some (by kernel_rfl))
  t0 := Tryz.underlying0
  a0 := Tryz.isAgg0
  z0 := Tryz.sizeOf0
  v0 := Tryz.zeroValue0
  t3 := Tryz.underlying3
  a3 := Tryz.isAgg3
  z3 := Tryz.sizeOf3
  v3 := Tryz.zeroValue3
  t4 := Tryz.underlying4
  a4 := Tryz.isAgg4
  z4 := Tryz.sizeOf4
  v4 := Tryz.zeroValue4
  t5 := Tryz.underlying5
  a5 := Tryz.isAgg5
  z5 := Tryz.sizeOf5
  v5 := Tryz.zeroValue5
  t9 := Tryz.underlying9
  a9 := Tryz.isAgg9
  z9 := Tryz.sizeOf9
  v9 := Tryz.zeroValue9
  t20 := Tryz.underlying20
  a20 := Tryz.isAgg20
  z20 := Tryz.sizeOf20
  v20 := Tryz.zeroValue20
  t37 := Tryz.underlying92
  a37 := Tryz.isAgg92
  z37 := Tryz.sizeOf92
  v37 := Tryz.zeroValue92
  t46 := Tryz.underlying67
  a46 := Tryz.isAgg67
  z46 := Tryz.sizeOf67
  v46 := Tryz.zeroValue67
  t51 := Tryz.underlying26
  a51 := Tryz.isAgg26
  z51 := Tryz.sizeOf26
  v51 := Tryz.zeroValue26
  t53 := Tryz.underlying52
  a53 := Tryz.isAgg52
  z53 := Tryz.sizeOf52
  v53 := Tryz.zeroValue52
  t70 := Tryz.underlying144
  a70 := Tryz.isAgg144
  z70 := Tryz.sizeOf144
  v70 := Tryz.zeroValue144
  t72 := Tryz.underlying146
  a72 := Tryz.isAgg146
  z72 := Tryz.sizeOf146
  v72 := Tryz.zeroValue146
  t75 := Tryz.underlying149
  a75 := Tryz.isAgg149
  z75 := Tryz.sizeOf149
  v75 := Tryz.zeroValue149
  t76 := Tryz.underlying150
  a76 := Tryz.isAgg150
  z76 := Tryz.sizeOf150
  v76 := Tryz.zeroValue150
  t109 := Tryz.underlying141
  a109 := Tryz.isAgg141
  z109 := Tryz.sizeOf141
  v109 := Tryz.zeroValue141
  t127 := Tryz.underlying129
  a127 := Tryz.isAgg129
  z127 := Tryz.sizeOf129
  v127 := Tryz.zeroValue129
  t146 := Tryz.underlying152
  a146 := Tryz.isAgg152
  z146 := Tryz.sizeOf152
  v146 := Tryz.zeroValue152
  t148 := Tryz.underlying154
  a148 := Tryz.isAgg154
  z148 := Tryz.sizeOf154
  v148 := Tryz.zeroValue154
  t164 := Tryz.underlying156
  a164 := Tryz.isAgg156
  z164 := Tryz.sizeOf156
  v164 := Tryz.zeroValue156 }
theorem Tryz.Builder_Extra_105 : Builder.Extra Tryz.prog Tryz.lays105_ren := {
  sizeBuilder := by kernel_rfl
  liesBuilder := by kernel_rfl
  t5 := Tryz.underlying5
  a5 := Tryz.isAgg5
  z5 := Tryz.sizeOf5
  v5 := Tryz.zeroValue5
  infoByte := by kernel_rfl
  cellsByte := by kernel_rfl
  sizeByte := by kernel_rfl
  neB5 := by decide }
end Go.Proofs
namespace Go.AM
open Go.Proofs
noncomputable abbrev P := Tryz.prog
universe u
theorem an {α : Type u} {p : α → Prop} : ∀ k ∈ ([] : List α), p k := fun k h => nomatch h
theorem ac {α : Type u} {p : α → Prop} {a : α} {l : List α} (h : p a) (k : ∀ x ∈ l, p x) : ∀ x ∈ a :: l, p x := fun x hx => by
  rcases List.mem_cons.1 hx with rfl | hx
  · exact h
  · exact k x hx
set_option maxRecDepth 100000
set_option linter.unusedVariables false
noncomputable section
abbrev DT4 : Type := (List Int × (List Int × List Int))
abbrev DT3 : Type := (List (Int × (List Int × Int)) × Int)
abbrev DT1 : Type := (List Int × (List (List Int) × (List Int × List Int)))
abbrev DT0 : Type := (Bool × List (List Int × (List (List Int) × (List Int × List Int))))
abbrev dz1 : (List Int × (List (List Int) × (List Int × List Int))) := (([] : List Int), (([] : List (List Int)), (([] : List Int), ([] : List Int))))
abbrev dz4 : (List Int × (List Int × List Int)) := (([] : List Int), (([] : List Int), ([] : List Int)))
/-! ### pendulum/pendulumref22.Light -/
namespace pendulumref22_Light
def inl : FuncId → Bool := fun f => [].any (Nat.beq f)
def O (m_ : Mode) : Ora := (oras [])
theorem Ok (m_ : Mode) {S0 w0} : OraOK P S0 w0 (O m_) := (oras_ok (an))
def p0 : Path := [.r, .r, .l, .r, .l, .l, .r, .l, .l, .r, .r, .r, .l, .l]
def p1 : Path := [.r, .r, .l, .r, .l, .l, .r, .r]
def p2 : Path := [.r, .r, .l, .r, .l, .l]
def o3 : OSpec := .c [.b, .dat (.lst (.pair .str (.pair (.lst .str) (.pair .str .str))))]
def e0 : Spec := ⟨[⟨23, [.c p0, .p p0, .b 2, .b 1, .c p1, .p p2, .b 0, .c [.r, .r, .r]], [(1, .ptr 0 0), (3, .w), (4, .w), (5, .ptr 1 0), (6, .w)], none, [], false⟩], [(0, o3), (1, .c [.s, .t, .s, .s])], 2⟩
def x0 : List Spec := [⟨[⟨23, [.c p1, .p p2, .b 0, .c [.r, .r, .r]], [(1, .ptr 0 0), (3, .w), (4, .w)], none, [], false⟩], [(0, o3)], 1⟩]
abbrev A0 : Type := Int × Int × Int × Bool × (List (List Int × (List LI × (List Int × List Int)))) × LI × LL × LI × LI × Unit
abbrev B0 : Type := (Int × Int × Bool × (List (List Int × (List LI × (List Int × List Int)))) × Unit)
def b0 (m_ : Mode) (self : A0 → Option B0) : A0 → Option B0 := fun v_ => match v_ with
| (left, i, j, m, m1, m2, m3, m4, m5, ()) =>
 bif smallI (m3.length : Int) then
 bif ((decide (j < (m3.length : Int))) && (decide (left ≥ 0))) then
  bif inB j (m3.length : Int) then
  bif smallI ((rd ([] : List Int) m3 j).length : Int) then
  self ((IntKind.i64.wrap (left - ((rd ([] : List Int) m3 j).length : Int))), i, (IntKind.i64.wrap (j + 1)), m, m1, m2, m3, m4, m5, ()) else none else none
 else
  some (left, i, m, m1, ()) else none
theorem k0 (m_ : Mode) : KS P (O m_) inl e0 x0 [] (b0 m_) := by
  intro self v_; kernel_rfl
def l0 (m_ : Mode) : A0 → Option B0 := loop m_ (b0 m_)
theorem q0 (v) : l0 .lim v = b0 .lim (l0 .lim) v := KS.q (k0 .lim) v
def g0 (m_ : Mode) : Seg := ⟨e0, x0, l0 m_⟩
theorem s0 (m_ : Mode) (S0 w0 cs0) : SegGood P S0 w0 cs0 23 (g0 m_) := seg_ok m_ (Ok m_) (an) (by rfl) (by rfl) (k0 m_)
def e1 : Spec := ⟨[⟨23, [.c p2, .p p2, .b 0, .c [.r, .r, .r]], [(1, .ptr 0 0), (3, .w), (4, .w)], none, [], false⟩], [(0, o3)], 1⟩
def x1 : List Spec := [⟨[⟨23, [.c [.r, .r, .r]], [(1, .ptr 0 0), (3, .w)], none, [], false⟩], [(0, o3)], 1⟩]
abbrev A1 : Type := Int × Int × Bool × (List (List Int × (List LI × (List Int × List Int)))) × Unit
abbrev B1 : Type := (Int × Bool × (List (List Int × (List LI × (List Int × List Int)))) × Unit)
def b1 (m_ : Mode) (self : A1 → Option B1) : A1 → Option B1 := fun v_ => match v_ with
| (left, i, m, m1, ()) =>
 bif smallI (m1.length : Int) then
 bif ((decide (i < (m1.length : Int))) && (decide (left ≥ 0))) then
  bif inB i (m1.length : Int) then
  bif smallI (((rd dz1 m1 i).1).length : Int) then
  bif smallI (((((rd dz1 m1 i).2).2).1).length : Int) then
  bif smallI (((((rd dz1 m1 i).2).2).2).length : Int) then
  bif smallI ((((rd dz1 m1 i).2).1).length : Int) then
  (pendulumref22_Light.l0 m_ ((IntKind.i64.wrap ((IntKind.i64.wrap ((IntKind.i64.wrap ((IntKind.i64.wrap ((IntKind.i64.wrap (left - 10)) - (((rd dz1 m1 i).1).length : Int))) - (((((rd dz1 m1 i).2).2).1).length : Int))) - (((((rd dz1 m1 i).2).2).2).length : Int))) - ((((rd dz1 m1 i).2).1).length : Int))), i, 0, m, m1, (rd dz1 m1 i).1, ((rd dz1 m1 i).2).1, (((rd dz1 m1 i).2).2).1, (((rd dz1 m1 i).2).2).2, ())).bind fun (left1, i1, m2, m3, ()) =>
  self (left1, (IntKind.i64.wrap (i1 + 1)), m2, m3, ()) else none else none else none else none else none
 else
  some (left, m, m1, ()) else none
theorem k1 (m_ : Mode) : KS P (O m_) inl e1 x1 [g0 m_] (b1 m_) := by
  intro self v_; kernel_rfl
def l1 (m_ : Mode) : A1 → Option B1 := loop m_ (b1 m_)
theorem q1 (v) : l1 .lim v = b1 .lim (l1 .lim) v := KS.q (k1 .lim) v
def g1 (m_ : Mode) : Seg := ⟨e1, x1, l1 m_⟩
theorem s1 (m_ : Mode) (S0 w0 cs0) : SegGood P S0 w0 cs0 23 (g1 m_) := seg_ok m_ (Ok m_) (ac (s0 m_ S0 w0 cs0) (an)) (by rfl) (by rfl) (k1 m_)
def run (m_ : Mode) : DT0 × Unit → Option (Bool) := fun v_ => match v_ with
| (v, ()) =>
 (pendulumref22_Light.l1 m_ (400000, 0, v.1, v.2, ())).bind fun (left, m, m1, ()) =>
 bif ((!(decide (left ≥ 0))) || (smallI (m1.length : Int))) then
 some ((decide (left ≥ 0)) && (decide ((m1.length : Int) ≤ 300))) else none
def c (m_ : Mode) : Callee := ⟨23, [.ag (.pair .bool (.lst (.pair .str (.pair (.lst .str) (.pair .str .str)))))], .one (.sh (.one .bool)), run m_⟩
theorem k (m_ : Mode) : KR P (O m_) inl [g1 m_] (c m_) := by
  intro v_; kernel_rfl
theorem ok (m_ : Mode) : (c m_).OK P := KR.ok (fun S0 w0 => (Ok m_)) (by kernel_rfl) (by rfl) (fun S0 w0 cs0 => ac (s1 m_ S0 w0 cs0) (an)) (k m_)
end pendulumref22_Light

/-! ### pendulum/pendulumref22.text -/
namespace pendulumref22_text
def inl : FuncId → Bool := fun f => [].any (Nat.beq f)
def O (m_ : Mode) : Ora := (oras [])
theorem Ok (m_ : Mode) {S0 w0} : OraOK P S0 w0 (O m_) := (oras_ok (an))
def p0 : Path := [.r, .r, .l, .r, .l, .l]
def e0 : Spec := ⟨[⟨42, [.c p0, .p p0, .b 0, .c [.r, .r, .r]], [(0, .w), (5, .own 0 (.int .u8)), (6, .w)], none, [], false⟩], [(0, .c [.row (.int .u8)])], 1⟩
def x0 : List Spec := [⟨[⟨42, [.c [.r, .r, .r]], [(5, .own 0 (.int .u8))], none, [], false⟩], [(0, .c [.row (.int .u8)])], 1⟩]
abbrev A0 : Type := Int × Int × LI × Unit
abbrev B0 : Type := (LI × Unit)
def b0 (m_ : Mode) (self : A0 → Option B0) : A0 → Option B0 := fun v_ => match v_ with
| (n, i, m, ()) =>
 bif decide (i ≥ 0) then
  bif inB i (m.length : Int) then
  self ((IntKind.i64.wrap (n.tdiv 256)), (IntKind.i64.wrap (i - 1)), (m.set i.toNat (IntKind.u8.wrap (n.tmod 256))), ()) else none
 else
  some (m, ())
theorem k0 (m_ : Mode) : KS P (O m_) inl e0 x0 [] (b0 m_) := by
  intro self v_; kernel_rfl
def l0 (m_ : Mode) : A0 → Option B0 := loop m_ (b0 m_)
theorem q0 (v) : l0 .lim v = b0 .lim (l0 .lim) v := KS.q (k0 .lim) v
def g0 (m_ : Mode) : Seg := ⟨e0, x0, l0 m_⟩
theorem s0 (m_ : Mode) (S0 w0 cs0) : SegGood P S0 w0 cs0 42 (g0 m_) := seg_ok m_ (Ok m_) (an) (by rfl) (by rfl) (k0 m_)
def run (m_ : Mode) : Int × (List Int) × Unit → Option (List Int) := fun v_ => match v_ with
| (n, plain, ()) =>
 bif smallI (plain.length : Int) then
 bif (((decide (0 ≤ (IntKind.i64.wrap (16 + (plain.length : Int))))) && (decide ((IntKind.i64.wrap (16 + (plain.length : Int))) ≤ (IntKind.i64.wrap (16 + (plain.length : Int)))))) && (Nat.blt ((IntKind.i64.wrap (16 + (plain.length : Int))).toNat) 70368744177664)) then
 (pendulumref22_text.l0 m_ (n, 15, (List.replicate ((IntKind.i64.wrap (16 + (plain.length : Int))).toNat) 0), ())).bind fun (m, ()) =>
 some m else none else none
def c (m_ : Mode) : Callee := ⟨42, [.one (.int .i64), .one .str], .one (.sh (.one .str)), run m_⟩
theorem k (m_ : Mode) : KR P (O m_) inl [g0 m_] (c m_) := by
  intro v_; kernel_rfl
theorem ok (m_ : Mode) : (c m_).OK P := KR.ok (fun S0 w0 => (Ok m_)) (by kernel_rfl) (by rfl) (fun S0 w0 cs0 => ac (s0 m_ S0 w0 cs0) (an)) (k m_)
end pendulumref22_text

/-! ### pendulum/pendulumref22.texts -/
namespace pendulumref22_texts
def inl : FuncId → Bool := fun f => [].any (Nat.beq f)
def O (m_ : Mode) : Ora := (oras [])
theorem Ok (m_ : Mode) {S0 w0} : OraOK P S0 w0 (O m_) := (oras_ok (an))
def p0 : Path := [.r, .r, .l, .r, .l, .l]
def e0 : Spec := ⟨[⟨48, [.c p0, .p p0, .b 0, .c [.r, .r, .r]], [(0, .t), (1, .t), (5, .w)], none, [], false⟩], [], 0⟩
def x0 : List Spec := [⟨[⟨48, [.c [.r, .r, .l, .r, .l, .l, .r, .l, .l, .r, .l, .r], .b 1, .c [.r, .r, .l, .r, .l, .l, .r, .r], .p p0, .b 0, .c [.r, .r, .r]], [(4, .b)], none, [], false⟩], [], 0⟩, ⟨[⟨48, [.c [.r, .r, .r]], [], none, [], false⟩], [], 0⟩]
abbrev A0 : Type := LL × LL × Int × Unit
abbrev B0 : Type := (Bool × Unit) ⊕ (Unit)
def b0 (m_ : Mode) (self : A0 → Option B0) : A0 → Option B0 := fun v_ => match v_ with
| (a, b, i, ()) =>
 bif smallI (a.length : Int) then
 bif decide (i < (a.length : Int)) then
  bif inB i (a.length : Int) then
  bif inB i (b.length : Int) then
  bif !(decide ((rd ([] : List Int) a i) = (rd ([] : List Int) b i))) then
   some (.inl (false, ()))
  else
   self (a, b, (IntKind.i64.wrap (i + 1)), ()) else none else none
 else
  some (.inr (())) else none
theorem k0 (m_ : Mode) : KS P (O m_) inl e0 x0 [] (b0 m_) := by
  intro self v_; kernel_rfl
def l0 (m_ : Mode) : A0 → Option B0 := loop m_ (b0 m_)
theorem q0 (v) : l0 .lim v = b0 .lim (l0 .lim) v := KS.q (k0 .lim) v
def g0 (m_ : Mode) : Seg := ⟨e0, x0, l0 m_⟩
theorem s0 (m_ : Mode) (S0 w0 cs0) : SegGood P S0 w0 cs0 48 (g0 m_) := seg_ok m_ (Ok m_) (an) (by rfl) (by rfl) (k0 m_)
def run (m_ : Mode) : (List (List Int)) × (List (List Int)) × Unit → Option (Bool) := fun v_ => match v_ with
| (a, b, ()) =>
 bif smallI (a.length : Int) then
 bif smallI (b.length : Int) then
 bif !(decide ((a.length : Int) = (b.length : Int))) then
  some false
 else
  (pendulumref22_texts.l0 m_ (a, b, 0, ())).bind fun g_ => match g_ with
  | .inl (t, ()) =>
   some t
  | .inr (()) =>
   some true else none else none
def c (m_ : Mode) : Callee := ⟨48, [.one (.lst .str), .one (.lst .str)], .one (.sh (.one .bool)), run m_⟩
theorem k (m_ : Mode) : KR P (O m_) inl [g0 m_] (c m_) := by
  intro v_; kernel_rfl
theorem ok (m_ : Mode) : (c m_).OK P := KR.ok (fun S0 w0 => (Ok m_)) (by kernel_rfl) (by rfl) (fun S0 w0 cs0 => ac (s0 m_ S0 w0 cs0) (an)) (k m_)
end pendulumref22_texts

/-! ### pendulum/pendulumref22.alike -/
namespace pendulumref22_alike
def inl : FuncId → Bool := fun f => [].any (Nat.beq f)
def O (m_ : Mode) : Ora := (oras [pendulumref22_texts.c m_])
theorem Ok (m_ : Mode) {S0 w0} : OraOK P S0 w0 (O m_) := (oras_ok (ac (pendulumref22_texts.ok m_) (an)))
def run (m_ : Mode) : DT1 × DT1 × Unit → Option (Bool) := fun v_ => match v_ with
| (a, b, ()) =>
 ((bif ((decide (a.1 = b.1)) && (decide (a.2.2.1 = b.2.2.1))) then pendulumref22_texts.run m_ (a.2.1, b.2.1, ()) else some false)).bind fun r =>
 some (((decide (a.1 = b.1)) && (decide (a.2.2.1 = b.2.2.1))) && r)
def c (m_ : Mode) : Callee := ⟨36, [.ag (.pair .str (.pair (.lst .str) (.pair .str .str))), .ag (.pair .str (.pair (.lst .str) (.pair .str .str)))], .one (.sh (.one .bool)), run m_⟩
theorem k (m_ : Mode) : KR P (O m_) inl [] (c m_) := by
  intro v_; kernel_rfl
theorem ok (m_ : Mode) : (c m_).OK P := KR.ok (fun S0 w0 => (Ok m_)) (by kernel_rfl) (by rfl) (fun S0 w0 cs0 => an) (k m_)
end pendulumref22_alike

/-! ### pendulum/pendulumref22.Fit -/
namespace pendulumref22_Fit
def inl : FuncId → Bool := fun f => [].any (Nat.beq f)
def O (m_ : Mode) : Ora := (oras [pendulumref22_alike.c m_, pendulumref22_text.c m_])
theorem Ok (m_ : Mode) {S0 w0} : OraOK P S0 w0 (O m_) := (oras_ok (ac (pendulumref22_alike.ok m_) (ac (pendulumref22_text.ok m_) (an))))
def p0 : Path := [.r, .r, .r, .l, .r, .l, .l, .r, .l, .l, .r, .r, .r, .l, .l]
def p1 : Path := [.r, .r, .r, .l, .r, .l, .l, .r, .r]
def p2 : Path := [.r, .r, .r, .l, .r, .l, .l]
def o3 : OSpec := .c [.b, .dat (.lst (.pair .str (.pair (.lst .str) (.pair .str .str))))]
def p4 : Path := [.r, .r, .r, .l, .r, .l, .l, .r, .l, .l, .r, .r, .r, .l, .l, .r, .l, .l, .r, .l, .r]
def p5 : Path := [.r, .r, .r, .l, .r, .l, .l, .r, .l, .l, .r, .r, .r, .l, .l, .r, .r]
def e0 : Spec := ⟨[⟨24, [.c p0, .p p0, .b 2, .b 1, .c p1, .p p2, .b 0, .c [.r, .r, .r, .r]], [(1, .ptr 0 0), (3, .w), (4, .ptr 1 0), (5, .w)], none, [], false⟩], [(0, o3), (1, .c [.s, .t, .s, .s])], 2⟩
def x0 : List Spec := [⟨[⟨24, [.c p4, .b 3, .c p5, .p p0, .b 2, .b 1, .c p1, .p p2, .b 0, .c [.r, .r, .r, .r]], [(2, .b)], none, [], false⟩], [], 0⟩, ⟨[⟨24, [.c p1, .p p2, .b 0, .c [.r, .r, .r, .r]], [(1, .ptr 0 0), (3, .w)], none, [], false⟩], [(0, o3)], 1⟩]
abbrev A0 : Type := Int × Int × Bool × (List (List Int × (List LI × (List Int × List Int)))) × LI × LL × LI × LI × Unit
abbrev B0 : Type := (Bool × Unit) ⊕ (Int × Bool × (List (List Int × (List LI × (List Int × List Int)))) × Unit)
def b0 (m_ : Mode) (self : A0 → Option B0) : A0 → Option B0 := fun v_ => match v_ with
| (i, j, m, m1, m2, m3, m4, m5, ()) =>
 bif decide (j < i) then
  bif inB j (m1.length : Int) then
  (pendulumref22_alike.run m_ ((m2, (m3, (m4, m5))), (rd dz1 m1 j), ())).bind fun r =>
  bif r then
   some (.inl (false, ()))
  else
   self (i, (IntKind.i64.wrap (j + 1)), m, m1, m2, m3, m4, m5, ()) else none
 else
  some (.inr (i, m, m1, ()))
theorem k0 (m_ : Mode) : KS P (O m_) inl e0 x0 [] (b0 m_) := by
  intro self v_; kernel_rfl
def l0 (m_ : Mode) : A0 → Option B0 := loop m_ (b0 m_)
theorem q0 (v) : l0 .lim v = b0 .lim (l0 .lim) v := KS.q (k0 .lim) v
def g0 (m_ : Mode) : Seg := ⟨e0, x0, l0 m_⟩
theorem s0 (m_ : Mode) (S0 w0 cs0) : SegGood P S0 w0 cs0 24 (g0 m_) := seg_ok m_ (Ok m_) (an) (by rfl) (by rfl) (k0 m_)
def e1 : Spec := ⟨[⟨24, [.c p2, .p p2, .b 0, .c [.r, .r, .r, .r]], [(1, .ptr 0 0), (3, .w)], none, [], false⟩], [(0, o3)], 1⟩
def x1 : List Spec := [⟨[⟨24, [.c [.r, .r, .r, .l, .r, .l, .l, .r, .l, .l, .r, .l, .r, .l, .r], .c [.r, .r, .r, .l, .r, .l, .l, .r, .l, .l, .r, .r], .b 1, .c p1, .p p2, .b 0, .c [.r, .r, .r, .r]], [(2, .b)], none, [], false⟩], [], 0⟩, ⟨[⟨24, [.c p4, .b 3, .c p5, .p p0, .b 2, .b 1, .c p1, .p p2, .b 0, .c [.r, .r, .r, .r]], [(2, .b)], none, [], false⟩], [], 0⟩, ⟨[⟨24, [.c [.r, .r, .r, .r]], [], none, [], false⟩], [], 0⟩]
abbrev A1 : Type := Int × Bool × (List (List Int × (List LI × (List Int × List Int)))) × Unit
abbrev B1 : Type := (Bool × Unit) ⊕ (Bool × Unit) ⊕ (Unit)
def b1 (m_ : Mode) (self : A1 → Option B1) : A1 → Option B1 := fun v_ => match v_ with
| (i, m, m1, ()) =>
 bif smallI (m1.length : Int) then
 bif decide (i < (m1.length : Int)) then
  bif inB i (m1.length : Int) then
  bif smallI (((rd dz1 m1 i).1).length : Int) then
  bif ((!(!(decide ((((rd dz1 m1 i).1).length : Int) = 32)))) || (smallI (((rd dz1 m1 i).1).length : Int))) then
  bif ((!(!((!(decide ((((rd dz1 m1 i).1).length : Int) = 32))) && (!(decide ((((rd dz1 m1 i).1).length : Int) = 64)))))) || (smallI ((((rd dz1 m1 i).2).1).length : Int))) then
  bif ((!(!(((!(decide ((((rd dz1 m1 i).1).length : Int) = 32))) && (!(decide ((((rd dz1 m1 i).1).length : Int) = 64)))) || (decide (((((rd dz1 m1 i).2).1).length : Int) > 126))))) || (smallI (((((rd dz1 m1 i).2).2).1).length : Int))) then
  ((bif !((((!(decide ((((rd dz1 m1 i).1).length : Int) = 32))) && (!(decide ((((rd dz1 m1 i).1).length : Int) = 64)))) || (decide (((((rd dz1 m1 i).2).1).length : Int) > 126))) || (decide ((((((rd dz1 m1 i).2).2).1).length : Int) > 65536))) then pendulumref22_text.run m_ ((IntKind.i64.wrap (i + 1)), (((rd dz1 m1 i).2).2).1, ()) else some ([] : List Int))).bind fun r =>
  bif (((((!(decide ((((rd dz1 m1 i).1).length : Int) = 32))) && (!(decide ((((rd dz1 m1 i).1).length : Int) = 64)))) || (decide (((((rd dz1 m1 i).2).1).length : Int) > 126))) || (decide ((((((rd dz1 m1 i).2).2).1).length : Int) > 65536))) || (!(decide (((((rd dz1 m1 i).2).2).2) = r)))) then
   some (.inl (false, ()))
  else
   (pendulumref22_Fit.l0 m_ (i, 0, m, m1, (rd dz1 m1 i).1, ((rd dz1 m1 i).2).1, (((rd dz1 m1 i).2).2).1, (((rd dz1 m1 i).2).2).2, ())).bind fun g_ => match g_ with
   | .inl (t, ()) =>
    some (.inr (.inl (t, ())))
   | .inr (i1, m2, m3, ()) =>
    self ((IntKind.i64.wrap (i1 + 1)), m2, m3, ()) else none else none else none else none else none
 else
  some (.inr (.inr (()))) else none
theorem k1 (m_ : Mode) : KS P (O m_) inl e1 x1 [g0 m_] (b1 m_) := by
  intro self v_; kernel_rfl
def l1 (m_ : Mode) : A1 → Option B1 := loop m_ (b1 m_)
theorem q1 (v) : l1 .lim v = b1 .lim (l1 .lim) v := KS.q (k1 .lim) v
def g1 (m_ : Mode) : Seg := ⟨e1, x1, l1 m_⟩
theorem s1 (m_ : Mode) (S0 w0 cs0) : SegGood P S0 w0 cs0 24 (g1 m_) := seg_ok m_ (Ok m_) (ac (s0 m_ S0 w0 cs0) (an)) (by rfl) (by rfl) (k1 m_)
def run (m_ : Mode) : DT0 × Unit → Option (Bool) := fun v_ => match v_ with
| (v, ()) =>
 bif !v.1 then
  bif smallI (v.2.length : Int) then
  some (decide ((v.2.length : Int) = 0)) else none
 else
  bif smallI (v.2.length : Int) then
  bif decide ((v.2.length : Int) > 2048) then
   some false
  else
   (pendulumref22_Fit.l1 m_ (0, v.1, v.2, ())).bind fun g_ => match g_ with
   | .inl (t, ()) =>
    some t
   | .inr (.inl (t1, ())) =>
    some t1
   | .inr (.inr (())) =>
    some true else none
def c (m_ : Mode) : Callee := ⟨24, [.ag (.pair .bool (.lst (.pair .str (.pair (.lst .str) (.pair .str .str)))))], .one (.sh (.one .bool)), run m_⟩
theorem k (m_ : Mode) : KR P (O m_) inl [g1 m_] (c m_) := by
  intro v_; kernel_rfl
theorem ok (m_ : Mode) : (c m_).OK P := KR.ok (fun S0 w0 => (Ok m_)) (by kernel_rfl) (by rfl) (fun S0 w0 cs0 => ac (s1 m_ S0 w0 cs0) (an)) (k m_)
end pendulumref22_Fit

/-! ### pendulum/pendulumref24.Fit -/
namespace pendulumref24_Fit
def inl : FuncId → Bool := fun f => [].any (Nat.beq f)
def O (m_ : Mode) : Ora := (oras [])
theorem Ok (m_ : Mode) {S0 w0} : OraOK P S0 w0 (O m_) := (oras_ok (an))
def p0 : Path := [.r, .r, .r, .l, .r, .l, .l]
def e0 : Spec := ⟨[⟨25, [.c p0, .p p0, .b 0, .c [.r, .r, .r, .r]], [(1, .ptr 0 0), (3, .w), (4, .w)], none, [], false⟩], [(0, .c [.dat (.lst (.pair (.int .u32) (.pair .str (.int .i64)))), .dat (.int .u32)])], 1⟩
def x0 : List Spec := [⟨[⟨25, [.c [.r, .r, .r, .l, .r, .l, .l, .r, .l, .l, .r, .r, .l, .r], .b 1, .c [.r, .r, .r, .l, .r, .l, .l, .r, .r], .p p0, .b 0, .c [.r, .r, .r, .r]], [(2, .b)], none, [], false⟩], [], 0⟩, ⟨[⟨25, [.c [.r, .r, .r, .r]], [], none, [], false⟩], [], 0⟩]
abbrev A0 : Type := Int × Int × (List (Int × (List Int × Int))) × Int × Unit
abbrev B0 : Type := (Bool × Unit) ⊕ (Unit)
def b0 (m_ : Mode) (self : A0 → Option B0) : A0 → Option B0 := fun v_ => match v_ with
| (n, i, m, m1, ()) =>
 bif decide (i < n) then
  bif inB i (m.length : Int) then
  bif smallI ((((rd ((0 : Int), (([] : List Int), (0 : Int))) m i).2).1).length : Int) then
  bif ((!((!((!(decide (((((rd ((0 : Int), (([] : List Int), (0 : Int))) m i).2).1).length : Int) = 32))) || (!(decide (((rd ((0 : Int), (([] : List Int), (0 : Int))) m i).1) = (IntKind.u32.wrap (m1 - (IntKind.u32.wrap (IntKind.i64.wrap (n - i)))))))))) && (decide (i > 0)))) || (inB (IntKind.i64.wrap (i - 1)) (m.length : Int))) then
  bif (((!(decide (((((rd ((0 : Int), (([] : List Int), (0 : Int))) m i).2).1).length : Int) = 32))) || (!(decide (((rd ((0 : Int), (([] : List Int), (0 : Int))) m i).1) = (IntKind.u32.wrap (m1 - (IntKind.u32.wrap (IntKind.i64.wrap (n - i))))))))) || ((decide (i > 0)) && (decide ((((rd ((0 : Int), (([] : List Int), (0 : Int))) m i).2).2) < (((rd ((0 : Int), (([] : List Int), (0 : Int))) m (IntKind.i64.wrap (i - 1))).2).2))))) then
   some (.inl (false, ()))
  else
   self (n, (IntKind.i64.wrap (i + 1)), m, m1, ()) else none else none else none
 else
  some (.inr (()))
theorem k0 (m_ : Mode) : KS P (O m_) inl e0 x0 [] (b0 m_) := by
  intro self v_; kernel_rfl
def l0 (m_ : Mode) : A0 → Option B0 := loop m_ (b0 m_)
theorem q0 (v) : l0 .lim v = b0 .lim (l0 .lim) v := KS.q (k0 .lim) v
def g0 (m_ : Mode) : Seg := ⟨e0, x0, l0 m_⟩
theorem s0 (m_ : Mode) (S0 w0 cs0) : SegGood P S0 w0 cs0 25 (g0 m_) := seg_ok m_ (Ok m_) (an) (by rfl) (by rfl) (k0 m_)
def run (m_ : Mode) : DT3 × Unit → Option (Bool) := fun v_ => match v_ with
| (r, ()) =>
 bif smallI (r.1.length : Int) then
 bif ((decide ((r.1.length : Int) < 1)) || (decide ((r.1.length : Int) > 8))) then
  some false
 else
  (pendulumref24_Fit.l0 m_ ((r.1.length : Int), 0, r.1, r.2, ())).bind fun g_ => match g_ with
  | .inl (t, ()) =>
   some t
  | .inr (()) =>
   some true else none
def c (m_ : Mode) : Callee := ⟨25, [.ag (.pair (.lst (.pair (.int .u32) (.pair .str (.int .i64)))) (.int .u32))], .one (.sh (.one .bool)), run m_⟩
theorem k (m_ : Mode) : KR P (O m_) inl [g0 m_] (c m_) := by
  intro v_; kernel_rfl
theorem ok (m_ : Mode) : (c m_).OK P := KR.ok (fun S0 w0 => (Ok m_)) (by kernel_rfl) (by rfl) (fun S0 w0 cs0 => ac (s0 m_ S0 w0 cs0) (an)) (k m_)
end pendulumref24_Fit

/-! ### pendulum/pendulumlaw25.good -/
namespace pendulumlaw25_good
def inl : FuncId → Bool := fun f => [].any (Nat.beq f)
def O (m_ : Mode) : Ora := (oras [pendulumref22_Light.c m_, pendulumref22_Fit.c m_, pendulumref24_Fit.c m_])
theorem Ok (m_ : Mode) {S0 w0} : OraOK P S0 w0 (O m_) := (oras_ok (ac (pendulumref22_Light.ok m_) (ac (pendulumref22_Fit.ok m_) (ac (pendulumref24_Fit.ok m_) (an)))))
def run (m_ : Mode) : DT0 × DT3 × Unit → Option (Bool) := fun v_ => match v_ with
| (v, r, ()) =>
 (pendulumref22_Light.run m_ (v, ())).bind fun r1 =>
 ((bif r1 then pendulumref22_Fit.run m_ (v, ()) else some false)).bind fun r2 =>
 ((bif (r1 && r2) then pendulumref24_Fit.run m_ (r, ()) else some false)).bind fun r3 =>
 some ((r1 && r2) && r3)
def c (m_ : Mode) : Callee := ⟨7, [.ag (.pair .bool (.lst (.pair .str (.pair (.lst .str) (.pair .str .str))))), .ag (.pair (.lst (.pair (.int .u32) (.pair .str (.int .i64)))) (.int .u32))], .one (.sh (.one .bool)), run m_⟩
theorem k (m_ : Mode) : KR P (O m_) inl [] (c m_) := by
  intro v_; kernel_rfl
theorem ok (m_ : Mode) : (c m_).OK P := KR.ok (fun S0 w0 => (Ok m_)) (by kernel_rfl) (by rfl) (fun S0 w0 cs0 => an) (k m_)
end pendulumlaw25_good

/-! ### pendulum/pendulumref24.New -/
namespace pendulumref24_New
def inl : FuncId → Bool := fun f => [].any (Nat.beq f)
def O (m_ : Mode) : Ora := (oras [])
theorem Ok (m_ : Mode) {S0 w0} : OraOK P S0 w0 (O m_) := (oras_ok (an))
def run (m_ : Mode) : (List Int) × Int × Unit → Option (DT3 × Int × Unit) := fun v_ => match v_ with
| (key, now, ()) =>
 bif smallI (key.length : Int) then
 bif !(decide ((key.length : Int) = 32)) then
  some ((([] : List (Int × (List Int × Int))), 0), 10, ())
 else
  some ((([(1, (key, now))] : List (Int × (List Int × Int))), 2), 0, ()) else none
def c (m_ : Mode) : Callee := ⟨26, [.one .str, .one (.int .i64)], .tup [.sh (.ag (.pair (.lst (.pair (.int .u32) (.pair .str (.int .i64)))) (.int .u32))), .sh (.one (.int .i64))], run m_⟩
theorem k (m_ : Mode) : KR P (O m_) inl [] (c m_) := by
  intro v_; kernel_rfl
theorem ok (m_ : Mode) : (c m_).OK P := KR.ok (fun S0 w0 => (Ok m_)) (by kernel_rfl) (by rfl) (fun S0 w0 cs0 => an) (k m_)
end pendulumref24_New

/-! ### pendulum/nego.KeySize -/
namespace nego_KeySize
def inl : FuncId → Bool := fun f => [].any (Nat.beq f)
def O (m_ : Mode) : Ora := (oras [])
theorem Ok (m_ : Mode) {S0 w0} : OraOK P S0 w0 (O m_) := (oras_ok (an))
def run (m_ : Mode) : Int × Unit → Option (Int) := fun v_ => match v_ with
| (aead, ()) =>
 bif decide (aead = 15) then
  some 32
 else
  bif decide (aead = 17) then
   some 64
  else
   some 0
def c (m_ : Mode) : Callee := ⟨38, [.one (.int .i64)], .one (.sh (.one (.int .i64))), run m_⟩
theorem k (m_ : Mode) : KR P (O m_) inl [] (c m_) := by
  intro v_; kernel_rfl
theorem ok (m_ : Mode) : (c m_).OK P := KR.ok (fun S0 w0 => (Ok m_)) (by kernel_rfl) (by rfl) (fun S0 w0 cs0 => an) (k m_)
end nego_KeySize

/-! ### pendulum/cook.Fit -/
namespace cook_Fit
def inl : FuncId → Bool := fun f => [].any (Nat.beq f)
def O (m_ : Mode) : Ora := (oras [nego_KeySize.c m_])
theorem Ok (m_ : Mode) {S0 w0} : OraOK P S0 w0 (O m_) := (oras_ok (ac (nego_KeySize.ok m_) (an)))
def run (m_ : Mode) : (Int × (List Int × List Int)) × Unit → Option (Bool) := fun v_ => match v_ with
| (k, ()) =>
 (nego_KeySize.run m_ (k.1, ())).bind fun r =>
 bif ((!(decide (r > 0))) || (smallI (k.2.1.length : Int))) then
 bif ((!((decide (r > 0)) && (decide ((k.2.1.length : Int) = r)))) || (smallI (k.2.2.length : Int))) then
 some (((decide (r > 0)) && (decide ((k.2.1.length : Int) = r))) && (decide ((k.2.2.length : Int) = r))) else none else none
def c (m_ : Mode) : Callee := ⟨21, [.ag (.pair (.int .i64) (.pair .str .str))], .one (.sh (.one .bool)), run m_⟩
theorem k (m_ : Mode) : KR P (O m_) inl [] (c m_) := by
  intro v_; kernel_rfl
theorem ok (m_ : Mode) : (c m_).OK P := KR.ok (fun S0 w0 => (Ok m_)) (by kernel_rfl) (by rfl) (fun S0 w0 cs0 => an) (k m_)
end cook_Fit

/-! ### pendulum/cook.plain -/
namespace cook_plain
def inl : FuncId → Bool := fun f => [].any (Nat.beq f)
def O (m_ : Mode) : Ora := (oras [])
theorem Ok (m_ : Mode) {S0 w0} : OraOK P S0 w0 (O m_) := (oras_ok (an))
def run (m_ : Mode) : (Int × (List Int × List Int)) × Unit → Option (List Int) := fun v_ => match v_ with
| (k, ()) =>
 bif decide (([(IntKind.u8.wrap (ishr .i64 k.1 8)), (IntKind.u8.wrap k.1), 0, 0] : List Int).length + k.2.1.length ≤ maxStr) then
 bif decide ((([(IntKind.u8.wrap (ishr .i64 k.1 8)), (IntKind.u8.wrap k.1), 0, 0] : List Int) ++ k.2.1).length + k.2.2.length ≤ maxStr) then
 some ((([(IntKind.u8.wrap (ishr .i64 k.1 8)), (IntKind.u8.wrap k.1), 0, 0] : List Int) ++ k.2.1) ++ k.2.2) else none else none
def c (m_ : Mode) : Callee := ⟨29, [.ag (.pair (.int .i64) (.pair .str .str))], .one (.sh (.one .str)), run m_⟩
theorem k (m_ : Mode) : KR P (O m_) inl [] (c m_) := by
  intro v_; kernel_rfl
theorem ok (m_ : Mode) : (c m_).OK P := KR.ok (fun S0 w0 => (Ok m_)) (by kernel_rfl) (by rfl) (fun S0 w0 cs0 => an) (k m_)
end cook_plain

/-! ### pendulum/ideal.refused -/
namespace ideal_refused
def inl : FuncId → Bool := fun f => [].any (Nat.beq f)
def O (m_ : Mode) : Ora := (oras [])
theorem Ok (m_ : Mode) {S0 w0} : OraOK P S0 w0 (O m_) := (oras_ok (an))
def run (m_ : Mode) : DT1 × Unit → Option (Int) := fun v_ => match v_ with
| (k, ()) =>
 bif smallI (k.1.length : Int) then
 bif ((!(!(decide ((k.1.length : Int) = 32)))) || (smallI (k.1.length : Int))) then
 bif ((!(decide ((k.1.length : Int) = 32))) && (!(decide ((k.1.length : Int) = 64)))) then
  some 13
 else
  bif smallI (k.2.1.length : Int) then
  bif decide ((k.2.1.length : Int) > 126) then
   some 18
  else
   some 0 else none else none else none
def c (m_ : Mode) : Callee := ⟨92, [.ag (.pair .str (.pair (.lst .str) (.pair .str .str)))], .one (.sh (.one (.int .i64))), run m_⟩
theorem k (m_ : Mode) : KR P (O m_) inl [] (c m_) := by
  intro v_; kernel_rfl
theorem ok (m_ : Mode) : (c m_).OK P := KR.ok (fun S0 w0 => (Ok m_)) (by kernel_rfl) (by rfl) (fun S0 w0 cs0 => an) (k m_)
end ideal_refused

/-! ### slices.Equal[[]string,string] -/
namespace slices_Equal_string_string
def inl : FuncId → Bool := fun f => [].any (Nat.beq f)
def O (m_ : Mode) : Ora := (oras [])
theorem Ok (m_ : Mode) {S0 w0} : OraOK P S0 w0 (O m_) := (oras_ok (an))
def p0 : Path := [.r, .r, .l, .r, .l, .l]
def e0 : Spec := ⟨[⟨95, [.c p0, .p p0, .b 0, .c [.r, .r, .r]], [(0, .t), (1, .t), (12, .w), (13, .w)], none, [], false⟩], [], 0⟩
def x0 : List Spec := [⟨[⟨95, [.c [.r, .r, .l, .r, .l, .l, .r, .r, .l, .l, .r, .r, .l, .r], .b 1, .c [.r, .r, .l, .r, .l, .l, .r, .r, .r], .p p0, .b 0, .c [.r, .r, .r]], [(4, .b)], none, [], false⟩], [], 0⟩, ⟨[⟨95, [.c [.r, .r, .r]], [], none, [], false⟩], [], 0⟩]
abbrev A0 : Type := LL × LL × Int × Int × Unit
abbrev B0 : Type := (Bool × Unit) ⊕ (Unit)
def b0 (m_ : Mode) (self : A0 → Option B0) : A0 → Option B0 := fun v_ => match v_ with
| (s1, s2, t, t1, ()) =>
 bif decide (t1 < t) then
  bif inB t1 (s1.length : Int) then
  bif inB t1 (s2.length : Int) then
  bif !(decide ((rd ([] : List Int) s1 t1) = (rd ([] : List Int) s2 t1))) then
   some (.inl (false, ()))
  else
   self (s1, s2, t, (IntKind.i64.wrap (t1 + 1)), ()) else none else none
 else
  some (.inr (()))
theorem k0 (m_ : Mode) : KS P (O m_) inl e0 x0 [] (b0 m_) := by
  intro self v_; kernel_rfl
def l0 (m_ : Mode) : A0 → Option B0 := loop m_ (b0 m_)
theorem q0 (v) : l0 .lim v = b0 .lim (l0 .lim) v := KS.q (k0 .lim) v
def g0 (m_ : Mode) : Seg := ⟨e0, x0, l0 m_⟩
theorem s0 (m_ : Mode) (S0 w0 cs0) : SegGood P S0 w0 cs0 95 (g0 m_) := seg_ok m_ (Ok m_) (an) (by rfl) (by rfl) (k0 m_)
def run (m_ : Mode) : (List (List Int)) × (List (List Int)) × Unit → Option (Bool) := fun v_ => match v_ with
| (s1, s2, ()) =>
 bif smallI (s1.length : Int) then
 bif smallI (s2.length : Int) then
 bif !(decide ((s1.length : Int) = (s2.length : Int))) then
  some false
 else
  bif smallI (s1.length : Int) then
  (slices_Equal_string_string.l0 m_ (s1, s2, (s1.length : Int), 0, ())).bind fun g_ => match g_ with
  | .inl (t, ()) =>
   some t
  | .inr (()) =>
   some true else none else none else none
def c (m_ : Mode) : Callee := ⟨95, [.one (.lst .str), .one (.lst .str)], .one (.sh (.one .bool)), run m_⟩
theorem k (m_ : Mode) : KR P (O m_) inl [g0 m_] (c m_) := by
  intro v_; kernel_rfl
theorem ok (m_ : Mode) : (c m_).OK P := KR.ok (fun S0 w0 => (Ok m_)) (by kernel_rfl) (by rfl) (fun S0 w0 cs0 => ac (s0 m_ S0 w0 cs0) (an)) (k m_)
end slices_Equal_string_string

/-! ### pendulum/ideal.alike -/
namespace ideal_alike
def inl : FuncId → Bool := fun f => [].any (Nat.beq f)
def O (m_ : Mode) : Ora := (oras [slices_Equal_string_string.c m_])
theorem Ok (m_ : Mode) {S0 w0} : OraOK P S0 w0 (O m_) := (oras_ok (ac (slices_Equal_string_string.ok m_) (an)))
def run (m_ : Mode) : DT1 × DT1 × Unit → Option (Bool) := fun v_ => match v_ with
| (a, b, ()) =>
 ((bif ((decide (a.1 = b.1)) && (decide (a.2.2.1 = b.2.2.1))) then slices_Equal_string_string.run m_ (a.2.1, b.2.1, ()) else some false)).bind fun r =>
 some (((decide (a.1 = b.1)) && (decide (a.2.2.1 = b.2.2.1))) && r)
def c (m_ : Mode) : Callee := ⟨97, [.ag (.pair .str (.pair (.lst .str) (.pair .str .str))), .ag (.pair .str (.pair (.lst .str) (.pair .str .str)))], .one (.sh (.one .bool)), run m_⟩
theorem k (m_ : Mode) : KR P (O m_) inl [] (c m_) := by
  intro v_; kernel_rfl
theorem ok (m_ : Mode) : (c m_).OK P := KR.ok (fun S0 w0 => (Ok m_)) (by kernel_rfl) (by rfl) (fun S0 w0 cs0 => an) (k m_)
end ideal_alike

/-! ### slices.Clone[[]string,string] -/
namespace slices_Clone_string_string
def inl : FuncId → Bool := fun f => [].any (Nat.beq f)
def O (m_ : Mode) : Ora := (oras [])
theorem Ok (m_ : Mode) {S0 w0} : OraOK P S0 w0 (O m_) := (oras_ok (an))
def run (m_ : Mode) : (List (List Int)) × Unit → Option (List (List Int)) := fun v_ => match v_ with
| (s, ()) =>
 bif decide (([] : List (List Int)).length + s.length < 4398046511104) then
 some (([] : List (List Int)) ++ s) else none
def c (m_ : Mode) : Callee := ⟨98, [.one (.lst .str)], .one (.own .str), run m_⟩
theorem kn (m_ : Mode) : runS P (O m_) inl [] [] (c m_).res.fin 20000 false (start 98 [.nilSlc]) = (
 some ([] : List (List Int))) := by kernel_rfl
theorem k (m_ : Mode) : ∀ xs : List (List Int), runS P (O m_) inl [] [] (c m_).res.fin 20000 false (start 98 [.nlst .str xs]) = run m_ (xs, ()) := by
  intro xs; kernel_rfl
theorem ok (m_ : Mode) : (c m_).OK P := Callee.of_nil (fun S0 w0 => (Ok m_)) (by kernel_rfl) (by rfl) (fun S0 w0 cs0 => an) (fun r h => (kn m_).trans ((show (
 some ([] : List (List Int))) = slices_Clone_string_string.run m_ ([], ()) from by kernel_rfl).trans h)) (fun x r h => (slices_Clone_string_string.k m_ x).trans h)
end slices_Clone_string_string

/-! ### strings.Repeat -/
namespace strings_Repeat
def run (_ : Mode) : (List Int) × Int × Unit → Option (List Int) := repF
def c (m_ : Mode) : Callee := ⟨101, [.one .str, .one (.int .i64)], .one (.sh (.one .str)), run m_⟩
theorem ok (m_ : Mode) : (c m_).OK P := repeat_ok (by kernel_rfl) fun s c w hc hl => Go.Proofs.Any.strings_Repeat Go.Proofs.Tryz.lays105 Go.Proofs.Tryz.Builder_Extra_105 s c w hc hl
end strings_Repeat

/-! ### pendulum/ideal.number -/
namespace ideal_number
def inl : FuncId → Bool := fun f => [].any (Nat.beq f)
def O (m_ : Mode) : Ora := (oras [strings_Repeat.c m_])
theorem Ok (m_ : Mode) {S0 w0} : OraOK P S0 w0 (O m_) := (oras_ok (ac (strings_Repeat.ok m_) (an)))
def p0 : Path := [.r, .r, .l, .r, .l, .l]
def o1 : OSpec := .c [.dat (.arr 16 (.int .u8))]
def e0 : Spec := ⟨[⟨99, [.c p0, .p p0, .b 0, .c [.r, .r, .r]], [(0, .w), (1, .s), (5, .ptr 0 0), (7, .w)], none, [], false⟩], [(0, o1)], 1⟩
def x0 : List Spec := [⟨[⟨99, [.c [.r, .r, .r]], [(1, .s), (5, .ptr 0 0)], none, [], false⟩], [(0, o1)], 1⟩]
abbrev A0 : Type := Int × LI × Int × LI × Unit
abbrev B0 : Type := (LI × LI × Unit)
def b0 (m_ : Mode) (self : A0 → Option B0) : A0 → Option B0 := fun v_ => match v_ with
| (n, plain, t, m, ()) =>
 bif decide (t < 8) then
  bif decide (0 ≤ (IntKind.i64.wrap (8 * t))) then
  bif inB (IntKind.i64.wrap (15 - t)) 16 then
  self (n, plain, (IntKind.i64.wrap (t + 1)), (m.set ((IntKind.i64.wrap (15 - t)).toNat) (IntKind.u8.wrap (ishr .i64 n (IntKind.i64.wrap (8 * t))))), ()) else none else none
 else
  some (plain, m, ())
theorem k0 (m_ : Mode) : KS P (O m_) inl e0 x0 [] (b0 m_) := by
  intro self v_; kernel_rfl
def l0 (m_ : Mode) : A0 → Option B0 := loop m_ (b0 m_)
theorem q0 (v) : l0 .lim v = b0 .lim (l0 .lim) v := KS.q (k0 .lim) v
def g0 (m_ : Mode) : Seg := ⟨e0, x0, l0 m_⟩
theorem s0 (m_ : Mode) (S0 w0 cs0) : SegGood P S0 w0 cs0 99 (g0 m_) := seg_ok m_ (Ok m_) (an) (by rfl) (by rfl) (k0 m_)
def run (m_ : Mode) : Int × (List Int) × Unit → Option (List Int) := fun v_ => match v_ with
| (n, plain, ()) =>
 (ideal_number.l0 m_ (n, plain, 0, (List.replicate 16 (0 : Int)), ())).bind fun (plain1, m, ()) =>
 bif smallI (plain1.length : Int) then
 (strings_Repeat.run m_ (([0] : List Int), (plain1.length : Int), ())).bind fun r =>
 bif decide (((m.drop 0).take 16).length + r.length ≤ maxStr) then
 some (((m.drop 0).take 16) ++ r) else none else none
def c (m_ : Mode) : Callee := ⟨99, [.one (.int .i64), .one .str], .one (.sh (.one .str)), run m_⟩
theorem k (m_ : Mode) : KR P (O m_) inl [g0 m_] (c m_) := by
  intro v_; kernel_rfl
theorem ok (m_ : Mode) : (c m_).OK P := KR.ok (fun S0 w0 => (Ok m_)) (by kernel_rfl) (by rfl) (fun S0 w0 cs0 => ac (s0 m_ S0 w0 cs0) (an)) (k m_)
end ideal_number

/-! ### slices.Clone[[]pendulum/api.Kept,pendulum/api.Kept] -/
namespace slices_Clone_api_Kept_api_Kept
def inl : FuncId → Bool := fun f => [].any (Nat.beq f)
def O (m_ : Mode) : Ora := (oras [])
theorem Ok (m_ : Mode) {S0 w0} : OraOK P S0 w0 (O m_) := (oras_ok (an))
def run (m_ : Mode) : (List DT1) × Unit → Option (List DT1) := fun v_ => match v_ with
| (s, ()) =>
 bif decide (([] : List DT1).length + s.length < 977343669134) then
 some (([] : List DT1) ++ s) else none
def c (m_ : Mode) : Callee := ⟨100, [.one (.lst (.pair .str (.pair (.lst .str) (.pair .str .str))))], .one (.own (.pair .str (.pair (.lst .str) (.pair .str .str)))), run m_⟩
theorem kn (m_ : Mode) : runS P (O m_) inl [] [] (c m_).res.fin 20000 false (start 100 [.nilSlc]) = (
 some ([] : List DT1)) := by kernel_rfl
theorem k (m_ : Mode) : ∀ xs : List DT1, runS P (O m_) inl [] [] (c m_).res.fin 20000 false (start 100 [.nlst (.pair .str (.pair (.lst .str) (.pair .str .str))) xs]) = run m_ (xs, ()) := by
  intro xs; kernel_rfl
theorem ok (m_ : Mode) : (c m_).OK P := Callee.of_nil (fun S0 w0 => (Ok m_)) (by kernel_rfl) (by rfl) (fun S0 w0 cs0 => an) (fun r h => (kn m_).trans ((show (
 some ([] : List DT1)) = slices_Clone_api_Kept_api_Kept.run m_ ([], ()) from by kernel_rfl).trans h)) (fun x r h => (slices_Clone_api_Kept_api_Kept.k m_ x).trans h)
end slices_Clone_api_Kept_api_Kept

/-! ### pendulum/siv.zeros -/
namespace siv_zeros
def inl : FuncId → Bool := fun f => [].any (Nat.beq f)
def O (m_ : Mode) : Ora := (oras [strings_Repeat.c m_])
theorem Ok (m_ : Mode) {S0 w0} : OraOK P S0 w0 (O m_) := (oras_ok (ac (strings_Repeat.ok m_) (an)))
def run (m_ : Mode) : Int × Unit → Option (List Int) := fun v_ => match v_ with
| (n, ()) =>
 (strings_Repeat.run m_ (([0] : List Int), n, ())).bind fun r =>
 some r
def c (m_ : Mode) : Callee := ⟨123, [.one (.int .i64)], .one (.sh (.one .str)), run m_⟩
theorem k (m_ : Mode) : KR P (O m_) inl [] (c m_) := by
  intro v_; kernel_rfl
theorem ok (m_ : Mode) : (c m_).OK P := KR.ok (fun S0 w0 => (Ok m_)) (by kernel_rfl) (by rfl) (fun S0 w0 cs0 => an) (k m_)
end siv_zeros

/-! ### pendulum/aes.Times -/
namespace aes_Times
def inl : FuncId → Bool := fun f => [].any (Nat.beq f)
def O (m_ : Mode) : Ora := (oras [])
theorem Ok (m_ : Mode) {S0 w0} : OraOK P S0 w0 (O m_) := (oras_ok (an))
def e0 : Spec := ⟨[⟨150, [.c [.r, .r, .l, .l, .l], .p [.r, .r, .l, .l, .l], .b 0, .c [.r, .r, .r]], [(0, .y), (1, .y), (5, .y)], none, [], false⟩], [], 0⟩
def x0 : List Spec := [⟨[⟨150, [.c [.r, .r, .r]], [(5, .y)], none, [], false⟩], [], 0⟩]
abbrev A0 : Type := Int × Int × Int × Unit
abbrev B0 : Type := (Int × Unit)
def b0 (m_ : Mode) (self : A0 → Option B0) : A0 → Option B0 := fun v_ => match v_ with
| (a, b, r, ()) =>
 bif decide (b > 0) then
  self ((ixor .u8 (ishl .u8 a 1) (IntKind.u8.wrap ((ishr .u8 a 7) * 27))), (ishr .u8 b 1), (ixor .u8 r (IntKind.u8.wrap (a * (iand .u8 b 1)))), ())
 else
  some (r, ())
theorem k0 (m_ : Mode) : KS P (O m_) inl e0 x0 [] (b0 m_) := by
  intro self v_; kernel_rfl
def l0 (m_ : Mode) : A0 → Option B0 := loop m_ (b0 m_)
theorem q0 (v) : l0 .lim v = b0 .lim (l0 .lim) v := KS.q (k0 .lim) v
def g0 (m_ : Mode) : Seg := ⟨e0, x0, l0 m_⟩
theorem s0 (m_ : Mode) (S0 w0 cs0) : SegGood P S0 w0 cs0 150 (g0 m_) := seg_ok m_ (Ok m_) (an) (by rfl) (by rfl) (k0 m_)
def run (m_ : Mode) : Int × Int × Unit → Option (Int) := fun v_ => match v_ with
| (a, b, ()) =>
 (aes_Times.l0 m_ (a, b, 0, ())).bind fun (r, ()) =>
 some r
def c (m_ : Mode) : Callee := ⟨150, [.one (.int .u8), .one (.int .u8)], .one (.sh (.one (.int .u8))), run m_⟩
theorem k (m_ : Mode) : KR P (O m_) inl [g0 m_] (c m_) := by
  intro v_; kernel_rfl
theorem ok (m_ : Mode) : (c m_).OK P := KR.ok (fun S0 w0 => (Ok m_)) (by kernel_rfl) (by rfl) (fun S0 w0 cs0 => ac (s0 m_ S0 w0 cs0) (an)) (k m_)
end aes_Times

/-! ### pendulum/aes.inverse -/
namespace aes_inverse
def inl : FuncId → Bool := fun f => [].any (Nat.beq f)
def O (m_ : Mode) : Ora := (oras [aes_Times.c m_])
theorem Ok (m_ : Mode) {S0 w0} : OraOK P S0 w0 (O m_) := (oras_ok (ac (aes_Times.ok m_) (an)))
def p0 : Path := [.r, .r, .l, .r, .l, .l]
def e0 : Spec := ⟨[⟨158, [.c p0, .p p0, .b 0, .c [.r, .r, .r]], [(3, .y), (4, .y), (6, .w)], none, [], false⟩], [], 0⟩
def x0 : List Spec := [⟨[⟨158, [.c [.r, .r, .r]], [(3, .y)], none, [], false⟩], [], 0⟩]
abbrev A0 : Type := Int × Int × Int × Unit
abbrev B0 : Type := (Int × Unit)
def b0 (m_ : Mode) (self : A0 → Option B0) : A0 → Option B0 := fun v_ => match v_ with
| (r, s, t, ()) =>
 bif decide (t < 7) then
  (aes_Times.run m_ (s, s, ())).bind fun r1 =>
  (aes_Times.run m_ (r, r1, ())).bind fun r2 =>
  self (r2, r1, (IntKind.i64.wrap (t + 1)), ())
 else
  some (r, ())
theorem k0 (m_ : Mode) : KS P (O m_) inl e0 x0 [] (b0 m_) := by
  intro self v_; kernel_rfl
def l0 (m_ : Mode) : A0 → Option B0 := loop m_ (b0 m_)
theorem q0 (v) : l0 .lim v = b0 .lim (l0 .lim) v := KS.q (k0 .lim) v
def g0 (m_ : Mode) : Seg := ⟨e0, x0, l0 m_⟩
theorem s0 (m_ : Mode) (S0 w0 cs0) : SegGood P S0 w0 cs0 158 (g0 m_) := seg_ok m_ (Ok m_) (an) (by rfl) (by rfl) (k0 m_)
def run (m_ : Mode) : Int × Unit → Option (Int) := fun v_ => match v_ with
| (b, ()) =>
 (aes_inverse.l0 m_ (1, b, 0, ())).bind fun (r, ()) =>
 some r
def c (m_ : Mode) : Callee := ⟨158, [.one (.int .u8)], .one (.sh (.one (.int .u8))), run m_⟩
theorem k (m_ : Mode) : KR P (O m_) inl [g0 m_] (c m_) := by
  intro v_; kernel_rfl
theorem ok (m_ : Mode) : (c m_).OK P := KR.ok (fun S0 w0 => (Ok m_)) (by kernel_rfl) (by rfl) (fun S0 w0 cs0 => ac (s0 m_ S0 w0 cs0) (an)) (k m_)
end aes_inverse

/-! ### pendulum/aes.turn -/
namespace aes_turn
def inl : FuncId → Bool := fun f => [].any (Nat.beq f)
def O (m_ : Mode) : Ora := (oras [])
theorem Ok (m_ : Mode) {S0 w0} : OraOK P S0 w0 (O m_) := (oras_ok (an))
def run (m_ : Mode) : Int × Int × Unit → Option (Int) := fun v_ => match v_ with
| (b, n, ()) =>
 bif decide (0 ≤ n) then
 bif decide (0 ≤ (IntKind.i64.wrap (8 - n))) then
 some (ior .u8 (ishl .u8 b n) (ishr .u8 b (IntKind.i64.wrap (8 - n)))) else none else none
def c (m_ : Mode) : Callee := ⟨159, [.one (.int .u8), .one (.int .i64)], .one (.sh (.one (.int .u8))), run m_⟩
theorem k (m_ : Mode) : KR P (O m_) inl [] (c m_) := by
  intro v_; kernel_rfl
theorem ok (m_ : Mode) : (c m_).OK P := KR.ok (fun S0 w0 => (Ok m_)) (by kernel_rfl) (by rfl) (fun S0 w0 cs0 => an) (k m_)
end aes_turn

/-! ### pendulum/aes.Sub -/
namespace aes_Sub
def inl : FuncId → Bool := fun f => [].any (Nat.beq f)
def O (m_ : Mode) : Ora := (oras [aes_inverse.c m_, aes_turn.c m_])
theorem Ok (m_ : Mode) {S0 w0} : OraOK P S0 w0 (O m_) := (oras_ok (ac (aes_inverse.ok m_) (ac (aes_turn.ok m_) (an))))
def run (m_ : Mode) : Int × Unit → Option (Int) := fun v_ => match v_ with
| (b, ()) =>
 (aes_inverse.run m_ (b, ())).bind fun r =>
 (aes_turn.run m_ (r, 1, ())).bind fun r1 =>
 (aes_turn.run m_ (r, 2, ())).bind fun r2 =>
 (aes_turn.run m_ (r, 3, ())).bind fun r3 =>
 (aes_turn.run m_ (r, 4, ())).bind fun r4 =>
 some (ixor .u8 (ixor .u8 (ixor .u8 (ixor .u8 (ixor .u8 r r1) r2) r3) r4) 99)
def c (m_ : Mode) : Callee := ⟨149, [.one (.int .u8)], .one (.sh (.one (.int .u8))), run m_⟩
theorem k (m_ : Mode) : KR P (O m_) inl [] (c m_) := by
  intro v_; kernel_rfl
theorem ok (m_ : Mode) : (c m_).OK P := KR.ok (fun S0 w0 => (Ok m_)) (by kernel_rfl) (by rfl) (fun S0 w0 cs0 => an) (k m_)
end aes_Sub

/-! ### slices.Concat[[]byte,byte] -/
namespace slices_Concat_byte_byte
-- not told: a panic out of the call [F153 (('inRegion', 'rrlrllrrllrrrl', 1),)]
-- not told: a panic out of the call [F153 (('inRegion', 'rrrl', 1),)]
def inl : FuncId → Bool := fun f => [162].any (Nat.beq f)
def O (m_ : Mode) : Ora := (oras [])
theorem Ok (m_ : Mode) {S0 w0} : OraOK P S0 w0 (O m_) := (oras_ok (an))
def p0 : Path := [.r, .r, .l, .r, .l, .l]
def e0 : Spec := ⟨[⟨153, [.c p0, .p p0, .b 0, .c [.r, .r, .r]], [(0, .dat (.lst (.lst (.int .u8)))), (3, .w), (9, .dat (.lst (.lst (.int .u8)))), (10, .w), (11, .w)], none, [], false⟩], [], 0⟩
def x0 : List Spec := [⟨[⟨153, [.c [.r, .r, .r]], [(0, .dat (.lst (.lst (.int .u8)))), (3, .w)], none, [], false⟩], [], 0⟩]
abbrev A0 : Type := LL × Int × LL × Int × Int × Unit
abbrev B0 : Type := (LL × Int × Unit)
def b0 (m_ : Mode) (self : A0 → Option B0) : A0 → Option B0 := fun v_ => match v_ with
| (slices, size, t, t1, t2, ()) =>
 bif decide (t2 < t1) then
  bif inB t2 (t.length : Int) then
  bif smallI ((rd ([] : List Int) t t2).length : Int) then
  bif decide ((IntKind.i64.wrap (size + ((rd ([] : List Int) t t2).length : Int))) < 0) then
   none
  else
   self (slices, (IntKind.i64.wrap (size + ((rd ([] : List Int) t t2).length : Int))), t, t1, (IntKind.i64.wrap (t2 + 1)), ()) else none else none
 else
  some (slices, size, ())
theorem k0 (m_ : Mode) : KS P (O m_) inl e0 x0 [] (b0 m_) := by
  intro self v_; kernel_rfl
def l0 (m_ : Mode) : A0 → Option B0 := loop m_ (b0 m_)
theorem q0 (v) : l0 .lim v = b0 .lim (l0 .lim) v := KS.q (k0 .lim) v
def g0 (m_ : Mode) : Seg := ⟨e0, x0, l0 m_⟩
theorem s0 (m_ : Mode) (S0 w0 cs0) : SegGood P S0 w0 cs0 153 (g0 m_) := seg_ok m_ (Ok m_) (an) (by rfl) (by rfl) (k0 m_)
def p1 : Path := [.r, .r, .r, .r, .l, .r, .l, .l]
def e1 : Spec := ⟨[⟨153, [.c p1, .p p1, .b 2, .c [.r, .r, .r, .r, .r]], [(6, .pre 0 (.int .u8)), (25, .dat (.lst (.lst (.int .u8)))), (26, .w), (27, .w)], none, [], false⟩], [(0, .c [.row (.int .u8)])], 1⟩
def x1 : List Spec := [⟨[⟨153, [.c [.r, .r, .r, .r, .r]], [(6, .pre 0 (.int .u8))], none, [], false⟩], [(0, .c [.row (.int .u8)])], 1⟩]
abbrev A1 : Type := Int × LL × Int × Int × LI × Unit
abbrev B1 : Type := (Int × LI × Unit)
def b1 (m_ : Mode) (self : A1 → Option B1) : A1 → Option B1 := fun v_ => match v_ with
| (newslice, t, t1, t2, m, ()) =>
 bif decide (t2 < t1) then
  bif inB t2 (t.length : Int) then
  bif ((decide (m.length + (rd ([] : List Int) t t2).length < 70368744177664)) && (decide (0 ≤ newslice))) then
  self ((newslice + ((rd ([] : List Int) t t2).length : Int)), t, t1, (IntKind.i64.wrap (t2 + 1)), (m.take newslice.toNat ++ ((rd ([] : List Int) t t2) ++ m.drop (newslice.toNat + (rd ([] : List Int) t t2).length))), ()) else none else none
 else
  some (newslice, m, ())
theorem k1 (m_ : Mode) : KS P (O m_) inl e1 x1 [] (b1 m_) := by
  intro self v_; kernel_rfl
def l1 (m_ : Mode) : A1 → Option B1 := loop m_ (b1 m_)
theorem q1 (v) : l1 .lim v = b1 .lim (l1 .lim) v := KS.q (k1 .lim) v
def g1 (m_ : Mode) : Seg := ⟨e1, x1, l1 m_⟩
theorem s1 (m_ : Mode) (S0 w0 cs0) : SegGood P S0 w0 cs0 153 (g1 m_) := seg_ok m_ (Ok m_) (an) (by rfl) (by rfl) (k1 m_)
def run (m_ : Mode) : (List (List Int)) × Unit → Option (List Int) := fun v_ => match v_ with
| (slices, ()) =>
 bif smallI (slices.length : Int) then
 (slices_Concat_byte_byte.l0 m_ (slices, 0, slices, (slices.length : Int), 0, ())).bind fun (slices1, size, ()) =>
 bif decide (size < 0) then
  none
 else
  bif decide ((IntKind.i64.wrap (size - 0)) > 0) then
   bif ((decide (0 ≤ (IntKind.i64.wrap (size - 0)))) && (Nat.blt ((IntKind.i64.wrap (size - 0)).toNat) 70368744177664)) then
   bif cutB 0 0 ((List.replicate ((IntKind.i64.wrap (size - 0)).toNat) 0).length : Int) then
   bif smallI (slices1.length : Int) then
   (slices_Concat_byte_byte.l1 m_ (0, slices1, (slices1.length : Int), 0, (List.replicate ((IntKind.i64.wrap (size - 0)).toNat) 0), ())).bind fun (newslice, m, ()) =>
   some ((m.drop 0).take newslice.toNat) else none else none else none
  else
   bif smallI (slices1.length : Int) then
   (slices_Concat_byte_byte.l1 m_ (0, slices1, (slices1.length : Int), 0, ([] : List Int), ())).bind fun (newslice1, m1, ()) =>
   some ((m1.drop 0).take newslice1.toNat) else none else none
def c (m_ : Mode) : Callee := ⟨153, [.one (.lst (.lst (.int .u8)))], .one (.sh (.one (.lst (.int .u8)))), run m_⟩
theorem k (m_ : Mode) : KR P (O m_) inl [g0 m_, g1 m_] (c m_) := by
  intro v_; kernel_rfl
theorem ok (m_ : Mode) : (c m_).OK P := KR.ok (fun S0 w0 => (Ok m_)) (by kernel_rfl) (by rfl) (fun S0 w0 cs0 => ac (s0 m_ S0 w0 cs0) (ac (s1 m_ S0 w0 cs0) (an))) (k m_)
end slices_Concat_byte_byte

/-! ### sync/atomic.b32 -/
namespace sync_atomic_b32
def inl : FuncId → Bool := fun f => [].any (Nat.beq f)
def O (m_ : Mode) : Ora := (oras [])
theorem Ok (m_ : Mode) {S0 w0} : OraOK P S0 w0 (O m_) := (oras_ok (an))
def run (m_ : Mode) : Bool × Unit → Option (Int) := fun v_ => match v_ with
| (b, ()) =>
 bif b then
  some 1
 else
  some 0
def c (m_ : Mode) : Callee := ⟨166, [.one .bool], .one (.sh (.one (.int .u32))), run m_⟩
theorem k (m_ : Mode) : KR P (O m_) inl [] (c m_) := by
  intro v_; kernel_rfl
theorem ok (m_ : Mode) : (c m_).OK P := KR.ok (fun S0 w0 => (Ok m_)) (by kernel_rfl) (by rfl) (fun S0 w0 cs0 => an) (k m_)
end sync_atomic_b32

/-! ### pendulum/aes.Encrypt -/
namespace aes_Encrypt
-- not told: not walked: (*internal/sync.Mutex) .lockSlow [F163 (('inRegion', 'rr', 1),)]
-- not told: not walked: (*internal/sync.Mutex) .unlockSlow [F164 (('inRegion', 'rrlrl', 2),)]
def inl : FuncId → Bool := fun f => [129, 130, 133, 134, 135, 136, 137, 138, 141, 142, 143, 144, 147, 148, 151, 152, 153, 155, 163, 164].any (Nat.beq f)
def xs : List (FuncId × XK) := [(154, .load .u32), (165, .store), (167, .mark0 .disable), (168, .cas .i32), (169, .mark0 .enable), (170, .mark1 .acquire), (172, .mark1 .releaseMerge), (173, .add .i32)]
theorem xsok : ∀ x ∈ xs, x.2.OK P x.1 := ac ⟨_, Go.Proofs.Tryz.func154, by kernel_rfl, by kernel_rfl, by kernel_rfl, by kernel_rfl⟩ (ac ⟨_, Go.Proofs.Tryz.func165, by kernel_rfl, by kernel_rfl, by kernel_rfl, by kernel_rfl⟩ (ac ⟨_, Go.Proofs.Tryz.func167, by kernel_rfl, by kernel_rfl, by kernel_rfl, by kernel_rfl⟩ (ac ⟨_, Go.Proofs.Tryz.func168, by kernel_rfl, by kernel_rfl, by kernel_rfl, by kernel_rfl⟩ (ac ⟨_, Go.Proofs.Tryz.func169, by kernel_rfl, by kernel_rfl, by kernel_rfl, by kernel_rfl⟩ (ac ⟨_, Go.Proofs.Tryz.func170, by kernel_rfl, by kernel_rfl, by kernel_rfl, by kernel_rfl⟩ (ac ⟨_, Go.Proofs.Tryz.func172, by kernel_rfl, by kernel_rfl, by kernel_rfl, by kernel_rfl⟩ (ac ⟨_, Go.Proofs.Tryz.func173, by kernel_rfl, by kernel_rfl, by kernel_rfl, by kernel_rfl⟩ (an))))))))
def O (m_ : Mode) : Ora := (both (oras [aes_Sub.c m_, aes_Times.c m_, slices_Concat_byte_byte.c m_, sync_atomic_b32.c m_]) (exts xs))
theorem Ok (m_ : Mode) {S0 w0} : OraOK P S0 w0 (O m_) := (both_ok (oras_ok (ac (aes_Sub.ok m_) (ac (aes_Times.ok m_) (ac (slices_Concat_byte_byte.ok m_) (ac (sync_atomic_b32.ok m_) (an)))))) (exts_ok xsok))
def p0 : Path := [.r, .l, .l, .r, .r, .l, .l, .r, .r, .r, .r, .l, .l]
def p1 : Path := [.r, .l, .l, .r, .r, .r]
def f2 : FSpec := ⟨148, [.g [.r, .r, .r, .l, .r] [1]], [], none, [.call 157 [.ptr 0 1, .b], .call 156 [.ptr 0 2]], false⟩
def f3 : FSpec := ⟨141, [.g [.r, .l] [2]], [], none, [], false⟩
def f4 : FSpec := ⟨133, [.g [.r] [4]], [], none, [], false⟩
def f5 : FSpec := ⟨128, [.g [.r, .r, .r, .l] [5,6,7], .c [.r, .r, .r, .r]], [], none, [], false⟩
def o6 : OSpec := .c [.s, .dat (.int .u32), .dat (.int .i32), .dat (.int .u32), .dat (.arr 256 (.int .u8)), .dat (.arr 256 (.int .u8)), .dat (.arr 16 (.arr 256 (.int .u8))), .nilS]
def o7 : OSpec := .c [.dat (.arr 16 (.int .u8))]
def f8 : FSpec := ⟨142, [.g [.l] [1], .c [.r]], [(0, .ptr 1 0)], none, [], false⟩
def f9 : FSpec := ⟨130, [.g [.r, .l] [1], .c [.r, .r]], [(2, .ptr 2 0), (3, .ptr 3 0), (4, .ptr 4 0)], none, [], false⟩
def e0 : Spec := ⟨[⟨143, [.c p0, .p p0, .b 2, .b 1, .c p1, .p [.r, .l, .l], .b 0], [(0, .ptr 0 0), (2, .w), (6, .w), (25, .own 1 (.int .u8)), (26, .w), (27, .w)], none, [], false⟩, ⟨142, [.g [.l] [1], .c [.r]], [(0, .ptr 2 0)], none, [], false⟩, f2, f3, f4, ⟨130, [.g [.r, .l] [1], .c [.r, .r]], [(2, .ptr 3 0), (3, .ptr 4 0), (4, .ptr 5 0)], none, [], false⟩, f5], [(0, o6), (1, .c [.row (.int .u8)]), (2, .c [.ptr 0 0]), (3, .c [.ptr 0 0]), (4, o7), (5, o7)], 6⟩
def x0 : List Spec := [⟨[⟨143, [.c p1, .p [.r, .l, .l], .b 0], [(0, .ptr 0 0), (6, .w)], none, [], false⟩, f8, f2, f3, f4, f9, f5], [(0, o6), (1, .c [.ptr 0 0]), (2, .c [.ptr 0 0]), (3, o7), (4, o7)], 5⟩]
abbrev A0 : Type := Int × Int × Int × Int × Bool × LI × Int × Int × Int × LI × LI × LL × LI × LI × LI × Unit
abbrev B0 : Type := (Int × Bool × LI × Int × Int × Int × LI × LI × LL × LI × LI × Unit)
def b0 (m_ : Mode) (self : A0 → Option B0) : A0 → Option B0 := fun v_ => match v_ with
| (i, t, t1, t2, m, m1, m2, m3, m4, m5, m6, m7, m8, m9, m10, ()) =>
 bif decide (t2 < t1) then
  bif inB t2 (m8.length : Int) then
  (aes_Times.run m_ ((IntKind.u8.wrap i), (rd 0 m8 t2), ())).bind fun r =>
  bif inB (rd 0 m8 t2) 16 then
  bif inB i 256 then
  self (i, t, t1, (IntKind.i64.wrap (t2 + 1)), m, m1, m2, m3, m4, m5, m6, (m7.set ((rd 0 m8 t2).toNat) ((rd (List.replicate 256 (0 : Int) : List Int) m7 (rd 0 m8 t2)).set i.toNat r)), m8, m9, m10, ()) else none else none else none
 else
  some (t, m, m1, m2, m3, m4, m5, m6, m7, m9, m10, ())
theorem k0 (m_ : Mode) : KS P (O m_) inl e0 x0 [] (b0 m_) := by
  intro self v_; kernel_rfl
def l0 (m_ : Mode) : A0 → Option B0 := loop m_ (b0 m_)
theorem q0 (v) : l0 .lim v = b0 .lim (l0 .lim) v := KS.q (k0 .lim) v
def g0 (m_ : Mode) : Seg := ⟨e0, x0, l0 m_⟩
theorem s0 (m_ : Mode) (S0 w0 cs0) : SegGood P S0 w0 cs0 128 (g0 m_) := seg_ok m_ (Ok m_) (an) (by rfl) (by rfl) (k0 m_)
def e1 : Spec := ⟨[⟨143, [.c [.r, .l, .l], .p [.r, .l, .l], .b 0], [(0, .ptr 0 0), (6, .w)], none, [], false⟩, f8, f2, f3, f4, f9, f5], [(0, o6), (1, .c [.ptr 0 0]), (2, .c [.ptr 0 0]), (3, o7), (4, o7)], 5⟩
def x1 : List Spec := [⟨[⟨143, [], [], none, [], false⟩, ⟨142, [.g [.l] [1], .c [.r]], [(0, .ptr 0 0)], none, [], false⟩, ⟨148, [.g [.r, .r, .r, .l, .r] [1]], [], none, [.call 157 [.ptr 1 1, .b], .call 156 [.ptr 1 2]], false⟩, f3, f4, f9, f5], [(0, .c [.ptr 1 0]), (1, o6), (2, .c [.ptr 1 0]), (3, o7), (4, o7)], 5⟩]
abbrev A1 : Type := Int × Bool × LI × Int × Int × Int × LI × LI × LL × LI × LI × Unit
abbrev B1 : Type := (Bool × LI × Int × Int × Int × LI × LI × LL × LI × LI × Unit)
def b1 (m_ : Mode) (self : A1 → Option B1) : A1 → Option B1 := fun v_ => match v_ with
| (t, m, m1, m2, m3, m4, m5, m6, m7, m8, m9, ()) =>
 bif decide (t < 256) then
  (aes_Sub.run m_ ((IntKind.u8.wrap t), ())).bind fun r =>
  bif inB t 256 then
  bif inB r 256 then
  bif smallI (([1, 2, 3, 9, 11, 13, 14] : List Int).length : Int) then
  (aes_Encrypt.l0 m_ (t, t, (([1, 2, 3, 9, 11, 13, 14] : List Int).length : Int), 0, m, m1, m2, m3, m4, (m5.set t.toNat r), (m6.set r.toNat (IntKind.u8.wrap t)), m7, ([1, 2, 3, 9, 11, 13, 14] : List Int), m8, m9, ())).bind fun (t1, m10, m11, m12, m13, m14, m15, m16, m17, m18, m19, ()) =>
  self ((IntKind.i64.wrap (t1 + 1)), m10, m11, m12, m13, m14, m15, m16, m17, m18, m19, ()) else none else none else none
 else
  some (m, m1, m2, m3, m4, m5, m6, m7, m8, m9, ())
theorem k1 (m_ : Mode) : KS P (O m_) inl e1 x1 [g0 m_] (b1 m_) := by
  intro self v_; kernel_rfl
def l1 (m_ : Mode) : A1 → Option B1 := loop m_ (b1 m_)
theorem q1 (v) : l1 .lim v = b1 .lim (l1 .lim) v := KS.q (k1 .lim) v
def g1 (m_ : Mode) : Seg := ⟨e1, x1, l1 m_⟩
theorem s1 (m_ : Mode) (S0 w0 cs0) : SegGood P S0 w0 cs0 128 (g1 m_) := seg_ok m_ (Ok m_) (ac (s0 m_ S0 w0 cs0) (an)) (by rfl) (by rfl) (k1 m_)
def f10 : FSpec := ⟨142, [.g [.r] [1]], [], none, [], false⟩
def p11 : Path := [.r, .r, .r, .l, .r, .l]
def o12 : OSpec := .c [.row (.arr 4 (.int .u8))]
def f13 : FSpec := ⟨148, [.g [.r, .r, .r, .l, .r] [1]], [], none, [.call 157 [.ptr 4 1, .b], .call 156 [.ptr 4 2]], false⟩
def f14 : FSpec := ⟨130, [.g [.r, .l] [1], .c [.r, .r]], [(2, .ptr 5 0), (3, .ptr 6 0), (4, .ptr 7 0)], none, [], false⟩
def o15 : OSpec := .c [.own 8 (.arr 4 (.int .u8))]
def e2 : Spec := ⟨[⟨160, [.c [.r, .l, .l], .p [.r, .l, .l], .b 0], [(0, .fn (.yield 0) []), (1, .ptr 1 0), (2, .ptr 2 0), (4, .w)], none, [], false⟩, ⟨144, [.inRange 0, .b 0, .c [.r, .r, .r, .r]], [(1, .ptr 3 0), (2, .w), (3, .ptr 4 0)], none, [.mark 5], false⟩, f10, ⟨148, [.g [.r, .r, .r, .l, .r] [1]], [], none, [.call 157 [.ptr 6 1, .b], .call 156 [.ptr 6 2]], false⟩, f3, f4, ⟨130, [.g [.r, .l] [1], .c [.r, .r]], [(2, .ptr 7 0), (3, .ptr 8 0), (4, .ptr 9 0)], none, [], false⟩, f5], [(0, .loop .ready none 144 [(3, .ptr 4 0)] [22] p11 5), (1, .c [.own 10 (.int .u8)]), (2, .c [.w]), (3, .c [.ptr 6 0]), (4, .c [.own 5000 (.arr 4 (.int .u8))]), (5, .deferred false), (6, o6), (7, .c [.ptr 6 0]), (8, o7), (9, o7), (10, .d [.row (.int .u8)]), (5000, o12)], 5001⟩
def x2 : List Spec := [⟨[⟨160, [], [], none, [], false⟩, ⟨144, [.inRange 2, .b 0, .c [.r, .r, .r, .r]], [(1, .ptr 0 0), (2, .w), (3, .ptr 1 0)], none, [.mark 3], false⟩, f10, f13, f3, f4, f14, f5], [(0, .c [.ptr 4 0]), (1, o15), (2, .loop .ready none 144 [(3, .ptr 1 0)] [22] p11 3), (3, .deferred false), (4, o6), (5, .c [.ptr 4 0]), (6, o7), (7, o7), (8, o12)], 9⟩]
abbrev A2 : Type := Int × Int × Bool × Int × LI × Int × Int × Int × LI × LI × LL × LI × LI × LI × LL × Unit
abbrev B2 : Type := (Int × Bool × LI × Int × Int × Int × LI × LI × LL × LI × LI × LL × Unit)
def b2 (m_ : Mode) (self : A2 → Option B2) : A2 → Option B2 := fun v_ => match v_ with
| (i, nk, m, m1, m2, m3, m4, m5, m6, m7, m8, m9, m10, m11, m12, ()) =>
 bif smallI (m11.length : Int) then
 bif decide (i < (m11.length : Int)) then
  bif cutB i (m11.length : Int) (m11.length : Int) then
  bif smallI ((m11.length : Int) - i) then
  bif ((cutB i (IntKind.i64.wrap (i + (mn m1 ((m11.length : Int) - i)))) (IntKind.i64.wrap (i + (mn m1 ((m11.length : Int) - i))))) && (decide ((IntKind.i64.wrap (i + (mn m1 ((m11.length : Int) - i)))) ≤ (m11.length : Int)))) then
  bif (Nat.ble 1 4 && Nat.ble 4 (cut m11 i (IntKind.i64.wrap (i + (mn m1 ((m11.length : Int) - i))))).length) then
  bif decide (m12.length + ([((cut m11 i (IntKind.i64.wrap (i + (mn m1 ((m11.length : Int) - i))))).take 4)] : List (List Int)).length < 17592186044416) then
  self ((IntKind.i64.wrap (i + m1)), nk, m, m1, m2, m3, m4, m5, m6, m7, m8, m9, m10, m11, (m12 ++ ([((cut m11 i (IntKind.i64.wrap (i + (mn m1 ((m11.length : Int) - i))))).take 4)] : List (List Int))), ()) else none else none else none else none else none
 else
  some (nk, m, m2, m3, m4, m5, m6, m7, m8, m9, m10, m12, ()) else none
theorem k2 (m_ : Mode) : KS P (O m_) inl e2 x2 [] (b2 m_) := by
  intro self v_; kernel_rfl
def l2 (m_ : Mode) : A2 → Option B2 := loop m_ (b2 m_)
theorem q2 (v) : l2 .lim v = b2 .lim (l2 .lim) v := KS.q (k2 .lim) v
def g2 (m_ : Mode) : Seg := ⟨e2, x2, l2 m_⟩
theorem s2 (m_ : Mode) (S0 w0 cs0) : SegGood P S0 w0 cs0 128 (g2 m_) := seg_ok m_ (Ok m_) (an) (by rfl) (by rfl) (k2 m_)
def p16 : Path := [.r, .r, .r, .r, .r, .l, .r, .l, .l, .r, .l, .l, .r, .r, .l, .r, .l, .l]
def p17 : Path := [.r, .r, .r, .r, .r, .l, .r, .l, .l, .r, .l, .l, .r, .r, .r]
def p18 : Path := [.r, .r, .r, .r, .r, .l, .r, .l, .l, .r, .r]
def p19 : Path := [.r, .r, .r, .r, .r, .l, .r, .l, .l]
def p20 : Path := [.r, .r, .r, .r, .r, .r]
def o21 : OSpec := .c [.dat (.arr 4 (.int .u8))]
def e3 : Spec := ⟨[⟨144, [.c p16, .p p16, .b 4, .c p17, .b 3, .c p18, .p p19, .b 2, .c p20], [(1, .ptr 0 0), (2, .w), (3, .ptr 1 0), (5, .y), (6, .w), (7, .ptr 2 0), (115, .w)], none, [.mark 3], false⟩, f10, f13, f3, f4, f14, f5], [(0, .c [.ptr 4 0]), (1, o15), (2, o21), (3, .deferred false), (4, o6), (5, .c [.ptr 4 0]), (6, o7), (7, o7), (8, o12)], 9⟩
def x3 : List Spec := [⟨[⟨144, [.c p17, .b 3, .c p18, .p p19, .b 2, .c p20], [(1, .ptr 0 0), (2, .w), (3, .ptr 1 0), (5, .y), (6, .w), (7, .ptr 2 0)], none, [.mark 3], false⟩, f10, f13, f3, f4, f14, f5], [(0, .c [.ptr 4 0]), (1, o15), (2, o21), (3, .deferred false), (4, o6), (5, .c [.ptr 4 0]), (6, o7), (7, o7), (8, o12)], 9⟩]
abbrev A3 : Type := Int × Int × Int × Int × Bool × LI × LI × Int × Int × Int × LI × LI × LL × LI × LI × LL × Unit
abbrev B3 : Type := (Int × Int × Int × Bool × LI × LI × Int × Int × Int × LI × LI × LL × LI × LI × LL × Unit)
def b3 (m_ : Mode) (self : A3 → Option B3) : A3 → Option B3 := fun v_ => match v_ with
| (nk, x, i, t, m, m1, m2, m3, m4, m5, m6, m7, m8, m9, m10, m11, ()) =>
 bif decide (t < 4) then
  bif inB t 4 then
  bif inB (IntKind.i64.wrap (i - nk)) (m11.length : Int) then
  bif inB t 4 then
  bif inB t 4 then
  self (nk, x, i, (IntKind.i64.wrap (t + 1)), m, (m1.set t.toNat (ixor .u8 (rd 0 m1 t) (rd 0 (rd (List.replicate 4 (0 : Int) : List Int) m11 (IntKind.i64.wrap (i - nk))) t))), m2, m3, m4, m5, m6, m7, m8, m9, m10, m11, ()) else none else none else none else none
 else
  some (nk, x, i, m, m1, m2, m3, m4, m5, m6, m7, m8, m9, m10, m11, ())
theorem k3 (m_ : Mode) : KS P (O m_) inl e3 x3 [] (b3 m_) := by
  intro self v_; kernel_rfl
def l3 (m_ : Mode) : A3 → Option B3 := loop m_ (b3 m_)
theorem q3 (v) : l3 .lim v = b3 .lim (l3 .lim) v := KS.q (k3 .lim) v
def g3 (m_ : Mode) : Seg := ⟨e3, x3, l3 m_⟩
theorem s3 (m_ : Mode) (S0 w0 cs0) : SegGood P S0 w0 cs0 128 (g3 m_) := seg_ok m_ (Ok m_) (an) (by rfl) (by rfl) (k3 m_)
def f22 : FSpec := ⟨148, [.g [.r, .r, .r, .l, .r] [1]], [], none, [.call 157 [.ptr 3 1, .b], .call 156 [.ptr 3 2]], false⟩
def f23 : FSpec := ⟨130, [.g [.r, .l] [1], .c [.r, .r]], [(2, .ptr 4 0), (3, .ptr 5 0), (4, .ptr 6 0)], none, [], false⟩
def o24 : OSpec := .c [.own 7 (.arr 4 (.int .u8))]
def e4 : Spec := ⟨[⟨144, [.c p19, .p p19, .b 2, .c p20], [(1, .ptr 0 0), (2, .w), (3, .ptr 1 0), (5, .y), (6, .w)], none, [.mark 2], false⟩, f10, f22, f3, f4, f23, f5], [(0, .c [.ptr 3 0]), (1, o24), (2, .deferred false), (3, o6), (4, .c [.ptr 3 0]), (5, o7), (6, o7), (7, o12)], 8⟩
def x4 : List Spec := [⟨[⟨144, [.c p20], [(1, .ptr 0 0), (3, .ptr 1 0)], none, [.mark 2], false⟩, f10, f22, f3, f4, f23, f5], [(0, .c [.ptr 3 0]), (1, o24), (2, .deferred false), (3, o6), (4, .c [.ptr 3 0]), (5, o7), (6, o7), (7, o12)], 8⟩]
abbrev A4 : Type := Int × Int × Int × Bool × LI × Int × Int × Int × LI × LI × LL × LI × LI × LL × Unit
abbrev B4 : Type := (Bool × LI × Int × Int × Int × LI × LI × LL × LI × LI × LL × Unit)
def b4 (m_ : Mode) (self : A4 → Option B4) : A4 → Option B4 := fun v_ => match v_ with
| (nk, x, i, m, m1, m2, m3, m4, m5, m6, m7, m8, m9, m10, ()) =>
 bif decide (i < (IntKind.i64.wrap (4 * (IntKind.i64.wrap (nk + 7))))) then
  bif inB (IntKind.i64.wrap (i - 1)) (m10.length : Int) then
  bif !(decide (nk = 0)) then
  bif decide ((i.tmod nk) = 0) then
   bif inB (rd 0 (rd (List.replicate 4 (0 : Int) : List Int) m10 (IntKind.i64.wrap (i - 1))) 1) 256 then
   bif inB (rd 0 (rd (List.replicate 4 (0 : Int) : List Int) m10 (IntKind.i64.wrap (i - 1))) 2) 256 then
   bif inB (rd 0 (rd (List.replicate 4 (0 : Int) : List Int) m10 (IntKind.i64.wrap (i - 1))) 3) 256 then
   bif inB (rd 0 (rd (List.replicate 4 (0 : Int) : List Int) m10 (IntKind.i64.wrap (i - 1))) 0) 256 then
   (aes_Times.run m_ (x, 2, ())).bind fun r =>
   (aes_Encrypt.l3 m_ (nk, r, i, 0, m, (((((List.replicate 4 (0 : Int) : List Int).set 0 (ixor .u8 (rd 0 m5 (rd 0 (rd (List.replicate 4 (0 : Int) : List Int) m10 (IntKind.i64.wrap (i - 1))) 1)) x)).set 1 (rd 0 m5 (rd 0 (rd (List.replicate 4 (0 : Int) : List Int) m10 (IntKind.i64.wrap (i - 1))) 2))).set 2 (rd 0 m5 (rd 0 (rd (List.replicate 4 (0 : Int) : List Int) m10 (IntKind.i64.wrap (i - 1))) 3))).set 3 (rd 0 m5 (rd 0 (rd (List.replicate 4 (0 : Int) : List Int) m10 (IntKind.i64.wrap (i - 1))) 0))), m1, m2, m3, m4, m5, m6, m7, m8, m9, m10, ())).bind fun (nk1, x1, i1, m11, m12, m13, m14, m15, m16, m17, m18, m19, m20, m21, m22, ()) =>
   bif decide (m22.length + ([m12] : List (List Int)).length < 17592186044416) then
   self (nk1, x1, (IntKind.i64.wrap (i1 + 1)), m11, m13, m14, m15, m16, m17, m18, m19, m20, m21, (m22 ++ ([m12] : List (List Int))), ()) else none else none else none else none else none
  else
   bif ((!(decide (nk = 8))) || true) then
   bif ((decide (nk = 8)) && (decide ((i.tmod 8) = 4))) then
    bif inB (rd 0 (rd (List.replicate 4 (0 : Int) : List Int) m10 (IntKind.i64.wrap (i - 1))) 0) 256 then
    bif inB (rd 0 (rd (List.replicate 4 (0 : Int) : List Int) m10 (IntKind.i64.wrap (i - 1))) 1) 256 then
    bif inB (rd 0 (rd (List.replicate 4 (0 : Int) : List Int) m10 (IntKind.i64.wrap (i - 1))) 2) 256 then
    bif inB (rd 0 (rd (List.replicate 4 (0 : Int) : List Int) m10 (IntKind.i64.wrap (i - 1))) 3) 256 then
    (aes_Encrypt.l3 m_ (nk, x, i, 0, m, (((((List.replicate 4 (0 : Int) : List Int).set 0 (rd 0 m5 (rd 0 (rd (List.replicate 4 (0 : Int) : List Int) m10 (IntKind.i64.wrap (i - 1))) 0))).set 1 (rd 0 m5 (rd 0 (rd (List.replicate 4 (0 : Int) : List Int) m10 (IntKind.i64.wrap (i - 1))) 1))).set 2 (rd 0 m5 (rd 0 (rd (List.replicate 4 (0 : Int) : List Int) m10 (IntKind.i64.wrap (i - 1))) 2))).set 3 (rd 0 m5 (rd 0 (rd (List.replicate 4 (0 : Int) : List Int) m10 (IntKind.i64.wrap (i - 1))) 3))), m1, m2, m3, m4, m5, m6, m7, m8, m9, m10, ())).bind fun (nk2, x2, i2, m23, m24, m25, m26, m27, m28, m29, m30, m31, m32, m33, m34, ()) =>
    bif decide (m34.length + ([m24] : List (List Int)).length < 17592186044416) then
    self (nk2, x2, (IntKind.i64.wrap (i2 + 1)), m23, m25, m26, m27, m28, m29, m30, m31, m32, m33, (m34 ++ ([m24] : List (List Int))), ()) else none else none else none else none else none
   else
    (aes_Encrypt.l3 m_ (nk, x, i, 0, m, (rd (List.replicate 4 (0 : Int) : List Int) m10 (IntKind.i64.wrap (i - 1))), m1, m2, m3, m4, m5, m6, m7, m8, m9, m10, ())).bind fun (nk3, x3, i3, m35, m36, m37, m38, m39, m40, m41, m42, m43, m44, m45, m46, ()) =>
    bif decide (m46.length + ([m36] : List (List Int)).length < 17592186044416) then
    self (nk3, x3, (IntKind.i64.wrap (i3 + 1)), m35, m37, m38, m39, m40, m41, m42, m43, m44, m45, (m46 ++ ([m36] : List (List Int))), ()) else none else none else none else none
 else
  some (m, m1, m2, m3, m4, m5, m6, m7, m8, m9, m10, ())
theorem k4 (m_ : Mode) : KS P (O m_) inl e4 x4 [g3 m_] (b4 m_) := by
  intro self v_; kernel_rfl
def l4 (m_ : Mode) : A4 → Option B4 := loop m_ (b4 m_)
theorem q4 (v) : l4 .lim v = b4 .lim (l4 .lim) v := KS.q (k4 .lim) v
def g4 (m_ : Mode) : Seg := ⟨e4, x4, l4 m_⟩
theorem s4 (m_ : Mode) (S0 w0 cs0) : SegGood P S0 w0 cs0 128 (g4 m_) := seg_ok m_ (Ok m_) (ac (s3 m_ S0 w0 cs0) (an)) (by rfl) (by rfl) (k4 m_)
def p25 : Path := [.r, .r, .r, .r, .r, .r, .r, .l]
def o26 : OSpec := .c [.row (.arr 16 (.int .u8))]
def e5 : Spec := ⟨[⟨161, [.c [.r, .l, .l], .p [.r, .l, .l], .b 0], [(0, .fn (.yield 0) []), (1, .ptr 1 0), (2, .ptr 2 0), (4, .w)], none, [], false⟩, ⟨144, [.inRange 0, .b 6], [], none, [.mark 3, .mark 4], false⟩, f10, ⟨148, [.g [.r, .r, .r, .l, .r] [1]], [], none, [.call 157 [.ptr 5 1, .b], .call 156 [.ptr 5 2]], false⟩, f3, f4, ⟨130, [.g [.r, .l] [1], .c [.r, .r]], [(2, .ptr 6 0), (3, .ptr 7 0), (4, .ptr 8 0)], none, [], false⟩, f5], [(0, .loop .ready none 144 [(1, .ptr 9 0)] [138] p25 3), (1, .c [.own 10 (.arr 4 (.int .u8))]), (2, .c [.w]), (3, .deferred false), (4, .deferred false), (5, .c [.s, .dat (.int .u32), .dat (.int .i32), .dat (.int .u32), .dat (.arr 256 (.int .u8)), .dat (.arr 256 (.int .u8)), .dat (.arr 16 (.arr 256 (.int .u8))), .own 5001 (.arr 16 (.int .u8))]), (6, .c [.ptr 5 0]), (7, o7), (8, o7), (9, .c [.ptr 5 0]), (10, .d [.row (.arr 4 (.int .u8))]), (5001, o26)], 5002⟩
def x5 : List Spec := [⟨[⟨161, [], [], none, [], false⟩, ⟨144, [.inRange 0, .b 6], [], none, [.mark 1, .mark 2], false⟩, f10, f22, f3, f4, f23, f5], [(0, .loop .ready none 144 [(1, .ptr 7 0)] [138] p25 1), (1, .deferred false), (2, .deferred false), (3, .c [.s, .dat (.int .u32), .dat (.int .i32), .dat (.int .u32), .dat (.arr 256 (.int .u8)), .dat (.arr 256 (.int .u8)), .dat (.arr 16 (.arr 256 (.int .u8))), .own 8 (.arr 16 (.int .u8))]), (4, .c [.ptr 3 0]), (5, o7), (6, o7), (7, .c [.ptr 3 0]), (8, o26)], 9⟩]
abbrev A5 : Type := Int × Bool × Int × LI × Int × Int × Int × LI × LI × LL × LI × LI × LL × LL × Unit
abbrev B5 : Type := (Bool × LI × Int × Int × Int × LI × LI × LL × LI × LI × LL × Unit)
def b5 (m_ : Mode) (self : A5 → Option B5) : A5 → Option B5 := fun v_ => match v_ with
| (i, m, m1, m2, m3, m4, m5, m6, m7, m8, m9, m10, m11, m12, ()) =>
 bif smallI (m11.length : Int) then
 bif decide (i < (m11.length : Int)) then
  bif cutB i (m11.length : Int) (m11.length : Int) then
  bif smallI ((m11.length : Int) - i) then
  bif ((cutB i (IntKind.i64.wrap (i + (mn m1 ((m11.length : Int) - i)))) (IntKind.i64.wrap (i + (mn m1 ((m11.length : Int) - i))))) && (decide ((IntKind.i64.wrap (i + (mn m1 ((m11.length : Int) - i)))) ≤ (m11.length : Int)))) then
  bif inB 0 ((cut m11 i (IntKind.i64.wrap (i + (mn m1 ((m11.length : Int) - i))))).length : Int) then
  bif inB 1 ((cut m11 i (IntKind.i64.wrap (i + (mn m1 ((m11.length : Int) - i))))).length : Int) then
  bif inB 2 ((cut m11 i (IntKind.i64.wrap (i + (mn m1 ((m11.length : Int) - i))))).length : Int) then
  bif inB 3 ((cut m11 i (IntKind.i64.wrap (i + (mn m1 ((m11.length : Int) - i))))).length : Int) then
  (slices_Concat_byte_byte.run m_ (([(cut (rd (List.replicate 4 (0 : Int) : List Int) (cut m11 i (IntKind.i64.wrap (i + (mn m1 ((m11.length : Int) - i))))) 0) 0 4), (cut (rd (List.replicate 4 (0 : Int) : List Int) (cut m11 i (IntKind.i64.wrap (i + (mn m1 ((m11.length : Int) - i))))) 1) 0 4), (cut (rd (List.replicate 4 (0 : Int) : List Int) (cut m11 i (IntKind.i64.wrap (i + (mn m1 ((m11.length : Int) - i))))) 2) 0 4), (cut (rd (List.replicate 4 (0 : Int) : List Int) (cut m11 i (IntKind.i64.wrap (i + (mn m1 ((m11.length : Int) - i))))) 3) 0 4)] : List (List Int)), ())).bind fun r =>
  bif (Nat.ble 1 16 && Nat.ble 16 r.length) then
  bif decide (m12.length + ([(r.take 16)] : List (List Int)).length < 4398046511104) then
  self ((IntKind.i64.wrap (i + m1)), m, m1, m2, m3, m4, m5, m6, m7, m8, m9, m10, m11, (m12 ++ ([(r.take 16)] : List (List Int))), ()) else none else none else none else none else none else none else none else none else none
 else
  some (m, m2, m3, m4, m5, m6, m7, m8, m9, m10, m12, ()) else none
theorem k5 (m_ : Mode) : KS P (O m_) inl e5 x5 [] (b5 m_) := by
  intro self v_; kernel_rfl
def l5 (m_ : Mode) : A5 → Option B5 := loop m_ (b5 m_)
theorem q5 (v) : l5 .lim v = b5 .lim (l5 .lim) v := KS.q (k5 .lim) v
def g5 (m_ : Mode) : Seg := ⟨e5, x5, l5 m_⟩
theorem s5 (m_ : Mode) (S0 w0 cs0) : SegGood P S0 w0 cs0 128 (g5 m_) := seg_ok m_ (Ok m_) (an) (by rfl) (by rfl) (k5 m_)
def o27 : OSpec := .c [.s, .dat (.int .u32), .dat (.int .i32), .dat (.int .u32), .dat (.arr 256 (.int .u8)), .dat (.arr 256 (.int .u8)), .dat (.arr 16 (.arr 256 (.int .u8))), .own 4 (.arr 16 (.int .u8))]
def e6 : Spec := ⟨[⟨133, [.c []], [(0, .ptr 0 0)], none, [], false⟩, ⟨130, [.g [.r, .l] [1], .c [.r, .r]], [(2, .ptr 1 0), (3, .ptr 2 0), (4, .ptr 3 0)], none, [], false⟩, f5], [(0, o6), (1, .c [.ptr 0 0]), (2, o7), (3, o7)], 4⟩
def x6 : List Spec := [⟨[⟨133, [], [], none, [], false⟩, ⟨130, [.g [.r, .l] [1], .c [.r, .r]], [(2, .ptr 0 0), (3, .ptr 1 0), (4, .ptr 2 0)], none, [], false⟩, f5], [(0, .c [.ptr 3 0]), (1, o7), (2, o7), (3, o27), (4, o26)], 5⟩]
abbrev A6 : Type := LI × Int × Int × Int × LI × LI × LL × LI × LI × Unit
abbrev B6 : Type := (LI × LI × LI × Int × Int × Int × LI × LI × LL × LL × Unit)
def b6 (m_ : Mode) (self : A6 → Option B6) : A6 → Option B6 := fun v_ => match v_ with
| (m, m1, m2, m3, m4, m5, m6, m7, m8, ()) =>
 bif !(!(decide (m1 = 0))) then
  bif decide (m2 = 0) then
  bif !(!(decide (m1 = 0))) then
   (aes_Encrypt.l1 m_ (0, true, m, m1, (bif decide (m2 = 0) then 1 else m2), m3, m4, m5, m6, m7, m8, ())).bind fun (m9, m10, m11, m12, m13, m14, m15, m16, m17, m18, ()) =>
   bif smallI (m10.length : Int) then
   (aes_Encrypt.l2 m_ (0, (IntKind.i64.wrap ((m10.length : Int).tdiv 4)), m9, 4, m10, m11, m12, m13, m14, m15, m16, m17, m18, m10, ([] : List (List Int)), ())).bind fun (nk, m19, m20, m21, m22, m23, m24, m25, m26, m27, m28, m29, ()) =>
   (aes_Encrypt.l4 m_ (nk, 1, nk, m19, m20, m21, m22, m23, m24, m25, m26, m27, m28, m29, ())).bind fun (m30, m31, m32, m33, m34, m35, m36, m37, m38, m39, m40, ()) =>
   (aes_Encrypt.l5 m_ (0, m30, 4, m31, m32, m33, m34, m35, m36, m37, m38, m39, m40, ([] : List (List Int)), ())).bind fun (m41, m42, m43, m44, m45, m46, m47, m48, m49, m50, m51, ()) =>
   (sync_atomic_b32.run m_ (m41, ())).bind fun r =>
   bif !(decide ((IntKind.i32.wrap (m44 + (-1))) = 0)) then
    none
   else
    some (m49, m50, m42, r, (IntKind.i32.wrap (m44 + (-1))), m45, m46, m47, m48, m51, ()) else none
  else
   bif !(decide ((IntKind.i32.wrap ((bif decide (m2 = 0) then 1 else m2) + (-1))) = 0)) then
    none
   else
    some (m7, m8, m, m1, (IntKind.i32.wrap ((bif decide (m2 = 0) then 1 else m2) + (-1))), m3, m4, m5, m6, ([] : List (List Int)), ()) else none
 else
  some (m7, m8, m, m1, m2, m3, m4, m5, m6, ([] : List (List Int)), ())
theorem k6 (m_ : Mode) : KS P (O m_) inl e6 x6 [g1 m_, g2 m_, g4 m_, g5 m_] (b6 m_) := by
  intro self v_; kernel_rfl
def l6 (m_ : Mode) : A6 → Option B6 := loop m_ (b6 m_)
theorem q6 (v) : l6 .lim v = b6 .lim (l6 .lim) v := KS.q (k6 .lim) v
def g6 (m_ : Mode) : Seg := ⟨e6, x6, l6 m_⟩
theorem s6 (m_ : Mode) (S0 w0 cs0) : SegGood P S0 w0 cs0 128 (g6 m_) := seg_ok m_ (Ok m_) (ac (s1 m_ S0 w0 cs0) (ac (s2 m_ S0 w0 cs0) (ac (s4 m_ S0 w0 cs0) (ac (s5 m_ S0 w0 cs0) (an))))) (by rfl) (by rfl) (k6 m_)
def f28 : FSpec := ⟨134, [.c [.r, .r, .l, .l], .p [.r, .r, .l, .l], .b 0], [(0, .ptr 0 0), (3, .ptr 1 0), (5, .w)], none, [], false⟩
def o29 : OSpec := .c [.s, .dat (.int .u32), .dat (.int .i32), .dat (.int .u32), .dat (.arr 256 (.int .u8)), .dat (.arr 256 (.int .u8)), .dat (.arr 16 (.arr 256 (.int .u8))), .own 5 (.arr 16 (.int .u8))]
def f30 : FSpec := ⟨134, [], [], none, [], false⟩
def e7 : Spec := ⟨[f28, ⟨130, [.g [.r, .r, .l] [6], .c [.r, .r, .r]], [(2, .ptr 2 0), (3, .ptr 0 0), (4, .ptr 3 0)], none, [], false⟩, f5], [(0, o7), (1, o7), (2, .c [.ptr 4 0]), (3, o7), (4, o29), (5, o26)], 6⟩
def x7 : List Spec := [⟨[f30, ⟨130, [.g [.r, .r, .l] [6], .c [.r, .r, .r]], [(2, .ptr 0 0), (3, .ptr 1 0), (4, .ptr 2 0)], none, [], false⟩, f5], [(0, .c [.ptr 3 0]), (1, o7), (2, o7), (3, o27), (4, o26)], 5⟩]
abbrev A7 : Type := Int × LI × LI × LI × LI × Int × Int × Int × LI × LI × LL × LL × Unit
abbrev B7 : Type := (LI × LI × LI × Int × Int × Int × LI × LI × LL × LL × Unit)
def b7 (m_ : Mode) (self : A7 → Option B7) : A7 → Option B7 := fun v_ => match v_ with
| (t, m, m1, m2, m3, m4, m5, m6, m7, m8, m9, m10, ()) =>
 bif decide (t < 16) then
  bif inB t 16 then
  bif inB t 16 then
  bif inB t 16 then
  self ((IntKind.i64.wrap (t + 1)), (m.set t.toNat (ixor .u8 (rd 0 m t) (rd 0 m1 t))), m1, m2, m3, m4, m5, m6, m7, m8, m9, m10, ()) else none else none else none
 else
  some (m, m2, m3, m4, m5, m6, m7, m8, m9, m10, ())
theorem k7 (m_ : Mode) : KS P (O m_) inl e7 x7 [] (b7 m_) := by
  intro self v_; kernel_rfl
def l7 (m_ : Mode) : A7 → Option B7 := loop m_ (b7 m_)
theorem q7 (v) : l7 .lim v = b7 .lim (l7 .lim) v := KS.q (k7 .lim) v
def g7 (m_ : Mode) : Seg := ⟨e7, x7, l7 m_⟩
theorem s7 (m_ : Mode) (S0 w0 cs0) : SegGood P S0 w0 cs0 128 (g7 m_) := seg_ok m_ (Ok m_) (an) (by rfl) (by rfl) (k7 m_)
def p31 : Path := [.r, .r, .r, .l, .r, .l, .r, .l, .l]
def p32 : Path := [.r, .r, .r, .l, .r, .l, .r, .l, .r]
def p33 : Path := [.r, .l, .l, .r, .r, .l, .l, .r, .l]
def p34 : Path := [.r, .l, .l, .r, .r, .l, .l, .r, .r]
def f35 : FSpec := ⟨130, [.inRange 4, .b 0, .c [.r, .r, .r, .r]], [(3, .ptr 0 0), (4, .ptr 7 0)], none, [.mark 8], false⟩
def o36 : OSpec := .c [.s, .dat (.int .u32), .dat (.int .i32), .dat (.int .u32), .dat (.arr 256 (.int .u8)), .dat (.arr 256 (.int .u8)), .dat (.arr 16 (.arr 256 (.int .u8))), .own 6 (.arr 16 (.int .u8))]
def f37 : FSpec := ⟨130, [.inRange 3, .b 0, .c [.r, .r, .r, .r]], [(3, .ptr 1 0), (4, .ptr 6 0)], none, [.mark 7], false⟩
def e8 : Spec := ⟨[⟨136, [.c [.r, .l, .l], .p [.r, .l, .l], .b 0], [(0, .ptr 0 0), (1, .ptr 1 4), (6, .ptr 0 0), (7, .w)], none, [], false⟩, ⟨130, [.g p31 [3], .c p32, .b 1], [(2, .ptr 2 0), (3, .ptr 0 0), (5, .ptr 3 0), (6, .b)], some 4, [], false⟩, ⟨145, [.g p33 [10,11], .c p34, .b 1, .c p1, .p [.r, .l, .l], .b 0], [(0, .fn (.yield 4) []), (1, .ptr 5 0), (9, .slc 6 0 none (.arr 16 (.int .u8))), (10, .w), (11, .w)], none, [], false⟩, f35, f5], [(0, o7), (1, o36), (2, .c [.ptr 1 0]), (3, o7), (4, .loop .busy none 130 [(2, .ptr 2 0), (3, .ptr 0 0)] [18, 19] p11 8), (5, .c [.ptr 1 0]), (6, o26), (7, o7), (8, .deferred false)], 9⟩
def x8 : List Spec := [⟨[⟨136, [], [], none, [], false⟩, ⟨130, [.g p31 [3], .c p32, .b 1], [(2, .ptr 0 0), (3, .ptr 1 0), (5, .ptr 2 0), (6, .b)], some 3, [], false⟩, ⟨145, [.g p33 [10,11], .c p34, .b 1, .c p1, .p [.r, .l, .l], .b 0], [(0, .fn (.yield 3) []), (1, .ptr 4 0), (9, .slc 5 0 none (.arr 16 (.int .u8))), (10, .w), (11, .w)], none, [], false⟩, f37, f5], [(0, .c [.ptr 8 0]), (1, o7), (2, o7), (3, .loop .busy none 130 [(2, .ptr 0 0), (3, .ptr 1 0)] [18, 19] p11 7), (4, .c [.ptr 8 0]), (5, o26), (6, o7), (7, .deferred false), (8, o29)], 9⟩]
abbrev A8 : Type := Int × Bool × Int × Int × Int × Int × LI × LI × Int × Int × Int × LI × LI × LL × LI × LL × LI × Unit
abbrev B8 : Type := (Bool × Int × Int × Int × Int × LI × LI × LL × LI × LI × Int × Int × Int × LI × LI × LL × Unit)
def b8 (m_ : Mode) (self : A8 → Option B8) : A8 → Option B8 := fun v_ => match v_ with
| (t, last, tp, tq, t1, t2, m, m1, m2, m3, m4, m5, m6, m7, m8, m9, m10, ()) =>
 bif decide (t < 16) then
  bif inB t 16 then
  bif inB (rd 0 m t) 256 then
  bif inB t 16 then
  self ((IntKind.i64.wrap (t + 1)), last, tp, tq, t1, t2, (m.set t.toNat (rd 0 m5 (rd 0 m t))), m1, m2, m3, m4, m5, m6, m7, m8, m9, m10, ()) else none else none else none
 else
  some (last, tp, tq, t1, t2, m, m8, m9, m10, m1, m2, m3, m4, m5, m6, m7, ())
theorem k8 (m_ : Mode) : KS P (O m_) inl e8 x8 [] (b8 m_) := by
  intro self v_; kernel_rfl
def l8 (m_ : Mode) : A8 → Option B8 := loop m_ (b8 m_)
theorem q8 (v) : l8 .lim v = b8 .lim (l8 .lim) v := KS.q (k8 .lim) v
def g8 (m_ : Mode) : Seg := ⟨e8, x8, l8 m_⟩
theorem s8 (m_ : Mode) (S0 w0 cs0) : SegGood P S0 w0 cs0 128 (g8 m_) := seg_ok m_ (Ok m_) (an) (by rfl) (by rfl) (k8 m_)
def p38 : Path := [.r, .r, .r, .l, .r, .l, .r, .l, .r, .l]
def p39 : Path := [.r, .r, .r, .l, .r, .l, .r, .l, .r, .r]
def e9 : Spec := ⟨[⟨137, [.c [.r, .r, .l, .l], .p [.r, .r, .l, .l], .b 0], [(0, .ptr 0 0), (1, .w), (4, .ptr 1 0), (9, .w)], none, [], false⟩, ⟨130, [.g p38 [0], .c p39, .b 1], [(2, .ptr 2 0), (3, .ptr 0 0), (5, .ptr 3 0), (6, .b)], some 4, [], false⟩, ⟨145, [.g p33 [10,11], .c p34, .b 1, .c p1, .p [.r, .l, .l], .b 0], [(0, .fn (.yield 4) []), (1, .ptr 5 0), (9, .slc 6 0 none (.arr 16 (.int .u8))), (10, .w), (11, .w)], none, [], false⟩, f35, f5], [(0, o7), (1, o7), (2, .c [.ptr 9 0]), (3, o7), (4, .loop .busy none 130 [(2, .ptr 2 0), (3, .ptr 0 0)] [18, 19] p11 8), (5, .c [.ptr 9 0]), (6, o26), (7, o7), (8, .deferred false), (9, o36)], 10⟩
def x9 : List Spec := [⟨[⟨137, [], [], none, [], false⟩, ⟨130, [.g p38 [0], .c p39, .b 1], [(2, .ptr 0 0), (3, .ptr 1 0), (5, .ptr 2 0), (6, .b)], some 3, [], false⟩, ⟨145, [.g p33 [10,11], .c p34, .b 1, .c p1, .p [.r, .l, .l], .b 0], [(0, .fn (.yield 3) []), (1, .ptr 4 0), (9, .slc 5 0 none (.arr 16 (.int .u8))), (10, .w), (11, .w)], none, [], false⟩, f37, f5], [(0, .c [.ptr 8 0]), (1, o7), (2, o7), (3, .loop .busy none 130 [(2, .ptr 0 0), (3, .ptr 1 0)] [18, 19] p11 7), (4, .c [.ptr 8 0]), (5, o26), (6, o7), (7, .deferred false), (8, o29)], 9⟩]
abbrev A9 : Type := Int × Int × Bool × Int × Int × Int × Int × LI × LI × LI × LL × LI × LI × Int × Int × Int × LI × LI × LL × Unit
abbrev B9 : Type := (Bool × Int × Int × Int × Int × LI × LI × LL × LI × LI × Int × Int × Int × LI × LI × LL × Unit)
def b9 (m_ : Mode) (self : A9 → Option B9) : A9 → Option B9 := fun v_ => match v_ with
| (byV, t, last, tp, tq, t1, t2, m, m1, m2, m3, m4, m5, m6, m7, m8, m9, m10, m11, ()) =>
 bif decide (t < 16) then
  bif inB ((IntKind.i64.wrap ((IntKind.i64.wrap (t + (IntKind.i64.wrap (byV * (t.tmod 4))))) + 64)).tmod 16) 16 then
  bif inB t 16 then
  self (byV, (IntKind.i64.wrap (t + 1)), last, tp, tq, t1, t2, (m.set t.toNat (rd 0 m1 ((IntKind.i64.wrap ((IntKind.i64.wrap (t + (IntKind.i64.wrap (byV * (t.tmod 4))))) + 64)).tmod 16))), m1, m2, m3, m4, m5, m6, m7, m8, m9, m10, m11, ()) else none else none
 else
  some (last, tp, tq, t1, t2, m, m2, m3, m4, m5, m6, m7, m8, m9, m10, m11, ())
theorem k9 (m_ : Mode) : KS P (O m_) inl e9 x9 [] (b9 m_) := by
  intro self v_; kernel_rfl
def l9 (m_ : Mode) : A9 → Option B9 := loop m_ (b9 m_)
theorem q9 (v) : l9 .lim v = b9 .lim (l9 .lim) v := KS.q (k9 .lim) v
def g9 (m_ : Mode) : Seg := ⟨e9, x9, l9 m_⟩
theorem s9 (m_ : Mode) (S0 w0 cs0) : SegGood P S0 w0 cs0 128 (g9 m_) := seg_ok m_ (Ok m_) (an) (by rfl) (by rfl) (k9 m_)
def p40 : Path := [.r, .r, .r, .l, .l, .r, .r, .l, .l, .r, .r, .r, .l, .l]
def p41 : Path := [.r, .r, .r, .l, .l, .r, .r, .r]
def p42 : Path := [.r, .r, .r, .l, .r, .l, .r, .l, .r, .r, .l, .r, .l]
def p43 : Path := [.r, .r, .r, .l, .r, .l, .r, .l, .r, .r, .r]
def f44 : FSpec := ⟨130, [.inRange 5, .b 0, .c [.r, .r, .r, .r]], [(3, .ptr 1 0), (4, .ptr 8 0)], none, [.mark 9], false⟩
def o45 : OSpec := .c [.s, .dat (.int .u32), .dat (.int .i32), .dat (.int .u32), .dat (.arr 256 (.int .u8)), .dat (.arr 256 (.int .u8)), .dat (.arr 16 (.arr 256 (.int .u8))), .own 7 (.arr 16 (.int .u8))]
def e10 : Spec := ⟨[⟨138, [.c p40, .p p40, .b 2, .b 1, .c p41, .p [.r, .r, .r, .l, .l], .b 0], [(0, .ptr 0 0), (1, .ptr 1 0), (5, .ptr 2 0), (6, .ptr 3 0), (7, .w), (13, .w), (20, .dat (.arr 4 (.int .u8))), (21, .w)], none, [], false⟩, ⟨130, [.g p42 [2], .c p43, .b 1], [(3, .ptr 1 0), (5, .ptr 4 0)], some 5, [], false⟩, ⟨145, [.g p33 [10,11], .c p34, .b 1, .c p1, .p [.r, .l, .l], .b 0], [(0, .fn (.yield 5) []), (1, .ptr 6 0), (9, .slc 7 0 none (.arr 16 (.int .u8))), (10, .w), (11, .w)], none, [], false⟩, f44, f5], [(0, o45), (1, o7), (2, o21), (3, o7), (4, o7), (5, .loop .busy none 130 [(2, .ptr 10 0), (3, .ptr 1 0)] [18, 19] p11 9), (6, .c [.ptr 0 0]), (7, o26), (8, o7), (9, .deferred false), (10, .c [.ptr 0 0])], 11⟩
def x10 : List Spec := [⟨[⟨138, [.c p41, .p [.r, .r, .r, .l, .l], .b 0], [(0, .ptr 0 0), (1, .ptr 1 0), (5, .ptr 2 0), (6, .ptr 3 0), (13, .w)], none, [], false⟩, ⟨130, [.g p42 [2], .c p43, .b 1], [(3, .ptr 1 0), (5, .ptr 4 0)], some 5, [], false⟩, ⟨145, [.g p33 [10,11], .c p34, .b 1, .c p1, .p [.r, .l, .l], .b 0], [(0, .fn (.yield 5) []), (1, .ptr 6 0), (9, .slc 7 0 none (.arr 16 (.int .u8))), (10, .w), (11, .w)], none, [], false⟩, f44, f5], [(0, o45), (1, o7), (2, o21), (3, o7), (4, o7), (5, .loop .busy none 130 [(2, .ptr 10 0), (3, .ptr 1 0)] [18, 19] p11 9), (6, .c [.ptr 0 0]), (7, o26), (8, o7), (9, .deferred false), (10, .c [.ptr 0 0])], 11⟩]
abbrev A10 : Type := Int × Int × LI × Int × Int × Int × Int × Int × LI × Int × Int × Int × LI × LI × LL × LI × LI × LI × LI × LL × LI × Unit
abbrev B10 : Type := (Int × Int × Int × Int × Int × LI × Int × Int × Int × LI × LI × LL × LI × LI × LI × LI × LL × LI × Unit)
def b10 (m_ : Mode) (self : A10 → Option B10) : A10 → Option B10 := fun v_ => match v_ with
| (i, t, t1, t2, tp, tq, t3, t4, m, m1, m2, m3, m4, m5, m6, m7, m8, m9, m10, m11, m12, ()) =>
 bif decide (t2 < 4) then
  bif inB t2 4 then
  bif inB i 16 then
  bif inB (IntKind.i64.wrap ((IntKind.i64.wrap ((IntKind.i64.wrap (i.tdiv 4)) * 4)) + ((IntKind.i64.wrap (i + t2)).tmod 4))) 16 then
  bif inB (rd 0 t1 t2) 16 then
  bif inB (rd 0 m9 (IntKind.i64.wrap ((IntKind.i64.wrap ((IntKind.i64.wrap (i.tdiv 4)) * 4)) + ((IntKind.i64.wrap (i + t2)).tmod 4)))) 256 then
  bif inB i 16 then
  self (i, t, t1, (IntKind.i64.wrap (t2 + 1)), tp, tq, t3, t4, m, m1, m2, m3, m4, m5, m6, (m7.set i.toNat (ixor .u8 (rd 0 m7 i) (rd 0 (rd (List.replicate 256 (0 : Int) : List Int) m6 (rd 0 t1 t2)) (rd 0 m9 (IntKind.i64.wrap ((IntKind.i64.wrap ((IntKind.i64.wrap (i.tdiv 4)) * 4)) + ((IntKind.i64.wrap (i + t2)).tmod 4))))))), m8, m9, m10, m11, m12, ()) else none else none else none else none else none else none
 else
  some (t, tp, tq, t3, t4, m, m1, m2, m3, m4, m5, m6, m7, m8, m9, m10, m11, m12, ())
theorem k10 (m_ : Mode) : KS P (O m_) inl e10 x10 [] (b10 m_) := by
  intro self v_; kernel_rfl
def l10 (m_ : Mode) : A10 → Option B10 := loop m_ (b10 m_)
theorem q10 (v) : l10 .lim v = b10 .lim (l10 .lim) v := KS.q (k10 .lim) v
def g10 (m_ : Mode) : Seg := ⟨e10, x10, l10 m_⟩
theorem s10 (m_ : Mode) (S0 w0 cs0) : SegGood P S0 w0 cs0 128 (g10 m_) := seg_ok m_ (Ok m_) (an) (by rfl) (by rfl) (k10 m_)
def f46 : FSpec := ⟨130, [.inRange 2, .b 0, .c [.r, .r, .r, .r]], [(3, .ptr 0 0), (4, .ptr 5 0)], none, [.mark 6], false⟩
def e11 : Spec := ⟨[⟨138, [.c [.r, .r, .r, .l, .l], .p [.r, .r, .r, .l, .l], .b 0], [(0, .ptr 0 0), (1, .ptr 1 0), (5, .ptr 2 0), (6, .ptr 3 0), (13, .w)], none, [], false⟩, ⟨130, [.g p42 [2], .c p43, .b 1], [(3, .ptr 1 0), (5, .ptr 4 0)], some 5, [], false⟩, ⟨145, [.g p33 [10,11], .c p34, .b 1, .c p1, .p [.r, .l, .l], .b 0], [(0, .fn (.yield 5) []), (1, .ptr 6 0), (9, .slc 7 0 none (.arr 16 (.int .u8))), (10, .w), (11, .w)], none, [], false⟩, f44, f5], [(0, o45), (1, o7), (2, o21), (3, o7), (4, o7), (5, .loop .busy none 130 [(2, .ptr 10 0), (3, .ptr 1 0)] [18, 19] p11 9), (6, .c [.ptr 0 0]), (7, o26), (8, o7), (9, .deferred false), (10, .c [.ptr 0 0])], 11⟩
def x11 : List Spec := [⟨[⟨138, [], [], none, [], false⟩, ⟨130, [.g p42 [2], .c p43, .b 1], [(3, .ptr 0 0), (5, .ptr 1 0)], some 2, [], false⟩, ⟨145, [.g p33 [10,11], .c p34, .b 1, .c p1, .p [.r, .l, .l], .b 0], [(0, .fn (.yield 2) []), (1, .ptr 3 0), (9, .slc 4 0 none (.arr 16 (.int .u8))), (10, .w), (11, .w)], none, [], false⟩, f46, f5], [(0, o7), (1, o7), (2, .loop .busy none 130 [(2, .ptr 7 0), (3, .ptr 0 0)] [18, 19] p11 6), (3, .c [.ptr 8 0]), (4, o26), (5, o7), (6, .deferred false), (7, .c [.ptr 8 0]), (8, o27)], 9⟩]
abbrev A11 : Type := Int × Int × Int × Int × Int × LI × Int × Int × Int × LI × LI × LL × LI × LI × LI × LI × LL × LI × Unit
abbrev B11 : Type := (Int × Int × Int × Int × LI × LI × LL × LI × LI × Int × Int × Int × LI × LI × LL × Unit)
def b11 (m_ : Mode) (self : A11 → Option B11) : A11 → Option B11 := fun v_ => match v_ with
| (t, tp, tq, t1, t2, m, m1, m2, m3, m4, m5, m6, m7, m8, m9, m10, m11, m12, ()) =>
 bif decide (t < 16) then
  bif inB t 16 then
  (aes_Encrypt.l10 m_ (t, t, m8, 0, tp, tq, t1, t2, m, m1, m2, m3, m4, m5, m6, (m7.set t.toNat 0), m8, m9, m10, m11, m12, ())).bind fun (t3, tp1, tq1, t4, t5, m13, m14, m15, m16, m17, m18, m19, m20, m21, m22, m23, m24, m25, ()) =>
  self ((IntKind.i64.wrap (t3 + 1)), tp1, tq1, t4, t5, m13, m14, m15, m16, m17, m18, m19, m20, m21, m22, m23, m24, m25, ()) else none
 else
  some (tp, tq, t1, t2, m7, m10, m11, m12, m, m1, m2, m3, m4, m5, m6, ())
theorem k11 (m_ : Mode) : KS P (O m_) inl e11 x11 [g10 m_] (b11 m_) := by
  intro self v_; kernel_rfl
def l11 (m_ : Mode) : A11 → Option B11 := loop m_ (b11 m_)
theorem q11 (v) : l11 .lim v = b11 .lim (l11 .lim) v := KS.q (k11 .lim) v
def g11 (m_ : Mode) : Seg := ⟨e11, x11, l11 m_⟩
theorem s11 (m_ : Mode) (S0 w0 cs0) : SegGood P S0 w0 cs0 128 (g11 m_) := seg_ok m_ (Ok m_) (ac (s10 m_ S0 w0 cs0) (an)) (by rfl) (by rfl) (k11 m_)
def f47 : FSpec := ⟨130, [.inRange 0, .b 0, .c [.r, .r, .r, .r]], [(3, .ptr 3 0), (4, .ptr 4 0)], none, [.mark 5], false⟩
def o48 : OSpec := .c [.s, .dat (.int .u32), .dat (.int .i32), .dat (.int .u32), .dat (.arr 256 (.int .u8)), .dat (.arr 256 (.int .u8)), .dat (.arr 16 (.arr 256 (.int .u8))), .own 2 (.arr 16 (.int .u8))]
def e12 : Spec := ⟨[f28, ⟨130, [.g p43 [1], .b 1], [], some 2, [], false⟩, ⟨145, [.g p33 [10,11], .c p34, .b 1, .c p1, .p [.r, .l, .l], .b 0], [(0, .fn (.yield 2) []), (1, .ptr 3 0), (9, .slc 4 0 none (.arr 16 (.int .u8))), (10, .w), (11, .w)], none, [], false⟩, f46, f5], [(0, o7), (1, o7), (2, .loop .busy none 130 [(2, .ptr 7 0), (3, .ptr 0 0)] [18, 19] p11 6), (3, .c [.ptr 8 0]), (4, o26), (5, o7), (6, .deferred false), (7, .c [.ptr 8 0]), (8, o27)], 9⟩
def x12 : List Spec := [⟨[f30, ⟨130, [.g p43 [1], .b 1], [], some 0, [], false⟩, ⟨145, [.g p33 [10,11], .c p34, .b 1, .c p1, .p [.r, .l, .l], .b 0], [(0, .fn (.yield 0) []), (1, .ptr 1 0), (9, .slc 2 0 none (.arr 16 (.int .u8))), (10, .w), (11, .w)], none, [], false⟩, f47, f5], [(0, .loop .busy none 130 [(2, .ptr 6 0), (3, .ptr 3 0)] [18, 19] p11 5), (1, .c [.ptr 7 0]), (2, o26), (3, o7), (4, o7), (5, .deferred false), (6, .c [.ptr 7 0]), (7, o48)], 8⟩]
abbrev A12 : Type := Int × Int × Int × Int × Int × LI × LI × LL × LI × LI × Int × Int × Int × LI × LI × LL × Unit
abbrev B12 : Type := (Int × Int × Int × Int × LL × LI × LI × LI × Int × Int × Int × LI × LI × LL × Unit)
def b12 (m_ : Mode) (self : A12 → Option B12) : A12 → Option B12 := fun v_ => match v_ with
| (t, tp, tq, t1, t2, m, m1, m2, m3, m4, m5, m6, m7, m8, m9, m10, ()) =>
 bif decide (t < 16) then
  bif inB t 16 then
  bif inB t 16 then
  bif inB t 16 then
  self ((IntKind.i64.wrap (t + 1)), tp, tq, t1, t2, (m.set t.toNat (ixor .u8 (rd 0 m t) (rd 0 m1 t))), m1, m2, m3, m4, m5, m6, m7, m8, m9, m10, ()) else none else none else none
 else
  some (tp, tq, t1, t2, m2, m, m3, m4, m5, m6, m7, m8, m9, m10, ())
theorem k12 (m_ : Mode) : KS P (O m_) inl e12 x12 [] (b12 m_) := by
  intro self v_; kernel_rfl
def l12 (m_ : Mode) : A12 → Option B12 := loop m_ (b12 m_)
theorem q12 (v) : l12 .lim v = b12 .lim (l12 .lim) v := KS.q (k12 .lim) v
def g12 (m_ : Mode) : Seg := ⟨e12, x12, l12 m_⟩
theorem s12 (m_ : Mode) (S0 w0 cs0) : SegGood P S0 w0 cs0 128 (g12 m_) := seg_ok m_ (Ok m_) (an) (by rfl) (by rfl) (k12 m_)
def e13 : Spec := ⟨[⟨145, [.c [.r, .l, .l], .p [.r, .l, .l], .b 0], [(0, .fn (.yield 0) []), (1, .ptr 1 0), (9, .slc 2 0 none (.arr 16 (.int .u8))), (10, .w), (11, .w)], none, [], false⟩, f47, f5], [(0, .loop .ready none 130 [(2, .ptr 6 0), (3, .ptr 3 0)] [18, 19] p11 5), (1, .c [.ptr 7 0]), (2, o26), (3, o7), (4, o7), (5, .deferred false), (6, .c [.ptr 7 0]), (7, o48)], 8⟩
def x13 : List Spec := [⟨[⟨145, [], [], none, [], false⟩, ⟨130, [.inRange 2, .b 0, .c [.r, .r, .r, .r]], [(3, .ptr 0 0), (4, .ptr 1 0)], none, [.mark 3], false⟩, f5], [(0, o7), (1, o7), (2, .loop .ready none 130 [(2, .ptr 4 0), (3, .ptr 0 0)] [18, 19] p11 3), (3, .deferred false), (4, .c [.ptr 5 0]), (5, o36), (6, o26)], 7⟩]
abbrev A13 : Type := Int × Int × Int × Int × LL × LI × LI × LI × Int × Int × Int × LI × LI × LL × Unit
abbrev B13 : Type := (LI × LI × LI × Int × Int × Int × LI × LI × LL × LL × Unit)
def b13 (m_ : Mode) (self : A13 → Option B13) : A13 → Option B13 := fun v_ => match v_ with
| (tp, tq, t, t1, m, m1, m2, m3, m4, m5, m6, m7, m8, m9, ()) =>
 bif decide (t1 < t) then
  bif inB t1 tq then
  bif smallI (m.length : Int) then
  (aes_Encrypt.l8 m_ (0, decide (t1 = (IntKind.i64.wrap ((m.length : Int) - 2))), tp, tq, t, t1, m1, m3, m4, m5, m6, m7, m8, m9, (rd (List.replicate 16 (0 : Int) : List Int) m (tp + t1)), m, m2, ())).bind fun (last, tp1, tq1, t2, t3, m10, m11, m12, m13, m14, m15, m16, m17, m18, m19, m20, ()) =>
  (aes_Encrypt.l9 m_ (4, 0, last, tp1, tq1, t2, t3, m10, m10, m11, m12, m13, m14, m15, m16, m17, m18, m19, m20, ())).bind fun (last1, tp2, tq2, t4, t5, m21, m22, m23, m24, m25, m26, m27, m28, m29, m30, m31, ()) =>
  bif !last1 then
   (aes_Encrypt.l11 m_ (0, tp2, tq2, t4, t5, m25, m26, m27, m28, m29, m30, m31, m21, (((((List.replicate 4 (0 : Int) : List Int).set 0 2).set 1 3).set 2 1).set 3 1), m21, m22, m23, m24, ())).bind fun (tp3, tq3, t6, t7, m32, m33, m34, m35, m36, m37, m38, m39, m40, m41, m42, ()) =>
   (aes_Encrypt.l12 m_ (0, tp3, tq3, t6, t7, m32, m33, m34, m35, m36, m37, m38, m39, m40, m41, m42, ())).bind fun (tp4, tq4, t8, t9, m43, m44, m45, m46, m47, m48, m49, m50, m51, m52, ()) =>
   self (tp4, tq4, t8, (IntKind.i64.wrap (t9 + 1)), m43, m44, m45, m46, m47, m48, m49, m50, m51, m52, ())
  else
   (aes_Encrypt.l12 m_ (0, tp2, tq2, t4, t5, m21, m22, m23, m24, m25, m26, m27, m28, m29, m30, m31, ())).bind fun (tp5, tq5, t10, t11, m53, m54, m55, m56, m57, m58, m59, m60, m61, m62, ()) =>
   self (tp5, tq5, t10, (IntKind.i64.wrap (t11 + 1)), m53, m54, m55, m56, m57, m58, m59, m60, m61, m62, ()) else none else none
 else
  some (m1, m2, m3, m4, m5, m6, m7, m8, m9, m, ())
theorem k13 (m_ : Mode) : KS P (O m_) inl e13 x13 [g8 m_, g9 m_, g11 m_, g12 m_] (b13 m_) := by
  intro self v_; kernel_rfl
def l13 (m_ : Mode) : A13 → Option B13 := loop m_ (b13 m_)
theorem q13 (v) : l13 .lim v = b13 .lim (l13 .lim) v := KS.q (k13 .lim) v
def g13 (m_ : Mode) : Seg := ⟨e13, x13, l13 m_⟩
theorem s13 (m_ : Mode) (S0 w0 cs0) : SegGood P S0 w0 cs0 128 (g13 m_) := seg_ok m_ (Ok m_) (ac (s8 m_ S0 w0 cs0) (ac (s9 m_ S0 w0 cs0) (ac (s11 m_ S0 w0 cs0) (ac (s12 m_ S0 w0 cs0) (an))))) (by rfl) (by rfl) (k13 m_)
def e14 : Spec := ⟨[⟨130, [.c []], [(0, .ptr 0 0), (1, .dat (.arr 16 (.int .u8)))], none, [], false⟩, f5], [(0, o6)], 1⟩
def x14 : List Spec := [⟨[⟨130, [.c [.r, .r, .r, .r, .r]], [(4, .ptr 0 0)], none, [.mark 1], false⟩, f5], [(0, o7), (1, .deferred false)], 2⟩]
abbrev A14 : Type := LI × LI × Int × Int × Int × LI × LI × LL × Unit
abbrev B14 : Type := (LI × Unit)
def b14 (m_ : Mode) (self : A14 → Option B14) : A14 → Option B14 := fun v_ => match v_ with
| (b, m, m1, m2, m3, m4, m5, m6, ()) =>
 (aes_Encrypt.l6 m_ (m, m1, m2, m3, m4, m5, m6, b, (List.replicate 16 (0 : Int)), ())).bind fun (m7, m8, m9, m10, m11, m12, m13, m14, m15, m16, ()) =>
 bif inB 0 (m16.length : Int) then
 (aes_Encrypt.l7 m_ (0, m7, (rd (List.replicate 16 (0 : Int) : List Int) m16 0), m8, m9, m10, m11, m12, m13, m14, m15, m16, ())).bind fun (m17, m18, m19, m20, m21, m22, m23, m24, m25, m26, ()) =>
 bif cutB 1 (m26.length : Int) (m26.length : Int) then
 bif smallI ((m26.length : Int) - 1) then
 (aes_Encrypt.l13 m_ (1, ((m26.length : Int) - 1), ((m26.length : Int) - 1), 0, m26, m17, m18, m19, m20, m21, m22, m23, m24, m25, ())).bind fun (m27, m28, m29, m30, m31, m32, m33, m34, m35, m36, ()) =>
 some (m27, ()) else none else none else none
theorem k14 (m_ : Mode) : KS P (O m_) inl e14 x14 [g6 m_, g7 m_, g13 m_] (b14 m_) := by
  intro self v_; kernel_rfl
def l14 (m_ : Mode) : A14 → Option B14 := loop m_ (b14 m_)
theorem q14 (v) : l14 .lim v = b14 .lim (l14 .lim) v := KS.q (k14 .lim) v
def g14 (m_ : Mode) : Seg := ⟨e14, x14, l14 m_⟩
theorem s14 (m_ : Mode) (S0 w0 cs0) : SegGood P S0 w0 cs0 128 (g14 m_) := seg_ok m_ (Ok m_) (ac (s6 m_ S0 w0 cs0) (ac (s7 m_ S0 w0 cs0) (ac (s13 m_ S0 w0 cs0) (an)))) (by rfl) (by rfl) (k14 m_)
def run (m_ : Mode) : (List Int) × (List Int) × Unit → Option ((List Int) × Int × Unit) := fun v_ => match v_ with
| (key, s, ()) =>
 bif smallI (key.length : Int) then
 bif ((!(!(decide ((key.length : Int) = 16)))) || (smallI (key.length : Int))) then
 bif ((!(decide ((key.length : Int) = 16))) && (!(decide ((key.length : Int) = 32)))) then
  some (([] : List Int), 13, ())
 else
  bif smallI (s.length : Int) then
  bif !(decide ((s.length : Int) = 16)) then
   some (([] : List Int), 10, ())
  else
   bif (Nat.ble 1 16 && Nat.ble 16 s.length) then
   (aes_Encrypt.l14 m_ ((s.take 16), key, 0, 0, 0, (List.replicate 256 (0 : Int)), (List.replicate 256 (0 : Int)), (List.replicate 16 (List.replicate 256 (0 : Int) : List Int)), ())).bind fun (m, ()) =>
   some (((m.drop 0).take 16), 0, ()) else none else none else none else none
def c (m_ : Mode) : Callee := ⟨128, [.one .str, .one .str], .tup [.sh (.one .str), .sh (.one (.int .i64))], run m_⟩
theorem k (m_ : Mode) : KR P (O m_) inl [g14 m_] (c m_) := by
  intro v_; kernel_rfl
theorem ok (m_ : Mode) : (c m_).OK P := KR.ok (fun S0 w0 => (Ok m_)) (by kernel_rfl) (by rfl) (fun S0 w0 cs0 => ac (s14 m_ S0 w0 cs0) (an)) (k m_)
end aes_Encrypt

/-! ### pendulum/siv.Twice -/
namespace siv_Twice
def inl : FuncId → Bool := fun f => [140].any (Nat.beq f)
def O (m_ : Mode) : Ora := (oras [])
theorem Ok (m_ : Mode) {S0 w0} : OraOK P S0 w0 (O m_) := (oras_ok (an))
def p0 : Path := [.r, .r, .r, .l, .r, .l]
def e0 : Spec := ⟨[⟨146, [.c [.r, .l, .l], .p [.r, .l, .l], .b 0], [(0, .fn (.yield 0) []), (1, .ptr 1 0), (3, .w)], none, [], false⟩, ⟨132, [.inRange 0, .b 0, .c [.r, .r, .r, .r]], [(4, .ptr 2 0), (5, .ptr 3 0)], none, [.mark 4], false⟩], [(0, .loop .ready none 132 [(4, .ptr 2 0), (5, .ptr 3 0)] [15, 16] p0 4), (1, .c [.own 5 (.int .u8)]), (2, .c [.own 5 (.int .u8)]), (3, .c [.y]), (4, .deferred false), (5, .c [.row (.int .u8)])], 6⟩
def x0 : List Spec := [⟨[⟨146, [], [], none, [], false⟩, ⟨132, [.inRange 2, .b 0, .c [.r, .r, .r, .r]], [(4, .ptr 0 0), (5, .ptr 1 0)], none, [.mark 3], false⟩], [(0, .c [.own 4 (.int .u8)]), (1, .c [.y]), (2, .loop .ready none 132 [(4, .ptr 0 0), (5, .ptr 1 0)] [15, 16] p0 3), (3, .deferred false), (4, .c [.row (.int .u8)])], 5⟩]
abbrev A0 : Type := Int × Int × LI × Unit
abbrev B0 : Type := (Int × LI × Unit)
def b0 (m_ : Mode) (self : A0 → Option B0) : A0 → Option B0 := fun v_ => match v_ with
| (i, m, m1, ()) =>
 bif decide (i ≥ 0) then
  bif inB i (m1.length : Int) then
  bif inB i (m1.length : Int) then
  self ((IntKind.i64.wrap (i - 1)), (ishr .u8 (rd 0 m1 i) 7), (m1.set i.toNat (ior .u8 (ishl .u8 (rd 0 m1 i) 1) m)), ()) else none else none
 else
  some (m, m1, ())
theorem k0 (m_ : Mode) : KS P (O m_) inl e0 x0 [] (b0 m_) := by
  intro self v_; kernel_rfl
def l0 (m_ : Mode) : A0 → Option B0 := loop m_ (b0 m_)
theorem q0 (v) : l0 .lim v = b0 .lim (l0 .lim) v := KS.q (k0 .lim) v
def g0 (m_ : Mode) : Seg := ⟨e0, x0, l0 m_⟩
theorem s0 (m_ : Mode) (S0 w0 cs0) : SegGood P S0 w0 cs0 132 (g0 m_) := seg_ok m_ (Ok m_) (an) (by rfl) (by rfl) (k0 m_)
def run (m_ : Mode) : (List Int) × Unit → Option ((List Int) × Int × Unit) := fun v_ => match v_ with
| (b, ()) =>
 bif smallI (b.length : Int) then
 bif !(decide ((b.length : Int) = 16)) then
  some (([] : List Int), 10, ())
 else
  bif smallI (b.length : Int) then
  (siv_Twice.l0 m_ ((IntKind.i64.wrap ((b.length : Int) - 1)), 0, b, ())).bind fun (m, m1, ()) =>
  bif inB 15 (m1.length : Int) then
  bif inB 15 (m1.length : Int) then
  some ((m1.set 15 (ixor .u8 (rd 0 m1 15) (IntKind.u8.wrap (m * 135)))), 0, ()) else none else none else none else none
def c (m_ : Mode) : Callee := ⟨132, [.one .str], .tup [.sh (.one .str), .sh (.one (.int .i64))], run m_⟩
theorem k (m_ : Mode) : KR P (O m_) inl [g0 m_] (c m_) := by
  intro v_; kernel_rfl
theorem ok (m_ : Mode) : (c m_).OK P := KR.ok (fun S0 w0 => (Ok m_)) (by kernel_rfl) (by rfl) (fun S0 w0 cs0 => ac (s0 m_ S0 w0 cs0) (an)) (k m_)
end siv_Twice

/-! ### pendulum/siv.twice -/
namespace siv_twice
def inl : FuncId → Bool := fun f => [].any (Nat.beq f)
def O (m_ : Mode) : Ora := (oras [siv_Twice.c m_])
theorem Ok (m_ : Mode) {S0 w0} : OraOK P S0 w0 (O m_) := (oras_ok (ac (siv_Twice.ok m_) (an)))
def run (m_ : Mode) : (List Int) × Unit → Option (List Int) := fun v_ => match v_ with
| (b, ()) =>
 (siv_Twice.run m_ (b, ())).bind fun (r, r1, ()) =>
 some r
def c (m_ : Mode) : Callee := ⟨127, [.one .str], .one (.sh (.one .str)), run m_⟩
theorem k (m_ : Mode) : KR P (O m_) inl [] (c m_) := by
  intro v_; kernel_rfl
theorem ok (m_ : Mode) : (c m_).OK P := KR.ok (fun S0 w0 => (Ok m_)) (by kernel_rfl) (by rfl) (fun S0 w0 cs0 => an) (k m_)
end siv_twice

/-! ### pendulum/siv.begin -/
namespace siv_begin
def inl : FuncId → Bool := fun f => [].any (Nat.beq f)
def O (m_ : Mode) : Ora := (oras [siv_zeros.c m_, siv_twice.c m_, aes_Encrypt.c m_])
theorem Ok (m_ : Mode) {S0 w0} : OraOK P S0 w0 (O m_) := (oras_ok (ac (siv_zeros.ok m_) (ac (siv_twice.ok m_) (ac (aes_Encrypt.ok m_) (an)))))
def run (m_ : Mode) : (List Int) × Unit → Option (DT4 × Int × Unit) := fun v_ => match v_ with
| (key, ()) =>
 (siv_zeros.run m_ (16, ())).bind fun r =>
 (aes_Encrypt.run m_ (key, r, ())).bind fun (r1, r2, ()) =>
 bif !(decide (r2 = 0)) then
  some (dz4, 13, ())
 else
  (siv_twice.run m_ (r1, ())).bind fun r3 =>
  (siv_twice.run m_ (r3, ())).bind fun r4 =>
  some ((key, (r3, r4)), 0, ())
def c (m_ : Mode) : Callee := ⟨124, [.one .str], .tup [.sh (.ag (.pair .str (.pair .str .str))), .sh (.one (.int .i64))], run m_⟩
theorem k (m_ : Mode) : KR P (O m_) inl [] (c m_) := by
  intro v_; kernel_rfl
theorem ok (m_ : Mode) : (c m_).OK P := KR.ok (fun S0 w0 => (Ok m_)) (by kernel_rfl) (by rfl) (fun S0 w0 cs0 => an) (k m_)
end siv_begin

/-! ### pendulum/siv.halves -/
namespace siv_halves
def inl : FuncId → Bool := fun f => [].any (Nat.beq f)
def O (m_ : Mode) : Ora := (oras [siv_begin.c m_])
theorem Ok (m_ : Mode) {S0 w0} : OraOK P S0 w0 (O m_) := (oras_ok (ac (siv_begin.ok m_) (an)))
def run (m_ : Mode) : (List Int) × (List (List Int)) × Unit → Option (DT4 × (List Int) × Int × Unit) := fun v_ => match v_ with
| (key, ad, ()) =>
 bif smallI (key.length : Int) then
 bif ((!(!(decide ((key.length : Int) = 32)))) || (smallI (key.length : Int))) then
 bif ((!(decide ((key.length : Int) = 32))) && (!(decide ((key.length : Int) = 64)))) then
  some (dz4, ([] : List Int), 13, ())
 else
  bif smallI (ad.length : Int) then
  bif decide ((ad.length : Int) ≥ 127) then
   some (dz4, ([] : List Int), 18, ())
  else
   bif smallI (key.length : Int) then
   bif cutB 0 (IntKind.i64.wrap ((key.length : Int).tdiv 2)) (key.length : Int) then
   (siv_begin.run m_ ((cut key 0 (IntKind.i64.wrap ((key.length : Int).tdiv 2))), ())).bind fun (r, r1, ()) =>
   bif smallI (key.length : Int) then
   bif cutB (IntKind.i64.wrap ((key.length : Int).tdiv 2)) (key.length : Int) (key.length : Int) then
   some (r, (cut key (IntKind.i64.wrap ((key.length : Int).tdiv 2)) (key.length : Int)), r1, ()) else none else none else none else none else none else none else none
def c (m_ : Mode) : Callee := ⟨119, [.one .str, .one (.lst .str)], .tup [.sh (.ag (.pair .str (.pair .str .str))), .sh (.one .str), .sh (.one (.int .i64))], run m_⟩
theorem k (m_ : Mode) : KR P (O m_) inl [] (c m_) := by
  intro v_; kernel_rfl
theorem ok (m_ : Mode) : (c m_).OK P := KR.ok (fun S0 w0 => (Ok m_)) (by kernel_rfl) (by rfl) (fun S0 w0 cs0 => an) (k m_)
end siv_halves

/-! ### pendulum/siv.xor -/
namespace siv_xor
def inl : FuncId → Bool := fun f => [].any (Nat.beq f)
def O (m_ : Mode) : Ora := (oras [])
theorem Ok (m_ : Mode) {S0 w0} : OraOK P S0 w0 (O m_) := (oras_ok (an))
def p0 : Path := [.r, .r, .l, .r, .l, .l]
def e0 : Spec := ⟨[⟨121, [.c p0, .p p0, .b 0, .c [.r, .r, .r]], [(1, .s), (5, .own 0 (.int .u8)), (10, .w), (11, .w)], none, [], false⟩], [(0, .c [.row (.int .u8)])], 1⟩
def x0 : List Spec := [⟨[⟨121, [.c [.r, .r, .r]], [(5, .own 0 (.int .u8))], none, [], false⟩], [(0, .c [.row (.int .u8)])], 1⟩]
abbrev A0 : Type := LI × Int × Int × LI × Unit
abbrev B0 : Type := (LI × Unit)
def b0 (m_ : Mode) (self : A0 → Option B0) : A0 → Option B0 := fun v_ => match v_ with
| (b, t, t1, m, ()) =>
 bif decide (t1 < t) then
  bif inB t1 (m.length : Int) then
  bif inB t1 (b.length : Int) then
  bif inB t1 (m.length : Int) then
  self (b, t, (IntKind.i64.wrap (t1 + 1)), (m.set t1.toNat (ixor .u8 (rd 0 m t1) (rd 0 b t1))), ()) else none else none else none
 else
  some (m, ())
theorem k0 (m_ : Mode) : KS P (O m_) inl e0 x0 [] (b0 m_) := by
  intro self v_; kernel_rfl
def l0 (m_ : Mode) : A0 → Option B0 := loop m_ (b0 m_)
theorem q0 (v) : l0 .lim v = b0 .lim (l0 .lim) v := KS.q (k0 .lim) v
def g0 (m_ : Mode) : Seg := ⟨e0, x0, l0 m_⟩
theorem s0 (m_ : Mode) (S0 w0 cs0) : SegGood P S0 w0 cs0 121 (g0 m_) := seg_ok m_ (Ok m_) (an) (by rfl) (by rfl) (k0 m_)
def run (m_ : Mode) : (List Int) × (List Int) × Unit → Option (List Int) := fun v_ => match v_ with
| (a, b, ()) =>
 bif smallI (a.length : Int) then
 (siv_xor.l0 m_ (b, (a.length : Int), 0, a, ())).bind fun (m, ()) =>
 some m else none
def c (m_ : Mode) : Callee := ⟨121, [.one .str, .one .str], .one (.sh (.one .str)), run m_⟩
theorem k (m_ : Mode) : KR P (O m_) inl [g0 m_] (c m_) := by
  intro v_; kernel_rfl
theorem ok (m_ : Mode) : (c m_).OK P := KR.ok (fun S0 w0 => (Ok m_)) (by kernel_rfl) (by rfl) (fun S0 w0 cs0 => ac (s0 m_ S0 w0 cs0) (an)) (k m_)
end siv_xor

/-! ### (pendulum/siv.maker) .tag -/
namespace siv_maker_tag
def inl : FuncId → Bool := fun f => [131].any (Nat.beq f)
def O (m_ : Mode) : Ora := (oras [siv_xor.c m_, siv_zeros.c m_, aes_Encrypt.c m_])
theorem Ok (m_ : Mode) {S0 w0} : OraOK P S0 w0 (O m_) := (oras_ok (ac (siv_xor.ok m_) (ac (siv_zeros.ok m_) (ac (aes_Encrypt.ok m_) (an)))))
def f0 : FSpec := ⟨126, [.inRange 0, .b 0, .c [.r, .r, .r]], [(5, .ptr 3 0)], none, [.mark 4], false⟩
def o1 : OSpec := .loop .ready none 126 [(2, .ptr 5 0), (5, .ptr 3 0)] [11] [.r, .r, .l, .r, .l] 4
def e0 : Spec := ⟨[⟨139, [.c [.l, .l, .l], .p [.l, .l, .l], .b 0, .c [.r]], [(0, .fn (.yield 0) []), (1, .ptr 1 0), (2, .ptr 2 0)], none, [], false⟩, f0], [(0, o1), (1, .c [.s]), (2, .c [.s, .s, .s]), (3, .c [.s]), (4, .deferred false), (5, .c [.s, .s, .s])], 6⟩
def x0 : List Spec := [⟨[⟨139, [.c [.r]], [(0, .fn (.yield 0) []), (1, .ptr 1 0), (2, .ptr 2 0)], none, [], false⟩, f0], [(0, o1), (1, .c [.s]), (2, .c [.s, .s, .s]), (3, .c [.s]), (4, .deferred false), (5, .c [.s, .s, .s])], 6⟩]
abbrev A0 : Type := LI × LI × LI × LI × LI × LI × LI × LI × Unit
abbrev B0 : Type := (LI × LI × LI × LI × LI × LI × LI × LI × Unit)
def b0 (m_ : Mode) (self : A0 → Option B0) : A0 → Option B0 := fun v_ => match v_ with
| (m, m1, m2, m3, m4, m5, m6, m7, ()) =>
 bif smallI (m.length : Int) then
 bif decide ((m.length : Int) > 16) then
  bif cutB 0 16 (m.length : Int) then
  (siv_xor.run m_ (m4, (cut m 0 16), ())).bind fun r =>
  (aes_Encrypt.run m_ (m5, r, ())).bind fun (r1, r2, ()) =>
  bif cutB 16 (m.length : Int) (m.length : Int) then
  self ((cut m 16 (m.length : Int)), m1, m2, m3, r1, m5, m6, m7, ()) else none else none
 else
  some (m, m1, m2, m3, m4, m5, m6, m7, ()) else none
theorem k0 (m_ : Mode) : KS P (O m_) inl e0 x0 [] (b0 m_) := by
  intro self v_; kernel_rfl
def l0 (m_ : Mode) : A0 → Option B0 := loop m_ (b0 m_)
theorem q0 (v) : l0 .lim v = b0 .lim (l0 .lim) v := KS.q (k0 .lim) v
def g0 (m_ : Mode) : Seg := ⟨e0, x0, l0 m_⟩
theorem s0 (m_ : Mode) (S0 w0 cs0) : SegGood P S0 w0 cs0 126 (g0 m_) := seg_ok m_ (Ok m_) (an) (by rfl) (by rfl) (k0 m_)
def run (m_ : Mode) : DT4 × (List Int) × Unit → Option (List Int) := fun v_ => match v_ with
| (m, s, ()) =>
 (siv_zeros.run m_ (16, ())).bind fun r =>
 (siv_maker_tag.l0 m_ (s, m.1, m.2.1, m.2.2, r, m.1, m.2.1, m.2.2, ())).bind fun (m1, m2, m3, m4, m5, m6, m7, m8, ()) =>
 bif smallI (m1.length : Int) then
 bif decide ((m1.length : Int) = 16) then
  (siv_xor.run m_ (m1, m3, ())).bind fun r1 =>
  (siv_xor.run m_ (m5, r1, ())).bind fun r2 =>
  (aes_Encrypt.run m_ (m6, r2, ())).bind fun (r3, r4, ()) =>
  some r3
 else
  bif decide (m1.length + ([128] : List Int).length ≤ maxStr) then
  bif smallI (m1.length : Int) then
  (siv_zeros.run m_ ((IntKind.i64.wrap (15 - (m1.length : Int))), ())).bind fun r5 =>
  bif decide ((m1 ++ ([128] : List Int)).length + r5.length ≤ maxStr) then
  (siv_xor.run m_ (((m1 ++ ([128] : List Int)) ++ r5), m4, ())).bind fun r6 =>
  (siv_xor.run m_ (m5, r6, ())).bind fun r7 =>
  (aes_Encrypt.run m_ (m6, r7, ())).bind fun (r8, r9, ()) =>
  some r8 else none else none else none else none
def c (m_ : Mode) : Callee := ⟨126, [.ag (.pair .str (.pair .str .str)), .one .str], .one (.sh (.one .str)), run m_⟩
theorem k (m_ : Mode) : KR P (O m_) inl [g0 m_] (c m_) := by
  intro v_; kernel_rfl
theorem ok (m_ : Mode) : (c m_).OK P := KR.ok (fun S0 w0 => (Ok m_)) (by kernel_rfl) (by rfl) (fun S0 w0 cs0 => ac (s0 m_ S0 w0 cs0) (an)) (k m_)
end siv_maker_tag

/-! ### (pendulum/siv.maker) .row -/
namespace siv_maker_row
def inl : FuncId → Bool := fun f => [].any (Nat.beq f)
def O (m_ : Mode) : Ora := (oras [siv_xor.c m_, siv_zeros.c m_, siv_maker_tag.c m_, siv_twice.c m_])
theorem Ok (m_ : Mode) {S0 w0} : OraOK P S0 w0 (O m_) := (oras_ok (ac (siv_xor.ok m_) (ac (siv_zeros.ok m_) (ac (siv_maker_tag.ok m_) (ac (siv_twice.ok m_) (an))))))
def p0 : Path := [.r, .r, .r, .r, .l, .r, .l, .l]
def e0 : Spec := ⟨[⟨122, [.c p0, .p p0, .b 0, .c [.r, .r, .r, .r, .r]], [(2, .ptr 0 0), (5, .s), (6, .s), (30, .t), (31, .w), (32, .w)], none, [], false⟩], [(0, .c [.s, .s, .s])], 1⟩
def x0 : List Spec := [⟨[⟨122, [.c [.r, .r, .r, .r, .r]], [(2, .ptr 0 0), (5, .s), (6, .s)], none, [], false⟩], [(0, .c [.s, .s, .s])], 1⟩]
abbrev A0 : Type := LI × LI × LL × Int × Int × LI × LI × LI × Unit
abbrev B0 : Type := (LI × LI × LI × LI × LI × Unit)
def b0 (m_ : Mode) (self : A0 → Option B0) : A0 → Option B0 := fun v_ => match v_ with
| (d, s, t, t1, t2, m, m1, m2, ()) =>
 bif decide (t2 < t1) then
  bif inB t2 (t.length : Int) then
  (siv_twice.run m_ (d, ())).bind fun r =>
  (siv_maker_tag.run m_ ((m, (m1, m2)), (rd ([] : List Int) t t2), ())).bind fun r1 =>
  (siv_xor.run m_ (r, r1, ())).bind fun r2 =>
  self (r2, s, t, t1, (IntKind.i64.wrap (t2 + 1)), m, m1, m2, ()) else none
 else
  some (d, s, m, m1, m2, ())
theorem k0 (m_ : Mode) : KS P (O m_) inl e0 x0 [] (b0 m_) := by
  intro self v_; kernel_rfl
def l0 (m_ : Mode) : A0 → Option B0 := loop m_ (b0 m_)
theorem q0 (v) : l0 .lim v = b0 .lim (l0 .lim) v := KS.q (k0 .lim) v
def g0 (m_ : Mode) : Seg := ⟨e0, x0, l0 m_⟩
theorem s0 (m_ : Mode) (S0 w0 cs0) : SegGood P S0 w0 cs0 122 (g0 m_) := seg_ok m_ (Ok m_) (an) (by rfl) (by rfl) (k0 m_)
def run (m_ : Mode) : DT4 × (List (List Int)) × Unit → Option (List Int) := fun v_ => match v_ with
| (m, l, ()) =>
 bif smallI (l.length : Int) then
 bif decide ((l.length : Int) = 0) then
  (siv_zeros.run m_ (15, ())).bind fun r =>
  bif decide (r.length + ([1] : List Int).length ≤ maxStr) then
  (siv_maker_tag.run m_ (m, (r ++ ([1] : List Int)), ())).bind fun r1 =>
  some r1 else none
 else
  (siv_zeros.run m_ (16, ())).bind fun r2 =>
  (siv_maker_tag.run m_ (m, r2, ())).bind fun r3 =>
  bif smallI (l.length : Int) then
  bif inB (IntKind.i64.wrap ((l.length : Int) - 1)) (l.length : Int) then
  bif smallI (l.length : Int) then
  bif cutB 0 (IntKind.i64.wrap ((l.length : Int) - 1)) (l.length : Int) then
  bif smallI ((cut l 0 (IntKind.i64.wrap ((l.length : Int) - 1))).length : Int) then
  (siv_maker_row.l0 m_ (r3, (rd ([] : List Int) l (IntKind.i64.wrap ((l.length : Int) - 1))), (cut l 0 (IntKind.i64.wrap ((l.length : Int) - 1))), ((cut l 0 (IntKind.i64.wrap ((l.length : Int) - 1))).length : Int), 0, m.1, m.2.1, m.2.2, ())).bind fun (d, s, m1, m2, m3, ()) =>
  bif smallI (s.length : Int) then
  bif decide ((IntKind.i64.wrap ((s.length : Int) - 16)) ≥ 0) then
   bif cutB 0 (IntKind.i64.wrap ((s.length : Int) - 16)) (s.length : Int) then
   bif cutB (IntKind.i64.wrap ((s.length : Int) - 16)) (s.length : Int) (s.length : Int) then
   (siv_xor.run m_ ((cut s (IntKind.i64.wrap ((s.length : Int) - 16)) (s.length : Int)), d, ())).bind fun r4 =>
   bif decide ((cut s 0 (IntKind.i64.wrap ((s.length : Int) - 16))).length + r4.length ≤ maxStr) then
   (siv_maker_tag.run m_ ((m1, (m2, m3)), ((cut s 0 (IntKind.i64.wrap ((s.length : Int) - 16))) ++ r4), ())).bind fun r5 =>
   some r5 else none else none else none
  else
   bif decide (s.length + ([128] : List Int).length ≤ maxStr) then
   bif smallI (s.length : Int) then
   (siv_zeros.run m_ ((IntKind.i64.wrap (15 - (s.length : Int))), ())).bind fun r6 =>
   bif decide ((s ++ ([128] : List Int)).length + r6.length ≤ maxStr) then
   (siv_twice.run m_ (d, ())).bind fun r7 =>
   (siv_xor.run m_ (((s ++ ([128] : List Int)) ++ r6), r7, ())).bind fun r8 =>
   (siv_maker_tag.run m_ ((m1, (m2, m3)), r8, ())).bind fun r9 =>
   some r9 else none else none else none else none else none else none else none else none else none else none
def c (m_ : Mode) : Callee := ⟨122, [.ag (.pair .str (.pair .str .str)), .one (.lst .str)], .one (.sh (.one .str)), run m_⟩
theorem k (m_ : Mode) : KR P (O m_) inl [g0 m_] (c m_) := by
  intro v_; kernel_rfl
theorem ok (m_ : Mode) : (c m_).OK P := KR.ok (fun S0 w0 => (Ok m_)) (by kernel_rfl) (by rfl) (fun S0 w0 cs0 => ac (s0 m_ S0 w0 cs0) (an)) (k m_)
end siv_maker_row

/-! ### pendulum/aes.Stream -/
namespace aes_Stream
-- not told: not walked: (*internal/sync.Mutex) .lockSlow [F163 (('inRegion', 'rr', 1),)]
-- not told: not walked: (*internal/sync.Mutex) .unlockSlow [F164 (('inRegion', 'rrlrl', 2),)]
def inl : FuncId → Bool := fun f => [129, 130, 133, 134, 135, 136, 137, 138, 141, 142, 143, 144, 147, 148, 151, 152, 153, 155, 163, 164].any (Nat.beq f)
def xs : List (FuncId × XK) := [(154, .load .u32), (165, .store), (167, .mark0 .disable), (168, .cas .i32), (169, .mark0 .enable), (170, .mark1 .acquire), (172, .mark1 .releaseMerge), (173, .add .i32)]
theorem xsok : ∀ x ∈ xs, x.2.OK P x.1 := ac ⟨_, Go.Proofs.Tryz.func154, by kernel_rfl, by kernel_rfl, by kernel_rfl, by kernel_rfl⟩ (ac ⟨_, Go.Proofs.Tryz.func165, by kernel_rfl, by kernel_rfl, by kernel_rfl, by kernel_rfl⟩ (ac ⟨_, Go.Proofs.Tryz.func167, by kernel_rfl, by kernel_rfl, by kernel_rfl, by kernel_rfl⟩ (ac ⟨_, Go.Proofs.Tryz.func168, by kernel_rfl, by kernel_rfl, by kernel_rfl, by kernel_rfl⟩ (ac ⟨_, Go.Proofs.Tryz.func169, by kernel_rfl, by kernel_rfl, by kernel_rfl, by kernel_rfl⟩ (ac ⟨_, Go.Proofs.Tryz.func170, by kernel_rfl, by kernel_rfl, by kernel_rfl, by kernel_rfl⟩ (ac ⟨_, Go.Proofs.Tryz.func172, by kernel_rfl, by kernel_rfl, by kernel_rfl, by kernel_rfl⟩ (ac ⟨_, Go.Proofs.Tryz.func173, by kernel_rfl, by kernel_rfl, by kernel_rfl, by kernel_rfl⟩ (an))))))))
def O (m_ : Mode) : Ora := (both (oras [aes_Sub.c m_, aes_Times.c m_, slices_Concat_byte_byte.c m_, sync_atomic_b32.c m_]) (exts xs))
theorem Ok (m_ : Mode) {S0 w0} : OraOK P S0 w0 (O m_) := (both_ok (oras_ok (ac (aes_Sub.ok m_) (ac (aes_Times.ok m_) (ac (slices_Concat_byte_byte.ok m_) (ac (sync_atomic_b32.ok m_) (an)))))) (exts_ok xsok))
def p0 : Path := [.r, .l, .l, .r, .r, .l, .l, .r, .r, .r, .r, .l, .l]
def p1 : Path := [.r, .l, .l, .r, .r, .r]
def f2 : FSpec := ⟨148, [.g [.r, .r, .r, .l, .r] [1]], [], none, [.call 157 [.ptr 0 1, .b], .call 156 [.ptr 0 2]], false⟩
def f3 : FSpec := ⟨141, [.g [.r, .l] [2]], [], none, [], false⟩
def f4 : FSpec := ⟨133, [.g [.r] [4]], [], none, [], false⟩
def p5 : Path := [.r, .r, .r, .r, .r, .r, .l, .l, .l, .r, .l, .l]
def p6 : Path := [.r, .r, .r, .r, .r, .r, .l, .l, .l, .r, .l, .r]
def p7 : Path := [.r, .r, .r, .r, .r, .r, .l, .l, .l]
def p8 : Path := [.r, .r, .r, .r, .r, .r, .r]
def o9 : OSpec := .c [.s, .dat (.int .u32), .dat (.int .i32), .dat (.int .u32), .dat (.arr 256 (.int .u8)), .dat (.arr 256 (.int .u8)), .dat (.arr 16 (.arr 256 (.int .u8))), .own 8 (.arr 16 (.int .u8))]
def o10 : OSpec := .c [.dat (.arr 16 (.int .u8))]
def o11 : OSpec := .c [.row (.arr 16 (.int .u8))]
def f12 : FSpec := ⟨142, [.g [.l] [1], .c [.r]], [(0, .ptr 1 0)], none, [], false⟩
def f13 : FSpec := ⟨130, [.g [.r, .l] [1], .c [.r, .r]], [(2, .ptr 2 0), (3, .ptr 3 0), (4, .ptr 4 0)], none, [], false⟩
def o14 : OSpec := .c [.s, .dat (.int .u32), .dat (.int .i32), .dat (.int .u32), .dat (.arr 256 (.int .u8)), .dat (.arr 256 (.int .u8)), .dat (.arr 16 (.arr 256 (.int .u8))), .own 7 (.arr 16 (.int .u8))]
def e0 : Spec := ⟨[⟨143, [.c p0, .p p0, .b 2, .b 1, .c p1, .p [.r, .l, .l], .b 0], [(0, .ptr 0 0), (2, .w), (6, .w), (25, .own 1 (.int .u8)), (26, .w), (27, .w)], none, [], false⟩, ⟨142, [.g [.l] [1], .c [.r]], [(0, .ptr 2 0)], none, [], false⟩, f2, f3, f4, ⟨130, [.g [.r, .l] [1], .c [.r, .r]], [(2, .ptr 3 0), (3, .ptr 4 0), (4, .ptr 5 0)], none, [], false⟩, ⟨125, [.g p5 [2,3,4], .c p6, .b 1, .p p7, .b 0, .c p8], [(2, .w), (8, .ptr 0 0), (10, .ptr 6 0), (11, .own 7 (.int .u8))], none, [], false⟩], [(0, o9), (1, .c [.row (.int .u8)]), (2, .c [.ptr 0 0]), (3, .c [.ptr 0 0]), (4, o10), (5, o10), (6, o10), (7, .d [.row (.int .u8)]), (8, o11)], 9⟩
def x0 : List Spec := [⟨[⟨143, [.c p1, .p [.r, .l, .l], .b 0], [(0, .ptr 0 0), (6, .w)], none, [], false⟩, f12, f2, f3, f4, f13, ⟨125, [.g p5 [2,3,4], .c p6, .b 1, .p p7, .b 0, .c p8], [(2, .w), (8, .ptr 0 0), (10, .ptr 5 0), (11, .own 6 (.int .u8))], none, [], false⟩], [(0, o14), (1, .c [.ptr 0 0]), (2, .c [.ptr 0 0]), (3, o10), (4, o10), (5, o10), (6, .d [.row (.int .u8)]), (7, o11)], 8⟩]
abbrev A0 : Type := Int × Int × Int × Int × Bool × Int × LI × Int × Int × Int × LI × LI × LL × LI × LI × LI × LI × LI × LL × Unit
abbrev B0 : Type := (Int × Bool × Int × LI × Int × Int × Int × LI × LI × LL × LI × LI × LI × LI × LL × Unit)
def b0 (m_ : Mode) (self : A0 → Option B0) : A0 → Option B0 := fun v_ => match v_ with
| (i, t, t1, t2, m, n, m1, m2, m3, m4, m5, m6, m7, m8, m9, m10, m11, m12, m13, ()) =>
 bif decide (t2 < t1) then
  bif inB t2 (m8.length : Int) then
  (aes_Times.run m_ ((IntKind.u8.wrap i), (rd 0 m8 t2), ())).bind fun r =>
  bif inB (rd 0 m8 t2) 16 then
  bif inB i 256 then
  self (i, t, t1, (IntKind.i64.wrap (t2 + 1)), m, n, m1, m2, m3, m4, m5, m6, (m7.set ((rd 0 m8 t2).toNat) ((rd (List.replicate 256 (0 : Int) : List Int) m7 (rd 0 m8 t2)).set i.toNat r)), m8, m9, m10, m11, m12, m13, ()) else none else none else none
 else
  some (t, m, n, m1, m2, m3, m4, m5, m6, m7, m9, m10, m11, m12, m13, ())
theorem k0 (m_ : Mode) : KS P (O m_) inl e0 x0 [] (b0 m_) := by
  intro self v_; kernel_rfl
def l0 (m_ : Mode) : A0 → Option B0 := loop m_ (b0 m_)
theorem q0 (v) : l0 .lim v = b0 .lim (l0 .lim) v := KS.q (k0 .lim) v
def g0 (m_ : Mode) : Seg := ⟨e0, x0, l0 m_⟩
theorem s0 (m_ : Mode) (S0 w0 cs0) : SegGood P S0 w0 cs0 125 (g0 m_) := seg_ok m_ (Ok m_) (an) (by rfl) (by rfl) (k0 m_)
def e1 : Spec := ⟨[⟨143, [.c [.r, .l, .l], .p [.r, .l, .l], .b 0], [(0, .ptr 0 0), (6, .w)], none, [], false⟩, f12, f2, f3, f4, f13, ⟨125, [.g p5 [2,3,4], .c p6, .b 1, .p p7, .b 0, .c p8], [(2, .w), (8, .ptr 0 0), (10, .ptr 5 0), (11, .own 6 (.int .u8))], none, [], false⟩], [(0, o14), (1, .c [.ptr 0 0]), (2, .c [.ptr 0 0]), (3, o10), (4, o10), (5, o10), (6, .d [.row (.int .u8)]), (7, o11)], 8⟩
def x1 : List Spec := [⟨[⟨143, [], [], none, [], false⟩, ⟨142, [.g [.l] [1], .c [.r]], [(0, .ptr 0 0)], none, [], false⟩, ⟨148, [.g [.r, .r, .r, .l, .r] [1]], [], none, [.call 157 [.ptr 1 1, .b], .call 156 [.ptr 1 2]], false⟩, f3, f4, f13, ⟨125, [.g p5 [2,3,4], .c p6, .b 1, .p p7, .b 0, .c p8], [(2, .w), (8, .ptr 1 0), (10, .ptr 5 0), (11, .own 6 (.int .u8))], none, [], false⟩], [(0, .c [.ptr 1 0]), (1, o14), (2, .c [.ptr 1 0]), (3, o10), (4, o10), (5, o10), (6, .d [.row (.int .u8)]), (7, o11)], 8⟩]
abbrev A1 : Type := Int × Bool × Int × LI × Int × Int × Int × LI × LI × LL × LI × LI × LI × LI × LL × Unit
abbrev B1 : Type := (Bool × Int × LI × Int × Int × Int × LI × LI × LL × LI × LI × LI × LI × LL × Unit)
def b1 (m_ : Mode) (self : A1 → Option B1) : A1 → Option B1 := fun v_ => match v_ with
| (t, m, n, m1, m2, m3, m4, m5, m6, m7, m8, m9, m10, m11, m12, ()) =>
 bif decide (t < 256) then
  (aes_Sub.run m_ ((IntKind.u8.wrap t), ())).bind fun r =>
  bif inB t 256 then
  bif inB r 256 then
  bif smallI (([1, 2, 3, 9, 11, 13, 14] : List Int).length : Int) then
  (aes_Stream.l0 m_ (t, t, (([1, 2, 3, 9, 11, 13, 14] : List Int).length : Int), 0, m, n, m1, m2, m3, m4, (m5.set t.toNat r), (m6.set r.toNat (IntKind.u8.wrap t)), m7, ([1, 2, 3, 9, 11, 13, 14] : List Int), m8, m9, m10, m11, m12, ())).bind fun (t1, m13, n1, m14, m15, m16, m17, m18, m19, m20, m21, m22, m23, m24, m25, ()) =>
  self ((IntKind.i64.wrap (t1 + 1)), m13, n1, m14, m15, m16, m17, m18, m19, m20, m21, m22, m23, m24, m25, ()) else none else none else none
 else
  some (m, n, m1, m2, m3, m4, m5, m6, m7, m8, m9, m10, m11, m12, ())
theorem k1 (m_ : Mode) : KS P (O m_) inl e1 x1 [g0 m_] (b1 m_) := by
  intro self v_; kernel_rfl
def l1 (m_ : Mode) : A1 → Option B1 := loop m_ (b1 m_)
theorem q1 (v) : l1 .lim v = b1 .lim (l1 .lim) v := KS.q (k1 .lim) v
def g1 (m_ : Mode) : Seg := ⟨e1, x1, l1 m_⟩
theorem s1 (m_ : Mode) (S0 w0 cs0) : SegGood P S0 w0 cs0 125 (g1 m_) := seg_ok m_ (Ok m_) (ac (s0 m_ S0 w0 cs0) (an)) (by rfl) (by rfl) (k1 m_)
def f15 : FSpec := ⟨142, [.g [.r] [1]], [], none, [], false⟩
def p16 : Path := [.r, .r, .r, .l, .r, .l]
def o17 : OSpec := .c [.s, .dat (.int .u32), .dat (.int .i32), .dat (.int .u32), .dat (.arr 256 (.int .u8)), .dat (.arr 256 (.int .u8)), .dat (.arr 16 (.arr 256 (.int .u8))), .own 13 (.arr 16 (.int .u8))]
def o18 : OSpec := .c [.row (.arr 4 (.int .u8))]
def f19 : FSpec := ⟨148, [.g [.r, .r, .r, .l, .r] [1]], [], none, [.call 157 [.ptr 4 1, .b], .call 156 [.ptr 4 2]], false⟩
def f20 : FSpec := ⟨130, [.g [.r, .l] [1], .c [.r, .r]], [(2, .ptr 5 0), (3, .ptr 6 0), (4, .ptr 7 0)], none, [], false⟩
def o21 : OSpec := .c [.own 10 (.arr 4 (.int .u8))]
def o22 : OSpec := .c [.s, .dat (.int .u32), .dat (.int .i32), .dat (.int .u32), .dat (.arr 256 (.int .u8)), .dat (.arr 256 (.int .u8)), .dat (.arr 16 (.arr 256 (.int .u8))), .own 11 (.arr 16 (.int .u8))]
def e2 : Spec := ⟨[⟨160, [.c [.r, .l, .l], .p [.r, .l, .l], .b 0], [(0, .fn (.yield 0) []), (1, .ptr 1 0), (2, .ptr 2 0), (4, .w)], none, [], false⟩, ⟨144, [.inRange 0, .b 0, .c [.r, .r, .r, .r]], [(1, .ptr 3 0), (2, .w), (3, .ptr 4 0)], none, [.mark 5], false⟩, f15, ⟨148, [.g [.r, .r, .r, .l, .r] [1]], [], none, [.call 157 [.ptr 6 1, .b], .call 156 [.ptr 6 2]], false⟩, f3, f4, ⟨130, [.g [.r, .l] [1], .c [.r, .r]], [(2, .ptr 7 0), (3, .ptr 8 0), (4, .ptr 9 0)], none, [], false⟩, ⟨125, [.g p5 [2,3,4], .c p6, .b 1, .p p7, .b 0, .c p8], [(2, .w), (8, .ptr 6 0), (10, .ptr 10 0), (11, .own 11 (.int .u8))], none, [], false⟩], [(0, .loop .ready none 144 [(3, .ptr 4 0)] [22] p16 5), (1, .c [.own 12 (.int .u8)]), (2, .c [.w]), (3, .c [.ptr 6 0]), (4, .c [.own 5002 (.arr 4 (.int .u8))]), (5, .deferred false), (6, o17), (7, .c [.ptr 6 0]), (8, o10), (9, o10), (10, o10), (11, .d [.row (.int .u8)]), (12, .d [.row (.int .u8)]), (5002, o18), (13, o11)], 5003⟩
def x2 : List Spec := [⟨[⟨160, [], [], none, [], false⟩, ⟨144, [.inRange 2, .b 0, .c [.r, .r, .r, .r]], [(1, .ptr 0 0), (2, .w), (3, .ptr 1 0)], none, [.mark 3], false⟩, f15, f19, f3, f4, f20, ⟨125, [.g p5 [2,3,4], .c p6, .b 1, .p p7, .b 0, .c p8], [(2, .w), (8, .ptr 4 0), (10, .ptr 8 0), (11, .own 9 (.int .u8))], none, [], false⟩], [(0, .c [.ptr 4 0]), (1, o21), (2, .loop .ready none 144 [(3, .ptr 1 0)] [22] p16 3), (3, .deferred false), (4, o22), (5, .c [.ptr 4 0]), (6, o10), (7, o10), (8, o10), (9, .d [.row (.int .u8)]), (10, o18), (11, o11)], 12⟩]
abbrev A2 : Type := Int × Int × Bool × Int × Int × LI × Int × Int × Int × LI × LI × LL × LI × LI × LI × LI × LI × LL × LL × Unit
abbrev B2 : Type := (Int × Bool × Int × LI × Int × Int × Int × LI × LI × LL × LI × LI × LI × LI × LL × LL × Unit)
def b2 (m_ : Mode) (self : A2 → Option B2) : A2 → Option B2 := fun v_ => match v_ with
| (i, nk, m, n, m1, m2, m3, m4, m5, m6, m7, m8, m9, m10, m11, m12, m13, m14, m15, ()) =>
 bif smallI (m13.length : Int) then
 bif decide (i < (m13.length : Int)) then
  bif cutB i (m13.length : Int) (m13.length : Int) then
  bif smallI ((m13.length : Int) - i) then
  bif ((cutB i (IntKind.i64.wrap (i + (mn m1 ((m13.length : Int) - i)))) (IntKind.i64.wrap (i + (mn m1 ((m13.length : Int) - i))))) && (decide ((IntKind.i64.wrap (i + (mn m1 ((m13.length : Int) - i)))) ≤ (m13.length : Int)))) then
  bif (Nat.ble 1 4 && Nat.ble 4 (cut m13 i (IntKind.i64.wrap (i + (mn m1 ((m13.length : Int) - i))))).length) then
  bif decide (m14.length + ([((cut m13 i (IntKind.i64.wrap (i + (mn m1 ((m13.length : Int) - i))))).take 4)] : List (List Int)).length < 17592186044416) then
  self ((IntKind.i64.wrap (i + m1)), nk, m, n, m1, m2, m3, m4, m5, m6, m7, m8, m9, m10, m11, m12, m13, (m14 ++ ([((cut m13 i (IntKind.i64.wrap (i + (mn m1 ((m13.length : Int) - i))))).take 4)] : List (List Int))), m15, ()) else none else none else none else none else none
 else
  some (nk, m, n, m2, m3, m4, m5, m6, m7, m8, m9, m10, m11, m12, m14, m15, ()) else none
theorem k2 (m_ : Mode) : KS P (O m_) inl e2 x2 [] (b2 m_) := by
  intro self v_; kernel_rfl
def l2 (m_ : Mode) : A2 → Option B2 := loop m_ (b2 m_)
theorem q2 (v) : l2 .lim v = b2 .lim (l2 .lim) v := KS.q (k2 .lim) v
def g2 (m_ : Mode) : Seg := ⟨e2, x2, l2 m_⟩
theorem s2 (m_ : Mode) (S0 w0 cs0) : SegGood P S0 w0 cs0 125 (g2 m_) := seg_ok m_ (Ok m_) (an) (by rfl) (by rfl) (k2 m_)
def p23 : Path := [.r, .r, .r, .r, .r, .l, .r, .l, .l, .r, .l, .l, .r, .r, .l, .r, .l, .l]
def p24 : Path := [.r, .r, .r, .r, .r, .l, .r, .l, .l, .r, .l, .l, .r, .r, .r]
def p25 : Path := [.r, .r, .r, .r, .r, .l, .r, .l, .l, .r, .r]
def p26 : Path := [.r, .r, .r, .r, .r, .l, .r, .l, .l]
def p27 : Path := [.r, .r, .r, .r, .r, .r]
def o28 : OSpec := .c [.dat (.arr 4 (.int .u8))]
def e3 : Spec := ⟨[⟨144, [.c p23, .p p23, .b 4, .c p24, .b 3, .c p25, .p p26, .b 2, .c p27], [(1, .ptr 0 0), (2, .w), (3, .ptr 1 0), (5, .y), (6, .w), (7, .ptr 2 0), (115, .w)], none, [.mark 3], false⟩, f15, f19, f3, f4, f20, ⟨125, [.g p5 [2,3,4], .c p6, .b 1, .p p7, .b 0, .c p8], [(2, .w), (8, .ptr 4 0), (10, .ptr 8 0), (11, .own 9 (.int .u8))], none, [], false⟩], [(0, .c [.ptr 4 0]), (1, o21), (2, o28), (3, .deferred false), (4, o22), (5, .c [.ptr 4 0]), (6, o10), (7, o10), (8, o10), (9, .d [.row (.int .u8)]), (10, o18), (11, o11)], 12⟩
def x3 : List Spec := [⟨[⟨144, [.c p24, .b 3, .c p25, .p p26, .b 2, .c p27], [(1, .ptr 0 0), (2, .w), (3, .ptr 1 0), (5, .y), (6, .w), (7, .ptr 2 0)], none, [.mark 3], false⟩, f15, f19, f3, f4, f20, ⟨125, [.g p5 [2,3,4], .c p6, .b 1, .p p7, .b 0, .c p8], [(2, .w), (8, .ptr 4 0), (10, .ptr 8 0), (11, .own 9 (.int .u8))], none, [], false⟩], [(0, .c [.ptr 4 0]), (1, o21), (2, o28), (3, .deferred false), (4, o22), (5, .c [.ptr 4 0]), (6, o10), (7, o10), (8, o10), (9, .d [.row (.int .u8)]), (10, o18), (11, o11)], 12⟩]
abbrev A3 : Type := Int × Int × Int × Int × Bool × Int × LI × LI × Int × Int × Int × LI × LI × LL × LI × LI × LI × LI × LL × LL × Unit
abbrev B3 : Type := (Int × Int × Int × Bool × Int × LI × LI × Int × Int × Int × LI × LI × LL × LI × LI × LI × LI × LL × LL × Unit)
def b3 (m_ : Mode) (self : A3 → Option B3) : A3 → Option B3 := fun v_ => match v_ with
| (nk, x, i, t, m, n, m1, m2, m3, m4, m5, m6, m7, m8, m9, m10, m11, m12, m13, m14, ()) =>
 bif decide (t < 4) then
  bif inB t 4 then
  bif inB (IntKind.i64.wrap (i - nk)) (m13.length : Int) then
  bif inB t 4 then
  bif inB t 4 then
  self (nk, x, i, (IntKind.i64.wrap (t + 1)), m, n, (m1.set t.toNat (ixor .u8 (rd 0 m1 t) (rd 0 (rd (List.replicate 4 (0 : Int) : List Int) m13 (IntKind.i64.wrap (i - nk))) t))), m2, m3, m4, m5, m6, m7, m8, m9, m10, m11, m12, m13, m14, ()) else none else none else none else none
 else
  some (nk, x, i, m, n, m1, m2, m3, m4, m5, m6, m7, m8, m9, m10, m11, m12, m13, m14, ())
theorem k3 (m_ : Mode) : KS P (O m_) inl e3 x3 [] (b3 m_) := by
  intro self v_; kernel_rfl
def l3 (m_ : Mode) : A3 → Option B3 := loop m_ (b3 m_)
theorem q3 (v) : l3 .lim v = b3 .lim (l3 .lim) v := KS.q (k3 .lim) v
def g3 (m_ : Mode) : Seg := ⟨e3, x3, l3 m_⟩
theorem s3 (m_ : Mode) (S0 w0 cs0) : SegGood P S0 w0 cs0 125 (g3 m_) := seg_ok m_ (Ok m_) (an) (by rfl) (by rfl) (k3 m_)
def f29 : FSpec := ⟨148, [.g [.r, .r, .r, .l, .r] [1]], [], none, [.call 157 [.ptr 3 1, .b], .call 156 [.ptr 3 2]], false⟩
def f30 : FSpec := ⟨130, [.g [.r, .l] [1], .c [.r, .r]], [(2, .ptr 4 0), (3, .ptr 5 0), (4, .ptr 6 0)], none, [], false⟩
def o31 : OSpec := .c [.own 9 (.arr 4 (.int .u8))]
def o32 : OSpec := .c [.s, .dat (.int .u32), .dat (.int .i32), .dat (.int .u32), .dat (.arr 256 (.int .u8)), .dat (.arr 256 (.int .u8)), .dat (.arr 16 (.arr 256 (.int .u8))), .own 10 (.arr 16 (.int .u8))]
def e4 : Spec := ⟨[⟨144, [.c p26, .p p26, .b 2, .c p27], [(1, .ptr 0 0), (2, .w), (3, .ptr 1 0), (5, .y), (6, .w)], none, [.mark 2], false⟩, f15, f29, f3, f4, f30, ⟨125, [.g p5 [2,3,4], .c p6, .b 1, .p p7, .b 0, .c p8], [(2, .w), (8, .ptr 3 0), (10, .ptr 7 0), (11, .own 8 (.int .u8))], none, [], false⟩], [(0, .c [.ptr 3 0]), (1, o31), (2, .deferred false), (3, o32), (4, .c [.ptr 3 0]), (5, o10), (6, o10), (7, o10), (8, .d [.row (.int .u8)]), (9, o18), (10, o11)], 11⟩
def x4 : List Spec := [⟨[⟨144, [.c p27], [(1, .ptr 0 0), (3, .ptr 1 0)], none, [.mark 2], false⟩, f15, f29, f3, f4, f30, ⟨125, [.g p5 [2,3,4], .c p6, .b 1, .p p7, .b 0, .c p8], [(2, .w), (8, .ptr 3 0), (10, .ptr 7 0), (11, .own 8 (.int .u8))], none, [], false⟩], [(0, .c [.ptr 3 0]), (1, o31), (2, .deferred false), (3, o32), (4, .c [.ptr 3 0]), (5, o10), (6, o10), (7, o10), (8, .d [.row (.int .u8)]), (9, o18), (10, o11)], 11⟩]
abbrev A4 : Type := Int × Int × Int × Bool × Int × LI × Int × Int × Int × LI × LI × LL × LI × LI × LI × LI × LL × LL × Unit
abbrev B4 : Type := (Bool × Int × LI × Int × Int × Int × LI × LI × LL × LI × LI × LI × LI × LL × LL × Unit)
def b4 (m_ : Mode) (self : A4 → Option B4) : A4 → Option B4 := fun v_ => match v_ with
| (nk, x, i, m, n, m1, m2, m3, m4, m5, m6, m7, m8, m9, m10, m11, m12, m13, ()) =>
 bif decide (i < (IntKind.i64.wrap (4 * (IntKind.i64.wrap (nk + 7))))) then
  bif inB (IntKind.i64.wrap (i - 1)) (m12.length : Int) then
  bif !(decide (nk = 0)) then
  bif decide ((i.tmod nk) = 0) then
   bif inB (rd 0 (rd (List.replicate 4 (0 : Int) : List Int) m12 (IntKind.i64.wrap (i - 1))) 1) 256 then
   bif inB (rd 0 (rd (List.replicate 4 (0 : Int) : List Int) m12 (IntKind.i64.wrap (i - 1))) 2) 256 then
   bif inB (rd 0 (rd (List.replicate 4 (0 : Int) : List Int) m12 (IntKind.i64.wrap (i - 1))) 3) 256 then
   bif inB (rd 0 (rd (List.replicate 4 (0 : Int) : List Int) m12 (IntKind.i64.wrap (i - 1))) 0) 256 then
   (aes_Times.run m_ (x, 2, ())).bind fun r =>
   (aes_Stream.l3 m_ (nk, r, i, 0, m, n, (((((List.replicate 4 (0 : Int) : List Int).set 0 (ixor .u8 (rd 0 m5 (rd 0 (rd (List.replicate 4 (0 : Int) : List Int) m12 (IntKind.i64.wrap (i - 1))) 1)) x)).set 1 (rd 0 m5 (rd 0 (rd (List.replicate 4 (0 : Int) : List Int) m12 (IntKind.i64.wrap (i - 1))) 2))).set 2 (rd 0 m5 (rd 0 (rd (List.replicate 4 (0 : Int) : List Int) m12 (IntKind.i64.wrap (i - 1))) 3))).set 3 (rd 0 m5 (rd 0 (rd (List.replicate 4 (0 : Int) : List Int) m12 (IntKind.i64.wrap (i - 1))) 0))), m1, m2, m3, m4, m5, m6, m7, m8, m9, m10, m11, m12, m13, ())).bind fun (nk1, x1, i1, m14, n1, m15, m16, m17, m18, m19, m20, m21, m22, m23, m24, m25, m26, m27, m28, ()) =>
   bif decide (m27.length + ([m15] : List (List Int)).length < 17592186044416) then
   self (nk1, x1, (IntKind.i64.wrap (i1 + 1)), m14, n1, m16, m17, m18, m19, m20, m21, m22, m23, m24, m25, m26, (m27 ++ ([m15] : List (List Int))), m28, ()) else none else none else none else none else none
  else
   bif ((!(decide (nk = 8))) || true) then
   bif ((decide (nk = 8)) && (decide ((i.tmod 8) = 4))) then
    bif inB (rd 0 (rd (List.replicate 4 (0 : Int) : List Int) m12 (IntKind.i64.wrap (i - 1))) 0) 256 then
    bif inB (rd 0 (rd (List.replicate 4 (0 : Int) : List Int) m12 (IntKind.i64.wrap (i - 1))) 1) 256 then
    bif inB (rd 0 (rd (List.replicate 4 (0 : Int) : List Int) m12 (IntKind.i64.wrap (i - 1))) 2) 256 then
    bif inB (rd 0 (rd (List.replicate 4 (0 : Int) : List Int) m12 (IntKind.i64.wrap (i - 1))) 3) 256 then
    (aes_Stream.l3 m_ (nk, x, i, 0, m, n, (((((List.replicate 4 (0 : Int) : List Int).set 0 (rd 0 m5 (rd 0 (rd (List.replicate 4 (0 : Int) : List Int) m12 (IntKind.i64.wrap (i - 1))) 0))).set 1 (rd 0 m5 (rd 0 (rd (List.replicate 4 (0 : Int) : List Int) m12 (IntKind.i64.wrap (i - 1))) 1))).set 2 (rd 0 m5 (rd 0 (rd (List.replicate 4 (0 : Int) : List Int) m12 (IntKind.i64.wrap (i - 1))) 2))).set 3 (rd 0 m5 (rd 0 (rd (List.replicate 4 (0 : Int) : List Int) m12 (IntKind.i64.wrap (i - 1))) 3))), m1, m2, m3, m4, m5, m6, m7, m8, m9, m10, m11, m12, m13, ())).bind fun (nk2, x2, i2, m29, n2, m30, m31, m32, m33, m34, m35, m36, m37, m38, m39, m40, m41, m42, m43, ()) =>
    bif decide (m42.length + ([m30] : List (List Int)).length < 17592186044416) then
    self (nk2, x2, (IntKind.i64.wrap (i2 + 1)), m29, n2, m31, m32, m33, m34, m35, m36, m37, m38, m39, m40, m41, (m42 ++ ([m30] : List (List Int))), m43, ()) else none else none else none else none else none
   else
    (aes_Stream.l3 m_ (nk, x, i, 0, m, n, (rd (List.replicate 4 (0 : Int) : List Int) m12 (IntKind.i64.wrap (i - 1))), m1, m2, m3, m4, m5, m6, m7, m8, m9, m10, m11, m12, m13, ())).bind fun (nk3, x3, i3, m44, n3, m45, m46, m47, m48, m49, m50, m51, m52, m53, m54, m55, m56, m57, m58, ()) =>
    bif decide (m57.length + ([m45] : List (List Int)).length < 17592186044416) then
    self (nk3, x3, (IntKind.i64.wrap (i3 + 1)), m44, n3, m46, m47, m48, m49, m50, m51, m52, m53, m54, m55, m56, (m57 ++ ([m45] : List (List Int))), m58, ()) else none else none else none else none
 else
  some (m, n, m1, m2, m3, m4, m5, m6, m7, m8, m9, m10, m11, m12, m13, ())
theorem k4 (m_ : Mode) : KS P (O m_) inl e4 x4 [g3 m_] (b4 m_) := by
  intro self v_; kernel_rfl
def l4 (m_ : Mode) : A4 → Option B4 := loop m_ (b4 m_)
theorem q4 (v) : l4 .lim v = b4 .lim (l4 .lim) v := KS.q (k4 .lim) v
def g4 (m_ : Mode) : Seg := ⟨e4, x4, l4 m_⟩
theorem s4 (m_ : Mode) (S0 w0 cs0) : SegGood P S0 w0 cs0 125 (g4 m_) := seg_ok m_ (Ok m_) (ac (s3 m_ S0 w0 cs0) (an)) (by rfl) (by rfl) (k4 m_)
def p33 : Path := [.r, .r, .r, .r, .r, .r, .r, .l]
def e5 : Spec := ⟨[⟨161, [.c [.r, .l, .l], .p [.r, .l, .l], .b 0], [(0, .fn (.yield 0) []), (1, .ptr 1 0), (2, .ptr 2 0), (4, .w)], none, [], false⟩, ⟨144, [.inRange 0, .b 6], [], none, [.mark 3, .mark 4], false⟩, f15, ⟨148, [.g [.r, .r, .r, .l, .r] [1]], [], none, [.call 157 [.ptr 5 1, .b], .call 156 [.ptr 5 2]], false⟩, f3, f4, ⟨130, [.g [.r, .l] [1], .c [.r, .r]], [(2, .ptr 6 0), (3, .ptr 7 0), (4, .ptr 8 0)], none, [], false⟩, ⟨125, [.g p5 [2,3,4], .c p6, .b 1, .p p7, .b 0, .c p8], [(2, .w), (8, .ptr 5 0), (10, .ptr 9 0), (11, .own 10 (.int .u8))], none, [], false⟩], [(0, .loop .ready none 144 [(1, .ptr 11 0)] [138] p33 3), (1, .c [.own 12 (.arr 4 (.int .u8))]), (2, .c [.w]), (3, .deferred false), (4, .deferred false), (5, o17), (6, .c [.ptr 5 0]), (7, o10), (8, o10), (9, o10), (10, .d [.row (.int .u8)]), (11, .d [.ptr 5 0]), (12, .d [.row (.arr 4 (.int .u8))]), (13, o11)], 14⟩
def x5 : List Spec := [⟨[⟨161, [], [], none, [], false⟩, ⟨144, [.inRange 0, .b 6], [], none, [.mark 1, .mark 2], false⟩, f15, f29, f3, f4, f30, ⟨125, [.g p5 [2,3,4], .c p6, .b 1, .p p7, .b 0, .c p8], [(2, .w), (8, .ptr 3 0), (10, .ptr 7 0), (11, .own 8 (.int .u8))], none, [], false⟩], [(0, .loop .ready none 144 [(1, .ptr 9 0)] [138] p33 1), (1, .deferred false), (2, .deferred false), (3, o32), (4, .c [.ptr 3 0]), (5, o10), (6, o10), (7, o10), (8, .d [.row (.int .u8)]), (9, .d [.ptr 3 0]), (10, o11)], 11⟩]
abbrev A5 : Type := Int × Bool × Int × Int × LI × Int × Int × Int × LI × LI × LL × LI × LI × LI × LI × LL × LL × Unit
abbrev B5 : Type := (Bool × Int × LI × Int × Int × Int × LI × LI × LL × LI × LI × LI × LI × LL × Unit)
def b5 (m_ : Mode) (self : A5 → Option B5) : A5 → Option B5 := fun v_ => match v_ with
| (i, m, n, m1, m2, m3, m4, m5, m6, m7, m8, m9, m10, m11, m12, m13, m14, ()) =>
 bif smallI (m13.length : Int) then
 bif decide (i < (m13.length : Int)) then
  bif cutB i (m13.length : Int) (m13.length : Int) then
  bif smallI ((m13.length : Int) - i) then
  bif ((cutB i (IntKind.i64.wrap (i + (mn m1 ((m13.length : Int) - i)))) (IntKind.i64.wrap (i + (mn m1 ((m13.length : Int) - i))))) && (decide ((IntKind.i64.wrap (i + (mn m1 ((m13.length : Int) - i)))) ≤ (m13.length : Int)))) then
  bif inB 0 ((cut m13 i (IntKind.i64.wrap (i + (mn m1 ((m13.length : Int) - i))))).length : Int) then
  bif inB 1 ((cut m13 i (IntKind.i64.wrap (i + (mn m1 ((m13.length : Int) - i))))).length : Int) then
  bif inB 2 ((cut m13 i (IntKind.i64.wrap (i + (mn m1 ((m13.length : Int) - i))))).length : Int) then
  bif inB 3 ((cut m13 i (IntKind.i64.wrap (i + (mn m1 ((m13.length : Int) - i))))).length : Int) then
  (slices_Concat_byte_byte.run m_ (([(cut (rd (List.replicate 4 (0 : Int) : List Int) (cut m13 i (IntKind.i64.wrap (i + (mn m1 ((m13.length : Int) - i))))) 0) 0 4), (cut (rd (List.replicate 4 (0 : Int) : List Int) (cut m13 i (IntKind.i64.wrap (i + (mn m1 ((m13.length : Int) - i))))) 1) 0 4), (cut (rd (List.replicate 4 (0 : Int) : List Int) (cut m13 i (IntKind.i64.wrap (i + (mn m1 ((m13.length : Int) - i))))) 2) 0 4), (cut (rd (List.replicate 4 (0 : Int) : List Int) (cut m13 i (IntKind.i64.wrap (i + (mn m1 ((m13.length : Int) - i))))) 3) 0 4)] : List (List Int)), ())).bind fun r =>
  bif (Nat.ble 1 16 && Nat.ble 16 r.length) then
  bif decide (m14.length + ([(r.take 16)] : List (List Int)).length < 4398046511104) then
  self ((IntKind.i64.wrap (i + m1)), m, n, m1, m2, m3, m4, m5, m6, m7, m8, m9, m10, m11, m12, m13, (m14 ++ ([(r.take 16)] : List (List Int))), ()) else none else none else none else none else none else none else none else none else none
 else
  some (m, n, m2, m3, m4, m5, m6, m7, m8, m9, m10, m11, m12, m14, ()) else none
theorem k5 (m_ : Mode) : KS P (O m_) inl e5 x5 [] (b5 m_) := by
  intro self v_; kernel_rfl
def l5 (m_ : Mode) : A5 → Option B5 := loop m_ (b5 m_)
theorem q5 (v) : l5 .lim v = b5 .lim (l5 .lim) v := KS.q (k5 .lim) v
def g5 (m_ : Mode) : Seg := ⟨e5, x5, l5 m_⟩
theorem s5 (m_ : Mode) (S0 w0 cs0) : SegGood P S0 w0 cs0 125 (g5 m_) := seg_ok m_ (Ok m_) (an) (by rfl) (by rfl) (k5 m_)
def o34 : OSpec := .c [.s, .dat (.int .u32), .dat (.int .i32), .dat (.int .u32), .dat (.arr 256 (.int .u8)), .dat (.arr 256 (.int .u8)), .dat (.arr 16 (.arr 256 (.int .u8))), .own 6 (.arr 16 (.int .u8))]
def e6 : Spec := ⟨[⟨133, [.c []], [(0, .ptr 0 0)], none, [], false⟩, ⟨130, [.g [.r, .l] [1], .c [.r, .r]], [(2, .ptr 1 0), (3, .ptr 2 0), (4, .ptr 3 0)], none, [], false⟩, ⟨125, [.g p5 [2,3,4], .c p6, .b 1, .p p7, .b 0, .c p8], [(2, .w), (8, .ptr 0 0), (10, .ptr 4 0), (11, .own 5 (.int .u8))], none, [], false⟩], [(0, o34), (1, .c [.ptr 0 0]), (2, o10), (3, o10), (4, o10), (5, .d [.row (.int .u8)]), (6, o11)], 7⟩
def x6 : List Spec := [⟨[⟨133, [], [], none, [], false⟩, ⟨130, [.g [.r, .l] [1], .c [.r, .r]], [(2, .ptr 0 0), (3, .ptr 1 0), (4, .ptr 2 0)], none, [], false⟩, ⟨125, [.g p5 [2,3,4], .c p6, .b 1, .p p7, .b 0, .c p8], [(2, .w), (8, .ptr 3 0), (10, .ptr 4 0), (11, .own 5 (.int .u8))], none, [], false⟩], [(0, .c [.ptr 3 0]), (1, o10), (2, o10), (3, o34), (4, o10), (5, .d [.row (.int .u8)]), (6, o11)], 7⟩]
abbrev A6 : Type := Int × LI × Int × Int × Int × LI × LI × LL × LI × LI × LI × LI × LL × Unit
abbrev B6 : Type := (Int × LI × LI × LI × Int × Int × Int × LI × LI × LL × LI × LI × LL × Unit)
def b6 (m_ : Mode) (self : A6 → Option B6) : A6 → Option B6 := fun v_ => match v_ with
| (n, m, m1, m2, m3, m4, m5, m6, m7, m8, m9, m10, m11, ()) =>
 bif !(!(decide (m1 = 0))) then
  bif decide (m2 = 0) then
  bif !(!(decide (m1 = 0))) then
   (aes_Stream.l1 m_ (0, true, n, m, m1, (bif decide (m2 = 0) then 1 else m2), m3, m4, m5, m6, m7, m8, m9, m10, m11, ())).bind fun (m12, n1, m13, m14, m15, m16, m17, m18, m19, m20, m21, m22, m23, m24, ()) =>
   bif smallI (m13.length : Int) then
   (aes_Stream.l2 m_ (0, (IntKind.i64.wrap ((m13.length : Int).tdiv 4)), m12, n1, 4, m13, m14, m15, m16, m17, m18, m19, m20, m21, m22, m23, m13, ([] : List (List Int)), m24, ())).bind fun (nk, m25, n2, m26, m27, m28, m29, m30, m31, m32, m33, m34, m35, m36, m37, m38, ()) =>
   (aes_Stream.l4 m_ (nk, 1, nk, m25, n2, m26, m27, m28, m29, m30, m31, m32, m33, m34, m35, m36, m37, m38, ())).bind fun (m39, n3, m40, m41, m42, m43, m44, m45, m46, m47, m48, m49, m50, m51, m52, ()) =>
   (aes_Stream.l5 m_ (0, m39, n3, 4, m40, m41, m42, m43, m44, m45, m46, m47, m48, m49, m50, m51, m52, ())).bind fun (m53, n4, m54, m55, m56, m57, m58, m59, m60, m61, m62, m63, m64, m65, ()) =>
   (sync_atomic_b32.run m_ (m53, ())).bind fun r =>
   bif !(decide ((IntKind.i32.wrap (m56 + (-1))) = 0)) then
    none
   else
    some (n4, m61, m62, m54, r, (IntKind.i32.wrap (m56 + (-1))), m57, m58, m59, m60, m63, m64, m65, ()) else none
  else
   bif !(decide ((IntKind.i32.wrap ((bif decide (m2 = 0) then 1 else m2) + (-1))) = 0)) then
    none
   else
    some (n, m7, m8, m, m1, (IntKind.i32.wrap ((bif decide (m2 = 0) then 1 else m2) + (-1))), m3, m4, m5, m6, m9, m10, m11, ()) else none
 else
  some (n, m7, m8, m, m1, m2, m3, m4, m5, m6, m9, m10, m11, ())
theorem k6 (m_ : Mode) : KS P (O m_) inl e6 x6 [g1 m_, g2 m_, g4 m_, g5 m_] (b6 m_) := by
  intro self v_; kernel_rfl
def l6 (m_ : Mode) : A6 → Option B6 := loop m_ (b6 m_)
theorem q6 (v) : l6 .lim v = b6 .lim (l6 .lim) v := KS.q (k6 .lim) v
def g6 (m_ : Mode) : Seg := ⟨e6, x6, l6 m_⟩
theorem s6 (m_ : Mode) (S0 w0 cs0) : SegGood P S0 w0 cs0 125 (g6 m_) := seg_ok m_ (Ok m_) (ac (s1 m_ S0 w0 cs0) (ac (s2 m_ S0 w0 cs0) (ac (s4 m_ S0 w0 cs0) (ac (s5 m_ S0 w0 cs0) (an))))) (by rfl) (by rfl) (k6 m_)
def f35 : FSpec := ⟨134, [.c [.r, .r, .l, .l], .p [.r, .r, .l, .l], .b 0], [(0, .ptr 0 0), (3, .ptr 1 0), (5, .w)], none, [], false⟩
def f36 : FSpec := ⟨134, [], [], none, [], false⟩
def e7 : Spec := ⟨[f35, ⟨130, [.g [.r, .r, .l] [6], .c [.r, .r, .r]], [(2, .ptr 2 0), (3, .ptr 0 0), (4, .ptr 3 0)], none, [], false⟩, ⟨125, [.g p5 [2,3,4], .c p6, .b 1, .p p7, .b 0, .c p8], [(2, .w), (8, .ptr 4 0), (10, .ptr 5 0), (11, .own 6 (.int .u8))], none, [], false⟩], [(0, o10), (1, o10), (2, .c [.ptr 4 0]), (3, o10), (4, o14), (5, o10), (6, .d [.row (.int .u8)]), (7, o11)], 8⟩
def x7 : List Spec := [⟨[f36, ⟨130, [.g [.r, .r, .l] [6], .c [.r, .r, .r]], [(2, .ptr 0 0), (3, .ptr 1 0), (4, .ptr 2 0)], none, [], false⟩, ⟨125, [.g p5 [2,3,4], .c p6, .b 1, .p p7, .b 0, .c p8], [(2, .w), (8, .ptr 3 0), (10, .ptr 4 0), (11, .own 5 (.int .u8))], none, [], false⟩], [(0, .c [.ptr 3 0]), (1, o10), (2, o10), (3, o34), (4, o10), (5, .d [.row (.int .u8)]), (6, o11)], 7⟩]
abbrev A7 : Type := Int × Int × LI × LI × LI × LI × Int × Int × Int × LI × LI × LL × LI × LI × LL × Unit
abbrev B7 : Type := (Int × LI × LI × LI × Int × Int × Int × LI × LI × LL × LI × LI × LL × Unit)
def b7 (m_ : Mode) (self : A7 → Option B7) : A7 → Option B7 := fun v_ => match v_ with
| (t, n, m, m1, m2, m3, m4, m5, m6, m7, m8, m9, m10, m11, m12, ()) =>
 bif decide (t < 16) then
  bif inB t 16 then
  bif inB t 16 then
  bif inB t 16 then
  self ((IntKind.i64.wrap (t + 1)), n, (m.set t.toNat (ixor .u8 (rd 0 m t) (rd 0 m1 t))), m1, m2, m3, m4, m5, m6, m7, m8, m9, m10, m11, m12, ()) else none else none else none
 else
  some (n, m, m2, m3, m4, m5, m6, m7, m8, m9, m10, m11, m12, ())
theorem k7 (m_ : Mode) : KS P (O m_) inl e7 x7 [] (b7 m_) := by
  intro self v_; kernel_rfl
def l7 (m_ : Mode) : A7 → Option B7 := loop m_ (b7 m_)
theorem q7 (v) : l7 .lim v = b7 .lim (l7 .lim) v := KS.q (k7 .lim) v
def g7 (m_ : Mode) : Seg := ⟨e7, x7, l7 m_⟩
theorem s7 (m_ : Mode) (S0 w0 cs0) : SegGood P S0 w0 cs0 125 (g7 m_) := seg_ok m_ (Ok m_) (an) (by rfl) (by rfl) (k7 m_)
def p37 : Path := [.r, .r, .r, .l, .r, .l, .r, .l, .l]
def p38 : Path := [.r, .r, .r, .l, .r, .l, .r, .l, .r]
def p39 : Path := [.r, .l, .l, .r, .r, .l, .l, .r, .l]
def p40 : Path := [.r, .l, .l, .r, .r, .l, .l, .r, .r]
def f41 : FSpec := ⟨130, [.inRange 4, .b 0, .c [.r, .r, .r, .r]], [(3, .ptr 0 0), (4, .ptr 7 0)], none, [.mark 8], false⟩
def f42 : FSpec := ⟨130, [.inRange 3, .b 0, .c [.r, .r, .r, .r]], [(3, .ptr 1 0), (4, .ptr 6 0)], none, [.mark 7], false⟩
def o43 : OSpec := .c [.s, .dat (.int .u32), .dat (.int .i32), .dat (.int .u32), .dat (.arr 256 (.int .u8)), .dat (.arr 256 (.int .u8)), .dat (.arr 16 (.arr 256 (.int .u8))), .own 5 (.arr 16 (.int .u8))]
def e8 : Spec := ⟨[⟨136, [.c [.r, .l, .l], .p [.r, .l, .l], .b 0], [(0, .ptr 0 0), (1, .ptr 1 4), (6, .ptr 0 0), (7, .w)], none, [], false⟩, ⟨130, [.g p37 [3], .c p38, .b 1], [(2, .ptr 2 0), (3, .ptr 0 0), (5, .ptr 3 0), (6, .b)], some 4, [], false⟩, ⟨145, [.g p39 [10,11], .c p40, .b 1, .c p1, .p [.r, .l, .l], .b 0], [(0, .fn (.yield 4) []), (1, .ptr 5 0), (9, .slc 6 0 none (.arr 16 (.int .u8))), (10, .w), (11, .w)], none, [], false⟩, f41, ⟨125, [.g p5 [2,3,4], .c p6, .b 1, .p p7, .b 0, .c p8], [(2, .w), (8, .ptr 1 0), (10, .ptr 9 0), (11, .own 10 (.int .u8))], none, [], false⟩], [(0, o10), (1, o34), (2, .c [.ptr 1 0]), (3, o10), (4, .loop .busy none 130 [(2, .ptr 2 0), (3, .ptr 0 0)] [18, 19] p16 8), (5, .c [.ptr 1 0]), (6, o11), (7, o10), (8, .deferred false), (9, o10), (10, .d [.row (.int .u8)])], 11⟩
def x8 : List Spec := [⟨[⟨136, [], [], none, [], false⟩, ⟨130, [.g p37 [3], .c p38, .b 1], [(2, .ptr 0 0), (3, .ptr 1 0), (5, .ptr 2 0), (6, .b)], some 3, [], false⟩, ⟨145, [.g p39 [10,11], .c p40, .b 1, .c p1, .p [.r, .l, .l], .b 0], [(0, .fn (.yield 3) []), (1, .ptr 4 0), (9, .slc 5 0 none (.arr 16 (.int .u8))), (10, .w), (11, .w)], none, [], false⟩, f42, ⟨125, [.g p5 [2,3,4], .c p6, .b 1, .p p7, .b 0, .c p8], [(2, .w), (8, .ptr 8 0), (10, .ptr 9 0), (11, .own 10 (.int .u8))], none, [], false⟩], [(0, .c [.ptr 8 0]), (1, o10), (2, o10), (3, .loop .busy none 130 [(2, .ptr 0 0), (3, .ptr 1 0)] [18, 19] p16 7), (4, .c [.ptr 8 0]), (5, o11), (6, o10), (7, .deferred false), (8, o43), (9, o10), (10, .d [.row (.int .u8)])], 11⟩]
abbrev A8 : Type := Int × Bool × Int × Int × Int × Int × Int × LI × LI × Int × Int × Int × LI × LI × LL × LI × LL × LI × LI × LI × Unit
abbrev B8 : Type := (Bool × Int × Int × Int × Int × Int × LI × LI × LL × LI × LI × Int × Int × Int × LI × LI × LL × LI × LI × Unit)
def b8 (m_ : Mode) (self : A8 → Option B8) : A8 → Option B8 := fun v_ => match v_ with
| (t, last, tp, tq, t1, t2, n, m, m1, m2, m3, m4, m5, m6, m7, m8, m9, m10, m11, m12, ()) =>
 bif decide (t < 16) then
  bif inB t 16 then
  bif inB (rd 0 m t) 256 then
  bif inB t 16 then
  self ((IntKind.i64.wrap (t + 1)), last, tp, tq, t1, t2, n, (m.set t.toNat (rd 0 m5 (rd 0 m t))), m1, m2, m3, m4, m5, m6, m7, m8, m9, m10, m11, m12, ()) else none else none else none
 else
  some (last, tp, tq, t1, t2, n, m, m8, m9, m10, m1, m2, m3, m4, m5, m6, m7, m11, m12, ())
theorem k8 (m_ : Mode) : KS P (O m_) inl e8 x8 [] (b8 m_) := by
  intro self v_; kernel_rfl
def l8 (m_ : Mode) : A8 → Option B8 := loop m_ (b8 m_)
theorem q8 (v) : l8 .lim v = b8 .lim (l8 .lim) v := KS.q (k8 .lim) v
def g8 (m_ : Mode) : Seg := ⟨e8, x8, l8 m_⟩
theorem s8 (m_ : Mode) (S0 w0 cs0) : SegGood P S0 w0 cs0 125 (g8 m_) := seg_ok m_ (Ok m_) (an) (by rfl) (by rfl) (k8 m_)
def p44 : Path := [.r, .r, .r, .l, .r, .l, .r, .l, .r, .l]
def p45 : Path := [.r, .r, .r, .l, .r, .l, .r, .l, .r, .r]
def e9 : Spec := ⟨[⟨137, [.c [.r, .r, .l, .l], .p [.r, .r, .l, .l], .b 0], [(0, .ptr 0 0), (1, .w), (4, .ptr 1 0), (9, .w)], none, [], false⟩, ⟨130, [.g p44 [0], .c p45, .b 1], [(2, .ptr 2 0), (3, .ptr 0 0), (5, .ptr 3 0), (6, .b)], some 4, [], false⟩, ⟨145, [.g p39 [10,11], .c p40, .b 1, .c p1, .p [.r, .l, .l], .b 0], [(0, .fn (.yield 4) []), (1, .ptr 5 0), (9, .slc 6 0 none (.arr 16 (.int .u8))), (10, .w), (11, .w)], none, [], false⟩, f41, ⟨125, [.g p5 [2,3,4], .c p6, .b 1, .p p7, .b 0, .c p8], [(2, .w), (8, .ptr 9 0), (10, .ptr 10 0), (11, .own 11 (.int .u8))], none, [], false⟩], [(0, o10), (1, o10), (2, .c [.ptr 9 0]), (3, o10), (4, .loop .busy none 130 [(2, .ptr 2 0), (3, .ptr 0 0)] [18, 19] p16 8), (5, .c [.ptr 9 0]), (6, o11), (7, o10), (8, .deferred false), (9, o34), (10, o10), (11, .d [.row (.int .u8)])], 12⟩
def x9 : List Spec := [⟨[⟨137, [], [], none, [], false⟩, ⟨130, [.g p44 [0], .c p45, .b 1], [(2, .ptr 0 0), (3, .ptr 1 0), (5, .ptr 2 0), (6, .b)], some 3, [], false⟩, ⟨145, [.g p39 [10,11], .c p40, .b 1, .c p1, .p [.r, .l, .l], .b 0], [(0, .fn (.yield 3) []), (1, .ptr 4 0), (9, .slc 5 0 none (.arr 16 (.int .u8))), (10, .w), (11, .w)], none, [], false⟩, f42, ⟨125, [.g p5 [2,3,4], .c p6, .b 1, .p p7, .b 0, .c p8], [(2, .w), (8, .ptr 8 0), (10, .ptr 9 0), (11, .own 10 (.int .u8))], none, [], false⟩], [(0, .c [.ptr 8 0]), (1, o10), (2, o10), (3, .loop .busy none 130 [(2, .ptr 0 0), (3, .ptr 1 0)] [18, 19] p16 7), (4, .c [.ptr 8 0]), (5, o11), (6, o10), (7, .deferred false), (8, o43), (9, o10), (10, .d [.row (.int .u8)])], 11⟩]
abbrev A9 : Type := Int × Int × Bool × Int × Int × Int × Int × Int × LI × LI × LI × LL × LI × LI × Int × Int × Int × LI × LI × LL × LI × LI × Unit
abbrev B9 : Type := (Bool × Int × Int × Int × Int × Int × LI × LI × LL × LI × LI × Int × Int × Int × LI × LI × LL × LI × LI × Unit)
def b9 (m_ : Mode) (self : A9 → Option B9) : A9 → Option B9 := fun v_ => match v_ with
| (byV, t, last, tp, tq, t1, t2, n, m, m1, m2, m3, m4, m5, m6, m7, m8, m9, m10, m11, m12, m13, ()) =>
 bif decide (t < 16) then
  bif inB ((IntKind.i64.wrap ((IntKind.i64.wrap (t + (IntKind.i64.wrap (byV * (t.tmod 4))))) + 64)).tmod 16) 16 then
  bif inB t 16 then
  self (byV, (IntKind.i64.wrap (t + 1)), last, tp, tq, t1, t2, n, (m.set t.toNat (rd 0 m1 ((IntKind.i64.wrap ((IntKind.i64.wrap (t + (IntKind.i64.wrap (byV * (t.tmod 4))))) + 64)).tmod 16))), m1, m2, m3, m4, m5, m6, m7, m8, m9, m10, m11, m12, m13, ()) else none else none
 else
  some (last, tp, tq, t1, t2, n, m, m2, m3, m4, m5, m6, m7, m8, m9, m10, m11, m12, m13, ())
theorem k9 (m_ : Mode) : KS P (O m_) inl e9 x9 [] (b9 m_) := by
  intro self v_; kernel_rfl
def l9 (m_ : Mode) : A9 → Option B9 := loop m_ (b9 m_)
theorem q9 (v) : l9 .lim v = b9 .lim (l9 .lim) v := KS.q (k9 .lim) v
def g9 (m_ : Mode) : Seg := ⟨e9, x9, l9 m_⟩
theorem s9 (m_ : Mode) (S0 w0 cs0) : SegGood P S0 w0 cs0 125 (g9 m_) := seg_ok m_ (Ok m_) (an) (by rfl) (by rfl) (k9 m_)
def p46 : Path := [.r, .r, .r, .l, .l, .r, .r, .l, .l, .r, .r, .r, .l, .l]
def p47 : Path := [.r, .r, .r, .l, .l, .r, .r, .r]
def p48 : Path := [.r, .r, .r, .l, .r, .l, .r, .l, .r, .r, .l, .r, .l]
def p49 : Path := [.r, .r, .r, .l, .r, .l, .r, .l, .r, .r, .r]
def f50 : FSpec := ⟨130, [.inRange 5, .b 0, .c [.r, .r, .r, .r]], [(3, .ptr 1 0), (4, .ptr 8 0)], none, [.mark 9], false⟩
def e10 : Spec := ⟨[⟨138, [.c p46, .p p46, .b 2, .b 1, .c p47, .p [.r, .r, .r, .l, .l], .b 0], [(0, .ptr 0 0), (1, .ptr 1 0), (5, .ptr 2 0), (6, .ptr 3 0), (7, .w), (13, .w), (20, .dat (.arr 4 (.int .u8))), (21, .w)], none, [], false⟩, ⟨130, [.g p48 [2], .c p49, .b 1], [(3, .ptr 1 0), (5, .ptr 4 0)], some 5, [], false⟩, ⟨145, [.g p39 [10,11], .c p40, .b 1, .c p1, .p [.r, .l, .l], .b 0], [(0, .fn (.yield 5) []), (1, .ptr 6 0), (9, .slc 7 0 none (.arr 16 (.int .u8))), (10, .w), (11, .w)], none, [], false⟩, f50, ⟨125, [.g p5 [2,3,4], .c p6, .b 1, .p p7, .b 0, .c p8], [(2, .w), (8, .ptr 0 0), (10, .ptr 10 0), (11, .own 11 (.int .u8))], none, [], false⟩], [(0, o14), (1, o10), (2, o28), (3, o10), (4, o10), (5, .loop .busy none 130 [(2, .ptr 12 0), (3, .ptr 1 0)] [18, 19] p16 9), (6, .c [.ptr 0 0]), (7, o11), (8, o10), (9, .deferred false), (10, o10), (11, .d [.row (.int .u8)]), (12, .c [.ptr 0 0])], 13⟩
def x10 : List Spec := [⟨[⟨138, [.c p47, .p [.r, .r, .r, .l, .l], .b 0], [(0, .ptr 0 0), (1, .ptr 1 0), (5, .ptr 2 0), (6, .ptr 3 0), (13, .w)], none, [], false⟩, ⟨130, [.g p48 [2], .c p49, .b 1], [(3, .ptr 1 0), (5, .ptr 4 0)], some 5, [], false⟩, ⟨145, [.g p39 [10,11], .c p40, .b 1, .c p1, .p [.r, .l, .l], .b 0], [(0, .fn (.yield 5) []), (1, .ptr 6 0), (9, .slc 7 0 none (.arr 16 (.int .u8))), (10, .w), (11, .w)], none, [], false⟩, f50, ⟨125, [.g p5 [2,3,4], .c p6, .b 1, .p p7, .b 0, .c p8], [(2, .w), (8, .ptr 0 0), (10, .ptr 10 0), (11, .own 11 (.int .u8))], none, [], false⟩], [(0, o14), (1, o10), (2, o28), (3, o10), (4, o10), (5, .loop .busy none 130 [(2, .ptr 12 0), (3, .ptr 1 0)] [18, 19] p16 9), (6, .c [.ptr 0 0]), (7, o11), (8, o10), (9, .deferred false), (10, o10), (11, .d [.row (.int .u8)]), (12, .c [.ptr 0 0])], 13⟩]
abbrev A10 : Type := Int × Int × LI × Int × Int × Int × Int × Int × Int × LI × Int × Int × Int × LI × LI × LL × LI × LI × LI × LI × LL × LI × LI × LI × Unit
abbrev B10 : Type := (Int × Int × Int × Int × Int × Int × LI × Int × Int × Int × LI × LI × LL × LI × LI × LI × LI × LL × LI × LI × LI × Unit)
def b10 (m_ : Mode) (self : A10 → Option B10) : A10 → Option B10 := fun v_ => match v_ with
| (i, t, t1, t2, tp, tq, t3, t4, n, m, m1, m2, m3, m4, m5, m6, m7, m8, m9, m10, m11, m12, m13, m14, ()) =>
 bif decide (t2 < 4) then
  bif inB t2 4 then
  bif inB i 16 then
  bif inB (IntKind.i64.wrap ((IntKind.i64.wrap ((IntKind.i64.wrap (i.tdiv 4)) * 4)) + ((IntKind.i64.wrap (i + t2)).tmod 4))) 16 then
  bif inB (rd 0 t1 t2) 16 then
  bif inB (rd 0 m9 (IntKind.i64.wrap ((IntKind.i64.wrap ((IntKind.i64.wrap (i.tdiv 4)) * 4)) + ((IntKind.i64.wrap (i + t2)).tmod 4)))) 256 then
  bif inB i 16 then
  self (i, t, t1, (IntKind.i64.wrap (t2 + 1)), tp, tq, t3, t4, n, m, m1, m2, m3, m4, m5, m6, (m7.set i.toNat (ixor .u8 (rd 0 m7 i) (rd 0 (rd (List.replicate 256 (0 : Int) : List Int) m6 (rd 0 t1 t2)) (rd 0 m9 (IntKind.i64.wrap ((IntKind.i64.wrap ((IntKind.i64.wrap (i.tdiv 4)) * 4)) + ((IntKind.i64.wrap (i + t2)).tmod 4))))))), m8, m9, m10, m11, m12, m13, m14, ()) else none else none else none else none else none else none
 else
  some (t, tp, tq, t3, t4, n, m, m1, m2, m3, m4, m5, m6, m7, m8, m9, m10, m11, m12, m13, m14, ())
theorem k10 (m_ : Mode) : KS P (O m_) inl e10 x10 [] (b10 m_) := by
  intro self v_; kernel_rfl
def l10 (m_ : Mode) : A10 → Option B10 := loop m_ (b10 m_)
theorem q10 (v) : l10 .lim v = b10 .lim (l10 .lim) v := KS.q (k10 .lim) v
def g10 (m_ : Mode) : Seg := ⟨e10, x10, l10 m_⟩
theorem s10 (m_ : Mode) (S0 w0 cs0) : SegGood P S0 w0 cs0 125 (g10 m_) := seg_ok m_ (Ok m_) (an) (by rfl) (by rfl) (k10 m_)
def f51 : FSpec := ⟨130, [.inRange 2, .b 0, .c [.r, .r, .r, .r]], [(3, .ptr 0 0), (4, .ptr 5 0)], none, [.mark 6], false⟩
def o52 : OSpec := .c [.s, .dat (.int .u32), .dat (.int .i32), .dat (.int .u32), .dat (.arr 256 (.int .u8)), .dat (.arr 256 (.int .u8)), .dat (.arr 16 (.arr 256 (.int .u8))), .own 4 (.arr 16 (.int .u8))]
def e11 : Spec := ⟨[⟨138, [.c [.r, .r, .r, .l, .l], .p [.r, .r, .r, .l, .l], .b 0], [(0, .ptr 0 0), (1, .ptr 1 0), (5, .ptr 2 0), (6, .ptr 3 0), (13, .w)], none, [], false⟩, ⟨130, [.g p48 [2], .c p49, .b 1], [(3, .ptr 1 0), (5, .ptr 4 0)], some 5, [], false⟩, ⟨145, [.g p39 [10,11], .c p40, .b 1, .c p1, .p [.r, .l, .l], .b 0], [(0, .fn (.yield 5) []), (1, .ptr 6 0), (9, .slc 7 0 none (.arr 16 (.int .u8))), (10, .w), (11, .w)], none, [], false⟩, f50, ⟨125, [.g p5 [2,3,4], .c p6, .b 1, .p p7, .b 0, .c p8], [(2, .w), (8, .ptr 0 0), (10, .ptr 10 0), (11, .own 11 (.int .u8))], none, [], false⟩], [(0, o14), (1, o10), (2, o28), (3, o10), (4, o10), (5, .loop .busy none 130 [(2, .ptr 12 0), (3, .ptr 1 0)] [18, 19] p16 9), (6, .c [.ptr 0 0]), (7, o11), (8, o10), (9, .deferred false), (10, o10), (11, .d [.row (.int .u8)]), (12, .c [.ptr 0 0])], 13⟩
def x11 : List Spec := [⟨[⟨138, [], [], none, [], false⟩, ⟨130, [.g p48 [2], .c p49, .b 1], [(3, .ptr 0 0), (5, .ptr 1 0)], some 2, [], false⟩, ⟨145, [.g p39 [10,11], .c p40, .b 1, .c p1, .p [.r, .l, .l], .b 0], [(0, .fn (.yield 2) []), (1, .ptr 3 0), (9, .slc 4 0 none (.arr 16 (.int .u8))), (10, .w), (11, .w)], none, [], false⟩, f51, ⟨125, [.g p5 [2,3,4], .c p6, .b 1, .p p7, .b 0, .c p8], [(2, .w), (8, .ptr 7 0), (10, .ptr 8 0), (11, .own 9 (.int .u8))], none, [], false⟩], [(0, o10), (1, o10), (2, .loop .busy none 130 [(2, .ptr 10 0), (3, .ptr 0 0)] [18, 19] p16 6), (3, .c [.ptr 7 0]), (4, o11), (5, o10), (6, .deferred false), (7, o52), (8, o10), (9, .d [.row (.int .u8)]), (10, .c [.ptr 7 0])], 11⟩]
abbrev A11 : Type := Int × Int × Int × Int × Int × Int × LI × Int × Int × Int × LI × LI × LL × LI × LI × LI × LI × LL × LI × LI × LI × Unit
abbrev B11 : Type := (Int × Int × Int × Int × Int × LI × LI × LL × LI × LI × Int × Int × Int × LI × LI × LL × LI × LI × Unit)
def b11 (m_ : Mode) (self : A11 → Option B11) : A11 → Option B11 := fun v_ => match v_ with
| (t, tp, tq, t1, t2, n, m, m1, m2, m3, m4, m5, m6, m7, m8, m9, m10, m11, m12, m13, m14, ()) =>
 bif decide (t < 16) then
  bif inB t 16 then
  (aes_Stream.l10 m_ (t, t, m8, 0, tp, tq, t1, t2, n, m, m1, m2, m3, m4, m5, m6, (m7.set t.toNat 0), m8, m9, m10, m11, m12, m13, m14, ())).bind fun (t3, tp1, tq1, t4, t5, n1, m15, m16, m17, m18, m19, m20, m21, m22, m23, m24, m25, m26, m27, m28, m29, ()) =>
  self ((IntKind.i64.wrap (t3 + 1)), tp1, tq1, t4, t5, n1, m15, m16, m17, m18, m19, m20, m21, m22, m23, m24, m25, m26, m27, m28, m29, ()) else none
 else
  some (tp, tq, t1, t2, n, m7, m10, m11, m12, m, m1, m2, m3, m4, m5, m6, m13, m14, ())
theorem k11 (m_ : Mode) : KS P (O m_) inl e11 x11 [g10 m_] (b11 m_) := by
  intro self v_; kernel_rfl
def l11 (m_ : Mode) : A11 → Option B11 := loop m_ (b11 m_)
theorem q11 (v) : l11 .lim v = b11 .lim (l11 .lim) v := KS.q (k11 .lim) v
def g11 (m_ : Mode) : Seg := ⟨e11, x11, l11 m_⟩
theorem s11 (m_ : Mode) (S0 w0 cs0) : SegGood P S0 w0 cs0 125 (g11 m_) := seg_ok m_ (Ok m_) (ac (s10 m_ S0 w0 cs0) (an)) (by rfl) (by rfl) (k11 m_)
def f53 : FSpec := ⟨130, [.inRange 0, .b 0, .c [.r, .r, .r, .r]], [(3, .ptr 3 0), (4, .ptr 4 0)], none, [.mark 5], false⟩
def o54 : OSpec := .c [.s, .dat (.int .u32), .dat (.int .i32), .dat (.int .u32), .dat (.arr 256 (.int .u8)), .dat (.arr 256 (.int .u8)), .dat (.arr 16 (.arr 256 (.int .u8))), .own 2 (.arr 16 (.int .u8))]
def e12 : Spec := ⟨[f35, ⟨130, [.g p49 [1], .b 1], [], some 2, [], false⟩, ⟨145, [.g p39 [10,11], .c p40, .b 1, .c p1, .p [.r, .l, .l], .b 0], [(0, .fn (.yield 2) []), (1, .ptr 3 0), (9, .slc 4 0 none (.arr 16 (.int .u8))), (10, .w), (11, .w)], none, [], false⟩, f51, ⟨125, [.g p5 [2,3,4], .c p6, .b 1, .p p7, .b 0, .c p8], [(2, .w), (8, .ptr 7 0), (10, .ptr 8 0), (11, .own 9 (.int .u8))], none, [], false⟩], [(0, o10), (1, o10), (2, .loop .busy none 130 [(2, .ptr 10 0), (3, .ptr 0 0)] [18, 19] p16 6), (3, .c [.ptr 7 0]), (4, o11), (5, o10), (6, .deferred false), (7, o52), (8, o10), (9, .d [.row (.int .u8)]), (10, .c [.ptr 7 0])], 11⟩
def x12 : List Spec := [⟨[f36, ⟨130, [.g p49 [1], .b 1], [], some 0, [], false⟩, ⟨145, [.g p39 [10,11], .c p40, .b 1, .c p1, .p [.r, .l, .l], .b 0], [(0, .fn (.yield 0) []), (1, .ptr 1 0), (9, .slc 2 0 none (.arr 16 (.int .u8))), (10, .w), (11, .w)], none, [], false⟩, f53, ⟨125, [.g p5 [2,3,4], .c p6, .b 1, .p p7, .b 0, .c p8], [(2, .w), (8, .ptr 6 0), (10, .ptr 7 0), (11, .own 8 (.int .u8))], none, [], false⟩], [(0, .loop .busy none 130 [(2, .ptr 9 0), (3, .ptr 3 0)] [18, 19] p16 5), (1, .c [.ptr 6 0]), (2, o11), (3, o10), (4, o10), (5, .deferred false), (6, o54), (7, o10), (8, .d [.row (.int .u8)]), (9, .c [.ptr 6 0])], 10⟩]
abbrev A12 : Type := Int × Int × Int × Int × Int × Int × LI × LI × LL × LI × LI × Int × Int × Int × LI × LI × LL × LI × LI × Unit
abbrev B12 : Type := (Int × Int × Int × Int × Int × LL × LI × LI × LI × Int × Int × Int × LI × LI × LL × LI × LI × Unit)
def b12 (m_ : Mode) (self : A12 → Option B12) : A12 → Option B12 := fun v_ => match v_ with
| (t, tp, tq, t1, t2, n, m, m1, m2, m3, m4, m5, m6, m7, m8, m9, m10, m11, m12, ()) =>
 bif decide (t < 16) then
  bif inB t 16 then
  bif inB t 16 then
  bif inB t 16 then
  self ((IntKind.i64.wrap (t + 1)), tp, tq, t1, t2, n, (m.set t.toNat (ixor .u8 (rd 0 m t) (rd 0 m1 t))), m1, m2, m3, m4, m5, m6, m7, m8, m9, m10, m11, m12, ()) else none else none else none
 else
  some (tp, tq, t1, t2, n, m2, m, m3, m4, m5, m6, m7, m8, m9, m10, m11, m12, ())
theorem k12 (m_ : Mode) : KS P (O m_) inl e12 x12 [] (b12 m_) := by
  intro self v_; kernel_rfl
def l12 (m_ : Mode) : A12 → Option B12 := loop m_ (b12 m_)
theorem q12 (v) : l12 .lim v = b12 .lim (l12 .lim) v := KS.q (k12 .lim) v
def g12 (m_ : Mode) : Seg := ⟨e12, x12, l12 m_⟩
theorem s12 (m_ : Mode) (S0 w0 cs0) : SegGood P S0 w0 cs0 125 (g12 m_) := seg_ok m_ (Ok m_) (an) (by rfl) (by rfl) (k12 m_)
def e13 : Spec := ⟨[⟨145, [.c [.r, .l, .l], .p [.r, .l, .l], .b 0], [(0, .fn (.yield 0) []), (1, .ptr 1 0), (9, .slc 2 0 none (.arr 16 (.int .u8))), (10, .w), (11, .w)], none, [], false⟩, f53, ⟨125, [.g p5 [2,3,4], .c p6, .b 1, .p p7, .b 0, .c p8], [(2, .w), (8, .ptr 6 0), (10, .ptr 7 0), (11, .own 8 (.int .u8))], none, [], false⟩], [(0, .loop .ready none 130 [(2, .ptr 9 0), (3, .ptr 3 0)] [18, 19] p16 5), (1, .c [.ptr 6 0]), (2, o11), (3, o10), (4, o10), (5, .deferred false), (6, o54), (7, o10), (8, .d [.row (.int .u8)]), (9, .c [.ptr 6 0])], 10⟩
def x13 : List Spec := [⟨[⟨145, [], [], none, [], false⟩, ⟨130, [.inRange 2, .b 0, .c [.r, .r, .r, .r]], [(3, .ptr 0 0), (4, .ptr 1 0)], none, [.mark 3], false⟩, ⟨125, [.g p5 [2,3,4], .c p6, .b 1, .p p7, .b 0, .c p8], [(2, .w), (8, .ptr 4 0), (10, .ptr 5 0), (11, .own 6 (.int .u8))], none, [], false⟩], [(0, o10), (1, o10), (2, .loop .ready none 130 [(2, .ptr 7 0), (3, .ptr 0 0)] [18, 19] p16 3), (3, .deferred false), (4, o9), (5, o10), (6, .d [.row (.int .u8)]), (7, .c [.ptr 4 0]), (8, o11)], 9⟩]
abbrev A13 : Type := Int × Int × Int × Int × Int × LL × LI × LI × LI × Int × Int × Int × LI × LI × LL × LI × LI × Unit
abbrev B13 : Type := (Int × LI × LI × LI × Int × Int × Int × LI × LI × LL × LI × LI × LL × Unit)
def b13 (m_ : Mode) (self : A13 → Option B13) : A13 → Option B13 := fun v_ => match v_ with
| (tp, tq, t, t1, n, m, m1, m2, m3, m4, m5, m6, m7, m8, m9, m10, m11, ()) =>
 bif decide (t1 < t) then
  bif inB t1 tq then
  bif smallI (m.length : Int) then
  (aes_Stream.l8 m_ (0, decide (t1 = (IntKind.i64.wrap ((m.length : Int) - 2))), tp, tq, t, t1, n, m1, m3, m4, m5, m6, m7, m8, m9, (rd (List.replicate 16 (0 : Int) : List Int) m (tp + t1)), m, m2, m10, m11, ())).bind fun (last, tp1, tq1, t2, t3, n1, m12, m13, m14, m15, m16, m17, m18, m19, m20, m21, m22, m23, m24, ()) =>
  (aes_Stream.l9 m_ (4, 0, last, tp1, tq1, t2, t3, n1, m12, m12, m13, m14, m15, m16, m17, m18, m19, m20, m21, m22, m23, m24, ())).bind fun (last1, tp2, tq2, t4, t5, n2, m25, m26, m27, m28, m29, m30, m31, m32, m33, m34, m35, m36, m37, ()) =>
  bif !last1 then
   (aes_Stream.l11 m_ (0, tp2, tq2, t4, t5, n2, m29, m30, m31, m32, m33, m34, m35, m25, (((((List.replicate 4 (0 : Int) : List Int).set 0 2).set 1 3).set 2 1).set 3 1), m25, m26, m27, m28, m36, m37, ())).bind fun (tp3, tq3, t6, t7, n3, m38, m39, m40, m41, m42, m43, m44, m45, m46, m47, m48, m49, m50, ()) =>
   (aes_Stream.l12 m_ (0, tp3, tq3, t6, t7, n3, m38, m39, m40, m41, m42, m43, m44, m45, m46, m47, m48, m49, m50, ())).bind fun (tp4, tq4, t8, t9, n4, m51, m52, m53, m54, m55, m56, m57, m58, m59, m60, m61, m62, ()) =>
   self (tp4, tq4, t8, (IntKind.i64.wrap (t9 + 1)), n4, m51, m52, m53, m54, m55, m56, m57, m58, m59, m60, m61, m62, ())
  else
   (aes_Stream.l12 m_ (0, tp2, tq2, t4, t5, n2, m25, m26, m27, m28, m29, m30, m31, m32, m33, m34, m35, m36, m37, ())).bind fun (tp5, tq5, t10, t11, n5, m63, m64, m65, m66, m67, m68, m69, m70, m71, m72, m73, m74, ()) =>
   self (tp5, tq5, t10, (IntKind.i64.wrap (t11 + 1)), n5, m63, m64, m65, m66, m67, m68, m69, m70, m71, m72, m73, m74, ()) else none else none
 else
  some (n, m1, m2, m3, m4, m5, m6, m7, m8, m9, m10, m11, m, ())
theorem k13 (m_ : Mode) : KS P (O m_) inl e13 x13 [g8 m_, g9 m_, g11 m_, g12 m_] (b13 m_) := by
  intro self v_; kernel_rfl
def l13 (m_ : Mode) : A13 → Option B13 := loop m_ (b13 m_)
theorem q13 (v) : l13 .lim v = b13 .lim (l13 .lim) v := KS.q (k13 .lim) v
def g13 (m_ : Mode) : Seg := ⟨e13, x13, l13 m_⟩
theorem s13 (m_ : Mode) (S0 w0 cs0) : SegGood P S0 w0 cs0 125 (g13 m_) := seg_ok m_ (Ok m_) (ac (s8 m_ S0 w0 cs0) (ac (s9 m_ S0 w0 cs0) (ac (s11 m_ S0 w0 cs0) (ac (s12 m_ S0 w0 cs0) (an))))) (by rfl) (by rfl) (k13 m_)
def o55 : OSpec := .c [.s, .dat (.int .u32), .dat (.int .i32), .dat (.int .u32), .dat (.arr 256 (.int .u8)), .dat (.arr 256 (.int .u8)), .dat (.arr 16 (.arr 256 (.int .u8))), .own 3 (.arr 16 (.int .u8))]
def e14 : Spec := ⟨[⟨130, [.c []], [(0, .ptr 0 0), (1, .dat (.arr 16 (.int .u8)))], none, [], false⟩, ⟨125, [.g p5 [2,3,4], .c p6, .b 1, .p p7, .b 0, .c p8], [(2, .w), (8, .ptr 0 0), (10, .ptr 1 0), (11, .own 2 (.int .u8))], none, [], false⟩], [(0, o55), (1, o10), (2, .d [.row (.int .u8)]), (3, o11)], 4⟩
def x14 : List Spec := [⟨[⟨130, [.c [.r, .r, .r, .r, .r]], [(4, .ptr 0 0)], none, [.mark 1], false⟩, ⟨125, [.g p5 [2,3,4], .c p6, .b 1, .p p7, .b 0, .c p8], [(2, .w), (8, .ptr 2 0), (10, .ptr 3 0), (11, .own 4 (.int .u8))], none, [], false⟩], [(0, o10), (1, .deferred false), (2, o43), (3, o10), (4, .d [.row (.int .u8)]), (5, o11)], 6⟩]
abbrev A14 : Type := LI × Int × LI × Int × Int × Int × LI × LI × LL × LI × LI × LL × Unit
abbrev B14 : Type := (Int × LI × LI × Int × Int × Int × LI × LI × LL × LI × LI × LL × Unit)
def b14 (m_ : Mode) (self : A14 → Option B14) : A14 → Option B14 := fun v_ => match v_ with
| (b, n, m, m1, m2, m3, m4, m5, m6, m7, m8, m9, ()) =>
 (aes_Stream.l6 m_ (n, m, m1, m2, m3, m4, m5, m6, b, (List.replicate 16 (0 : Int)), m7, m8, m9, ())).bind fun (n1, m10, m11, m12, m13, m14, m15, m16, m17, m18, m19, m20, m21, ()) =>
 bif inB 0 (m21.length : Int) then
 (aes_Stream.l7 m_ (0, n1, m10, (rd (List.replicate 16 (0 : Int) : List Int) m21 0), m11, m12, m13, m14, m15, m16, m17, m18, m19, m20, m21, ())).bind fun (n2, m22, m23, m24, m25, m26, m27, m28, m29, m30, m31, m32, m33, ()) =>
 bif cutB 1 (m33.length : Int) (m33.length : Int) then
 bif smallI ((m33.length : Int) - 1) then
 (aes_Stream.l13 m_ (1, ((m33.length : Int) - 1), ((m33.length : Int) - 1), 0, n2, m33, m22, m23, m24, m25, m26, m27, m28, m29, m30, m31, m32, ())).bind fun (n3, m34, m35, m36, m37, m38, m39, m40, m41, m42, m43, m44, m45, ()) =>
 some (n3, m34, m36, m37, m38, m39, m40, m41, m42, m43, m44, m45, ()) else none else none else none
theorem k14 (m_ : Mode) : KS P (O m_) inl e14 x14 [g6 m_, g7 m_, g13 m_] (b14 m_) := by
  intro self v_; kernel_rfl
def l14 (m_ : Mode) : A14 → Option B14 := loop m_ (b14 m_)
theorem q14 (v) : l14 .lim v = b14 .lim (l14 .lim) v := KS.q (k14 .lim) v
def g14 (m_ : Mode) : Seg := ⟨e14, x14, l14 m_⟩
theorem s14 (m_ : Mode) (S0 w0 cs0) : SegGood P S0 w0 cs0 125 (g14 m_) := seg_ok m_ (Ok m_) (ac (s6 m_ S0 w0 cs0) (ac (s7 m_ S0 w0 cs0) (ac (s13 m_ S0 w0 cs0) (an)))) (by rfl) (by rfl) (k14 m_)
def p56 : Path := [.r, .r, .r, .r, .r, .r, .l, .l, .l, .r, .l, .r, .r, .r, .l, .l]
def e15 : Spec := ⟨[⟨125, [.c p56, .p p56, .b 2, .b 1, .p p7, .b 0, .c p8], [(2, .w), (8, .ptr 0 0), (10, .ptr 1 0), (11, .own 2 (.int .u8)), (13, .w)], none, [], false⟩], [(0, o55), (1, o10), (2, .d [.row (.int .u8)]), (3, o11)], 4⟩
def x15 : List Spec := [⟨[⟨125, [.c p7, .p p7, .b 0, .c p8], [(2, .w), (8, .ptr 0 0), (10, .ptr 1 0), (11, .own 2 (.int .u8))], none, [], false⟩], [(0, o55), (1, o10), (2, .d [.row (.int .u8)]), (3, o11)], 4⟩]
abbrev A15 : Type := Int × Int × LI × Int × Int × Int × LI × LI × LL × LI × LI × LL × Unit
abbrev B15 : Type := (Int × LI × Int × Int × Int × LI × LI × LL × LI × LI × LL × Unit)
def b15 (m_ : Mode) (self : A15 → Option B15) : A15 → Option B15 := fun v_ => match v_ with
| (n, i, m, m1, m2, m3, m4, m5, m6, m7, m8, m9, ()) =>
 bif decide (i ≥ 0) then
  bif inB i 16 then
  bif inB i 16 then
  bif inB i 16 then
  bif !(decide ((rd 0 (m7.set i.toNat (IntKind.u8.wrap ((rd 0 m7 i) + 1))) i) = 0)) then
   some (n, m, m1, m2, m3, m4, m5, m6, (m7.set i.toNat (IntKind.u8.wrap ((rd 0 m7 i) + 1))), m8, m9, ())
  else
   self (n, (IntKind.i64.wrap (i - 1)), m, m1, m2, m3, m4, m5, m6, (m7.set i.toNat (IntKind.u8.wrap ((rd 0 m7 i) + 1))), m8, m9, ()) else none else none else none
 else
  some (n, m, m1, m2, m3, m4, m5, m6, m7, m8, m9, ())
theorem k15 (m_ : Mode) : KS P (O m_) inl e15 x15 [] (b15 m_) := by
  intro self v_; kernel_rfl
def l15 (m_ : Mode) : A15 → Option B15 := loop m_ (b15 m_)
theorem q15 (v) : l15 .lim v = b15 .lim (l15 .lim) v := KS.q (k15 .lim) v
def g15 (m_ : Mode) : Seg := ⟨e15, x15, l15 m_⟩
theorem s15 (m_ : Mode) (S0 w0 cs0) : SegGood P S0 w0 cs0 125 (g15 m_) := seg_ok m_ (Ok m_) (an) (by rfl) (by rfl) (k15 m_)
def e16 : Spec := ⟨[⟨125, [.c p7, .p p7, .b 0, .c p8], [(2, .w), (8, .ptr 0 0), (10, .ptr 1 0), (11, .own 5004 (.int .u8))], none, [], false⟩], [(0, .c [.s, .dat (.int .u32), .dat (.int .i32), .dat (.int .u32), .dat (.arr 256 (.int .u8)), .dat (.arr 256 (.int .u8)), .dat (.arr 16 (.arr 256 (.int .u8))), .own 5005 (.arr 16 (.int .u8))]), (1, o10), (5004, .d [.row (.int .u8)]), (5005, o11)], 5006⟩
def x16 : List Spec := [⟨[⟨125, [.c p8], [(2, .w), (11, .own 0 (.int .u8))], none, [], false⟩], [(0, .d [.row (.int .u8)])], 1⟩]
abbrev A16 : Type := Int × LI × Int × Int × Int × LI × LI × LL × LI × LI × LL × Unit
abbrev B16 : Type := (Int × LI × Unit)
def b16 (m_ : Mode) (self : A16 → Option B16) : A16 → Option B16 := fun v_ => match v_ with
| (n, m, m1, m2, m3, m4, m5, m6, m7, m8, m9, ()) =>
 bif smallI (m8.length : Int) then
 bif decide ((m8.length : Int) < n) then
  (aes_Stream.l14 m_ (m7, n, m, m1, m2, m3, m4, m5, m6, m7, m8, m9, ())).bind fun (n1, m10, m11, m12, m13, m14, m15, m16, m17, m18, m19, m20, ()) =>
  bif decide (m19.length + ((m10.drop 0).take 16).length < 70368744177664) then
  (aes_Stream.l15 m_ (n1, 15, m11, m12, m13, m14, m15, m16, m17, m18, (m19 ++ ((m10.drop 0).take 16)), m20, ())).bind fun (n2, m21, m22, m23, m24, m25, m26, m27, m28, m29, m30, ()) =>
  self (n2, m21, m22, m23, m24, m25, m26, m27, m28, m29, m30, ()) else none
 else
  some (n, m8, ()) else none
theorem k16 (m_ : Mode) : KS P (O m_) inl e16 x16 [g14 m_, g15 m_] (b16 m_) := by
  intro self v_; kernel_rfl
def l16 (m_ : Mode) : A16 → Option B16 := loop m_ (b16 m_)
theorem q16 (v) : l16 .lim v = b16 .lim (l16 .lim) v := KS.q (k16 .lim) v
def g16 (m_ : Mode) : Seg := ⟨e16, x16, l16 m_⟩
theorem s16 (m_ : Mode) (S0 w0 cs0) : SegGood P S0 w0 cs0 125 (g16 m_) := seg_ok m_ (Ok m_) (ac (s14 m_ S0 w0 cs0) (ac (s15 m_ S0 w0 cs0) (an))) (by rfl) (by rfl) (k16 m_)
def run (m_ : Mode) : (List Int) × (List Int) × Int × Unit → Option ((List Int) × Int × Unit) := fun v_ => match v_ with
| (key, first, n, ()) =>
 bif ((decide (n < 0)) || (decide (n > 65536))) then
  some (([] : List Int), 13, ())
 else
  bif smallI (key.length : Int) then
  bif ((!(!(decide ((key.length : Int) = 16)))) || (smallI (key.length : Int))) then
  bif ((!(decide ((key.length : Int) = 16))) && (!(decide ((key.length : Int) = 32)))) then
   some (([] : List Int), 13, ())
  else
   bif smallI (first.length : Int) then
   bif !(decide ((first.length : Int) = 16)) then
    some (([] : List Int), 10, ())
   else
    bif (Nat.ble 1 16 && Nat.ble 16 first.length) then
    (aes_Stream.l16 m_ (n, key, 0, 0, 0, (List.replicate 256 (0 : Int)), (List.replicate 256 (0 : Int)), (List.replicate 16 (List.replicate 256 (0 : Int) : List Int)), (first.take 16), ([] : List Int), ([] : List (List Int)), ())).bind fun (n1, m, ()) =>
    bif cutB 0 n1 (m.length : Int) then
    some (((m.drop 0).take ((n1 - 0).toNat)), 0, ()) else none else none else none else none else none
def c (m_ : Mode) : Callee := ⟨125, [.one .str, .one .str, .one (.int .i64)], .tup [.sh (.one .str), .sh (.one (.int .i64))], run m_⟩
theorem k (m_ : Mode) : KR P (O m_) inl [g16 m_] (c m_) := by
  intro v_; kernel_rfl
theorem ok (m_ : Mode) : (c m_).OK P := KR.ok (fun S0 w0 => (Ok m_)) (by kernel_rfl) (by rfl) (fun S0 w0 cs0 => ac (s16 m_ S0 w0 cs0) (an)) (k m_)
end aes_Stream

/-! ### pendulum/siv.stream -/
namespace siv_stream
def inl : FuncId → Bool := fun f => [].any (Nat.beq f)
def O (m_ : Mode) : Ora := (oras [siv_xor.c m_, aes_Stream.c m_])
theorem Ok (m_ : Mode) {S0 w0} : OraOK P S0 w0 (O m_) := (oras_ok (ac (siv_xor.ok m_) (ac (aes_Stream.ok m_) (an))))
def run (m_ : Mode) : (List Int) × (List Int) × (List Int) × Unit → Option (List Int) := fun v_ => match v_ with
| (key, v, s, ()) =>
 bif inB 8 (v.length : Int) then
 bif inB 8 (v.length : Int) then
 bif inB 12 ((v.set 8 (iand .u8 (rd 0 v 8) 127)).length : Int) then
 bif inB 12 ((v.set 8 (iand .u8 (rd 0 v 8) 127)).length : Int) then
 bif smallI (s.length : Int) then
 (aes_Stream.run m_ (key, ((v.set 8 (iand .u8 (rd 0 v 8) 127)).set 12 (iand .u8 (rd 0 (v.set 8 (iand .u8 (rd 0 v 8) 127)) 12) 127)), (s.length : Int), ())).bind fun (r, r1, ()) =>
 (siv_xor.run m_ (s, r, ())).bind fun r2 =>
 some r2 else none else none else none else none else none
def c (m_ : Mode) : Callee := ⟨120, [.one .str, .one .str, .one .str], .one (.sh (.one .str)), run m_⟩
theorem k (m_ : Mode) : KR P (O m_) inl [] (c m_) := by
  intro v_; kernel_rfl
theorem ok (m_ : Mode) : (c m_).OK P := KR.ok (fun S0 w0 => (Ok m_)) (by kernel_rfl) (by rfl) (fun S0 w0 cs0 => an) (k m_)
end siv_stream

/-! ### pendulum/siv.Seal -/
namespace siv_Seal
def inl : FuncId → Bool := fun f => [].any (Nat.beq f)
def O (m_ : Mode) : Ora := (oras [slices_Clone_string_string.c m_, siv_halves.c m_, siv_stream.c m_, siv_maker_row.c m_])
theorem Ok (m_ : Mode) {S0 w0} : OraOK P S0 w0 (O m_) := (oras_ok (ac (slices_Clone_string_string.ok m_) (ac (siv_halves.ok m_) (ac (siv_stream.ok m_) (ac (siv_maker_row.ok m_) (an))))))
def run (m_ : Mode) : (List Int) × (List (List Int)) × (List Int) × Unit → Option ((List Int) × Int × Unit) := fun v_ => match v_ with
| (key, ad, plain, ()) =>
 (siv_halves.run m_ (key, ad, ())).bind fun (r, r1, r2, ()) =>
 bif !(decide (r2 = 0)) then
  some (([] : List Int), r2, ())
 else
  bif smallI (plain.length : Int) then
  bif decide ((plain.length : Int) > 65536) then
   some (([] : List Int), 12, ())
  else
   (slices_Clone_string_string.run m_ (ad, ())).bind fun r3 =>
   bif decide (r3.length + ([plain] : List (List Int)).length < 4398046511104) then
   (siv_maker_row.run m_ (r, (r3 ++ ([plain] : List (List Int))), ())).bind fun r4 =>
   (siv_stream.run m_ (r1, r4, plain, ())).bind fun r5 =>
   bif decide (r4.length + r5.length ≤ maxStr) then
   some ((r4 ++ r5), 0, ()) else none else none else none
def c (m_ : Mode) : Callee := ⟨118, [.one .str, .one (.lst .str), .one .str], .tup [.sh (.one .str), .sh (.one (.int .i64))], run m_⟩
theorem k (m_ : Mode) : KR P (O m_) inl [] (c m_) := by
  intro v_; kernel_rfl
theorem ok (m_ : Mode) : (c m_).OK P := KR.ok (fun S0 w0 => (Ok m_)) (by kernel_rfl) (by rfl) (fun S0 w0 cs0 => an) (k m_)
end siv_Seal

/-! ### (pendulum/ideal.truth) .seal -/
namespace ideal_truth_seal
def inl : FuncId → Bool := fun f => [].any (Nat.beq f)
def O (m_ : Mode) : Ora := (oras [siv_Seal.c m_])
theorem Ok (m_ : Mode) {S0 w0} : OraOK P S0 w0 (O m_) := (oras_ok (ac (siv_Seal.ok m_) (an)))
def run (m_ : Mode) : Unit × DT1 × Unit → Option ((List Int) × Int × Unit) := fun v_ => match v_ with
| (a, k, ()) =>
 (siv_Seal.run m_ (k.1, k.2.1, k.2.2.1, ())).bind fun (r, r1, ()) =>
 some (r, r1, ())
def c (m_ : Mode) : Callee := ⟨116, [.ag .unit, .ag (.pair .str (.pair (.lst .str) (.pair .str .str)))], .tup [.sh (.one .str), .sh (.one (.int .i64))], run m_⟩
theorem k (m_ : Mode) : KR P (O m_) inl [] (c m_) := by
  intro v_; kernel_rfl
theorem ok (m_ : Mode) : (c m_).OK P := KR.ok (fun S0 w0 => (Ok m_)) (by kernel_rfl) (by rfl) (fun S0 w0 cs0 => an) (k m_)
end ideal_truth_seal

/-! ### pendulum/ideal.Seal -/
namespace ideal_Seal
def inl : FuncId → Bool := fun f => [45, 55, 91, 93, 96].any (Nat.beq f)
def O (m_ : Mode) : Ora := (oras [ideal_refused.c m_, ideal_alike.c m_, slices_Clone_string_string.c m_, ideal_number.c m_, slices_Clone_api_Kept_api_Kept.c m_, ideal_truth_seal.c m_])
theorem Ok (m_ : Mode) {S0 w0} : OraOK P S0 w0 (O m_) := (oras_ok (ac (ideal_refused.ok m_) (ac (ideal_alike.ok m_) (ac (slices_Clone_string_string.ok m_) (ac (ideal_number.ok m_) (ac (slices_Clone_api_Kept_api_Kept.ok m_) (ac (ideal_truth_seal.ok m_) (an))))))))
def o0 : OSpec := .c [.dat (.lst (.pair .str (.pair (.lst .str) (.pair .str .str))))]
def o1 : OSpec := .c [.b, .dat (.lst (.pair .str (.pair (.lst .str) (.pair .str .str))))]
def f2 : FSpec := ⟨91, [.g [.r, .r, .r, .l, .l] [5,6], .c [.r, .r, .r, .l, .r], .c [.r, .r, .r, .r]], [(0, .ptr 0 0), (3, .ptr 1 0)], none, [], false⟩
def f3 : FSpec := ⟨49, [.g [.r, .r, .l] [5,6,7,8,9,10], .c [.r, .r, .r]], [(4, .ptr 2 0), (8, .ptr 3 0), (11, .ifc 97 (.ptr 0 0))], none, [], false⟩
def e0 : Spec := ⟨[⟨93, [.c [.r, .l, .r, .l, .l], .p [.r, .l, .r, .l, .l], .b 0, .c [.r, .r]], [(0, .dat (.lst (.pair .str (.pair (.lst .str) (.pair .str .str))))), (1, .fn (.func 96) [0]), (7, .w), (8, .w)], none, [], false⟩, ⟨91, [.g [.r, .r, .r, .l, .l] [5,6], .c [.r, .r, .r, .l, .r], .c [.r, .r, .r, .r]], [(0, .ptr 1 0), (3, .ptr 0 0)], none, [], false⟩, ⟨49, [.g [.r, .r, .l] [5,6,7,8,9,10], .c [.r, .r, .r]], [(4, .ptr 2 0), (8, .ptr 3 0), (11, .ifc 97 (.ptr 1 0))], none, [], false⟩], [(0, .c [.s, .t, .s, .s]), (1, o0), (2, o1), (3, .c [.b, .nilS])], 4⟩
def x0 : List Spec := [⟨[⟨93, [.c [.r, .l, .r, .l, .l, .r, .r, .l, .l, .r, .r, .l, .r], .b 1, .c [.r, .l, .r, .l, .l, .r, .r, .r], .p [.r, .l, .r, .l, .l], .b 0, .c [.r, .r]], [(4, .w)], none, [], false⟩, f2, f3], [(0, o0), (1, .c [.s, .t, .s, .s]), (2, o1), (3, .c [.b, .nilS])], 4⟩, ⟨[⟨93, [.c [.r, .r]], [], none, [], false⟩, f2, f3], [(0, o0), (1, .c [.s, .t, .s, .s]), (2, o1), (3, .c [.b, .nilS])], 4⟩]
abbrev A0 : Type := (List (List Int × (List LI × (List Int × List Int)))) × Int × Int × LI × LL × LI × LI × (List (List Int × (List LI × (List Int × List Int)))) × Bool × (List (List Int × (List LI × (List Int × List Int)))) × Bool × Unit
abbrev B0 : Type := (Int × (List (List Int × (List LI × (List Int × List Int)))) × LI × LL × LI × LI × Bool × (List (List Int × (List LI × (List Int × List Int)))) × Bool × Unit) ⊕ ((List (List Int × (List LI × (List Int × List Int)))) × LI × LL × LI × LI × Bool × (List (List Int × (List LI × (List Int × List Int)))) × Bool × Unit)
def b0 (m_ : Mode) (self : A0 → Option B0) : A0 → Option B0 := fun v_ => match v_ with
| (s, t, t1, m, m1, m2, m3, m4, m5, m6, m7, ()) =>
 bif decide (t1 < t) then
  bif inB t1 (s.length : Int) then
  (ideal_alike.run m_ ((rd dz1 s t1), (m, (m1, (m2, m3))), ())).bind fun r =>
  bif r then
   some (.inl (t1, m4, m, m1, m2, m3, m5, m6, m7, ()))
  else
   self (s, t, (IntKind.i64.wrap (t1 + 1)), m, m1, m2, m3, m4, m5, m6, m7, ()) else none
 else
  some (.inr (m4, m, m1, m2, m3, m5, m6, m7, ()))
theorem k0 (m_ : Mode) : KS P (O m_) inl e0 x0 [] (b0 m_) := by
  intro self v_; kernel_rfl
def l0 (m_ : Mode) : A0 → Option B0 := loop m_ (b0 m_)
theorem q0 (v) : l0 .lim v = b0 .lim (l0 .lim) v := KS.q (k0 .lim) v
def g0 (m_ : Mode) : Seg := ⟨e0, x0, l0 m_⟩
theorem s0 (m_ : Mode) (S0 w0 cs0) : SegGood P S0 w0 cs0 49 (g0 m_) := seg_ok m_ (Ok m_) (an) (by rfl) (by rfl) (k0 m_)
def run (m_ : Mode) : DT0 × (List Int) × (List (List Int)) × (List Int) × Unit → Option (DT0 × (List Int) × Int × Unit) := fun v_ => match v_ with
| (v, key, ad, plain, ()) =>
 bif v.1 then
  (ideal_refused.run m_ ((key, (ad, (plain, ([] : List Int)))), ())).bind fun r =>
  bif !(decide (r = 0)) then
   bif !(decide (r = 0)) then
    some (v, ([] : List Int), r, ())
   else
    some ((true, v.2), ([] : List Int), 0, ())
  else
   bif smallI (plain.length : Int) then
   bif decide ((plain.length : Int) > 65536) then
    some (v, ([] : List Int), 12, ())
   else
    bif smallI (v.2.length : Int) then
    (ideal_Seal.l0 m_ (v.2, (v.2.length : Int), 0, key, ad, plain, ([] : List Int), v.2, v.1, v.2, false, ())).bind fun g_ => match g_ with
    | .inl (t, m, m1, m2, m3, m4, m5, m6, m7, ()) =>
     bif decide (t ≥ 0) then
      bif inB t (m.length : Int) then
      some ((true, m), (((rd dz1 m t).2).2).2, 0, ()) else none
     else
      bif smallI (m.length : Int) then
      bif decide ((m.length : Int) ≥ 2048) then
       some ((m5, m6), ([] : List Int), 18, ())
      else
       (slices_Clone_string_string.run m_ (m2, ())).bind fun r1 =>
       bif smallI (m.length : Int) then
       (ideal_number.run m_ ((IntKind.i64.wrap ((m.length : Int) + 1)), m3, ())).bind fun r2 =>
       (slices_Clone_api_Kept_api_Kept.run m_ (m, ())).bind fun r3 =>
       bif decide (r3.length + ([(m1, (r1, (m3, r2)))] : List DT1).length < 977343669134) then
       some ((true, (r3 ++ ([(m1, (r1, (m3, r2)))] : List DT1))), r2, 0, ()) else none else none else none
    | .inr (m8, m9, m10, m11, m12, m13, m14, m15, ()) =>
     bif smallI (m8.length : Int) then
     bif decide ((m8.length : Int) ≥ 2048) then
      some ((m13, m14), ([] : List Int), 18, ())
     else
      (slices_Clone_string_string.run m_ (m10, ())).bind fun r4 =>
      bif smallI (m8.length : Int) then
      (ideal_number.run m_ ((IntKind.i64.wrap ((m8.length : Int) + 1)), m11, ())).bind fun r5 =>
      (slices_Clone_api_Kept_api_Kept.run m_ (m8, ())).bind fun r6 =>
      bif decide (r6.length + ([(m9, (r4, (m11, r5)))] : List DT1).length < 977343669134) then
      some ((true, (r6 ++ ([(m9, (r4, (m11, r5)))] : List DT1))), r5, 0, ()) else none else none else none else none else none
 else
  (ideal_truth_seal.run m_ ((), (key, (ad, (plain, ([] : List Int)))), ())).bind fun (r7, r8, ()) =>
  bif !(decide (r8 = 0)) then
   some (v, ([] : List Int), r8, ())
  else
   some ((false, ([] : List DT1)), r7, 0, ())
def c (m_ : Mode) : Callee := ⟨49, [.ag (.pair .bool (.lst (.pair .str (.pair (.lst .str) (.pair .str .str))))), .one .str, .one (.lst .str), .one .str], .tup [.sh (.ag (.pair .bool (.lst (.pair .str (.pair (.lst .str) (.pair .str .str)))))), .sh (.one .str), .sh (.one (.int .i64))], run m_⟩
theorem k (m_ : Mode) : KR P (O m_) inl [g0 m_] (c m_) := by
  intro v_; kernel_rfl
theorem ok (m_ : Mode) : (c m_).OK P := KR.ok (fun S0 w0 => (Ok m_)) (by kernel_rfl) (by rfl) (fun S0 w0 cs0 => ac (s0 m_ S0 w0 cs0) (an)) (k m_)
end ideal_Seal

/-! ### pendulum/cook.Make -/
namespace cook_Make
def inl : FuncId → Bool := fun f => [33, 34].any (Nat.beq f)
def O (m_ : Mode) : Ora := (oras [cook_Fit.c m_, cook_plain.c m_, ideal_Seal.c m_])
theorem Ok (m_ : Mode) {S0 w0} : OraOK P S0 w0 (O m_) := (oras_ok (ac (cook_Fit.ok m_) (ac (cook_plain.ok m_) (ac (ideal_Seal.ok m_) (an)))))
def run (m_ : Mode) : DT0 × DT3 × (Int × (List Int × List Int)) × (List Int) × Unit → Option (DT0 × (List Int) × Int × Unit) := fun v_ => match v_ with
| (v, r, k, nonce, ()) =>
 bif smallI (r.1.length : Int) then
 bif inB (IntKind.i64.wrap ((r.1.length : Int) - 1)) (r.1.length : Int) then
 (cook_Fit.run m_ (k, ())).bind fun r1 =>
 bif !r1 then
  some (v, ([] : List Int), 13, ())
 else
  bif smallI (nonce.length : Int) then
  bif !(decide ((nonce.length : Int) = 16)) then
   some (v, ([] : List Int), 10, ())
  else
   (cook_plain.run m_ (k, ())).bind fun r2 =>
   (ideal_Seal.run m_ (v, ((rd ((0 : Int), (([] : List Int), (0 : Int))) r.1 (IntKind.i64.wrap ((r.1.length : Int) - 1))).2).1, ([([(IntKind.u8.wrap (ishr .u32 ((rd ((0 : Int), (([] : List Int), (0 : Int))) r.1 (IntKind.i64.wrap ((r.1.length : Int) - 1))).1) 24)), (IntKind.u8.wrap (ishr .u32 ((rd ((0 : Int), (([] : List Int), (0 : Int))) r.1 (IntKind.i64.wrap ((r.1.length : Int) - 1))).1) 16)), (IntKind.u8.wrap (ishr .u32 ((rd ((0 : Int), (([] : List Int), (0 : Int))) r.1 (IntKind.i64.wrap ((r.1.length : Int) - 1))).1) 8)), (IntKind.u8.wrap ((rd ((0 : Int), (([] : List Int), (0 : Int))) r.1 (IntKind.i64.wrap ((r.1.length : Int) - 1))).1))] : List Int), nonce] : List (List Int)), r2, ())).bind fun (r3, r4, r5, ()) =>
   bif decide (([(IntKind.u8.wrap (ishr .u32 ((rd ((0 : Int), (([] : List Int), (0 : Int))) r.1 (IntKind.i64.wrap ((r.1.length : Int) - 1))).1) 24)), (IntKind.u8.wrap (ishr .u32 ((rd ((0 : Int), (([] : List Int), (0 : Int))) r.1 (IntKind.i64.wrap ((r.1.length : Int) - 1))).1) 16)), (IntKind.u8.wrap (ishr .u32 ((rd ((0 : Int), (([] : List Int), (0 : Int))) r.1 (IntKind.i64.wrap ((r.1.length : Int) - 1))).1) 8)), (IntKind.u8.wrap ((rd ((0 : Int), (([] : List Int), (0 : Int))) r.1 (IntKind.i64.wrap ((r.1.length : Int) - 1))).1))] : List Int).length + nonce.length ≤ maxStr) then
   bif decide ((([(IntKind.u8.wrap (ishr .u32 ((rd ((0 : Int), (([] : List Int), (0 : Int))) r.1 (IntKind.i64.wrap ((r.1.length : Int) - 1))).1) 24)), (IntKind.u8.wrap (ishr .u32 ((rd ((0 : Int), (([] : List Int), (0 : Int))) r.1 (IntKind.i64.wrap ((r.1.length : Int) - 1))).1) 16)), (IntKind.u8.wrap (ishr .u32 ((rd ((0 : Int), (([] : List Int), (0 : Int))) r.1 (IntKind.i64.wrap ((r.1.length : Int) - 1))).1) 8)), (IntKind.u8.wrap ((rd ((0 : Int), (([] : List Int), (0 : Int))) r.1 (IntKind.i64.wrap ((r.1.length : Int) - 1))).1))] : List Int) ++ nonce).length + r4.length ≤ maxStr) then
   bif !(decide (r5 = 0)) then
    some (v, ([] : List Int), r5, ())
   else
    some (r3, ((([(IntKind.u8.wrap (ishr .u32 ((rd ((0 : Int), (([] : List Int), (0 : Int))) r.1 (IntKind.i64.wrap ((r.1.length : Int) - 1))).1) 24)), (IntKind.u8.wrap (ishr .u32 ((rd ((0 : Int), (([] : List Int), (0 : Int))) r.1 (IntKind.i64.wrap ((r.1.length : Int) - 1))).1) 16)), (IntKind.u8.wrap (ishr .u32 ((rd ((0 : Int), (([] : List Int), (0 : Int))) r.1 (IntKind.i64.wrap ((r.1.length : Int) - 1))).1) 8)), (IntKind.u8.wrap ((rd ((0 : Int), (([] : List Int), (0 : Int))) r.1 (IntKind.i64.wrap ((r.1.length : Int) - 1))).1))] : List Int) ++ nonce) ++ r4), 0, ()) else none else none else none else none else none
def c (m_ : Mode) : Callee := ⟨11, [.ag (.pair .bool (.lst (.pair .str (.pair (.lst .str) (.pair .str .str))))), .ag (.pair (.lst (.pair (.int .u32) (.pair .str (.int .i64)))) (.int .u32)), .ag (.pair (.int .i64) (.pair .str .str)), .one .str], .tup [.sh (.ag (.pair .bool (.lst (.pair .str (.pair (.lst .str) (.pair .str .str)))))), .sh (.one .str), .sh (.one (.int .i64))], run m_⟩
theorem k (m_ : Mode) : KR P (O m_) inl [] (c m_) := by
  intro v_; kernel_rfl
theorem ok (m_ : Mode) : (c m_).OK P := KR.ok (fun S0 w0 => (Ok m_)) (by kernel_rfl) (by rfl) (fun S0 w0 cs0 => an) (k m_)
end cook_Make

/-! ### pendulum/ring.Find -/
namespace ring_Find
def inl : FuncId → Bool := fun f => [43, 44].any (Nat.beq f)
def O (m_ : Mode) : Ora := (oras [])
theorem Ok (m_ : Mode) {S0 w0} : OraOK P S0 w0 (O m_) := (oras_ok (an))
def f0 : FSpec := ⟨27, [.g [.r, .l] [3,4], .c [.r, .r]], [], none, [], false⟩
def e0 : Spec := ⟨[⟨43, [.c [.r, .l, .r, .l, .l], .p [.r, .l, .r, .l, .l], .b 0, .c [.r, .r]], [(0, .dat (.lst (.pair (.int .u32) (.pair .str (.int .i64))))), (1, .fn (.func 44) [0]), (7, .w), (8, .w)], none, [], false⟩, f0], [(0, .c [.dat (.int .u32)])], 1⟩
def x0 : List Spec := [⟨[⟨43, [.c [.r, .l, .r, .l, .l, .r, .r, .l, .l, .r, .r, .l, .r], .b 1, .c [.r, .l, .r, .l, .l, .r, .r, .r], .p [.r, .l, .r, .l, .l], .b 0, .c [.r, .r]], [(4, .w)], none, [], false⟩, f0], [], 0⟩, ⟨[⟨43, [.c [.r, .r]], [], none, [], false⟩, f0], [], 0⟩]
abbrev A0 : Type := (List (Int × (List Int × Int))) × Int × Int × Int × Unit
abbrev B0 : Type := (Int × Unit) ⊕ (Unit)
def b0 (m_ : Mode) (self : A0 → Option B0) : A0 → Option B0 := fun v_ => match v_ with
| (s, t, t1, m, ()) =>
 bif decide (t1 < t) then
  bif inB t1 (s.length : Int) then
  bif decide (((rd ((0 : Int), (([] : List Int), (0 : Int))) s t1).1) = m) then
   some (.inl (t1, ()))
  else
   self (s, t, (IntKind.i64.wrap (t1 + 1)), m, ()) else none
 else
  some (.inr (()))
theorem k0 (m_ : Mode) : KS P (O m_) inl e0 x0 [] (b0 m_) := by
  intro self v_; kernel_rfl
def l0 (m_ : Mode) : A0 → Option B0 := loop m_ (b0 m_)
theorem q0 (v) : l0 .lim v = b0 .lim (l0 .lim) v := KS.q (k0 .lim) v
def g0 (m_ : Mode) : Seg := ⟨e0, x0, l0 m_⟩
theorem s0 (m_ : Mode) (S0 w0 cs0) : SegGood P S0 w0 cs0 27 (g0 m_) := seg_ok m_ (Ok m_) (an) (by rfl) (by rfl) (k0 m_)
def run (m_ : Mode) : DT3 × Int × Unit → Option (Int) := fun v_ => match v_ with
| (r, id, ()) =>
 bif smallI (r.1.length : Int) then
 (ring_Find.l0 m_ (r.1, (r.1.length : Int), 0, id, ())).bind fun g_ => match g_ with
 | .inl (t, ()) =>
  some t
 | .inr (()) =>
  some (-1) else none
def c (m_ : Mode) : Callee := ⟨27, [.ag (.pair (.lst (.pair (.int .u32) (.pair .str (.int .i64)))) (.int .u32)), .one (.int .u32)], .one (.sh (.one (.int .i64))), run m_⟩
theorem k (m_ : Mode) : KR P (O m_) inl [g0 m_] (c m_) := by
  intro v_; kernel_rfl
theorem ok (m_ : Mode) : (c m_).OK P := KR.ok (fun S0 w0 => (Ok m_)) (by kernel_rfl) (by rfl) (fun S0 w0 cs0 => ac (s0 m_ S0 w0 cs0) (an)) (k m_)
end ring_Find

/-! ### pendulum/siv.Open -/
namespace siv_Open
def inl : FuncId → Bool := fun f => [].any (Nat.beq f)
def O (m_ : Mode) : Ora := (oras [slices_Clone_string_string.c m_, siv_halves.c m_, siv_stream.c m_, siv_xor.c m_, siv_maker_row.c m_, siv_zeros.c m_])
theorem Ok (m_ : Mode) {S0 w0} : OraOK P S0 w0 (O m_) := (oras_ok (ac (slices_Clone_string_string.ok m_) (ac (siv_halves.ok m_) (ac (siv_stream.ok m_) (ac (siv_xor.ok m_) (ac (siv_maker_row.ok m_) (ac (siv_zeros.ok m_) (an))))))))
def run (m_ : Mode) : (List Int) × (List (List Int)) × (List Int) × Unit → Option ((List Int) × Int × Unit) := fun v_ => match v_ with
| (key, ad, sealed, ()) =>
 (siv_halves.run m_ (key, ad, ())).bind fun (r, r1, r2, ()) =>
 bif !(decide (r2 = 0)) then
  some (([] : List Int), r2, ())
 else
  bif smallI (sealed.length : Int) then
  bif decide ((sealed.length : Int) < 16) then
   some (([] : List Int), 11, ())
  else
   bif smallI (sealed.length : Int) then
   bif decide ((sealed.length : Int) > 65552) then
    some (([] : List Int), 12, ())
   else
    bif cutB 0 16 (sealed.length : Int) then
    bif cutB 16 (sealed.length : Int) (sealed.length : Int) then
    (siv_stream.run m_ (r1, (cut sealed 0 16), (cut sealed 16 (sealed.length : Int)), ())).bind fun r3 =>
    (slices_Clone_string_string.run m_ (ad, ())).bind fun r4 =>
    bif decide (r4.length + ([r3] : List (List Int)).length < 4398046511104) then
    (siv_maker_row.run m_ (r, (r4 ++ ([r3] : List (List Int))), ())).bind fun r5 =>
    (siv_xor.run m_ ((cut sealed 0 16), r5, ())).bind fun r6 =>
    (siv_zeros.run m_ (16, ())).bind fun r7 =>
    bif !(decide (r6 = r7)) then
     some (([] : List Int), 17, ())
    else
     some (r3, 0, ()) else none else none else none else none else none
def c (m_ : Mode) : Callee := ⟨117, [.one .str, .one (.lst .str), .one .str], .tup [.sh (.one .str), .sh (.one (.int .i64))], run m_⟩
theorem k (m_ : Mode) : KR P (O m_) inl [] (c m_) := by
  intro v_; kernel_rfl
theorem ok (m_ : Mode) : (c m_).OK P := KR.ok (fun S0 w0 => (Ok m_)) (by kernel_rfl) (by rfl) (fun S0 w0 cs0 => an) (k m_)
end siv_Open

/-! ### (pendulum/ideal.truth) .open -/
namespace ideal_truth_open
def inl : FuncId → Bool := fun f => [].any (Nat.beq f)
def O (m_ : Mode) : Ora := (oras [siv_Open.c m_])
theorem Ok (m_ : Mode) {S0 w0} : OraOK P S0 w0 (O m_) := (oras_ok (ac (siv_Open.ok m_) (an)))
def run (m_ : Mode) : Unit × DT1 × Unit → Option ((List Int) × Int × Unit) := fun v_ => match v_ with
| (a, k, ()) =>
 (siv_Open.run m_ (k.1, k.2.1, k.2.2.2, ())).bind fun (r, r1, ()) =>
 some (r, r1, ())
def c (m_ : Mode) : Callee := ⟨115, [.ag .unit, .ag (.pair .str (.pair (.lst .str) (.pair .str .str)))], .tup [.sh (.one .str), .sh (.one (.int .i64))], run m_⟩
theorem k (m_ : Mode) : KR P (O m_) inl [] (c m_) := by
  intro v_; kernel_rfl
theorem ok (m_ : Mode) : (c m_).OK P := KR.ok (fun S0 w0 => (Ok m_)) (by kernel_rfl) (by rfl) (fun S0 w0 cs0 => an) (k m_)
end ideal_truth_open

/-! ### pendulum/ideal.Open -/
namespace ideal_Open
def inl : FuncId → Bool := fun f => [45, 90, 93, 94].any (Nat.beq f)
def O (m_ : Mode) : Ora := (oras [ideal_refused.c m_, slices_Equal_string_string.c m_, ideal_truth_open.c m_])
theorem Ok (m_ : Mode) {S0 w0} : OraOK P S0 w0 (O m_) := (oras_ok (ac (ideal_refused.ok m_) (ac (slices_Equal_string_string.ok m_) (ac (ideal_truth_open.ok m_) (an)))))
def f0 : FSpec := ⟨28, [.g [.r, .l] [6,7,8,9,10], .c [.r, .r]], [], none, [], false⟩
def o1 : OSpec := .c [.dat (.lst (.pair .str (.pair (.lst .str) (.pair .str .str))))]
def f2 : FSpec := ⟨90, [.g [.r, .r, .r, .l] [5,6], .c [.r, .r, .r, .r]], [(0, .ptr 0 0)], none, [], false⟩
def e0 : Spec := ⟨[⟨93, [.c [.r, .l, .r, .l, .l], .p [.r, .l, .r, .l, .l], .b 0, .c [.r, .r]], [(0, .dat (.lst (.pair .str (.pair (.lst .str) (.pair .str .str))))), (1, .fn (.func 94) [0]), (7, .w), (8, .w)], none, [], false⟩, ⟨90, [.g [.r, .r, .r, .l] [5,6], .c [.r, .r, .r, .r]], [(0, .ptr 1 0)], none, [], false⟩, f0], [(0, .c [.s, .t, .s, .s]), (1, o1)], 2⟩
def x0 : List Spec := [⟨[⟨93, [.c [.r, .l, .r, .l, .l, .r, .r, .l, .l, .r, .r, .l, .r], .b 1, .c [.r, .l, .r, .l, .l, .r, .r, .r], .p [.r, .l, .r, .l, .l], .b 0, .c [.r, .r]], [(4, .w)], none, [], false⟩, f2, f0], [(0, o1)], 1⟩, ⟨[⟨93, [.c [.r, .r]], [], none, [], false⟩, f2, f0], [(0, o1)], 1⟩]
abbrev A0 : Type := (List (List Int × (List LI × (List Int × List Int)))) × Int × Int × LI × LL × LI × LI × (List (List Int × (List LI × (List Int × List Int)))) × Unit
abbrev B0 : Type := (Int × (List (List Int × (List LI × (List Int × List Int)))) × Unit) ⊕ ((List (List Int × (List LI × (List Int × List Int)))) × Unit)
def b0 (m_ : Mode) (self : A0 → Option B0) : A0 → Option B0 := fun v_ => match v_ with
| (s, t, t1, m, m1, m2, m3, m4, ()) =>
 bif decide (t1 < t) then
  bif inB t1 (s.length : Int) then
  ((bif ((decide (((((rd dz1 s t1).2).2).2) = m3)) && (decide (((rd dz1 s t1).1) = m))) then slices_Equal_string_string.run m_ (((rd dz1 s t1).2).1, m1, ()) else some false)).bind fun r =>
  bif (((decide (((((rd dz1 s t1).2).2).2) = m3)) && (decide (((rd dz1 s t1).1) = m))) && r) then
   some (.inl (t1, m4, ()))
  else
   self (s, t, (IntKind.i64.wrap (t1 + 1)), m, m1, m2, m3, m4, ()) else none
 else
  some (.inr (m4, ()))
theorem k0 (m_ : Mode) : KS P (O m_) inl e0 x0 [] (b0 m_) := by
  intro self v_; kernel_rfl
def l0 (m_ : Mode) : A0 → Option B0 := loop m_ (b0 m_)
theorem q0 (v) : l0 .lim v = b0 .lim (l0 .lim) v := KS.q (k0 .lim) v
def g0 (m_ : Mode) : Seg := ⟨e0, x0, l0 m_⟩
theorem s0 (m_ : Mode) (S0 w0 cs0) : SegGood P S0 w0 cs0 28 (g0 m_) := seg_ok m_ (Ok m_) (an) (by rfl) (by rfl) (k0 m_)
def run (m_ : Mode) : DT0 × (List Int) × (List (List Int)) × (List Int) × Unit → Option ((List Int) × Int × Unit) := fun v_ => match v_ with
| (v, key, ad, text, ()) =>
 bif v.1 then
  (ideal_refused.run m_ ((key, (ad, (([] : List Int), text))), ())).bind fun r =>
  bif !(decide (r = 0)) then
   some (([] : List Int), r, ())
  else
   bif smallI (text.length : Int) then
   bif decide ((text.length : Int) < 16) then
    some (([] : List Int), 11, ())
   else
    bif smallI (text.length : Int) then
    bif decide ((text.length : Int) > 65552) then
     some (([] : List Int), 12, ())
    else
     bif smallI (v.2.length : Int) then
     (ideal_Open.l0 m_ (v.2, (v.2.length : Int), 0, key, ad, ([] : List Int), text, v.2, ())).bind fun g_ => match g_ with
     | .inl (t, m, ()) =>
      bif decide (t < 0) then
       some (([] : List Int), 17, ())
      else
       bif inB t (m.length : Int) then
       some ((((rd dz1 m t).2).2).1, 0, ()) else none
     | .inr (m1, ()) =>
      some (([] : List Int), 17, ()) else none else none else none
 else
  (ideal_truth_open.run m_ ((), (key, (ad, (([] : List Int), text))), ())).bind fun (r1, r2, ()) =>
  some (r1, r2, ())
def c (m_ : Mode) : Callee := ⟨28, [.ag (.pair .bool (.lst (.pair .str (.pair (.lst .str) (.pair .str .str))))), .one .str, .one (.lst .str), .one .str], .tup [.sh (.one .str), .sh (.one (.int .i64))], run m_⟩
theorem k (m_ : Mode) : KR P (O m_) inl [g0 m_] (c m_) := by
  intro v_; kernel_rfl
theorem ok (m_ : Mode) : (c m_).OK P := KR.ok (fun S0 w0 => (Ok m_)) (by kernel_rfl) (by rfl) (fun S0 w0 cs0 => ac (s0 m_ S0 w0 cs0) (an)) (k m_)
end ideal_Open

/-! ### pendulum/cook.Open -/
namespace cook_Open
def inl : FuncId → Bool := fun f => [].any (Nat.beq f)
def O (m_ : Mode) : Ora := (oras [cook_Fit.c m_, ring_Find.c m_, ideal_Open.c m_, cook_plain.c m_])
theorem Ok (m_ : Mode) {S0 w0} : OraOK P S0 w0 (O m_) := (oras_ok (ac (cook_Fit.ok m_) (ac (ring_Find.ok m_) (ac (ideal_Open.ok m_) (ac (cook_plain.ok m_) (an))))))
def run (m_ : Mode) : DT0 × DT3 × (List Int) × Unit → Option ((Int × (List Int × List Int)) × Int × Unit) := fun v_ => match v_ with
| (v, r, s, ()) =>
 bif smallI (s.length : Int) then
 bif decide ((s.length : Int) < 20) then
  some ((0, (([] : List Int), ([] : List Int))), 11, ())
 else
  bif inB 0 (s.length : Int) then
  bif inB 1 (s.length : Int) then
  bif inB 2 (s.length : Int) then
  bif inB 3 (s.length : Int) then
  (ring_Find.run m_ (r, (ior .u32 (ior .u32 (ior .u32 (ishl .u32 (IntKind.u32.wrap (rd 0 s 0)) 24) (ishl .u32 (IntKind.u32.wrap (rd 0 s 1)) 16)) (ishl .u32 (IntKind.u32.wrap (rd 0 s 2)) 8)) (IntKind.u32.wrap (rd 0 s 3))), ())).bind fun r1 =>
  bif decide (r1 < 0) then
   some ((0, (([] : List Int), ([] : List Int))), 19, ())
  else
   bif inB r1 (r.1.length : Int) then
   bif cutB 0 4 (s.length : Int) then
   bif cutB 4 20 (s.length : Int) then
   bif cutB 20 (s.length : Int) (s.length : Int) then
   (ideal_Open.run m_ (v, ((rd ((0 : Int), (([] : List Int), (0 : Int))) r.1 r1).2).1, ([(cut s 0 4), (cut s 4 20)] : List (List Int)), (cut s 20 (s.length : Int)), ())).bind fun (r2, r3, ()) =>
   bif !(decide (r3 = 0)) then
    some ((0, (([] : List Int), ([] : List Int))), r3, ())
   else
    bif smallI (r2.length : Int) then
    bif decide ((r2.length : Int) < 4) then
     some ((0, (([] : List Int), ([] : List Int))), 10, ())
    else
     bif smallI (r2.length : Int) then
     bif inB 0 (r2.length : Int) then
     bif inB 1 (r2.length : Int) then
     bif cutB 4 (IntKind.i64.wrap (2 + (IntKind.i64.wrap ((r2.length : Int).tdiv 2)))) (r2.length : Int) then
     bif cutB (IntKind.i64.wrap (2 + (IntKind.i64.wrap ((r2.length : Int).tdiv 2)))) (r2.length : Int) (r2.length : Int) then
     (cook_Fit.run m_ (((ior .i64 (ishl .i64 (IntKind.i64.wrap (rd 0 r2 0)) 8) (IntKind.i64.wrap (rd 0 r2 1))), ((cut r2 4 (IntKind.i64.wrap (2 + (IntKind.i64.wrap ((r2.length : Int).tdiv 2))))), (cut r2 (IntKind.i64.wrap (2 + (IntKind.i64.wrap ((r2.length : Int).tdiv 2)))) (r2.length : Int)))), ())).bind fun r4 =>
     ((bif !!r4 then cook_plain.run m_ (((ior .i64 (ishl .i64 (IntKind.i64.wrap (rd 0 r2 0)) 8) (IntKind.i64.wrap (rd 0 r2 1))), ((cut r2 4 (IntKind.i64.wrap (2 + (IntKind.i64.wrap ((r2.length : Int).tdiv 2))))), (cut r2 (IntKind.i64.wrap (2 + (IntKind.i64.wrap ((r2.length : Int).tdiv 2)))) (r2.length : Int)))), ()) else some ([] : List Int))).bind fun r5 =>
     bif (!r4 || (!(decide (r5 = r2)))) then
      some ((0, (([] : List Int), ([] : List Int))), 10, ())
     else
      some (((ior .i64 (ishl .i64 (IntKind.i64.wrap (rd 0 r2 0)) 8) (IntKind.i64.wrap (rd 0 r2 1))), ((cut r2 4 (IntKind.i64.wrap (2 + (IntKind.i64.wrap ((r2.length : Int).tdiv 2))))), (cut r2 (IntKind.i64.wrap (2 + (IntKind.i64.wrap ((r2.length : Int).tdiv 2)))) (r2.length : Int)))), 0, ()) else none else none else none else none else none else none else none else none else none else none else none else none else none else none else none
def c (m_ : Mode) : Callee := ⟨9, [.ag (.pair .bool (.lst (.pair .str (.pair (.lst .str) (.pair .str .str))))), .ag (.pair (.lst (.pair (.int .u32) (.pair .str (.int .i64)))) (.int .u32)), .one .str], .tup [.sh (.ag (.pair (.int .i64) (.pair .str .str))), .sh (.one (.int .i64))], run m_⟩
theorem k (m_ : Mode) : KR P (O m_) inl [] (c m_) := by
  intro v_; kernel_rfl
theorem ok (m_ : Mode) : (c m_).OK P := KR.ok (fun S0 w0 => (Ok m_)) (by kernel_rfl) (by rfl) (fun S0 w0 cs0 => an) (k m_)
end cook_Open

/-! ### pendulum/pendulumlaw25.awake -/
namespace pendulumlaw25_awake
def inl : FuncId → Bool := fun f => [].any (Nat.beq f)
def O (m_ : Mode) : Ora := (oras [cook_Open.c m_, cook_Make.c m_, pendulumref24_New.c m_])
theorem Ok (m_ : Mode) {S0 w0} : OraOK P S0 w0 (O m_) := (oras_ok (ac (cook_Open.ok m_) (ac (cook_Make.ok m_) (ac (pendulumref24_New.ok m_) (an)))))
def p0 : Path := [.r, .r, .l, .r, .l, .l]
def e0 : Spec := ⟨[⟨8, [.c p0, .p p0, .b 0, .c [.r, .r, .r]], [(1, .s), (2, .s), (15, .w)], none, [], false⟩], [], 0⟩
def x0 : List Spec := [⟨[⟨8, [.c [.r, .r, .r]], [(1, .s), (2, .s)], none, [], false⟩], [], 0⟩]
abbrev A0 : Type := LI × LI × Int × Unit
abbrev B0 : Type := (LI × LI × Unit)
def b0 (m_ : Mode) (self : A0 → Option B0) : A0 → Option B0 := fun v_ => match v_ with
| (key, nonce, t, ()) =>
 bif decide (t < 32) then
  bif decide (key.length + ([107] : List Int).length ≤ maxStr) then
  self ((key ++ ([107] : List Int)), nonce, (IntKind.i64.wrap (t + 1)), ()) else none
 else
  some (key, nonce, ())
theorem k0 (m_ : Mode) : KS P (O m_) inl e0 x0 [] (b0 m_) := by
  intro self v_; kernel_rfl
def l0 (m_ : Mode) : A0 → Option B0 := loop m_ (b0 m_)
theorem q0 (v) : l0 .lim v = b0 .lim (l0 .lim) v := KS.q (k0 .lim) v
def g0 (m_ : Mode) : Seg := ⟨e0, x0, l0 m_⟩
theorem s0 (m_ : Mode) (S0 w0 cs0) : SegGood P S0 w0 cs0 8 (g0 m_) := seg_ok m_ (Ok m_) (an) (by rfl) (by rfl) (k0 m_)
def run (m_ : Mode) : Unit → Option (Bool) := fun v_ => match v_ with
| (()) =>
 (pendulumlaw25_awake.l0 m_ (([] : List Int), ([110, 110, 110, 110, 110, 110, 110, 110, 110, 110, 110, 110, 110, 110, 110, 110] : List Int), 0, ())).bind fun (key, nonce, ()) =>
 (pendulumref24_New.run m_ (key, 0, ())).bind fun (r, r1, ()) =>
 bif cutB 1 (key.length : Int) (key.length : Int) then
 bif decide (([108] : List Int).length + (cut key 1 (key.length : Int)).length ≤ maxStr) then
 (pendulumref24_New.run m_ ((([108] : List Int) ++ (cut key 1 (key.length : Int))), 0, ())).bind fun (r2, r3, ()) =>
 (cook_Make.run m_ ((false, ([] : List DT1)), r, (15, (key, key)), nonce, ())).bind fun (r4, r5, r6, ()) =>
 (cook_Open.run m_ (r4, r, r5, ())).bind fun (r7, r8, ()) =>
 (cook_Open.run m_ (r4, r2, r5, ())).bind fun (r9, r10, ()) =>
 bif ((!(decide (r6 = 0))) || (smallI (r5.length : Int))) then
 bif ((!((decide (r6 = 0)) && (decide ((r5.length : Int) = 104)))) || (cutB 0 4 (r5.length : Int))) then
 some ((((((decide (r6 = 0)) && (decide ((r5.length : Int) = 104))) && (decide ((cut r5 0 4) = ([0, 0, 0, 1] : List Int)))) && ((decide (r7.1 = 15)) && ((decide (r7.2.1 = key)) && (decide (r7.2.2 = key))))) && (decide (r8 = 0))) && (decide (r10 = 17))) else none else none else none else none
def c (m_ : Mode) : Callee := ⟨8, [], .one (.sh (.one .bool)), run m_⟩
theorem k (m_ : Mode) : KR P (O m_) inl [g0 m_] (c m_) := by
  intro v_; kernel_rfl
theorem ok (m_ : Mode) : (c m_).OK P := KR.ok (fun S0 w0 => (Ok m_)) (by kernel_rfl) (by rfl) (fun S0 w0 cs0 => ac (s0 m_ S0 w0 cs0) (an)) (k m_)
end pendulumlaw25_awake

/-! ### pendulum/pendulumref10.refused -/
namespace pendulumref10_refused
def inl : FuncId → Bool := fun f => [].any (Nat.beq f)
def O (m_ : Mode) : Ora := (oras [])
theorem Ok (m_ : Mode) {S0 w0} : OraOK P S0 w0 (O m_) := (oras_ok (an))
def run (m_ : Mode) : (List Int) × (List (List Int)) × Unit → Option (Int) := fun v_ => match v_ with
| (key, ad, ()) =>
 bif smallI (key.length : Int) then
 bif ((!(!(decide ((key.length : Int) = 32)))) || (smallI (key.length : Int))) then
 bif ((!(decide ((key.length : Int) = 32))) && (!(decide ((key.length : Int) = 64)))) then
  some 13
 else
  bif smallI (ad.length : Int) then
  bif decide ((ad.length : Int) ≥ 127) then
   some 18
  else
   some 0 else none else none else none
def c (m_ : Mode) : Callee := ⟨52, [.one .str, .one (.lst .str)], .one (.sh (.one (.int .i64))), run m_⟩
theorem k (m_ : Mode) : KR P (O m_) inl [] (c m_) := by
  intro v_; kernel_rfl
theorem ok (m_ : Mode) : (c m_).OK P := KR.ok (fun S0 w0 => (Ok m_)) (by kernel_rfl) (by rfl) (fun S0 w0 cs0 => an) (k m_)
end pendulumref10_refused

/-! ### pendulum/pendulumref08.sized -/
namespace pendulumref08_sized
def inl : FuncId → Bool := fun f => [].any (Nat.beq f)
def O (m_ : Mode) : Ora := (oras [])
theorem Ok (m_ : Mode) {S0 w0} : OraOK P S0 w0 (O m_) := (oras_ok (an))
def run (m_ : Mode) : (List Int) × Unit → Option (Bool) := fun v_ => match v_ with
| (key, ()) =>
 bif smallI (key.length : Int) then
 bif ((!(!(decide ((key.length : Int) = 16)))) || (smallI (key.length : Int))) then
 some ((decide ((key.length : Int) = 16)) || (decide ((key.length : Int) = 32))) else none else none
def c (m_ : Mode) : Callee := ⟨67, [.one .str], .one (.sh (.one .bool)), run m_⟩
theorem k (m_ : Mode) : KR P (O m_) inl [] (c m_) := by
  intro v_; kernel_rfl
theorem ok (m_ : Mode) : (c m_).OK P := KR.ok (fun S0 w0 => (Ok m_)) (by kernel_rfl) (by rfl) (fun S0 w0 cs0 => an) (k m_)
end pendulumref08_sized

/-! ### pendulum/pendulumref08.sized2 -/
namespace pendulumref08_sized2
def inl : FuncId → Bool := fun f => [].any (Nat.beq f)
def O (m_ : Mode) : Ora := (oras [pendulumref08_sized.c m_])
theorem Ok (m_ : Mode) {S0 w0} : OraOK P S0 w0 (O m_) := (oras_ok (ac (pendulumref08_sized.ok m_) (an)))
def run (m_ : Mode) : (List Int) × (List Int) × Unit → Option (Int) := fun v_ => match v_ with
| (key, block, ()) =>
 (pendulumref08_sized.run m_ (key, ())).bind fun r =>
 bif !r then
  some 13
 else
  bif smallI (block.length : Int) then
  bif !(decide ((block.length : Int) = 16)) then
   some 10
  else
   some 0 else none
def c (m_ : Mode) : Callee := ⟨59, [.one .str, .one .str], .one (.sh (.one (.int .i64))), run m_⟩
theorem k (m_ : Mode) : KR P (O m_) inl [] (c m_) := by
  intro v_; kernel_rfl
theorem ok (m_ : Mode) : (c m_).OK P := KR.ok (fun S0 w0 => (Ok m_)) (by kernel_rfl) (by rfl) (fun S0 w0 cs0 => an) (k m_)
end pendulumref08_sized2

/-! ### pendulum/pendulumref08.Sub -/
namespace pendulumref08_Sub
def inl : FuncId → Bool := fun f => [].any (Nat.beq f)
def O (m_ : Mode) : Ora := (oras [])
theorem Ok (m_ : Mode) {S0 w0} : OraOK P S0 w0 (O m_) := (oras_ok (an))
def run (m_ : Mode) : Int × Unit → Option (Int) := fun v_ => match v_ with
| (b, ()) =>
 bif inB b (([99, 124, 119, 123, 242, 107, 111, 197, 48, 1, 103, 43, 254, 215, 171, 118, 202, 130, 201, 125, 250, 89, 71, 240, 173, 212, 162, 175, 156, 164, 114, 192, 183, 253, 147, 38, 54, 63, 247, 204, 52, 165, 229, 241, 113, 216, 49, 21, 4, 199, 35, 195, 24, 150, 5, 154, 7, 18, 128, 226, 235, 39, 178, 117, 9, 131, 44, 26, 27, 110, 90, 160, 82, 59, 214, 179, 41, 227, 47, 132, 83, 209, 0, 237, 32, 252, 177, 91, 106, 203, 190, 57, 74, 76, 88, 207, 208, 239, 170, 251, 67, 77, 51, 133, 69, 249, 2, 127, 80, 60, 159, 168, 81, 163, 64, 143, 146, 157, 56, 245, 188, 182, 218, 33, 16, 255, 243, 210, 205, 12, 19, 236, 95, 151, 68, 23, 196, 167, 126, 61, 100, 93, 25, 115, 96, 129, 79, 220, 34, 42, 144, 136, 70, 238, 184, 20, 222, 94, 11, 219, 224, 50, 58, 10, 73, 6, 36, 92, 194, 211, 172, 98, 145, 149, 228, 121, 231, 200, 55, 109, 141, 213, 78, 169, 108, 86, 244, 234, 101, 122, 174, 8, 186, 120, 37, 46, 28, 166, 180, 198, 232, 221, 116, 31, 75, 189, 139, 138, 112, 62, 181, 102, 72, 3, 246, 14, 97, 53, 87, 185, 134, 193, 29, 158, 225, 248, 152, 17, 105, 217, 142, 148, 155, 30, 135, 233, 206, 85, 40, 223, 140, 161, 137, 13, 191, 230, 66, 104, 65, 153, 45, 15, 176, 84, 187, 22] : List Int).length : Int) then
 some (rd 0 ([99, 124, 119, 123, 242, 107, 111, 197, 48, 1, 103, 43, 254, 215, 171, 118, 202, 130, 201, 125, 250, 89, 71, 240, 173, 212, 162, 175, 156, 164, 114, 192, 183, 253, 147, 38, 54, 63, 247, 204, 52, 165, 229, 241, 113, 216, 49, 21, 4, 199, 35, 195, 24, 150, 5, 154, 7, 18, 128, 226, 235, 39, 178, 117, 9, 131, 44, 26, 27, 110, 90, 160, 82, 59, 214, 179, 41, 227, 47, 132, 83, 209, 0, 237, 32, 252, 177, 91, 106, 203, 190, 57, 74, 76, 88, 207, 208, 239, 170, 251, 67, 77, 51, 133, 69, 249, 2, 127, 80, 60, 159, 168, 81, 163, 64, 143, 146, 157, 56, 245, 188, 182, 218, 33, 16, 255, 243, 210, 205, 12, 19, 236, 95, 151, 68, 23, 196, 167, 126, 61, 100, 93, 25, 115, 96, 129, 79, 220, 34, 42, 144, 136, 70, 238, 184, 20, 222, 94, 11, 219, 224, 50, 58, 10, 73, 6, 36, 92, 194, 211, 172, 98, 145, 149, 228, 121, 231, 200, 55, 109, 141, 213, 78, 169, 108, 86, 244, 234, 101, 122, 174, 8, 186, 120, 37, 46, 28, 166, 180, 198, 232, 221, 116, 31, 75, 189, 139, 138, 112, 62, 181, 102, 72, 3, 246, 14, 97, 53, 87, 185, 134, 193, 29, 158, 225, 248, 152, 17, 105, 217, 142, 148, 155, 30, 135, 233, 206, 85, 40, 223, 140, 161, 137, 13, 191, 230, 66, 104, 65, 153, 45, 15, 176, 84, 187, 22] : List Int) b) else none
def c (m_ : Mode) : Callee := ⟨68, [.one (.int .u8)], .one (.sh (.one (.int .u8))), run m_⟩
theorem k (m_ : Mode) : KR P (O m_) inl [] (c m_) := by
  intro v_; kernel_rfl
theorem ok (m_ : Mode) : (c m_).OK P := KR.ok (fun S0 w0 => (Ok m_)) (by kernel_rfl) (by rfl) (fun S0 w0 cs0 => an) (k m_)
end pendulumref08_Sub

/-! ### pendulum/pendulumref08.Times -/
namespace pendulumref08_Times
def inl : FuncId → Bool := fun f => [].any (Nat.beq f)
def O (m_ : Mode) : Ora := (oras [])
theorem Ok (m_ : Mode) {S0 w0} : OraOK P S0 w0 (O m_) := (oras_ok (an))
def p0 : Path := [.r, .r, .l, .r, .l, .l]
def e0 : Spec := ⟨[⟨69, [.c p0, .p p0, .b 0, .c [.r, .r, .r]], [(0, .y), (1, .y), (5, .y), (6, .w)], none, [], false⟩], [], 0⟩
def x0 : List Spec := [⟨[⟨69, [.c [.r, .r, .r]], [(5, .y)], none, [], false⟩], [], 0⟩]
abbrev A0 : Type := Int × Int × Int × Int × Unit
abbrev B0 : Type := (Int × Unit)
def b0 (m_ : Mode) (self : A0 → Option B0) : A0 → Option B0 := fun v_ => match v_ with
| (a, b, r, i, ()) =>
 bif decide (i < 8) then
  bif decide ((iand .u8 b 1) = 1) then
   bif !(decide ((iand .u8 a 128) = 0)) then
    self ((ixor .u8 (ishl .u8 a 1) 27), (ishr .u8 b 1), (ixor .u8 r a), (IntKind.i64.wrap (i + 1)), ())
   else
    self ((ishl .u8 a 1), (ishr .u8 b 1), (ixor .u8 r a), (IntKind.i64.wrap (i + 1)), ())
  else
   bif !(decide ((iand .u8 a 128) = 0)) then
    self ((ixor .u8 (ishl .u8 a 1) 27), (ishr .u8 b 1), r, (IntKind.i64.wrap (i + 1)), ())
   else
    self ((ishl .u8 a 1), (ishr .u8 b 1), r, (IntKind.i64.wrap (i + 1)), ())
 else
  some (r, ())
theorem k0 (m_ : Mode) : KS P (O m_) inl e0 x0 [] (b0 m_) := by
  intro self v_; kernel_rfl
def l0 (m_ : Mode) : A0 → Option B0 := loop m_ (b0 m_)
theorem q0 (v) : l0 .lim v = b0 .lim (l0 .lim) v := KS.q (k0 .lim) v
def g0 (m_ : Mode) : Seg := ⟨e0, x0, l0 m_⟩
theorem s0 (m_ : Mode) (S0 w0 cs0) : SegGood P S0 w0 cs0 69 (g0 m_) := seg_ok m_ (Ok m_) (an) (by rfl) (by rfl) (k0 m_)
def run (m_ : Mode) : Int × Int × Unit → Option (Int) := fun v_ => match v_ with
| (a, b, ()) =>
 (pendulumref08_Times.l0 m_ (a, b, 0, 0, ())).bind fun (r, ()) =>
 some r
def c (m_ : Mode) : Callee := ⟨69, [.one (.int .u8), .one (.int .u8)], .one (.sh (.one (.int .u8))), run m_⟩
theorem k (m_ : Mode) : KR P (O m_) inl [g0 m_] (c m_) := by
  intro v_; kernel_rfl
theorem ok (m_ : Mode) : (c m_).OK P := KR.ok (fun S0 w0 => (Ok m_)) (by kernel_rfl) (by rfl) (fun S0 w0 cs0 => ac (s0 m_ S0 w0 cs0) (an)) (k m_)
end pendulumref08_Times

/-! ### pendulum/pendulumref08.words -/
namespace pendulumref08_words
def inl : FuncId → Bool := fun f => [].any (Nat.beq f)
def O (m_ : Mode) : Ora := (oras [pendulumref08_Sub.c m_, pendulumref08_Times.c m_])
theorem Ok (m_ : Mode) {S0 w0} : OraOK P S0 w0 (O m_) := (oras_ok (ac (pendulumref08_Sub.ok m_) (ac (pendulumref08_Times.ok m_) (an))))
def p0 : Path := [.r, .r, .r, .r, .l, .r, .l, .l, .r, .l, .l, .r, .r, .r, .l, .l]
def p1 : Path := [.r, .r, .r, .r, .l, .r, .l, .l, .r, .r]
def p2 : Path := [.r, .r, .r, .r, .l, .r, .l, .l]
def e0 : Spec := ⟨[⟨60, [.c p0, .p p0, .b 2, .b 1, .c p1, .p p2, .b 0, .c [.r, .r, .r, .r, .r]], [(3, .w), (4, .own 0 (.int .u8)), (5, .y), (6, .w), (7, .own 1 (.int .u8)), (8, .w)], none, [], false⟩], [(0, .c [.row (.int .u8)]), (1, .c [.row (.int .u8)])], 2⟩
def x0 : List Spec := [⟨[⟨60, [.c p1, .p p2, .b 0, .c [.r, .r, .r, .r, .r]], [(3, .w), (4, .own 0 (.int .u8)), (5, .y), (6, .w)], none, [], false⟩], [(0, .c [.row (.int .u8)])], 1⟩]
abbrev A0 : Type := Int × Int × Int × Int × LI × LI × Unit
abbrev B0 : Type := (Int × Int × Int × LI × Unit)
def b0 (m_ : Mode) (self : A0 → Option B0) : A0 → Option B0 := fun v_ => match v_ with
| (nk, c, i, k, m, m1, ()) =>
 bif decide (k < 4) then
  bif inB (IntKind.i64.wrap ((IntKind.i64.wrap (4 * (IntKind.i64.wrap (i - nk)))) + k)) (m.length : Int) then
  bif inB k (m1.length : Int) then
  bif decide (m.length + ([(ixor .u8 (rd 0 m (IntKind.i64.wrap ((IntKind.i64.wrap (4 * (IntKind.i64.wrap (i - nk)))) + k))) (rd 0 m1 k))] : List Int).length < 70368744177664) then
  self (nk, c, i, (IntKind.i64.wrap (k + 1)), (m ++ ([(ixor .u8 (rd 0 m (IntKind.i64.wrap ((IntKind.i64.wrap (4 * (IntKind.i64.wrap (i - nk)))) + k))) (rd 0 m1 k))] : List Int)), m1, ()) else none else none else none
 else
  some (nk, c, i, m, ())
theorem k0 (m_ : Mode) : KS P (O m_) inl e0 x0 [] (b0 m_) := by
  intro self v_; kernel_rfl
def l0 (m_ : Mode) : A0 → Option B0 := loop m_ (b0 m_)
theorem q0 (v) : l0 .lim v = b0 .lim (l0 .lim) v := KS.q (k0 .lim) v
def g0 (m_ : Mode) : Seg := ⟨e0, x0, l0 m_⟩
theorem s0 (m_ : Mode) (S0 w0 cs0) : SegGood P S0 w0 cs0 60 (g0 m_) := seg_ok m_ (Ok m_) (an) (by rfl) (by rfl) (k0 m_)
def e1 : Spec := ⟨[⟨60, [.c p2, .p p2, .b 0, .c [.r, .r, .r, .r, .r]], [(3, .w), (4, .own 0 (.int .u8)), (5, .y), (6, .w)], none, [], false⟩], [(0, .c [.row (.int .u8)])], 1⟩
def x1 : List Spec := [⟨[⟨60, [.c [.r, .r, .r, .r, .r]], [(4, .own 0 (.int .u8))], none, [], false⟩], [(0, .c [.row (.int .u8)])], 1⟩]
abbrev A1 : Type := Int × Int × Int × LI × Unit
abbrev B1 : Type := (LI × Unit)
def b1 (m_ : Mode) (self : A1 → Option B1) : A1 → Option B1 := fun v_ => match v_ with
| (nk, c, i, m, ()) =>
 bif decide (i < (IntKind.i64.wrap (4 * (IntKind.i64.wrap (nk + 7))))) then
  bif inB (IntKind.i64.wrap ((IntKind.i64.wrap (4 * i)) - 4)) (m.length : Int) then
  bif inB (IntKind.i64.wrap ((IntKind.i64.wrap (4 * i)) - 3)) (m.length : Int) then
  bif inB (IntKind.i64.wrap ((IntKind.i64.wrap (4 * i)) - 2)) (m.length : Int) then
  bif inB (IntKind.i64.wrap ((IntKind.i64.wrap (4 * i)) - 1)) (m.length : Int) then
  bif !(decide (nk = 0)) then
  bif decide ((i.tmod nk) = 0) then
   bif inB 1 (([(rd 0 m (IntKind.i64.wrap ((IntKind.i64.wrap (4 * i)) - 4))), (rd 0 m (IntKind.i64.wrap ((IntKind.i64.wrap (4 * i)) - 3))), (rd 0 m (IntKind.i64.wrap ((IntKind.i64.wrap (4 * i)) - 2))), (rd 0 m (IntKind.i64.wrap ((IntKind.i64.wrap (4 * i)) - 1)))] : List Int).length : Int) then
   (pendulumref08_Sub.run m_ ((rd 0 ([(rd 0 m (IntKind.i64.wrap ((IntKind.i64.wrap (4 * i)) - 4))), (rd 0 m (IntKind.i64.wrap ((IntKind.i64.wrap (4 * i)) - 3))), (rd 0 m (IntKind.i64.wrap ((IntKind.i64.wrap (4 * i)) - 2))), (rd 0 m (IntKind.i64.wrap ((IntKind.i64.wrap (4 * i)) - 1)))] : List Int) 1), ())).bind fun r =>
   bif inB 2 (([(rd 0 m (IntKind.i64.wrap ((IntKind.i64.wrap (4 * i)) - 4))), (rd 0 m (IntKind.i64.wrap ((IntKind.i64.wrap (4 * i)) - 3))), (rd 0 m (IntKind.i64.wrap ((IntKind.i64.wrap (4 * i)) - 2))), (rd 0 m (IntKind.i64.wrap ((IntKind.i64.wrap (4 * i)) - 1)))] : List Int).length : Int) then
   (pendulumref08_Sub.run m_ ((rd 0 ([(rd 0 m (IntKind.i64.wrap ((IntKind.i64.wrap (4 * i)) - 4))), (rd 0 m (IntKind.i64.wrap ((IntKind.i64.wrap (4 * i)) - 3))), (rd 0 m (IntKind.i64.wrap ((IntKind.i64.wrap (4 * i)) - 2))), (rd 0 m (IntKind.i64.wrap ((IntKind.i64.wrap (4 * i)) - 1)))] : List Int) 2), ())).bind fun r1 =>
   bif inB 3 (([(rd 0 m (IntKind.i64.wrap ((IntKind.i64.wrap (4 * i)) - 4))), (rd 0 m (IntKind.i64.wrap ((IntKind.i64.wrap (4 * i)) - 3))), (rd 0 m (IntKind.i64.wrap ((IntKind.i64.wrap (4 * i)) - 2))), (rd 0 m (IntKind.i64.wrap ((IntKind.i64.wrap (4 * i)) - 1)))] : List Int).length : Int) then
   (pendulumref08_Sub.run m_ ((rd 0 ([(rd 0 m (IntKind.i64.wrap ((IntKind.i64.wrap (4 * i)) - 4))), (rd 0 m (IntKind.i64.wrap ((IntKind.i64.wrap (4 * i)) - 3))), (rd 0 m (IntKind.i64.wrap ((IntKind.i64.wrap (4 * i)) - 2))), (rd 0 m (IntKind.i64.wrap ((IntKind.i64.wrap (4 * i)) - 1)))] : List Int) 3), ())).bind fun r2 =>
   bif inB 0 (([(rd 0 m (IntKind.i64.wrap ((IntKind.i64.wrap (4 * i)) - 4))), (rd 0 m (IntKind.i64.wrap ((IntKind.i64.wrap (4 * i)) - 3))), (rd 0 m (IntKind.i64.wrap ((IntKind.i64.wrap (4 * i)) - 2))), (rd 0 m (IntKind.i64.wrap ((IntKind.i64.wrap (4 * i)) - 1)))] : List Int).length : Int) then
   (pendulumref08_Sub.run m_ ((rd 0 ([(rd 0 m (IntKind.i64.wrap ((IntKind.i64.wrap (4 * i)) - 4))), (rd 0 m (IntKind.i64.wrap ((IntKind.i64.wrap (4 * i)) - 3))), (rd 0 m (IntKind.i64.wrap ((IntKind.i64.wrap (4 * i)) - 2))), (rd 0 m (IntKind.i64.wrap ((IntKind.i64.wrap (4 * i)) - 1)))] : List Int) 0), ())).bind fun r3 =>
   (pendulumref08_Times.run m_ (c, 2, ())).bind fun r4 =>
   (pendulumref08_words.l0 m_ (nk, r4, i, 0, m, ([(ixor .u8 r c), r1, r2, r3] : List Int), ())).bind fun (nk1, c1, i1, m1, ()) =>
   self (nk1, c1, (IntKind.i64.wrap (i1 + 1)), m1, ()) else none else none else none else none
  else
   bif ((!(decide (nk = 8))) || true) then
   bif ((decide (nk = 8)) && (decide ((i.tmod 8) = 4))) then
    bif inB 0 (([(rd 0 m (IntKind.i64.wrap ((IntKind.i64.wrap (4 * i)) - 4))), (rd 0 m (IntKind.i64.wrap ((IntKind.i64.wrap (4 * i)) - 3))), (rd 0 m (IntKind.i64.wrap ((IntKind.i64.wrap (4 * i)) - 2))), (rd 0 m (IntKind.i64.wrap ((IntKind.i64.wrap (4 * i)) - 1)))] : List Int).length : Int) then
    (pendulumref08_Sub.run m_ ((rd 0 ([(rd 0 m (IntKind.i64.wrap ((IntKind.i64.wrap (4 * i)) - 4))), (rd 0 m (IntKind.i64.wrap ((IntKind.i64.wrap (4 * i)) - 3))), (rd 0 m (IntKind.i64.wrap ((IntKind.i64.wrap (4 * i)) - 2))), (rd 0 m (IntKind.i64.wrap ((IntKind.i64.wrap (4 * i)) - 1)))] : List Int) 0), ())).bind fun r5 =>
    bif inB 1 (([(rd 0 m (IntKind.i64.wrap ((IntKind.i64.wrap (4 * i)) - 4))), (rd 0 m (IntKind.i64.wrap ((IntKind.i64.wrap (4 * i)) - 3))), (rd 0 m (IntKind.i64.wrap ((IntKind.i64.wrap (4 * i)) - 2))), (rd 0 m (IntKind.i64.wrap ((IntKind.i64.wrap (4 * i)) - 1)))] : List Int).length : Int) then
    (pendulumref08_Sub.run m_ ((rd 0 ([(rd 0 m (IntKind.i64.wrap ((IntKind.i64.wrap (4 * i)) - 4))), (rd 0 m (IntKind.i64.wrap ((IntKind.i64.wrap (4 * i)) - 3))), (rd 0 m (IntKind.i64.wrap ((IntKind.i64.wrap (4 * i)) - 2))), (rd 0 m (IntKind.i64.wrap ((IntKind.i64.wrap (4 * i)) - 1)))] : List Int) 1), ())).bind fun r6 =>
    bif inB 2 (([(rd 0 m (IntKind.i64.wrap ((IntKind.i64.wrap (4 * i)) - 4))), (rd 0 m (IntKind.i64.wrap ((IntKind.i64.wrap (4 * i)) - 3))), (rd 0 m (IntKind.i64.wrap ((IntKind.i64.wrap (4 * i)) - 2))), (rd 0 m (IntKind.i64.wrap ((IntKind.i64.wrap (4 * i)) - 1)))] : List Int).length : Int) then
    (pendulumref08_Sub.run m_ ((rd 0 ([(rd 0 m (IntKind.i64.wrap ((IntKind.i64.wrap (4 * i)) - 4))), (rd 0 m (IntKind.i64.wrap ((IntKind.i64.wrap (4 * i)) - 3))), (rd 0 m (IntKind.i64.wrap ((IntKind.i64.wrap (4 * i)) - 2))), (rd 0 m (IntKind.i64.wrap ((IntKind.i64.wrap (4 * i)) - 1)))] : List Int) 2), ())).bind fun r7 =>
    bif inB 3 (([(rd 0 m (IntKind.i64.wrap ((IntKind.i64.wrap (4 * i)) - 4))), (rd 0 m (IntKind.i64.wrap ((IntKind.i64.wrap (4 * i)) - 3))), (rd 0 m (IntKind.i64.wrap ((IntKind.i64.wrap (4 * i)) - 2))), (rd 0 m (IntKind.i64.wrap ((IntKind.i64.wrap (4 * i)) - 1)))] : List Int).length : Int) then
    (pendulumref08_Sub.run m_ ((rd 0 ([(rd 0 m (IntKind.i64.wrap ((IntKind.i64.wrap (4 * i)) - 4))), (rd 0 m (IntKind.i64.wrap ((IntKind.i64.wrap (4 * i)) - 3))), (rd 0 m (IntKind.i64.wrap ((IntKind.i64.wrap (4 * i)) - 2))), (rd 0 m (IntKind.i64.wrap ((IntKind.i64.wrap (4 * i)) - 1)))] : List Int) 3), ())).bind fun r8 =>
    (pendulumref08_words.l0 m_ (nk, c, i, 0, m, ([r5, r6, r7, r8] : List Int), ())).bind fun (nk2, c2, i2, m2, ()) =>
    self (nk2, c2, (IntKind.i64.wrap (i2 + 1)), m2, ()) else none else none else none else none
   else
    (pendulumref08_words.l0 m_ (nk, c, i, 0, m, ([(rd 0 m (IntKind.i64.wrap ((IntKind.i64.wrap (4 * i)) - 4))), (rd 0 m (IntKind.i64.wrap ((IntKind.i64.wrap (4 * i)) - 3))), (rd 0 m (IntKind.i64.wrap ((IntKind.i64.wrap (4 * i)) - 2))), (rd 0 m (IntKind.i64.wrap ((IntKind.i64.wrap (4 * i)) - 1)))] : List Int), ())).bind fun (nk3, c3, i3, m3, ()) =>
    self (nk3, c3, (IntKind.i64.wrap (i3 + 1)), m3, ()) else none else none else none else none else none else none
 else
  some (m, ())
theorem k1 (m_ : Mode) : KS P (O m_) inl e1 x1 [g0 m_] (b1 m_) := by
  intro self v_; kernel_rfl
def l1 (m_ : Mode) : A1 → Option B1 := loop m_ (b1 m_)
theorem q1 (v) : l1 .lim v = b1 .lim (l1 .lim) v := KS.q (k1 .lim) v
def g1 (m_ : Mode) : Seg := ⟨e1, x1, l1 m_⟩
theorem s1 (m_ : Mode) (S0 w0 cs0) : SegGood P S0 w0 cs0 60 (g1 m_) := seg_ok m_ (Ok m_) (ac (s0 m_ S0 w0 cs0) (an)) (by rfl) (by rfl) (k1 m_)
def run (m_ : Mode) : (List Int) × Unit → Option (List Int) := fun v_ => match v_ with
| (key, ()) =>
 bif smallI (key.length : Int) then
 (pendulumref08_words.l1 m_ ((IntKind.i64.wrap ((key.length : Int).tdiv 4)), 1, (IntKind.i64.wrap ((key.length : Int).tdiv 4)), key, ())).bind fun (m, ()) =>
 some m else none
def c (m_ : Mode) : Callee := ⟨60, [.one .str], .one (.own (.int .u8)), run m_⟩
theorem k (m_ : Mode) : KR P (O m_) inl [g1 m_] (c m_) := by
  intro v_; kernel_rfl
theorem ok (m_ : Mode) : (c m_).OK P := KR.ok (fun S0 w0 => (Ok m_)) (by kernel_rfl) (by rfl) (fun S0 w0 cs0 => ac (s1 m_ S0 w0 cs0) (an)) (k m_)
end pendulumref08_words

/-! ### pendulum/pendulumref08.turned -/
namespace pendulumref08_turned
def inl : FuncId → Bool := fun f => [].any (Nat.beq f)
def O (m_ : Mode) : Ora := (oras [])
theorem Ok (m_ : Mode) {S0 w0} : OraOK P S0 w0 (O m_) := (oras_ok (an))
def p0 : Path := [.r, .r, .l, .r, .l, .l, .r, .l, .l, .r, .l, .l]
def p1 : Path := [.r, .r, .l, .r, .l, .l, .r, .r]
def p2 : Path := [.r, .r, .l, .r, .l, .l]
def e0 : Spec := ⟨[⟨71, [.c p0, .p p0, .b 2, .b 1, .c p1, .p p2, .b 0, .c [.r, .r, .r]], [(0, .dat (.lst (.int .u8))), (1, .b), (5, .own 0 (.int .u8)), (6, .w), (7, .w)], none, [], false⟩], [(0, .c [.row (.int .u8)])], 1⟩
def x0 : List Spec := [⟨[⟨71, [.c p1, .p p2, .b 0, .c [.r, .r, .r]], [(0, .dat (.lst (.int .u8))), (1, .b), (5, .own 0 (.int .u8)), (6, .w)], none, [], false⟩], [(0, .c [.row (.int .u8)])], 1⟩]
abbrev A0 : Type := LI × Bool × Int × Int × LI × Unit
abbrev B0 : Type := (LI × Bool × Int × LI × Unit)
def b0 (m_ : Mode) (self : A0 → Option B0) : A0 → Option B0 := fun v_ => match v_ with
| (b, back, c, r, m, ()) =>
 bif decide (r < 4) then
  bif back then
   bif inB (IntKind.i64.wrap ((IntKind.i64.wrap (4 * c)) + r)) (b.length : Int) then
   bif inB (IntKind.i64.wrap ((IntKind.i64.wrap (4 * ((IntKind.i64.wrap (c + r)).tmod 4))) + r)) (m.length : Int) then
   self (b, back, c, (IntKind.i64.wrap (r + 1)), (m.set ((IntKind.i64.wrap ((IntKind.i64.wrap (4 * ((IntKind.i64.wrap (c + r)).tmod 4))) + r)).toNat) (rd 0 b (IntKind.i64.wrap ((IntKind.i64.wrap (4 * c)) + r)))), ()) else none else none
  else
   bif inB (IntKind.i64.wrap ((IntKind.i64.wrap (4 * ((IntKind.i64.wrap (c + r)).tmod 4))) + r)) (b.length : Int) then
   bif inB (IntKind.i64.wrap ((IntKind.i64.wrap (4 * c)) + r)) (m.length : Int) then
   self (b, back, c, (IntKind.i64.wrap (r + 1)), (m.set ((IntKind.i64.wrap ((IntKind.i64.wrap (4 * c)) + r)).toNat) (rd 0 b (IntKind.i64.wrap ((IntKind.i64.wrap (4 * ((IntKind.i64.wrap (c + r)).tmod 4))) + r)))), ()) else none else none
 else
  some (b, back, c, m, ())
theorem k0 (m_ : Mode) : KS P (O m_) inl e0 x0 [] (b0 m_) := by
  intro self v_; kernel_rfl
def l0 (m_ : Mode) : A0 → Option B0 := loop m_ (b0 m_)
theorem q0 (v) : l0 .lim v = b0 .lim (l0 .lim) v := KS.q (k0 .lim) v
def g0 (m_ : Mode) : Seg := ⟨e0, x0, l0 m_⟩
theorem s0 (m_ : Mode) (S0 w0 cs0) : SegGood P S0 w0 cs0 71 (g0 m_) := seg_ok m_ (Ok m_) (an) (by rfl) (by rfl) (k0 m_)
def e1 : Spec := ⟨[⟨71, [.c p2, .p p2, .b 0, .c [.r, .r, .r]], [(0, .dat (.lst (.int .u8))), (1, .b), (5, .own 0 (.int .u8)), (6, .w)], none, [], false⟩], [(0, .c [.row (.int .u8)])], 1⟩
def x1 : List Spec := [⟨[⟨71, [.c [.r, .r, .r]], [(5, .own 0 (.int .u8))], none, [], false⟩], [(0, .c [.row (.int .u8)])], 1⟩]
abbrev A1 : Type := LI × Bool × Int × LI × Unit
abbrev B1 : Type := (LI × Unit)
def b1 (m_ : Mode) (self : A1 → Option B1) : A1 → Option B1 := fun v_ => match v_ with
| (b, back, c, m, ()) =>
 bif decide (c < 4) then
  (pendulumref08_turned.l0 m_ (b, back, c, 0, m, ())).bind fun (b1, back1, c1, m1, ()) =>
  self (b1, back1, (IntKind.i64.wrap (c1 + 1)), m1, ())
 else
  some (m, ())
theorem k1 (m_ : Mode) : KS P (O m_) inl e1 x1 [g0 m_] (b1 m_) := by
  intro self v_; kernel_rfl
def l1 (m_ : Mode) : A1 → Option B1 := loop m_ (b1 m_)
theorem q1 (v) : l1 .lim v = b1 .lim (l1 .lim) v := KS.q (k1 .lim) v
def g1 (m_ : Mode) : Seg := ⟨e1, x1, l1 m_⟩
theorem s1 (m_ : Mode) (S0 w0 cs0) : SegGood P S0 w0 cs0 71 (g1 m_) := seg_ok m_ (Ok m_) (ac (s0 m_ S0 w0 cs0) (an)) (by rfl) (by rfl) (k1 m_)
def run (m_ : Mode) : (List Int) × Bool × Unit → Option (List Int) := fun v_ => match v_ with
| (b, back, ()) =>
 bif Nat.blt 16 70368744177664 then
 (pendulumref08_turned.l1 m_ (b, back, 0, (List.replicate 16 0), ())).bind fun (m, ()) =>
 some m else none
def c (m_ : Mode) : Callee := ⟨71, [.one (.lst (.int .u8)), .one .bool], .one (.own (.int .u8)), run m_⟩
theorem k (m_ : Mode) : KR P (O m_) inl [g1 m_] (c m_) := by
  intro v_; kernel_rfl
theorem ok (m_ : Mode) : (c m_).OK P := KR.ok (fun S0 w0 => (Ok m_)) (by kernel_rfl) (by rfl) (fun S0 w0 cs0 => ac (s1 m_ S0 w0 cs0) (an)) (k m_)
end pendulumref08_turned

/-! ### pendulum/pendulumref08.mixed -/
namespace pendulumref08_mixed
def inl : FuncId → Bool := fun f => [].any (Nat.beq f)
def O (m_ : Mode) : Ora := (oras [pendulumref08_Times.c m_])
theorem Ok (m_ : Mode) {S0 w0} : OraOK P S0 w0 (O m_) := (oras_ok (ac (pendulumref08_Times.ok m_) (an)))
def p0 : Path := [.r, .r, .l, .r, .l, .l, .r, .l, .l, .r, .l, .l, .r, .l, .l, .r, .l, .l]
def p1 : Path := [.r, .r, .l, .r, .l, .l, .r, .l, .l, .r, .l, .l, .r, .r]
def p2 : Path := [.r, .r, .l, .r, .l, .l, .r, .l, .l, .r, .l, .l]
def p3 : Path := [.r, .r, .l, .r, .l, .l, .r, .r]
def p4 : Path := [.r, .r, .l, .r, .l, .l]
def e0 : Spec := ⟨[⟨72, [.c p0, .p p0, .b 4, .b 3, .c p1, .p p2, .b 2, .b 1, .c p3, .p p4, .b 0, .c [.r, .r, .r]], [(0, .dat (.lst (.int .u8))), (1, .dat (.lst (.int .u8))), (5, .own 0 (.int .u8)), (6, .w), (7, .w), (8, .w)], none, [], false⟩], [(0, .c [.row (.int .u8)])], 1⟩
def x0 : List Spec := [⟨[⟨72, [.c p1, .p p2, .b 2, .b 1, .c p3, .p p4, .b 0, .c [.r, .r, .r]], [(0, .dat (.lst (.int .u8))), (1, .dat (.lst (.int .u8))), (5, .own 0 (.int .u8)), (6, .w), (7, .w)], none, [], false⟩], [(0, .c [.row (.int .u8)])], 1⟩]
abbrev A0 : Type := LI × LI × Int × Int × Int × LI × Unit
abbrev B0 : Type := (LI × LI × Int × Int × LI × Unit)
def b0 (m_ : Mode) (self : A0 → Option B0) : A0 → Option B0 := fun v_ => match v_ with
| (b, m, c, r, k, m1, ()) =>
 bif decide (k < 4) then
  bif inB (IntKind.i64.wrap ((IntKind.i64.wrap (4 * c)) + r)) (m1.length : Int) then
  bif inB (IntKind.i64.wrap ((IntKind.i64.wrap (4 * c)) + ((IntKind.i64.wrap (r + k)).tmod 4))) (b.length : Int) then
  bif inB k (m.length : Int) then
  (pendulumref08_Times.run m_ ((rd 0 b (IntKind.i64.wrap ((IntKind.i64.wrap (4 * c)) + ((IntKind.i64.wrap (r + k)).tmod 4)))), (rd 0 m k), ())).bind fun r1 =>
  bif inB (IntKind.i64.wrap ((IntKind.i64.wrap (4 * c)) + r)) (m1.length : Int) then
  self (b, m, c, r, (IntKind.i64.wrap (k + 1)), (m1.set ((IntKind.i64.wrap ((IntKind.i64.wrap (4 * c)) + r)).toNat) (ixor .u8 (rd 0 m1 (IntKind.i64.wrap ((IntKind.i64.wrap (4 * c)) + r))) r1)), ()) else none else none else none else none
 else
  some (b, m, c, r, m1, ())
theorem k0 (m_ : Mode) : KS P (O m_) inl e0 x0 [] (b0 m_) := by
  intro self v_; kernel_rfl
def l0 (m_ : Mode) : A0 → Option B0 := loop m_ (b0 m_)
theorem q0 (v) : l0 .lim v = b0 .lim (l0 .lim) v := KS.q (k0 .lim) v
def g0 (m_ : Mode) : Seg := ⟨e0, x0, l0 m_⟩
theorem s0 (m_ : Mode) (S0 w0 cs0) : SegGood P S0 w0 cs0 72 (g0 m_) := seg_ok m_ (Ok m_) (an) (by rfl) (by rfl) (k0 m_)
def e1 : Spec := ⟨[⟨72, [.c p2, .p p2, .b 2, .b 1, .c p3, .p p4, .b 0, .c [.r, .r, .r]], [(0, .dat (.lst (.int .u8))), (1, .dat (.lst (.int .u8))), (5, .own 0 (.int .u8)), (6, .w), (7, .w)], none, [], false⟩], [(0, .c [.row (.int .u8)])], 1⟩
def x1 : List Spec := [⟨[⟨72, [.c p3, .p p4, .b 0, .c [.r, .r, .r]], [(0, .dat (.lst (.int .u8))), (1, .dat (.lst (.int .u8))), (5, .own 0 (.int .u8)), (6, .w)], none, [], false⟩], [(0, .c [.row (.int .u8)])], 1⟩]
abbrev A1 : Type := LI × LI × Int × Int × LI × Unit
abbrev B1 : Type := (LI × LI × Int × LI × Unit)
def b1 (m_ : Mode) (self : A1 → Option B1) : A1 → Option B1 := fun v_ => match v_ with
| (b, m, c, r, m1, ()) =>
 bif decide (r < 4) then
  (pendulumref08_mixed.l0 m_ (b, m, c, r, 0, m1, ())).bind fun (b1, m2, c1, r1, m3, ()) =>
  self (b1, m2, c1, (IntKind.i64.wrap (r1 + 1)), m3, ())
 else
  some (b, m, c, m1, ())
theorem k1 (m_ : Mode) : KS P (O m_) inl e1 x1 [g0 m_] (b1 m_) := by
  intro self v_; kernel_rfl
def l1 (m_ : Mode) : A1 → Option B1 := loop m_ (b1 m_)
theorem q1 (v) : l1 .lim v = b1 .lim (l1 .lim) v := KS.q (k1 .lim) v
def g1 (m_ : Mode) : Seg := ⟨e1, x1, l1 m_⟩
theorem s1 (m_ : Mode) (S0 w0 cs0) : SegGood P S0 w0 cs0 72 (g1 m_) := seg_ok m_ (Ok m_) (ac (s0 m_ S0 w0 cs0) (an)) (by rfl) (by rfl) (k1 m_)
def e2 : Spec := ⟨[⟨72, [.c p4, .p p4, .b 0, .c [.r, .r, .r]], [(0, .dat (.lst (.int .u8))), (1, .dat (.lst (.int .u8))), (5, .own 0 (.int .u8)), (6, .w)], none, [], false⟩], [(0, .c [.row (.int .u8)])], 1⟩
def x2 : List Spec := [⟨[⟨72, [.c [.r, .r, .r]], [(5, .own 0 (.int .u8))], none, [], false⟩], [(0, .c [.row (.int .u8)])], 1⟩]
abbrev A2 : Type := LI × LI × Int × LI × Unit
abbrev B2 : Type := (LI × Unit)
def b2 (m_ : Mode) (self : A2 → Option B2) : A2 → Option B2 := fun v_ => match v_ with
| (b, m, c, m1, ()) =>
 bif decide (c < 4) then
  (pendulumref08_mixed.l1 m_ (b, m, c, 0, m1, ())).bind fun (b1, m2, c1, m3, ()) =>
  self (b1, m2, (IntKind.i64.wrap (c1 + 1)), m3, ())
 else
  some (m1, ())
theorem k2 (m_ : Mode) : KS P (O m_) inl e2 x2 [g1 m_] (b2 m_) := by
  intro self v_; kernel_rfl
def l2 (m_ : Mode) : A2 → Option B2 := loop m_ (b2 m_)
theorem q2 (v) : l2 .lim v = b2 .lim (l2 .lim) v := KS.q (k2 .lim) v
def g2 (m_ : Mode) : Seg := ⟨e2, x2, l2 m_⟩
theorem s2 (m_ : Mode) (S0 w0 cs0) : SegGood P S0 w0 cs0 72 (g2 m_) := seg_ok m_ (Ok m_) (ac (s1 m_ S0 w0 cs0) (an)) (by rfl) (by rfl) (k2 m_)
def run (m_ : Mode) : (List Int) × (List Int) × Unit → Option (List Int) := fun v_ => match v_ with
| (b, m, ()) =>
 bif Nat.blt 16 70368744177664 then
 (pendulumref08_mixed.l2 m_ (b, m, 0, (List.replicate 16 0), ())).bind fun (m1, ()) =>
 some m1 else none
def c (m_ : Mode) : Callee := ⟨72, [.one (.lst (.int .u8)), .one (.lst (.int .u8))], .one (.own (.int .u8)), run m_⟩
theorem k (m_ : Mode) : KR P (O m_) inl [g2 m_] (c m_) := by
  intro v_; kernel_rfl
theorem ok (m_ : Mode) : (c m_).OK P := KR.ok (fun S0 w0 => (Ok m_)) (by kernel_rfl) (by rfl) (fun S0 w0 cs0 => ac (s2 m_ S0 w0 cs0) (an)) (k m_)
end pendulumref08_mixed

/-! ### pendulum/pendulumref08.encrypt -/
namespace pendulumref08_encrypt
def inl : FuncId → Bool := fun f => [70].any (Nat.beq f)
def O (m_ : Mode) : Ora := (oras [pendulumref08_Sub.c m_, pendulumref08_turned.c m_, pendulumref08_mixed.c m_])
theorem Ok (m_ : Mode) {S0 w0} : OraOK P S0 w0 (O m_) := (oras_ok (ac (pendulumref08_Sub.ok m_) (ac (pendulumref08_turned.ok m_) (ac (pendulumref08_mixed.ok m_) (an)))))
def f0 : FSpec := ⟨70, [.c [.r, .l, .l], .p [.r, .l, .l], .b 0], [(0, .own 0 (.int .u8)), (1, .dat (.lst (.int .u8))), (4, .w)], none, [], false⟩
def f1 : FSpec := ⟨61, [.g [.r, .r, .l] [3], .c [.r, .r, .r]], [(0, .dat (.lst (.int .u8))), (5, .own 0 (.int .u8))], none, [], false⟩
def f2 : FSpec := ⟨70, [], [], none, [], false⟩
def e0 : Spec := ⟨[f0, f1], [(0, .c [.row (.int .u8)])], 1⟩
def x0 : List Spec := [⟨[f2, f1], [(0, .c [.row (.int .u8)])], 1⟩]
abbrev A0 : Type := LI × Int × LI × LI × Unit
abbrev B0 : Type := (LI × LI × Unit)
def b0 (m_ : Mode) (self : A0 → Option B0) : A0 → Option B0 := fun v_ => match v_ with
| (w, i, w1, m, ()) =>
 bif decide (i < 16) then
  bif inB i (m.length : Int) then
  bif inB i (w.length : Int) then
  bif inB i (m.length : Int) then
  self (w, (IntKind.i64.wrap (i + 1)), w1, (m.set i.toNat (ixor .u8 (rd 0 m i) (rd 0 w i))), ()) else none else none else none
 else
  some (w1, m, ())
theorem k0 (m_ : Mode) : KS P (O m_) inl e0 x0 [] (b0 m_) := by
  intro self v_; kernel_rfl
def l0 (m_ : Mode) : A0 → Option B0 := loop m_ (b0 m_)
theorem q0 (v) : l0 .lim v = b0 .lim (l0 .lim) v := KS.q (k0 .lim) v
def g0 (m_ : Mode) : Seg := ⟨e0, x0, l0 m_⟩
theorem s0 (m_ : Mode) (S0 w0 cs0) : SegGood P S0 w0 cs0 61 (g0 m_) := seg_ok m_ (Ok m_) (an) (by rfl) (by rfl) (k0 m_)
def p3 : Path := [.r, .r, .r, .l, .r, .l, .l, .r, .l, .l, .l, .r, .l, .l]
def p4 : Path := [.r, .r, .r, .l, .r, .l, .l, .r, .l, .l, .r]
def p5 : Path := [.r, .r, .r, .l, .r, .l, .l, .r, .r]
def p6 : Path := [.r, .r, .r, .l, .r, .l, .l]
def e1 : Spec := ⟨[⟨61, [.c p3, .p p3, .b 2, .c p4, .b 1, .c p5, .p p6, .b 0, .c [.r, .r, .r, .r]], [(0, .dat (.lst (.int .u8))), (5, .own 0 (.int .u8)), (6, .w), (7, .w)], none, [], false⟩], [(0, .c [.row (.int .u8)])], 1⟩
def x1 : List Spec := [⟨[⟨61, [.c p4, .b 1, .c p5, .p p6, .b 0, .c [.r, .r, .r, .r]], [(0, .dat (.lst (.int .u8))), (5, .own 0 (.int .u8)), (6, .w)], none, [], false⟩], [(0, .c [.row (.int .u8)])], 1⟩]
abbrev A1 : Type := LI × Int × Int × LI × Unit
abbrev B1 : Type := (LI × Int × LI × Unit)
def b1 (m_ : Mode) (self : A1 → Option B1) : A1 → Option B1 := fun v_ => match v_ with
| (w, i, k, m, ()) =>
 bif decide (k < 16) then
  bif inB k (m.length : Int) then
  (pendulumref08_Sub.run m_ ((rd 0 m k), ())).bind fun r =>
  bif inB k (m.length : Int) then
  self (w, i, (IntKind.i64.wrap (k + 1)), (m.set k.toNat r), ()) else none else none
 else
  some (w, i, m, ())
theorem k1 (m_ : Mode) : KS P (O m_) inl e1 x1 [] (b1 m_) := by
  intro self v_; kernel_rfl
def l1 (m_ : Mode) : A1 → Option B1 := loop m_ (b1 m_)
theorem q1 (v) : l1 .lim v = b1 .lim (l1 .lim) v := KS.q (k1 .lim) v
def g1 (m_ : Mode) : Seg := ⟨e1, x1, l1 m_⟩
theorem s1 (m_ : Mode) (S0 w0 cs0) : SegGood P S0 w0 cs0 61 (g1 m_) := seg_ok m_ (Ok m_) (an) (by rfl) (by rfl) (k1 m_)
def p7 : Path := [.r, .r, .r, .l, .r, .l, .l, .r, .l, .l, .r, .r, .r]
def e2 : Spec := ⟨[f0, ⟨61, [.g p7 [6], .b 1, .c p5, .p p6, .b 0, .c [.r, .r, .r, .r]], [(0, .dat (.lst (.int .u8))), (5, .own 0 (.int .u8)), (6, .w)], none, [], false⟩], [(0, .c [.row (.int .u8)])], 1⟩
def x2 : List Spec := [⟨[f2, ⟨61, [.g p7 [6], .b 1, .c p5, .p p6, .b 0, .c [.r, .r, .r, .r]], [(0, .dat (.lst (.int .u8))), (5, .own 0 (.int .u8)), (6, .w)], none, [], false⟩], [(0, .c [.row (.int .u8)])], 1⟩]
abbrev A2 : Type := LI × Int × LI × Int × LI × Unit
abbrev B2 : Type := (LI × Int × LI × Unit)
def b2 (m_ : Mode) (self : A2 → Option B2) : A2 → Option B2 := fun v_ => match v_ with
| (w, i, w1, i1, m, ()) =>
 bif decide (i < 16) then
  bif inB i (m.length : Int) then
  bif inB i (w.length : Int) then
  bif inB i (m.length : Int) then
  self (w, (IntKind.i64.wrap (i + 1)), w1, i1, (m.set i.toNat (ixor .u8 (rd 0 m i) (rd 0 w i))), ()) else none else none else none
 else
  some (w1, i1, m, ())
theorem k2 (m_ : Mode) : KS P (O m_) inl e2 x2 [] (b2 m_) := by
  intro self v_; kernel_rfl
def l2 (m_ : Mode) : A2 → Option B2 := loop m_ (b2 m_)
theorem q2 (v) : l2 .lim v = b2 .lim (l2 .lim) v := KS.q (k2 .lim) v
def g2 (m_ : Mode) : Seg := ⟨e2, x2, l2 m_⟩
theorem s2 (m_ : Mode) (S0 w0 cs0) : SegGood P S0 w0 cs0 61 (g2 m_) := seg_ok m_ (Ok m_) (an) (by rfl) (by rfl) (k2 m_)
def e3 : Spec := ⟨[⟨61, [.c p6, .p p6, .b 0, .c [.r, .r, .r, .r]], [(0, .dat (.lst (.int .u8))), (5, .own 0 (.int .u8)), (6, .w)], none, [], false⟩], [(0, .c [.row (.int .u8)])], 1⟩
def x3 : List Spec := [⟨[⟨61, [.c [.r, .r, .r, .r]], [(5, .own 0 (.int .u8))], none, [], false⟩], [(0, .c [.row (.int .u8)])], 1⟩]
abbrev A3 : Type := LI × Int × LI × Unit
abbrev B3 : Type := (LI × Unit)
def b3 (m_ : Mode) (self : A3 → Option B3) : A3 → Option B3 := fun v_ => match v_ with
| (w, i, m, ()) =>
 bif smallI (w.length : Int) then
 bif decide (i < (w.length : Int)) then
  (pendulumref08_encrypt.l1 m_ (w, i, 0, m, ())).bind fun (w1, i1, m1, ()) =>
  (pendulumref08_turned.run m_ (m1, false, ())).bind fun r =>
  bif smallI (w1.length : Int) then
  bif decide ((IntKind.i64.wrap (i1 + 16)) < (w1.length : Int)) then
   (pendulumref08_mixed.run m_ (r, ([2, 3, 1, 1] : List Int), ())).bind fun r1 =>
   bif cutB i1 (IntKind.i64.wrap (i1 + 16)) (w1.length : Int) then
   (pendulumref08_encrypt.l2 m_ ((cut w1 i1 (IntKind.i64.wrap (i1 + 16))), 0, w1, i1, r1, ())).bind fun (w2, i2, m2, ()) =>
   self (w2, (IntKind.i64.wrap (i2 + 16)), m2, ()) else none
  else
   bif cutB i1 (IntKind.i64.wrap (i1 + 16)) (w1.length : Int) then
   (pendulumref08_encrypt.l2 m_ ((cut w1 i1 (IntKind.i64.wrap (i1 + 16))), 0, w1, i1, r, ())).bind fun (w3, i3, m3, ()) =>
   self (w3, (IntKind.i64.wrap (i3 + 16)), m3, ()) else none else none
 else
  some (m, ()) else none
theorem k3 (m_ : Mode) : KS P (O m_) inl e3 x3 [g1 m_, g2 m_] (b3 m_) := by
  intro self v_; kernel_rfl
def l3 (m_ : Mode) : A3 → Option B3 := loop m_ (b3 m_)
theorem q3 (v) : l3 .lim v = b3 .lim (l3 .lim) v := KS.q (k3 .lim) v
def g3 (m_ : Mode) : Seg := ⟨e3, x3, l3 m_⟩
theorem s3 (m_ : Mode) (S0 w0 cs0) : SegGood P S0 w0 cs0 61 (g3 m_) := seg_ok m_ (Ok m_) (ac (s1 m_ S0 w0 cs0) (ac (s2 m_ S0 w0 cs0) (an))) (by rfl) (by rfl) (k3 m_)
def run (m_ : Mode) : (List Int) × (List Int) × Unit → Option (List Int) := fun v_ => match v_ with
| (w, block, ()) =>
 bif cutB 0 16 (w.length : Int) then
 (pendulumref08_encrypt.l0 m_ ((cut w 0 16), 0, w, block, ())).bind fun (w1, m, ()) =>
 (pendulumref08_encrypt.l3 m_ (w1, 16, m, ())).bind fun (m1, ()) =>
 some m1 else none
def c (m_ : Mode) : Callee := ⟨61, [.one (.lst (.int .u8)), .one .str], .one (.sh (.one .str)), run m_⟩
theorem k (m_ : Mode) : KR P (O m_) inl [g0 m_, g3 m_] (c m_) := by
  intro v_; kernel_rfl
theorem ok (m_ : Mode) : (c m_).OK P := KR.ok (fun S0 w0 => (Ok m_)) (by kernel_rfl) (by rfl) (fun S0 w0 cs0 => ac (s0 m_ S0 w0 cs0) (ac (s3 m_ S0 w0 cs0) (an))) (k m_)
end pendulumref08_encrypt

/-! ### pendulum/pendulumref08.Stream -/
namespace pendulumref08_Stream
def inl : FuncId → Bool := fun f => [].any (Nat.beq f)
def O (m_ : Mode) : Ora := (oras [pendulumref08_sized2.c m_, pendulumref08_words.c m_, pendulumref08_encrypt.c m_])
theorem Ok (m_ : Mode) {S0 w0} : OraOK P S0 w0 (O m_) := (oras_ok (ac (pendulumref08_sized2.ok m_) (ac (pendulumref08_words.ok m_) (ac (pendulumref08_encrypt.ok m_) (an)))))
def p0 : Path := [.r, .r, .r, .r, .r, .r, .r, .l, .l, .l, .r, .l, .r, .r, .l, .l]
def p1 : Path := [.r, .r, .r, .r, .r, .r, .r, .l, .l, .l]
def p2 : Path := [.r, .r, .r, .r, .r, .r, .r, .r]
def e0 : Spec := ⟨[⟨56, [.c p0, .p p0, .b 2, .b 1, .p p1, .b 0, .c p2], [(2, .w), (9, .own 0 (.int .u8)), (10, .own 1 (.int .u8)), (11, .s), (12, .w)], none, [], false⟩], [(0, .c [.row (.int .u8)]), (1, .c [.row (.int .u8)])], 2⟩
def x0 : List Spec := [⟨[⟨56, [.c p1, .p p1, .b 0, .c p2], [(2, .w), (9, .own 0 (.int .u8)), (10, .own 1 (.int .u8)), (11, .s)], none, [], false⟩], [(0, .c [.row (.int .u8)]), (1, .c [.row (.int .u8)])], 2⟩]
abbrev A0 : Type := Int × LI × Int × LI × LI × Unit
abbrev B0 : Type := (Int × LI × LI × LI × Unit)
def b0 (m_ : Mode) (self : A0 → Option B0) : A0 → Option B0 := fun v_ => match v_ with
| (n, out, i, m, m1, ()) =>
 bif decide (i ≥ 0) then
  bif inB i (m1.length : Int) then
  bif inB i (m1.length : Int) then
  bif inB i ((m1.set i.toNat (IntKind.u8.wrap ((rd 0 m1 i) + 1))).length : Int) then
  bif !(decide ((rd 0 (m1.set i.toNat (IntKind.u8.wrap ((rd 0 m1 i) + 1))) i) = 0)) then
   some (n, out, m, (m1.set i.toNat (IntKind.u8.wrap ((rd 0 m1 i) + 1))), ())
  else
   self (n, out, (IntKind.i64.wrap (i - 1)), m, (m1.set i.toNat (IntKind.u8.wrap ((rd 0 m1 i) + 1))), ()) else none else none else none
 else
  some (n, out, m, m1, ())
theorem k0 (m_ : Mode) : KS P (O m_) inl e0 x0 [] (b0 m_) := by
  intro self v_; kernel_rfl
def l0 (m_ : Mode) : A0 → Option B0 := loop m_ (b0 m_)
theorem q0 (v) : l0 .lim v = b0 .lim (l0 .lim) v := KS.q (k0 .lim) v
def g0 (m_ : Mode) : Seg := ⟨e0, x0, l0 m_⟩
theorem s0 (m_ : Mode) (S0 w0 cs0) : SegGood P S0 w0 cs0 56 (g0 m_) := seg_ok m_ (Ok m_) (an) (by rfl) (by rfl) (k0 m_)
def e1 : Spec := ⟨[⟨56, [.c p1, .p p1, .b 0, .c p2], [(2, .w), (9, .own 0 (.int .u8)), (10, .own 1 (.int .u8)), (11, .s)], none, [], false⟩], [(0, .c [.row (.int .u8)]), (1, .c [.row (.int .u8)])], 2⟩
def x1 : List Spec := [⟨[⟨56, [.c p2], [(2, .w), (11, .s)], none, [], false⟩], [], 0⟩]
abbrev A1 : Type := Int × LI × LI × LI × Unit
abbrev B1 : Type := (Int × LI × Unit)
def b1 (m_ : Mode) (self : A1 → Option B1) : A1 → Option B1 := fun v_ => match v_ with
| (n, out, m, m1, ()) =>
 bif smallI (out.length : Int) then
 bif decide ((out.length : Int) < n) then
  (pendulumref08_encrypt.run m_ (m, m1, ())).bind fun r =>
  bif decide (out.length + r.length ≤ maxStr) then
  (pendulumref08_Stream.l0 m_ (n, (out ++ r), 15, m, m1, ())).bind fun (n1, out1, m2, m3, ()) =>
  self (n1, out1, m2, m3, ()) else none
 else
  some (n, out, ()) else none
theorem k1 (m_ : Mode) : KS P (O m_) inl e1 x1 [g0 m_] (b1 m_) := by
  intro self v_; kernel_rfl
def l1 (m_ : Mode) : A1 → Option B1 := loop m_ (b1 m_)
theorem q1 (v) : l1 .lim v = b1 .lim (l1 .lim) v := KS.q (k1 .lim) v
def g1 (m_ : Mode) : Seg := ⟨e1, x1, l1 m_⟩
theorem s1 (m_ : Mode) (S0 w0 cs0) : SegGood P S0 w0 cs0 56 (g1 m_) := seg_ok m_ (Ok m_) (ac (s0 m_ S0 w0 cs0) (an)) (by rfl) (by rfl) (k1 m_)
def run (m_ : Mode) : (List Int) × (List Int) × Int × Unit → Option ((List Int) × Int × Unit) := fun v_ => match v_ with
| (key, first, n, ()) =>
 bif ((decide (n < 0)) || (decide (n > 65536))) then
  some (([] : List Int), 13, ())
 else
  (pendulumref08_sized2.run m_ (key, first, ())).bind fun r =>
  bif !(decide (r = 0)) then
   some (([] : List Int), r, ())
  else
   (pendulumref08_words.run m_ (key, ())).bind fun r1 =>
   (pendulumref08_Stream.l1 m_ (n, ([] : List Int), r1, first, ())).bind fun (n1, out, ()) =>
   bif cutB 0 n1 (out.length : Int) then
   some ((cut out 0 n1), 0, ()) else none
def c (m_ : Mode) : Callee := ⟨56, [.one .str, .one .str, .one (.int .i64)], .tup [.sh (.one .str), .sh (.one (.int .i64))], run m_⟩
theorem k (m_ : Mode) : KR P (O m_) inl [g1 m_] (c m_) := by
  intro v_; kernel_rfl
theorem ok (m_ : Mode) : (c m_).OK P := KR.ok (fun S0 w0 => (Ok m_)) (by kernel_rfl) (by rfl) (fun S0 w0 cs0 => ac (s1 m_ S0 w0 cs0) (an)) (k m_)
end pendulumref08_Stream

/-! ### pendulum/pendulumref09.Xor -/
namespace pendulumref09_Xor
def inl : FuncId → Bool := fun f => [].any (Nat.beq f)
def O (m_ : Mode) : Ora := (oras [])
theorem Ok (m_ : Mode) {S0 w0} : OraOK P S0 w0 (O m_) := (oras_ok (an))
def p0 : Path := [.r, .r, .l, .r, .l, .l]
def e0 : Spec := ⟨[⟨57, [.c p0, .p p0, .b 0, .c [.r, .r, .r]], [(0, .s), (1, .s), (5, .own 0 (.int .u8)), (6, .w)], none, [], false⟩], [(0, .c [.row (.int .u8)])], 1⟩
def x0 : List Spec := [⟨[⟨57, [.c [.r, .r, .r]], [(5, .own 0 (.int .u8))], none, [], false⟩], [(0, .c [.row (.int .u8)])], 1⟩]
abbrev A0 : Type := LI × LI × Int × LI × Unit
abbrev B0 : Type := (LI × Unit)
def b0 (m_ : Mode) (self : A0 → Option B0) : A0 → Option B0 := fun v_ => match v_ with
| (a, b, i, m, ()) =>
 bif smallI (a.length : Int) then
 bif decide (i < (a.length : Int)) then
  bif inB i (a.length : Int) then
  bif inB i (b.length : Int) then
  bif inB i (m.length : Int) then
  self (a, b, (IntKind.i64.wrap (i + 1)), (m.set i.toNat (ixor .u8 (rd 0 a i) (rd 0 b i))), ()) else none else none else none
 else
  some (m, ()) else none
theorem k0 (m_ : Mode) : KS P (O m_) inl e0 x0 [] (b0 m_) := by
  intro self v_; kernel_rfl
def l0 (m_ : Mode) : A0 → Option B0 := loop m_ (b0 m_)
theorem q0 (v) : l0 .lim v = b0 .lim (l0 .lim) v := KS.q (k0 .lim) v
def g0 (m_ : Mode) : Seg := ⟨e0, x0, l0 m_⟩
theorem s0 (m_ : Mode) (S0 w0 cs0) : SegGood P S0 w0 cs0 57 (g0 m_) := seg_ok m_ (Ok m_) (an) (by rfl) (by rfl) (k0 m_)
def run (m_ : Mode) : (List Int) × (List Int) × Unit → Option (List Int) := fun v_ => match v_ with
| (a, b, ()) =>
 bif smallI (a.length : Int) then
 bif (((decide (0 ≤ (a.length : Int))) && (decide ((a.length : Int) ≤ (a.length : Int)))) && (Nat.blt ((a.length : Int).toNat) 70368744177664)) then
 (pendulumref09_Xor.l0 m_ (a, b, 0, (List.replicate ((a.length : Int).toNat) 0), ())).bind fun (m, ()) =>
 some m else none else none
def c (m_ : Mode) : Callee := ⟨57, [.one .str, .one .str], .one (.sh (.one .str)), run m_⟩
theorem k (m_ : Mode) : KR P (O m_) inl [g0 m_] (c m_) := by
  intro v_; kernel_rfl
theorem ok (m_ : Mode) : (c m_).OK P := KR.ok (fun S0 w0 => (Ok m_)) (by kernel_rfl) (by rfl) (fun S0 w0 cs0 => ac (s0 m_ S0 w0 cs0) (an)) (k m_)
end pendulumref09_Xor

/-! ### pendulum/pendulumref10.streamed -/
namespace pendulumref10_streamed
def inl : FuncId → Bool := fun f => [].any (Nat.beq f)
def O (m_ : Mode) : Ora := (oras [pendulumref08_Stream.c m_, pendulumref09_Xor.c m_])
theorem Ok (m_ : Mode) {S0 w0} : OraOK P S0 w0 (O m_) := (oras_ok (ac (pendulumref08_Stream.ok m_) (ac (pendulumref09_Xor.ok m_) (an))))
def run (m_ : Mode) : (List Int) × (List Int) × (List Int) × Unit → Option (List Int) := fun v_ => match v_ with
| (key, v, s, ()) =>
 bif inB 8 (v.length : Int) then
 bif inB 8 (v.length : Int) then
 bif inB 12 ((v.set 8 (iand .u8 (rd 0 v 8) 127)).length : Int) then
 bif inB 12 ((v.set 8 (iand .u8 (rd 0 v 8) 127)).length : Int) then
 bif smallI (s.length : Int) then
 (pendulumref08_Stream.run m_ (key, ((v.set 8 (iand .u8 (rd 0 v 8) 127)).set 12 (iand .u8 (rd 0 (v.set 8 (iand .u8 (rd 0 v 8) 127)) 12) 127)), (s.length : Int), ())).bind fun (r, r1, ()) =>
 (pendulumref09_Xor.run m_ (s, r, ())).bind fun r2 =>
 some r2 else none else none else none else none else none
def c (m_ : Mode) : Callee := ⟨53, [.one .str, .one .str, .one .str], .one (.sh (.one .str)), run m_⟩
theorem k (m_ : Mode) : KR P (O m_) inl [] (c m_) := by
  intro v_; kernel_rfl
theorem ok (m_ : Mode) : (c m_).OK P := KR.ok (fun S0 w0 => (Ok m_)) (by kernel_rfl) (by rfl) (fun S0 w0 cs0 => an) (k m_)
end pendulumref10_streamed

/-! ### pendulum/pendulumref10.sized -/
namespace pendulumref10_sized
def inl : FuncId → Bool := fun f => [].any (Nat.beq f)
def O (m_ : Mode) : Ora := (oras [])
theorem Ok (m_ : Mode) {S0 w0} : OraOK P S0 w0 (O m_) := (oras_ok (an))
def run (m_ : Mode) : (List Int) × Unit → Option (Bool) := fun v_ => match v_ with
| (key, ()) =>
 bif smallI (key.length : Int) then
 bif ((!(!(decide ((key.length : Int) = 16)))) || (smallI (key.length : Int))) then
 some ((decide ((key.length : Int) = 16)) || (decide ((key.length : Int) = 32))) else none else none
def c (m_ : Mode) : Callee := ⟨62, [.one .str], .one (.sh (.one .bool)), run m_⟩
theorem k (m_ : Mode) : KR P (O m_) inl [] (c m_) := by
  intro v_; kernel_rfl
theorem ok (m_ : Mode) : (c m_).OK P := KR.ok (fun S0 w0 => (Ok m_)) (by kernel_rfl) (by rfl) (fun S0 w0 cs0 => an) (k m_)
end pendulumref10_sized

/-! ### pendulum/pendulumref10.zeros -/
namespace pendulumref10_zeros
def inl : FuncId → Bool := fun f => [].any (Nat.beq f)
def O (m_ : Mode) : Ora := (oras [])
theorem Ok (m_ : Mode) {S0 w0} : OraOK P S0 w0 (O m_) := (oras_ok (an))
def run (m_ : Mode) : Int × Unit → Option (List Int) := fun v_ => match v_ with
| (n, ()) =>
 bif (((decide (0 ≤ n)) && (decide (n ≤ n))) && (Nat.blt n.toNat 70368744177664)) then
 some (List.replicate n.toNat 0) else none
def c (m_ : Mode) : Callee := ⟨64, [.one (.int .i64)], .one (.sh (.one .str)), run m_⟩
theorem k (m_ : Mode) : KR P (O m_) inl [] (c m_) := by
  intro v_; kernel_rfl
theorem ok (m_ : Mode) : (c m_).OK P := KR.ok (fun S0 w0 => (Ok m_)) (by kernel_rfl) (by rfl) (fun S0 w0 cs0 => an) (k m_)
end pendulumref10_zeros

/-! ### pendulum/pendulumref08.Encrypt -/
namespace pendulumref08_Encrypt
def inl : FuncId → Bool := fun f => [].any (Nat.beq f)
def O (m_ : Mode) : Ora := (oras [pendulumref08_sized2.c m_, pendulumref08_words.c m_, pendulumref08_encrypt.c m_])
theorem Ok (m_ : Mode) {S0 w0} : OraOK P S0 w0 (O m_) := (oras_ok (ac (pendulumref08_sized2.ok m_) (ac (pendulumref08_words.ok m_) (ac (pendulumref08_encrypt.ok m_) (an)))))
def run (m_ : Mode) : (List Int) × (List Int) × Unit → Option ((List Int) × Int × Unit) := fun v_ => match v_ with
| (key, block, ()) =>
 (pendulumref08_sized2.run m_ (key, block, ())).bind fun r =>
 bif !(decide (r = 0)) then
  some (([] : List Int), r, ())
 else
  (pendulumref08_words.run m_ (key, ())).bind fun r1 =>
  (pendulumref08_encrypt.run m_ (r1, block, ())).bind fun r2 =>
  some (r2, 0, ())
def c (m_ : Mode) : Callee := ⟨73, [.one .str, .one .str], .tup [.sh (.one .str), .sh (.one (.int .i64))], run m_⟩
theorem k (m_ : Mode) : KR P (O m_) inl [] (c m_) := by
  intro v_; kernel_rfl
theorem ok (m_ : Mode) : (c m_).OK P := KR.ok (fun S0 w0 => (Ok m_)) (by kernel_rfl) (by rfl) (fun S0 w0 cs0 => an) (k m_)
end pendulumref08_Encrypt

/-! ### pendulum/pendulumref10.twice -/
namespace pendulumref10_twice
def inl : FuncId → Bool := fun f => [].any (Nat.beq f)
def O (m_ : Mode) : Ora := (oras [])
theorem Ok (m_ : Mode) {S0 w0} : OraOK P S0 w0 (O m_) := (oras_ok (an))
def p0 : Path := [.r, .r, .l, .r, .l, .l]
def e0 : Spec := ⟨[⟨65, [.c p0, .p p0, .b 0, .c [.r, .r, .r]], [(0, .s), (3, .own 0 (.int .u8)), (4, .w)], none, [], false⟩], [(0, .c [.row (.int .u8)])], 1⟩
def x0 : List Spec := [⟨[⟨65, [.c [.r, .r, .r]], [(0, .s), (3, .own 0 (.int .u8))], none, [], false⟩], [(0, .c [.row (.int .u8)])], 1⟩]
abbrev A0 : Type := LI × Int × LI × Unit
abbrev B0 : Type := (LI × LI × Unit)
def b0 (m_ : Mode) (self : A0 → Option B0) : A0 → Option B0 := fun v_ => match v_ with
| (b, i, m, ()) =>
 bif decide (i < 16) then
  bif inB i (b.length : Int) then
  bif inB i (m.length : Int) then
  bif decide (i < 15) then
   bif inB i ((m.set i.toNat (ishl .u8 (rd 0 b i) 1)).length : Int) then
   bif inB (IntKind.i64.wrap (i + 1)) (b.length : Int) then
   bif inB i ((m.set i.toNat (ishl .u8 (rd 0 b i) 1)).length : Int) then
   self (b, (IntKind.i64.wrap (i + 1)), ((m.set i.toNat (ishl .u8 (rd 0 b i) 1)).set i.toNat (ior .u8 (rd 0 (m.set i.toNat (ishl .u8 (rd 0 b i) 1)) i) (ishr .u8 (rd 0 b (IntKind.i64.wrap (i + 1))) 7))), ()) else none else none else none
  else
   self (b, (IntKind.i64.wrap (i + 1)), (m.set i.toNat (ishl .u8 (rd 0 b i) 1)), ()) else none else none
 else
  some (b, m, ())
theorem k0 (m_ : Mode) : KS P (O m_) inl e0 x0 [] (b0 m_) := by
  intro self v_; kernel_rfl
def l0 (m_ : Mode) : A0 → Option B0 := loop m_ (b0 m_)
theorem q0 (v) : l0 .lim v = b0 .lim (l0 .lim) v := KS.q (k0 .lim) v
def g0 (m_ : Mode) : Seg := ⟨e0, x0, l0 m_⟩
theorem s0 (m_ : Mode) (S0 w0 cs0) : SegGood P S0 w0 cs0 65 (g0 m_) := seg_ok m_ (Ok m_) (an) (by rfl) (by rfl) (k0 m_)
def run (m_ : Mode) : (List Int) × Unit → Option (List Int) := fun v_ => match v_ with
| (b, ()) =>
 bif Nat.blt 16 70368744177664 then
 (pendulumref10_twice.l0 m_ (b, 0, (List.replicate 16 0), ())).bind fun (b1, m, ()) =>
 bif inB 0 (b1.length : Int) then
 bif decide ((rd 0 b1 0) ≥ 128) then
  bif inB 15 (m.length : Int) then
  bif inB 15 (m.length : Int) then
  some (m.set 15 (ixor .u8 (rd 0 m 15) 135)) else none else none
 else
  some m else none else none
def c (m_ : Mode) : Callee := ⟨65, [.one .str], .one (.sh (.one .str)), run m_⟩
theorem k (m_ : Mode) : KR P (O m_) inl [g0 m_] (c m_) := by
  intro v_; kernel_rfl
theorem ok (m_ : Mode) : (c m_).OK P := KR.ok (fun S0 w0 => (Ok m_)) (by kernel_rfl) (by rfl) (fun S0 w0 cs0 => ac (s0 m_ S0 w0 cs0) (an)) (k m_)
end pendulumref10_twice

/-! ### pendulum/pendulumref10.whole -/
namespace pendulumref10_whole
def inl : FuncId → Bool := fun f => [].any (Nat.beq f)
def O (m_ : Mode) : Ora := (oras [pendulumref10_zeros.c m_])
theorem Ok (m_ : Mode) {S0 w0} : OraOK P S0 w0 (O m_) := (oras_ok (ac (pendulumref10_zeros.ok m_) (an)))
def run (m_ : Mode) : (List Int) × Unit → Option (List Int) := fun v_ => match v_ with
| (s, ()) =>
 bif decide (s.length + ([128] : List Int).length ≤ maxStr) then
 (pendulumref10_zeros.run m_ (16, ())).bind fun r =>
 bif decide ((s ++ ([128] : List Int)).length + r.length ≤ maxStr) then
 bif cutB 0 16 (((s ++ ([128] : List Int)) ++ r).length : Int) then
 some (cut ((s ++ ([128] : List Int)) ++ r) 0 16) else none else none else none
def c (m_ : Mode) : Callee := ⟨66, [.one .str], .one (.sh (.one .str)), run m_⟩
theorem k (m_ : Mode) : KR P (O m_) inl [] (c m_) := by
  intro v_; kernel_rfl
theorem ok (m_ : Mode) : (c m_).OK P := KR.ok (fun S0 w0 => (Ok m_)) (by kernel_rfl) (by rfl) (fun S0 w0 cs0 => an) (k m_)
end pendulumref10_whole

/-! ### pendulum/pendulumref10.cmac -/
namespace pendulumref10_cmac
def inl : FuncId → Bool := fun f => [].any (Nat.beq f)
def O (m_ : Mode) : Ora := (oras [pendulumref09_Xor.c m_, pendulumref10_zeros.c m_, pendulumref10_twice.c m_, pendulumref10_whole.c m_, pendulumref08_Encrypt.c m_])
theorem Ok (m_ : Mode) {S0 w0} : OraOK P S0 w0 (O m_) := (oras_ok (ac (pendulumref09_Xor.ok m_) (ac (pendulumref10_zeros.ok m_) (ac (pendulumref10_twice.ok m_) (ac (pendulumref10_whole.ok m_) (ac (pendulumref08_Encrypt.ok m_) (an)))))))
def p0 : Path := [.r, .r, .r, .r, .l, .l, .l]
def e0 : Spec := ⟨[⟨63, [.c p0, .p p0, .b 0, .c [.r, .r, .r, .r, .r]], [(0, .s), (1, .s), (7, .s), (8, .s)], none, [], false⟩], [], 0⟩
def x0 : List Spec := [⟨[⟨63, [.c [.r, .r, .r, .r, .r]], [(0, .s), (1, .s), (7, .s), (8, .s)], none, [], false⟩], [], 0⟩]
abbrev A0 : Type := LI × LI × LI × LI × Unit
abbrev B0 : Type := (LI × LI × LI × LI × Unit)
def b0 (m_ : Mode) (self : A0 → Option B0) : A0 → Option B0 := fun v_ => match v_ with
| (key, s, k, x, ()) =>
 bif smallI (s.length : Int) then
 bif decide ((s.length : Int) > 16) then
  bif cutB 0 16 (s.length : Int) then
  (pendulumref09_Xor.run m_ (x, (cut s 0 16), ())).bind fun r =>
  (pendulumref08_Encrypt.run m_ (key, r, ())).bind fun (r1, r2, ()) =>
  bif cutB 16 (s.length : Int) (s.length : Int) then
  self (key, (cut s 16 (s.length : Int)), k, r1, ()) else none else none
 else
  some (key, s, k, x, ()) else none
theorem k0 (m_ : Mode) : KS P (O m_) inl e0 x0 [] (b0 m_) := by
  intro self v_; kernel_rfl
def l0 (m_ : Mode) : A0 → Option B0 := loop m_ (b0 m_)
theorem q0 (v) : l0 .lim v = b0 .lim (l0 .lim) v := KS.q (k0 .lim) v
def g0 (m_ : Mode) : Seg := ⟨e0, x0, l0 m_⟩
theorem s0 (m_ : Mode) (S0 w0 cs0) : SegGood P S0 w0 cs0 63 (g0 m_) := seg_ok m_ (Ok m_) (an) (by rfl) (by rfl) (k0 m_)
def run (m_ : Mode) : (List Int) × (List Int) × Unit → Option (List Int) := fun v_ => match v_ with
| (key, s, ()) =>
 (pendulumref10_zeros.run m_ (16, ())).bind fun r =>
 (pendulumref08_Encrypt.run m_ (key, r, ())).bind fun (r1, r2, ()) =>
 (pendulumref10_twice.run m_ (r1, ())).bind fun r3 =>
 (pendulumref10_zeros.run m_ (16, ())).bind fun r4 =>
 (pendulumref10_cmac.l0 m_ (key, s, r3, r4, ())).bind fun (key1, s1, k, x, ()) =>
 bif smallI (s1.length : Int) then
 bif decide ((s1.length : Int) < 16) then
  (pendulumref10_whole.run m_ (s1, ())).bind fun r5 =>
  (pendulumref10_twice.run m_ (k, ())).bind fun r6 =>
  (pendulumref09_Xor.run m_ (x, r5, ())).bind fun r7 =>
  (pendulumref09_Xor.run m_ (r7, r6, ())).bind fun r8 =>
  (pendulumref08_Encrypt.run m_ (key1, r8, ())).bind fun (r9, r10, ()) =>
  some r9
 else
  (pendulumref09_Xor.run m_ (x, s1, ())).bind fun r11 =>
  (pendulumref09_Xor.run m_ (r11, k, ())).bind fun r12 =>
  (pendulumref08_Encrypt.run m_ (key1, r12, ())).bind fun (r13, r14, ()) =>
  some r13 else none
def c (m_ : Mode) : Callee := ⟨63, [.one .str, .one .str], .one (.sh (.one .str)), run m_⟩
theorem k (m_ : Mode) : KR P (O m_) inl [g0 m_] (c m_) := by
  intro v_; kernel_rfl
theorem ok (m_ : Mode) : (c m_).OK P := KR.ok (fun S0 w0 => (Ok m_)) (by kernel_rfl) (by rfl) (fun S0 w0 cs0 => ac (s0 m_ S0 w0 cs0) (an)) (k m_)
end pendulumref10_cmac

/-! ### pendulum/pendulumref10.S2v -/
namespace pendulumref10_S2v
def inl : FuncId → Bool := fun f => [].any (Nat.beq f)
def O (m_ : Mode) : Ora := (oras [pendulumref09_Xor.c m_, pendulumref10_sized.c m_, pendulumref10_cmac.c m_, pendulumref10_zeros.c m_, pendulumref10_twice.c m_, pendulumref10_whole.c m_])
theorem Ok (m_ : Mode) {S0 w0} : OraOK P S0 w0 (O m_) := (oras_ok (ac (pendulumref09_Xor.ok m_) (ac (pendulumref10_sized.ok m_) (ac (pendulumref10_cmac.ok m_) (ac (pendulumref10_zeros.ok m_) (ac (pendulumref10_twice.ok m_) (ac (pendulumref10_whole.ok m_) (an))))))))
def p0 : Path := [.r, .r, .r, .r, .r, .l, .r, .l, .l]
def p1 : Path := [.r, .r, .r, .r, .r, .r]
def e0 : Spec := ⟨[⟨58, [.c p0, .p p0, .b 0, .c p1], [(0, .s), (1, .t), (6, .s), (7, .w)], none, [], false⟩], [], 0⟩
def x0 : List Spec := [⟨[⟨58, [.c p1], [(0, .s), (1, .t), (6, .s)], none, [], false⟩], [], 0⟩]
abbrev A0 : Type := LI × LL × LI × Int × Unit
abbrev B0 : Type := (LI × LL × LI × Unit)
def b0 (m_ : Mode) (self : A0 → Option B0) : A0 → Option B0 := fun v_ => match v_ with
| (key, l, d, i, ()) =>
 bif smallI (l.length : Int) then
 bif decide (i < (IntKind.i64.wrap ((l.length : Int) - 1))) then
  (pendulumref10_twice.run m_ (d, ())).bind fun r =>
  bif inB i (l.length : Int) then
  (pendulumref10_cmac.run m_ (key, (rd ([] : List Int) l i), ())).bind fun r1 =>
  (pendulumref09_Xor.run m_ (r, r1, ())).bind fun r2 =>
  self (key, l, r2, (IntKind.i64.wrap (i + 1)), ()) else none
 else
  some (key, l, d, ()) else none
theorem k0 (m_ : Mode) : KS P (O m_) inl e0 x0 [] (b0 m_) := by
  intro self v_; kernel_rfl
def l0 (m_ : Mode) : A0 → Option B0 := loop m_ (b0 m_)
theorem q0 (v) : l0 .lim v = b0 .lim (l0 .lim) v := KS.q (k0 .lim) v
def g0 (m_ : Mode) : Seg := ⟨e0, x0, l0 m_⟩
theorem s0 (m_ : Mode) (S0 w0 cs0) : SegGood P S0 w0 cs0 58 (g0 m_) := seg_ok m_ (Ok m_) (an) (by rfl) (by rfl) (k0 m_)
def run (m_ : Mode) : (List Int) × (List (List Int)) × Unit → Option ((List Int) × Int × Unit) := fun v_ => match v_ with
| (key, l, ()) =>
 (pendulumref10_sized.run m_ (key, ())).bind fun r =>
 bif !r then
  some (([] : List Int), 13, ())
 else
  bif smallI (l.length : Int) then
  bif decide ((l.length : Int) > 127) then
   some (([] : List Int), 18, ())
  else
   bif smallI (l.length : Int) then
   bif decide ((l.length : Int) = 0) then
    (pendulumref10_zeros.run m_ (15, ())).bind fun r1 =>
    bif decide (r1.length + ([1] : List Int).length ≤ maxStr) then
    (pendulumref10_cmac.run m_ (key, (r1 ++ ([1] : List Int)), ())).bind fun r2 =>
    some (r2, 0, ()) else none
   else
    (pendulumref10_zeros.run m_ (16, ())).bind fun r3 =>
    (pendulumref10_cmac.run m_ (key, r3, ())).bind fun r4 =>
    (pendulumref10_S2v.l0 m_ (key, l, r4, 0, ())).bind fun (key1, l1, d, ()) =>
    bif smallI (l1.length : Int) then
    bif inB (IntKind.i64.wrap ((l1.length : Int) - 1)) (l1.length : Int) then
    bif smallI ((rd ([] : List Int) l1 (IntKind.i64.wrap ((l1.length : Int) - 1))).length : Int) then
    bif decide (((rd ([] : List Int) l1 (IntKind.i64.wrap ((l1.length : Int) - 1))).length : Int) < 16) then
     (pendulumref10_twice.run m_ (d, ())).bind fun r5 =>
     (pendulumref10_whole.run m_ ((rd ([] : List Int) l1 (IntKind.i64.wrap ((l1.length : Int) - 1))), ())).bind fun r6 =>
     (pendulumref09_Xor.run m_ (r5, r6, ())).bind fun r7 =>
     (pendulumref10_cmac.run m_ (key1, r7, ())).bind fun r8 =>
     some (r8, 0, ())
    else
     bif smallI ((rd ([] : List Int) l1 (IntKind.i64.wrap ((l1.length : Int) - 1))).length : Int) then
     bif cutB 0 (IntKind.i64.wrap (((rd ([] : List Int) l1 (IntKind.i64.wrap ((l1.length : Int) - 1))).length : Int) - 16)) ((rd ([] : List Int) l1 (IntKind.i64.wrap ((l1.length : Int) - 1))).length : Int) then
     bif cutB (IntKind.i64.wrap (((rd ([] : List Int) l1 (IntKind.i64.wrap ((l1.length : Int) - 1))).length : Int) - 16)) ((rd ([] : List Int) l1 (IntKind.i64.wrap ((l1.length : Int) - 1))).length : Int) ((rd ([] : List Int) l1 (IntKind.i64.wrap ((l1.length : Int) - 1))).length : Int) then
     (pendulumref09_Xor.run m_ ((cut (rd ([] : List Int) l1 (IntKind.i64.wrap ((l1.length : Int) - 1))) (IntKind.i64.wrap (((rd ([] : List Int) l1 (IntKind.i64.wrap ((l1.length : Int) - 1))).length : Int) - 16)) ((rd ([] : List Int) l1 (IntKind.i64.wrap ((l1.length : Int) - 1))).length : Int)), d, ())).bind fun r9 =>
     bif decide ((cut (rd ([] : List Int) l1 (IntKind.i64.wrap ((l1.length : Int) - 1))) 0 (IntKind.i64.wrap (((rd ([] : List Int) l1 (IntKind.i64.wrap ((l1.length : Int) - 1))).length : Int) - 16))).length + r9.length ≤ maxStr) then
     (pendulumref10_cmac.run m_ (key1, ((cut (rd ([] : List Int) l1 (IntKind.i64.wrap ((l1.length : Int) - 1))) 0 (IntKind.i64.wrap (((rd ([] : List Int) l1 (IntKind.i64.wrap ((l1.length : Int) - 1))).length : Int) - 16))) ++ r9), ())).bind fun r10 =>
     some (r10, 0, ()) else none else none else none else none else none else none else none else none else none
def c (m_ : Mode) : Callee := ⟨58, [.one .str, .one (.lst .str)], .tup [.sh (.one .str), .sh (.one (.int .i64))], run m_⟩
theorem k (m_ : Mode) : KR P (O m_) inl [g0 m_] (c m_) := by
  intro v_; kernel_rfl
theorem ok (m_ : Mode) : (c m_).OK P := KR.ok (fun S0 w0 => (Ok m_)) (by kernel_rfl) (by rfl) (fun S0 w0 cs0 => ac (s0 m_ S0 w0 cs0) (an)) (k m_)
end pendulumref10_S2v

/-! ### pendulum/pendulumref10.tag -/
namespace pendulumref10_tag
def inl : FuncId → Bool := fun f => [].any (Nat.beq f)
def O (m_ : Mode) : Ora := (oras [pendulumref10_S2v.c m_])
theorem Ok (m_ : Mode) {S0 w0} : OraOK P S0 w0 (O m_) := (oras_ok (ac (pendulumref10_S2v.ok m_) (an)))
def run (m_ : Mode) : (List Int) × (List (List Int)) × (List Int) × Unit → Option (List Int) := fun v_ => match v_ with
| (key, ad, plain, ()) =>
 bif decide (ad.length < 4398046511104) then
 bif decide (ad.length + ([plain] : List (List Int)).length < 4398046511104) then
 (pendulumref10_S2v.run m_ (key, (ad ++ ([plain] : List (List Int))), ())).bind fun (r, r1, ()) =>
 some r else none else none
def c (m_ : Mode) : Callee := ⟨54, [.one .str, .one (.lst .str), .one .str], .one (.sh (.one .str)), run m_⟩
theorem k (m_ : Mode) : KR P (O m_) inl [] (c m_) := by
  intro v_; kernel_rfl
theorem ok (m_ : Mode) : (c m_).OK P := KR.ok (fun S0 w0 => (Ok m_)) (by kernel_rfl) (by rfl) (fun S0 w0 cs0 => an) (k m_)
end pendulumref10_tag

/-! ### pendulum/pendulumref22.refused -/
namespace pendulumref22_refused
def inl : FuncId → Bool := fun f => [].any (Nat.beq f)
def O (m_ : Mode) : Ora := (oras [])
theorem Ok (m_ : Mode) {S0 w0} : OraOK P S0 w0 (O m_) := (oras_ok (an))
def run (m_ : Mode) : (List Int) × (List (List Int)) × Int × Unit → Option (Int) := fun v_ => match v_ with
| (key, ad, n, ()) =>
 bif smallI (key.length : Int) then
 bif ((!(!(decide ((key.length : Int) = 32)))) || (smallI (key.length : Int))) then
 bif ((!(decide ((key.length : Int) = 32))) && (!(decide ((key.length : Int) = 64)))) then
  some 13
 else
  bif smallI (ad.length : Int) then
  bif decide ((ad.length : Int) > 126) then
   some 18
  else
   bif decide (n > 65536) then
    some 12
   else
    some 0 else none else none else none
def c (m_ : Mode) : Callee := ⟨47, [.one .str, .one (.lst .str), .one (.int .i64)], .one (.sh (.one (.int .i64))), run m_⟩
theorem k (m_ : Mode) : KR P (O m_) inl [] (c m_) := by
  intro v_; kernel_rfl
theorem ok (m_ : Mode) : (c m_).OK P := KR.ok (fun S0 w0 => (Ok m_)) (by kernel_rfl) (by rfl) (fun S0 w0 cs0 => an) (k m_)
end pendulumref22_refused

/-! ### pendulum/pendulumref19.KeySize -/
namespace pendulumref19_KeySize
def inl : FuncId → Bool := fun f => [].any (Nat.beq f)
def O (m_ : Mode) : Ora := (oras [])
theorem Ok (m_ : Mode) {S0 w0} : OraOK P S0 w0 (O m_) := (oras_ok (an))
def run (m_ : Mode) : Int × Unit → Option (Int) := fun v_ => match v_ with
| (aead, ()) =>
 bif decide (aead = 15) then
  some 32
 else
  bif decide (aead = 17) then
   some 64
  else
   some 0
def c (m_ : Mode) : Callee := ⟨35, [.one (.int .i64)], .one (.sh (.one (.int .i64))), run m_⟩
theorem k (m_ : Mode) : KR P (O m_) inl [] (c m_) := by
  intro v_; kernel_rfl
theorem ok (m_ : Mode) : (c m_).OK P := KR.ok (fun S0 w0 => (Ok m_)) (by kernel_rfl) (by rfl) (fun S0 w0 cs0 => an) (k m_)
end pendulumref19_KeySize

/-! ### pendulum/pendulumref25.Fit -/
namespace pendulumref25_Fit
def inl : FuncId → Bool := fun f => [].any (Nat.beq f)
def O (m_ : Mode) : Ora := (oras [pendulumref19_KeySize.c m_])
theorem Ok (m_ : Mode) {S0 w0} : OraOK P S0 w0 (O m_) := (oras_ok (ac (pendulumref19_KeySize.ok m_) (an)))
def run (m_ : Mode) : (Int × (List Int × List Int)) × Unit → Option (Bool) := fun v_ => match v_ with
| (k, ()) =>
 (pendulumref19_KeySize.run m_ (k.1, ())).bind fun r =>
 bif ((!(decide (r > 0))) || (smallI (k.2.1.length : Int))) then
 bif ((!((decide (r > 0)) && (decide ((k.2.1.length : Int) = r)))) || (smallI (k.2.2.length : Int))) then
 some (((decide (r > 0)) && (decide ((k.2.1.length : Int) = r))) && (decide ((k.2.2.length : Int) = r))) else none else none
def c (m_ : Mode) : Callee := ⟨12, [.ag (.pair (.int .i64) (.pair .str .str))], .one (.sh (.one .bool)), run m_⟩
theorem k (m_ : Mode) : KR P (O m_) inl [] (c m_) := by
  intro v_; kernel_rfl
theorem ok (m_ : Mode) : (c m_).OK P := KR.ok (fun S0 w0 => (Ok m_)) (by kernel_rfl) (by rfl) (fun S0 w0 cs0 => an) (k m_)
end pendulumref25_Fit

/-! ### pendulum/pendulumref25.plain -/
namespace pendulumref25_plain
def inl : FuncId → Bool := fun f => [].any (Nat.beq f)
def O (m_ : Mode) : Ora := (oras [])
theorem Ok (m_ : Mode) {S0 w0} : OraOK P S0 w0 (O m_) := (oras_ok (an))
def run (m_ : Mode) : (Int × (List Int × List Int)) × Unit → Option (List Int) := fun v_ => match v_ with
| (k, ()) =>
 bif decide (([(IntKind.u8.wrap (IntKind.i64.wrap (k.1.tdiv 256))), (IntKind.u8.wrap (k.1.tmod 256)), 0, 0] : List Int).length + k.2.1.length ≤ maxStr) then
 bif decide ((([(IntKind.u8.wrap (IntKind.i64.wrap (k.1.tdiv 256))), (IntKind.u8.wrap (k.1.tmod 256)), 0, 0] : List Int) ++ k.2.1).length + k.2.2.length ≤ maxStr) then
 some ((([(IntKind.u8.wrap (IntKind.i64.wrap (k.1.tdiv 256))), (IntKind.u8.wrap (k.1.tmod 256)), 0, 0] : List Int) ++ k.2.1) ++ k.2.2) else none else none
def c (m_ : Mode) : Callee := ⟨32, [.ag (.pair (.int .i64) (.pair .str .str))], .one (.sh (.one .str)), run m_⟩
theorem k (m_ : Mode) : KR P (O m_) inl [] (c m_) := by
  intro v_; kernel_rfl
theorem ok (m_ : Mode) : (c m_).OK P := KR.ok (fun S0 w0 => (Ok m_)) (by kernel_rfl) (by rfl) (fun S0 w0 cs0 => an) (k m_)
end pendulumref25_plain

/-! ### pendulum/pendulumref22.Same -/
namespace pendulumref22_Same
def inl : FuncId → Bool := fun f => [].any (Nat.beq f)
def O (m_ : Mode) : Ora := (oras [pendulumref22_alike.c m_])
theorem Ok (m_ : Mode) {S0 w0} : OraOK P S0 w0 (O m_) := (oras_ok (ac (pendulumref22_alike.ok m_) (an)))
def p0 : Path := [.r, .r, .l, .r, .l, .l]
def o1 : OSpec := .c [.b, .dat (.lst (.pair .str (.pair (.lst .str) (.pair .str .str))))]
def e0 : Spec := ⟨[⟨13, [.c p0, .p p0, .b 0, .c [.r, .r, .r]], [(2, .ptr 0 0), (3, .ptr 1 0), (5, .w)], none, [], false⟩], [(0, o1), (1, o1)], 2⟩
def x0 : List Spec := [⟨[⟨13, [.c [.r, .r, .l, .r, .l, .l, .r, .l, .l, .r, .l, .r], .b 1, .c [.r, .r, .l, .r, .l, .l, .r, .r], .p p0, .b 0, .c [.r, .r, .r]], [(4, .b)], none, [], false⟩], [], 0⟩, ⟨[⟨13, [.c [.r, .r, .r]], [], none, [], false⟩], [], 0⟩]
abbrev A0 : Type := Int × Bool × (List (List Int × (List LI × (List Int × List Int)))) × Bool × (List (List Int × (List LI × (List Int × List Int)))) × Unit
abbrev B0 : Type := (Bool × Unit) ⊕ (Unit)
def b0 (m_ : Mode) (self : A0 → Option B0) : A0 → Option B0 := fun v_ => match v_ with
| (i, m, m1, m2, m3, ()) =>
 bif smallI (m1.length : Int) then
 bif decide (i < (m1.length : Int)) then
  bif inB i (m1.length : Int) then
  bif inB i (m3.length : Int) then
  (pendulumref22_alike.run m_ ((rd dz1 m1 i), (rd dz1 m3 i), ())).bind fun r =>
  bif (!!!r || (inB i (m1.length : Int))) then
  bif (!!!r || (inB i (m3.length : Int))) then
  bif (!r || (!(decide (((((rd dz1 m1 i).2).2).2) = ((((rd dz1 m3 i).2).2).2))))) then
   some (.inl (false, ()))
  else
   self ((IntKind.i64.wrap (i + 1)), m, m1, m2, m3, ()) else none else none else none else none
 else
  some (.inr (())) else none
theorem k0 (m_ : Mode) : KS P (O m_) inl e0 x0 [] (b0 m_) := by
  intro self v_; kernel_rfl
def l0 (m_ : Mode) : A0 → Option B0 := loop m_ (b0 m_)
theorem q0 (v) : l0 .lim v = b0 .lim (l0 .lim) v := KS.q (k0 .lim) v
def g0 (m_ : Mode) : Seg := ⟨e0, x0, l0 m_⟩
theorem s0 (m_ : Mode) (S0 w0 cs0) : SegGood P S0 w0 cs0 13 (g0 m_) := seg_ok m_ (Ok m_) (an) (by rfl) (by rfl) (k0 m_)
def run (m_ : Mode) : DT0 × DT0 × Unit → Option (Bool) := fun v_ => match v_ with
| (a, b, ()) =>
 bif ((!(!(!(a.1 == b.1)))) || (smallI (a.2.length : Int))) then
 bif ((!(!(!(a.1 == b.1)))) || (smallI (b.2.length : Int))) then
 bif ((!(a.1 == b.1)) || (!(decide ((a.2.length : Int) = (b.2.length : Int))))) then
  some false
 else
  (pendulumref22_Same.l0 m_ (0, a.1, a.2, b.1, b.2, ())).bind fun g_ => match g_ with
  | .inl (t, ()) =>
   some t
  | .inr (()) =>
   some true else none else none
def c (m_ : Mode) : Callee := ⟨13, [.ag (.pair .bool (.lst (.pair .str (.pair (.lst .str) (.pair .str .str))))), .ag (.pair .bool (.lst (.pair .str (.pair (.lst .str) (.pair .str .str)))))], .one (.sh (.one .bool)), run m_⟩
theorem k (m_ : Mode) : KR P (O m_) inl [g0 m_] (c m_) := by
  intro v_; kernel_rfl
theorem ok (m_ : Mode) : (c m_).OK P := KR.ok (fun S0 w0 => (Ok m_)) (by kernel_rfl) (by rfl) (fun S0 w0 cs0 => ac (s0 m_ S0 w0 cs0) (an)) (k m_)
end pendulumref22_Same

/-! ### pendulum/cook.Size -/
namespace cook_Size
def inl : FuncId → Bool := fun f => [].any (Nat.beq f)
def O (m_ : Mode) : Ora := (oras [nego_KeySize.c m_])
theorem Ok (m_ : Mode) {S0 w0} : OraOK P S0 w0 (O m_) := (oras_ok (ac (nego_KeySize.ok m_) (an)))
def run (m_ : Mode) : Int × Unit → Option (Int) := fun v_ => match v_ with
| (aead, ()) =>
 (nego_KeySize.run m_ (aead, ())).bind fun r =>
 bif decide (r > 0) then
  some (IntKind.i64.wrap (40 + (IntKind.i64.wrap (2 * r))))
 else
  some 0
def c (m_ : Mode) : Callee := ⟨16, [.one (.int .i64)], .one (.sh (.one (.int .i64))), run m_⟩
theorem k (m_ : Mode) : KR P (O m_) inl [] (c m_) := by
  intro v_; kernel_rfl
theorem ok (m_ : Mode) : (c m_).OK P := KR.ok (fun S0 w0 => (Ok m_)) (by kernel_rfl) (by rfl) (fun S0 w0 cs0 => an) (k m_)
end cook_Size

/-! ### pendulum/pendulumref25.number -/
namespace pendulumref25_number
def inl : FuncId → Bool := fun f => [].any (Nat.beq f)
def O (m_ : Mode) : Ora := (oras [])
theorem Ok (m_ : Mode) {S0 w0} : OraOK P S0 w0 (O m_) := (oras_ok (an))
def run (m_ : Mode) : Int × Unit → Option (List Int) := fun v_ => match v_ with
| (id, ()) =>
 some ([(IntKind.u8.wrap (ishr .u32 id 24)), (IntKind.u8.wrap (ishr .u32 id 16)), (IntKind.u8.wrap (ishr .u32 id 8)), (IntKind.u8.wrap id)] : List Int)
def c (m_ : Mode) : Callee := ⟨39, [.one (.int .u32)], .one (.sh (.one .str)), run m_⟩
theorem k (m_ : Mode) : KR P (O m_) inl [] (c m_) := by
  intro v_; kernel_rfl
theorem ok (m_ : Mode) : (c m_).OK P := KR.ok (fun S0 w0 => (Ok m_)) (by kernel_rfl) (by rfl) (fun S0 w0 cs0 => an) (k m_)
end pendulumref25_number

end
end Go.AM
end
