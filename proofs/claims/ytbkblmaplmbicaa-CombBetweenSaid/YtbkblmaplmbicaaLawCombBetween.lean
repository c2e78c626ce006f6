import Derived.Test.YtbkblmaplmbicaaAm3
import Derived.Test.YtbkblmaplmbicaaProg
import Derived.Test.YtbkblmaplmbicaaRows
import Derived.WalkKit
import Derived.ProofKit
import Derived.OpenShut
import Derived.ShutString
import Derived.ChangeOld
import Derived.Below
import Derived.SizedLaws

/-! The law CombBetween holds for every input: the code is walked by a sound abstract machine, and what it computes is plain arithmetic. -/
set_option linter.unusedSimpArgs false
set_option linter.unusedVariables false

section
namespace Go.AM
open Go.Proofs
noncomputable abbrev P := Try.prog
universe u
theorem all_nil {α : Type u} {p : α → Prop} : ∀ k ∈ ([] : List α), p k := fun k h => nomatch h
theorem all_cons {α : Type u} {p : α → Prop} {a : α} {l : List α} (h : p a) (k : ∀ x ∈ l, p x) : ∀ x ∈ a :: l, p x := fun x hx => by
  rcases List.mem_cons.1 hx with rfl | hx
  · exact h
  · exact k x hx
set_option maxRecDepth 100000
set_option linter.unusedVariables false
/-! ### pendulum/pendulumref29.within -/
noncomputable def pendulumref29_within.cs (m_ : Mode) : List Callee := []
theorem pendulumref29_within.csok (m_ : Mode) : ∀ k ∈ pendulumref29_within.cs m_, k.OK P := all_nil
def pendulumref29_within.inl : FuncId → Bool := fun f => [].any (Nat.beq f)
noncomputable def pendulumref29_within.run (m_ : Mode) : Int × Int × Int × Unit → Option (Bool) := fun v_ => match v_ with
| (n, low, high, ()) =>
  some ((decide (n ≥ low)) && (decide (n ≤ high)))
noncomputable def pendulumref29_within.c (m_ : Mode) : Callee := ⟨18, [.one (.int .i64), .one (.int .i64), .one (.int .i64)], .one (.sh (.one .bool)), pendulumref29_within.run m_⟩
theorem pendulumref29_within.k (m_ : Mode) : ∀ v : Shs (pendulumref29_within.c m_).args, runS P (oras (pendulumref29_within.cs m_)) pendulumref29_within.inl [] [] (pendulumref29_within.c m_).res.fin 20000 false (start 18 (encs (pendulumref29_within.c m_).args v)) = pendulumref29_within.run m_ v := by
  intro v_; exact (match v_ with | (n, low, high, ()) => by kernel_rfl)
theorem pendulumref29_within.ok (m_ : Mode) : (pendulumref29_within.c m_).OK P := Callee.of_run (fun S0 w0 => oras_ok (pendulumref29_within.csok m_)) (by kernel_rfl) (by rfl) (fun S0 w0 cs0 => all_nil) (fun x r h => (pendulumref29_within.k m_ x).trans h)

/-! ### pendulum/pendulumref29.Fit -/
noncomputable def pendulumref29_Fit.cs (m_ : Mode) : List Callee := [pendulumref29_within.c m_]
theorem pendulumref29_Fit.csok (m_ : Mode) : ∀ k ∈ pendulumref29_Fit.cs m_, k.OK P := all_cons (pendulumref29_within.ok m_) (all_nil)
def pendulumref29_Fit.inl : FuncId → Bool := fun f => [].any (Nat.beq f)
def pendulumref29_Fit.e0 : Spec := ⟨[{ fn := 7, items := [.code [.r, .r, .l, .r, .l, .l], .inLoop [.r, .r, .l, .r, .l, .l], .inBlock 0, .code [.r, .r, .r]], slots := [(0, .dat (.lst (.pair (.int .i64) (.pair (.int .i64) (.int .i64))))), (3, .dat (.int .i64))] }], [], 0⟩
def pendulumref29_Fit.x0 : List Spec := [⟨[{ fn := 7, items := [.code [.r, .r, .l, .r, .l, .l, .r, .l, .l, .r, .l, .r], .inBlock 1, .code [.r, .r, .l, .r, .l, .l, .r, .r], .inLoop [.r, .r, .l, .r, .l, .l], .inBlock 0, .code [.r, .r, .r]], slots := [(2, .dat .bool)] }], [], 0⟩, ⟨[{ fn := 7, items := [.code [.r, .r, .r]], slots := [] }], [], 0⟩]
noncomputable def pendulumref29_Fit.b0 (m_ : Mode) (self : (List (Int × (Int × Int))) × Int × Unit → Option ((Bool × Unit) ⊕ (Unit))) : (List (Int × (Int × Int))) × Int × Unit → Option ((Bool × Unit) ⊕ (Unit)) := fun v_ => match v_ with
| (l, i, ()) =>
  bif smallI (l.length : Int) then
  bif decide (i < (l.length : Int)) then
    bif inB i (l.length : Int) then
    (pendulumref29_within.run m_ ((rd ((0 : Int), ((0 : Int), (0 : Int))) l i).1, (-140737488355328 : Int), (140737488355328 : Int), ())).bind fun r =>
    bif (!!!r || (inB i (l.length : Int))) then
    ((bif !!r then pendulumref29_within.run m_ (((rd ((0 : Int), ((0 : Int), (0 : Int))) l i).2).1, (0 : Int), (140737488355328 : Int), ()) else some false)).bind fun r1 =>
    bif ((!(!(!r || !r1))) || (inB i (l.length : Int))) then
    ((bif !(!r || !r1) then pendulumref29_within.run m_ (((rd ((0 : Int), ((0 : Int), (0 : Int))) l i).2).2, (0 : Int), (140737488355328 : Int), ()) else some false)).bind fun r2 =>
    bif ((!r || !r1) || !r2) then
      some (.inl (false, ()))
    else
      self (l, (IntKind.i64.wrap (i + (1 : Int))), ())
    else none
    else none
    else none
  else
    some (.inr (()))
  else none
theorem pendulumref29_Fit.k0 (m_ : Mode) : ∀ (self : Known pendulumref29_Fit.e0.sls → Option (Exits pendulumref29_Fit.x0)) (v : Known pendulumref29_Fit.e0.sls), runS P (oras (pendulumref29_Fit.cs m_)) pendulumref29_Fit.inl (⟨pendulumref29_Fit.e0, self⟩ :: exitCuts pendulumref29_Fit.x0 id) [] (fun _ _ => none) 20000 false (pendulumref29_Fit.e0.mk' v) = pendulumref29_Fit.b0 m_ self v := by
  intro self v_; exact (match v_ with | (l, i, ()) => by kernel_rfl)
noncomputable def pendulumref29_Fit.l0 (m_ : Mode) : (List (Int × (Int × Int))) × Int × Unit → Option ((Bool × Unit) ⊕ (Unit)) := loop m_ (pendulumref29_Fit.b0 m_)
theorem pendulumref29_Fit.q0 (v) : pendulumref29_Fit.l0 .lim v = pendulumref29_Fit.b0 .lim (pendulumref29_Fit.l0 .lim) v := lfp_eq (cont_of_run (pendulumref29_Fit.k0 .lim)) v
noncomputable def pendulumref29_Fit.g0 (m_ : Mode) : Seg := ⟨pendulumref29_Fit.e0, pendulumref29_Fit.x0, pendulumref29_Fit.l0 m_⟩
theorem pendulumref29_Fit.s0 (m_ : Mode) (S0 w0 cs0) : SegGood P S0 w0 cs0 7 (pendulumref29_Fit.g0 m_) := seg_loop m_ (oras_ok (pendulumref29_Fit.csok m_)) (all_nil) (by rfl) (fun e he => List.all_eq_true.1 (show pendulumref29_Fit.x0.all Spec.ok = true by rfl) e he) (pendulumref29_Fit.k0 m_)
noncomputable def pendulumref29_Fit.run (m_ : Mode) : (List (Int × (Int × Int))) × Unit → Option (Bool) := fun v_ => match v_ with
| (l, ()) =>
  bif smallI (l.length : Int) then
  bif decide ((l.length : Int) > (10 : Int)) then
    some false
  else
    (pendulumref29_Fit.l0 m_ (l, (0 : Int), ())).bind fun g_ => match g_ with
    | .inl (t, ()) =>
      some t
    | .inr (()) =>
      some true
  else none
noncomputable def pendulumref29_Fit.c (m_ : Mode) : Callee := ⟨7, [.one (.lst (.pair (.int .i64) (.pair (.int .i64) (.int .i64))))], .one (.sh (.one .bool)), pendulumref29_Fit.run m_⟩
theorem pendulumref29_Fit.k (m_ : Mode) : ∀ v : Shs (pendulumref29_Fit.c m_).args, runS P (oras (pendulumref29_Fit.cs m_)) pendulumref29_Fit.inl [] [pendulumref29_Fit.g0 m_] (pendulumref29_Fit.c m_).res.fin 20000 false (start 7 (encs (pendulumref29_Fit.c m_).args v)) = pendulumref29_Fit.run m_ v := by
  intro v_; exact (match v_ with | (l, ()) => by kernel_rfl)
theorem pendulumref29_Fit.ok (m_ : Mode) : (pendulumref29_Fit.c m_).OK P := Callee.of_run (fun S0 w0 => oras_ok (pendulumref29_Fit.csok m_)) (by kernel_rfl) (by rfl) (fun S0 w0 cs0 => all_cons (pendulumref29_Fit.s0 m_ S0 w0 cs0) (all_nil)) (fun x r h => (pendulumref29_Fit.k m_ x).trans h)

/-! ### pendulum/comb.Weight -/
noncomputable def comb_Weight.cs (m_ : Mode) : List Callee := []
theorem comb_Weight.csok (m_ : Mode) : ∀ k ∈ comb_Weight.cs m_, k.OK P := all_nil
def comb_Weight.inl : FuncId → Bool := fun f => [].any (Nat.beq f)
noncomputable def comb_Weight.run (m_ : Mode) : (Int × (Int × Int)) × Unit → Option (Int) := fun v_ => match v_ with
| (p, ()) =>
  bif !(decide ((IntKind.i64.wrap ((ishr .i64 p.2.1 (16 : Int)) + (1 : Int))) = (0 : Int))) then some (mx (1 : Int) (IntKind.i64.wrap ((4096 : Int).tdiv (IntKind.i64.wrap ((ishr .i64 p.2.1 (16 : Int)) + (1 : Int)))))) else none
noncomputable def comb_Weight.c (m_ : Mode) : Callee := ⟨9, [.ag (.pair (.int .i64) (.pair (.int .i64) (.int .i64)))], .one (.sh (.one (.int .i64))), comb_Weight.run m_⟩
theorem comb_Weight.k (m_ : Mode) : ∀ v : Shs (comb_Weight.c m_).args, runS P (oras (comb_Weight.cs m_)) comb_Weight.inl [] [] (comb_Weight.c m_).res.fin 20000 false (start 9 (encs (comb_Weight.c m_).args v)) = comb_Weight.run m_ v := by
  intro v_; exact (match v_ with | (p, ()) => by kernel_rfl)
theorem comb_Weight.ok (m_ : Mode) : (comb_Weight.c m_).OK P := Callee.of_run (fun S0 w0 => oras_ok (comb_Weight.csok m_)) (by kernel_rfl) (by rfl) (fun S0 w0 cs0 => all_nil) (fun x r h => (comb_Weight.k m_ x).trans h)

/-! ### pendulum/comb.Combine$1 -/
noncomputable def comb_Combine_1.cs (m_ : Mode) : List Callee := [comb_Weight.c m_]
theorem comb_Combine_1.csok (m_ : Mode) : ∀ k ∈ comb_Combine_1.cs m_, k.OK P := all_cons (comb_Weight.ok m_) (all_nil)
def comb_Combine_1.inl : FuncId → Bool := fun f => [].any (Nat.beq f)
noncomputable def comb_Combine_1.run (m_ : Mode) : (Int × (Int × Int)) × Unit → Option (Int) := fun v_ => match v_ with
| (p, ()) =>
  (comb_Weight.run m_ ((p.1, (p.2.1, p.2.2)), ())).bind fun r =>
  some (IntKind.i64.wrap (p.1 * r))
noncomputable def comb_Combine_1.c (m_ : Mode) : Callee := ⟨20, [.ag (.pair (.int .i64) (.pair (.int .i64) (.int .i64)))], .one (.sh (.one (.int .i64))), comb_Combine_1.run m_⟩
theorem comb_Combine_1.k (m_ : Mode) : ∀ v : Shs (comb_Combine_1.c m_).args, runS P (oras (comb_Combine_1.cs m_)) comb_Combine_1.inl [] [] (comb_Combine_1.c m_).res.fin 20000 false (start 20 (encs (comb_Combine_1.c m_).args v)) = comb_Combine_1.run m_ v := by
  intro v_; exact (match v_ with | (p, ()) => by kernel_rfl)
theorem comb_Combine_1.ok (m_ : Mode) : (comb_Combine_1.c m_).OK P := Callee.of_run (fun S0 w0 => oras_ok (comb_Combine_1.csok m_)) (by kernel_rfl) (by rfl) (fun S0 w0 cs0 => all_nil) (fun x r h => (comb_Combine_1.k m_ x).trans h)

/-! ### pendulum/comb.distance -/
noncomputable def comb_distance.cs (m_ : Mode) : List Callee := []
theorem comb_distance.csok (m_ : Mode) : ∀ k ∈ comb_distance.cs m_, k.OK P := all_nil
def comb_distance.inl : FuncId → Bool := fun f => [].any (Nat.beq f)
noncomputable def comb_distance.run (m_ : Mode) : Int × Int × Unit → Option (Int) := fun v_ => match v_ with
| (a, b, ()) =>
  some (mx (IntKind.i64.wrap (a - b)) (IntKind.i64.wrap (b - a)))
noncomputable def comb_distance.c (m_ : Mode) : Callee := ⟨21, [.one (.int .i64), .one (.int .i64)], .one (.sh (.one (.int .i64))), comb_distance.run m_⟩
theorem comb_distance.k (m_ : Mode) : ∀ v : Shs (comb_distance.c m_).args, runS P (oras (comb_distance.cs m_)) comb_distance.inl [] [] (comb_distance.c m_).res.fin 20000 false (start 21 (encs (comb_distance.c m_).args v)) = comb_distance.run m_ v := by
  intro v_; exact (match v_ with | (a, b, ()) => by kernel_rfl)
theorem comb_distance.ok (m_ : Mode) : (comb_distance.c m_).OK P := Callee.of_run (fun S0 w0 => oras_ok (comb_distance.csok m_)) (by kernel_rfl) (by rfl) (fun S0 w0 cs0 => all_nil) (fun x r h => (comb_distance.k m_ x).trans h)

/-! ### pendulum/comb.Combine -/
noncomputable def comb_Combine.cs (m_ : Mode) : List Callee := [comb_Weight.c m_, comb_Combine_1.c m_, comb_distance.c m_]
theorem comb_Combine.csok (m_ : Mode) : ∀ k ∈ comb_Combine.cs m_, k.OK P := all_cons (comb_Weight.ok m_) (all_cons (comb_Combine_1.ok m_) (all_cons (comb_distance.ok m_) (all_nil)))
def comb_Combine.inl : FuncId → Bool := fun f => [19].any (Nat.beq f)
def comb_Combine.e0 : Spec := ⟨[{ fn := 19, items := [.code [.r, .r, .l, .r, .l, .l], .inLoop [.r, .r, .l, .r, .l, .l], .inBlock 0, .code [.r, .r, .r]], slots := [(1, .fn (.func 9) []), (5, .dat (.int .i64)), (8, .dat (.lst (.pair (.int .i64) (.pair (.int .i64) (.int .i64))))), (9, .dat (.int .i64)), (10, .dat (.int .i64))] }, { fn := 11, items := [.inRegion [.r, .r, .l] [1, 2], .code [.r, .r, .r]], slots := [(0, .dat (.lst (.pair (.int .i64) (.pair (.int .i64) (.int .i64))))), (2, .ptr 0 0)] }], [(0, .cells false [.dat (.int .i64), .dat (.int .i64), .dat (.int .i64)])], 1⟩
def comb_Combine.x0 : List Spec := [⟨[{ fn := 19, items := [.code [.r, .r, .r]], slots := [(5, .dat (.int .i64))] }, { fn := 11, items := [.inRegion [.r, .r, .l] [1, 2], .code [.r, .r, .r]], slots := [(0, .dat (.lst (.pair (.int .i64) (.pair (.int .i64) (.int .i64))))), (2, .ptr 0 0)] }], [(0, .cells false [.dat (.int .i64), .dat (.int .i64), .dat (.int .i64)])], 1⟩]
noncomputable def comb_Combine.b0 (m_ : Mode) (self : Int × (List (Int × (Int × Int))) × Int × Int × (List (Int × (Int × Int))) × Int × Int × Int × Unit → Option ((Int × (List (Int × (Int × Int))) × Int × Int × Int × Unit))) : Int × (List (Int × (Int × Int))) × Int × Int × (List (Int × (Int × Int))) × Int × Int × Int × Unit → Option ((Int × (List (Int × (Int × Int))) × Int × Int × Int × Unit)) := fun v_ => match v_ with
| (n, t, t1, t2, l, m, m1, m2, ()) =>
  bif decide (t2 < t1) then
    bif inB t2 (t.length : Int) then
    (comb_Weight.run m_ (((rd ((0 : Int), ((0 : Int), (0 : Int))) t t2).1, (((rd ((0 : Int), ((0 : Int), (0 : Int))) t t2).2).1, ((rd ((0 : Int), ((0 : Int), (0 : Int))) t t2).2).2)), ())).bind fun r =>
    self ((IntKind.i64.wrap (n + r)), t, t1, (IntKind.i64.wrap (t2 + (1 : Int))), l, m, m1, m2, ())
    else none
  else
    some (n, l, m, m1, m2, ())
theorem comb_Combine.k0 (m_ : Mode) : ∀ (self : Known comb_Combine.e0.sls → Option (Exits comb_Combine.x0)) (v : Known comb_Combine.e0.sls), runS P (oras (comb_Combine.cs m_)) comb_Combine.inl (⟨comb_Combine.e0, self⟩ :: exitCuts comb_Combine.x0 id) [] (fun _ _ => none) 20000 false (comb_Combine.e0.mk' v) = comb_Combine.b0 m_ self v := by
  intro self v_; exact (match v_ with | (n, t, t1, t2, l, m, m1, m2, ()) => by kernel_rfl)
noncomputable def comb_Combine.l0 (m_ : Mode) : Int × (List (Int × (Int × Int))) × Int × Int × (List (Int × (Int × Int))) × Int × Int × Int × Unit → Option ((Int × (List (Int × (Int × Int))) × Int × Int × Int × Unit)) := loop m_ (comb_Combine.b0 m_)
theorem comb_Combine.q0 (v) : comb_Combine.l0 .lim v = comb_Combine.b0 .lim (comb_Combine.l0 .lim) v := lfp_eq (cont_of_run (comb_Combine.k0 .lim)) v
noncomputable def comb_Combine.g0 (m_ : Mode) : Seg := ⟨comb_Combine.e0, comb_Combine.x0, comb_Combine.l0 m_⟩
theorem comb_Combine.s0 (m_ : Mode) (S0 w0 cs0) : SegGood P S0 w0 cs0 11 (comb_Combine.g0 m_) := seg_loop m_ (oras_ok (comb_Combine.csok m_)) (all_nil) (by rfl) (fun e he => List.all_eq_true.1 (show comb_Combine.x0.all Spec.ok = true by rfl) e he) (comb_Combine.k0 m_)
def comb_Combine.e1 : Spec := ⟨[{ fn := 19, items := [.code [.r, .r, .l, .r, .l, .l], .inLoop [.r, .r, .l, .r, .l, .l], .inBlock 0, .code [.r, .r, .r]], slots := [(1, .fn (.func 20) []), (5, .dat (.int .i64)), (8, .dat (.lst (.pair (.int .i64) (.pair (.int .i64) (.int .i64))))), (9, .dat (.int .i64)), (10, .dat (.int .i64))] }, { fn := 11, items := [.inRegion [.r, .r, .r, .l] [1, 2], .code [.r, .r, .r, .r]], slots := [(0, .dat (.lst (.pair (.int .i64) (.pair (.int .i64) (.int .i64))))), (2, .ptr 0 0), (4, .dat (.int .i64))] }], [(0, .cells false [.dat (.int .i64), .dat (.int .i64), .dat (.int .i64)])], 1⟩
def comb_Combine.x1 : List Spec := [⟨[{ fn := 19, items := [.code [.r, .r, .r]], slots := [(5, .dat (.int .i64))] }, { fn := 11, items := [.inRegion [.r, .r, .r, .l] [1, 2], .code [.r, .r, .r, .r]], slots := [(0, .dat (.lst (.pair (.int .i64) (.pair (.int .i64) (.int .i64))))), (2, .ptr 0 0), (4, .dat (.int .i64))] }], [(0, .cells false [.dat (.int .i64), .dat (.int .i64), .dat (.int .i64)])], 1⟩]
noncomputable def comb_Combine.b1 (m_ : Mode) (self : Int × (List (Int × (Int × Int))) × Int × Int × (List (Int × (Int × Int))) × Int × Int × Int × Int × Unit → Option ((Int × (List (Int × (Int × Int))) × Int × Int × Int × Int × Unit))) : Int × (List (Int × (Int × Int))) × Int × Int × (List (Int × (Int × Int))) × Int × Int × Int × Int × Unit → Option ((Int × (List (Int × (Int × Int))) × Int × Int × Int × Int × Unit)) := fun v_ => match v_ with
| (n, t, t1, t2, l, all, m, m1, m2, ()) =>
  bif decide (t2 < t1) then
    bif inB t2 (t.length : Int) then
    (comb_Combine_1.run m_ (((rd ((0 : Int), ((0 : Int), (0 : Int))) t t2).1, (((rd ((0 : Int), ((0 : Int), (0 : Int))) t t2).2).1, ((rd ((0 : Int), ((0 : Int), (0 : Int))) t t2).2).2)), ())).bind fun r =>
    self ((IntKind.i64.wrap (n + r)), t, t1, (IntKind.i64.wrap (t2 + (1 : Int))), l, all, m, m1, m2, ())
    else none
  else
    some (n, l, all, m, m1, m2, ())
theorem comb_Combine.k1 (m_ : Mode) : ∀ (self : Known comb_Combine.e1.sls → Option (Exits comb_Combine.x1)) (v : Known comb_Combine.e1.sls), runS P (oras (comb_Combine.cs m_)) comb_Combine.inl (⟨comb_Combine.e1, self⟩ :: exitCuts comb_Combine.x1 id) [] (fun _ _ => none) 20000 false (comb_Combine.e1.mk' v) = comb_Combine.b1 m_ self v := by
  intro self v_; exact (match v_ with | (n, t, t1, t2, l, all, m, m1, m2, ()) => by kernel_rfl)
noncomputable def comb_Combine.l1 (m_ : Mode) : Int × (List (Int × (Int × Int))) × Int × Int × (List (Int × (Int × Int))) × Int × Int × Int × Int × Unit → Option ((Int × (List (Int × (Int × Int))) × Int × Int × Int × Int × Unit)) := loop m_ (comb_Combine.b1 m_)
theorem comb_Combine.q1 (v) : comb_Combine.l1 .lim v = comb_Combine.b1 .lim (comb_Combine.l1 .lim) v := lfp_eq (cont_of_run (comb_Combine.k1 .lim)) v
noncomputable def comb_Combine.g1 (m_ : Mode) : Seg := ⟨comb_Combine.e1, comb_Combine.x1, comb_Combine.l1 m_⟩
theorem comb_Combine.s1 (m_ : Mode) (S0 w0 cs0) : SegGood P S0 w0 cs0 11 (comb_Combine.g1 m_) := seg_loop m_ (oras_ok (comb_Combine.csok m_)) (all_nil) (by rfl) (fun e he => List.all_eq_true.1 (show comb_Combine.x1.all Spec.ok = true by rfl) e he) (comb_Combine.k1 m_)
def comb_Combine.e2 : Spec := ⟨[{ fn := 11, items := [.code [.r, .r, .r, .r, .r, .r, .r, .l, .r, .l, .l], .inLoop [.r, .r, .r, .r, .r, .r, .r, .l, .r, .l, .l], .inBlock 0, .code [.r, .r, .r, .r, .r, .r, .r, .r]], slots := [(2, .ptr 0 0), (6, .ptr 4 0), (7, .dat (.int .i64)), (30, .dat (.lst (.pair (.int .i64) (.pair (.int .i64) (.int .i64))))), (31, .dat (.int .i64)), (32, .dat (.int .i64))] }], [(0, .cells false [.dat (.int .i64), .dat (.int .i64), .dat (.int .i64)]), (4, .cells false [.dat (.int .i64), .dat (.int .i64), .dat (.int .i64)])], 5⟩
def comb_Combine.x2 : List Spec := [⟨[{ fn := 11, items := [.code [.r, .r, .r, .r, .r, .r, .r, .r]], slots := [(2, .ptr 0 0), (6, .ptr 4 0), (7, .dat (.int .i64))] }], [(0, .cells false [.dat (.int .i64), .dat (.int .i64), .dat (.int .i64)]), (4, .cells false [.dat (.int .i64), .dat (.int .i64), .dat (.int .i64)])], 5⟩]
noncomputable def comb_Combine.b2 (m_ : Mode) (self : Int × (List (Int × (Int × Int))) × Int × Int × Int × Int × Int × Int × Int × Int × Unit → Option ((Int × Int × Int × Int × Int × Int × Int × Unit))) : Int × (List (Int × (Int × Int))) × Int × Int × Int × Int × Int × Int × Int × Int × Unit → Option ((Int × Int × Int × Int × Int × Int × Int × Unit)) := fun v_ => match v_ with
| (root, t, t1, t2, m, m1, m2, m3, m4, m5, ()) =>
  bif decide (t2 < t1) then
    bif inB t2 (t.length : Int) then
    (comb_distance.run m_ ((rd ((0 : Int), ((0 : Int), (0 : Int))) t t2).1, m3, ())).bind fun r =>
    self ((mn root (((rd ((0 : Int), ((0 : Int), (0 : Int))) t t2).2).1)), t, t1, (IntKind.i64.wrap (t2 + (1 : Int))), m, m1, m2, m3, m4, (mn (mx m5 r) (140737488355328 : Int)), ())
    else none
  else
    some (root, m, m1, m2, m3, m4, m5, ())
theorem comb_Combine.k2 (m_ : Mode) : ∀ (self : Known comb_Combine.e2.sls → Option (Exits comb_Combine.x2)) (v : Known comb_Combine.e2.sls), runS P (oras (comb_Combine.cs m_)) comb_Combine.inl (⟨comb_Combine.e2, self⟩ :: exitCuts comb_Combine.x2 id) [] (fun _ _ => none) 20000 false (comb_Combine.e2.mk' v) = comb_Combine.b2 m_ self v := by
  intro self v_; exact (match v_ with | (root, t, t1, t2, m, m1, m2, m3, m4, m5, ()) => by kernel_rfl)
noncomputable def comb_Combine.l2 (m_ : Mode) : Int × (List (Int × (Int × Int))) × Int × Int × Int × Int × Int × Int × Int × Int × Unit → Option ((Int × Int × Int × Int × Int × Int × Int × Unit)) := loop m_ (comb_Combine.b2 m_)
theorem comb_Combine.q2 (v) : comb_Combine.l2 .lim v = comb_Combine.b2 .lim (comb_Combine.l2 .lim) v := lfp_eq (cont_of_run (comb_Combine.k2 .lim)) v
noncomputable def comb_Combine.g2 (m_ : Mode) : Seg := ⟨comb_Combine.e2, comb_Combine.x2, comb_Combine.l2 m_⟩
theorem comb_Combine.s2 (m_ : Mode) (S0 w0 cs0) : SegGood P S0 w0 cs0 11 (comb_Combine.g2 m_) := seg_loop m_ (oras_ok (comb_Combine.csok m_)) (all_nil) (by rfl) (fun e he => List.all_eq_true.1 (show comb_Combine.x2.all Spec.ok = true by rfl) e he) (comb_Combine.k2 m_)
noncomputable def comb_Combine.run (m_ : Mode) : (List (Int × (Int × Int))) × Unit → Option ((Int × (Int × Int)) × Int × Unit) := fun v_ => match v_ with
| (l, ()) =>
  bif smallI (l.length : Int) then
  bif decide ((l.length : Int) = (0 : Int)) then
    some (((0 : Int), ((0 : Int), (0 : Int))), (19 : Int), ())
  else
    bif smallI (l.length : Int) then
    (comb_Combine.l0 m_ ((0 : Int), l, (l.length : Int), (0 : Int), l, (0 : Int), (0 : Int), (0 : Int), ())).bind fun (n, l1, m, m1, m2, ()) =>
    bif smallI (l1.length : Int) then
    (comb_Combine.l1 m_ ((0 : Int), l1, (l1.length : Int), (0 : Int), l1, n, m, m1, m2, ())).bind fun (n1, l2, all, m3, m4, m5, ()) =>
    bif !(decide (all = (0 : Int))) then
    bif !(decide (all = (0 : Int))) then
    bif decide ((n1.tmod all) < (0 : Int)) then
      bif smallI (l2.length : Int) then
      (comb_Combine.l2 m_ ((140737488355328 : Int), l2, (l2.length : Int), (0 : Int), m3, m4, m5, (IntKind.i64.wrap ((IntKind.i64.wrap (n1.tdiv all)) - (1 : Int))), (0 : Int), (0 : Int), ())).bind fun (root, m6, m7, m8, m9, m10, m11, ()) =>
      some ((m9, ((mn (IntKind.i64.wrap (root + m11)) (140737488355328 : Int)), m11)), (0 : Int), ())
      else none
    else
      bif smallI (l2.length : Int) then
      (comb_Combine.l2 m_ ((140737488355328 : Int), l2, (l2.length : Int), (0 : Int), m3, m4, m5, (IntKind.i64.wrap (n1.tdiv all)), (0 : Int), (0 : Int), ())).bind fun (root1, m12, m13, m14, m15, m16, m17, ()) =>
      some ((m15, ((mn (IntKind.i64.wrap (root1 + m17)) (140737488355328 : Int)), m17)), (0 : Int), ())
      else none
    else none
    else none
    else none
    else none
  else none
noncomputable def comb_Combine.c (m_ : Mode) : Callee := ⟨11, [.one (.lst (.pair (.int .i64) (.pair (.int .i64) (.int .i64))))], .tup [.sh (.ag (.pair (.int .i64) (.pair (.int .i64) (.int .i64)))), .sh (.one (.int .i64))], comb_Combine.run m_⟩
theorem comb_Combine.k (m_ : Mode) : ∀ v : Shs (comb_Combine.c m_).args, runS P (oras (comb_Combine.cs m_)) comb_Combine.inl [] [comb_Combine.g0 m_, comb_Combine.g1 m_, comb_Combine.g2 m_] (comb_Combine.c m_).res.fin 20000 false (start 11 (encs (comb_Combine.c m_).args v)) = comb_Combine.run m_ v := by
  intro v_; exact (match v_ with | (l, ()) => by kernel_rfl)
theorem comb_Combine.ok (m_ : Mode) : (comb_Combine.c m_).OK P := Callee.of_run (fun S0 w0 => oras_ok (comb_Combine.csok m_)) (by kernel_rfl) (by rfl) (fun S0 w0 cs0 => all_cons (comb_Combine.s0 m_ S0 w0 cs0) (all_cons (comb_Combine.s1 m_ S0 w0 cs0) (all_cons (comb_Combine.s2 m_ S0 w0 cs0) (all_nil)))) (fun x r h => (comb_Combine.k m_ x).trans h)

/-! ### slices.Clone[[]pendulum/api.Peer,pendulum/api.Peer] -/
noncomputable def slices_Clone_api_Peer_api_Peer.cs (m_ : Mode) : List Callee := []
theorem slices_Clone_api_Peer_api_Peer.csok (m_ : Mode) : ∀ k ∈ slices_Clone_api_Peer_api_Peer.cs m_, k.OK P := all_nil
def slices_Clone_api_Peer_api_Peer.inl : FuncId → Bool := fun f => [].any (Nat.beq f)
noncomputable def slices_Clone_api_Peer_api_Peer.run (m_ : Mode) : (List (Int × (Int × Int))) × Unit → Option (List (Int × (Int × Int))) := fun v_ => match v_ with
| (s, ()) =>
  bif decide (([] : List (Int × (Int × Int))).length + s.length < 2932031007402) then some (([] : List (Int × (Int × Int))) ++ s) else none
noncomputable def slices_Clone_api_Peer_api_Peer.c (m_ : Mode) : Callee := ⟨25, [.one (.lst (.pair (.int .i64) (.pair (.int .i64) (.int .i64))))], .one (.own (.pair (.int .i64) (.pair (.int .i64) (.int .i64)))), slices_Clone_api_Peer_api_Peer.run m_⟩
theorem slices_Clone_api_Peer_api_Peer.kn (m_ : Mode) : runS P (oras (slices_Clone_api_Peer_api_Peer.cs m_)) slices_Clone_api_Peer_api_Peer.inl [] [] (slices_Clone_api_Peer_api_Peer.c m_).res.fin 20000 false (start 25 [.nilSlc]) = (
  some ([] : List (Int × (Int × Int)))) := by kernel_rfl
theorem slices_Clone_api_Peer_api_Peer.k (m_ : Mode) : ∀ xs : List (Int × (Int × Int)), runS P (oras (slices_Clone_api_Peer_api_Peer.cs m_)) slices_Clone_api_Peer_api_Peer.inl [] [] (slices_Clone_api_Peer_api_Peer.c m_).res.fin 20000 false (start 25 [.nlst (.pair (.int .i64) (.pair (.int .i64) (.int .i64))) xs]) = slices_Clone_api_Peer_api_Peer.run m_ (xs, ()) := by
  intro xs; kernel_rfl
theorem slices_Clone_api_Peer_api_Peer.ok (m_ : Mode) : (slices_Clone_api_Peer_api_Peer.c m_).OK P := Callee.of_nil (fun S0 w0 => oras_ok (slices_Clone_api_Peer_api_Peer.csok m_)) (by kernel_rfl) (by rfl) (fun S0 w0 cs0 => all_nil) (fun r h => (slices_Clone_api_Peer_api_Peer.kn m_).trans ((show (
  some ([] : List (Int × (Int × Int)))) = slices_Clone_api_Peer_api_Peer.run m_ ([], ()) from by kernel_rfl).trans h)) (fun x r h => (slices_Clone_api_Peer_api_Peer.k m_ x).trans h)

/-! ### pendulum/comb.Far -/
noncomputable def comb_Far.cs (m_ : Mode) : List Callee := [comb_distance.c m_]
theorem comb_Far.csok (m_ : Mode) : ∀ k ∈ comb_Far.cs m_, k.OK P := all_cons (comb_distance.ok m_) (all_nil)
def comb_Far.inl : FuncId → Bool := fun f => [19, 24].any (Nat.beq f)
def comb_Far.e0 : Spec := ⟨[{ fn := 19, items := [.code [.r, .r, .l, .r, .l, .l], .inLoop [.r, .r, .l, .r, .l, .l], .inBlock 0, .code [.r, .r, .r]], slots := [(1, .fn (.func 24) [0, 1]), (5, .dat (.int .i64)), (8, .dat (.lst (.pair (.int .i64) (.pair (.int .i64) (.int .i64))))), (9, .dat (.int .i64)), (10, .dat (.int .i64))] }, { fn := 13, items := [.inRegion [.r, .r, .l] [2, 3], .code [.r, .r, .r]], slots := [] }], [(0, .cells false [.dat (.lst (.pair (.int .i64) (.pair (.int .i64) (.int .i64))))]), (1, .cells false [.dat (.int .i64)])], 2⟩
def comb_Far.x0 : List Spec := [⟨[{ fn := 19, items := [.code [.r, .r, .r]], slots := [(5, .dat (.int .i64))] }, { fn := 13, items := [.inRegion [.r, .r, .l] [2, 3], .code [.r, .r, .r]], slots := [] }], [], 0⟩]
noncomputable def comb_Far.b0 (m_ : Mode) (self : Int × (List (Int × (Int × Int))) × Int × Int × (List (Int × (Int × Int))) × Int × Unit → Option ((Int × Unit))) : Int × (List (Int × (Int × Int))) × Int × Int × (List (Int × (Int × Int))) × Int × Unit → Option ((Int × Unit)) := fun v_ => match v_ with
| (n, t, t1, t2, m, m1, ()) =>
  bif decide (t2 < t1) then
    bif inB t2 (t.length : Int) then
    bif inB m1 (m.length : Int) then
    (comb_distance.run m_ ((rd ((0 : Int), ((0 : Int), (0 : Int))) t t2).1, (rd ((0 : Int), ((0 : Int), (0 : Int))) m m1).1, ())).bind fun r =>
    self ((IntKind.i64.wrap (n + r)), t, t1, (IntKind.i64.wrap (t2 + (1 : Int))), m, m1, ())
    else none
    else none
  else
    some (n, ())
theorem comb_Far.k0 (m_ : Mode) : ∀ (self : Known comb_Far.e0.sls → Option (Exits comb_Far.x0)) (v : Known comb_Far.e0.sls), runS P (oras (comb_Far.cs m_)) comb_Far.inl (⟨comb_Far.e0, self⟩ :: exitCuts comb_Far.x0 id) [] (fun _ _ => none) 20000 false (comb_Far.e0.mk' v) = comb_Far.b0 m_ self v := by
  intro self v_; exact (match v_ with | (n, t, t1, t2, m, m1, ()) => by kernel_rfl)
noncomputable def comb_Far.l0 (m_ : Mode) : Int × (List (Int × (Int × Int))) × Int × Int × (List (Int × (Int × Int))) × Int × Unit → Option ((Int × Unit)) := loop m_ (comb_Far.b0 m_)
theorem comb_Far.q0 (v) : comb_Far.l0 .lim v = comb_Far.b0 .lim (comb_Far.l0 .lim) v := lfp_eq (cont_of_run (comb_Far.k0 .lim)) v
noncomputable def comb_Far.g0 (m_ : Mode) : Seg := ⟨comb_Far.e0, comb_Far.x0, comb_Far.l0 m_⟩
theorem comb_Far.s0 (m_ : Mode) (S0 w0 cs0) : SegGood P S0 w0 cs0 13 (comb_Far.g0 m_) := seg_loop m_ (oras_ok (comb_Far.csok m_)) (all_nil) (by rfl) (fun e he => List.all_eq_true.1 (show comb_Far.x0.all Spec.ok = true by rfl) e he) (comb_Far.k0 m_)
noncomputable def comb_Far.run (m_ : Mode) : (List (Int × (Int × Int))) × Int × Unit → Option (Int) := fun v_ => match v_ with
| (l, k, ()) =>
  bif ((!(!(decide (k < (0 : Int))))) || (smallI (l.length : Int))) then
  bif ((decide (k < (0 : Int))) || (decide (k ≥ (l.length : Int)))) then
    some (0 : Int)
  else
    bif smallI (l.length : Int) then
    (comb_Far.l0 m_ ((0 : Int), l, (l.length : Int), (0 : Int), l, k, ())).bind fun (n, ()) =>
    some n
    else none
  else none
noncomputable def comb_Far.c (m_ : Mode) : Callee := ⟨13, [.one (.lst (.pair (.int .i64) (.pair (.int .i64) (.int .i64)))), .one (.int .i64)], .one (.sh (.one (.int .i64))), comb_Far.run m_⟩
theorem comb_Far.k (m_ : Mode) : ∀ v : Shs (comb_Far.c m_).args, runS P (oras (comb_Far.cs m_)) comb_Far.inl [] [comb_Far.g0 m_] (comb_Far.c m_).res.fin 20000 false (start 13 (encs (comb_Far.c m_).args v)) = comb_Far.run m_ v := by
  intro v_; exact (match v_ with | (l, k, ()) => by kernel_rfl)
theorem comb_Far.ok (m_ : Mode) : (comb_Far.c m_).OK P := Callee.of_run (fun S0 w0 => oras_ok (comb_Far.csok m_)) (by kernel_rfl) (by rfl) (fun S0 w0 cs0 => all_cons (comb_Far.s0 m_ S0 w0 cs0) (all_nil)) (fun x r h => (comb_Far.k m_ x).trans h)

/-! ### slices.Delete[[]pendulum/api.Peer,pendulum/api.Peer] -/
-- not told: slice with three indexes of lst [F26 (('inRegion', 'rl', 5),)]
noncomputable def slices_Delete_api_Peer_api_Peer.cs (m_ : Mode) : List Callee := []
theorem slices_Delete_api_Peer_api_Peer.csok (m_ : Mode) : ∀ k ∈ slices_Delete_api_Peer_api_Peer.cs m_, k.OK P := all_nil
def slices_Delete_api_Peer_api_Peer.inl : FuncId → Bool := fun f => [].any (Nat.beq f)
noncomputable def slices_Delete_api_Peer_api_Peer.run (m_ : Mode) : (List (Int × (Int × Int))) × Int × Int × Unit → Option (List (Int × (Int × Int))) := fun v_ => match v_ with
| (s, i, j, ()) =>
  bif smallI (s.length : Int) then none else none
noncomputable def slices_Delete_api_Peer_api_Peer.c (m_ : Mode) : Callee := ⟨26, [.one (.lst (.pair (.int .i64) (.pair (.int .i64) (.int .i64)))), .one (.int .i64), .one (.int .i64)], .one (.own (.pair (.int .i64) (.pair (.int .i64) (.int .i64)))), slices_Delete_api_Peer_api_Peer.run m_⟩
theorem slices_Delete_api_Peer_api_Peer.k (m_ : Mode) : ∀ v : Shs (slices_Delete_api_Peer_api_Peer.c m_).args, runS P (oras (slices_Delete_api_Peer_api_Peer.cs m_)) slices_Delete_api_Peer_api_Peer.inl [] [] (slices_Delete_api_Peer_api_Peer.c m_).res.fin 20000 false (start 26 (encs (slices_Delete_api_Peer_api_Peer.c m_).args v)) = slices_Delete_api_Peer_api_Peer.run m_ v := by
  intro v_; exact (match v_ with | (s, i, j, ()) => by kernel_rfl)
theorem slices_Delete_api_Peer_api_Peer.ok (m_ : Mode) : (slices_Delete_api_Peer_api_Peer.c m_).OK P := Callee.of_run (fun S0 w0 => oras_ok (slices_Delete_api_Peer_api_Peer.csok m_)) (by kernel_rfl) (by rfl) (fun S0 w0 cs0 => all_nil) (fun x r h => (slices_Delete_api_Peer_api_Peer.k m_ x).trans h)

/-! ### slices.Delete[[]int,int] -/
-- not told: slice with three indexes of lst [F27 (('inRegion', 'rl', 5),)]
noncomputable def slices_Delete_int_int.cs (m_ : Mode) : List Callee := []
theorem slices_Delete_int_int.csok (m_ : Mode) : ∀ k ∈ slices_Delete_int_int.cs m_, k.OK P := all_nil
def slices_Delete_int_int.inl : FuncId → Bool := fun f => [].any (Nat.beq f)
noncomputable def slices_Delete_int_int.run (m_ : Mode) : (List Int) × Int × Int × Unit → Option (List Int) := fun v_ => match v_ with
| (s, i, j, ()) =>
  bif smallI (s.length : Int) then none else none
noncomputable def slices_Delete_int_int.c (m_ : Mode) : Callee := ⟨27, [.one (.lst (.int .i64)), .one (.int .i64), .one (.int .i64)], .one (.own (.int .i64)), slices_Delete_int_int.run m_⟩
theorem slices_Delete_int_int.k (m_ : Mode) : ∀ v : Shs (slices_Delete_int_int.c m_).args, runS P (oras (slices_Delete_int_int.cs m_)) slices_Delete_int_int.inl [] [] (slices_Delete_int_int.c m_).res.fin 20000 false (start 27 (encs (slices_Delete_int_int.c m_).args v)) = slices_Delete_int_int.run m_ v := by
  intro v_; exact (match v_ with | (s, i, j, ()) => by kernel_rfl)
theorem slices_Delete_int_int.ok (m_ : Mode) : (slices_Delete_int_int.c m_).OK P := Callee.of_run (fun S0 w0 => oras_ok (slices_Delete_int_int.csok m_)) (by kernel_rfl) (by rfl) (fun S0 w0 cs0 => all_nil) (fun x r h => (slices_Delete_int_int.k m_ x).trans h)

/-! ### pendulum/comb.Survivors -/
noncomputable def comb_Survivors.cs (m_ : Mode) : List Callee := [comb_Far.c m_, slices_Clone_api_Peer_api_Peer.c m_]
theorem comb_Survivors.csok (m_ : Mode) : ∀ k ∈ comb_Survivors.cs m_, k.OK P := all_cons (comb_Far.ok m_) (all_cons (slices_Clone_api_Peer_api_Peer.ok m_) (all_nil))
def comb_Survivors.inl : FuncId → Bool := fun f => [26, 27].any (Nat.beq f)
def comb_Survivors.e0 : Spec := ⟨[{ fn := 16, items := [.code [.r, .l, .r, .r, .l, .r, .l, .l], .inLoop [.r, .l, .r, .r, .l, .r, .l, .l], .inBlock 0, .code [.r, .l, .r, .r, .r], .inScope [.r, .l]], slots := [(3, .own 2 (.pair (.int .i64) (.pair (.int .i64) (.int .i64)))), (4, .own 5000 (.int .i64)), (15, .dat (.int .i64)), (16, .dat (.int .i64))] }], [(2, .cells false [.row (.pair (.int .i64) (.pair (.int .i64) (.int .i64)))]), (5000, .cells false [.row (.int .i64)])], 5001⟩
def comb_Survivors.x0 : List Spec := [⟨[{ fn := 16, items := [.code [.r, .l, .r, .r, .r], .inScope [.r, .l]], slots := [(3, .own 2 (.pair (.int .i64) (.pair (.int .i64) (.int .i64)))), (4, .own 5000 (.int .i64))] }], [(2, .cells false [.row (.pair (.int .i64) (.pair (.int .i64) (.int .i64)))]), (5000, .cells false [.row (.int .i64)])], 5001⟩]
noncomputable def comb_Survivors.b0 (m_ : Mode) (self : Int × Int × (List (Int × (Int × Int))) × (List Int) × Unit → Option (((List (Int × (Int × Int))) × (List Int) × Unit))) : Int × Int × (List (Int × (Int × Int))) × (List Int) × Unit → Option (((List (Int × (Int × Int))) × (List Int) × Unit)) := fun v_ => match v_ with
| (t, t1, m, m1, ()) =>
  bif decide (t1 < t) then
    bif decide (m1.length + ([t1] : List Int).length < 8796093022208) then self (t, (IntKind.i64.wrap (t1 + (1 : Int))), m, (m1 ++ ([t1] : List Int)), ()) else none
  else
    some (m, m1, ())
theorem comb_Survivors.k0 (m_ : Mode) : ∀ (self : Known comb_Survivors.e0.sls → Option (Exits comb_Survivors.x0)) (v : Known comb_Survivors.e0.sls), runS P (oras (comb_Survivors.cs m_)) comb_Survivors.inl (⟨comb_Survivors.e0, self⟩ :: exitCuts comb_Survivors.x0 id) [] (fun _ _ => none) 20000 false (comb_Survivors.e0.mk' v) = comb_Survivors.b0 m_ self v := by
  intro self v_; exact (match v_ with | (t, t1, m, m1, ()) => by kernel_rfl)
noncomputable def comb_Survivors.l0 (m_ : Mode) : Int × Int × (List (Int × (Int × Int))) × (List Int) × Unit → Option (((List (Int × (Int × Int))) × (List Int) × Unit)) := loop m_ (comb_Survivors.b0 m_)
theorem comb_Survivors.q0 (v) : comb_Survivors.l0 .lim v = comb_Survivors.b0 .lim (comb_Survivors.l0 .lim) v := lfp_eq (cont_of_run (comb_Survivors.k0 .lim)) v
noncomputable def comb_Survivors.g0 (m_ : Mode) : Seg := ⟨comb_Survivors.e0, comb_Survivors.x0, comb_Survivors.l0 m_⟩
theorem comb_Survivors.s0 (m_ : Mode) (S0 w0 cs0) : SegGood P S0 w0 cs0 16 (comb_Survivors.g0 m_) := seg_loop m_ (oras_ok (comb_Survivors.csok m_)) (all_nil) (by rfl) (fun e he => List.all_eq_true.1 (show comb_Survivors.x0.all Spec.ok = true by rfl) e he) (comb_Survivors.k0 m_)
def comb_Survivors.e1 : Spec := ⟨[{ fn := 16, items := [.code [.r, .l, .r, .r, .r, .r, .l, .l, .l, .r, .l, .r, .r, .l, .r, .l, .l], .inLoop [.r, .l, .r, .r, .r, .r, .l, .l, .l, .r, .l, .r, .r, .l, .r, .l, .l], .inBlock 4, .code [.r, .l, .r, .r, .r, .r, .l, .l, .l, .r, .l, .r, .r, .r], .inBlock 3, .inLoop [.r, .l, .r, .r, .r, .r, .l, .l, .l], .inBlock 2, .code [.r, .l, .r, .r, .r, .r, .r], .inScope [.r, .l]], slots := [(3, .pre 2 (.pair (.int .i64) (.pair (.int .i64) (.int .i64)))), (4, .pre 5000 (.int .i64)), (6, .dat (.int .i64)), (7, .dat (.int .i64)), (8, .dat (.int .i64)), (27, .pre 2 (.pair (.int .i64) (.pair (.int .i64) (.int .i64)))), (28, .dat (.int .i64)), (29, .dat (.int .i64))] }], [(2, .cells false [.row (.pair (.int .i64) (.pair (.int .i64) (.int .i64)))]), (5000, .cells false [.row (.int .i64)])], 5001⟩
def comb_Survivors.x1 : List Spec := [⟨[{ fn := 16, items := [.code [.r, .l, .r, .r, .r, .r, .l, .l, .l, .r, .l, .r, .r, .r], .inBlock 3, .inLoop [.r, .l, .r, .r, .r, .r, .l, .l, .l], .inBlock 2, .code [.r, .l, .r, .r, .r, .r, .r], .inScope [.r, .l]], slots := [(3, .pre 2 (.pair (.int .i64) (.pair (.int .i64) (.int .i64)))), (4, .pre 5000 (.int .i64)), (6, .dat (.int .i64)), (7, .dat (.int .i64)), (8, .dat (.int .i64))] }], [(2, .cells false [.row (.pair (.int .i64) (.pair (.int .i64) (.int .i64)))]), (5000, .cells false [.row (.int .i64)])], 5001⟩]
noncomputable def comb_Survivors.b1 (m_ : Mode) (self : Int × Int × Int × Int × Int × Int × Int × Int × (List (Int × (Int × Int))) × (List Int) × Unit → Option ((Int × Int × Int × Int × Int × (List (Int × (Int × Int))) × (List Int) × Unit))) : Int × Int × Int × Int × Int × Int × Int × Int × (List (Int × (Int × Int))) × (List Int) × Unit → Option ((Int × Int × Int × Int × Int × (List (Int × (Int × Int))) × (List Int) × Unit)) := fun v_ => match v_ with
| (row, left, worst, far, least, t, t1, t2, m, m1, ()) =>
  bif decide (t2 < t1) then
    bif inB t2 t then
    (comb_Far.run m_ (((m.drop 0).take row.toNat), t2, ())).bind fun r =>
    bif decide (r ≥ far) then
      self (row, left, t2, r, (mn least (((rd ((0 : Int), ((0 : Int), (0 : Int))) m ((0 : Int) + t2)).2).2)), t, t1, (IntKind.i64.wrap (t2 + (1 : Int))), m, m1, ())
    else
      self (row, left, worst, far, (mn least (((rd ((0 : Int), ((0 : Int), (0 : Int))) m ((0 : Int) + t2)).2).2)), t, t1, (IntKind.i64.wrap (t2 + (1 : Int))), m, m1, ())
    else none
  else
    some (row, left, worst, far, least, m, m1, ())
theorem comb_Survivors.k1 (m_ : Mode) : ∀ (self : Known comb_Survivors.e1.sls → Option (Exits comb_Survivors.x1)) (v : Known comb_Survivors.e1.sls), runS P (oras (comb_Survivors.cs m_)) comb_Survivors.inl (⟨comb_Survivors.e1, self⟩ :: exitCuts comb_Survivors.x1 id) [] (fun _ _ => none) 20000 false (comb_Survivors.e1.mk' v) = comb_Survivors.b1 m_ self v := by
  intro self v_; exact (match v_ with | (row, left, worst, far, least, t, t1, t2, m, m1, ()) => by kernel_rfl)
noncomputable def comb_Survivors.l1 (m_ : Mode) : Int × Int × Int × Int × Int × Int × Int × Int × (List (Int × (Int × Int))) × (List Int) × Unit → Option ((Int × Int × Int × Int × Int × (List (Int × (Int × Int))) × (List Int) × Unit)) := loop m_ (comb_Survivors.b1 m_)
theorem comb_Survivors.q1 (v) : comb_Survivors.l1 .lim v = comb_Survivors.b1 .lim (comb_Survivors.l1 .lim) v := lfp_eq (cont_of_run (comb_Survivors.k1 .lim)) v
noncomputable def comb_Survivors.g1 (m_ : Mode) : Seg := ⟨comb_Survivors.e1, comb_Survivors.x1, comb_Survivors.l1 m_⟩
theorem comb_Survivors.s1 (m_ : Mode) (S0 w0 cs0) : SegGood P S0 w0 cs0 16 (comb_Survivors.g1 m_) := seg_loop m_ (oras_ok (comb_Survivors.csok m_)) (all_nil) (by rfl) (fun e he => List.all_eq_true.1 (show comb_Survivors.x1.all Spec.ok = true by rfl) e he) (comb_Survivors.k1 m_)
def comb_Survivors.e2 : Spec := ⟨[{ fn := 16, items := [.code [.r, .l, .r, .r, .r, .r, .l, .l, .l], .inLoop [.r, .l, .r, .r, .r, .r, .l, .l, .l], .inBlock 2, .code [.r, .l, .r, .r, .r, .r, .r], .inScope [.r, .l]], slots := [(3, .pre 2 (.pair (.int .i64) (.pair (.int .i64) (.int .i64)))), (4, .pre 5000 (.int .i64))] }], [(2, .cells false [.row (.pair (.int .i64) (.pair (.int .i64) (.int .i64)))]), (5000, .cells false [.row (.int .i64)])], 5001⟩
def comb_Survivors.x2 : List Spec := [⟨[{ fn := 16, items := [.code [.r, .l, .r, .r, .r, .r, .r], .inScope [.r, .l]], slots := [(4, .pre 5000 (.int .i64))] }], [(5000, .cells false [.row (.int .i64)])], 5001⟩]
noncomputable def comb_Survivors.b2 (m_ : Mode) (self : Int × Int × (List (Int × (Int × Int))) × (List Int) × Unit → Option ((Int × (List Int) × Unit))) : Int × Int × (List (Int × (Int × Int))) × (List Int) × Unit → Option ((Int × (List Int) × Unit)) := fun v_ => match v_ with
| (row, left, m, m1, ()) =>
  bif smallI row then
  bif decide (row > (3 : Int)) then
    bif smallI row then
    (comb_Survivors.l1 m_ (row, left, (0 : Int), (-1 : Int), (140737488355328 : Int), row, row, (0 : Int), m, m1, ())).bind fun (row1, left1, worst, far, least, m2, m3, ()) =>
    bif smallI row1 then
    bif decide (far ≤ (IntKind.i64.wrap (least * (IntKind.i64.wrap (row1 - (1 : Int)))))) then
      some (left1, m3, ())
    else
      bif smallI row1 then
      bif ((cutB worst (IntKind.i64.wrap (worst + (1 : Int))) row1) && (decide (row1 ≤ ((m2.length : Int) - (0 : Int))))) then
      bif decide (worst = (IntKind.i64.wrap (worst + (1 : Int)))) then
        bif smallI left1 then
        bif ((cutB worst (IntKind.i64.wrap (worst + (1 : Int))) left1) && (decide (left1 ≤ ((m3.length : Int) - (0 : Int))))) then
        bif decide (worst = (IntKind.i64.wrap (worst + (1 : Int)))) then
          self (row1, left1, m2, m3, ())
        else
          bif smallI left1 then
          bif cutB (0 : Int) worst ((m3.length : Int) - (0 : Int)) then
          bif cutB (IntKind.i64.wrap (worst + (1 : Int))) left1 ((m3.length : Int) - (0 : Int)) then
          bif ((decide (m3.length + ((m3.drop (((0 : Int) + (IntKind.i64.wrap (worst + (1 : Int)))).toNat)).take ((left1 - (IntKind.i64.wrap (worst + (1 : Int)))).toNat)).length < 8796093022208)) && (decide ((0 : Int) ≤ (worst - (0 : Int))))) then
          bif smallI ((worst - (0 : Int)) + (((m3.drop (((0 : Int) + (IntKind.i64.wrap (worst + (1 : Int)))).toNat)).take ((left1 - (IntKind.i64.wrap (worst + (1 : Int)))).toNat)).length : Int)) then
          bif cutB ((worst - (0 : Int)) + (((m3.drop (((0 : Int) + (IntKind.i64.wrap (worst + (1 : Int)))).toNat)).take ((left1 - (IntKind.i64.wrap (worst + (1 : Int)))).toNat)).length : Int)) left1 (((m3.take ((worst - (0 : Int)).toNat) ++ (((m3.drop (((0 : Int) + (IntKind.i64.wrap (worst + (1 : Int)))).toNat)).take ((left1 - (IntKind.i64.wrap (worst + (1 : Int)))).toNat)) ++ m3.drop ((worst - (0 : Int)).toNat + ((m3.drop (((0 : Int) + (IntKind.i64.wrap (worst + (1 : Int)))).toNat)).take ((left1 - (IntKind.i64.wrap (worst + (1 : Int)))).toNat)).length))).length : Int) - (0 : Int)) then self (row1, ((worst - (0 : Int)) + (((m3.drop (((0 : Int) + (IntKind.i64.wrap (worst + (1 : Int)))).toNat)).take ((left1 - (IntKind.i64.wrap (worst + (1 : Int)))).toNat)).length : Int)), m2, (splice (m3.take ((worst - (0 : Int)).toNat) ++ (((m3.drop (((0 : Int) + (IntKind.i64.wrap (worst + (1 : Int)))).toNat)).take ((left1 - (IntKind.i64.wrap (worst + (1 : Int)))).toNat)) ++ m3.drop ((worst - (0 : Int)).toNat + ((m3.drop (((0 : Int) + (IntKind.i64.wrap (worst + (1 : Int)))).toNat)).take ((left1 - (IntKind.i64.wrap (worst + (1 : Int)))).toNat)).length))) (((0 : Int) + ((worst - (0 : Int)) + (((m3.drop (((0 : Int) + (IntKind.i64.wrap (worst + (1 : Int)))).toNat)).take ((left1 - (IntKind.i64.wrap (worst + (1 : Int)))).toNat)).length : Int))).toNat) (List.replicate ((left1 - ((worst - (0 : Int)) + (((m3.drop (((0 : Int) + (IntKind.i64.wrap (worst + (1 : Int)))).toNat)).take ((left1 - (IntKind.i64.wrap (worst + (1 : Int)))).toNat)).length : Int))).toNat) (0 : Int))), ()) else none
          else none
          else none
          else none
          else none
          else none
        else none
        else none
      else
        bif smallI row1 then
        bif cutB (0 : Int) worst ((m2.length : Int) - (0 : Int)) then
        bif cutB (IntKind.i64.wrap (worst + (1 : Int))) row1 ((m2.length : Int) - (0 : Int)) then
        bif ((decide (m2.length + ((m2.drop (((0 : Int) + (IntKind.i64.wrap (worst + (1 : Int)))).toNat)).take ((row1 - (IntKind.i64.wrap (worst + (1 : Int)))).toNat)).length < 2932031007402)) && (decide ((0 : Int) ≤ (worst - (0 : Int))))) then
        bif smallI ((worst - (0 : Int)) + (((m2.drop (((0 : Int) + (IntKind.i64.wrap (worst + (1 : Int)))).toNat)).take ((row1 - (IntKind.i64.wrap (worst + (1 : Int)))).toNat)).length : Int)) then
        bif cutB ((worst - (0 : Int)) + (((m2.drop (((0 : Int) + (IntKind.i64.wrap (worst + (1 : Int)))).toNat)).take ((row1 - (IntKind.i64.wrap (worst + (1 : Int)))).toNat)).length : Int)) row1 (((m2.take ((worst - (0 : Int)).toNat) ++ (((m2.drop (((0 : Int) + (IntKind.i64.wrap (worst + (1 : Int)))).toNat)).take ((row1 - (IntKind.i64.wrap (worst + (1 : Int)))).toNat)) ++ m2.drop ((worst - (0 : Int)).toNat + ((m2.drop (((0 : Int) + (IntKind.i64.wrap (worst + (1 : Int)))).toNat)).take ((row1 - (IntKind.i64.wrap (worst + (1 : Int)))).toNat)).length))).length : Int) - (0 : Int)) then
        bif smallI left1 then
        bif ((cutB worst (IntKind.i64.wrap (worst + (1 : Int))) left1) && (decide (left1 ≤ ((m3.length : Int) - (0 : Int))))) then
        bif decide (worst = (IntKind.i64.wrap (worst + (1 : Int)))) then
          self (((worst - (0 : Int)) + (((m2.drop (((0 : Int) + (IntKind.i64.wrap (worst + (1 : Int)))).toNat)).take ((row1 - (IntKind.i64.wrap (worst + (1 : Int)))).toNat)).length : Int)), left1, (splice (m2.take ((worst - (0 : Int)).toNat) ++ (((m2.drop (((0 : Int) + (IntKind.i64.wrap (worst + (1 : Int)))).toNat)).take ((row1 - (IntKind.i64.wrap (worst + (1 : Int)))).toNat)) ++ m2.drop ((worst - (0 : Int)).toNat + ((m2.drop (((0 : Int) + (IntKind.i64.wrap (worst + (1 : Int)))).toNat)).take ((row1 - (IntKind.i64.wrap (worst + (1 : Int)))).toNat)).length))) (((0 : Int) + ((worst - (0 : Int)) + (((m2.drop (((0 : Int) + (IntKind.i64.wrap (worst + (1 : Int)))).toNat)).take ((row1 - (IntKind.i64.wrap (worst + (1 : Int)))).toNat)).length : Int))).toNat) (List.replicate ((row1 - ((worst - (0 : Int)) + (((m2.drop (((0 : Int) + (IntKind.i64.wrap (worst + (1 : Int)))).toNat)).take ((row1 - (IntKind.i64.wrap (worst + (1 : Int)))).toNat)).length : Int))).toNat) ((0 : Int), ((0 : Int), (0 : Int))))), m3, ())
        else
          bif smallI left1 then
          bif cutB (0 : Int) worst ((m3.length : Int) - (0 : Int)) then
          bif cutB (IntKind.i64.wrap (worst + (1 : Int))) left1 ((m3.length : Int) - (0 : Int)) then
          bif ((decide (m3.length + ((m3.drop (((0 : Int) + (IntKind.i64.wrap (worst + (1 : Int)))).toNat)).take ((left1 - (IntKind.i64.wrap (worst + (1 : Int)))).toNat)).length < 8796093022208)) && (decide ((0 : Int) ≤ (worst - (0 : Int))))) then
          bif smallI ((worst - (0 : Int)) + (((m3.drop (((0 : Int) + (IntKind.i64.wrap (worst + (1 : Int)))).toNat)).take ((left1 - (IntKind.i64.wrap (worst + (1 : Int)))).toNat)).length : Int)) then
          bif cutB ((worst - (0 : Int)) + (((m3.drop (((0 : Int) + (IntKind.i64.wrap (worst + (1 : Int)))).toNat)).take ((left1 - (IntKind.i64.wrap (worst + (1 : Int)))).toNat)).length : Int)) left1 (((m3.take ((worst - (0 : Int)).toNat) ++ (((m3.drop (((0 : Int) + (IntKind.i64.wrap (worst + (1 : Int)))).toNat)).take ((left1 - (IntKind.i64.wrap (worst + (1 : Int)))).toNat)) ++ m3.drop ((worst - (0 : Int)).toNat + ((m3.drop (((0 : Int) + (IntKind.i64.wrap (worst + (1 : Int)))).toNat)).take ((left1 - (IntKind.i64.wrap (worst + (1 : Int)))).toNat)).length))).length : Int) - (0 : Int)) then self (((worst - (0 : Int)) + (((m2.drop (((0 : Int) + (IntKind.i64.wrap (worst + (1 : Int)))).toNat)).take ((row1 - (IntKind.i64.wrap (worst + (1 : Int)))).toNat)).length : Int)), ((worst - (0 : Int)) + (((m3.drop (((0 : Int) + (IntKind.i64.wrap (worst + (1 : Int)))).toNat)).take ((left1 - (IntKind.i64.wrap (worst + (1 : Int)))).toNat)).length : Int)), (splice (m2.take ((worst - (0 : Int)).toNat) ++ (((m2.drop (((0 : Int) + (IntKind.i64.wrap (worst + (1 : Int)))).toNat)).take ((row1 - (IntKind.i64.wrap (worst + (1 : Int)))).toNat)) ++ m2.drop ((worst - (0 : Int)).toNat + ((m2.drop (((0 : Int) + (IntKind.i64.wrap (worst + (1 : Int)))).toNat)).take ((row1 - (IntKind.i64.wrap (worst + (1 : Int)))).toNat)).length))) (((0 : Int) + ((worst - (0 : Int)) + (((m2.drop (((0 : Int) + (IntKind.i64.wrap (worst + (1 : Int)))).toNat)).take ((row1 - (IntKind.i64.wrap (worst + (1 : Int)))).toNat)).length : Int))).toNat) (List.replicate ((row1 - ((worst - (0 : Int)) + (((m2.drop (((0 : Int) + (IntKind.i64.wrap (worst + (1 : Int)))).toNat)).take ((row1 - (IntKind.i64.wrap (worst + (1 : Int)))).toNat)).length : Int))).toNat) ((0 : Int), ((0 : Int), (0 : Int))))), (splice (m3.take ((worst - (0 : Int)).toNat) ++ (((m3.drop (((0 : Int) + (IntKind.i64.wrap (worst + (1 : Int)))).toNat)).take ((left1 - (IntKind.i64.wrap (worst + (1 : Int)))).toNat)) ++ m3.drop ((worst - (0 : Int)).toNat + ((m3.drop (((0 : Int) + (IntKind.i64.wrap (worst + (1 : Int)))).toNat)).take ((left1 - (IntKind.i64.wrap (worst + (1 : Int)))).toNat)).length))) (((0 : Int) + ((worst - (0 : Int)) + (((m3.drop (((0 : Int) + (IntKind.i64.wrap (worst + (1 : Int)))).toNat)).take ((left1 - (IntKind.i64.wrap (worst + (1 : Int)))).toNat)).length : Int))).toNat) (List.replicate ((left1 - ((worst - (0 : Int)) + (((m3.drop (((0 : Int) + (IntKind.i64.wrap (worst + (1 : Int)))).toNat)).take ((left1 - (IntKind.i64.wrap (worst + (1 : Int)))).toNat)).length : Int))).toNat) (0 : Int))), ()) else none
          else none
          else none
          else none
          else none
          else none
        else none
        else none
        else none
        else none
        else none
        else none
        else none
        else none
      else none
      else none
    else none
    else none
  else
    some (left, m1, ())
  else none
theorem comb_Survivors.k2 (m_ : Mode) : ∀ (self : Known comb_Survivors.e2.sls → Option (Exits comb_Survivors.x2)) (v : Known comb_Survivors.e2.sls), runS P (oras (comb_Survivors.cs m_)) comb_Survivors.inl (⟨comb_Survivors.e2, self⟩ :: exitCuts comb_Survivors.x2 id) [comb_Survivors.g1 m_] (fun _ _ => none) 20000 false (comb_Survivors.e2.mk' v) = comb_Survivors.b2 m_ self v := by
  intro self v_; exact (match v_ with | (row, left, m, m1, ()) => by kernel_rfl)
noncomputable def comb_Survivors.l2 (m_ : Mode) : Int × Int × (List (Int × (Int × Int))) × (List Int) × Unit → Option ((Int × (List Int) × Unit)) := loop m_ (comb_Survivors.b2 m_)
theorem comb_Survivors.q2 (v) : comb_Survivors.l2 .lim v = comb_Survivors.b2 .lim (comb_Survivors.l2 .lim) v := lfp_eq (cont_of_run (comb_Survivors.k2 .lim)) v
noncomputable def comb_Survivors.g2 (m_ : Mode) : Seg := ⟨comb_Survivors.e2, comb_Survivors.x2, comb_Survivors.l2 m_⟩
theorem comb_Survivors.s2 (m_ : Mode) (S0 w0 cs0) : SegGood P S0 w0 cs0 16 (comb_Survivors.g2 m_) := seg_loop m_ (oras_ok (comb_Survivors.csok m_)) (all_cons (comb_Survivors.s1 m_ S0 w0 cs0) (all_nil)) (by rfl) (fun e he => List.all_eq_true.1 (show comb_Survivors.x2.all Spec.ok = true by rfl) e he) (comb_Survivors.k2 m_)
noncomputable def comb_Survivors.run (m_ : Mode) : (List (Int × (Int × Int))) × Unit → Option (List Int) := fun v_ => match v_ with
| (l, ()) =>
  (slices_Clone_api_Peer_api_Peer.run m_ (l, ())).bind fun r =>
  bif smallI (l.length : Int) then
  (comb_Survivors.l0 m_ ((l.length : Int), (0 : Int), r, ([] : List Int), ())).bind fun (m, m1, ()) =>
  (comb_Survivors.l2 m_ ((m.length : Int), (m1.length : Int), m, m1, ())).bind fun (left, m2, ()) =>
  some ((m2.drop 0).take left.toNat)
  else none
noncomputable def comb_Survivors.c (m_ : Mode) : Callee := ⟨16, [.one (.lst (.pair (.int .i64) (.pair (.int .i64) (.int .i64))))], .one (.sh (.one (.lst (.int .i64)))), comb_Survivors.run m_⟩
theorem comb_Survivors.k (m_ : Mode) : ∀ v : Shs (comb_Survivors.c m_).args, runS P (oras (comb_Survivors.cs m_)) comb_Survivors.inl [] [comb_Survivors.g0 m_, comb_Survivors.g2 m_] (comb_Survivors.c m_).res.fin 20000 false (start 16 (encs (comb_Survivors.c m_).args v)) = comb_Survivors.run m_ v := by
  intro v_; exact (match v_ with | (l, ()) => by kernel_rfl)
theorem comb_Survivors.ok (m_ : Mode) : (comb_Survivors.c m_).OK P := Callee.of_run (fun S0 w0 => oras_ok (comb_Survivors.csok m_)) (by kernel_rfl) (by rfl) (fun S0 w0 cs0 => all_cons (comb_Survivors.s0 m_ S0 w0 cs0) (all_cons (comb_Survivors.s2 m_ S0 w0 cs0) (all_nil))) (fun x r h => (comb_Survivors.k m_ x).trans h)

/-! ### pendulum/pendulumlaw30.ints -/
noncomputable def pendulumlaw30_ints.cs (m_ : Mode) : List Callee := []
theorem pendulumlaw30_ints.csok (m_ : Mode) : ∀ k ∈ pendulumlaw30_ints.cs m_, k.OK P := all_nil
def pendulumlaw30_ints.inl : FuncId → Bool := fun f => [].any (Nat.beq f)
def pendulumlaw30_ints.e0 : Spec := ⟨[{ fn := 15, items := [.code [.r, .r, .l, .r, .l, .l], .inLoop [.r, .r, .l, .r, .l, .l], .inBlock 0, .code [.r, .r, .r]], slots := [(0, .dat (.lst (.int .i64))), (1, .dat (.lst (.int .i64))), (12, .dat (.int .i64)), (13, .dat (.int .i64))] }], [], 0⟩
def pendulumlaw30_ints.x0 : List Spec := [⟨[{ fn := 15, items := [.code [.r, .r, .l, .r, .l, .l, .r, .r, .l, .l, .r, .r, .l, .r], .inBlock 1, .code [.r, .r, .l, .r, .l, .l, .r, .r, .r], .inLoop [.r, .r, .l, .r, .l, .l], .inBlock 0, .code [.r, .r, .r]], slots := [(4, .dat .bool)] }], [], 0⟩, ⟨[{ fn := 15, items := [.code [.r, .r, .r]], slots := [] }], [], 0⟩]
noncomputable def pendulumlaw30_ints.b0 (m_ : Mode) (self : (List Int) × (List Int) × Int × Int × Unit → Option ((Bool × Unit) ⊕ (Unit))) : (List Int) × (List Int) × Int × Int × Unit → Option ((Bool × Unit) ⊕ (Unit)) := fun v_ => match v_ with
| (a, b, t, t1, ()) =>
  bif decide (t1 < t) then
    bif inB t1 (a.length : Int) then
    bif inB t1 (b.length : Int) then
    bif !(decide ((rd (0 : Int) a t1) = (rd (0 : Int) b t1))) then
      some (.inl (false, ()))
    else
      self (a, b, t, (IntKind.i64.wrap (t1 + (1 : Int))), ())
    else none
    else none
  else
    some (.inr (()))
theorem pendulumlaw30_ints.k0 (m_ : Mode) : ∀ (self : Known pendulumlaw30_ints.e0.sls → Option (Exits pendulumlaw30_ints.x0)) (v : Known pendulumlaw30_ints.e0.sls), runS P (oras (pendulumlaw30_ints.cs m_)) pendulumlaw30_ints.inl (⟨pendulumlaw30_ints.e0, self⟩ :: exitCuts pendulumlaw30_ints.x0 id) [] (fun _ _ => none) 20000 false (pendulumlaw30_ints.e0.mk' v) = pendulumlaw30_ints.b0 m_ self v := by
  intro self v_; exact (match v_ with | (a, b, t, t1, ()) => by kernel_rfl)
noncomputable def pendulumlaw30_ints.l0 (m_ : Mode) : (List Int) × (List Int) × Int × Int × Unit → Option ((Bool × Unit) ⊕ (Unit)) := loop m_ (pendulumlaw30_ints.b0 m_)
theorem pendulumlaw30_ints.q0 (v) : pendulumlaw30_ints.l0 .lim v = pendulumlaw30_ints.b0 .lim (pendulumlaw30_ints.l0 .lim) v := lfp_eq (cont_of_run (pendulumlaw30_ints.k0 .lim)) v
noncomputable def pendulumlaw30_ints.g0 (m_ : Mode) : Seg := ⟨pendulumlaw30_ints.e0, pendulumlaw30_ints.x0, pendulumlaw30_ints.l0 m_⟩
theorem pendulumlaw30_ints.s0 (m_ : Mode) (S0 w0 cs0) : SegGood P S0 w0 cs0 15 (pendulumlaw30_ints.g0 m_) := seg_loop m_ (oras_ok (pendulumlaw30_ints.csok m_)) (all_nil) (by rfl) (fun e he => List.all_eq_true.1 (show pendulumlaw30_ints.x0.all Spec.ok = true by rfl) e he) (pendulumlaw30_ints.k0 m_)
noncomputable def pendulumlaw30_ints.run (m_ : Mode) : (List Int) × (List Int) × Unit → Option (Bool) := fun v_ => match v_ with
| (a, b, ()) =>
  bif smallI (a.length : Int) then
  bif smallI (b.length : Int) then
  bif !(decide ((a.length : Int) = (b.length : Int))) then
    some false
  else
    bif smallI (a.length : Int) then
    (pendulumlaw30_ints.l0 m_ (a, b, (a.length : Int), (0 : Int), ())).bind fun g_ => match g_ with
    | .inl (t, ()) =>
      some t
    | .inr (()) =>
      some true
    else none
  else none
  else none
noncomputable def pendulumlaw30_ints.c (m_ : Mode) : Callee := ⟨15, [.one (.lst (.int .i64)), .one (.lst (.int .i64))], .one (.sh (.one .bool)), pendulumlaw30_ints.run m_⟩
theorem pendulumlaw30_ints.k (m_ : Mode) : ∀ v : Shs (pendulumlaw30_ints.c m_).args, runS P (oras (pendulumlaw30_ints.cs m_)) pendulumlaw30_ints.inl [] [pendulumlaw30_ints.g0 m_] (pendulumlaw30_ints.c m_).res.fin 20000 false (start 15 (encs (pendulumlaw30_ints.c m_).args v)) = pendulumlaw30_ints.run m_ v := by
  intro v_; exact (match v_ with | (a, b, ()) => by kernel_rfl)
theorem pendulumlaw30_ints.ok (m_ : Mode) : (pendulumlaw30_ints.c m_).OK P := Callee.of_run (fun S0 w0 => oras_ok (pendulumlaw30_ints.csok m_)) (by kernel_rfl) (by rfl) (fun S0 w0 cs0 => all_cons (pendulumlaw30_ints.s0 m_ S0 w0 cs0) (all_nil)) (fun x r h => (pendulumlaw30_ints.k m_ x).trans h)

/-! ### pendulum/pendulumlaw30.awake -/
-- not told: guard is junk [F8 (('inRegion', 'rrrl', 18),)]
-- not told: pure of junk [F8 (('code', 'rrrr'),)]
noncomputable def pendulumlaw30_awake.cs (m_ : Mode) : List Callee := [comb_Combine.c m_, comb_Far.c m_, pendulumlaw30_ints.c m_, comb_Survivors.c m_]
theorem pendulumlaw30_awake.csok (m_ : Mode) : ∀ k ∈ pendulumlaw30_awake.cs m_, k.OK P := all_cons (comb_Combine.ok m_) (all_cons (comb_Far.ok m_) (all_cons (pendulumlaw30_ints.ok m_) (all_cons (comb_Survivors.ok m_) (all_nil))))
def pendulumlaw30_awake.inl : FuncId → Bool := fun f => [].any (Nat.beq f)
noncomputable def pendulumlaw30_awake.run (m_ : Mode) : Unit → Option (Bool) := fun v_ => match v_ with
| (()) =>
  (comb_Combine.run m_ (([((0 : Int), ((0 : Int), (0 : Int))), ((10 : Int), ((0 : Int), (0 : Int)))] : List (Int × (Int × Int))), ())).bind fun (r, r1, ()) =>
  (comb_Survivors.run m_ (([((0 : Int), ((0 : Int), (0 : Int))), ((1 : Int), ((0 : Int), (0 : Int))), ((2 : Int), ((0 : Int), (0 : Int))), ((100 : Int), ((0 : Int), (0 : Int)))] : List (Int × (Int × Int))), ())).bind fun r2 =>
  bif (((decide (r.1 = (5 : Int))) && (decide (r.2.2 = (5 : Int)))) && (decide (r1 = (0 : Int)))) then
    ((bif (((decide (r.1 = (5 : Int))) && (decide (r.2.2 = (5 : Int)))) && (decide (r1 = (0 : Int)))) then pendulumlaw30_ints.run m_ (r2, ([(0 : Int), (1 : Int), (2 : Int)] : List Int), ()) else some false)).bind fun r3 =>
    bif ((((decide (r.1 = (5 : Int))) && (decide (r.2.2 = (5 : Int)))) && (decide (r1 = (0 : Int)))) && r3) then
      ((bif ((((decide (r.1 = (5 : Int))) && (decide (r.2.2 = (5 : Int)))) && (decide (r1 = (0 : Int)))) && r3) then comb_Far.run m_ (([((0 : Int), ((0 : Int), (0 : Int))), ((3 : Int), ((0 : Int), (0 : Int)))] : List (Int × (Int × Int))), (0 : Int), ()) else some (0 : Int))).bind fun r4 =>
      some (((((decide (r.1 = (5 : Int))) && (decide (r.2.2 = (5 : Int)))) && (decide (r1 = (0 : Int)))) && r3) && (decide (r4 = (3 : Int))))
    else
      bif !((((decide (r.1 = (5 : Int))) && (decide (r.2.2 = (5 : Int)))) && (decide (r1 = (0 : Int)))) && r3) then
      bif !((((decide (r.1 = (5 : Int))) && (decide (r.2.2 = (5 : Int)))) && (decide (r1 = (0 : Int)))) && r3) then none else none
      else none
  else
    bif !(((decide (r.1 = (5 : Int))) && (decide (r.2.2 = (5 : Int)))) && (decide (r1 = (0 : Int)))) then none else none
noncomputable def pendulumlaw30_awake.c (m_ : Mode) : Callee := ⟨8, [], .one (.sh (.one .bool)), pendulumlaw30_awake.run m_⟩
theorem pendulumlaw30_awake.k (m_ : Mode) : ∀ v : Shs (pendulumlaw30_awake.c m_).args, runS P (oras (pendulumlaw30_awake.cs m_)) pendulumlaw30_awake.inl [] [] (pendulumlaw30_awake.c m_).res.fin 20000 false (start 8 (encs (pendulumlaw30_awake.c m_).args v)) = pendulumlaw30_awake.run m_ v := by
  intro v_; exact (match v_ with | (()) => by kernel_rfl)
theorem pendulumlaw30_awake.ok (m_ : Mode) : (pendulumlaw30_awake.c m_).OK P := Callee.of_run (fun S0 w0 => oras_ok (pendulumlaw30_awake.csok m_)) (by kernel_rfl) (by rfl) (fun S0 w0 cs0 => all_nil) (fun x r h => (pendulumlaw30_awake.k m_ x).trans h)
def pendulumlaw30_awake.t : Callee := ⟨8, [], .one (.sh (.one .bool)), fun _ => some true⟩
theorem pendulumlaw30_awake.plays : pendulumlaw30_awake.run (.fuel 1000) () = some true := by kernel_rfl
theorem pendulumlaw30_awake.okt : pendulumlaw30_awake.t.OK P := Callee.of_run (fun S0 w0 => oras_ok (pendulumlaw30_awake.csok (.fuel 1000))) (by kernel_rfl) (by rfl) (fun S0 w0 cs0 => all_nil) (fun x r h => (pendulumlaw30_awake.k (.fuel 1000) x).trans (pendulumlaw30_awake.plays.trans h))

/-! ### pendulum/pendulumref30.Weight -/
noncomputable def pendulumref30_Weight.cs (m_ : Mode) : List Callee := []
theorem pendulumref30_Weight.csok (m_ : Mode) : ∀ k ∈ pendulumref30_Weight.cs m_, k.OK P := all_nil
def pendulumref30_Weight.inl : FuncId → Bool := fun f => [].any (Nat.beq f)
noncomputable def pendulumref30_Weight.run (m_ : Mode) : (Int × (Int × Int)) × Unit → Option (Int) := fun v_ => match v_ with
| (p, ()) =>
  bif !(decide ((IntKind.i64.wrap ((ishr .i64 p.2.1 (16 : Int)) + (1 : Int))) = (0 : Int))) then some (mx (IntKind.i64.wrap ((4096 : Int).tdiv (IntKind.i64.wrap ((ishr .i64 p.2.1 (16 : Int)) + (1 : Int))))) (1 : Int)) else none
noncomputable def pendulumref30_Weight.c (m_ : Mode) : Callee := ⟨10, [.ag (.pair (.int .i64) (.pair (.int .i64) (.int .i64)))], .one (.sh (.one (.int .i64))), pendulumref30_Weight.run m_⟩
theorem pendulumref30_Weight.k (m_ : Mode) : ∀ v : Shs (pendulumref30_Weight.c m_).args, runS P (oras (pendulumref30_Weight.cs m_)) pendulumref30_Weight.inl [] [] (pendulumref30_Weight.c m_).res.fin 20000 false (start 10 (encs (pendulumref30_Weight.c m_).args v)) = pendulumref30_Weight.run m_ v := by
  intro v_; exact (match v_ with | (p, ()) => by kernel_rfl)
theorem pendulumref30_Weight.ok (m_ : Mode) : (pendulumref30_Weight.c m_).OK P := Callee.of_run (fun S0 w0 => oras_ok (pendulumref30_Weight.csok m_)) (by kernel_rfl) (by rfl) (fun S0 w0 cs0 => all_nil) (fun x r h => (pendulumref30_Weight.k m_ x).trans h)

/-! ### pendulum/pendulumref30.floor -/
noncomputable def pendulumref30_floor.cs (m_ : Mode) : List Callee := []
theorem pendulumref30_floor.csok (m_ : Mode) : ∀ k ∈ pendulumref30_floor.cs m_, k.OK P := all_nil
def pendulumref30_floor.inl : FuncId → Bool := fun f => [].any (Nat.beq f)
noncomputable def pendulumref30_floor.run (m_ : Mode) : Int × Int × Unit → Option (Int) := fun v_ => match v_ with
| (a, b, ()) =>
  bif !(decide (b = (0 : Int))) then
  bif !(decide (b = (0 : Int))) then
  bif decide ((a.tmod b) < (0 : Int)) then
    some (IntKind.i64.wrap ((IntKind.i64.wrap (a.tdiv b)) - (1 : Int)))
  else
    some (IntKind.i64.wrap (a.tdiv b))
  else none
  else none
noncomputable def pendulumref30_floor.c (m_ : Mode) : Callee := ⟨22, [.one (.int .i64), .one (.int .i64)], .one (.sh (.one (.int .i64))), pendulumref30_floor.run m_⟩
theorem pendulumref30_floor.k (m_ : Mode) : ∀ v : Shs (pendulumref30_floor.c m_).args, runS P (oras (pendulumref30_floor.cs m_)) pendulumref30_floor.inl [] [] (pendulumref30_floor.c m_).res.fin 20000 false (start 22 (encs (pendulumref30_floor.c m_).args v)) = pendulumref30_floor.run m_ v := by
  intro v_; exact (match v_ with | (a, b, ()) => by kernel_rfl)
theorem pendulumref30_floor.ok (m_ : Mode) : (pendulumref30_floor.c m_).OK P := Callee.of_run (fun S0 w0 => oras_ok (pendulumref30_floor.csok m_)) (by kernel_rfl) (by rfl) (fun S0 w0 cs0 => all_nil) (fun x r h => (pendulumref30_floor.k m_ x).trans h)

/-! ### pendulum/pendulumref30.distance -/
noncomputable def pendulumref30_distance.cs (m_ : Mode) : List Callee := []
theorem pendulumref30_distance.csok (m_ : Mode) : ∀ k ∈ pendulumref30_distance.cs m_, k.OK P := all_nil
def pendulumref30_distance.inl : FuncId → Bool := fun f => [].any (Nat.beq f)
noncomputable def pendulumref30_distance.run (m_ : Mode) : Int × Int × Unit → Option (Int) := fun v_ => match v_ with
| (a, b, ()) =>
  bif decide (a < b) then
    some (IntKind.i64.wrap (b - a))
  else
    some (IntKind.i64.wrap (a - b))
noncomputable def pendulumref30_distance.c (m_ : Mode) : Callee := ⟨23, [.one (.int .i64), .one (.int .i64)], .one (.sh (.one (.int .i64))), pendulumref30_distance.run m_⟩
theorem pendulumref30_distance.k (m_ : Mode) : ∀ v : Shs (pendulumref30_distance.c m_).args, runS P (oras (pendulumref30_distance.cs m_)) pendulumref30_distance.inl [] [] (pendulumref30_distance.c m_).res.fin 20000 false (start 23 (encs (pendulumref30_distance.c m_).args v)) = pendulumref30_distance.run m_ v := by
  intro v_; exact (match v_ with | (a, b, ()) => by kernel_rfl)
theorem pendulumref30_distance.ok (m_ : Mode) : (pendulumref30_distance.c m_).OK P := Callee.of_run (fun S0 w0 => oras_ok (pendulumref30_distance.csok m_)) (by kernel_rfl) (by rfl) (fun S0 w0 cs0 => all_nil) (fun x r h => (pendulumref30_distance.k m_ x).trans h)

/-! ### pendulum/pendulumref30.Combine -/
noncomputable def pendulumref30_Combine.cs (m_ : Mode) : List Callee := [pendulumref30_Weight.c m_, pendulumref30_floor.c m_, pendulumref30_distance.c m_]
theorem pendulumref30_Combine.csok (m_ : Mode) : ∀ k ∈ pendulumref30_Combine.cs m_, k.OK P := all_cons (pendulumref30_Weight.ok m_) (all_cons (pendulumref30_floor.ok m_) (all_cons (pendulumref30_distance.ok m_) (all_nil)))
def pendulumref30_Combine.inl : FuncId → Bool := fun f => [].any (Nat.beq f)
def pendulumref30_Combine.e0 : Spec := ⟨[{ fn := 12, items := [.code [.r, .r, .r, .r, .r, .l, .r, .l, .l], .inLoop [.r, .r, .r, .r, .r, .l, .r, .l, .l], .inBlock 0, .code [.r, .r, .r, .r, .r, .r]], slots := [(0, .dat (.lst (.pair (.int .i64) (.pair (.int .i64) (.int .i64))))), (2, .ptr 0 0), (4, .dat (.int .i64)), (5, .dat (.int .i64)), (6, .dat (.int .i64)), (7, .dat (.int .i64))] }], [(0, .cells false [.dat (.int .i64), .dat (.int .i64), .dat (.int .i64)])], 1⟩
def pendulumref30_Combine.x0 : List Spec := [⟨[{ fn := 12, items := [.code [.r, .r, .r, .r, .r, .r]], slots := [(0, .dat (.lst (.pair (.int .i64) (.pair (.int .i64) (.int .i64))))), (2, .ptr 0 0), (4, .dat (.int .i64)), (5, .dat (.int .i64)), (6, .dat (.int .i64))] }], [(0, .cells false [.dat (.int .i64), .dat (.int .i64), .dat (.int .i64)])], 1⟩]
noncomputable def pendulumref30_Combine.b0 (m_ : Mode) (self : (List (Int × (Int × Int))) × Int × Int × Int × Int × Int × Int × Int × Unit → Option (((List (Int × (Int × Int))) × Int × Int × Int × Int × Int × Int × Unit))) : (List (Int × (Int × Int))) × Int × Int × Int × Int × Int × Int × Int × Unit → Option (((List (Int × (Int × Int))) × Int × Int × Int × Int × Int × Int × Unit)) := fun v_ => match v_ with
| (l, sum, all, root, i, m, m1, m2, ()) =>
  bif smallI (l.length : Int) then
  bif decide (i < (l.length : Int)) then
    bif inB i (l.length : Int) then
    bif inB i (l.length : Int) then
    (pendulumref30_Weight.run m_ (((rd ((0 : Int), ((0 : Int), (0 : Int))) l i).1, (((rd ((0 : Int), ((0 : Int), (0 : Int))) l i).2).1, ((rd ((0 : Int), ((0 : Int), (0 : Int))) l i).2).2)), ())).bind fun r =>
    bif inB i (l.length : Int) then
    (pendulumref30_Weight.run m_ (((rd ((0 : Int), ((0 : Int), (0 : Int))) l i).1, (((rd ((0 : Int), ((0 : Int), (0 : Int))) l i).2).1, ((rd ((0 : Int), ((0 : Int), (0 : Int))) l i).2).2)), ())).bind fun r1 =>
    bif inB i (l.length : Int) then self (l, (IntKind.i64.wrap (sum + (IntKind.i64.wrap (((rd ((0 : Int), ((0 : Int), (0 : Int))) l i).1) * r)))), (IntKind.i64.wrap (all + r1)), (mn root (((rd ((0 : Int), ((0 : Int), (0 : Int))) l i).2).1)), (IntKind.i64.wrap (i + (1 : Int))), m, m1, m2, ()) else none
    else none
    else none
    else none
  else
    some (l, sum, all, root, m, m1, m2, ())
  else none
theorem pendulumref30_Combine.k0 (m_ : Mode) : ∀ (self : Known pendulumref30_Combine.e0.sls → Option (Exits pendulumref30_Combine.x0)) (v : Known pendulumref30_Combine.e0.sls), runS P (oras (pendulumref30_Combine.cs m_)) pendulumref30_Combine.inl (⟨pendulumref30_Combine.e0, self⟩ :: exitCuts pendulumref30_Combine.x0 id) [] (fun _ _ => none) 20000 false (pendulumref30_Combine.e0.mk' v) = pendulumref30_Combine.b0 m_ self v := by
  intro self v_; exact (match v_ with | (l, sum, all, root, i, m, m1, m2, ()) => by kernel_rfl)
noncomputable def pendulumref30_Combine.l0 (m_ : Mode) : (List (Int × (Int × Int))) × Int × Int × Int × Int × Int × Int × Int × Unit → Option (((List (Int × (Int × Int))) × Int × Int × Int × Int × Int × Int × Unit)) := loop m_ (pendulumref30_Combine.b0 m_)
theorem pendulumref30_Combine.q0 (v) : pendulumref30_Combine.l0 .lim v = pendulumref30_Combine.b0 .lim (pendulumref30_Combine.l0 .lim) v := lfp_eq (cont_of_run (pendulumref30_Combine.k0 .lim)) v
noncomputable def pendulumref30_Combine.g0 (m_ : Mode) : Seg := ⟨pendulumref30_Combine.e0, pendulumref30_Combine.x0, pendulumref30_Combine.l0 m_⟩
theorem pendulumref30_Combine.s0 (m_ : Mode) (S0 w0 cs0) : SegGood P S0 w0 cs0 12 (pendulumref30_Combine.g0 m_) := seg_loop m_ (oras_ok (pendulumref30_Combine.csok m_)) (all_nil) (by rfl) (fun e he => List.all_eq_true.1 (show pendulumref30_Combine.x0.all Spec.ok = true by rfl) e he) (pendulumref30_Combine.k0 m_)
def pendulumref30_Combine.e1 : Spec := ⟨[{ fn := 12, items := [.code [.r, .r, .r, .r, .r, .r, .r, .l, .r, .l, .l], .inLoop [.r, .r, .r, .r, .r, .r, .r, .l, .r, .l, .l], .inBlock 2, .code [.r, .r, .r, .r, .r, .r, .r, .r]], slots := [(0, .dat (.lst (.pair (.int .i64) (.pair (.int .i64) (.int .i64))))), (2, .ptr 0 0), (6, .dat (.int .i64)), (8, .ptr 5 0), (9, .dat (.int .i64))] }], [(0, .cells false [.dat (.int .i64), .dat (.int .i64), .dat (.int .i64)]), (5, .cells false [.dat (.int .i64), .dat (.int .i64), .dat (.int .i64)])], 6⟩
def pendulumref30_Combine.x1 : List Spec := [⟨[{ fn := 12, items := [.code [.r, .r, .r, .r, .r, .r, .r, .r]], slots := [(2, .ptr 0 0), (6, .dat (.int .i64)), (8, .ptr 5 0)] }], [(0, .cells false [.dat (.int .i64), .dat (.int .i64), .dat (.int .i64)]), (5, .cells false [.dat (.int .i64), .dat (.int .i64), .dat (.int .i64)])], 6⟩]
noncomputable def pendulumref30_Combine.b1 (m_ : Mode) (self : (List (Int × (Int × Int))) × Int × Int × Int × Int × Int × Int × Int × Int × Unit → Option ((Int × Int × Int × Int × Int × Int × Int × Unit))) : (List (Int × (Int × Int))) × Int × Int × Int × Int × Int × Int × Int × Int × Unit → Option ((Int × Int × Int × Int × Int × Int × Int × Unit)) := fun v_ => match v_ with
| (l, root, i, m, m1, m2, m3, m4, m5, ()) =>
  bif smallI (l.length : Int) then
  bif decide (i < (l.length : Int)) then
    bif inB i (l.length : Int) then
    (pendulumref30_distance.run m_ ((rd ((0 : Int), ((0 : Int), (0 : Int))) l i).1, m3, ())).bind fun r =>
    self (l, root, (IntKind.i64.wrap (i + (1 : Int))), m, m1, m2, m3, m4, (mx m5 (mn r (140737488355328 : Int))), ())
    else none
  else
    some (root, m, m1, m2, m3, m4, m5, ())
  else none
theorem pendulumref30_Combine.k1 (m_ : Mode) : ∀ (self : Known pendulumref30_Combine.e1.sls → Option (Exits pendulumref30_Combine.x1)) (v : Known pendulumref30_Combine.e1.sls), runS P (oras (pendulumref30_Combine.cs m_)) pendulumref30_Combine.inl (⟨pendulumref30_Combine.e1, self⟩ :: exitCuts pendulumref30_Combine.x1 id) [] (fun _ _ => none) 20000 false (pendulumref30_Combine.e1.mk' v) = pendulumref30_Combine.b1 m_ self v := by
  intro self v_; exact (match v_ with | (l, root, i, m, m1, m2, m3, m4, m5, ()) => by kernel_rfl)
noncomputable def pendulumref30_Combine.l1 (m_ : Mode) : (List (Int × (Int × Int))) × Int × Int × Int × Int × Int × Int × Int × Int × Unit → Option ((Int × Int × Int × Int × Int × Int × Int × Unit)) := loop m_ (pendulumref30_Combine.b1 m_)
theorem pendulumref30_Combine.q1 (v) : pendulumref30_Combine.l1 .lim v = pendulumref30_Combine.b1 .lim (pendulumref30_Combine.l1 .lim) v := lfp_eq (cont_of_run (pendulumref30_Combine.k1 .lim)) v
noncomputable def pendulumref30_Combine.g1 (m_ : Mode) : Seg := ⟨pendulumref30_Combine.e1, pendulumref30_Combine.x1, pendulumref30_Combine.l1 m_⟩
theorem pendulumref30_Combine.s1 (m_ : Mode) (S0 w0 cs0) : SegGood P S0 w0 cs0 12 (pendulumref30_Combine.g1 m_) := seg_loop m_ (oras_ok (pendulumref30_Combine.csok m_)) (all_nil) (by rfl) (fun e he => List.all_eq_true.1 (show pendulumref30_Combine.x1.all Spec.ok = true by rfl) e he) (pendulumref30_Combine.k1 m_)
noncomputable def pendulumref30_Combine.run (m_ : Mode) : (List (Int × (Int × Int))) × Unit → Option ((Int × (Int × Int)) × Int × Unit) := fun v_ => match v_ with
| (l, ()) =>
  bif smallI (l.length : Int) then
  bif decide ((l.length : Int) = (0 : Int)) then
    some (((0 : Int), ((0 : Int), (0 : Int))), (19 : Int), ())
  else
    bif inB (0 : Int) (l.length : Int) then
    (pendulumref30_Combine.l0 m_ (l, (0 : Int), (0 : Int), ((rd ((0 : Int), ((0 : Int), (0 : Int))) l (0 : Int)).2).1, (0 : Int), (0 : Int), (0 : Int), (0 : Int), ())).bind fun (l1, sum, all, root, m, m1, m2, ()) =>
    (pendulumref30_floor.run m_ (sum, all, ())).bind fun r =>
    (pendulumref30_Combine.l1 m_ (l1, root, (0 : Int), m, m1, m2, r, (0 : Int), (0 : Int), ())).bind fun (root1, m3, m4, m5, m6, m7, m8, ()) =>
    some ((m6, ((mn (IntKind.i64.wrap (root1 + m8)) (140737488355328 : Int)), m8)), (0 : Int), ())
    else none
  else none
noncomputable def pendulumref30_Combine.c (m_ : Mode) : Callee := ⟨12, [.one (.lst (.pair (.int .i64) (.pair (.int .i64) (.int .i64))))], .tup [.sh (.ag (.pair (.int .i64) (.pair (.int .i64) (.int .i64)))), .sh (.one (.int .i64))], pendulumref30_Combine.run m_⟩
theorem pendulumref30_Combine.k (m_ : Mode) : ∀ v : Shs (pendulumref30_Combine.c m_).args, runS P (oras (pendulumref30_Combine.cs m_)) pendulumref30_Combine.inl [] [pendulumref30_Combine.g0 m_, pendulumref30_Combine.g1 m_] (pendulumref30_Combine.c m_).res.fin 20000 false (start 12 (encs (pendulumref30_Combine.c m_).args v)) = pendulumref30_Combine.run m_ v := by
  intro v_; exact (match v_ with | (l, ()) => by kernel_rfl)
theorem pendulumref30_Combine.ok (m_ : Mode) : (pendulumref30_Combine.c m_).OK P := Callee.of_run (fun S0 w0 => oras_ok (pendulumref30_Combine.csok m_)) (by kernel_rfl) (by rfl) (fun S0 w0 cs0 => all_cons (pendulumref30_Combine.s0 m_ S0 w0 cs0) (all_cons (pendulumref30_Combine.s1 m_ S0 w0 cs0) (all_nil))) (fun x r h => (pendulumref30_Combine.k m_ x).trans h)

/-! ### pendulum/pendulumref30.Far -/
noncomputable def pendulumref30_Far.cs (m_ : Mode) : List Callee := [pendulumref30_distance.c m_]
theorem pendulumref30_Far.csok (m_ : Mode) : ∀ k ∈ pendulumref30_Far.cs m_, k.OK P := all_cons (pendulumref30_distance.ok m_) (all_nil)
def pendulumref30_Far.inl : FuncId → Bool := fun f => [].any (Nat.beq f)
def pendulumref30_Far.e0 : Spec := ⟨[{ fn := 14, items := [.code [.r, .r, .r, .l, .r, .l, .l], .inLoop [.r, .r, .r, .l, .r, .l, .l], .inBlock 0, .code [.r, .r, .r, .r]], slots := [(0, .dat (.lst (.pair (.int .i64) (.pair (.int .i64) (.int .i64))))), (1, .dat (.int .i64)), (5, .dat (.int .i64)), (6, .dat (.int .i64))] }], [], 0⟩
def pendulumref30_Far.x0 : List Spec := [⟨[{ fn := 14, items := [.code [.r, .r, .r, .r]], slots := [(5, .dat (.int .i64))] }], [], 0⟩]
noncomputable def pendulumref30_Far.b0 (m_ : Mode) (self : (List (Int × (Int × Int))) × Int × Int × Int × Unit → Option ((Int × Unit))) : (List (Int × (Int × Int))) × Int × Int × Int × Unit → Option ((Int × Unit)) := fun v_ => match v_ with
| (l, k, n, i, ()) =>
  bif smallI (l.length : Int) then
  bif decide (i < (l.length : Int)) then
    bif inB i (l.length : Int) then
    bif inB k (l.length : Int) then
    (pendulumref30_distance.run m_ ((rd ((0 : Int), ((0 : Int), (0 : Int))) l i).1, (rd ((0 : Int), ((0 : Int), (0 : Int))) l k).1, ())).bind fun r =>
    self (l, k, (IntKind.i64.wrap (n + r)), (IntKind.i64.wrap (i + (1 : Int))), ())
    else none
    else none
  else
    some (n, ())
  else none
theorem pendulumref30_Far.k0 (m_ : Mode) : ∀ (self : Known pendulumref30_Far.e0.sls → Option (Exits pendulumref30_Far.x0)) (v : Known pendulumref30_Far.e0.sls), runS P (oras (pendulumref30_Far.cs m_)) pendulumref30_Far.inl (⟨pendulumref30_Far.e0, self⟩ :: exitCuts pendulumref30_Far.x0 id) [] (fun _ _ => none) 20000 false (pendulumref30_Far.e0.mk' v) = pendulumref30_Far.b0 m_ self v := by
  intro self v_; exact (match v_ with | (l, k, n, i, ()) => by kernel_rfl)
noncomputable def pendulumref30_Far.l0 (m_ : Mode) : (List (Int × (Int × Int))) × Int × Int × Int × Unit → Option ((Int × Unit)) := loop m_ (pendulumref30_Far.b0 m_)
theorem pendulumref30_Far.q0 (v) : pendulumref30_Far.l0 .lim v = pendulumref30_Far.b0 .lim (pendulumref30_Far.l0 .lim) v := lfp_eq (cont_of_run (pendulumref30_Far.k0 .lim)) v
noncomputable def pendulumref30_Far.g0 (m_ : Mode) : Seg := ⟨pendulumref30_Far.e0, pendulumref30_Far.x0, pendulumref30_Far.l0 m_⟩
theorem pendulumref30_Far.s0 (m_ : Mode) (S0 w0 cs0) : SegGood P S0 w0 cs0 14 (pendulumref30_Far.g0 m_) := seg_loop m_ (oras_ok (pendulumref30_Far.csok m_)) (all_nil) (by rfl) (fun e he => List.all_eq_true.1 (show pendulumref30_Far.x0.all Spec.ok = true by rfl) e he) (pendulumref30_Far.k0 m_)
noncomputable def pendulumref30_Far.run (m_ : Mode) : (List (Int × (Int × Int))) × Int × Unit → Option (Int) := fun v_ => match v_ with
| (l, k, ()) =>
  bif ((!(!(decide (k < (0 : Int))))) || (smallI (l.length : Int))) then
  bif ((decide (k < (0 : Int))) || (decide (k ≥ (l.length : Int)))) then
    some (0 : Int)
  else
    (pendulumref30_Far.l0 m_ (l, k, (0 : Int), (0 : Int), ())).bind fun (n, ()) =>
    some n
  else none
noncomputable def pendulumref30_Far.c (m_ : Mode) : Callee := ⟨14, [.one (.lst (.pair (.int .i64) (.pair (.int .i64) (.int .i64)))), .one (.int .i64)], .one (.sh (.one (.int .i64))), pendulumref30_Far.run m_⟩
theorem pendulumref30_Far.k (m_ : Mode) : ∀ v : Shs (pendulumref30_Far.c m_).args, runS P (oras (pendulumref30_Far.cs m_)) pendulumref30_Far.inl [] [pendulumref30_Far.g0 m_] (pendulumref30_Far.c m_).res.fin 20000 false (start 14 (encs (pendulumref30_Far.c m_).args v)) = pendulumref30_Far.run m_ v := by
  intro v_; exact (match v_ with | (l, k, ()) => by kernel_rfl)
theorem pendulumref30_Far.ok (m_ : Mode) : (pendulumref30_Far.c m_).OK P := Callee.of_run (fun S0 w0 => oras_ok (pendulumref30_Far.csok m_)) (by kernel_rfl) (by rfl) (fun S0 w0 cs0 => all_cons (pendulumref30_Far.s0 m_ S0 w0 cs0) (all_nil)) (fun x r h => (pendulumref30_Far.k m_ x).trans h)

/-! ### pendulum/pendulumlaw30.CombTells -/
noncomputable def pendulumlaw30_CombTells.cs (m_ : Mode) : List Callee := [pendulumref29_Fit.c m_, pendulumlaw30_awake.t, comb_Weight.c m_, pendulumref30_Weight.c m_, comb_Combine.c m_, pendulumref30_Combine.c m_, comb_Far.c m_, pendulumref30_Far.c m_]
theorem pendulumlaw30_CombTells.csok (m_ : Mode) : ∀ k ∈ pendulumlaw30_CombTells.cs m_, k.OK P := all_cons (pendulumref29_Fit.ok m_) (all_cons pendulumlaw30_awake.okt (all_cons (comb_Weight.ok m_) (all_cons (pendulumref30_Weight.ok m_) (all_cons (comb_Combine.ok m_) (all_cons (pendulumref30_Combine.ok m_) (all_cons (comb_Far.ok m_) (all_cons (pendulumref30_Far.ok m_) (all_nil))))))))
def pendulumlaw30_CombTells.inl : FuncId → Bool := fun f => [].any (Nat.beq f)
def pendulumlaw30_CombTells.e0 : Spec := ⟨[{ fn := 3, items := [.code [.r, .r, .l, .r, .l, .l], .inLoop [.r, .r, .l, .r, .l, .l], .inBlock 0, .code [.r, .r, .r]], slots := [(0, .dat (.lst (.pair (.int .i64) (.pair (.int .i64) (.int .i64))))), (1, .dat (.int .i64)), (15, .dat (.lst (.pair (.int .i64) (.pair (.int .i64) (.int .i64))))), (16, .dat (.int .i64)), (17, .dat (.int .i64))] }], [], 0⟩
def pendulumlaw30_CombTells.x0 : List Spec := [⟨[{ fn := 3, items := [.code [.r, .r, .l, .r, .l, .l, .r, .r, .l, .l, .r, .r, .l, .r], .inBlock 1, .code [.r, .r, .l, .r, .l, .l, .r, .r, .r], .inLoop [.r, .r, .l, .r, .l, .l], .inBlock 0, .code [.r, .r, .r]], slots := [(4, .dat .bool)] }], [], 0⟩, ⟨[{ fn := 3, items := [.code [.r, .r, .r]], slots := [(0, .dat (.lst (.pair (.int .i64) (.pair (.int .i64) (.int .i64))))), (1, .dat (.int .i64))] }], [], 0⟩]
noncomputable def pendulumlaw30_CombTells.b0 (m_ : Mode) (self : (List (Int × (Int × Int))) × Int × (List (Int × (Int × Int))) × Int × Int × Unit → Option ((Bool × Unit) ⊕ ((List (Int × (Int × Int))) × Int × Unit))) : (List (Int × (Int × Int))) × Int × (List (Int × (Int × Int))) × Int × Int × Unit → Option ((Bool × Unit) ⊕ ((List (Int × (Int × Int))) × Int × Unit)) := fun v_ => match v_ with
| (l, k, t, t1, t2, ()) =>
  bif decide (t2 < t1) then
    bif inB t2 (t.length : Int) then
    (comb_Weight.run m_ (((rd ((0 : Int), ((0 : Int), (0 : Int))) t t2).1, (((rd ((0 : Int), ((0 : Int), (0 : Int))) t t2).2).1, ((rd ((0 : Int), ((0 : Int), (0 : Int))) t t2).2).2)), ())).bind fun r =>
    (pendulumref30_Weight.run m_ (((rd ((0 : Int), ((0 : Int), (0 : Int))) t t2).1, (((rd ((0 : Int), ((0 : Int), (0 : Int))) t t2).2).1, ((rd ((0 : Int), ((0 : Int), (0 : Int))) t t2).2).2)), ())).bind fun r1 =>
    bif !(decide (r = r1)) then
      some (.inl (false, ()))
    else
      self (l, k, t, t1, (IntKind.i64.wrap (t2 + (1 : Int))), ())
    else none
  else
    some (.inr (l, k, ()))
theorem pendulumlaw30_CombTells.k0 (m_ : Mode) : ∀ (self : Known pendulumlaw30_CombTells.e0.sls → Option (Exits pendulumlaw30_CombTells.x0)) (v : Known pendulumlaw30_CombTells.e0.sls), runS P (oras (pendulumlaw30_CombTells.cs m_)) pendulumlaw30_CombTells.inl (⟨pendulumlaw30_CombTells.e0, self⟩ :: exitCuts pendulumlaw30_CombTells.x0 id) [] (fun _ _ => none) 20000 false (pendulumlaw30_CombTells.e0.mk' v) = pendulumlaw30_CombTells.b0 m_ self v := by
  intro self v_; exact (match v_ with | (l, k, t, t1, t2, ()) => by kernel_rfl)
noncomputable def pendulumlaw30_CombTells.l0 (m_ : Mode) : (List (Int × (Int × Int))) × Int × (List (Int × (Int × Int))) × Int × Int × Unit → Option ((Bool × Unit) ⊕ ((List (Int × (Int × Int))) × Int × Unit)) := loop m_ (pendulumlaw30_CombTells.b0 m_)
theorem pendulumlaw30_CombTells.q0 (v) : pendulumlaw30_CombTells.l0 .lim v = pendulumlaw30_CombTells.b0 .lim (pendulumlaw30_CombTells.l0 .lim) v := lfp_eq (cont_of_run (pendulumlaw30_CombTells.k0 .lim)) v
noncomputable def pendulumlaw30_CombTells.g0 (m_ : Mode) : Seg := ⟨pendulumlaw30_CombTells.e0, pendulumlaw30_CombTells.x0, pendulumlaw30_CombTells.l0 m_⟩
theorem pendulumlaw30_CombTells.s0 (m_ : Mode) (S0 w0 cs0) : SegGood P S0 w0 cs0 3 (pendulumlaw30_CombTells.g0 m_) := seg_loop m_ (oras_ok (pendulumlaw30_CombTells.csok m_)) (all_nil) (by rfl) (fun e he => List.all_eq_true.1 (show pendulumlaw30_CombTells.x0.all Spec.ok = true by rfl) e he) (pendulumlaw30_CombTells.k0 m_)
noncomputable def pendulumlaw30_CombTells.run (m_ : Mode) : (List (Int × (Int × Int))) × Int × Unit → Option (Bool) := fun v_ => match v_ with
| (l, k, ()) =>
  (pendulumref29_Fit.run m_ (l, ())).bind fun r =>
  bif !r then
    (some true).bind fun r1 =>
    some r1
  else
    bif smallI (l.length : Int) then
    (pendulumlaw30_CombTells.l0 m_ (l, k, l, (l.length : Int), (0 : Int), ())).bind fun g_ => match g_ with
    | .inl (t, ()) =>
      some t
    | .inr (l1, k1, ()) =>
      (comb_Combine.run m_ (l1, ())).bind fun (r2, r3, ()) =>
      (pendulumref30_Combine.run m_ (l1, ())).bind fun (r4, r5, ()) =>
      (comb_Far.run m_ (l1, k1, ())).bind fun r6 =>
      (pendulumref30_Far.run m_ (l1, k1, ())).bind fun r7 =>
      ((bif (((decide (r6 = r7)) && ((decide (r2.1 = r4.1)) && ((decide (r2.2.1 = r4.2.1)) && (decide (r2.2.2 = r4.2.2))))) && (decide (r3 = r5))) then some true else some false)).bind fun r8 =>
      some ((((decide (r6 = r7)) && ((decide (r2.1 = r4.1)) && ((decide (r2.2.1 = r4.2.1)) && (decide (r2.2.2 = r4.2.2))))) && (decide (r3 = r5))) && r8)
    else none
noncomputable def pendulumlaw30_CombTells.c (m_ : Mode) : Callee := ⟨3, [.one (.lst (.pair (.int .i64) (.pair (.int .i64) (.int .i64)))), .one (.int .i64)], .one (.sh (.one .bool)), pendulumlaw30_CombTells.run m_⟩
theorem pendulumlaw30_CombTells.k (m_ : Mode) : ∀ v : Shs (pendulumlaw30_CombTells.c m_).args, runS P (oras (pendulumlaw30_CombTells.cs m_)) pendulumlaw30_CombTells.inl [] [pendulumlaw30_CombTells.g0 m_] (pendulumlaw30_CombTells.c m_).res.fin 20000 false (start 3 (encs (pendulumlaw30_CombTells.c m_).args v)) = pendulumlaw30_CombTells.run m_ v := by
  intro v_; exact (match v_ with | (l, k, ()) => by kernel_rfl)
theorem pendulumlaw30_CombTells.ok (m_ : Mode) : (pendulumlaw30_CombTells.c m_).OK P := Callee.of_run (fun S0 w0 => oras_ok (pendulumlaw30_CombTells.csok m_)) (by kernel_rfl) (by rfl) (fun S0 w0 cs0 => all_cons (pendulumlaw30_CombTells.s0 m_ S0 w0 cs0) (all_nil)) (fun x r h => (pendulumlaw30_CombTells.k m_ x).trans h)

/-! ### pendulum/pendulumref30.Survivors -/
noncomputable def pendulumref30_Survivors.cs (m_ : Mode) : List Callee := [pendulumref30_Far.c m_]
theorem pendulumref30_Survivors.csok (m_ : Mode) : ∀ k ∈ pendulumref30_Survivors.cs m_, k.OK P := all_cons (pendulumref30_Far.ok m_) (all_nil)
def pendulumref30_Survivors.inl : FuncId → Bool := fun f => [].any (Nat.beq f)
def pendulumref30_Survivors.e0 : Spec := ⟨[{ fn := 17, items := [.code [.r, .r, .l, .r, .l, .l], .inLoop [.r, .r, .l, .r, .l, .l], .inBlock 0, .code [.r, .r, .r]], slots := [(0, .dat (.lst (.pair (.int .i64) (.pair (.int .i64) (.int .i64))))), (3, .own 5001 (.int .i64)), (4, .dat (.int .i64))] }], [(5001, .cells false [.row (.int .i64)])], 5002⟩
def pendulumref30_Survivors.x0 : List Spec := [⟨[{ fn := 17, items := [.code [.r, .r, .r]], slots := [(0, .dat (.lst (.pair (.int .i64) (.pair (.int .i64) (.int .i64))))), (3, .own 5001 (.int .i64))] }], [(5001, .cells false [.row (.int .i64)])], 5002⟩]
noncomputable def pendulumref30_Survivors.b0 (m_ : Mode) (self : (List (Int × (Int × Int))) × Int × (List Int) × Unit → Option (((List (Int × (Int × Int))) × (List Int) × Unit))) : (List (Int × (Int × Int))) × Int × (List Int) × Unit → Option (((List (Int × (Int × Int))) × (List Int) × Unit)) := fun v_ => match v_ with
| (l, i, m, ()) =>
  bif smallI (l.length : Int) then
  bif decide (i < (l.length : Int)) then
    bif decide (m.length + ([i] : List Int).length < 8796093022208) then self (l, (IntKind.i64.wrap (i + (1 : Int))), (m ++ ([i] : List Int)), ()) else none
  else
    some (l, m, ())
  else none
theorem pendulumref30_Survivors.k0 (m_ : Mode) : ∀ (self : Known pendulumref30_Survivors.e0.sls → Option (Exits pendulumref30_Survivors.x0)) (v : Known pendulumref30_Survivors.e0.sls), runS P (oras (pendulumref30_Survivors.cs m_)) pendulumref30_Survivors.inl (⟨pendulumref30_Survivors.e0, self⟩ :: exitCuts pendulumref30_Survivors.x0 id) [] (fun _ _ => none) 20000 false (pendulumref30_Survivors.e0.mk' v) = pendulumref30_Survivors.b0 m_ self v := by
  intro self v_; exact (match v_ with | (l, i, m, ()) => by kernel_rfl)
noncomputable def pendulumref30_Survivors.l0 (m_ : Mode) : (List (Int × (Int × Int))) × Int × (List Int) × Unit → Option (((List (Int × (Int × Int))) × (List Int) × Unit)) := loop m_ (pendulumref30_Survivors.b0 m_)
theorem pendulumref30_Survivors.q0 (v) : pendulumref30_Survivors.l0 .lim v = pendulumref30_Survivors.b0 .lim (pendulumref30_Survivors.l0 .lim) v := lfp_eq (cont_of_run (pendulumref30_Survivors.k0 .lim)) v
noncomputable def pendulumref30_Survivors.g0 (m_ : Mode) : Seg := ⟨pendulumref30_Survivors.e0, pendulumref30_Survivors.x0, pendulumref30_Survivors.l0 m_⟩
theorem pendulumref30_Survivors.s0 (m_ : Mode) (S0 w0 cs0) : SegGood P S0 w0 cs0 17 (pendulumref30_Survivors.g0 m_) := seg_loop m_ (oras_ok (pendulumref30_Survivors.csok m_)) (all_nil) (by rfl) (fun e he => List.all_eq_true.1 (show pendulumref30_Survivors.x0.all Spec.ok = true by rfl) e he) (pendulumref30_Survivors.k0 m_)
def pendulumref30_Survivors.e1 : Spec := ⟨[{ fn := 17, items := [.code [.r, .r, .r, .l, .l, .l, .r, .l, .r, .r, .l, .r, .l, .l], .inLoop [.r, .r, .r, .l, .l, .l, .r, .l, .r, .r, .l, .r, .l, .l], .inBlock 4, .code [.r, .r, .r, .l, .l, .l, .r, .l, .r, .r, .r], .inBlock 3, .inLoop [.r, .r, .r, .l, .l, .l], .inBlock 2, .code [.r, .r, .r, .r]], slots := [(0, .dat (.lst (.pair (.int .i64) (.pair (.int .i64) (.int .i64))))), (3, .dat (.lst (.int .i64))), (5, .own 5002 (.pair (.int .i64) (.pair (.int .i64) (.int .i64)))), (6, .dat (.int .i64)), (7, .dat (.int .i64))] }], [(5002, .cells false [.row (.pair (.int .i64) (.pair (.int .i64) (.int .i64)))])], 5003⟩
def pendulumref30_Survivors.x1 : List Spec := [⟨[{ fn := 17, items := [.code [.r, .r, .r, .l, .l, .l, .r, .l, .r, .r, .r], .inBlock 3, .inLoop [.r, .r, .r, .l, .l, .l], .inBlock 2, .code [.r, .r, .r, .r]], slots := [(0, .dat (.lst (.pair (.int .i64) (.pair (.int .i64) (.int .i64))))), (3, .dat (.lst (.int .i64))), (5, .own 5002 (.pair (.int .i64) (.pair (.int .i64) (.int .i64)))), (6, .dat (.int .i64))] }], [(5002, .cells false [.row (.pair (.int .i64) (.pair (.int .i64) (.int .i64)))])], 5003⟩]
noncomputable def pendulumref30_Survivors.b1 (m_ : Mode) (self : (List (Int × (Int × Int))) × (List Int) × Int × Int × (List (Int × (Int × Int))) × Unit → Option (((List (Int × (Int × Int))) × (List Int) × Int × (List (Int × (Int × Int))) × Unit))) : (List (Int × (Int × Int))) × (List Int) × Int × Int × (List (Int × (Int × Int))) × Unit → Option (((List (Int × (Int × Int))) × (List Int) × Int × (List (Int × (Int × Int))) × Unit)) := fun v_ => match v_ with
| (l, left, least, i, m, ()) =>
  bif smallI (left.length : Int) then
  bif decide (i < (left.length : Int)) then
    bif inB i (left.length : Int) then
    bif inB (rd (0 : Int) left i) (l.length : Int) then
    bif decide (m.length + ([((rd ((0 : Int), ((0 : Int), (0 : Int))) l (rd (0 : Int) left i)).1, (((rd ((0 : Int), ((0 : Int), (0 : Int))) l (rd (0 : Int) left i)).2).1, ((rd ((0 : Int), ((0 : Int), (0 : Int))) l (rd (0 : Int) left i)).2).2))] : List (Int × (Int × Int))).length < 2932031007402) then
    bif inB i (left.length : Int) then
    bif inB (rd (0 : Int) left i) (l.length : Int) then self (l, left, (mn least (((rd ((0 : Int), ((0 : Int), (0 : Int))) l (rd (0 : Int) left i)).2).2)), (IntKind.i64.wrap (i + (1 : Int))), (m ++ ([((rd ((0 : Int), ((0 : Int), (0 : Int))) l (rd (0 : Int) left i)).1, (((rd ((0 : Int), ((0 : Int), (0 : Int))) l (rd (0 : Int) left i)).2).1, ((rd ((0 : Int), ((0 : Int), (0 : Int))) l (rd (0 : Int) left i)).2).2))] : List (Int × (Int × Int)))), ()) else none
    else none
    else none
    else none
    else none
  else
    some (l, left, least, m, ())
  else none
theorem pendulumref30_Survivors.k1 (m_ : Mode) : ∀ (self : Known pendulumref30_Survivors.e1.sls → Option (Exits pendulumref30_Survivors.x1)) (v : Known pendulumref30_Survivors.e1.sls), runS P (oras (pendulumref30_Survivors.cs m_)) pendulumref30_Survivors.inl (⟨pendulumref30_Survivors.e1, self⟩ :: exitCuts pendulumref30_Survivors.x1 id) [] (fun _ _ => none) 20000 false (pendulumref30_Survivors.e1.mk' v) = pendulumref30_Survivors.b1 m_ self v := by
  intro self v_; exact (match v_ with | (l, left, least, i, m, ()) => by kernel_rfl)
noncomputable def pendulumref30_Survivors.l1 (m_ : Mode) : (List (Int × (Int × Int))) × (List Int) × Int × Int × (List (Int × (Int × Int))) × Unit → Option (((List (Int × (Int × Int))) × (List Int) × Int × (List (Int × (Int × Int))) × Unit)) := loop m_ (pendulumref30_Survivors.b1 m_)
theorem pendulumref30_Survivors.q1 (v) : pendulumref30_Survivors.l1 .lim v = pendulumref30_Survivors.b1 .lim (pendulumref30_Survivors.l1 .lim) v := lfp_eq (cont_of_run (pendulumref30_Survivors.k1 .lim)) v
noncomputable def pendulumref30_Survivors.g1 (m_ : Mode) : Seg := ⟨pendulumref30_Survivors.e1, pendulumref30_Survivors.x1, pendulumref30_Survivors.l1 m_⟩
theorem pendulumref30_Survivors.s1 (m_ : Mode) (S0 w0 cs0) : SegGood P S0 w0 cs0 17 (pendulumref30_Survivors.g1 m_) := seg_loop m_ (oras_ok (pendulumref30_Survivors.csok m_)) (all_nil) (by rfl) (fun e he => List.all_eq_true.1 (show pendulumref30_Survivors.x1.all Spec.ok = true by rfl) e he) (pendulumref30_Survivors.k1 m_)
def pendulumref30_Survivors.e2 : Spec := ⟨[{ fn := 17, items := [.code [.r, .r, .r, .l, .l, .l, .r, .l, .r, .r, .r, .r, .l, .r, .l, .l], .inLoop [.r, .r, .r, .l, .l, .l, .r, .l, .r, .r, .r, .r, .l, .r, .l, .l], .inBlock 6, .code [.r, .r, .r, .l, .l, .l, .r, .l, .r, .r, .r, .r, .r], .inBlock 3, .inLoop [.r, .r, .r, .l, .l, .l], .inBlock 2, .code [.r, .r, .r, .r]], slots := [(0, .dat (.lst (.pair (.int .i64) (.pair (.int .i64) (.int .i64))))), (3, .dat (.lst (.int .i64))), (5, .own 5002 (.pair (.int .i64) (.pair (.int .i64) (.int .i64)))), (6, .dat (.int .i64)), (8, .dat (.int .i64)), (9, .dat (.int .i64))] }], [(5002, .cells false [.row (.pair (.int .i64) (.pair (.int .i64) (.int .i64)))])], 5003⟩
def pendulumref30_Survivors.x2 : List Spec := [⟨[{ fn := 17, items := [.code [.r, .r, .r, .l, .l, .l, .r, .l, .r, .r, .r, .r, .r], .inBlock 3, .inLoop [.r, .r, .r, .l, .l, .l], .inBlock 2, .code [.r, .r, .r, .r]], slots := [(0, .dat (.lst (.pair (.int .i64) (.pair (.int .i64) (.int .i64))))), (3, .dat (.lst (.int .i64))), (5, .own 5002 (.pair (.int .i64) (.pair (.int .i64) (.int .i64)))), (6, .dat (.int .i64)), (8, .dat (.int .i64))] }], [(5002, .cells false [.row (.pair (.int .i64) (.pair (.int .i64) (.int .i64)))])], 5003⟩]
noncomputable def pendulumref30_Survivors.b2 (m_ : Mode) (self : (List (Int × (Int × Int))) × (List Int) × Int × Int × Int × (List (Int × (Int × Int))) × Unit → Option (((List (Int × (Int × Int))) × (List Int) × Int × Int × (List (Int × (Int × Int))) × Unit))) : (List (Int × (Int × Int))) × (List Int) × Int × Int × Int × (List (Int × (Int × Int))) × Unit → Option (((List (Int × (Int × Int))) × (List Int) × Int × Int × (List (Int × (Int × Int))) × Unit)) := fun v_ => match v_ with
| (l, left, least, worst, i, m, ()) =>
  bif smallI (m.length : Int) then
  bif decide (i < (m.length : Int)) then
    (pendulumref30_Far.run m_ (m, i, ())).bind fun r =>
    (pendulumref30_Far.run m_ (m, worst, ())).bind fun r1 =>
    bif decide (r ≥ r1) then
      self (l, left, least, i, (IntKind.i64.wrap (i + (1 : Int))), m, ())
    else
      self (l, left, least, worst, (IntKind.i64.wrap (i + (1 : Int))), m, ())
  else
    some (l, left, least, worst, m, ())
  else none
theorem pendulumref30_Survivors.k2 (m_ : Mode) : ∀ (self : Known pendulumref30_Survivors.e2.sls → Option (Exits pendulumref30_Survivors.x2)) (v : Known pendulumref30_Survivors.e2.sls), runS P (oras (pendulumref30_Survivors.cs m_)) pendulumref30_Survivors.inl (⟨pendulumref30_Survivors.e2, self⟩ :: exitCuts pendulumref30_Survivors.x2 id) [] (fun _ _ => none) 20000 false (pendulumref30_Survivors.e2.mk' v) = pendulumref30_Survivors.b2 m_ self v := by
  intro self v_; exact (match v_ with | (l, left, least, worst, i, m, ()) => by kernel_rfl)
noncomputable def pendulumref30_Survivors.l2 (m_ : Mode) : (List (Int × (Int × Int))) × (List Int) × Int × Int × Int × (List (Int × (Int × Int))) × Unit → Option (((List (Int × (Int × Int))) × (List Int) × Int × Int × (List (Int × (Int × Int))) × Unit)) := loop m_ (pendulumref30_Survivors.b2 m_)
theorem pendulumref30_Survivors.q2 (v) : pendulumref30_Survivors.l2 .lim v = pendulumref30_Survivors.b2 .lim (pendulumref30_Survivors.l2 .lim) v := lfp_eq (cont_of_run (pendulumref30_Survivors.k2 .lim)) v
noncomputable def pendulumref30_Survivors.g2 (m_ : Mode) : Seg := ⟨pendulumref30_Survivors.e2, pendulumref30_Survivors.x2, pendulumref30_Survivors.l2 m_⟩
theorem pendulumref30_Survivors.s2 (m_ : Mode) (S0 w0 cs0) : SegGood P S0 w0 cs0 17 (pendulumref30_Survivors.g2 m_) := seg_loop m_ (oras_ok (pendulumref30_Survivors.csok m_)) (all_nil) (by rfl) (fun e he => List.all_eq_true.1 (show pendulumref30_Survivors.x2.all Spec.ok = true by rfl) e he) (pendulumref30_Survivors.k2 m_)
def pendulumref30_Survivors.e3 : Spec := ⟨[{ fn := 17, items := [.code [.r, .r, .r, .l, .l, .l], .inLoop [.r, .r, .r, .l, .l, .l], .inBlock 2, .code [.r, .r, .r, .r]], slots := [(0, .dat (.lst (.pair (.int .i64) (.pair (.int .i64) (.int .i64))))), (3, .dat (.lst (.int .i64)))] }], [], 0⟩
def pendulumref30_Survivors.x3 : List Spec := [⟨[{ fn := 17, items := [.code [.r, .r, .r, .r]], slots := [(3, .dat (.lst (.int .i64)))] }], [], 0⟩]
noncomputable def pendulumref30_Survivors.b3 (m_ : Mode) (self : (List (Int × (Int × Int))) × (List Int) × Unit → Option (((List Int) × Unit))) : (List (Int × (Int × Int))) × (List Int) × Unit → Option (((List Int) × Unit)) := fun v_ => match v_ with
| (l, left, ()) =>
  bif smallI (left.length : Int) then
  bif decide ((left.length : Int) > (3 : Int)) then
    bif inB (0 : Int) (left.length : Int) then
    bif inB (rd (0 : Int) left (0 : Int)) (l.length : Int) then
    (pendulumref30_Survivors.l1 m_ (l, left, ((rd ((0 : Int), ((0 : Int), (0 : Int))) l (rd (0 : Int) left (0 : Int))).2).2, (0 : Int), ([] : List (Int × (Int × Int))), ())).bind fun (l1, left1, least, m, ()) =>
    (pendulumref30_Survivors.l2 m_ (l1, left1, least, (0 : Int), (0 : Int), m, ())).bind fun (l2, left2, least1, worst, m1, ()) =>
    (pendulumref30_Far.run m_ (m1, worst, ())).bind fun r =>
    bif smallI (m1.length : Int) then
    bif decide (r ≤ (IntKind.i64.wrap (least1 * (IntKind.i64.wrap ((m1.length : Int) - (1 : Int)))))) then
      some (left2, ())
    else
      bif cutB (0 : Int) worst (left2.length : Int) then
      bif decide ((cut left2 (0 : Int) worst).length < 8796093022208) then
      bif cutB (IntKind.i64.wrap (worst + (1 : Int))) (left2.length : Int) (left2.length : Int) then
      bif decide ((cut left2 (0 : Int) worst).length + (cut left2 (IntKind.i64.wrap (worst + (1 : Int))) (left2.length : Int)).length < 8796093022208) then self (l2, ((cut left2 (0 : Int) worst) ++ (cut left2 (IntKind.i64.wrap (worst + (1 : Int))) (left2.length : Int))), ()) else none
      else none
      else none
      else none
    else none
    else none
    else none
  else
    some (left, ())
  else none
theorem pendulumref30_Survivors.k3 (m_ : Mode) : ∀ (self : Known pendulumref30_Survivors.e3.sls → Option (Exits pendulumref30_Survivors.x3)) (v : Known pendulumref30_Survivors.e3.sls), runS P (oras (pendulumref30_Survivors.cs m_)) pendulumref30_Survivors.inl (⟨pendulumref30_Survivors.e3, self⟩ :: exitCuts pendulumref30_Survivors.x3 id) [pendulumref30_Survivors.g1 m_, pendulumref30_Survivors.g2 m_] (fun _ _ => none) 20000 false (pendulumref30_Survivors.e3.mk' v) = pendulumref30_Survivors.b3 m_ self v := by
  intro self v_; exact (match v_ with | (l, left, ()) => by kernel_rfl)
noncomputable def pendulumref30_Survivors.l3 (m_ : Mode) : (List (Int × (Int × Int))) × (List Int) × Unit → Option (((List Int) × Unit)) := loop m_ (pendulumref30_Survivors.b3 m_)
theorem pendulumref30_Survivors.q3 (v) : pendulumref30_Survivors.l3 .lim v = pendulumref30_Survivors.b3 .lim (pendulumref30_Survivors.l3 .lim) v := lfp_eq (cont_of_run (pendulumref30_Survivors.k3 .lim)) v
noncomputable def pendulumref30_Survivors.g3 (m_ : Mode) : Seg := ⟨pendulumref30_Survivors.e3, pendulumref30_Survivors.x3, pendulumref30_Survivors.l3 m_⟩
theorem pendulumref30_Survivors.s3 (m_ : Mode) (S0 w0 cs0) : SegGood P S0 w0 cs0 17 (pendulumref30_Survivors.g3 m_) := seg_loop m_ (oras_ok (pendulumref30_Survivors.csok m_)) (all_cons (pendulumref30_Survivors.s1 m_ S0 w0 cs0) (all_cons (pendulumref30_Survivors.s2 m_ S0 w0 cs0) (all_nil))) (by rfl) (fun e he => List.all_eq_true.1 (show pendulumref30_Survivors.x3.all Spec.ok = true by rfl) e he) (pendulumref30_Survivors.k3 m_)
noncomputable def pendulumref30_Survivors.run (m_ : Mode) : (List (Int × (Int × Int))) × Unit → Option (List Int) := fun v_ => match v_ with
| (l, ()) =>
  (pendulumref30_Survivors.l0 m_ (l, (0 : Int), ([] : List Int), ())).bind fun (l1, m, ()) =>
  (pendulumref30_Survivors.l3 m_ (l1, m, ())).bind fun (left, ()) =>
  some left
noncomputable def pendulumref30_Survivors.c (m_ : Mode) : Callee := ⟨17, [.one (.lst (.pair (.int .i64) (.pair (.int .i64) (.int .i64))))], .one (.sh (.one (.lst (.int .i64)))), pendulumref30_Survivors.run m_⟩
theorem pendulumref30_Survivors.k (m_ : Mode) : ∀ v : Shs (pendulumref30_Survivors.c m_).args, runS P (oras (pendulumref30_Survivors.cs m_)) pendulumref30_Survivors.inl [] [pendulumref30_Survivors.g0 m_, pendulumref30_Survivors.g3 m_] (pendulumref30_Survivors.c m_).res.fin 20000 false (start 17 (encs (pendulumref30_Survivors.c m_).args v)) = pendulumref30_Survivors.run m_ v := by
  intro v_; exact (match v_ with | (l, ()) => by kernel_rfl)
theorem pendulumref30_Survivors.ok (m_ : Mode) : (pendulumref30_Survivors.c m_).OK P := Callee.of_run (fun S0 w0 => oras_ok (pendulumref30_Survivors.csok m_)) (by kernel_rfl) (by rfl) (fun S0 w0 cs0 => all_cons (pendulumref30_Survivors.s0 m_ S0 w0 cs0) (all_cons (pendulumref30_Survivors.s3 m_ S0 w0 cs0) (all_nil))) (fun x r h => (pendulumref30_Survivors.k m_ x).trans h)

/-! ### pendulum/pendulumlaw30.CombLeft -/
noncomputable def pendulumlaw30_CombLeft.cs (m_ : Mode) : List Callee := [pendulumref29_Fit.c m_, pendulumlaw30_awake.t, pendulumlaw30_ints.c m_, comb_Survivors.c m_, pendulumref30_Survivors.c m_]
theorem pendulumlaw30_CombLeft.csok (m_ : Mode) : ∀ k ∈ pendulumlaw30_CombLeft.cs m_, k.OK P := all_cons (pendulumref29_Fit.ok m_) (all_cons pendulumlaw30_awake.okt (all_cons (pendulumlaw30_ints.ok m_) (all_cons (comb_Survivors.ok m_) (all_cons (pendulumref30_Survivors.ok m_) (all_nil)))))
def pendulumlaw30_CombLeft.inl : FuncId → Bool := fun f => [].any (Nat.beq f)
noncomputable def pendulumlaw30_CombLeft.run (m_ : Mode) : (List (Int × (Int × Int))) × Unit → Option (Bool) := fun v_ => match v_ with
| (l, ()) =>
  (pendulumref29_Fit.run m_ (l, ())).bind fun r =>
  bif !r then
    (some true).bind fun r1 =>
    some r1
  else
    (comb_Survivors.run m_ (l, ())).bind fun r2 =>
    (pendulumref30_Survivors.run m_ (l, ())).bind fun r3 =>
    (pendulumlaw30_ints.run m_ (r2, r3, ())).bind fun r4 =>
    ((bif r4 then some true else some false)).bind fun r5 =>
    some (r4 && r5)
noncomputable def pendulumlaw30_CombLeft.c (m_ : Mode) : Callee := ⟨4, [.one (.lst (.pair (.int .i64) (.pair (.int .i64) (.int .i64))))], .one (.sh (.one .bool)), pendulumlaw30_CombLeft.run m_⟩
theorem pendulumlaw30_CombLeft.k (m_ : Mode) : ∀ v : Shs (pendulumlaw30_CombLeft.c m_).args, runS P (oras (pendulumlaw30_CombLeft.cs m_)) pendulumlaw30_CombLeft.inl [] [] (pendulumlaw30_CombLeft.c m_).res.fin 20000 false (start 4 (encs (pendulumlaw30_CombLeft.c m_).args v)) = pendulumlaw30_CombLeft.run m_ v := by
  intro v_; exact (match v_ with | (l, ()) => by kernel_rfl)
theorem pendulumlaw30_CombLeft.ok (m_ : Mode) : (pendulumlaw30_CombLeft.c m_).OK P := Callee.of_run (fun S0 w0 => oras_ok (pendulumlaw30_CombLeft.csok m_)) (by kernel_rfl) (by rfl) (fun S0 w0 cs0 => all_nil) (fun x r h => (pendulumlaw30_CombLeft.k m_ x).trans h)

/-! ### pendulum/pendulumlaw30.CombBetween -/
noncomputable def pendulumlaw30_CombBetween.cs (m_ : Mode) : List Callee := [pendulumref29_Fit.c m_, pendulumlaw30_awake.t, comb_Combine.c m_]
theorem pendulumlaw30_CombBetween.csok (m_ : Mode) : ∀ k ∈ pendulumlaw30_CombBetween.cs m_, k.OK P := all_cons (pendulumref29_Fit.ok m_) (all_cons pendulumlaw30_awake.okt (all_cons (comb_Combine.ok m_) (all_nil)))
def pendulumlaw30_CombBetween.inl : FuncId → Bool := fun f => [].any (Nat.beq f)
def pendulumlaw30_CombBetween.e0 : Spec := ⟨[{ fn := 5, items := [.code [.r, .r, .r, .r, .r, .l, .r, .l, .l], .inLoop [.r, .r, .r, .r, .r, .l, .r, .l, .l], .inBlock 0, .code [.r, .r, .r, .r, .r, .r]], slots := [(0, .dat (.lst (.pair (.int .i64) (.pair (.int .i64) (.int .i64))))), (3, .ptr 9 0), (4, .dat (.int .i64)), (5, .dat (.int .i64)), (6, .dat (.int .i64)), (37, .dat (.lst (.pair (.int .i64) (.pair (.int .i64) (.int .i64))))), (38, .dat (.int .i64)), (39, .dat (.int .i64))] }], [(9, .cells false [.dat (.int .i64), .dat (.int .i64), .dat (.int .i64)])], 10⟩
def pendulumlaw30_CombBetween.x0 : List Spec := [⟨[{ fn := 5, items := [.code [.r, .r, .r, .r, .r, .r]], slots := [(0, .dat (.lst (.pair (.int .i64) (.pair (.int .i64) (.int .i64))))), (3, .ptr 9 0), (4, .dat (.int .i64)), (5, .dat (.int .i64)), (6, .dat (.int .i64))] }], [(9, .cells false [.dat (.int .i64), .dat (.int .i64), .dat (.int .i64)])], 10⟩]
noncomputable def pendulumlaw30_CombBetween.b0 (m_ : Mode) (self : (List (Int × (Int × Int))) × Int × Int × Int × (List (Int × (Int × Int))) × Int × Int × Int × Int × Int × Unit → Option (((List (Int × (Int × Int))) × Int × Int × Int × Int × Int × Int × Unit))) : (List (Int × (Int × Int))) × Int × Int × Int × (List (Int × (Int × Int))) × Int × Int × Int × Int × Int × Unit → Option (((List (Int × (Int × Int))) × Int × Int × Int × Int × Int × Int × Unit)) := fun v_ => match v_ with
| (l, e, low, high, t, t1, t2, m, m1, m2, ()) =>
  bif decide (t2 < t1) then
    bif inB t2 (t.length : Int) then self (l, e, (mn low ((rd ((0 : Int), ((0 : Int), (0 : Int))) t t2).1)), (mx high ((rd ((0 : Int), ((0 : Int), (0 : Int))) t t2).1)), t, t1, (IntKind.i64.wrap (t2 + (1 : Int))), m, m1, m2, ()) else none
  else
    some (l, e, low, high, m, m1, m2, ())
theorem pendulumlaw30_CombBetween.k0 (m_ : Mode) : ∀ (self : Known pendulumlaw30_CombBetween.e0.sls → Option (Exits pendulumlaw30_CombBetween.x0)) (v : Known pendulumlaw30_CombBetween.e0.sls), runS P (oras (pendulumlaw30_CombBetween.cs m_)) pendulumlaw30_CombBetween.inl (⟨pendulumlaw30_CombBetween.e0, self⟩ :: exitCuts pendulumlaw30_CombBetween.x0 id) [] (fun _ _ => none) 20000 false (pendulumlaw30_CombBetween.e0.mk' v) = pendulumlaw30_CombBetween.b0 m_ self v := by
  intro self v_; exact (match v_ with | (l, e, low, high, t, t1, t2, m, m1, m2, ()) => by kernel_rfl)
noncomputable def pendulumlaw30_CombBetween.l0 (m_ : Mode) : (List (Int × (Int × Int))) × Int × Int × Int × (List (Int × (Int × Int))) × Int × Int × Int × Int × Int × Unit → Option (((List (Int × (Int × Int))) × Int × Int × Int × Int × Int × Int × Unit)) := loop m_ (pendulumlaw30_CombBetween.b0 m_)
theorem pendulumlaw30_CombBetween.q0 (v) : pendulumlaw30_CombBetween.l0 .lim v = pendulumlaw30_CombBetween.b0 .lim (pendulumlaw30_CombBetween.l0 .lim) v := lfp_eq (cont_of_run (pendulumlaw30_CombBetween.k0 .lim)) v
noncomputable def pendulumlaw30_CombBetween.g0 (m_ : Mode) : Seg := ⟨pendulumlaw30_CombBetween.e0, pendulumlaw30_CombBetween.x0, pendulumlaw30_CombBetween.l0 m_⟩
theorem pendulumlaw30_CombBetween.s0 (m_ : Mode) (S0 w0 cs0) : SegGood P S0 w0 cs0 5 (pendulumlaw30_CombBetween.g0 m_) := seg_loop m_ (oras_ok (pendulumlaw30_CombBetween.csok m_)) (all_nil) (by rfl) (fun e he => List.all_eq_true.1 (show pendulumlaw30_CombBetween.x0.all Spec.ok = true by rfl) e he) (pendulumlaw30_CombBetween.k0 m_)
def pendulumlaw30_CombBetween.e1 : Spec := ⟨[{ fn := 5, items := [.code [.r, .r, .r, .r, .r, .r, .r, .l, .r, .l, .l], .inLoop [.r, .r, .r, .r, .r, .r, .r, .l, .r, .l, .l], .inBlock 2, .code [.r, .r, .r, .r, .r, .r, .r, .r]], slots := [(3, .ptr 9 0), (5, .dat (.int .i64)), (6, .dat (.int .i64)), (76, .dat (.lst (.pair (.int .i64) (.pair (.int .i64) (.int .i64))))), (77, .dat (.int .i64)), (78, .dat (.int .i64))] }], [(9, .cells false [.dat (.int .i64), .dat (.int .i64), .dat (.int .i64)])], 10⟩
def pendulumlaw30_CombBetween.x1 : List Spec := [⟨[{ fn := 5, items := [.code [.r, .r, .r, .r, .r, .r, .r, .l, .r, .l, .l, .r, .r, .l, .l, .r, .r, .r, .l, .r], .inBlock 3, .code [.r, .r, .r, .r, .r, .r, .r, .l, .r, .l, .l, .r, .r, .r], .inLoop [.r, .r, .r, .r, .r, .r, .r, .l, .r, .l, .l], .inBlock 2, .code [.r, .r, .r, .r, .r, .r, .r, .r]], slots := [(2, .dat .bool)] }], [], 0⟩, ⟨[{ fn := 5, items := [.code [.r, .r, .r, .r, .r, .r, .r, .r]], slots := [(3, .ptr 9 0), (5, .dat (.int .i64)), (6, .dat (.int .i64))] }], [(9, .cells false [.dat (.int .i64), .dat (.int .i64), .dat (.int .i64)])], 10⟩]
noncomputable def pendulumlaw30_CombBetween.b1 (m_ : Mode) (self : Int × Int × (List (Int × (Int × Int))) × Int × Int × Int × Int × Int × Unit → Option ((Bool × Unit) ⊕ (Int × Int × Int × Int × Int × Unit))) : Int × Int × (List (Int × (Int × Int))) × Int × Int × Int × Int × Int × Unit → Option ((Bool × Unit) ⊕ (Int × Int × Int × Int × Int × Unit)) := fun v_ => match v_ with
| (low, high, t, t1, t2, m, m1, m2, ()) =>
  bif decide (t2 < t1) then
    bif inB t2 (t.length : Int) then
    bif ((decide ((mx (IntKind.i64.wrap (((rd ((0 : Int), ((0 : Int), (0 : Int))) t t2).1) - m)) (IntKind.i64.wrap (m - ((rd ((0 : Int), ((0 : Int), (0 : Int))) t t2).1)))) > m2)) && (decide (m2 < (140737488355328 : Int)))) then
      some (.inl (false, ()))
    else
      self (low, high, t, t1, (IntKind.i64.wrap (t2 + (1 : Int))), m, m1, m2, ())
    else none
  else
    some (.inr (low, high, m, m1, m2, ()))
theorem pendulumlaw30_CombBetween.k1 (m_ : Mode) : ∀ (self : Known pendulumlaw30_CombBetween.e1.sls → Option (Exits pendulumlaw30_CombBetween.x1)) (v : Known pendulumlaw30_CombBetween.e1.sls), runS P (oras (pendulumlaw30_CombBetween.cs m_)) pendulumlaw30_CombBetween.inl (⟨pendulumlaw30_CombBetween.e1, self⟩ :: exitCuts pendulumlaw30_CombBetween.x1 id) [] (fun _ _ => none) 20000 false (pendulumlaw30_CombBetween.e1.mk' v) = pendulumlaw30_CombBetween.b1 m_ self v := by
  intro self v_; exact (match v_ with | (low, high, t, t1, t2, m, m1, m2, ()) => by kernel_rfl)
noncomputable def pendulumlaw30_CombBetween.l1 (m_ : Mode) : Int × Int × (List (Int × (Int × Int))) × Int × Int × Int × Int × Int × Unit → Option ((Bool × Unit) ⊕ (Int × Int × Int × Int × Int × Unit)) := loop m_ (pendulumlaw30_CombBetween.b1 m_)
theorem pendulumlaw30_CombBetween.q1 (v) : pendulumlaw30_CombBetween.l1 .lim v = pendulumlaw30_CombBetween.b1 .lim (pendulumlaw30_CombBetween.l1 .lim) v := lfp_eq (cont_of_run (pendulumlaw30_CombBetween.k1 .lim)) v
noncomputable def pendulumlaw30_CombBetween.g1 (m_ : Mode) : Seg := ⟨pendulumlaw30_CombBetween.e1, pendulumlaw30_CombBetween.x1, pendulumlaw30_CombBetween.l1 m_⟩
theorem pendulumlaw30_CombBetween.s1 (m_ : Mode) (S0 w0 cs0) : SegGood P S0 w0 cs0 5 (pendulumlaw30_CombBetween.g1 m_) := seg_loop m_ (oras_ok (pendulumlaw30_CombBetween.csok m_)) (all_nil) (by rfl) (fun e he => List.all_eq_true.1 (show pendulumlaw30_CombBetween.x1.all Spec.ok = true by rfl) e he) (pendulumlaw30_CombBetween.k1 m_)
noncomputable def pendulumlaw30_CombBetween.run (m_ : Mode) : (List (Int × (Int × Int))) × Unit → Option (Bool) := fun v_ => match v_ with
| (l, ()) =>
  (pendulumref29_Fit.run m_ (l, ())).bind fun r =>
  bif !r then
    (some true).bind fun r1 =>
    some r1
  else
    (comb_Combine.run m_ (l, ())).bind fun (r2, r3, ()) =>
    bif smallI (l.length : Int) then
    bif decide ((l.length : Int) = (0 : Int)) then
      ((bif decide (r3 = (19 : Int)) then some true else some false)).bind fun r4 =>
      some ((decide (r3 = (19 : Int))) && r4)
    else
      bif inB (0 : Int) (l.length : Int) then
      bif inB (0 : Int) (l.length : Int) then
      bif smallI (l.length : Int) then
      (pendulumlaw30_CombBetween.l0 m_ (l, r3, (rd ((0 : Int), ((0 : Int), (0 : Int))) l (0 : Int)).1, (rd ((0 : Int), ((0 : Int), (0 : Int))) l (0 : Int)).1, l, (l.length : Int), (0 : Int), r2.1, r2.2.1, r2.2.2, ())).bind fun (l1, e, low, high, m, m1, m2, ()) =>
      bif (((((!(decide (e = (0 : Int)))) || (decide (m < low))) || (decide (m > high))) || (decide (m1 < (0 : Int)))) || (decide (m1 > (140737488355328 : Int)))) then
        some false
      else
        bif smallI (l1.length : Int) then
        (pendulumlaw30_CombBetween.l1 m_ (low, high, l1, (l1.length : Int), (0 : Int), m, m1, m2, ())).bind fun g_ => match g_ with
        | .inl (t, ()) =>
          some t
        | .inr (low1, high1, m3, m4, m5, ()) =>
          ((bif ((!(decide (low1 = high1))) || ((decide (m3 = low1)) && (decide (m5 = (0 : Int))))) then some true else some false)).bind fun r5 =>
          some (((!(decide (low1 = high1))) || ((decide (m3 = low1)) && (decide (m5 = (0 : Int))))) && r5)
        else none
      else none
      else none
      else none
    else none
noncomputable def pendulumlaw30_CombBetween.c (m_ : Mode) : Callee := ⟨5, [.one (.lst (.pair (.int .i64) (.pair (.int .i64) (.int .i64))))], .one (.sh (.one .bool)), pendulumlaw30_CombBetween.run m_⟩
theorem pendulumlaw30_CombBetween.k (m_ : Mode) : ∀ v : Shs (pendulumlaw30_CombBetween.c m_).args, runS P (oras (pendulumlaw30_CombBetween.cs m_)) pendulumlaw30_CombBetween.inl [] [pendulumlaw30_CombBetween.g0 m_, pendulumlaw30_CombBetween.g1 m_] (pendulumlaw30_CombBetween.c m_).res.fin 20000 false (start 5 (encs (pendulumlaw30_CombBetween.c m_).args v)) = pendulumlaw30_CombBetween.run m_ v := by
  intro v_; exact (match v_ with | (l, ()) => by kernel_rfl)
theorem pendulumlaw30_CombBetween.ok (m_ : Mode) : (pendulumlaw30_CombBetween.c m_).OK P := Callee.of_run (fun S0 w0 => oras_ok (pendulumlaw30_CombBetween.csok m_)) (by kernel_rfl) (by rfl) (fun S0 w0 cs0 => all_cons (pendulumlaw30_CombBetween.s0 m_ S0 w0 cs0) (all_cons (pendulumlaw30_CombBetween.s1 m_ S0 w0 cs0) (all_nil))) (fun x r h => (pendulumlaw30_CombBetween.k m_ x).trans h)

/-! ### pendulum/pendulumlaw30.CombFar -/
noncomputable def pendulumlaw30_CombFar.cs (m_ : Mode) : List Callee := [pendulumref29_Fit.c m_, pendulumlaw30_awake.t, comb_Far.c m_, comb_Survivors.c m_]
theorem pendulumlaw30_CombFar.csok (m_ : Mode) : ∀ k ∈ pendulumlaw30_CombFar.cs m_, k.OK P := all_cons (pendulumref29_Fit.ok m_) (all_cons pendulumlaw30_awake.okt (all_cons (comb_Far.ok m_) (all_cons (comb_Survivors.ok m_) (all_nil))))
def pendulumlaw30_CombFar.inl : FuncId → Bool := fun f => [].any (Nat.beq f)
def pendulumlaw30_CombFar.e0 : Spec := ⟨[{ fn := 6, items := [.code [.r, .r, .r, .r, .l, .r, .l, .l], .inLoop [.r, .r, .r, .r, .l, .r, .l, .l], .inBlock 0, .code [.r, .r, .r, .r, .r]], slots := [(0, .dat (.lst (.pair (.int .i64) (.pair (.int .i64) (.int .i64))))), (3, .dat (.lst (.int .i64))), (43, .dat (.lst (.int .i64))), (44, .dat (.int .i64)), (45, .dat (.int .i64))] }], [], 0⟩
def pendulumlaw30_CombFar.x0 : List Spec := [⟨[{ fn := 6, items := [.code [.r, .r, .r, .r, .l, .r, .l, .l, .r, .r, .l, .l, .r, .r, .l, .r], .inBlock 1, .code [.r, .r, .r, .r, .l, .r, .l, .l, .r, .r, .r], .inLoop [.r, .r, .r, .r, .l, .r, .l, .l], .inBlock 0, .code [.r, .r, .r, .r, .r]], slots := [(2, .dat .bool)] }], [], 0⟩, ⟨[{ fn := 6, items := [.code [.r, .r, .r, .r, .r]], slots := [(0, .dat (.lst (.pair (.int .i64) (.pair (.int .i64) (.int .i64))))), (3, .dat (.lst (.int .i64)))] }], [], 0⟩]
noncomputable def pendulumlaw30_CombFar.b0 (m_ : Mode) (self : (List (Int × (Int × Int))) × (List Int) × (List Int) × Int × Int × Unit → Option ((Bool × Unit) ⊕ ((List (Int × (Int × Int))) × (List Int) × Unit))) : (List (Int × (Int × Int))) × (List Int) × (List Int) × Int × Int × Unit → Option ((Bool × Unit) ⊕ ((List (Int × (Int × Int))) × (List Int) × Unit)) := fun v_ => match v_ with
| (l, s, t, t1, t2, ()) =>
  bif decide (t2 < t1) then
    bif inB t2 (t.length : Int) then
    bif ((!(!(decide ((rd (0 : Int) t t2) < (0 : Int))))) || (smallI (l.length : Int))) then
    bif ((!((!((decide ((rd (0 : Int) t t2) < (0 : Int))) || (decide ((rd (0 : Int) t t2) ≥ (l.length : Int))))) && (decide (t2 > (0 : Int))))) || (inB (IntKind.i64.wrap (t2 - (1 : Int))) (s.length : Int))) then
    bif (((decide ((rd (0 : Int) t t2) < (0 : Int))) || (decide ((rd (0 : Int) t t2) ≥ (l.length : Int)))) || ((decide (t2 > (0 : Int))) && (decide ((rd (0 : Int) s (IntKind.i64.wrap (t2 - (1 : Int)))) ≥ (rd (0 : Int) t t2))))) then
      some (.inl (false, ()))
    else
      self (l, s, t, t1, (IntKind.i64.wrap (t2 + (1 : Int))), ())
    else none
    else none
    else none
  else
    some (.inr (l, s, ()))
theorem pendulumlaw30_CombFar.k0 (m_ : Mode) : ∀ (self : Known pendulumlaw30_CombFar.e0.sls → Option (Exits pendulumlaw30_CombFar.x0)) (v : Known pendulumlaw30_CombFar.e0.sls), runS P (oras (pendulumlaw30_CombFar.cs m_)) pendulumlaw30_CombFar.inl (⟨pendulumlaw30_CombFar.e0, self⟩ :: exitCuts pendulumlaw30_CombFar.x0 id) [] (fun _ _ => none) 20000 false (pendulumlaw30_CombFar.e0.mk' v) = pendulumlaw30_CombFar.b0 m_ self v := by
  intro self v_; exact (match v_ with | (l, s, t, t1, t2, ()) => by kernel_rfl)
noncomputable def pendulumlaw30_CombFar.l0 (m_ : Mode) : (List (Int × (Int × Int))) × (List Int) × (List Int) × Int × Int × Unit → Option ((Bool × Unit) ⊕ ((List (Int × (Int × Int))) × (List Int) × Unit)) := loop m_ (pendulumlaw30_CombFar.b0 m_)
theorem pendulumlaw30_CombFar.q0 (v) : pendulumlaw30_CombFar.l0 .lim v = pendulumlaw30_CombFar.b0 .lim (pendulumlaw30_CombFar.l0 .lim) v := lfp_eq (cont_of_run (pendulumlaw30_CombFar.k0 .lim)) v
noncomputable def pendulumlaw30_CombFar.g0 (m_ : Mode) : Seg := ⟨pendulumlaw30_CombFar.e0, pendulumlaw30_CombFar.x0, pendulumlaw30_CombFar.l0 m_⟩
theorem pendulumlaw30_CombFar.s0 (m_ : Mode) (S0 w0 cs0) : SegGood P S0 w0 cs0 6 (pendulumlaw30_CombFar.g0 m_) := seg_loop m_ (oras_ok (pendulumlaw30_CombFar.csok m_)) (all_nil) (by rfl) (fun e he => List.all_eq_true.1 (show pendulumlaw30_CombFar.x0.all Spec.ok = true by rfl) e he) (pendulumlaw30_CombFar.k0 m_)
def pendulumlaw30_CombFar.e1 : Spec := ⟨[{ fn := 6, items := [.code [.r, .r, .r, .r, .r, .r, .l, .r, .l, .l], .inLoop [.r, .r, .r, .r, .r, .r, .l, .r, .l, .l], .inBlock 2, .code [.r, .r, .r, .r, .r, .r, .r]], slots := [(0, .dat (.lst (.pair (.int .i64) (.pair (.int .i64) (.int .i64))))), (3, .dat (.lst (.int .i64))), (6, .dat (.int .i64)), (73, .dat (.int .i64)), (74, .dat (.int .i64))] }], [], 0⟩
def pendulumlaw30_CombFar.x1 : List Spec := [⟨[{ fn := 6, items := [.code [.r, .r, .r, .r, .r, .r, .r]], slots := [(0, .dat (.lst (.pair (.int .i64) (.pair (.int .i64) (.int .i64))))), (3, .dat (.lst (.int .i64))), (6, .dat (.int .i64))] }], [], 0⟩]
noncomputable def pendulumlaw30_CombFar.b1 (m_ : Mode) (self : (List (Int × (Int × Int))) × (List Int) × Int × Int × Int × Unit → Option (((List (Int × (Int × Int))) × (List Int) × Int × Unit))) : (List (Int × (Int × Int))) × (List Int) × Int × Int × Int × Unit → Option (((List (Int × (Int × Int))) × (List Int) × Int × Unit)) := fun v_ => match v_ with
| (l, s, worst, t, t1, ()) =>
  bif decide (t1 < t) then
    (comb_Far.run m_ (l, t1, ())).bind fun r =>
    self (l, s, (mx worst r), t, (IntKind.i64.wrap (t1 + (1 : Int))), ())
  else
    some (l, s, worst, ())
theorem pendulumlaw30_CombFar.k1 (m_ : Mode) : ∀ (self : Known pendulumlaw30_CombFar.e1.sls → Option (Exits pendulumlaw30_CombFar.x1)) (v : Known pendulumlaw30_CombFar.e1.sls), runS P (oras (pendulumlaw30_CombFar.cs m_)) pendulumlaw30_CombFar.inl (⟨pendulumlaw30_CombFar.e1, self⟩ :: exitCuts pendulumlaw30_CombFar.x1 id) [] (fun _ _ => none) 20000 false (pendulumlaw30_CombFar.e1.mk' v) = pendulumlaw30_CombFar.b1 m_ self v := by
  intro self v_; exact (match v_ with | (l, s, worst, t, t1, ()) => by kernel_rfl)
noncomputable def pendulumlaw30_CombFar.l1 (m_ : Mode) : (List (Int × (Int × Int))) × (List Int) × Int × Int × Int × Unit → Option (((List (Int × (Int × Int))) × (List Int) × Int × Unit)) := loop m_ (pendulumlaw30_CombFar.b1 m_)
theorem pendulumlaw30_CombFar.q1 (v) : pendulumlaw30_CombFar.l1 .lim v = pendulumlaw30_CombFar.b1 .lim (pendulumlaw30_CombFar.l1 .lim) v := lfp_eq (cont_of_run (pendulumlaw30_CombFar.k1 .lim)) v
noncomputable def pendulumlaw30_CombFar.g1 (m_ : Mode) : Seg := ⟨pendulumlaw30_CombFar.e1, pendulumlaw30_CombFar.x1, pendulumlaw30_CombFar.l1 m_⟩
theorem pendulumlaw30_CombFar.s1 (m_ : Mode) (S0 w0 cs0) : SegGood P S0 w0 cs0 6 (pendulumlaw30_CombFar.g1 m_) := seg_loop m_ (oras_ok (pendulumlaw30_CombFar.csok m_)) (all_nil) (by rfl) (fun e he => List.all_eq_true.1 (show pendulumlaw30_CombFar.x1.all Spec.ok = true by rfl) e he) (pendulumlaw30_CombFar.k1 m_)
def pendulumlaw30_CombFar.e2 : Spec := ⟨[{ fn := 6, items := [.code [.r, .r, .r, .r, .r, .r, .r, .r, .l, .r, .l, .l, .r, .r, .l, .l, .r, .r, .l, .r, .l, .l], .inLoop [.r, .r, .r, .r, .r, .r, .r, .r, .l, .r, .l, .l, .r, .r, .l, .l, .r, .r, .l, .r, .l, .l], .inBlock 6, .code [.r, .r, .r, .r, .r, .r, .r, .r, .l, .r, .l, .l, .r, .r, .l, .l, .r, .r, .r], .inBlock 5, .code [.r, .r, .r, .r, .r, .r, .r, .r, .l, .r, .l, .l, .r, .r, .r], .inLoop [.r, .r, .r, .r, .r, .r, .r, .r, .l, .r, .l, .l], .inBlock 4, .code [.r, .r, .r, .r, .r, .r, .r, .r, .r]], slots := [(0, .dat (.lst (.pair (.int .i64) (.pair (.int .i64) (.int .i64))))), (3, .dat (.lst (.int .i64))), (6, .dat (.int .i64)), (8, .dat (.int .i64)), (9, .dat .bool), (90, .dat (.int .i64)), (91, .dat (.int .i64)), (94, .dat (.lst (.int .i64))), (95, .dat (.int .i64)), (96, .dat (.int .i64))] }], [], 0⟩
def pendulumlaw30_CombFar.x2 : List Spec := [⟨[{ fn := 6, items := [.code [.r, .r, .r, .r, .r, .r, .r, .r, .l, .r, .l, .l, .r, .r, .l, .l, .r, .r, .r], .inBlock 5, .code [.r, .r, .r, .r, .r, .r, .r, .r, .l, .r, .l, .l, .r, .r, .r], .inLoop [.r, .r, .r, .r, .r, .r, .r, .r, .l, .r, .l, .l], .inBlock 4, .code [.r, .r, .r, .r, .r, .r, .r, .r, .r]], slots := [(0, .dat (.lst (.pair (.int .i64) (.pair (.int .i64) (.int .i64))))), (3, .dat (.lst (.int .i64))), (6, .dat (.int .i64)), (8, .dat (.int .i64)), (9, .dat .bool), (90, .dat (.int .i64)), (91, .dat (.int .i64))] }], [], 0⟩]
noncomputable def pendulumlaw30_CombFar.b2 (m_ : Mode) (self : (List (Int × (Int × Int))) × (List Int) × Int × Int × Bool × Int × Int × (List Int) × Int × Int × Unit → Option (((List (Int × (Int × Int))) × (List Int) × Int × Int × Bool × Int × Int × Unit))) : (List (Int × (Int × Int))) × (List Int) × Int × Int × Bool × Int × Int × (List Int) × Int × Int × Unit → Option (((List (Int × (Int × Int))) × (List Int) × Int × Int × Bool × Int × Int × Unit)) := fun v_ => match v_ with
| (l, s, worst, k, out, t, t1, t2, t3, t4, ()) =>
  bif decide (t4 < t3) then
    bif inB t4 (t2.length : Int) then self (l, s, worst, k, (out && (!(decide ((rd (0 : Int) t2 t4) = k)))), t, t1, t2, t3, (IntKind.i64.wrap (t4 + (1 : Int))), ()) else none
  else
    some (l, s, worst, k, out, t, t1, ())
theorem pendulumlaw30_CombFar.k2 (m_ : Mode) : ∀ (self : Known pendulumlaw30_CombFar.e2.sls → Option (Exits pendulumlaw30_CombFar.x2)) (v : Known pendulumlaw30_CombFar.e2.sls), runS P (oras (pendulumlaw30_CombFar.cs m_)) pendulumlaw30_CombFar.inl (⟨pendulumlaw30_CombFar.e2, self⟩ :: exitCuts pendulumlaw30_CombFar.x2 id) [] (fun _ _ => none) 20000 false (pendulumlaw30_CombFar.e2.mk' v) = pendulumlaw30_CombFar.b2 m_ self v := by
  intro self v_; exact (match v_ with | (l, s, worst, k, out, t, t1, t2, t3, t4, ()) => by kernel_rfl)
noncomputable def pendulumlaw30_CombFar.l2 (m_ : Mode) : (List (Int × (Int × Int))) × (List Int) × Int × Int × Bool × Int × Int × (List Int) × Int × Int × Unit → Option (((List (Int × (Int × Int))) × (List Int) × Int × Int × Bool × Int × Int × Unit)) := loop m_ (pendulumlaw30_CombFar.b2 m_)
theorem pendulumlaw30_CombFar.q2 (v) : pendulumlaw30_CombFar.l2 .lim v = pendulumlaw30_CombFar.b2 .lim (pendulumlaw30_CombFar.l2 .lim) v := lfp_eq (cont_of_run (pendulumlaw30_CombFar.k2 .lim)) v
noncomputable def pendulumlaw30_CombFar.g2 (m_ : Mode) : Seg := ⟨pendulumlaw30_CombFar.e2, pendulumlaw30_CombFar.x2, pendulumlaw30_CombFar.l2 m_⟩
theorem pendulumlaw30_CombFar.s2 (m_ : Mode) (S0 w0 cs0) : SegGood P S0 w0 cs0 6 (pendulumlaw30_CombFar.g2 m_) := seg_loop m_ (oras_ok (pendulumlaw30_CombFar.csok m_)) (all_nil) (by rfl) (fun e he => List.all_eq_true.1 (show pendulumlaw30_CombFar.x2.all Spec.ok = true by rfl) e he) (pendulumlaw30_CombFar.k2 m_)
def pendulumlaw30_CombFar.e3 : Spec := ⟨[{ fn := 6, items := [.code [.r, .r, .r, .r, .r, .r, .r, .r, .l, .r, .l, .l], .inLoop [.r, .r, .r, .r, .r, .r, .r, .r, .l, .r, .l, .l], .inBlock 4, .code [.r, .r, .r, .r, .r, .r, .r, .r, .r]], slots := [(0, .dat (.lst (.pair (.int .i64) (.pair (.int .i64) (.int .i64))))), (3, .dat (.lst (.int .i64))), (6, .dat (.int .i64)), (90, .dat (.int .i64)), (91, .dat (.int .i64))] }], [], 0⟩
def pendulumlaw30_CombFar.x3 : List Spec := [⟨[{ fn := 6, items := [.code [.r, .r, .r, .r, .r, .r, .r, .r, .l, .r, .l, .l, .r, .r, .l, .l, .r, .r, .r, .r, .l, .r], .inBlock 5, .code [.r, .r, .r, .r, .r, .r, .r, .r, .l, .r, .l, .l, .r, .r, .r], .inLoop [.r, .r, .r, .r, .r, .r, .r, .r, .l, .r, .l, .l], .inBlock 4, .code [.r, .r, .r, .r, .r, .r, .r, .r, .r]], slots := [(2, .dat .bool)] }], [], 0⟩, ⟨[{ fn := 6, items := [.code [.r, .r, .r, .r, .r, .r, .r, .r, .r]], slots := [] }], [], 0⟩]
noncomputable def pendulumlaw30_CombFar.b3 (m_ : Mode) (self : (List (Int × (Int × Int))) × (List Int) × Int × Int × Int × Unit → Option ((Bool × Unit) ⊕ (Unit))) : (List (Int × (Int × Int))) × (List Int) × Int × Int × Int × Unit → Option ((Bool × Unit) ⊕ (Unit)) := fun v_ => match v_ with
| (l, s, worst, t, t1, ()) =>
  bif decide (t1 < t) then
    bif smallI (s.length : Int) then
    (pendulumlaw30_CombFar.l2 m_ (l, s, worst, t1, true, t, t1, s, (s.length : Int), (0 : Int), ())).bind fun (l1, s1, worst1, k, out, t2, t3, ()) =>
    ((bif out then comb_Far.run m_ (l1, k, ()) else some (0 : Int))).bind fun r =>
    bif (out && (decide (r = worst1))) then
      (some true).bind fun r1 =>
      some (.inl (r1, ()))
    else
      self (l1, s1, worst1, t2, (IntKind.i64.wrap (t3 + (1 : Int))), ())
    else none
  else
    some (.inr (()))
theorem pendulumlaw30_CombFar.k3 (m_ : Mode) : ∀ (self : Known pendulumlaw30_CombFar.e3.sls → Option (Exits pendulumlaw30_CombFar.x3)) (v : Known pendulumlaw30_CombFar.e3.sls), runS P (oras (pendulumlaw30_CombFar.cs m_)) pendulumlaw30_CombFar.inl (⟨pendulumlaw30_CombFar.e3, self⟩ :: exitCuts pendulumlaw30_CombFar.x3 id) [pendulumlaw30_CombFar.g2 m_] (fun _ _ => none) 20000 false (pendulumlaw30_CombFar.e3.mk' v) = pendulumlaw30_CombFar.b3 m_ self v := by
  intro self v_; exact (match v_ with | (l, s, worst, t, t1, ()) => by kernel_rfl)
noncomputable def pendulumlaw30_CombFar.l3 (m_ : Mode) : (List (Int × (Int × Int))) × (List Int) × Int × Int × Int × Unit → Option ((Bool × Unit) ⊕ (Unit)) := loop m_ (pendulumlaw30_CombFar.b3 m_)
theorem pendulumlaw30_CombFar.q3 (v) : pendulumlaw30_CombFar.l3 .lim v = pendulumlaw30_CombFar.b3 .lim (pendulumlaw30_CombFar.l3 .lim) v := lfp_eq (cont_of_run (pendulumlaw30_CombFar.k3 .lim)) v
noncomputable def pendulumlaw30_CombFar.g3 (m_ : Mode) : Seg := ⟨pendulumlaw30_CombFar.e3, pendulumlaw30_CombFar.x3, pendulumlaw30_CombFar.l3 m_⟩
theorem pendulumlaw30_CombFar.s3 (m_ : Mode) (S0 w0 cs0) : SegGood P S0 w0 cs0 6 (pendulumlaw30_CombFar.g3 m_) := seg_loop m_ (oras_ok (pendulumlaw30_CombFar.csok m_)) (all_cons (pendulumlaw30_CombFar.s2 m_ S0 w0 cs0) (all_nil)) (by rfl) (fun e he => List.all_eq_true.1 (show pendulumlaw30_CombFar.x3.all Spec.ok = true by rfl) e he) (pendulumlaw30_CombFar.k3 m_)
noncomputable def pendulumlaw30_CombFar.run (m_ : Mode) : (List (Int × (Int × Int))) × Unit → Option (Bool) := fun v_ => match v_ with
| (l, ()) =>
  (pendulumref29_Fit.run m_ (l, ())).bind fun r =>
  bif !r then
    (some true).bind fun r1 =>
    some r1
  else
    (comb_Survivors.run m_ (l, ())).bind fun r2 =>
    bif smallI (r2.length : Int) then
    bif smallI (l.length : Int) then
    bif ((!(!(decide ((r2.length : Int) = (l.length : Int))))) || (smallI (l.length : Int))) then
    bif ((!(!((!(decide ((r2.length : Int) = (l.length : Int)))) && (decide ((l.length : Int) ≤ (3 : Int)))))) || (smallI (r2.length : Int))) then
    bif ((!(!((!(decide ((r2.length : Int) = (l.length : Int)))) && (decide ((l.length : Int) ≤ (3 : Int)))))) || (smallI (l.length : Int))) then
    bif ((!(!(((!(decide ((r2.length : Int) = (l.length : Int)))) && (decide ((l.length : Int) ≤ (3 : Int)))) || (decide ((r2.length : Int) < (mn (l.length : Int) (3 : Int))))))) || (smallI (r2.length : Int))) then
    bif ((!(!(((!(decide ((r2.length : Int) = (l.length : Int)))) && (decide ((l.length : Int) ≤ (3 : Int)))) || (decide ((r2.length : Int) < (mn (l.length : Int) (3 : Int))))))) || (smallI (l.length : Int))) then
    bif ((((!(decide ((r2.length : Int) = (l.length : Int)))) && (decide ((l.length : Int) ≤ (3 : Int)))) || (decide ((r2.length : Int) < (mn (l.length : Int) (3 : Int))))) || (decide ((r2.length : Int) > (l.length : Int)))) then
      some false
    else
      bif smallI (r2.length : Int) then
      (pendulumlaw30_CombFar.l0 m_ (l, r2, r2, (r2.length : Int), (0 : Int), ())).bind fun g_ => match g_ with
      | .inl (t, ()) =>
        some t
      | .inr (l1, s, ()) =>
        bif smallI (l1.length : Int) then
        (pendulumlaw30_CombFar.l1 m_ (l1, s, (0 : Int), (l1.length : Int), (0 : Int), ())).bind fun (l2, s1, worst, ()) =>
        bif smallI (s1.length : Int) then
        bif smallI (l2.length : Int) then
        bif decide ((s1.length : Int) = (l2.length : Int)) then
          (some true).bind fun r3 =>
          some r3
        else
          bif smallI (l2.length : Int) then
          (pendulumlaw30_CombFar.l3 m_ (l2, s1, worst, (l2.length : Int), (0 : Int), ())).bind fun g_ => match g_ with
          | .inl (t1, ()) =>
            some t1
          | .inr (()) =>
            some false
          else none
        else none
        else none
        else none
      else none
    else none
    else none
    else none
    else none
    else none
    else none
    else none
noncomputable def pendulumlaw30_CombFar.c (m_ : Mode) : Callee := ⟨6, [.one (.lst (.pair (.int .i64) (.pair (.int .i64) (.int .i64))))], .one (.sh (.one .bool)), pendulumlaw30_CombFar.run m_⟩
theorem pendulumlaw30_CombFar.k (m_ : Mode) : ∀ v : Shs (pendulumlaw30_CombFar.c m_).args, runS P (oras (pendulumlaw30_CombFar.cs m_)) pendulumlaw30_CombFar.inl [] [pendulumlaw30_CombFar.g0 m_, pendulumlaw30_CombFar.g1 m_, pendulumlaw30_CombFar.g3 m_] (pendulumlaw30_CombFar.c m_).res.fin 20000 false (start 6 (encs (pendulumlaw30_CombFar.c m_).args v)) = pendulumlaw30_CombFar.run m_ v := by
  intro v_; exact (match v_ with | (l, ()) => by kernel_rfl)
theorem pendulumlaw30_CombFar.ok (m_ : Mode) : (pendulumlaw30_CombFar.c m_).OK P := Callee.of_run (fun S0 w0 => oras_ok (pendulumlaw30_CombFar.csok m_)) (by kernel_rfl) (by rfl) (fun S0 w0 cs0 => all_cons (pendulumlaw30_CombFar.s0 m_ S0 w0 cs0) (all_cons (pendulumlaw30_CombFar.s1 m_ S0 w0 cs0) (all_cons (pendulumlaw30_CombFar.s3 m_ S0 w0 cs0) (all_nil)))) (fun x r h => (pendulumlaw30_CombFar.k m_ x).trans h)
end Go.AM
end

section
namespace Go.AM
/-! Plain laws of whole numbers and loops. -/
theorem wrap64 {n : Int} (h1 : -9223372036854775808 ≤ n) (h2 : n < 9223372036854775808) : IntKind.i64.wrap n = n := by
  unfold IntKind.wrap; simp [IntKind.signed, IntKind.bits]; omega
theorem cond_pos {α : Type} {c : Bool} {a b : α} (h : c = true) : (bif c then a else b) = a := by rw [h]; rfl
theorem cond_neg {α : Type} {c : Bool} {a b : α} (h : c = false) : (bif c then a else b) = b := by rw [h]; rfl
theorem cond_ite {α : Type} {p : Prop} {i : Decidable p} {a b : α} : (bif @decide p i then a else b) = if p then a else b := by
  by_cases h : p <;> simp [h]
theorem smallI_t {n : Int} (h : n < 9223372036854775808) : smallI n = true := by
  unfold smallI; rw [Nat.blt_eq]; omega
theorem inB_t {i n : Int} (h1 : 0 ≤ i) (h2 : i < n) : inB i n = true := by simp [inB, h1, h2]
theorem loop_to {α β : Type} {f : α → Option β} (st : Nat → α) {n : Nat} (h : ∀ k, k < n → f (st k) = f (st (k + 1))) : f (st 0) = f (st n) := by
  induction n with
  | zero => rfl
  | succ n ih => exact (ih fun k hk => h k (by omega)).trans (h n (by omega))
/-- Either all steps go on, or the first one that does not tells the answer. -/
theorem loop_or {α β : Type} {f : α → Option β} (st : Nat → α) {n : Nat} {c : Nat → Bool} {e : Nat → Option β} (h : ∀ k, k < n → f (st k) = bif c k then e k else f (st (k + 1))) :
    (f (st 0) = f (st n) ∧ ∀ k, k < n → c k = false) ∨ ∃ k, k < n ∧ c k = true ∧ (∀ j, j < k → c j = false) ∧ f (st 0) = e k := by
  induction n with
  | zero => exact .inl ⟨rfl, fun k hk => absurd hk (by omega)⟩
  | succ n ih =>
    rcases ih fun k hk => h k (by omega) with ⟨h1, h2⟩ | ⟨k, hk, h1⟩
    · cases hc : c n with
      | false =>
        refine .inl ⟨h1.trans ((h n (by omega)).trans (by rw [hc]; rfl)), fun k hk => ?_⟩
        rcases Nat.lt_succ_iff_lt_or_eq.1 hk with hk | rfl
        · exact h2 k hk
        · exact hc
      | true => exact .inr ⟨n, by omega, hc, h2, h1.trans ((h n (by omega)).trans (by rw [hc]; rfl))⟩
    · exact .inr ⟨k, by omega, h1⟩
/-- Sums by index. -/
def acc (g : Nat → Int) : Nat → Int
  | 0 => 0
  | k + 1 => acc g k + g k
theorem acc_bd {g : Nat → Int} {a b : Int} {n : Nat} (h : ∀ k, k < n → a ≤ g k ∧ g k ≤ b) : n * a ≤ acc g n ∧ acc g n ≤ n * b := by
  induction n with
  | zero => simp [acc]
  | succ n ih =>
    have h1 := ih fun k hk => h k (by omega)
    have h2 := h n (by omega)
    rw [acc, Int.natCast_succ, Int.add_mul, Int.add_mul]; omega
/-- Folds by index. -/
def fold {α : Type} (g : α → Nat → α) (z : α) : Nat → α
  | 0 => z
  | k + 1 => g (fold g z k) k
theorem rd_mem {α : Type} {d : α} {xs : List α} {i : Int} (h1 : 0 ≤ i) (h2 : i < xs.length) : rd d xs i ∈ xs := by
  unfold rd; rw [List.getD_eq_getElem?_getD, List.getElem?_eq_getElem (show i.toNat < xs.length by omega), Option.getD_some]; exact List.getElem_mem _
theorem mx_eq (x y : Int) : mx x y = max x y := by unfold mx; split <;> omega
theorem mn_eq (x y : Int) : mn x y = min x y := by unfold mn; split <;> omega
theorem dec_t {p : Prop} {i : Decidable p} (h : p) : @decide p i = true := decide_eq_true h
theorem dec_f {p : Prop} {i : Decidable p} (h : ¬p) : @decide p i = false := decide_eq_false h
theorem dec_not {p : Prop} {i : Decidable p} : (!@decide p i) = decide (¬p) := by by_cases h : p <;> simp [h]
theorem dec_and {p q : Prop} {i : Decidable p} {j : Decidable q} : (@decide p i && @decide q j) = decide (p ∧ q) := by by_cases h : p <;> simp [h]
theorem dec_or {p q : Prop} {i : Decidable p} {j : Decidable q} : (@decide p i || @decide q j) = decide (p ∨ q) := by by_cases h : p <;> simp [h]
end Go.AM
end

section
namespace Go.AM
/-! Plain laws of Comb. -/
abbrev Peer := Int × (Int × Int)
def pk (l : List Peer) (k : Nat) : Peer := rd ((0 : Int), ((0 : Int), (0 : Int))) l (k : Int)
theorem rd_pk (l : List Peer) (k : Nat) : rd ((0 : Int), ((0 : Int), (0 : Int))) l (k : Int) = pk l k := rfl
def fitP (p : Peer) : Prop := (-140737488355328 ≤ p.1 ∧ p.1 ≤ 140737488355328) ∧ (0 ≤ p.2.1 ∧ p.2.1 ≤ 140737488355328) ∧ (0 ≤ p.2.2 ∧ p.2.2 ≤ 140737488355328)
instance (p : Peer) : Decidable (fitP p) := by unfold fitP; infer_instance
def fitL (l : List Peer) : Prop := l.length ≤ 10 ∧ ∀ k, k < l.length → fitP (pk l k)
theorem within_eq (n a b : Int) : pendulumref29_within.run .lim (n, a, b, ()) = some (decide (a ≤ n ∧ n ≤ b)) := by
  simp [pendulumref29_within.run]
theorem fit_eq (l : List Peer) (hl : l.length ≤ 9223372036854775807) : (pendulumref29_Fit.run .lim (l, ()) = some false) ∨ (pendulumref29_Fit.run .lim (l, ()) = some true ∧ fitL l) := by
  by_cases h10 : (l.length : Int) > 10
  · left; simp (disch := omega) only [smallI_t, inB_t, wrap64, dec_t, dec_f, dec_not, dec_and, dec_or, cond_ite, cond_true, cond_false, Option.bind_some, Option.bind_none, Bool.or_true, Bool.true_or, Bool.and_true, Bool.true_and, Bool.and_false, Bool.false_and, Bool.or_false, Bool.false_or, Bool.not_true, Bool.not_false, Bool.or_self, Bool.and_self, Bool.not_not, if_true, if_false, and_self, true_and, and_true, and_false, false_and, or_true, true_or, or_false, false_or, not_true_eq_false, not_false_eq_true, decide_true, decide_false, eq_self, if_pos, if_neg, mx_eq, mn_eq, pendulumref29_Fit.run]
  · have step : ∀ k, k < l.length → pendulumref29_Fit.l0 .lim (l, (k : Int), ()) = bif !decide (fitP (pk l k)) then some (.inl (false, ())) else pendulumref29_Fit.l0 .lim (l, ((k + 1 : Nat) : Int), ()) := by
      intro k hk
      rw [pendulumref29_Fit.q0]
      simp (disch := omega) only [smallI_t, inB_t, wrap64, dec_t, dec_f, dec_not, dec_and, dec_or, cond_ite, cond_true, cond_false, Option.bind_some, Option.bind_none, Bool.or_true, Bool.true_or, Bool.and_true, Bool.true_and, Bool.and_false, Bool.false_and, Bool.or_false, Bool.false_or, Bool.not_true, Bool.not_false, Bool.or_self, Bool.and_self, Bool.not_not, if_true, if_false, and_self, true_and, and_true, and_false, false_and, or_true, true_or, or_false, false_or, not_true_eq_false, not_false_eq_true, decide_true, decide_false, eq_self, if_pos, if_neg, mx_eq, mn_eq, pendulumref29_Fit.b0, within_eq, rd_pk]
      by_cases h1 : (-140737488355328 ≤ (pk l k).1 ∧ (pk l k).1 ≤ 140737488355328)
      · by_cases h2 : 0 ≤ (pk l k).2.1 ∧ (pk l k).2.1 ≤ 140737488355328
        · by_cases h3 : 0 ≤ (pk l k).2.2 ∧ (pk l k).2.2 ≤ 140737488355328
          · simp [fitP, h1, h2, h3]
          · simp [fitP, h1, h2, h3]
        · simp [fitP, h1, h2]
      · simp [fitP, h1]
    simp (disch := omega) only [smallI_t, inB_t, wrap64, dec_t, dec_f, dec_not, dec_and, dec_or, cond_ite, cond_true, cond_false, Option.bind_some, Option.bind_none, Bool.or_true, Bool.true_or, Bool.and_true, Bool.true_and, Bool.and_false, Bool.false_and, Bool.or_false, Bool.false_or, Bool.not_true, Bool.not_false, Bool.or_self, Bool.and_self, Bool.not_not, if_true, if_false, and_self, true_and, and_true, and_false, false_and, or_true, true_or, or_false, false_or, not_true_eq_false, not_false_eq_true, decide_true, decide_false, eq_self, if_pos, if_neg, mx_eq, mn_eq, pendulumref29_Fit.run]
    rcases loop_or (fun k : Nat => (l, (k : Int), ())) step with ⟨h1, h2⟩ | ⟨k, hk, h1, h2, h3⟩
    · right
      refine ⟨?_, by omega, fun k hk => by simpa using h2 k hk⟩
      rw [show (l, (0 : Int), ()) = (l, ((0 : Nat) : Int), ()) from rfl, h1, pendulumref29_Fit.q0]
      simp (disch := omega) only [smallI_t, inB_t, wrap64, dec_t, dec_f, dec_not, dec_and, dec_or, cond_ite, cond_true, cond_false, Option.bind_some, Option.bind_none, Bool.or_true, Bool.true_or, Bool.and_true, Bool.true_and, Bool.and_false, Bool.false_and, Bool.or_false, Bool.false_or, Bool.not_true, Bool.not_false, Bool.or_self, Bool.and_self, Bool.not_not, if_true, if_false, and_self, true_and, and_true, and_false, false_and, or_true, true_or, or_false, false_or, not_true_eq_false, not_false_eq_true, decide_true, decide_false, eq_self, if_pos, if_neg, mx_eq, mn_eq, pendulumref29_Fit.b0]
    · left; rw [show (l, (0 : Int), ()) = (l, ((0 : Nat) : Int), ()) from rfl, h3]
      simp (disch := omega) only [smallI_t, inB_t, wrap64, dec_t, dec_f, dec_not, dec_and, dec_or, cond_ite, cond_true, cond_false, Option.bind_some, Option.bind_none, Bool.or_true, Bool.true_or, Bool.and_true, Bool.true_and, Bool.and_false, Bool.false_and, Bool.or_false, Bool.false_or, Bool.not_true, Bool.not_false, Bool.or_self, Bool.and_self, Bool.not_not, if_true, if_false, and_self, true_and, and_true, and_false, false_and, or_true, true_or, or_false, false_or, not_true_eq_false, not_false_eq_true, decide_true, decide_false, eq_self, if_pos, if_neg, mx_eq, mn_eq]
end Go.AM
end

section
namespace Go.AM
theorem mul_bd {x w a b : Int} (h1 : -a ≤ x) (h2 : x ≤ a) (h3 : 0 ≤ w) (h4 : w ≤ b) (ha : 0 ≤ a) : -(a * b) ≤ x * w ∧ x * w ≤ a * b := by
  have e1 : x * w ≤ a * w := Int.mul_le_mul_of_nonneg_right h2 h3
  have e2 : a * w ≤ a * b := Int.mul_le_mul_of_nonneg_left h4 ha
  have e3 : -a * w ≤ x * w := Int.mul_le_mul_of_nonneg_right h1 h3
  rw [Int.neg_mul] at e3
  omega
theorem flr_eq {s a : Int} (ha : 0 < a) : (if s.tmod a < 0 then s.tdiv a - 1 else s.tdiv a) = s / a := by
  have h1 := Int.mul_tdiv_add_tmod s a
  have h2 : s.tmod a < a := Int.tmod_lt_of_pos s ha
  have h3 : -a < s.tmod a := by have := Int.lt_tmod_of_pos s ha; omega
  symm
  split
  · rw [Int.ediv_eq_iff_of_pos ha]
    rw [Int.sub_mul, Int.mul_comm]
    constructor <;> omega
  · rw [Int.ediv_eq_iff_of_pos ha, Int.mul_comm]
    constructor <;> omega
def wt (p : Peer) : Int := max 1 (4096 / (p.2.1 / 65536 + 1))
theorem wt_bd (p : Peer) (h : 0 ≤ p.2.1) : 1 ≤ wt p ∧ wt p ≤ 4096 := by
  unfold wt
  have h1 : 0 ≤ p.2.1 / 65536 := by omega
  have h2 : 4096 / (p.2.1 / 65536 + 1) ≤ 4096 := Int.ediv_le_self _ (by decide)
  omega
theorem shr16 (x : Int) : ishr .i64 x 16 = x / 65536 := by
  unfold ishr
  rw [show (2 ^ min (16 : Int).toNat IntKind.i64.bits : Int) = 65536 from rfl, Int.fdiv_eq_ediv_of_nonneg _ (by decide)]
theorem weight_eq (p : Peer) (h : fitP p) : comb_Weight.run .lim (p, ()) = some (wt p) := by
  obtain ⟨-, h, -⟩ := h
  have h1 : 0 ≤ p.2.1 / 65536 := by omega
  have h2 : 4096 / (p.2.1 / 65536 + 1) ≤ 4096 := Int.ediv_le_self _ (by decide)
  have h3 : 0 ≤ 4096 / (p.2.1 / 65536 + 1) := Int.ediv_nonneg (by decide) (by omega)
  simp (disch := omega) only [smallI_t, inB_t, wrap64, dec_t, dec_f, dec_not, dec_and, dec_or, cond_ite, cond_true, cond_false, Option.bind_some, Option.bind_none, Bool.or_true, Bool.true_or, Bool.and_true, Bool.true_and, Bool.and_false, Bool.false_and, Bool.or_false, Bool.false_or, Bool.not_true, Bool.not_false, Bool.or_self, Bool.and_self, Bool.not_not, if_true, if_false, and_self, true_and, and_true, and_false, false_and, or_true, true_or, or_false, false_or, not_true_eq_false, not_false_eq_true, decide_true, decide_false, eq_self, if_pos, if_neg, mx_eq, mn_eq, comb_Weight.run, shr16]
  rw [Int.tdiv_eq_ediv_of_nonneg (by decide)]
  simp (disch := omega) only [smallI_t, inB_t, wrap64, dec_t, dec_f, dec_not, dec_and, dec_or, cond_ite, cond_true, cond_false, Option.bind_some, Option.bind_none, Bool.or_true, Bool.true_or, Bool.and_true, Bool.true_and, Bool.and_false, Bool.false_and, Bool.or_false, Bool.false_or, Bool.not_true, Bool.not_false, Bool.or_self, Bool.and_self, Bool.not_not, if_true, if_false, and_self, true_and, and_true, and_false, false_and, or_true, true_or, or_false, false_or, not_true_eq_false, not_false_eq_true, decide_true, decide_false, eq_self, if_pos, if_neg, mx_eq, mn_eq]
  rfl
theorem rweight_eq (p : Peer) (h : fitP p) : pendulumref30_Weight.run .lim (p, ()) = some (wt p) := by
  obtain ⟨-, h, -⟩ := h
  have h1 : 0 ≤ p.2.1 / 65536 := by omega
  have h2 : 4096 / (p.2.1 / 65536 + 1) ≤ 4096 := Int.ediv_le_self _ (by decide)
  have h3 : 0 ≤ 4096 / (p.2.1 / 65536 + 1) := Int.ediv_nonneg (by decide) (by omega)
  simp (disch := omega) only [smallI_t, inB_t, wrap64, dec_t, dec_f, dec_not, dec_and, dec_or, cond_ite, cond_true, cond_false, Option.bind_some, Option.bind_none, Bool.or_true, Bool.true_or, Bool.and_true, Bool.true_and, Bool.and_false, Bool.false_and, Bool.or_false, Bool.false_or, Bool.not_true, Bool.not_false, Bool.or_self, Bool.and_self, Bool.not_not, if_true, if_false, and_self, true_and, and_true, and_false, false_and, or_true, true_or, or_false, false_or, not_true_eq_false, not_false_eq_true, decide_true, decide_false, eq_self, if_pos, if_neg, mx_eq, mn_eq, pendulumref30_Weight.run, shr16]
  rw [Int.tdiv_eq_ediv_of_nonneg (by decide)]
  simp (disch := omega) only [smallI_t, inB_t, wrap64, dec_t, dec_f, dec_not, dec_and, dec_or, cond_ite, cond_true, cond_false, Option.bind_some, Option.bind_none, Bool.or_true, Bool.true_or, Bool.and_true, Bool.true_and, Bool.and_false, Bool.false_and, Bool.or_false, Bool.false_or, Bool.not_true, Bool.not_false, Bool.or_self, Bool.and_self, Bool.not_not, if_true, if_false, and_self, true_and, and_true, and_false, false_and, or_true, true_or, or_false, false_or, not_true_eq_false, not_false_eq_true, decide_true, decide_false, eq_self, if_pos, if_neg, mx_eq, mn_eq]
  rw [wt, Int.max_comm]
def dist (a b : Int) : Int := if a < b then b - a else a - b
def nar (a : Int) : Prop := -1000000000000000 ≤ a ∧ a ≤ 1000000000000000
theorem dist_bd {a b : Int} (ha : nar a) (hb : nar b) : 0 ≤ dist a b ∧ dist a b ≤ 2000000000000000 := by
  unfold dist; unfold nar at ha hb; split <;> omega
theorem distance_eq {a b : Int} (ha : nar a) (hb : nar b) : comb_distance.run .lim (a, b, ()) = some (dist a b) := by
  unfold nar at ha hb
  simp (disch := omega) only [smallI_t, inB_t, wrap64, dec_t, dec_f, dec_not, dec_and, dec_or, cond_ite, cond_true, cond_false, Option.bind_some, Option.bind_none, Bool.or_true, Bool.true_or, Bool.and_true, Bool.true_and, Bool.and_false, Bool.false_and, Bool.or_false, Bool.false_or, Bool.not_true, Bool.not_false, Bool.or_self, Bool.and_self, Bool.not_not, if_true, if_false, and_self, true_and, and_true, and_false, false_and, or_true, true_or, or_false, false_or, not_true_eq_false, not_false_eq_true, decide_true, decide_false, eq_self, if_pos, if_neg, mx_eq, mn_eq, comb_distance.run]
  unfold dist; split <;> congr 1 <;> omega
theorem rdistance_eq {a b : Int} (ha : nar a) (hb : nar b) : pendulumref30_distance.run .lim (a, b, ()) = some (dist a b) := by
  unfold nar at ha hb
  simp (disch := omega) only [smallI_t, inB_t, wrap64, dec_t, dec_f, dec_not, dec_and, dec_or, cond_ite, cond_true, cond_false, Option.bind_some, Option.bind_none, Bool.or_true, Bool.true_or, Bool.and_true, Bool.true_and, Bool.and_false, Bool.false_and, Bool.or_false, Bool.false_or, Bool.not_true, Bool.not_false, Bool.or_self, Bool.and_self, Bool.not_not, if_true, if_false, and_self, true_and, and_true, and_false, false_and, or_true, true_or, or_false, false_or, not_true_eq_false, not_false_eq_true, decide_true, decide_false, eq_self, if_pos, if_neg, mx_eq, mn_eq, pendulumref30_distance.run]
  unfold dist; split <;> rfl
def far (l : List Peer) (k : Int) : Int := if 0 ≤ k ∧ k < l.length then acc (fun i => dist (pk l i).1 (rd ((0 : Int), ((0 : Int), (0 : Int))) l k).1) l.length else 0
theorem fit_nar {p : Peer} (h : fitP p) : nar p.1 := by unfold nar; obtain ⟨h, -⟩ := h; omega
theorem fit_rd {l : List Peer} (h : fitL l) {k : Int} (h1 : 0 ≤ k) (h2 : k < l.length) : fitP (rd ((0 : Int), ((0 : Int), (0 : Int))) l k) := by
  have := h.2 k.toNat (by omega)
  simpa [pk, Int.toNat_of_nonneg h1] using this
theorem far_eq {l : List Peer} (h : fitL l) (k : Int) : comb_Far.run .lim (l, k, ()) = some (far l k) := by
  have h10 := h.1
  by_cases hk : 0 ≤ k ∧ k < l.length
  · have hb : ∀ m : Nat, m ≤ l.length → 0 ≤ acc (fun i => dist (pk l i).1 (rd ((0 : Int), ((0 : Int), (0 : Int))) l k).1) m ∧ acc (fun i => dist (pk l i).1 (rd ((0 : Int), ((0 : Int), (0 : Int))) l k).1) m ≤ 20000000000000000 := by
      intro m hm
      have := acc_bd (n := m) (g := fun i => dist (pk l i).1 (rd ((0 : Int), ((0 : Int), (0 : Int))) l k).1) (a := 0) (b := 2000000000000000) (fun i hi => dist_bd (fit_nar (h.2 i (by omega))) (fit_nar (fit_rd h hk.1 hk.2)))
      omega
    have step : ∀ m, m < l.length → comb_Far.l0 .lim (acc (fun i => dist (pk l i).1 (rd ((0 : Int), ((0 : Int), (0 : Int))) l k).1) m, l, (l.length : Int), (m : Int), l, k, ()) = comb_Far.l0 .lim (acc (fun i => dist (pk l i).1 (rd ((0 : Int), ((0 : Int), (0 : Int))) l k).1) (m + 1), l, (l.length : Int), ((m + 1 : Nat) : Int), l, k, ()) := by
      intro m hm
      rw [comb_Far.q0]
      have h1 := hb m (by omega)
      have h2 := hb (m + 1) (by omega)
      rw [acc] at h2 ⊢
      simp (disch := omega) only [smallI_t, inB_t, wrap64, dec_t, dec_f, dec_not, dec_and, dec_or, cond_ite, cond_true, cond_false, Option.bind_some, Option.bind_none, Bool.or_true, Bool.true_or, Bool.and_true, Bool.true_and, Bool.and_false, Bool.false_and, Bool.or_false, Bool.false_or, Bool.not_true, Bool.not_false, Bool.or_self, Bool.and_self, Bool.not_not, if_true, if_false, and_self, true_and, and_true, and_false, false_and, or_true, true_or, or_false, false_or, not_true_eq_false, not_false_eq_true, decide_true, decide_false, eq_self, if_pos, if_neg, mx_eq, mn_eq, comb_Far.b0, rd_pk, distance_eq (fit_nar (h.2 m hm)) (fit_nar (fit_rd h hk.1 hk.2))]
      rfl
    have := loop_to (fun m : Nat => (acc (fun i => dist (pk l i).1 (rd ((0 : Int), ((0 : Int), (0 : Int))) l k).1) m, l, (l.length : Int), (m : Int), l, k, ())) step
    simp (disch := omega) only [smallI_t, inB_t, wrap64, dec_t, dec_f, dec_not, dec_and, dec_or, cond_ite, cond_true, cond_false, Option.bind_some, Option.bind_none, Bool.or_true, Bool.true_or, Bool.and_true, Bool.true_and, Bool.and_false, Bool.false_and, Bool.or_false, Bool.false_or, Bool.not_true, Bool.not_false, Bool.or_self, Bool.and_self, Bool.not_not, if_true, if_false, and_self, true_and, and_true, and_false, false_and, or_true, true_or, or_false, false_or, not_true_eq_false, not_false_eq_true, decide_true, decide_false, eq_self, if_pos, if_neg, mx_eq, mn_eq, comb_Far.run]
    rw [show ((0 : Int), l, (l.length : Int), (0 : Int), l, k, ()) = (acc (fun i => dist (pk l i).1 (rd ((0 : Int), ((0 : Int), (0 : Int))) l k).1) 0, l, (l.length : Int), ((0 : Nat) : Int), l, k, ()) from rfl, this, comb_Far.q0]
    simp (disch := omega) only [smallI_t, inB_t, wrap64, dec_t, dec_f, dec_not, dec_and, dec_or, cond_ite, cond_true, cond_false, Option.bind_some, Option.bind_none, Bool.or_true, Bool.true_or, Bool.and_true, Bool.true_and, Bool.and_false, Bool.false_and, Bool.or_false, Bool.false_or, Bool.not_true, Bool.not_false, Bool.or_self, Bool.and_self, Bool.not_not, if_true, if_false, and_self, true_and, and_true, and_false, false_and, or_true, true_or, or_false, false_or, not_true_eq_false, not_false_eq_true, decide_true, decide_false, eq_self, if_pos, if_neg, mx_eq, mn_eq, comb_Far.b0]
    rw [far, if_pos hk]
  · rw [far, if_neg hk]
    simp (disch := omega) only [smallI_t, inB_t, wrap64, dec_t, dec_f, dec_not, dec_and, dec_or, cond_ite, cond_true, cond_false, Option.bind_some, Option.bind_none, Bool.or_true, Bool.true_or, Bool.and_true, Bool.true_and, Bool.and_false, Bool.false_and, Bool.or_false, Bool.false_or, Bool.not_true, Bool.not_false, Bool.or_self, Bool.and_self, Bool.not_not, if_true, if_false, and_self, true_and, and_true, and_false, false_and, or_true, true_or, or_false, false_or, not_true_eq_false, not_false_eq_true, decide_true, decide_false, eq_self, if_pos, if_neg, mx_eq, mn_eq, comb_Far.run]
theorem rfar_eq {l : List Peer} (h : fitL l) (k : Int) : pendulumref30_Far.run .lim (l, k, ()) = some (far l k) := by
  have h10 := h.1
  by_cases hk : 0 ≤ k ∧ k < l.length
  · have hb : ∀ m : Nat, m ≤ l.length → 0 ≤ acc (fun i => dist (pk l i).1 (rd ((0 : Int), ((0 : Int), (0 : Int))) l k).1) m ∧ acc (fun i => dist (pk l i).1 (rd ((0 : Int), ((0 : Int), (0 : Int))) l k).1) m ≤ 20000000000000000 := by
      intro m hm
      have := acc_bd (n := m) (g := fun i => dist (pk l i).1 (rd ((0 : Int), ((0 : Int), (0 : Int))) l k).1) (a := 0) (b := 2000000000000000) (fun i hi => dist_bd (fit_nar (h.2 i (by omega))) (fit_nar (fit_rd h hk.1 hk.2)))
      omega
    have step : ∀ m, m < l.length → pendulumref30_Far.l0 .lim (l, k, acc (fun i => dist (pk l i).1 (rd ((0 : Int), ((0 : Int), (0 : Int))) l k).1) m, (m : Int), ()) = pendulumref30_Far.l0 .lim (l, k, acc (fun i => dist (pk l i).1 (rd ((0 : Int), ((0 : Int), (0 : Int))) l k).1) (m + 1), ((m + 1 : Nat) : Int), ()) := by
      intro m hm
      rw [pendulumref30_Far.q0]
      have h1 := hb m (by omega)
      have h2 := hb (m + 1) (by omega)
      rw [acc] at h2 ⊢
      simp (disch := omega) only [smallI_t, inB_t, wrap64, dec_t, dec_f, dec_not, dec_and, dec_or, cond_ite, cond_true, cond_false, Option.bind_some, Option.bind_none, Bool.or_true, Bool.true_or, Bool.and_true, Bool.true_and, Bool.and_false, Bool.false_and, Bool.or_false, Bool.false_or, Bool.not_true, Bool.not_false, Bool.or_self, Bool.and_self, Bool.not_not, if_true, if_false, and_self, true_and, and_true, and_false, false_and, or_true, true_or, or_false, false_or, not_true_eq_false, not_false_eq_true, decide_true, decide_false, eq_self, if_pos, if_neg, mx_eq, mn_eq, pendulumref30_Far.b0, rd_pk, rdistance_eq (fit_nar (h.2 m hm)) (fit_nar (fit_rd h hk.1 hk.2))]
      rfl
    have := loop_to (fun m : Nat => (l, k, acc (fun i => dist (pk l i).1 (rd ((0 : Int), ((0 : Int), (0 : Int))) l k).1) m, (m : Int), ())) step
    simp (disch := omega) only [smallI_t, inB_t, wrap64, dec_t, dec_f, dec_not, dec_and, dec_or, cond_ite, cond_true, cond_false, Option.bind_some, Option.bind_none, Bool.or_true, Bool.true_or, Bool.and_true, Bool.true_and, Bool.and_false, Bool.false_and, Bool.or_false, Bool.false_or, Bool.not_true, Bool.not_false, Bool.or_self, Bool.and_self, Bool.not_not, if_true, if_false, and_self, true_and, and_true, and_false, false_and, or_true, true_or, or_false, false_or, not_true_eq_false, not_false_eq_true, decide_true, decide_false, eq_self, if_pos, if_neg, mx_eq, mn_eq, pendulumref30_Far.run]
    rw [show (l, k, (0 : Int), (0 : Int), ()) = (l, k, acc (fun i => dist (pk l i).1 (rd ((0 : Int), ((0 : Int), (0 : Int))) l k).1) 0, ((0 : Nat) : Int), ()) from rfl, this, pendulumref30_Far.q0]
    simp (disch := omega) only [smallI_t, inB_t, wrap64, dec_t, dec_f, dec_not, dec_and, dec_or, cond_ite, cond_true, cond_false, Option.bind_some, Option.bind_none, Bool.or_true, Bool.true_or, Bool.and_true, Bool.true_and, Bool.and_false, Bool.false_and, Bool.or_false, Bool.false_or, Bool.not_true, Bool.not_false, Bool.or_self, Bool.and_self, Bool.not_not, if_true, if_false, and_self, true_and, and_true, and_false, false_and, or_true, true_or, or_false, false_or, not_true_eq_false, not_false_eq_true, decide_true, decide_false, eq_self, if_pos, if_neg, mx_eq, mn_eq, pendulumref30_Far.b0]
    rw [far, if_pos hk]
  · rw [far, if_neg hk]
    simp (disch := omega) only [smallI_t, inB_t, wrap64, dec_t, dec_f, dec_not, dec_and, dec_or, cond_ite, cond_true, cond_false, Option.bind_some, Option.bind_none, Bool.or_true, Bool.true_or, Bool.and_true, Bool.true_and, Bool.and_false, Bool.false_and, Bool.or_false, Bool.false_or, Bool.not_true, Bool.not_false, Bool.or_self, Bool.and_self, Bool.not_not, if_true, if_false, and_self, true_and, and_true, and_false, false_and, or_true, true_or, or_false, false_or, not_true_eq_false, not_false_eq_true, decide_true, decide_false, eq_self, if_pos, if_neg, mx_eq, mn_eq, pendulumref30_Far.run]
end Go.AM
end

section
namespace Go.AM
def wall (l : List Peer) (k : Nat) : Int := acc (fun i => wt (pk l i)) k
def wsum (l : List Peer) (k : Nat) : Int := acc (fun i => (pk l i).1 * wt (pk l i)) k
theorem wall_bd {l : List Peer} (h : fitL l) {k : Nat} (hk : k ≤ l.length) : k ≤ wall l k ∧ wall l k ≤ k * 4096 := by
  have := acc_bd (n := k) (g := fun i => wt (pk l i)) (a := 1) (b := 4096) (fun i hi => wt_bd _ (h.2 i (by omega)).2.1.1)
  unfold wall; omega
theorem wprod_bd {p : Peer} (h : fitP p) : -576460752303423488 ≤ p.1 * wt p ∧ p.1 * wt p ≤ 576460752303423488 := by
  have h1 := wt_bd p h.2.1.1
  have := mul_bd (x := p.1) (w := wt p) (a := 140737488355328) (b := 4096) (by have := h.1; omega) (by have := h.1; omega) (by omega) (by omega) (by decide)
  omega
theorem wsum_bd {l : List Peer} (h : fitL l) {k : Nat} (hk : k ≤ l.length) : -5764607523034234880 ≤ wsum l k ∧ wsum l k ≤ 5764607523034234880 := by
  have h10 := h.1
  have := acc_bd (n := k) (g := fun i => (pk l i).1 * wt (pk l i)) (a := -576460752303423488) (b := 576460752303423488) (fun i hi => wprod_bd (h.2 i (by omega)))
  unfold wsum; omega
/-- The mean lies between. -/
theorem mean_bd {l : List Peer} (h : fitL l) {a b : Int} (hb : ∀ k, k < l.length → a ≤ (pk l k).1 ∧ (pk l k).1 ≤ b) {n : Nat} (hn : n ≤ l.length) : a * wall l n ≤ wsum l n ∧ wsum l n ≤ b * wall l n := by
  induction n with
  | zero => simp [wall, wsum, acc]
  | succ n ih =>
    have h1 := ih (by omega)
    have h2 := hb n (by omega)
    have h3 := wt_bd _ (h.2 n (by omega)).2.1.1
    unfold wall wsum at h1 ⊢
    rw [acc, acc, Int.mul_add, Int.mul_add]
    have e1 : a * wt (pk l n) ≤ (pk l n).1 * wt (pk l n) := Int.mul_le_mul_of_nonneg_right h2.1 (by omega)
    have e2 : (pk l n).1 * wt (pk l n) ≤ b * wt (pk l n) := Int.mul_le_mul_of_nonneg_right h2.2 (by omega)
    omega
def off (l : List Peer) : Int := wsum l l.length / wall l l.length
theorem off_bd {l : List Peer} (h : fitL l) (h0 : 0 < l.length) {a b : Int} (hb : ∀ k, k < l.length → a ≤ (pk l k).1 ∧ (pk l k).1 ≤ b) : a ≤ off l ∧ off l ≤ b := by
  have h1 := mean_bd h hb (Nat.le_refl _)
  have h2 := wall_bd h (Nat.le_refl _)
  unfold off
  constructor
  · exact (Int.le_ediv_iff_mul_le (by omega)).2 h1.1
  · have : wsum l l.length / wall l l.length < b + 1 := (Int.ediv_lt_iff_lt_mul (by omega)).2 (by rw [Int.add_mul]; omega)
    omega
theorem off_fit {l : List Peer} (h : fitL l) (h0 : 0 < l.length) : -140737488355328 ≤ off l ∧ off l ≤ 140737488355328 := off_bd h h0 fun k hk => (h.2 k hk).1
def root (l : List Peer) (z : Int) (k : Nat) : Int := fold (fun r i => min r (pk l i).2.1) z k
def jit (l : List Peer) (o : Int) (k : Nat) : Int := fold (fun j i => min (max j (dist (pk l i).1 o)) 140737488355328) 0 k
theorem root_succ (l : List Peer) (z : Int) (k : Nat) : root l z (k + 1) = min (root l z k) (pk l k).2.1 := rfl
theorem jit_succ (l : List Peer) (o : Int) (k : Nat) : jit l o (k + 1) = min (max (jit l o k) (dist (pk l k).1 o)) 140737488355328 := rfl
theorem wall_succ (l : List Peer) (k : Nat) : wall l (k + 1) = wall l k + wt (pk l k) := rfl
theorem wsum_succ (l : List Peer) (k : Nat) : wsum l (k + 1) = wsum l k + (pk l k).1 * wt (pk l k) := rfl
theorem root_bd {l : List Peer} (h : fitL l) {z : Int} (hz : 0 ≤ z) {k : Nat} (hk : k ≤ l.length) : 0 ≤ root l z k ∧ root l z k ≤ z := by
  induction k with
  | zero => exact ⟨hz, Int.le_refl _⟩
  | succ k ih => rw [root_succ]; have := ih (by omega); have := (h.2 k (by omega)).2.1; omega
theorem jit_bd (l : List Peer) (o : Int) (k : Nat) : 0 ≤ jit l o k ∧ jit l o k ≤ 140737488355328 := by
  induction k with
  | zero => exact ⟨Int.le_refl 0, by show (0 : Int) ≤ _; decide⟩
  | succ k ih => rw [jit_succ]; omega
theorem root_first {l : List Peer} (h : fitL l) (h0 : 0 < l.length) {k : Nat} (hk : k ≤ l.length) : root l (pk l 0).2.1 k = min (pk l 0).2.1 (root l 140737488355328 k) ∧ (0 < k → root l 140737488355328 k ≤ (pk l 0).2.1) := by
  have hz := (h.2 0 h0).2.1
  induction k with
  | zero => refine ⟨?_, fun h => absurd h (by decide)⟩; show _ = min _ (140737488355328 : Int); show (pk l 0).2.1 = _; omega
  | succ k ih =>
    have := ih (by omega)
    rw [root_succ, root_succ]
    refine ⟨by omega, fun _ => ?_⟩
    by_cases hk0 : k = 0
    · subst hk0; omega
    · have := this.2 (by omega); omega
theorem combine0 {l : List Peer} (h : fitL l) : comb_Combine.l0 .lim ((0 : Int), l, (l.length : Int), (0 : Int), l, (0 : Int), (0 : Int), (0 : Int), ()) = some (wall l l.length, l, 0, 0, 0, ()) := by
  have h10 := h.1
  have step : ∀ m, m < l.length → comb_Combine.l0 .lim (wall l m, l, (l.length : Int), (m : Int), l, (0 : Int), (0 : Int), (0 : Int), ()) = comb_Combine.l0 .lim (wall l (m + 1), l, (l.length : Int), ((m + 1 : Nat) : Int), l, (0 : Int), (0 : Int), (0 : Int), ()) := by
    intro m hm
    rw [comb_Combine.q0]
    have h1 := wall_bd h (k := m) (by omega)
    have h2 := wall_bd h (k := m + 1) (by omega)
    rw [wall_succ] at h2 ⊢
    simp (disch := omega) only [smallI_t, inB_t, wrap64, dec_t, dec_f, dec_not, dec_and, dec_or, cond_ite, cond_true, cond_false, Option.bind_some, Option.bind_none, Bool.or_true, Bool.true_or, Bool.and_true, Bool.true_and, Bool.and_false, Bool.false_and, Bool.or_false, Bool.false_or, Bool.not_true, Bool.not_false, Bool.or_self, Bool.and_self, Bool.not_not, if_true, if_false, and_self, true_and, and_true, and_false, false_and, or_true, true_or, or_false, false_or, not_true_eq_false, not_false_eq_true, decide_true, decide_false, eq_self, if_pos, if_neg, mx_eq, mn_eq, comb_Combine.b0, rd_pk, weight_eq _ (h.2 m hm)]
    rfl
  have := loop_to (fun m : Nat => (wall l m, l, (l.length : Int), (m : Int), l, (0 : Int), (0 : Int), (0 : Int), ())) step
  refine this.trans ?_
  rw [comb_Combine.q0]
  simp (disch := omega) only [smallI_t, inB_t, wrap64, dec_t, dec_f, dec_not, dec_and, dec_or, cond_ite, cond_true, cond_false, Option.bind_some, Option.bind_none, Bool.or_true, Bool.true_or, Bool.and_true, Bool.true_and, Bool.and_false, Bool.false_and, Bool.or_false, Bool.false_or, Bool.not_true, Bool.not_false, Bool.or_self, Bool.and_self, Bool.not_not, if_true, if_false, and_self, true_and, and_true, and_false, false_and, or_true, true_or, or_false, false_or, not_true_eq_false, not_false_eq_true, decide_true, decide_false, eq_self, if_pos, if_neg, mx_eq, mn_eq, comb_Combine.b0]
theorem combine1 {l : List Peer} (h : fitL l) (a : Int) : comb_Combine.l1 .lim ((0 : Int), l, (l.length : Int), (0 : Int), l, a, (0 : Int), (0 : Int), (0 : Int), ()) = some (wsum l l.length, l, a, 0, 0, 0, ()) := by
  have h10 := h.1
  have step : ∀ m, m < l.length → comb_Combine.l1 .lim (wsum l m, l, (l.length : Int), (m : Int), l, a, (0 : Int), (0 : Int), (0 : Int), ()) = comb_Combine.l1 .lim (wsum l (m + 1), l, (l.length : Int), ((m + 1 : Nat) : Int), l, a, (0 : Int), (0 : Int), (0 : Int), ()) := by
    intro m hm
    rw [comb_Combine.q1]
    have h1 := wsum_bd h (k := m) (by omega)
    have h2 := wsum_bd h (k := m + 1) (by omega)
    have h3 := wprod_bd (h.2 m hm)
    rw [wsum_succ] at h2 ⊢
    simp (disch := omega) only [smallI_t, inB_t, wrap64, dec_t, dec_f, dec_not, dec_and, dec_or, cond_ite, cond_true, cond_false, Option.bind_some, Option.bind_none, Bool.or_true, Bool.true_or, Bool.and_true, Bool.true_and, Bool.and_false, Bool.false_and, Bool.or_false, Bool.false_or, Bool.not_true, Bool.not_false, Bool.or_self, Bool.and_self, Bool.not_not, if_true, if_false, and_self, true_and, and_true, and_false, false_and, or_true, true_or, or_false, false_or, not_true_eq_false, not_false_eq_true, decide_true, decide_false, eq_self, if_pos, if_neg, mx_eq, mn_eq, comb_Combine.b1, rd_pk, comb_Combine_1.run, weight_eq _ (h.2 m hm)]
    rfl
  have := loop_to (fun m : Nat => (wsum l m, l, (l.length : Int), (m : Int), l, a, (0 : Int), (0 : Int), (0 : Int), ())) step
  refine this.trans ?_
  rw [comb_Combine.q1]
  simp (disch := omega) only [smallI_t, inB_t, wrap64, dec_t, dec_f, dec_not, dec_and, dec_or, cond_ite, cond_true, cond_false, Option.bind_some, Option.bind_none, Bool.or_true, Bool.true_or, Bool.and_true, Bool.true_and, Bool.and_false, Bool.false_and, Bool.or_false, Bool.false_or, Bool.not_true, Bool.not_false, Bool.or_self, Bool.and_self, Bool.not_not, if_true, if_false, and_self, true_and, and_true, and_false, false_and, or_true, true_or, or_false, false_or, not_true_eq_false, not_false_eq_true, decide_true, decide_false, eq_self, if_pos, if_neg, mx_eq, mn_eq, comb_Combine.b1]
theorem combine2 {l : List Peer} (h : fitL l) {o : Int} (ho : nar o) : comb_Combine.l2 .lim ((140737488355328 : Int), l, (l.length : Int), (0 : Int), (0 : Int), (0 : Int), (0 : Int), o, (0 : Int), (0 : Int), ()) = some (root l 140737488355328 l.length, 0, 0, 0, o, 0, jit l o l.length, ()) := by
  have h10 := h.1
  have step : ∀ m, m < l.length → comb_Combine.l2 .lim (root l 140737488355328 m, l, (l.length : Int), (m : Int), (0 : Int), (0 : Int), (0 : Int), o, (0 : Int), jit l o m, ()) = comb_Combine.l2 .lim (root l 140737488355328 (m + 1), l, (l.length : Int), ((m + 1 : Nat) : Int), (0 : Int), (0 : Int), (0 : Int), o, (0 : Int), jit l o (m + 1), ()) := by
    intro m hm
    rw [comb_Combine.q2]
    rw [root_succ, jit_succ]
    simp (disch := omega) only [smallI_t, inB_t, wrap64, dec_t, dec_f, dec_not, dec_and, dec_or, cond_ite, cond_true, cond_false, Option.bind_some, Option.bind_none, Bool.or_true, Bool.true_or, Bool.and_true, Bool.true_and, Bool.and_false, Bool.false_and, Bool.or_false, Bool.false_or, Bool.not_true, Bool.not_false, Bool.or_self, Bool.and_self, Bool.not_not, if_true, if_false, and_self, true_and, and_true, and_false, false_and, or_true, true_or, or_false, false_or, not_true_eq_false, not_false_eq_true, decide_true, decide_false, eq_self, if_pos, if_neg, mx_eq, mn_eq, comb_Combine.b2, rd_pk, distance_eq (fit_nar (h.2 m hm)) ho]
    rfl
  have := loop_to (fun m : Nat => (root l 140737488355328 m, l, (l.length : Int), (m : Int), (0 : Int), (0 : Int), (0 : Int), o, (0 : Int), jit l o m, ())) step
  refine this.trans ?_
  rw [comb_Combine.q2]
  simp (disch := omega) only [smallI_t, inB_t, wrap64, dec_t, dec_f, dec_not, dec_and, dec_or, cond_ite, cond_true, cond_false, Option.bind_some, Option.bind_none, Bool.or_true, Bool.true_or, Bool.and_true, Bool.true_and, Bool.and_false, Bool.false_and, Bool.or_false, Bool.false_or, Bool.not_true, Bool.not_false, Bool.or_self, Bool.and_self, Bool.not_not, if_true, if_false, and_self, true_and, and_true, and_false, false_and, or_true, true_or, or_false, false_or, not_true_eq_false, not_false_eq_true, decide_true, decide_false, eq_self, if_pos, if_neg, mx_eq, mn_eq, comb_Combine.b2]
def comb (l : List Peer) : Peer := (off l, (min (root l 140737488355328 l.length + jit l (off l) l.length) 140737488355328, jit l (off l) l.length))
theorem combine_eq {l : List Peer} (h : fitL l) (h0 : 0 < l.length) : comb_Combine.run .lim (l, ()) = some (comb l, 0, ()) := by
  have h10 := h.1
  have h1 := wall_bd h (Nat.le_refl _)
  have h2 := wsum_bd h (Nat.le_refl _)
  have h3 := off_fit h h0
  have h4 := flr_eq (s := wsum l l.length) (a := wall l l.length) (by omega)
  have h5 := root_bd h (z := 140737488355328) (by decide) (Nat.le_refl _)
  have h6 := jit_bd l (off l) l.length
  change _ = off l at h4
  have ho : nar (off l) := by unfold nar; omega
  simp (disch := omega) only [smallI_t, inB_t, wrap64, dec_t, dec_f, dec_not, dec_and, dec_or, cond_ite, cond_true, cond_false, Option.bind_some, Option.bind_none, Bool.or_true, Bool.true_or, Bool.and_true, Bool.true_and, Bool.and_false, Bool.false_and, Bool.or_false, Bool.false_or, Bool.not_true, Bool.not_false, Bool.or_self, Bool.and_self, Bool.not_not, if_true, if_false, and_self, true_and, and_true, and_false, false_and, or_true, true_or, or_false, false_or, not_true_eq_false, not_false_eq_true, decide_true, decide_false, eq_self, if_pos, if_neg, mx_eq, mn_eq, comb_Combine.run, combine0 h, combine1 h]
  split
  · rename_i hc
    rw [if_pos hc] at h4
    rw [h4]
    simp (disch := omega) only [smallI_t, inB_t, wrap64, dec_t, dec_f, dec_not, dec_and, dec_or, cond_ite, cond_true, cond_false, Option.bind_some, Option.bind_none, Bool.or_true, Bool.true_or, Bool.and_true, Bool.true_and, Bool.and_false, Bool.false_and, Bool.or_false, Bool.false_or, Bool.not_true, Bool.not_false, Bool.or_self, Bool.and_self, Bool.not_not, if_true, if_false, and_self, true_and, and_true, and_false, false_and, or_true, true_or, or_false, false_or, not_true_eq_false, not_false_eq_true, decide_true, decide_false, eq_self, if_pos, if_neg, mx_eq, mn_eq, combine2 h ho]
    rfl
  · rename_i hc
    rw [if_neg hc] at h4
    rw [h4]
    simp (disch := omega) only [smallI_t, inB_t, wrap64, dec_t, dec_f, dec_not, dec_and, dec_or, cond_ite, cond_true, cond_false, Option.bind_some, Option.bind_none, Bool.or_true, Bool.true_or, Bool.and_true, Bool.true_and, Bool.and_false, Bool.false_and, Bool.or_false, Bool.false_or, Bool.not_true, Bool.not_false, Bool.or_self, Bool.and_self, Bool.not_not, if_true, if_false, and_self, true_and, and_true, and_false, false_and, or_true, true_or, or_false, false_or, not_true_eq_false, not_false_eq_true, decide_true, decide_false, eq_self, if_pos, if_neg, mx_eq, mn_eq, combine2 h ho]
    rfl
theorem combine_nil : comb_Combine.run .lim (([] : List Peer), ()) = some (((0 : Int), ((0 : Int), (0 : Int))), (19 : Int), ()) := by
  simp (disch := omega) only [smallI_t, inB_t, wrap64, dec_t, dec_f, dec_not, dec_and, dec_or, cond_ite, cond_true, cond_false, Option.bind_some, Option.bind_none, Bool.or_true, Bool.true_or, Bool.and_true, Bool.true_and, Bool.and_false, Bool.false_and, Bool.or_false, Bool.false_or, Bool.not_true, Bool.not_false, Bool.or_self, Bool.and_self, Bool.not_not, if_true, if_false, and_self, true_and, and_true, and_false, false_and, or_true, true_or, or_false, false_or, not_true_eq_false, not_false_eq_true, decide_true, decide_false, eq_self, if_pos, if_neg, mx_eq, mn_eq, comb_Combine.run, List.length_nil]
theorem rcombine0 {l : List Peer} (h : fitL l) (z : Int) : pendulumref30_Combine.l0 .lim (l, (0 : Int), (0 : Int), z, (0 : Int), (0 : Int), (0 : Int), (0 : Int), ()) = some (l, wsum l l.length, wall l l.length, root l z l.length, 0, 0, 0, ()) := by
  have h10 := h.1
  have step : ∀ m, m < l.length → pendulumref30_Combine.l0 .lim (l, wsum l m, wall l m, root l z m, (m : Int), (0 : Int), (0 : Int), (0 : Int), ()) = pendulumref30_Combine.l0 .lim (l, wsum l (m + 1), wall l (m + 1), root l z (m + 1), ((m + 1 : Nat) : Int), (0 : Int), (0 : Int), (0 : Int), ()) := by
    intro m hm
    rw [pendulumref30_Combine.q0]
    have h1 := wsum_bd h (k := m) (by omega)
    have h2 := wsum_bd h (k := m + 1) (by omega)
    have h3 := wprod_bd (h.2 m hm)
    have h4 := wall_bd h (k := m) (by omega)
    have h5 := wall_bd h (k := m + 1) (by omega)
    rw [wsum_succ] at h2 ⊢
    rw [wall_succ] at h5 ⊢
    rw [root_succ]
    simp (disch := omega) only [smallI_t, inB_t, wrap64, dec_t, dec_f, dec_not, dec_and, dec_or, cond_ite, cond_true, cond_false, Option.bind_some, Option.bind_none, Bool.or_true, Bool.true_or, Bool.and_true, Bool.true_and, Bool.and_false, Bool.false_and, Bool.or_false, Bool.false_or, Bool.not_true, Bool.not_false, Bool.or_self, Bool.and_self, Bool.not_not, if_true, if_false, and_self, true_and, and_true, and_false, false_and, or_true, true_or, or_false, false_or, not_true_eq_false, not_false_eq_true, decide_true, decide_false, eq_self, if_pos, if_neg, mx_eq, mn_eq, pendulumref30_Combine.b0, rd_pk, rweight_eq _ (h.2 m hm)]
    rfl
  have := loop_to (fun m : Nat => (l, wsum l m, wall l m, root l z m, (m : Int), (0 : Int), (0 : Int), (0 : Int), ())) step
  refine this.trans ?_
  rw [pendulumref30_Combine.q0]
  simp (disch := omega) only [smallI_t, inB_t, wrap64, dec_t, dec_f, dec_not, dec_and, dec_or, cond_ite, cond_true, cond_false, Option.bind_some, Option.bind_none, Bool.or_true, Bool.true_or, Bool.and_true, Bool.true_and, Bool.and_false, Bool.false_and, Bool.or_false, Bool.false_or, Bool.not_true, Bool.not_false, Bool.or_self, Bool.and_self, Bool.not_not, if_true, if_false, and_self, true_and, and_true, and_false, false_and, or_true, true_or, or_false, false_or, not_true_eq_false, not_false_eq_true, decide_true, decide_false, eq_self, if_pos, if_neg, mx_eq, mn_eq, pendulumref30_Combine.b0]
theorem rcombine1 {l : List Peer} (h : fitL l) (z : Int) {o : Int} (ho : nar o) : pendulumref30_Combine.l1 .lim (l, z, (0 : Int), (0 : Int), (0 : Int), (0 : Int), o, (0 : Int), (0 : Int), ()) = some (z, 0, 0, 0, o, 0, jit l o l.length, ()) := by
  have h10 := h.1
  have step : ∀ m, m < l.length → pendulumref30_Combine.l1 .lim (l, z, (m : Int), (0 : Int), (0 : Int), (0 : Int), o, (0 : Int), jit l o m, ()) = pendulumref30_Combine.l1 .lim (l, z, ((m + 1 : Nat) : Int), (0 : Int), (0 : Int), (0 : Int), o, (0 : Int), jit l o (m + 1), ()) := by
    intro m hm
    rw [pendulumref30_Combine.q1]
    have h1 := jit_bd l o m
    rw [show jit l o (m + 1) = max (jit l o m) (min (dist (pk l m).1 o) 140737488355328) by rw [jit_succ]; omega]
    simp (disch := omega) only [smallI_t, inB_t, wrap64, dec_t, dec_f, dec_not, dec_and, dec_or, cond_ite, cond_true, cond_false, Option.bind_some, Option.bind_none, Bool.or_true, Bool.true_or, Bool.and_true, Bool.true_and, Bool.and_false, Bool.false_and, Bool.or_false, Bool.false_or, Bool.not_true, Bool.not_false, Bool.or_self, Bool.and_self, Bool.not_not, if_true, if_false, and_self, true_and, and_true, and_false, false_and, or_true, true_or, or_false, false_or, not_true_eq_false, not_false_eq_true, decide_true, decide_false, eq_self, if_pos, if_neg, mx_eq, mn_eq, pendulumref30_Combine.b1, rd_pk, rdistance_eq (fit_nar (h.2 m hm)) ho]
    rfl
  have := loop_to (fun m : Nat => (l, z, (m : Int), (0 : Int), (0 : Int), (0 : Int), o, (0 : Int), jit l o m, ())) step
  refine this.trans ?_
  rw [pendulumref30_Combine.q1]
  simp (disch := omega) only [smallI_t, inB_t, wrap64, dec_t, dec_f, dec_not, dec_and, dec_or, cond_ite, cond_true, cond_false, Option.bind_some, Option.bind_none, Bool.or_true, Bool.true_or, Bool.and_true, Bool.true_and, Bool.and_false, Bool.false_and, Bool.or_false, Bool.false_or, Bool.not_true, Bool.not_false, Bool.or_self, Bool.and_self, Bool.not_not, if_true, if_false, and_self, true_and, and_true, and_false, false_and, or_true, true_or, or_false, false_or, not_true_eq_false, not_false_eq_true, decide_true, decide_false, eq_self, if_pos, if_neg, mx_eq, mn_eq, pendulumref30_Combine.b1]
theorem rcombine_eq {l : List Peer} (h : fitL l) (h0 : 0 < l.length) : pendulumref30_Combine.run .lim (l, ()) = some (comb l, 0, ()) := by
  have h10 := h.1
  have h1 := wall_bd h (Nat.le_refl _)
  have h2 := wsum_bd h (Nat.le_refl _)
  have h3 := off_fit h h0
  have h4 := flr_eq (s := wsum l l.length) (a := wall l l.length) (by omega)
  have h5 := root_bd h (z := 140737488355328) (by decide) (Nat.le_refl _)
  have h6 := jit_bd l (off l) l.length
  have h7 := root_first h h0 (Nat.le_refl _)
  have h8 := h7.2 h0
  have h9 : root l (pk l 0).2.1 l.length = root l 140737488355328 l.length := by omega
  change _ = off l at h4
  have ho : nar (off l) := by unfold nar; omega
  have hf : pendulumref30_floor.run .lim (wsum l l.length, wall l l.length, ()) = some (off l) := by
    simp (disch := omega) only [smallI_t, inB_t, wrap64, dec_t, dec_f, dec_not, dec_and, dec_or, cond_ite, cond_true, cond_false, Option.bind_some, Option.bind_none, Bool.or_true, Bool.true_or, Bool.and_true, Bool.true_and, Bool.and_false, Bool.false_and, Bool.or_false, Bool.false_or, Bool.not_true, Bool.not_false, Bool.or_self, Bool.and_self, Bool.not_not, if_true, if_false, and_self, true_and, and_true, and_false, false_and, or_true, true_or, or_false, false_or, not_true_eq_false, not_false_eq_true, decide_true, decide_false, eq_self, if_pos, if_neg, mx_eq, mn_eq, pendulumref30_floor.run]
    split
    · rename_i hc
      rw [if_pos hc] at h4
      rw [h4]
    · rename_i hc
      rw [if_neg hc] at h4
      rw [h4]
  simp (disch := omega) only [smallI_t, inB_t, wrap64, dec_t, dec_f, dec_not, dec_and, dec_or, cond_ite, cond_true, cond_false, Option.bind_some, Option.bind_none, Bool.or_true, Bool.true_or, Bool.and_true, Bool.true_and, Bool.and_false, Bool.false_and, Bool.or_false, Bool.false_or, Bool.not_true, Bool.not_false, Bool.or_self, Bool.and_self, Bool.not_not, if_true, if_false, and_self, true_and, and_true, and_false, false_and, or_true, true_or, or_false, false_or, not_true_eq_false, not_false_eq_true, decide_true, decide_false, eq_self, if_pos, if_neg, mx_eq, mn_eq, pendulumref30_Combine.run, rcombine0 h, hf]
  rw [show root l (rd ((0 : Int), ((0 : Int), (0 : Int))) l 0).2.1 l.length = root l 140737488355328 l.length from h9]
  simp (disch := omega) only [smallI_t, inB_t, wrap64, dec_t, dec_f, dec_not, dec_and, dec_or, cond_ite, cond_true, cond_false, Option.bind_some, Option.bind_none, Bool.or_true, Bool.true_or, Bool.and_true, Bool.true_and, Bool.and_false, Bool.false_and, Bool.or_false, Bool.false_or, Bool.not_true, Bool.not_false, Bool.or_self, Bool.and_self, Bool.not_not, if_true, if_false, and_self, true_and, and_true, and_false, false_and, or_true, true_or, or_false, false_or, not_true_eq_false, not_false_eq_true, decide_true, decide_false, eq_self, if_pos, if_neg, mx_eq, mn_eq, rcombine1 h _ ho]
  rfl
theorem rcombine_nil : pendulumref30_Combine.run .lim (([] : List Peer), ()) = some (((0 : Int), ((0 : Int), (0 : Int))), (19 : Int), ()) := by
  simp (disch := omega) only [smallI_t, inB_t, wrap64, dec_t, dec_f, dec_not, dec_and, dec_or, cond_ite, cond_true, cond_false, Option.bind_some, Option.bind_none, Bool.or_true, Bool.true_or, Bool.and_true, Bool.true_and, Bool.and_false, Bool.false_and, Bool.or_false, Bool.false_or, Bool.not_true, Bool.not_false, Bool.or_self, Bool.and_self, Bool.not_not, if_true, if_false, and_self, true_and, and_true, and_false, false_and, or_true, true_or, or_false, false_or, not_true_eq_false, not_false_eq_true, decide_true, decide_false, eq_self, if_pos, if_neg, mx_eq, mn_eq, pendulumref30_Combine.run, List.length_nil]
end Go.AM
end

section
namespace Go.AM
def lowO (l : List Peer) (k : Nat) : Int := fold (fun r i => min r (pk l i).1) (pk l 0).1 k
def highO (l : List Peer) (k : Nat) : Int := fold (fun r i => max r (pk l i).1) (pk l 0).1 k
theorem lowO_succ (l : List Peer) (k : Nat) : lowO l (k + 1) = min (lowO l k) (pk l k).1 := rfl
theorem highO_succ (l : List Peer) (k : Nat) : highO l (k + 1) = max (highO l k) (pk l k).1 := rfl
theorem lohi (l : List Peer) (k : Nat) : ∀ i, i < k → lowO l k ≤ (pk l i).1 ∧ (pk l i).1 ≤ highO l k := by
  induction k with
  | zero => intro i h; omega
  | succ k ih =>
    intro i h
    rw [lowO_succ, highO_succ]
    by_cases hk : i = k
    · subst hk; omega
    · have := ih i (by omega); omega
theorem jit_all (l : List Peer) (o : Int) (k : Nat) : ∀ i, i < k → dist (pk l i).1 o ≤ jit l o k ∨ jit l o k = 140737488355328 := by
  induction k with
  | zero => intro i h; omega
  | succ k ih =>
    intro i h
    rw [jit_succ]
    have h2 := jit_bd l o k
    by_cases hk : i = k
    · subst hk; omega
    · have := ih i (by omega); omega
theorem jit_zero (l : List Peer) (o : Int) (k : Nat) (h : ∀ i, i < k → (pk l i).1 = o) : jit l o k = 0 := by
  induction k with
  | zero => rfl
  | succ k ih =>
    rw [jit_succ, ih fun i hi => h i (by omega), h k (by omega)]
    unfold dist; rw [if_neg (by omega)]; omega
theorem dist_mx {a b : Int} : max (a - b) (b - a) = dist a b := by unfold dist; split <;> omega
theorem between_true (l : List Peer) (hl : l.length ≤ 9223372036854775807) : pendulumlaw30_CombBetween.run .lim (l, ()) = some true := by
  rcases fit_eq l hl with h | ⟨h1, h⟩
  · simp (disch := omega) only [smallI_t, inB_t, wrap64, dec_t, dec_f, dec_not, dec_and, dec_or, cond_ite, cond_true, cond_false, Option.bind_some, Option.bind_none, Bool.or_true, Bool.true_or, Bool.and_true, Bool.true_and, Bool.and_false, Bool.false_and, Bool.or_false, Bool.false_or, Bool.not_true, Bool.not_false, Bool.or_self, Bool.and_self, Bool.not_not, if_true, if_false, and_self, true_and, and_true, and_false, false_and, or_true, true_or, or_false, false_or, not_true_eq_false, not_false_eq_true, decide_true, decide_false, eq_self, if_pos, if_neg, mx_eq, mn_eq, pendulumlaw30_CombBetween.run, h]
  · have h10 := h.1
    by_cases h0 : 0 < l.length
    · have step : ∀ m, m < l.length → pendulumlaw30_CombBetween.l0 .lim (l, (0 : Int), lowO l m, highO l m, l, (l.length : Int), (m : Int), (comb l).1, (comb l).2.1, (comb l).2.2, ()) = pendulumlaw30_CombBetween.l0 .lim (l, (0 : Int), lowO l (m + 1), highO l (m + 1), l, (l.length : Int), ((m + 1 : Nat) : Int), (comb l).1, (comb l).2.1, (comb l).2.2, ()) := by
        intro m hm
        rw [pendulumlaw30_CombBetween.q0, lowO_succ, highO_succ]
        simp (disch := omega) only [smallI_t, inB_t, wrap64, dec_t, dec_f, dec_not, dec_and, dec_or, cond_ite, cond_true, cond_false, Option.bind_some, Option.bind_none, Bool.or_true, Bool.true_or, Bool.and_true, Bool.true_and, Bool.and_false, Bool.false_and, Bool.or_false, Bool.false_or, Bool.not_true, Bool.not_false, Bool.or_self, Bool.and_self, Bool.not_not, if_true, if_false, and_self, true_and, and_true, and_false, false_and, or_true, true_or, or_false, false_or, not_true_eq_false, not_false_eq_true, decide_true, decide_false, eq_self, if_pos, if_neg, mx_eq, mn_eq, pendulumlaw30_CombBetween.b0, rd_pk]
        rfl
      have e0 : pendulumlaw30_CombBetween.l0 .lim (l, (0 : Int), (rd ((0 : Int), ((0 : Int), (0 : Int))) l 0).1, (rd ((0 : Int), ((0 : Int), (0 : Int))) l 0).1, l, (l.length : Int), (0 : Int), (comb l).1, (comb l).2.1, (comb l).2.2, ()) = some (l, 0, lowO l l.length, highO l l.length, (comb l).1, (comb l).2.1, (comb l).2.2, ()) := by
        refine (loop_to (fun m : Nat => (l, (0 : Int), lowO l m, highO l m, l, (l.length : Int), (m : Int), (comb l).1, (comb l).2.1, (comb l).2.2, ())) step).trans ?_
        rw [pendulumlaw30_CombBetween.q0]
        simp (disch := omega) only [smallI_t, inB_t, wrap64, dec_t, dec_f, dec_not, dec_and, dec_or, cond_ite, cond_true, cond_false, Option.bind_some, Option.bind_none, Bool.or_true, Bool.true_or, Bool.and_true, Bool.true_and, Bool.and_false, Bool.false_and, Bool.or_false, Bool.false_or, Bool.not_true, Bool.not_false, Bool.or_self, Bool.and_self, Bool.not_not, if_true, if_false, and_self, true_and, and_true, and_false, false_and, or_true, true_or, or_false, false_or, not_true_eq_false, not_false_eq_true, decide_true, decide_false, eq_self, if_pos, if_neg, mx_eq, mn_eq, pendulumlaw30_CombBetween.b0]
      have hb := lohi l l.length
      have ho := off_bd h h0 hb
      have ho' := off_fit h h0
      have hr := root_bd h (z := 140737488355328) (by decide) (Nat.le_refl _)
      have hj := jit_bd l (off l) l.length
      have step1 : ∀ m, m < l.length → pendulumlaw30_CombBetween.l1 .lim (lowO l l.length, highO l l.length, l, (l.length : Int), (m : Int), (comb l).1, (comb l).2.1, (comb l).2.2, ()) = pendulumlaw30_CombBetween.l1 .lim (lowO l l.length, highO l l.length, l, (l.length : Int), ((m + 1 : Nat) : Int), (comb l).1, (comb l).2.1, (comb l).2.2, ()) := by
        intro m hm
        rw [pendulumlaw30_CombBetween.q1]
        have h3 := (h.2 m hm).1
        have h4 : dist (pk l m).1 (comb l).1 ≤ (comb l).2.2 ∨ (comb l).2.2 = 140737488355328 := jit_all l (off l) l.length m hm
        have h5 : -140737488355328 ≤ (comb l).1 ∧ (comb l).1 ≤ 140737488355328 := ho'
        rcases h4 with h4 | h4
        · simp (disch := omega) only [smallI_t, inB_t, wrap64, dec_t, dec_f, dec_not, dec_and, dec_or, cond_ite, cond_true, cond_false, Option.bind_some, Option.bind_none, Bool.or_true, Bool.true_or, Bool.and_true, Bool.true_and, Bool.and_false, Bool.false_and, Bool.or_false, Bool.false_or, Bool.not_true, Bool.not_false, Bool.or_self, Bool.and_self, Bool.not_not, if_true, if_false, and_self, true_and, and_true, and_false, false_and, or_true, true_or, or_false, false_or, not_true_eq_false, not_false_eq_true, decide_true, decide_false, eq_self, if_pos, if_neg, mx_eq, mn_eq, pendulumlaw30_CombBetween.b1, rd_pk, dist_mx]
          rfl
        · simp (disch := omega) only [smallI_t, inB_t, wrap64, dec_t, dec_f, dec_not, dec_and, dec_or, cond_ite, cond_true, cond_false, Option.bind_some, Option.bind_none, Bool.or_true, Bool.true_or, Bool.and_true, Bool.true_and, Bool.and_false, Bool.false_and, Bool.or_false, Bool.false_or, Bool.not_true, Bool.not_false, Bool.or_self, Bool.and_self, Bool.not_not, if_true, if_false, and_self, true_and, and_true, and_false, false_and, or_true, true_or, or_false, false_or, not_true_eq_false, not_false_eq_true, decide_true, decide_false, eq_self, if_pos, if_neg, mx_eq, mn_eq, pendulumlaw30_CombBetween.b1, rd_pk, dist_mx]
          rfl
      have e1 : pendulumlaw30_CombBetween.l1 .lim (lowO l l.length, highO l l.length, l, (l.length : Int), (0 : Int), (comb l).1, (comb l).2.1, (comb l).2.2, ()) = some (.inr (lowO l l.length, highO l l.length, (comb l).1, (comb l).2.1, (comb l).2.2, ())) := by
        refine (loop_to (fun m : Nat => (lowO l l.length, highO l l.length, l, (l.length : Int), (m : Int), (comb l).1, (comb l).2.1, (comb l).2.2, ())) step1).trans ?_
        rw [pendulumlaw30_CombBetween.q1]
        simp (disch := omega) only [smallI_t, inB_t, wrap64, dec_t, dec_f, dec_not, dec_and, dec_or, cond_ite, cond_true, cond_false, Option.bind_some, Option.bind_none, Bool.or_true, Bool.true_or, Bool.and_true, Bool.true_and, Bool.and_false, Bool.false_and, Bool.or_false, Bool.false_or, Bool.not_true, Bool.not_false, Bool.or_self, Bool.and_self, Bool.not_not, if_true, if_false, and_self, true_and, and_true, and_false, false_and, or_true, true_or, or_false, false_or, not_true_eq_false, not_false_eq_true, decide_true, decide_false, eq_self, if_pos, if_neg, mx_eq, mn_eq, pendulumlaw30_CombBetween.b1]
      have hcl : (comb l).1 = off l := rfl
      have hcr : 0 ≤ (comb l).2.1 ∧ (comb l).2.1 ≤ 140737488355328 := by
        show 0 ≤ min _ _ ∧ min _ _ ≤ _; omega
      have hz : lowO l l.length = highO l l.length → (comb l).1 = lowO l l.length ∧ (comb l).2.2 = 0 := by
        intro heq
        have : off l = lowO l l.length := by omega
        refine ⟨this, jit_zero l (off l) l.length fun i hi => ?_⟩
        have := hb i hi; omega
      simp (disch := omega) only [smallI_t, inB_t, wrap64, dec_t, dec_f, dec_not, dec_and, dec_or, cond_ite, cond_true, cond_false, Option.bind_some, Option.bind_none, Bool.or_true, Bool.true_or, Bool.and_true, Bool.true_and, Bool.and_false, Bool.false_and, Bool.or_false, Bool.false_or, Bool.not_true, Bool.not_false, Bool.or_self, Bool.and_self, Bool.not_not, if_true, if_false, and_self, true_and, and_true, and_false, false_and, or_true, true_or, or_false, false_or, not_true_eq_false, not_false_eq_true, decide_true, decide_false, eq_self, if_pos, if_neg, mx_eq, mn_eq, pendulumlaw30_CombBetween.run, h1, combine_eq h h0, e0, e1]
    · have : l = [] := List.length_eq_zero_iff.1 (by omega)
      subst this
      simp (disch := omega) only [smallI_t, inB_t, wrap64, dec_t, dec_f, dec_not, dec_and, dec_or, cond_ite, cond_true, cond_false, Option.bind_some, Option.bind_none, Bool.or_true, Bool.true_or, Bool.and_true, Bool.true_and, Bool.and_false, Bool.false_and, Bool.or_false, Bool.false_or, Bool.not_true, Bool.not_false, Bool.or_self, Bool.and_self, Bool.not_not, if_true, if_false, and_self, true_and, and_true, and_false, false_and, or_true, true_or, or_false, false_or, not_true_eq_false, not_false_eq_true, decide_true, decide_false, eq_self, if_pos, if_neg, mx_eq, mn_eq, pendulumlaw30_CombBetween.run, h1, combine_nil, List.length_nil]
theorem between_ok : ∀ x, oks [.one (.lst (.pair (.int .i64) (.pair (.int .i64) (.int .i64))))] x → pendulumlaw30_CombBetween.run .lim x = some true := by
  intro x h
  match x with
  | (l, ()) => exact between_true l h.1.1
end Go.AM
end

section
namespace Go.Proofs.Ytbkblmaplmbicaa.combBetween
open Go.ChangeShapes Go.WideShapes Go.ChangeAt Go.RowKit
set_option linter.unusedVariables false
theorem own : ownKnob Try.prog.godebug = none := by kernel_rfl
theorem laidOut : laidOutB Try.prog = true := by kernel_rfl
set_option maxRecDepth 100000 in
theorem lifted (os : Os) (started : os.Started) (H : Type) (enc : TypeId × Value → H) :
    ReturnsInHanded {} Try.checked os 5 .any (Rows.combBetweenSpec.pre6 enc Try.prog Try.f5 Rows.combBetweenRow.domain false) (Rows.combBetweenSpec.post enc Try.prog Try.f5 false true false false) := by
  refine returnsInHanded_of_change_sized (C := Try.checked) own started (by kernel_rfl) Try.func5
    (ChangeSpec.witness6 (enc := enc) (C := Try.checked) false ⟨#[], #[.slice none 0 0], []⟩ 8 (by kernel_rfl) (by kernel_rfl) (by kernel_rfl) (by kernel_rfl)) ?_
  intro W base args ds gs before hval hW _ _ _
  exact Go.AM.law_contract (enc := enc) laidOut (Go.AM.pendulumlaw30_CombBetween.ok .lim) (by kernel_rfl) (by rfl) (by kernel_rfl) rfl (by kernel_rfl) rfl (fun ds h => by match ds, h with | [a], _ => rfl) Go.AM.between_ok W base args ds gs before hval hW
theorem over : Rows.combBetweenRow.holds Try.pinned (OpenSpec.ofChange Rows.combBetweenSpec) :=
  OpenClaim.holds_of_wide 5 Try.f5 rfl rfl rfl rfl rfl rfl rfl ⟨rfl, rfl, rfl, rfl, rfl⟩ rfl rfl rfl rfl rfl (by kernel_rfl) Try.func5 (by kernel_rfl)
    (of_decide_eq_true (by kernel_rfl)) (by unfold Func.isWrapper; first | (rw [if_pos (by decide +kernel)]; kernel_rfl) | (rw [if_neg (by decide +kernel)]; exact ⟨rfl, rfl⟩))
    (fun os started H enc _ => lifted os started H enc)
theorem proved : Rows.CombBetweenSaid := over
end Go.Proofs.Ytbkblmaplmbicaa.combBetween
namespace Go.Proofs.Ytbkblmaplmbicaa
/-- The row, under a short name, for the claim. -/
theorem combBetween_holds : Rows.CombBetweenSaid := combBetween.proved
end Go.Proofs.Ytbkblmaplmbicaa
end
