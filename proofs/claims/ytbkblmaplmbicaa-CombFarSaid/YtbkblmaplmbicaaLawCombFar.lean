import Derived.Test.YtbkblmaplmbicaaAm3
import Derived.Test.YtbkblmaplmbicaaProg
import Derived.Test.YtbkblmaplmbicaaRows
import Derived.WalkKit
import Derived.ProofKit
import Derived.OpenShut
import Derived.ShutString
import Derived.ChangeOld
import Derived.Below
import Derived.SizedLaws

/-! The law CombFar holds for every input: the code is walked by a sound abstract machine, and what it computes is plain arithmetic. -/
set_option linter.unusedSimpArgs false
set_option linter.unusedVariables false

section
namespace Go.AM
open Go.Proofs
noncomputable abbrev P := Try.prog
universe u
theorem all_nil {α : Type u} {p : α → Prop} : ∀ k ∈ ([] : List α), p k := fun k h => nomatch h
theorem all_cons {α : Type u} {p : α → Prop} {a : α} {l : List α} (h : p a) (k : ∀ x ∈ l, p x) : ∀ x ∈ a :: l, p x := fun x hx => by
  rcases List.mem_cons.1 hx with rfl | hx
  · exact h
  · exact k x hx
set_option maxRecDepth 100000
set_option linter.unusedVariables false
/-! ### pendulum/pendulumref29.within -/
noncomputable def pendulumref29_within.cs (m_ : Mode) : List Callee := []
theorem pendulumref29_within.csok (m_ : Mode) : ∀ k ∈ pendulumref29_within.cs m_, k.OK P := all_nil
def pendulumref29_within.inl : FuncId → Bool := fun f => [].any (Nat.beq f)
noncomputable def pendulumref29_within.run (m_ : Mode) : Int × Int × Int × Unit → Option (Bool) := fun v_ => match v_ with
| (n, low, high, ()) =>
  some ((decide (n ≥ low)) && (decide (n ≤ high)))
noncomputable def pendulumref29_within.c (m_ : Mode) : Callee := ⟨18, [.one (.int .i64), .one (.int .i64), .one (.int .i64)], .one (.sh (.one .bool)), pendulumref29_within.run m_⟩
theorem pendulumref29_within.k (m_ : Mode) : ∀ v : Shs (pendulumref29_within.c m_).args, runS P (oras (pendulumref29_within.cs m_)) pendulumref29_within.inl [] [] (pendulumref29_within.c m_).res.fin 20000 false (start 18 (encs (pendulumref29_within.c m_).args v)) = pendulumref29_within.run m_ v := by
  intro v_; exact (match v_ with | (n, low, high, ()) => by kernel_rfl)
theorem pendulumref29_within.ok (m_ : Mode) : (pendulumref29_within.c m_).OK P := Callee.of_run (fun S0 w0 => oras_ok (pendulumref29_within.csok m_)) (by kernel_rfl) (by rfl) (fun S0 w0 cs0 => all_nil) (fun x r h => (pendulumref29_within.k m_ x).trans h)

/-! ### pendulum/pendulumref29.Fit -/
noncomputable def pendulumref29_Fit.cs (m_ : Mode) : List Callee := [pendulumref29_within.c m_]
theorem pendulumref29_Fit.csok (m_ : Mode) : ∀ k ∈ pendulumref29_Fit.cs m_, k.OK P := all_cons (pendulumref29_within.ok m_) (all_nil)
def pendulumref29_Fit.inl : FuncId → Bool := fun f => [].any (Nat.beq f)
def pendulumref29_Fit.e0 : Spec := ⟨[{ fn := 7, items := [.code [.r, .r, .l, .r, .l, .l], .inLoop [.r, .r, .l, .r, .l, .l], .inBlock 0, .code [.r, .r, .r]], slots := [(0, .dat (.lst (.pair (.int .i64) (.pair (.int .i64) (.int .i64))))), (3, .dat (.int .i64))] }], [], 0⟩
def pendulumref29_Fit.x0 : List Spec := [⟨[{ fn := 7, items := [.code [.r, .r, .l, .r, .l, .l, .r, .l, .l, .r, .l, .r], .inBlock 1, .code [.r, .r, .l, .r, .l, .l, .r, .r], .inLoop [.r, .r, .l, .r, .l, .l], .inBlock 0, .code [.r, .r, .r]], slots := [(2, .dat .bool)] }], [], 0⟩, ⟨[{ fn := 7, items := [.code [.r, .r, .r]], slots := [] }], [], 0⟩]
noncomputable def pendulumref29_Fit.b0 (m_ : Mode) (self : (List (Int × (Int × Int))) × Int × Unit → Option ((Bool × Unit) ⊕ (Unit))) : (List (Int × (Int × Int))) × Int × Unit → Option ((Bool × Unit) ⊕ (Unit)) := fun v_ => match v_ with
| (l, i, ()) =>
  bif smallI (l.length : Int) then
  bif decide (i < (l.length : Int)) then
    bif inB i (l.length : Int) then
    (pendulumref29_within.run m_ ((rd ((0 : Int), ((0 : Int), (0 : Int))) l i).1, (-140737488355328 : Int), (140737488355328 : Int), ())).bind fun r =>
    bif (!!!r || (inB i (l.length : Int))) then
    ((bif !!r then pendulumref29_within.run m_ (((rd ((0 : Int), ((0 : Int), (0 : Int))) l i).2).1, (0 : Int), (140737488355328 : Int), ()) else some false)).bind fun r1 =>
    bif ((!(!(!r || !r1))) || (inB i (l.length : Int))) then
    ((bif !(!r || !r1) then pendulumref29_within.run m_ (((rd ((0 : Int), ((0 : Int), (0 : Int))) l i).2).2, (0 : Int), (140737488355328 : Int), ()) else some false)).bind fun r2 =>
    bif ((!r || !r1) || !r2) then
      some (.inl (false, ()))
    else
      self (l, (IntKind.i64.wrap (i + (1 : Int))), ())
    else none
    else none
    else none
  else
    some (.inr (()))
  else none
theorem pendulumref29_Fit.k0 (m_ : Mode) : ∀ (self : Known pendulumref29_Fit.e0.sls → Option (Exits pendulumref29_Fit.x0)) (v : Known pendulumref29_Fit.e0.sls), runS P (oras (pendulumref29_Fit.cs m_)) pendulumref29_Fit.inl (⟨pendulumref29_Fit.e0, self⟩ :: exitCuts pendulumref29_Fit.x0 id) [] (fun _ _ => none) 20000 false (pendulumref29_Fit.e0.mk' v) = pendulumref29_Fit.b0 m_ self v := by
  intro self v_; exact (match v_ with | (l, i, ()) => by kernel_rfl)
noncomputable def pendulumref29_Fit.l0 (m_ : Mode) : (List (Int × (Int × Int))) × Int × Unit → Option ((Bool × Unit) ⊕ (Unit)) := loop m_ (pendulumref29_Fit.b0 m_)
theorem pendulumref29_Fit.q0 (v) : pendulumref29_Fit.l0 .lim v = pendulumref29_Fit.b0 .lim (pendulumref29_Fit.l0 .lim) v := lfp_eq (cont_of_run (pendulumref29_Fit.k0 .lim)) v
noncomputable def pendulumref29_Fit.g0 (m_ : Mode) : Seg := ⟨pendulumref29_Fit.e0, pendulumref29_Fit.x0, pendulumref29_Fit.l0 m_⟩
theorem pendulumref29_Fit.s0 (m_ : Mode) (S0 w0 cs0) : SegGood P S0 w0 cs0 7 (pendulumref29_Fit.g0 m_) := seg_loop m_ (oras_ok (pendulumref29_Fit.csok m_)) (all_nil) (by rfl) (fun e he => List.all_eq_true.1 (show pendulumref29_Fit.x0.all Spec.ok = true by rfl) e he) (pendulumref29_Fit.k0 m_)
noncomputable def pendulumref29_Fit.run (m_ : Mode) : (List (Int × (Int × Int))) × Unit → Option (Bool) := fun v_ => match v_ with
| (l, ()) =>
  bif smallI (l.length : Int) then
  bif decide ((l.length : Int) > (10 : Int)) then
    some false
  else
    (pendulumref29_Fit.l0 m_ (l, (0 : Int), ())).bind fun g_ => match g_ with
    | .inl (t, ()) =>
      some t
    | .inr (()) =>
      some true
  else none
noncomputable def pendulumref29_Fit.c (m_ : Mode) : Callee := ⟨7, [.one (.lst (.pair (.int .i64) (.pair (.int .i64) (.int .i64))))], .one (.sh (.one .bool)), pendulumref29_Fit.run m_⟩
theorem pendulumref29_Fit.k (m_ : Mode) : ∀ v : Shs (pendulumref29_Fit.c m_).args, runS P (oras (pendulumref29_Fit.cs m_)) pendulumref29_Fit.inl [] [pendulumref29_Fit.g0 m_] (pendulumref29_Fit.c m_).res.fin 20000 false (start 7 (encs (pendulumref29_Fit.c m_).args v)) = pendulumref29_Fit.run m_ v := by
  intro v_; exact (match v_ with | (l, ()) => by kernel_rfl)
theorem pendulumref29_Fit.ok (m_ : Mode) : (pendulumref29_Fit.c m_).OK P := Callee.of_run (fun S0 w0 => oras_ok (pendulumref29_Fit.csok m_)) (by kernel_rfl) (by rfl) (fun S0 w0 cs0 => all_cons (pendulumref29_Fit.s0 m_ S0 w0 cs0) (all_nil)) (fun x r h => (pendulumref29_Fit.k m_ x).trans h)

/-! ### pendulum/comb.Weight -/
noncomputable def comb_Weight.cs (m_ : Mode) : List Callee := []
theorem comb_Weight.csok (m_ : Mode) : ∀ k ∈ comb_Weight.cs m_, k.OK P := all_nil
def comb_Weight.inl : FuncId → Bool := fun f => [].any (Nat.beq f)
noncomputable def comb_Weight.run (m_ : Mode) : (Int × (Int × Int)) × Unit → Option (Int) := fun v_ => match v_ with
| (p, ()) =>
  bif !(decide ((IntKind.i64.wrap ((ishr .i64 p.2.1 (16 : Int)) + (1 : Int))) = (0 : Int))) then some (mx (1 : Int) (IntKind.i64.wrap ((4096 : Int).tdiv (IntKind.i64.wrap ((ishr .i64 p.2.1 (16 : Int)) + (1 : Int)))))) else none
noncomputable def comb_Weight.c (m_ : Mode) : Callee := ⟨9, [.ag (.pair (.int .i64) (.pair (.int .i64) (.int .i64)))], .one (.sh (.one (.int .i64))), comb_Weight.run m_⟩
theorem comb_Weight.k (m_ : Mode) : ∀ v : Shs (comb_Weight.c m_).args, runS P (oras (comb_Weight.cs m_)) comb_Weight.inl [] [] (comb_Weight.c m_).res.fin 20000 false (start 9 (encs (comb_Weight.c m_).args v)) = comb_Weight.run m_ v := by
  intro v_; exact (match v_ with | (p, ()) => by kernel_rfl)
theorem comb_Weight.ok (m_ : Mode) : (comb_Weight.c m_).OK P := Callee.of_run (fun S0 w0 => oras_ok (comb_Weight.csok m_)) (by kernel_rfl) (by rfl) (fun S0 w0 cs0 => all_nil) (fun x r h => (comb_Weight.k m_ x).trans h)

/-! ### pendulum/comb.Combine$1 -/
noncomputable def comb_Combine_1.cs (m_ : Mode) : List Callee := [comb_Weight.c m_]
theorem comb_Combine_1.csok (m_ : Mode) : ∀ k ∈ comb_Combine_1.cs m_, k.OK P := all_cons (comb_Weight.ok m_) (all_nil)
def comb_Combine_1.inl : FuncId → Bool := fun f => [].any (Nat.beq f)
noncomputable def comb_Combine_1.run (m_ : Mode) : (Int × (Int × Int)) × Unit → Option (Int) := fun v_ => match v_ with
| (p, ()) =>
  (comb_Weight.run m_ ((p.1, (p.2.1, p.2.2)), ())).bind fun r =>
  some (IntKind.i64.wrap (p.1 * r))
noncomputable def comb_Combine_1.c (m_ : Mode) : Callee := ⟨20, [.ag (.pair (.int .i64) (.pair (.int .i64) (.int .i64)))], .one (.sh (.one (.int .i64))), comb_Combine_1.run m_⟩
theorem comb_Combine_1.k (m_ : Mode) : ∀ v : Shs (comb_Combine_1.c m_).args, runS P (oras (comb_Combine_1.cs m_)) comb_Combine_1.inl [] [] (comb_Combine_1.c m_).res.fin 20000 false (start 20 (encs (comb_Combine_1.c m_).args v)) = comb_Combine_1.run m_ v := by
  intro v_; exact (match v_ with | (p, ()) => by kernel_rfl)
theorem comb_Combine_1.ok (m_ : Mode) : (comb_Combine_1.c m_).OK P := Callee.of_run (fun S0 w0 => oras_ok (comb_Combine_1.csok m_)) (by kernel_rfl) (by rfl) (fun S0 w0 cs0 => all_nil) (fun x r h => (comb_Combine_1.k m_ x).trans h)

/-! ### pendulum/comb.distance -/
noncomputable def comb_distance.cs (m_ : Mode) : List Callee := []
theorem comb_distance.csok (m_ : Mode) : ∀ k ∈ comb_distance.cs m_, k.OK P := all_nil
def comb_distance.inl : FuncId → Bool := fun f => [].any (Nat.beq f)
noncomputable def comb_distance.run (m_ : Mode) : Int × Int × Unit → Option (Int) := fun v_ => match v_ with
| (a, b, ()) =>
  some (mx (IntKind.i64.wrap (a - b)) (IntKind.i64.wrap (b - a)))
noncomputable def comb_distance.c (m_ : Mode) : Callee := ⟨21, [.one (.int .i64), .one (.int .i64)], .one (.sh (.one (.int .i64))), comb_distance.run m_⟩
theorem comb_distance.k (m_ : Mode) : ∀ v : Shs (comb_distance.c m_).args, runS P (oras (comb_distance.cs m_)) comb_distance.inl [] [] (comb_distance.c m_).res.fin 20000 false (start 21 (encs (comb_distance.c m_).args v)) = comb_distance.run m_ v := by
  intro v_; exact (match v_ with | (a, b, ()) => by kernel_rfl)
theorem comb_distance.ok (m_ : Mode) : (comb_distance.c m_).OK P := Callee.of_run (fun S0 w0 => oras_ok (comb_distance.csok m_)) (by kernel_rfl) (by rfl) (fun S0 w0 cs0 => all_nil) (fun x r h => (comb_distance.k m_ x).trans h)

/-! ### pendulum/comb.Combine -/
noncomputable def comb_Combine.cs (m_ : Mode) : List Callee := [comb_Weight.c m_, comb_Combine_1.c m_, comb_distance.c m_]
theorem comb_Combine.csok (m_ : Mode) : ∀ k ∈ comb_Combine.cs m_, k.OK P := all_cons (comb_Weight.ok m_) (all_cons (comb_Combine_1.ok m_) (all_cons (comb_distance.ok m_) (all_nil)))
def comb_Combine.inl : FuncId → Bool := fun f => [19].any (Nat.beq f)
def comb_Combine.e0 : Spec := ⟨[{ fn := 19, items := [.code [.r, .r, .l, .r, .l, .l], .inLoop [.r, .r, .l, .r, .l, .l], .inBlock 0, .code [.r, .r, .r]], slots := [(1, .fn (.func 9) []), (5, .dat (.int .i64)), (8, .dat (.lst (.pair (.int .i64) (.pair (.int .i64) (.int .i64))))), (9, .dat (.int .i64)), (10, .dat (.int .i64))] }, { fn := 11, items := [.inRegion [.r, .r, .l] [1, 2], .code [.r, .r, .r]], slots := [(0, .dat (.lst (.pair (.int .i64) (.pair (.int .i64) (.int .i64))))), (2, .ptr 0 0)] }], [(0, .cells false [.dat (.int .i64), .dat (.int .i64), .dat (.int .i64)])], 1⟩
def comb_Combine.x0 : List Spec := [⟨[{ fn := 19, items := [.code [.r, .r, .r]], slots := [(5, .dat (.int .i64))] }, { fn := 11, items := [.inRegion [.r, .r, .l] [1, 2], .code [.r, .r, .r]], slots := [(0, .dat (.lst (.pair (.int .i64) (.pair (.int .i64) (.int .i64))))), (2, .ptr 0 0)] }], [(0, .cells false [.dat (.int .i64), .dat (.int .i64), .dat (.int .i64)])], 1⟩]
noncomputable def comb_Combine.b0 (m_ : Mode) (self : Int × (List (Int × (Int × Int))) × Int × Int × (List (Int × (Int × Int))) × Int × Int × Int × Unit → Option ((Int × (List (Int × (Int × Int))) × Int × Int × Int × Unit))) : Int × (List (Int × (Int × Int))) × Int × Int × (List (Int × (Int × Int))) × Int × Int × Int × Unit → Option ((Int × (List (Int × (Int × Int))) × Int × Int × Int × Unit)) := fun v_ => match v_ with
| (n, t, t1, t2, l, m, m1, m2, ()) =>
  bif decide (t2 < t1) then
    bif inB t2 (t.length : Int) then
    (comb_Weight.run m_ (((rd ((0 : Int), ((0 : Int), (0 : Int))) t t2).1, (((rd ((0 : Int), ((0 : Int), (0 : Int))) t t2).2).1, ((rd ((0 : Int), ((0 : Int), (0 : Int))) t t2).2).2)), ())).bind fun r =>
    self ((IntKind.i64.wrap (n + r)), t, t1, (IntKind.i64.wrap (t2 + (1 : Int))), l, m, m1, m2, ())
    else none
  else
    some (n, l, m, m1, m2, ())
theorem comb_Combine.k0 (m_ : Mode) : ∀ (self : Known comb_Combine.e0.sls → Option (Exits comb_Combine.x0)) (v : Known comb_Combine.e0.sls), runS P (oras (comb_Combine.cs m_)) comb_Combine.inl (⟨comb_Combine.e0, self⟩ :: exitCuts comb_Combine.x0 id) [] (fun _ _ => none) 20000 false (comb_Combine.e0.mk' v) = comb_Combine.b0 m_ self v := by
  intro self v_; exact (match v_ with | (n, t, t1, t2, l, m, m1, m2, ()) => by kernel_rfl)
noncomputable def comb_Combine.l0 (m_ : Mode) : Int × (List (Int × (Int × Int))) × Int × Int × (List (Int × (Int × Int))) × Int × Int × Int × Unit → Option ((Int × (List (Int × (Int × Int))) × Int × Int × Int × Unit)) := loop m_ (comb_Combine.b0 m_)
theorem comb_Combine.q0 (v) : comb_Combine.l0 .lim v = comb_Combine.b0 .lim (comb_Combine.l0 .lim) v := lfp_eq (cont_of_run (comb_Combine.k0 .lim)) v
noncomputable def comb_Combine.g0 (m_ : Mode) : Seg := ⟨comb_Combine.e0, comb_Combine.x0, comb_Combine.l0 m_⟩
theorem comb_Combine.s0 (m_ : Mode) (S0 w0 cs0) : SegGood P S0 w0 cs0 11 (comb_Combine.g0 m_) := seg_loop m_ (oras_ok (comb_Combine.csok m_)) (all_nil) (by rfl) (fun e he => List.all_eq_true.1 (show comb_Combine.x0.all Spec.ok = true by rfl) e he) (comb_Combine.k0 m_)
def comb_Combine.e1 : Spec := ⟨[{ fn := 19, items := [.code [.r, .r, .l, .r, .l, .l], .inLoop [.r, .r, .l, .r, .l, .l], .inBlock 0, .code [.r, .r, .r]], slots := [(1, .fn (.func 20) []), (5, .dat (.int .i64)), (8, .dat (.lst (.pair (.int .i64) (.pair (.int .i64) (.int .i64))))), (9, .dat (.int .i64)), (10, .dat (.int .i64))] }, { fn := 11, items := [.inRegion [.r, .r, .r, .l] [1, 2], .code [.r, .r, .r, .r]], slots := [(0, .dat (.lst (.pair (.int .i64) (.pair (.int .i64) (.int .i64))))), (2, .ptr 0 0), (4, .dat (.int .i64))] }], [(0, .cells false [.dat (.int .i64), .dat (.int .i64), .dat (.int .i64)])], 1⟩
def comb_Combine.x1 : List Spec := [⟨[{ fn := 19, items := [.code [.r, .r, .r]], slots := [(5, .dat (.int .i64))] }, { fn := 11, items := [.inRegion [.r, .r, .r, .l] [1, 2], .code [.r, .r, .r, .r]], slots := [(0, .dat (.lst (.pair (.int .i64) (.pair (.int .i64) (.int .i64))))), (2, .ptr 0 0), (4, .dat (.int .i64))] }], [(0, .cells false [.dat (.int .i64), .dat (.int .i64), .dat (.int .i64)])], 1⟩]
noncomputable def comb_Combine.b1 (m_ : Mode) (self : Int × (List (Int × (Int × Int))) × Int × Int × (List (Int × (Int × Int))) × Int × Int × Int × Int × Unit → Option ((Int × (List (Int × (Int × Int))) × Int × Int × Int × Int × Unit))) : Int × (List (Int × (Int × Int))) × Int × Int × (List (Int × (Int × Int))) × Int × Int × Int × Int × Unit → Option ((Int × (List (Int × (Int × Int))) × Int × Int × Int × Int × Unit)) := fun v_ => match v_ with
| (n, t, t1, t2, l, all, m, m1, m2, ()) =>
  bif decide (t2 < t1) then
    bif inB t2 (t.length : Int) then
    (comb_Combine_1.run m_ (((rd ((0 : Int), ((0 : Int), (0 : Int))) t t2).1, (((rd ((0 : Int), ((0 : Int), (0 : Int))) t t2).2).1, ((rd ((0 : Int), ((0 : Int), (0 : Int))) t t2).2).2)), ())).bind fun r =>
    self ((IntKind.i64.wrap (n + r)), t, t1, (IntKind.i64.wrap (t2 + (1 : Int))), l, all, m, m1, m2, ())
    else none
  else
    some (n, l, all, m, m1, m2, ())
theorem comb_Combine.k1 (m_ : Mode) : ∀ (self : Known comb_Combine.e1.sls → Option (Exits comb_Combine.x1)) (v : Known comb_Combine.e1.sls), runS P (oras (comb_Combine.cs m_)) comb_Combine.inl (⟨comb_Combine.e1, self⟩ :: exitCuts comb_Combine.x1 id) [] (fun _ _ => none) 20000 false (comb_Combine.e1.mk' v) = comb_Combine.b1 m_ self v := by
  intro self v_; exact (match v_ with | (n, t, t1, t2, l, all, m, m1, m2, ()) => by kernel_rfl)
noncomputable def comb_Combine.l1 (m_ : Mode) : Int × (List (Int × (Int × Int))) × Int × Int × (List (Int × (Int × Int))) × Int × Int × Int × Int × Unit → Option ((Int × (List (Int × (Int × Int))) × Int × Int × Int × Int × Unit)) := loop m_ (comb_Combine.b1 m_)
theorem comb_Combine.q1 (v) : comb_Combine.l1 .lim v = comb_Combine.b1 .lim (comb_Combine.l1 .lim) v := lfp_eq (cont_of_run (comb_Combine.k1 .lim)) v
noncomputable def comb_Combine.g1 (m_ : Mode) : Seg := ⟨comb_Combine.e1, comb_Combine.x1, comb_Combine.l1 m_⟩
theorem comb_Combine.s1 (m_ : Mode) (S0 w0 cs0) : SegGood P S0 w0 cs0 11 (comb_Combine.g1 m_) := seg_loop m_ (oras_ok (comb_Combine.csok m_)) (all_nil) (by rfl) (fun e he => List.all_eq_true.1 (show comb_Combine.x1.all Spec.ok = true by rfl) e he) (comb_Combine.k1 m_)
def comb_Combine.e2 : Spec := ⟨[{ fn := 11, items := [.code [.r, .r, .r, .r, .r, .r, .r, .l, .r, .l, .l], .inLoop [.r, .r, .r, .r, .r, .r, .r, .l, .r, .l, .l], .inBlock 0, .code [.r, .r, .r, .r, .r, .r, .r, .r]], slots := [(2, .ptr 0 0), (6, .ptr 4 0), (7, .dat (.int .i64)), (30, .dat (.lst (.pair (.int .i64) (.pair (.int .i64) (.int .i64))))), (31, .dat (.int .i64)), (32, .dat (.int .i64))] }], [(0, .cells false [.dat (.int .i64), .dat (.int .i64), .dat (.int .i64)]), (4, .cells false [.dat (.int .i64), .dat (.int .i64), .dat (.int .i64)])], 5⟩
def comb_Combine.x2 : List Spec := [⟨[{ fn := 11, items := [.code [.r, .r, .r, .r, .r, .r, .r, .r]], slots := [(2, .ptr 0 0), (6, .ptr 4 0), (7, .dat (.int .i64))] }], [(0, .cells false [.dat (.int .i64), .dat (.int .i64), .dat (.int .i64)]), (4, .cells false [.dat (.int .i64), .dat (.int .i64), .dat (.int .i64)])], 5⟩]
noncomputable def comb_Combine.b2 (m_ : Mode) (self : Int × (List (Int × (Int × Int))) × Int × Int × Int × Int × Int × Int × Int × Int × Unit → Option ((Int × Int × Int × Int × Int × Int × Int × Unit))) : Int × (List (Int × (Int × Int))) × Int × Int × Int × Int × Int × Int × Int × Int × Unit → Option ((Int × Int × Int × Int × Int × Int × Int × Unit)) := fun v_ => match v_ with
| (root, t, t1, t2, m, m1, m2, m3, m4, m5, ()) =>
  bif decide (t2 < t1) then
    bif inB t2 (t.length : Int) then
    (comb_distance.run m_ ((rd ((0 : Int), ((0 : Int), (0 : Int))) t t2).1, m3, ())).bind fun r =>
    self ((mn root (((rd ((0 : Int), ((0 : Int), (0 : Int))) t t2).2).1)), t, t1, (IntKind.i64.wrap (t2 + (1 : Int))), m, m1, m2, m3, m4, (mn (mx m5 r) (140737488355328 : Int)), ())
    else none
  else
    some (root, m, m1, m2, m3, m4, m5, ())
theorem comb_Combine.k2 (m_ : Mode) : ∀ (self : Known comb_Combine.e2.sls → Option (Exits comb_Combine.x2)) (v : Known comb_Combine.e2.sls), runS P (oras (comb_Combine.cs m_)) comb_Combine.inl (⟨comb_Combine.e2, self⟩ :: exitCuts comb_Combine.x2 id) [] (fun _ _ => none) 20000 false (comb_Combine.e2.mk' v) = comb_Combine.b2 m_ self v := by
  intro self v_; exact (match v_ with | (root, t, t1, t2, m, m1, m2, m3, m4, m5, ()) => by kernel_rfl)
noncomputable def comb_Combine.l2 (m_ : Mode) : Int × (List (Int × (Int × Int))) × Int × Int × Int × Int × Int × Int × Int × Int × Unit → Option ((Int × Int × Int × Int × Int × Int × Int × Unit)) := loop m_ (comb_Combine.b2 m_)
theorem comb_Combine.q2 (v) : comb_Combine.l2 .lim v = comb_Combine.b2 .lim (comb_Combine.l2 .lim) v := lfp_eq (cont_of_run (comb_Combine.k2 .lim)) v
noncomputable def comb_Combine.g2 (m_ : Mode) : Seg := ⟨comb_Combine.e2, comb_Combine.x2, comb_Combine.l2 m_⟩
theorem comb_Combine.s2 (m_ : Mode) (S0 w0 cs0) : SegGood P S0 w0 cs0 11 (comb_Combine.g2 m_) := seg_loop m_ (oras_ok (comb_Combine.csok m_)) (all_nil) (by rfl) (fun e he => List.all_eq_true.1 (show comb_Combine.x2.all Spec.ok = true by rfl) e he) (comb_Combine.k2 m_)
noncomputable def comb_Combine.run (m_ : Mode) : (List (Int × (Int × Int))) × Unit → Option ((Int × (Int × Int)) × Int × Unit) := fun v_ => match v_ with
| (l, ()) =>
  bif smallI (l.length : Int) then
  bif decide ((l.length : Int) = (0 : Int)) then
    some (((0 : Int), ((0 : Int), (0 : Int))), (19 : Int), ())
  else
    bif smallI (l.length : Int) then
    (comb_Combine.l0 m_ ((0 : Int), l, (l.length : Int), (0 : Int), l, (0 : Int), (0 : Int), (0 : Int), ())).bind fun (n, l1, m, m1, m2, ()) =>
    bif smallI (l1.length : Int) then
    (comb_Combine.l1 m_ ((0 : Int), l1, (l1.length : Int), (0 : Int), l1, n, m, m1, m2, ())).bind fun (n1, l2, all, m3, m4, m5, ()) =>
    bif !(decide (all = (0 : Int))) then
    bif !(decide (all = (0 : Int))) then
    bif decide ((n1.tmod all) < (0 : Int)) then
      bif smallI (l2.length : Int) then
      (comb_Combine.l2 m_ ((140737488355328 : Int), l2, (l2.length : Int), (0 : Int), m3, m4, m5, (IntKind.i64.wrap ((IntKind.i64.wrap (n1.tdiv all)) - (1 : Int))), (0 : Int), (0 : Int), ())).bind fun (root, m6, m7, m8, m9, m10, m11, ()) =>
      some ((m9, ((mn (IntKind.i64.wrap (root + m11)) (140737488355328 : Int)), m11)), (0 : Int), ())
      else none
    else
      bif smallI (l2.length : Int) then
      (comb_Combine.l2 m_ ((140737488355328 : Int), l2, (l2.length : Int), (0 : Int), m3, m4, m5, (IntKind.i64.wrap (n1.tdiv all)), (0 : Int), (0 : Int), ())).bind fun (root1, m12, m13, m14, m15, m16, m17, ()) =>
      some ((m15, ((mn (IntKind.i64.wrap (root1 + m17)) (140737488355328 : Int)), m17)), (0 : Int), ())
      else none
    else none
    else none
    else none
    else none
  else none
noncomputable def comb_Combine.c (m_ : Mode) : Callee := ⟨11, [.one (.lst (.pair (.int .i64) (.pair (.int .i64) (.int .i64))))], .tup [.sh (.ag (.pair (.int .i64) (.pair (.int .i64) (.int .i64)))), .sh (.one (.int .i64))], comb_Combine.run m_⟩
theorem comb_Combine.k (m_ : Mode) : ∀ v : Shs (comb_Combine.c m_).args, runS P (oras (comb_Combine.cs m_)) comb_Combine.inl [] [comb_Combine.g0 m_, comb_Combine.g1 m_, comb_Combine.g2 m_] (comb_Combine.c m_).res.fin 20000 false (start 11 (encs (comb_Combine.c m_).args v)) = comb_Combine.run m_ v := by
  intro v_; exact (match v_ with | (l, ()) => by kernel_rfl)
theorem comb_Combine.ok (m_ : Mode) : (comb_Combine.c m_).OK P := Callee.of_run (fun S0 w0 => oras_ok (comb_Combine.csok m_)) (by kernel_rfl) (by rfl) (fun S0 w0 cs0 => all_cons (comb_Combine.s0 m_ S0 w0 cs0) (all_cons (comb_Combine.s1 m_ S0 w0 cs0) (all_cons (comb_Combine.s2 m_ S0 w0 cs0) (all_nil)))) (fun x r h => (comb_Combine.k m_ x).trans h)

/-! ### slices.Clone[[]pendulum/api.Peer,pendulum/api.Peer] -/
noncomputable def slices_Clone_api_Peer_api_Peer.cs (m_ : Mode) : List Callee := []
theorem slices_Clone_api_Peer_api_Peer.csok (m_ : Mode) : ∀ k ∈ slices_Clone_api_Peer_api_Peer.cs m_, k.OK P := all_nil
def slices_Clone_api_Peer_api_Peer.inl : FuncId → Bool := fun f => [].any (Nat.beq f)
noncomputable def slices_Clone_api_Peer_api_Peer.run (m_ : Mode) : (List (Int × (Int × Int))) × Unit → Option (List (Int × (Int × Int))) := fun v_ => match v_ with
| (s, ()) =>
  bif decide (([] : List (Int × (Int × Int))).length + s.length < 2932031007402) then some (([] : List (Int × (Int × Int))) ++ s) else none
noncomputable def slices_Clone_api_Peer_api_Peer.c (m_ : Mode) : Callee := ⟨25, [.one (.lst (.pair (.int .i64) (.pair (.int .i64) (.int .i64))))], .one (.own (.pair (.int .i64) (.pair (.int .i64) (.int .i64)))), slices_Clone_api_Peer_api_Peer.run m_⟩
theorem slices_Clone_api_Peer_api_Peer.kn (m_ : Mode) : runS P (oras (slices_Clone_api_Peer_api_Peer.cs m_)) slices_Clone_api_Peer_api_Peer.inl [] [] (slices_Clone_api_Peer_api_Peer.c m_).res.fin 20000 false (start 25 [.nilSlc]) = (
  some ([] : List (Int × (Int × Int)))) := by kernel_rfl
theorem slices_Clone_api_Peer_api_Peer.k (m_ : Mode) : ∀ xs : List (Int × (Int × Int)), runS P (oras (slices_Clone_api_Peer_api_Peer.cs m_)) slices_Clone_api_Peer_api_Peer.inl [] [] (slices_Clone_api_Peer_api_Peer.c m_).res.fin 20000 false (start 25 [.nlst (.pair (.int .i64) (.pair (.int .i64) (.int .i64))) xs]) = slices_Clone_api_Peer_api_Peer.run m_ (xs, ()) := by
  intro xs; kernel_rfl
theorem slices_Clone_api_Peer_api_Peer.ok (m_ : Mode) : (slices_Clone_api_Peer_api_Peer.c m_).OK P := Callee.of_nil (fun S0 w0 => oras_ok (slices_Clone_api_Peer_api_Peer.csok m_)) (by kernel_rfl) (by rfl) (fun S0 w0 cs0 => all_nil) (fun r h => (slices_Clone_api_Peer_api_Peer.kn m_).trans ((show (
  some ([] : List (Int × (Int × Int)))) = slices_Clone_api_Peer_api_Peer.run m_ ([], ()) from by kernel_rfl).trans h)) (fun x r h => (slices_Clone_api_Peer_api_Peer.k m_ x).trans h)

/-! ### pendulum/comb.Far -/
noncomputable def comb_Far.cs (m_ : Mode) : List Callee := [comb_distance.c m_]
theorem comb_Far.csok (m_ : Mode) : ∀ k ∈ comb_Far.cs m_, k.OK P := all_cons (comb_distance.ok m_) (all_nil)
def comb_Far.inl : FuncId → Bool := fun f => [19, 24].any (Nat.beq f)
def comb_Far.e0 : Spec := ⟨[{ fn := 19, items := [.code [.r, .r, .l, .r, .l, .l], .inLoop [.r, .r, .l, .r, .l, .l], .inBlock 0, .code [.r, .r, .r]], slots := [(1, .fn (.func 24) [0, 1]), (5, .dat (.int .i64)), (8, .dat (.lst (.pair (.int .i64) (.pair (.int .i64) (.int .i64))))), (9, .dat (.int .i64)), (10, .dat (.int .i64))] }, { fn := 13, items := [.inRegion [.r, .r, .l] [2, 3], .code [.r, .r, .r]], slots := [] }], [(0, .cells false [.dat (.lst (.pair (.int .i64) (.pair (.int .i64) (.int .i64))))]), (1, .cells false [.dat (.int .i64)])], 2⟩
def comb_Far.x0 : List Spec := [⟨[{ fn := 19, items := [.code [.r, .r, .r]], slots := [(5, .dat (.int .i64))] }, { fn := 13, items := [.inRegion [.r, .r, .l] [2, 3], .code [.r, .r, .r]], slots := [] }], [], 0⟩]
noncomputable def comb_Far.b0 (m_ : Mode) (self : Int × (List (Int × (Int × Int))) × Int × Int × (List (Int × (Int × Int))) × Int × Unit → Option ((Int × Unit))) : Int × (List (Int × (Int × Int))) × Int × Int × (List (Int × (Int × Int))) × Int × Unit → Option ((Int × Unit)) := fun v_ => match v_ with
| (n, t, t1, t2, m, m1, ()) =>
  bif decide (t2 < t1) then
    bif inB t2 (t.length : Int) then
    bif inB m1 (m.length : Int) then
    (comb_distance.run m_ ((rd ((0 : Int), ((0 : Int), (0 : Int))) t t2).1, (rd ((0 : Int), ((0 : Int), (0 : Int))) m m1).1, ())).bind fun r =>
    self ((IntKind.i64.wrap (n + r)), t, t1, (IntKind.i64.wrap (t2 + (1 : Int))), m, m1, ())
    else none
    else none
  else
    some (n, ())
theorem comb_Far.k0 (m_ : Mode) : ∀ (self : Known comb_Far.e0.sls → Option (Exits comb_Far.x0)) (v : Known comb_Far.e0.sls), runS P (oras (comb_Far.cs m_)) comb_Far.inl (⟨comb_Far.e0, self⟩ :: exitCuts comb_Far.x0 id) [] (fun _ _ => none) 20000 false (comb_Far.e0.mk' v) = comb_Far.b0 m_ self v := by
  intro self v_; exact (match v_ with | (n, t, t1, t2, m, m1, ()) => by kernel_rfl)
noncomputable def comb_Far.l0 (m_ : Mode) : Int × (List (Int × (Int × Int))) × Int × Int × (List (Int × (Int × Int))) × Int × Unit → Option ((Int × Unit)) := loop m_ (comb_Far.b0 m_)
theorem comb_Far.q0 (v) : comb_Far.l0 .lim v = comb_Far.b0 .lim (comb_Far.l0 .lim) v := lfp_eq (cont_of_run (comb_Far.k0 .lim)) v
noncomputable def comb_Far.g0 (m_ : Mode) : Seg := ⟨comb_Far.e0, comb_Far.x0, comb_Far.l0 m_⟩
theorem comb_Far.s0 (m_ : Mode) (S0 w0 cs0) : SegGood P S0 w0 cs0 13 (comb_Far.g0 m_) := seg_loop m_ (oras_ok (comb_Far.csok m_)) (all_nil) (by rfl) (fun e he => List.all_eq_true.1 (show comb_Far.x0.all Spec.ok = true by rfl) e he) (comb_Far.k0 m_)
noncomputable def comb_Far.run (m_ : Mode) : (List (Int × (Int × Int))) × Int × Unit → Option (Int) := fun v_ => match v_ with
| (l, k, ()) =>
  bif ((!(!(decide (k < (0 : Int))))) || (smallI (l.length : Int))) then
  bif ((decide (k < (0 : Int))) || (decide (k ≥ (l.length : Int)))) then
    some (0 : Int)
  else
    bif smallI (l.length : Int) then
    (comb_Far.l0 m_ ((0 : Int), l, (l.length : Int), (0 : Int), l, k, ())).bind fun (n, ()) =>
    some n
    else none
  else none
noncomputable def comb_Far.c (m_ : Mode) : Callee := ⟨13, [.one (.lst (.pair (.int .i64) (.pair (.int .i64) (.int .i64)))), .one (.int .i64)], .one (.sh (.one (.int .i64))), comb_Far.run m_⟩
theorem comb_Far.k (m_ : Mode) : ∀ v : Shs (comb_Far.c m_).args, runS P (oras (comb_Far.cs m_)) comb_Far.inl [] [comb_Far.g0 m_] (comb_Far.c m_).res.fin 20000 false (start 13 (encs (comb_Far.c m_).args v)) = comb_Far.run m_ v := by
  intro v_; exact (match v_ with | (l, k, ()) => by kernel_rfl)
theorem comb_Far.ok (m_ : Mode) : (comb_Far.c m_).OK P := Callee.of_run (fun S0 w0 => oras_ok (comb_Far.csok m_)) (by kernel_rfl) (by rfl) (fun S0 w0 cs0 => all_cons (comb_Far.s0 m_ S0 w0 cs0) (all_nil)) (fun x r h => (comb_Far.k m_ x).trans h)

/-! ### slices.Delete[[]pendulum/api.Peer,pendulum/api.Peer] -/
-- not told: slice with three indexes of lst [F26 (('inRegion', 'rl', 5),)]
noncomputable def slices_Delete_api_Peer_api_Peer.cs (m_ : Mode) : List Callee := []
theorem slices_Delete_api_Peer_api_Peer.csok (m_ : Mode) : ∀ k ∈ slices_Delete_api_Peer_api_Peer.cs m_, k.OK P := all_nil
def slices_Delete_api_Peer_api_Peer.inl : FuncId → Bool := fun f => [].any (Nat.beq f)
noncomputable def slices_Delete_api_Peer_api_Peer.run (m_ : Mode) : (List (Int × (Int × Int))) × Int × Int × Unit → Option (List (Int × (Int × Int))) := fun v_ => match v_ with
| (s, i, j, ()) =>
  bif smallI (s.length : Int) then none else none
noncomputable def slices_Delete_api_Peer_api_Peer.c (m_ : Mode) : Callee := ⟨26, [.one (.lst (.pair (.int .i64) (.pair (.int .i64) (.int .i64)))), .one (.int .i64), .one (.int .i64)], .one (.own (.pair (.int .i64) (.pair (.int .i64) (.int .i64)))), slices_Delete_api_Peer_api_Peer.run m_⟩
theorem slices_Delete_api_Peer_api_Peer.k (m_ : Mode) : ∀ v : Shs (slices_Delete_api_Peer_api_Peer.c m_).args, runS P (oras (slices_Delete_api_Peer_api_Peer.cs m_)) slices_Delete_api_Peer_api_Peer.inl [] [] (slices_Delete_api_Peer_api_Peer.c m_).res.fin 20000 false (start 26 (encs (slices_Delete_api_Peer_api_Peer.c m_).args v)) = slices_Delete_api_Peer_api_Peer.run m_ v := by
  intro v_; exact (match v_ with | (s, i, j, ()) => by kernel_rfl)
theorem slices_Delete_api_Peer_api_Peer.ok (m_ : Mode) : (slices_Delete_api_Peer_api_Peer.c m_).OK P := Callee.of_run (fun S0 w0 => oras_ok (slices_Delete_api_Peer_api_Peer.csok m_)) (by kernel_rfl) (by rfl) (fun S0 w0 cs0 => all_nil) (fun x r h => (slices_Delete_api_Peer_api_Peer.k m_ x).trans h)

/-! ### slices.Delete[[]int,int] -/
-- not told: slice with three indexes of lst [F27 (('inRegion', 'rl', 5),)]
noncomputable def slices_Delete_int_int.cs (m_ : Mode) : List Callee := []
theorem slices_Delete_int_int.csok (m_ : Mode) : ∀ k ∈ slices_Delete_int_int.cs m_, k.OK P := all_nil
def slices_Delete_int_int.inl : FuncId → Bool := fun f => [].any (Nat.beq f)
noncomputable def slices_Delete_int_int.run (m_ : Mode) : (List Int) × Int × Int × Unit → Option (List Int) := fun v_ => match v_ with
| (s, i, j, ()) =>
  bif smallI (s.length : Int) then none else none
noncomputable def slices_Delete_int_int.c (m_ : Mode) : Callee := ⟨27, [.one (.lst (.int .i64)), .one (.int .i64), .one (.int .i64)], .one (.own (.int .i64)), slices_Delete_int_int.run m_⟩
theorem slices_Delete_int_int.k (m_ : Mode) : ∀ v : Shs (slices_Delete_int_int.c m_).args, runS P (oras (slices_Delete_int_int.cs m_)) slices_Delete_int_int.inl [] [] (slices_Delete_int_int.c m_).res.fin 20000 false (start 27 (encs (slices_Delete_int_int.c m_).args v)) = slices_Delete_int_int.run m_ v := by
  intro v_; exact (match v_ with | (s, i, j, ()) => by kernel_rfl)
theorem slices_Delete_int_int.ok (m_ : Mode) : (slices_Delete_int_int.c m_).OK P := Callee.of_run (fun S0 w0 => oras_ok (slices_Delete_int_int.csok m_)) (by kernel_rfl) (by rfl) (fun S0 w0 cs0 => all_nil) (fun x r h => (slices_Delete_int_int.k m_ x).trans h)

/-! ### pendulum/comb.Survivors -/
noncomputable def comb_Survivors.cs (m_ : Mode) : List Callee := [comb_Far.c m_, slices_Clone_api_Peer_api_Peer.c m_]
theorem comb_Survivors.csok (m_ : Mode) : ∀ k ∈ comb_Survivors.cs m_, k.OK P := all_cons (comb_Far.ok m_) (all_cons (slices_Clone_api_Peer_api_Peer.ok m_) (all_nil))
def comb_Survivors.inl : FuncId → Bool := fun f => [26, 27].any (Nat.beq f)
def comb_Survivors.e0 : Spec := ⟨[{ fn := 16, items := [.code [.r, .l, .r, .r, .l, .r, .l, .l], .inLoop [.r, .l, .r, .r, .l, .r, .l, .l], .inBlock 0, .code [.r, .l, .r, .r, .r], .inScope [.r, .l]], slots := [(3, .own 2 (.pair (.int .i64) (.pair (.int .i64) (.int .i64)))), (4, .own 5000 (.int .i64)), (15, .dat (.int .i64)), (16, .dat (.int .i64))] }], [(2, .cells false [.row (.pair (.int .i64) (.pair (.int .i64) (.int .i64)))]), (5000, .cells false [.row (.int .i64)])], 5001⟩
def comb_Survivors.x0 : List Spec := [⟨[{ fn := 16, items := [.code [.r, .l, .r, .r, .r], .inScope [.r, .l]], slots := [(3, .own 2 (.pair (.int .i64) (.pair (.int .i64) (.int .i64)))), (4, .own 5000 (.int .i64))] }], [(2, .cells false [.row (.pair (.int .i64) (.pair (.int .i64) (.int .i64)))]), (5000, .cells false [.row (.int .i64)])], 5001⟩]
noncomputable def comb_Survivors.b0 (m_ : Mode) (self : Int × Int × (List (Int × (Int × Int))) × (List Int) × Unit → Option (((List (Int × (Int × Int))) × (List Int) × Unit))) : Int × Int × (List (Int × (Int × Int))) × (List Int) × Unit → Option (((List (Int × (Int × Int))) × (List Int) × Unit)) := fun v_ => match v_ with
| (t, t1, m, m1, ()) =>
  bif decide (t1 < t) then
    bif decide (m1.length + ([t1] : List Int).length < 8796093022208) then self (t, (IntKind.i64.wrap (t1 + (1 : Int))), m, (m1 ++ ([t1] : List Int)), ()) else none
  else
    some (m, m1, ())
theorem comb_Survivors.k0 (m_ : Mode) : ∀ (self : Known comb_Survivors.e0.sls → Option (Exits comb_Survivors.x0)) (v : Known comb_Survivors.e0.sls), runS P (oras (comb_Survivors.cs m_)) comb_Survivors.inl (⟨comb_Survivors.e0, self⟩ :: exitCuts comb_Survivors.x0 id) [] (fun _ _ => none) 20000 false (comb_Survivors.e0.mk' v) = comb_Survivors.b0 m_ self v := by
  intro self v_; exact (match v_ with | (t, t1, m, m1, ()) => by kernel_rfl)
noncomputable def comb_Survivors.l0 (m_ : Mode) : Int × Int × (List (Int × (Int × Int))) × (List Int) × Unit → Option (((List (Int × (Int × Int))) × (List Int) × Unit)) := loop m_ (comb_Survivors.b0 m_)
theorem comb_Survivors.q0 (v) : comb_Survivors.l0 .lim v = comb_Survivors.b0 .lim (comb_Survivors.l0 .lim) v := lfp_eq (cont_of_run (comb_Survivors.k0 .lim)) v
noncomputable def comb_Survivors.g0 (m_ : Mode) : Seg := ⟨comb_Survivors.e0, comb_Survivors.x0, comb_Survivors.l0 m_⟩
theorem comb_Survivors.s0 (m_ : Mode) (S0 w0 cs0) : SegGood P S0 w0 cs0 16 (comb_Survivors.g0 m_) := seg_loop m_ (oras_ok (comb_Survivors.csok m_)) (all_nil) (by rfl) (fun e he => List.all_eq_true.1 (show comb_Survivors.x0.all Spec.ok = true by rfl) e he) (comb_Survivors.k0 m_)
def comb_Survivors.e1 : Spec := ⟨[{ fn := 16, items := [.code [.r, .l, .r, .r, .r, .r, .l, .l, .l, .r, .l, .r, .r, .l, .r, .l, .l], .inLoop [.r, .l, .r, .r, .r, .r, .l, .l, .l, .r, .l, .r, .r, .l, .r, .l, .l], .inBlock 4, .code [.r, .l, .r, .r, .r, .r, .l, .l, .l, .r, .l, .r, .r, .r], .inBlock 3, .inLoop [.r, .l, .r, .r, .r, .r, .l, .l, .l], .inBlock 2, .code [.r, .l, .r, .r, .r, .r, .r], .inScope [.r, .l]], slots := [(3, .pre 2 (.pair (.int .i64) (.pair (.int .i64) (.int .i64)))), (4, .pre 5000 (.int .i64)), (6, .dat (.int .i64)), (7, .dat (.int .i64)), (8, .dat (.int .i64)), (27, .pre 2 (.pair (.int .i64) (.pair (.int .i64) (.int .i64)))), (28, .dat (.int .i64)), (29, .dat (.int .i64))] }], [(2, .cells false [.row (.pair (.int .i64) (.pair (.int .i64) (.int .i64)))]), (5000, .cells false [.row (.int .i64)])], 5001⟩
def comb_Survivors.x1 : List Spec := [⟨[{ fn := 16, items := [.code [.r, .l, .r, .r, .r, .r, .l, .l, .l, .r, .l, .r, .r, .r], .inBlock 3, .inLoop [.r, .l, .r, .r, .r, .r, .l, .l, .l], .inBlock 2, .code [.r, .l, .r, .r, .r, .r, .r], .inScope [.r, .l]], slots := [(3, .pre 2 (.pair (.int .i64) (.pair (.int .i64) (.int .i64)))), (4, .pre 5000 (.int .i64)), (6, .dat (.int .i64)), (7, .dat (.int .i64)), (8, .dat (.int .i64))] }], [(2, .cells false [.row (.pair (.int .i64) (.pair (.int .i64) (.int .i64)))]), (5000, .cells false [.row (.int .i64)])], 5001⟩]
noncomputable def comb_Survivors.b1 (m_ : Mode) (self : Int × Int × Int × Int × Int × Int × Int × Int × (List (Int × (Int × Int))) × (List Int) × Unit → Option ((Int × Int × Int × Int × Int × (List (Int × (Int × Int))) × (List Int) × Unit))) : Int × Int × Int × Int × Int × Int × Int × Int × (List (Int × (Int × Int))) × (List Int) × Unit → Option ((Int × Int × Int × Int × Int × (List (Int × (Int × Int))) × (List Int) × Unit)) := fun v_ => match v_ with
| (row, left, worst, far, least, t, t1, t2, m, m1, ()) =>
  bif decide (t2 < t1) then
    bif inB t2 t then
    (comb_Far.run m_ (((m.drop 0).take row.toNat), t2, ())).bind fun r =>
    bif decide (r ≥ far) then
      self (row, left, t2, r, (mn least (((rd ((0 : Int), ((0 : Int), (0 : Int))) m ((0 : Int) + t2)).2).2)), t, t1, (IntKind.i64.wrap (t2 + (1 : Int))), m, m1, ())
    else
      self (row, left, worst, far, (mn least (((rd ((0 : Int), ((0 : Int), (0 : Int))) m ((0 : Int) + t2)).2).2)), t, t1, (IntKind.i64.wrap (t2 + (1 : Int))), m, m1, ())
    else none
  else
    some (row, left, worst, far, least, m, m1, ())
theorem comb_Survivors.k1 (m_ : Mode) : ∀ (self : Known comb_Survivors.e1.sls → Option (Exits comb_Survivors.x1)) (v : Known comb_Survivors.e1.sls), runS P (oras (comb_Survivors.cs m_)) comb_Survivors.inl (⟨comb_Survivors.e1, self⟩ :: exitCuts comb_Survivors.x1 id) [] (fun _ _ => none) 20000 false (comb_Survivors.e1.mk' v) = comb_Survivors.b1 m_ self v := by
  intro self v_; exact (match v_ with | (row, left, worst, far, least, t, t1, t2, m, m1, ()) => by kernel_rfl)
noncomputable def comb_Survivors.l1 (m_ : Mode) : Int × Int × Int × Int × Int × Int × Int × Int × (List (Int × (Int × Int))) × (List Int) × Unit → Option ((Int × Int × Int × Int × Int × (List (Int × (Int × Int))) × (List Int) × Unit)) := loop m_ (comb_Survivors.b1 m_)
theorem comb_Survivors.q1 (v) : comb_Survivors.l1 .lim v = comb_Survivors.b1 .lim (comb_Survivors.l1 .lim) v := lfp_eq (cont_of_run (comb_Survivors.k1 .lim)) v
noncomputable def comb_Survivors.g1 (m_ : Mode) : Seg := ⟨comb_Survivors.e1, comb_Survivors.x1, comb_Survivors.l1 m_⟩
theorem comb_Survivors.s1 (m_ : Mode) (S0 w0 cs0) : SegGood P S0 w0 cs0 16 (comb_Survivors.g1 m_) := seg_loop m_ (oras_ok (comb_Survivors.csok m_)) (all_nil) (by rfl) (fun e he => List.all_eq_true.1 (show comb_Survivors.x1.all Spec.ok = true by rfl) e he) (comb_Survivors.k1 m_)
def comb_Survivors.e2 : Spec := ⟨[{ fn := 16, items := [.code [.r, .l, .r, .r, .r, .r, .l, .l, .l], .inLoop [.r, .l, .r, .r, .r, .r, .l, .l, .l], .inBlock 2, .code [.r, .l, .r, .r, .r, .r, .r], .inScope [.r, .l]], slots := [(3, .pre 2 (.pair (.int .i64) (.pair (.int .i64) (.int .i64)))), (4, .pre 5000 (.int .i64))] }], [(2, .cells false [.row (.pair (.int .i64) (.pair (.int .i64) (.int .i64)))]), (5000, .cells false [.row (.int .i64)])], 5001⟩
def comb_Survivors.x2 : List Spec := [⟨[{ fn := 16, items := [.code [.r, .l, .r, .r, .r, .r, .r], .inScope [.r, .l]], slots := [(4, .pre 5000 (.int .i64))] }], [(5000, .cells false [.row (.int .i64)])], 5001⟩]
noncomputable def comb_Survivors.b2 (m_ : Mode) (self : Int × Int × (List (Int × (Int × Int))) × (List Int) × Unit → Option ((Int × (List Int) × Unit))) : Int × Int × (List (Int × (Int × Int))) × (List Int) × Unit → Option ((Int × (List Int) × Unit)) := fun v_ => match v_ with
| (row, left, m, m1, ()) =>
  bif smallI row then
  bif decide (row > (3 : Int)) then
    bif smallI row then
    (comb_Survivors.l1 m_ (row, left, (0 : Int), (-1 : Int), (140737488355328 : Int), row, row, (0 : Int), m, m1, ())).bind fun (row1, left1, worst, far, least, m2, m3, ()) =>
    bif smallI row1 then
    bif decide (far ≤ (IntKind.i64.wrap (least * (IntKind.i64.wrap (row1 - (1 : Int)))))) then
      some (left1, m3, ())
    else
      bif smallI row1 then
      bif ((cutB worst (IntKind.i64.wrap (worst + (1 : Int))) row1) && (decide (row1 ≤ ((m2.length : Int) - (0 : Int))))) then
      bif decide (worst = (IntKind.i64.wrap (worst + (1 : Int)))) then
        bif smallI left1 then
        bif ((cutB worst (IntKind.i64.wrap (worst + (1 : Int))) left1) && (decide (left1 ≤ ((m3.length : Int) - (0 : Int))))) then
        bif decide (worst = (IntKind.i64.wrap (worst + (1 : Int)))) then
          self (row1, left1, m2, m3, ())
        else
          bif smallI left1 then
          bif cutB (0 : Int) worst ((m3.length : Int) - (0 : Int)) then
          bif cutB (IntKind.i64.wrap (worst + (1 : Int))) left1 ((m3.length : Int) - (0 : Int)) then
          bif ((decide (m3.length + ((m3.drop (((0 : Int) + (IntKind.i64.wrap (worst + (1 : Int)))).toNat)).take ((left1 - (IntKind.i64.wrap (worst + (1 : Int)))).toNat)).length < 8796093022208)) && (decide ((0 : Int) ≤ (worst - (0 : Int))))) then
          bif smallI ((worst - (0 : Int)) + (((m3.drop (((0 : Int) + (IntKind.i64.wrap (worst + (1 : Int)))).toNat)).take ((left1 - (IntKind.i64.wrap (worst + (1 : Int)))).toNat)).length : Int)) then
          bif cutB ((worst - (0 : Int)) + (((m3.drop (((0 : Int) + (IntKind.i64.wrap (worst + (1 : Int)))).toNat)).take ((left1 - (IntKind.i64.wrap (worst + (1 : Int)))).toNat)).length : Int)) left1 (((m3.take ((worst - (0 : Int)).toNat) ++ (((m3.drop (((0 : Int) + (IntKind.i64.wrap (worst + (1 : Int)))).toNat)).take ((left1 - (IntKind.i64.wrap (worst + (1 : Int)))).toNat)) ++ m3.drop ((worst - (0 : Int)).toNat + ((m3.drop (((0 : Int) + (IntKind.i64.wrap (worst + (1 : Int)))).toNat)).take ((left1 - (IntKind.i64.wrap (worst + (1 : Int)))).toNat)).length))).length : Int) - (0 : Int)) then self (row1, ((worst - (0 : Int)) + (((m3.drop (((0 : Int) + (IntKind.i64.wrap (worst + (1 : Int)))).toNat)).take ((left1 - (IntKind.i64.wrap (worst + (1 : Int)))).toNat)).length : Int)), m2, (splice (m3.take ((worst - (0 : Int)).toNat) ++ (((m3.drop (((0 : Int) + (IntKind.i64.wrap (worst + (1 : Int)))).toNat)).take ((left1 - (IntKind.i64.wrap (worst + (1 : Int)))).toNat)) ++ m3.drop ((worst - (0 : Int)).toNat + ((m3.drop (((0 : Int) + (IntKind.i64.wrap (worst + (1 : Int)))).toNat)).take ((left1 - (IntKind.i64.wrap (worst + (1 : Int)))).toNat)).length))) (((0 : Int) + ((worst - (0 : Int)) + (((m3.drop (((0 : Int) + (IntKind.i64.wrap (worst + (1 : Int)))).toNat)).take ((left1 - (IntKind.i64.wrap (worst + (1 : Int)))).toNat)).length : Int))).toNat) (List.replicate ((left1 - ((worst - (0 : Int)) + (((m3.drop (((0 : Int) + (IntKind.i64.wrap (worst + (1 : Int)))).toNat)).take ((left1 - (IntKind.i64.wrap (worst + (1 : Int)))).toNat)).length : Int))).toNat) (0 : Int))), ()) else none
          else none
          else none
          else none
          else none
          else none
        else none
        else none
      else
        bif smallI row1 then
        bif cutB (0 : Int) worst ((m2.length : Int) - (0 : Int)) then
        bif cutB (IntKind.i64.wrap (worst + (1 : Int))) row1 ((m2.length : Int) - (0 : Int)) then
        bif ((decide (m2.length + ((m2.drop (((0 : Int) + (IntKind.i64.wrap (worst + (1 : Int)))).toNat)).take ((row1 - (IntKind.i64.wrap (worst + (1 : Int)))).toNat)).length < 2932031007402)) && (decide ((0 : Int) ≤ (worst - (0 : Int))))) then
        bif smallI ((worst - (0 : Int)) + (((m2.drop (((0 : Int) + (IntKind.i64.wrap (worst + (1 : Int)))).toNat)).take ((row1 - (IntKind.i64.wrap (worst + (1 : Int)))).toNat)).length : Int)) then
        bif cutB ((worst - (0 : Int)) + (((m2.drop (((0 : Int) + (IntKind.i64.wrap (worst + (1 : Int)))).toNat)).take ((row1 - (IntKind.i64.wrap (worst + (1 : Int)))).toNat)).length : Int)) row1 (((m2.take ((worst - (0 : Int)).toNat) ++ (((m2.drop (((0 : Int) + (IntKind.i64.wrap (worst + (1 : Int)))).toNat)).take ((row1 - (IntKind.i64.wrap (worst + (1 : Int)))).toNat)) ++ m2.drop ((worst - (0 : Int)).toNat + ((m2.drop (((0 : Int) + (IntKind.i64.wrap (worst + (1 : Int)))).toNat)).take ((row1 - (IntKind.i64.wrap (worst + (1 : Int)))).toNat)).length))).length : Int) - (0 : Int)) then
        bif smallI left1 then
        bif ((cutB worst (IntKind.i64.wrap (worst + (1 : Int))) left1) && (decide (left1 ≤ ((m3.length : Int) - (0 : Int))))) then
        bif decide (worst = (IntKind.i64.wrap (worst + (1 : Int)))) then
          self (((worst - (0 : Int)) + (((m2.drop (((0 : Int) + (IntKind.i64.wrap (worst + (1 : Int)))).toNat)).take ((row1 - (IntKind.i64.wrap (worst + (1 : Int)))).toNat)).length : Int)), left1, (splice (m2.take ((worst - (0 : Int)).toNat) ++ (((m2.drop (((0 : Int) + (IntKind.i64.wrap (worst + (1 : Int)))).toNat)).take ((row1 - (IntKind.i64.wrap (worst + (1 : Int)))).toNat)) ++ m2.drop ((worst - (0 : Int)).toNat + ((m2.drop (((0 : Int) + (IntKind.i64.wrap (worst + (1 : Int)))).toNat)).take ((row1 - (IntKind.i64.wrap (worst + (1 : Int)))).toNat)).length))) (((0 : Int) + ((worst - (0 : Int)) + (((m2.drop (((0 : Int) + (IntKind.i64.wrap (worst + (1 : Int)))).toNat)).take ((row1 - (IntKind.i64.wrap (worst + (1 : Int)))).toNat)).length : Int))).toNat) (List.replicate ((row1 - ((worst - (0 : Int)) + (((m2.drop (((0 : Int) + (IntKind.i64.wrap (worst + (1 : Int)))).toNat)).take ((row1 - (IntKind.i64.wrap (worst + (1 : Int)))).toNat)).length : Int))).toNat) ((0 : Int), ((0 : Int), (0 : Int))))), m3, ())
        else
          bif smallI left1 then
          bif cutB (0 : Int) worst ((m3.length : Int) - (0 : Int)) then
          bif cutB (IntKind.i64.wrap (worst + (1 : Int))) left1 ((m3.length : Int) - (0 : Int)) then
          bif ((decide (m3.length + ((m3.drop (((0 : Int) + (IntKind.i64.wrap (worst + (1 : Int)))).toNat)).take ((left1 - (IntKind.i64.wrap (worst + (1 : Int)))).toNat)).length < 8796093022208)) && (decide ((0 : Int) ≤ (worst - (0 : Int))))) then
          bif smallI ((worst - (0 : Int)) + (((m3.drop (((0 : Int) + (IntKind.i64.wrap (worst + (1 : Int)))).toNat)).take ((left1 - (IntKind.i64.wrap (worst + (1 : Int)))).toNat)).length : Int)) then
          bif cutB ((worst - (0 : Int)) + (((m3.drop (((0 : Int) + (IntKind.i64.wrap (worst + (1 : Int)))).toNat)).take ((left1 - (IntKind.i64.wrap (worst + (1 : Int)))).toNat)).length : Int)) left1 (((m3.take ((worst - (0 : Int)).toNat) ++ (((m3.drop (((0 : Int) + (IntKind.i64.wrap (worst + (1 : Int)))).toNat)).take ((left1 - (IntKind.i64.wrap (worst + (1 : Int)))).toNat)) ++ m3.drop ((worst - (0 : Int)).toNat + ((m3.drop (((0 : Int) + (IntKind.i64.wrap (worst + (1 : Int)))).toNat)).take ((left1 - (IntKind.i64.wrap (worst + (1 : Int)))).toNat)).length))).length : Int) - (0 : Int)) then self (((worst - (0 : Int)) + (((m2.drop (((0 : Int) + (IntKind.i64.wrap (worst + (1 : Int)))).toNat)).take ((row1 - (IntKind.i64.wrap (worst + (1 : Int)))).toNat)).length : Int)), ((worst - (0 : Int)) + (((m3.drop (((0 : Int) + (IntKind.i64.wrap (worst + (1 : Int)))).toNat)).take ((left1 - (IntKind.i64.wrap (worst + (1 : Int)))).toNat)).length : Int)), (splice (m2.take ((worst - (0 : Int)).toNat) ++ (((m2.drop (((0 : Int) + (IntKind.i64.wrap (worst + (1 : Int)))).toNat)).take ((row1 - (IntKind.i64.wrap (worst + (1 : Int)))).toNat)) ++ m2.drop ((worst - (0 : Int)).toNat + ((m2.drop (((0 : Int) + (IntKind.i64.wrap (worst + (1 : Int)))).toNat)).take ((row1 - (IntKind.i64.wrap (worst + (1 : Int)))).toNat)).length))) (((0 : Int) + ((worst - (0 : Int)) + (((m2.drop (((0 : Int) + (IntKind.i64.wrap (worst + (1 : Int)))).toNat)).take ((row1 - (IntKind.i64.wrap (worst + (1 : Int)))).toNat)).length : Int))).toNat) (List.replicate ((row1 - ((worst - (0 : Int)) + (((m2.drop (((0 : Int) + (IntKind.i64.wrap (worst + (1 : Int)))).toNat)).take ((row1 - (IntKind.i64.wrap (worst + (1 : Int)))).toNat)).length : Int))).toNat) ((0 : Int), ((0 : Int), (0 : Int))))), (splice (m3.take ((worst - (0 : Int)).toNat) ++ (((m3.drop (((0 : Int) + (IntKind.i64.wrap (worst + (1 : Int)))).toNat)).take ((left1 - (IntKind.i64.wrap (worst + (1 : Int)))).toNat)) ++ m3.drop ((worst - (0 : Int)).toNat + ((m3.drop (((0 : Int) + (IntKind.i64.wrap (worst + (1 : Int)))).toNat)).take ((left1 - (IntKind.i64.wrap (worst + (1 : Int)))).toNat)).length))) (((0 : Int) + ((worst - (0 : Int)) + (((m3.drop (((0 : Int) + (IntKind.i64.wrap (worst + (1 : Int)))).toNat)).take ((left1 - (IntKind.i64.wrap (worst + (1 : Int)))).toNat)).length : Int))).toNat) (List.replicate ((left1 - ((worst - (0 : Int)) + (((m3.drop (((0 : Int) + (IntKind.i64.wrap (worst + (1 : Int)))).toNat)).take ((left1 - (IntKind.i64.wrap (worst + (1 : Int)))).toNat)).length : Int))).toNat) (0 : Int))), ()) else none
          else none
          else none
          else none
          else none
          else none
        else none
        else none
        else none
        else none
        else none
        else none
        else none
        else none
      else none
      else none
    else none
    else none
  else
    some (left, m1, ())
  else none
theorem comb_Survivors.k2 (m_ : Mode) : ∀ (self : Known comb_Survivors.e2.sls → Option (Exits comb_Survivors.x2)) (v : Known comb_Survivors.e2.sls), runS P (oras (comb_Survivors.cs m_)) comb_Survivors.inl (⟨comb_Survivors.e2, self⟩ :: exitCuts comb_Survivors.x2 id) [comb_Survivors.g1 m_] (fun _ _ => none) 20000 false (comb_Survivors.e2.mk' v) = comb_Survivors.b2 m_ self v := by
  intro self v_; exact (match v_ with | (row, left, m, m1, ()) => by kernel_rfl)
noncomputable def comb_Survivors.l2 (m_ : Mode) : Int × Int × (List (Int × (Int × Int))) × (List Int) × Unit → Option ((Int × (List Int) × Unit)) := loop m_ (comb_Survivors.b2 m_)
theorem comb_Survivors.q2 (v) : comb_Survivors.l2 .lim v = comb_Survivors.b2 .lim (comb_Survivors.l2 .lim) v := lfp_eq (cont_of_run (comb_Survivors.k2 .lim)) v
noncomputable def comb_Survivors.g2 (m_ : Mode) : Seg := ⟨comb_Survivors.e2, comb_Survivors.x2, comb_Survivors.l2 m_⟩
theorem comb_Survivors.s2 (m_ : Mode) (S0 w0 cs0) : SegGood P S0 w0 cs0 16 (comb_Survivors.g2 m_) := seg_loop m_ (oras_ok (comb_Survivors.csok m_)) (all_cons (comb_Survivors.s1 m_ S0 w0 cs0) (all_nil)) (by rfl) (fun e he => List.all_eq_true.1 (show comb_Survivors.x2.all Spec.ok = true by rfl) e he) (comb_Survivors.k2 m_)
noncomputable def comb_Survivors.run (m_ : Mode) : (List (Int × (Int × Int))) × Unit → Option (List Int) := fun v_ => match v_ with
| (l, ()) =>
  (slices_Clone_api_Peer_api_Peer.run m_ (l, ())).bind fun r =>
  bif smallI (l.length : Int) then
  (comb_Survivors.l0 m_ ((l.length : Int), (0 : Int), r, ([] : List Int), ())).bind fun (m, m1, ()) =>
  (comb_Survivors.l2 m_ ((m.length : Int), (m1.length : Int), m, m1, ())).bind fun (left, m2, ()) =>
  some ((m2.drop 0).take left.toNat)
  else none
noncomputable def comb_Survivors.c (m_ : Mode) : Callee := ⟨16, [.one (.lst (.pair (.int .i64) (.pair (.int .i64) (.int .i64))))], .one (.sh (.one (.lst (.int .i64)))), comb_Survivors.run m_⟩
theorem comb_Survivors.k (m_ : Mode) : ∀ v : Shs (comb_Survivors.c m_).args, runS P (oras (comb_Survivors.cs m_)) comb_Survivors.inl [] [comb_Survivors.g0 m_, comb_Survivors.g2 m_] (comb_Survivors.c m_).res.fin 20000 false (start 16 (encs (comb_Survivors.c m_).args v)) = comb_Survivors.run m_ v := by
  intro v_; exact (match v_ with | (l, ()) => by kernel_rfl)
theorem comb_Survivors.ok (m_ : Mode) : (comb_Survivors.c m_).OK P := Callee.of_run (fun S0 w0 => oras_ok (comb_Survivors.csok m_)) (by kernel_rfl) (by rfl) (fun S0 w0 cs0 => all_cons (comb_Survivors.s0 m_ S0 w0 cs0) (all_cons (comb_Survivors.s2 m_ S0 w0 cs0) (all_nil))) (fun x r h => (comb_Survivors.k m_ x).trans h)

/-! ### pendulum/pendulumlaw30.ints -/
noncomputable def pendulumlaw30_ints.cs (m_ : Mode) : List Callee := []
theorem pendulumlaw30_ints.csok (m_ : Mode) : ∀ k ∈ pendulumlaw30_ints.cs m_, k.OK P := all_nil
def pendulumlaw30_ints.inl : FuncId → Bool := fun f => [].any (Nat.beq f)
def pendulumlaw30_ints.e0 : Spec := ⟨[{ fn := 15, items := [.code [.r, .r, .l, .r, .l, .l], .inLoop [.r, .r, .l, .r, .l, .l], .inBlock 0, .code [.r, .r, .r]], slots := [(0, .dat (.lst (.int .i64))), (1, .dat (.lst (.int .i64))), (12, .dat (.int .i64)), (13, .dat (.int .i64))] }], [], 0⟩
def pendulumlaw30_ints.x0 : List Spec := [⟨[{ fn := 15, items := [.code [.r, .r, .l, .r, .l, .l, .r, .r, .l, .l, .r, .r, .l, .r], .inBlock 1, .code [.r, .r, .l, .r, .l, .l, .r, .r, .r], .inLoop [.r, .r, .l, .r, .l, .l], .inBlock 0, .code [.r, .r, .r]], slots := [(4, .dat .bool)] }], [], 0⟩, ⟨[{ fn := 15, items := [.code [.r, .r, .r]], slots := [] }], [], 0⟩]
noncomputable def pendulumlaw30_ints.b0 (m_ : Mode) (self : (List Int) × (List Int) × Int × Int × Unit → Option ((Bool × Unit) ⊕ (Unit))) : (List Int) × (List Int) × Int × Int × Unit → Option ((Bool × Unit) ⊕ (Unit)) := fun v_ => match v_ with
| (a, b, t, t1, ()) =>
  bif decide (t1 < t) then
    bif inB t1 (a.length : Int) then
    bif inB t1 (b.length : Int) then
    bif !(decide ((rd (0 : Int) a t1) = (rd (0 : Int) b t1))) then
      some (.inl (false, ()))
    else
      self (a, b, t, (IntKind.i64.wrap (t1 + (1 : Int))), ())
    else none
    else none
  else
    some (.inr (()))
theorem pendulumlaw30_ints.k0 (m_ : Mode) : ∀ (self : Known pendulumlaw30_ints.e0.sls → Option (Exits pendulumlaw30_ints.x0)) (v : Known pendulumlaw30_ints.e0.sls), runS P (oras (pendulumlaw30_ints.cs m_)) pendulumlaw30_ints.inl (⟨pendulumlaw30_ints.e0, self⟩ :: exitCuts pendulumlaw30_ints.x0 id) [] (fun _ _ => none) 20000 false (pendulumlaw30_ints.e0.mk' v) = pendulumlaw30_ints.b0 m_ self v := by
  intro self v_; exact (match v_ with | (a, b, t, t1, ()) => by kernel_rfl)
noncomputable def pendulumlaw30_ints.l0 (m_ : Mode) : (List Int) × (List Int) × Int × Int × Unit → Option ((Bool × Unit) ⊕ (Unit)) := loop m_ (pendulumlaw30_ints.b0 m_)
theorem pendulumlaw30_ints.q0 (v) : pendulumlaw30_ints.l0 .lim v = pendulumlaw30_ints.b0 .lim (pendulumlaw30_ints.l0 .lim) v := lfp_eq (cont_of_run (pendulumlaw30_ints.k0 .lim)) v
noncomputable def pendulumlaw30_ints.g0 (m_ : Mode) : Seg := ⟨pendulumlaw30_ints.e0, pendulumlaw30_ints.x0, pendulumlaw30_ints.l0 m_⟩
theorem pendulumlaw30_ints.s0 (m_ : Mode) (S0 w0 cs0) : SegGood P S0 w0 cs0 15 (pendulumlaw30_ints.g0 m_) := seg_loop m_ (oras_ok (pendulumlaw30_ints.csok m_)) (all_nil) (by rfl) (fun e he => List.all_eq_true.1 (show pendulumlaw30_ints.x0.all Spec.ok = true by rfl) e he) (pendulumlaw30_ints.k0 m_)
noncomputable def pendulumlaw30_ints.run (m_ : Mode) : (List Int) × (List Int) × Unit → Option (Bool) := fun v_ => match v_ with
| (a, b, ()) =>
  bif smallI (a.length : Int) then
  bif smallI (b.length : Int) then
  bif !(decide ((a.length : Int) = (b.length : Int))) then
    some false
  else
    bif smallI (a.length : Int) then
    (pendulumlaw30_ints.l0 m_ (a, b, (a.length : Int), (0 : Int), ())).bind fun g_ => match g_ with
    | .inl (t, ()) =>
      some t
    | .inr (()) =>
      some true
    else none
  else none
  else none
noncomputable def pendulumlaw30_ints.c (m_ : Mode) : Callee := ⟨15, [.one (.lst (.int .i64)), .one (.lst (.int .i64))], .one (.sh (.one .bool)), pendulumlaw30_ints.run m_⟩
theorem pendulumlaw30_ints.k (m_ : Mode) : ∀ v : Shs (pendulumlaw30_ints.c m_).args, runS P (oras (pendulumlaw30_ints.cs m_)) pendulumlaw30_ints.inl [] [pendulumlaw30_ints.g0 m_] (pendulumlaw30_ints.c m_).res.fin 20000 false (start 15 (encs (pendulumlaw30_ints.c m_).args v)) = pendulumlaw30_ints.run m_ v := by
  intro v_; exact (match v_ with | (a, b, ()) => by kernel_rfl)
theorem pendulumlaw30_ints.ok (m_ : Mode) : (pendulumlaw30_ints.c m_).OK P := Callee.of_run (fun S0 w0 => oras_ok (pendulumlaw30_ints.csok m_)) (by kernel_rfl) (by rfl) (fun S0 w0 cs0 => all_cons (pendulumlaw30_ints.s0 m_ S0 w0 cs0) (all_nil)) (fun x r h => (pendulumlaw30_ints.k m_ x).trans h)

/-! ### pendulum/pendulumlaw30.awake -/
-- not told: guard is junk [F8 (('inRegion', 'rrrl', 18),)]
-- not told: pure of junk [F8 (('code', 'rrrr'),)]
noncomputable def pendulumlaw30_awake.cs (m_ : Mode) : List Callee := [comb_Combine.c m_, comb_Far.c m_, pendulumlaw30_ints.c m_, comb_Survivors.c m_]
theorem pendulumlaw30_awake.csok (m_ : Mode) : ∀ k ∈ pendulumlaw30_awake.cs m_, k.OK P := all_cons (comb_Combine.ok m_) (all_cons (comb_Far.ok m_) (all_cons (pendulumlaw30_ints.ok m_) (all_cons (comb_Survivors.ok m_) (all_nil))))
def pendulumlaw30_awake.inl : FuncId → Bool := fun f => [].any (Nat.beq f)
noncomputable def pendulumlaw30_awake.run (m_ : Mode) : Unit → Option (Bool) := fun v_ => match v_ with
| (()) =>
  (comb_Combine.run m_ (([((0 : Int), ((0 : Int), (0 : Int))), ((10 : Int), ((0 : Int), (0 : Int)))] : List (Int × (Int × Int))), ())).bind fun (r, r1, ()) =>
  (comb_Survivors.run m_ (([((0 : Int), ((0 : Int), (0 : Int))), ((1 : Int), ((0 : Int), (0 : Int))), ((2 : Int), ((0 : Int), (0 : Int))), ((100 : Int), ((0 : Int), (0 : Int)))] : List (Int × (Int × Int))), ())).bind fun r2 =>
  bif (((decide (r.1 = (5 : Int))) && (decide (r.2.2 = (5 : Int)))) && (decide (r1 = (0 : Int)))) then
    ((bif (((decide (r.1 = (5 : Int))) && (decide (r.2.2 = (5 : Int)))) && (decide (r1 = (0 : Int)))) then pendulumlaw30_ints.run m_ (r2, ([(0 : Int), (1 : Int), (2 : Int)] : List Int), ()) else some false)).bind fun r3 =>
    bif ((((decide (r.1 = (5 : Int))) && (decide (r.2.2 = (5 : Int)))) && (decide (r1 = (0 : Int)))) && r3) then
      ((bif ((((decide (r.1 = (5 : Int))) && (decide (r.2.2 = (5 : Int)))) && (decide (r1 = (0 : Int)))) && r3) then comb_Far.run m_ (([((0 : Int), ((0 : Int), (0 : Int))), ((3 : Int), ((0 : Int), (0 : Int)))] : List (Int × (Int × Int))), (0 : Int), ()) else some (0 : Int))).bind fun r4 =>
      some (((((decide (r.1 = (5 : Int))) && (decide (r.2.2 = (5 : Int)))) && (decide (r1 = (0 : Int)))) && r3) && (decide (r4 = (3 : Int))))
    else
      bif !((((decide (r.1 = (5 : Int))) && (decide (r.2.2 = (5 : Int)))) && (decide (r1 = (0 : Int)))) && r3) then
      bif !((((decide (r.1 = (5 : Int))) && (decide (r.2.2 = (5 : Int)))) && (decide (r1 = (0 : Int)))) && r3) then none else none
      else none
  else
    bif !(((decide (r.1 = (5 : Int))) && (decide (r.2.2 = (5 : Int)))) && (decide (r1 = (0 : Int)))) then none else none
noncomputable def pendulumlaw30_awake.c (m_ : Mode) : Callee := ⟨8, [], .one (.sh (.one .bool)), pendulumlaw30_awake.run m_⟩
theorem pendulumlaw30_awake.k (m_ : Mode) : ∀ v : Shs (pendulumlaw30_awake.c m_).args, runS P (oras (pendulumlaw30_awake.cs m_)) pendulumlaw30_awake.inl [] [] (pendulumlaw30_awake.c m_).res.fin 20000 false (start 8 (encs (pendulumlaw30_awake.c m_).args v)) = pendulumlaw30_awake.run m_ v := by
  intro v_; exact (match v_ with | (()) => by kernel_rfl)
theorem pendulumlaw30_awake.ok (m_ : Mode) : (pendulumlaw30_awake.c m_).OK P := Callee.of_run (fun S0 w0 => oras_ok (pendulumlaw30_awake.csok m_)) (by kernel_rfl) (by rfl) (fun S0 w0 cs0 => all_nil) (fun x r h => (pendulumlaw30_awake.k m_ x).trans h)
def pendulumlaw30_awake.t : Callee := ⟨8, [], .one (.sh (.one .bool)), fun _ => some true⟩
theorem pendulumlaw30_awake.plays : pendulumlaw30_awake.run (.fuel 1000) () = some true := by kernel_rfl
theorem pendulumlaw30_awake.okt : pendulumlaw30_awake.t.OK P := Callee.of_run (fun S0 w0 => oras_ok (pendulumlaw30_awake.csok (.fuel 1000))) (by kernel_rfl) (by rfl) (fun S0 w0 cs0 => all_nil) (fun x r h => (pendulumlaw30_awake.k (.fuel 1000) x).trans (pendulumlaw30_awake.plays.trans h))

/-! ### pendulum/pendulumref30.Weight -/
noncomputable def pendulumref30_Weight.cs (m_ : Mode) : List Callee := []
theorem pendulumref30_Weight.csok (m_ : Mode) : ∀ k ∈ pendulumref30_Weight.cs m_, k.OK P := all_nil
def pendulumref30_Weight.inl : FuncId → Bool := fun f => [].any (Nat.beq f)
noncomputable def pendulumref30_Weight.run (m_ : Mode) : (Int × (Int × Int)) × Unit → Option (Int) := fun v_ => match v_ with
| (p, ()) =>
  bif !(decide ((IntKind.i64.wrap ((ishr .i64 p.2.1 (16 : Int)) + (1 : Int))) = (0 : Int))) then some (mx (IntKind.i64.wrap ((4096 : Int).tdiv (IntKind.i64.wrap ((ishr .i64 p.2.1 (16 : Int)) + (1 : Int))))) (1 : Int)) else none
noncomputable def pendulumref30_Weight.c (m_ : Mode) : Callee := ⟨10, [.ag (.pair (.int .i64) (.pair (.int .i64) (.int .i64)))], .one (.sh (.one (.int .i64))), pendulumref30_Weight.run m_⟩
theorem pendulumref30_Weight.k (m_ : Mode) : ∀ v : Shs (pendulumref30_Weight.c m_).args, runS P (oras (pendulumref30_Weight.cs m_)) pendulumref30_Weight.inl [] [] (pendulumref30_Weight.c m_).res.fin 20000 false (start 10 (encs (pendulumref30_Weight.c m_).args v)) = pendulumref30_Weight.run m_ v := by
  intro v_; exact (match v_ with | (p, ()) => by kernel_rfl)
theorem pendulumref30_Weight.ok (m_ : Mode) : (pendulumref30_Weight.c m_).OK P := Callee.of_run (fun S0 w0 => oras_ok (pendulumref30_Weight.csok m_)) (by kernel_rfl) (by rfl) (fun S0 w0 cs0 => all_nil) (fun x r h => (pendulumref30_Weight.k m_ x).trans h)

/-! ### pendulum/pendulumref30.floor -/
noncomputable def pendulumref30_floor.cs (m_ : Mode) : List Callee := []
theorem pendulumref30_floor.csok (m_ : Mode) : ∀ k ∈ pendulumref30_floor.cs m_, k.OK P := all_nil
def pendulumref30_floor.inl : FuncId → Bool := fun f => [].any (Nat.beq f)
noncomputable def pendulumref30_floor.run (m_ : Mode) : Int × Int × Unit → Option (Int) := fun v_ => match v_ with
| (a, b, ()) =>
  bif !(decide (b = (0 : Int))) then
  bif !(decide (b = (0 : Int))) then
  bif decide ((a.tmod b) < (0 : Int)) then
    some (IntKind.i64.wrap ((IntKind.i64.wrap (a.tdiv b)) - (1 : Int)))
  else
    some (IntKind.i64.wrap (a.tdiv b))
  else none
  else none
noncomputable def pendulumref30_floor.c (m_ : Mode) : Callee := ⟨22, [.one (.int .i64), .one (.int .i64)], .one (.sh (.one (.int .i64))), pendulumref30_floor.run m_⟩
theorem pendulumref30_floor.k (m_ : Mode) : ∀ v : Shs (pendulumref30_floor.c m_).args, runS P (oras (pendulumref30_floor.cs m_)) pendulumref30_floor.inl [] [] (pendulumref30_floor.c m_).res.fin 20000 false (start 22 (encs (pendulumref30_floor.c m_).args v)) = pendulumref30_floor.run m_ v := by
  intro v_; exact (match v_ with | (a, b, ()) => by kernel_rfl)
theorem pendulumref30_floor.ok (m_ : Mode) : (pendulumref30_floor.c m_).OK P := Callee.of_run (fun S0 w0 => oras_ok (pendulumref30_floor.csok m_)) (by kernel_rfl) (by rfl) (fun S0 w0 cs0 => all_nil) (fun x r h => (pendulumref30_floor.k m_ x).trans h)

/-! ### pendulum/pendulumref30.distance -/
noncomputable def pendulumref30_distance.cs (m_ : Mode) : List Callee := []
theorem pendulumref30_distance.csok (m_ : Mode) : ∀ k ∈ pendulumref30_distance.cs m_, k.OK P := all_nil
def pendulumref30_distance.inl : FuncId → Bool := fun f => [].any (Nat.beq f)
noncomputable def pendulumref30_distance.run (m_ : Mode) : Int × Int × Unit → Option (Int) := fun v_ => match v_ with
| (a, b, ()) =>
  bif decide (a < b) then
    some (IntKind.i64.wrap (b - a))
  else
    some (IntKind.i64.wrap (a - b))
noncomputable def pendulumref30_distance.c (m_ : Mode) : Callee := ⟨23, [.one (.int .i64), .one (.int .i64)], .one (.sh (.one (.int .i64))), pendulumref30_distance.run m_⟩
theorem pendulumref30_distance.k (m_ : Mode) : ∀ v : Shs (pendulumref30_distance.c m_).args, runS P (oras (pendulumref30_distance.cs m_)) pendulumref30_distance.inl [] [] (pendulumref30_distance.c m_).res.fin 20000 false (start 23 (encs (pendulumref30_distance.c m_).args v)) = pendulumref30_distance.run m_ v := by
  intro v_; exact (match v_ with | (a, b, ()) => by kernel_rfl)
theorem pendulumref30_distance.ok (m_ : Mode) : (pendulumref30_distance.c m_).OK P := Callee.of_run (fun S0 w0 => oras_ok (pendulumref30_distance.csok m_)) (by kernel_rfl) (by rfl) (fun S0 w0 cs0 => all_nil) (fun x r h => (pendulumref30_distance.k m_ x).trans h)

/-! ### pendulum/pendulumref30.Combine -/
noncomputable def pendulumref30_Combine.cs (m_ : Mode) : List Callee := [pendulumref30_Weight.c m_, pendulumref30_floor.c m_, pendulumref30_distance.c m_]
theorem pendulumref30_Combine.csok (m_ : Mode) : ∀ k ∈ pendulumref30_Combine.cs m_, k.OK P := all_cons (pendulumref30_Weight.ok m_) (all_cons (pendulumref30_floor.ok m_) (all_cons (pendulumref30_distance.ok m_) (all_nil)))
def pendulumref30_Combine.inl : FuncId → Bool := fun f => [].any (Nat.beq f)
def pendulumref30_Combine.e0 : Spec := ⟨[{ fn := 12, items := [.code [.r, .r, .r, .r, .r, .l, .r, .l, .l], .inLoop [.r, .r, .r, .r, .r, .l, .r, .l, .l], .inBlock 0, .code [.r, .r, .r, .r, .r, .r]], slots := [(0, .dat (.lst (.pair (.int .i64) (.pair (.int .i64) (.int .i64))))), (2, .ptr 0 0), (4, .dat (.int .i64)), (5, .dat (.int .i64)), (6, .dat (.int .i64)), (7, .dat (.int .i64))] }], [(0, .cells false [.dat (.int .i64), .dat (.int .i64), .dat (.int .i64)])], 1⟩
def pendulumref30_Combine.x0 : List Spec := [⟨[{ fn := 12, items := [.code [.r, .r, .r, .r, .r, .r]], slots := [(0, .dat (.lst (.pair (.int .i64) (.pair (.int .i64) (.int .i64))))), (2, .ptr 0 0), (4, .dat (.int .i64)), (5, .dat (.int .i64)), (6, .dat (.int .i64))] }], [(0, .cells false [.dat (.int .i64), .dat (.int .i64), .dat (.int .i64)])], 1⟩]
noncomputable def pendulumref30_Combine.b0 (m_ : Mode) (self : (List (Int × (Int × Int))) × Int × Int × Int × Int × Int × Int × Int × Unit → Option (((List (Int × (Int × Int))) × Int × Int × Int × Int × Int × Int × Unit))) : (List (Int × (Int × Int))) × Int × Int × Int × Int × Int × Int × Int × Unit → Option (((List (Int × (Int × Int))) × Int × Int × Int × Int × Int × Int × Unit)) := fun v_ => match v_ with
| (l, sum, all, root, i, m, m1, m2, ()) =>
  bif smallI (l.length : Int) then
  bif decide (i < (l.length : Int)) then
    bif inB i (l.length : Int) then
    bif inB i (l.length : Int) then
    (pendulumref30_Weight.run m_ (((rd ((0 : Int), ((0 : Int), (0 : Int))) l i).1, (((rd ((0 : Int), ((0 : Int), (0 : Int))) l i).2).1, ((rd ((0 : Int), ((0 : Int), (0 : Int))) l i).2).2)), ())).bind fun r =>
    bif inB i (l.length : Int) then
    (pendulumref30_Weight.run m_ (((rd ((0 : Int), ((0 : Int), (0 : Int))) l i).1, (((rd ((0 : Int), ((0 : Int), (0 : Int))) l i).2).1, ((rd ((0 : Int), ((0 : Int), (0 : Int))) l i).2).2)), ())).bind fun r1 =>
    bif inB i (l.length : Int) then self (l, (IntKind.i64.wrap (sum + (IntKind.i64.wrap (((rd ((0 : Int), ((0 : Int), (0 : Int))) l i).1) * r)))), (IntKind.i64.wrap (all + r1)), (mn root (((rd ((0 : Int), ((0 : Int), (0 : Int))) l i).2).1)), (IntKind.i64.wrap (i + (1 : Int))), m, m1, m2, ()) else none
    else none
    else none
    else none
  else
    some (l, sum, all, root, m, m1, m2, ())
  else none
theorem pendulumref30_Combine.k0 (m_ : Mode) : ∀ (self : Known pendulumref30_Combine.e0.sls → Option (Exits pendulumref30_Combine.x0)) (v : Known pendulumref30_Combine.e0.sls), runS P (oras (pendulumref30_Combine.cs m_)) pendulumref30_Combine.inl (⟨pendulumref30_Combine.e0, self⟩ :: exitCuts pendulumref30_Combine.x0 id) [] (fun _ _ => none) 20000 false (pendulumref30_Combine.e0.mk' v) = pendulumref30_Combine.b0 m_ self v := by
  intro self v_; exact (match v_ with | (l, sum, all, root, i, m, m1, m2, ()) => by kernel_rfl)
noncomputable def pendulumref30_Combine.l0 (m_ : Mode) : (List (Int × (Int × Int))) × Int × Int × Int × Int × Int × Int × Int × Unit → Option (((List (Int × (Int × Int))) × Int × Int × Int × Int × Int × Int × Unit)) := loop m_ (pendulumref30_Combine.b0 m_)
theorem pendulumref30_Combine.q0 (v) : pendulumref30_Combine.l0 .lim v = pendulumref30_Combine.b0 .lim (pendulumref30_Combine.l0 .lim) v := lfp_eq (cont_of_run (pendulumref30_Combine.k0 .lim)) v
noncomputable def pendulumref30_Combine.g0 (m_ : Mode) : Seg := ⟨pendulumref30_Combine.e0, pendulumref30_Combine.x0, pendulumref30_Combine.l0 m_⟩
theorem pendulumref30_Combine.s0 (m_ : Mode) (S0 w0 cs0) : SegGood P S0 w0 cs0 12 (pendulumref30_Combine.g0 m_) := seg_loop m_ (oras_ok (pendulumref30_Combine.csok m_)) (all_nil) (by rfl) (fun e he => List.all_eq_true.1 (show pendulumref30_Combine.x0.all Spec.ok = true by rfl) e he) (pendulumref30_Combine.k0 m_)
def pendulumref30_Combine.e1 : Spec := ⟨[{ fn := 12, items := [.code [.r, .r, .r, .r, .r, .r, .r, .l, .r, .l, .l], .inLoop [.r, .r, .r, .r, .r, .r, .r, .l, .r, .l, .l], .inBlock 2, .code [.r, .r, .r, .r, .r, .r, .r, .r]], slots := [(0, .dat (.lst (.pair (.int .i64) (.pair (.int .i64) (.int .i64))))), (2, .ptr 0 0), (6, .dat (.int .i64)), (8, .ptr 5 0), (9, .dat (.int .i64))] }], [(0, .cells false [.dat (.int .i64), .dat (.int .i64), .dat (.int .i64)]), (5, .cells false [.dat (.int .i64), .dat (.int .i64), .dat (.int .i64)])], 6⟩
def pendulumref30_Combine.x1 : List Spec := [⟨[{ fn := 12, items := [.code [.r, .r, .r, .r, .r, .r, .r, .r]], slots := [(2, .ptr 0 0), (6, .dat (.int .i64)), (8, .ptr 5 0)] }], [(0, .cells false [.dat (.int .i64), .dat (.int .i64), .dat (.int .i64)]), (5, .cells false [.dat (.int .i64), .dat (.int .i64), .dat (.int .i64)])], 6⟩]
noncomputable def pendulumref30_Combine.b1 (m_ : Mode) (self : (List (Int × (Int × Int))) × Int × Int × Int × Int × Int × Int × Int × Int × Unit → Option ((Int × Int × Int × Int × Int × Int × Int × Unit))) : (List (Int × (Int × Int))) × Int × Int × Int × Int × Int × Int × Int × Int × Unit → Option ((Int × Int × Int × Int × Int × Int × Int × Unit)) := fun v_ => match v_ with
| (l, root, i, m, m1, m2, m3, m4, m5, ()) =>
  bif smallI (l.length : Int) then
  bif decide (i < (l.length : Int)) then
    bif inB i (l.length : Int) then
    (pendulumref30_distance.run m_ ((rd ((0 : Int), ((0 : Int), (0 : Int))) l i).1, m3, ())).bind fun r =>
    self (l, root, (IntKind.i64.wrap (i + (1 : Int))), m, m1, m2, m3, m4, (mx m5 (mn r (140737488355328 : Int))), ())
    else none
  else
    some (root, m, m1, m2, m3, m4, m5, ())
  else none
theorem pendulumref30_Combine.k1 (m_ : Mode) : ∀ (self : Known pendulumref30_Combine.e1.sls → Option (Exits pendulumref30_Combine.x1)) (v : Known pendulumref30_Combine.e1.sls), runS P (oras (pendulumref30_Combine.cs m_)) pendulumref30_Combine.inl (⟨pendulumref30_Combine.e1, self⟩ :: exitCuts pendulumref30_Combine.x1 id) [] (fun _ _ => none) 20000 false (pendulumref30_Combine.e1.mk' v) = pendulumref30_Combine.b1 m_ self v := by
  intro self v_; exact (match v_ with | (l, root, i, m, m1, m2, m3, m4, m5, ()) => by kernel_rfl)
noncomputable def pendulumref30_Combine.l1 (m_ : Mode) : (List (Int × (Int × Int))) × Int × Int × Int × Int × Int × Int × Int × Int × Unit → Option ((Int × Int × Int × Int × Int × Int × Int × Unit)) := loop m_ (pendulumref30_Combine.b1 m_)
theorem pendulumref30_Combine.q1 (v) : pendulumref30_Combine.l1 .lim v = pendulumref30_Combine.b1 .lim (pendulumref30_Combine.l1 .lim) v := lfp_eq (cont_of_run (pendulumref30_Combine.k1 .lim)) v
noncomputable def pendulumref30_Combine.g1 (m_ : Mode) : Seg := ⟨pendulumref30_Combine.e1, pendulumref30_Combine.x1, pendulumref30_Combine.l1 m_⟩
theorem pendulumref30_Combine.s1 (m_ : Mode) (S0 w0 cs0) : SegGood P S0 w0 cs0 12 (pendulumref30_Combine.g1 m_) := seg_loop m_ (oras_ok (pendulumref30_Combine.csok m_)) (all_nil) (by rfl) (fun e he => List.all_eq_true.1 (show pendulumref30_Combine.x1.all Spec.ok = true by rfl) e he) (pendulumref30_Combine.k1 m_)
noncomputable def pendulumref30_Combine.run (m_ : Mode) : (List (Int × (Int × Int))) × Unit → Option ((Int × (Int × Int)) × Int × Unit) := fun v_ => match v_ with
| (l, ()) =>
  bif smallI (l.length : Int) then
  bif decide ((l.length : Int) = (0 : Int)) then
    some (((0 : Int), ((0 : Int), (0 : Int))), (19 : Int), ())
  else
    bif inB (0 : Int) (l.length : Int) then
    (pendulumref30_Combine.l0 m_ (l, (0 : Int), (0 : Int), ((rd ((0 : Int), ((0 : Int), (0 : Int))) l (0 : Int)).2).1, (0 : Int), (0 : Int), (0 : Int), (0 : Int), ())).bind fun (l1, sum, all, root, m, m1, m2, ()) =>
    (pendulumref30_floor.run m_ (sum, all, ())).bind fun r =>
    (pendulumref30_Combine.l1 m_ (l1, root, (0 : Int), m, m1, m2, r, (0 : Int), (0 : Int), ())).bind fun (root1, m3, m4, m5, m6, m7, m8, ()) =>
    some ((m6, ((mn (IntKind.i64.wrap (root1 + m8)) (140737488355328 : Int)), m8)), (0 : Int), ())
    else none
  else none
noncomputable def pendulumref30_Combine.c (m_ : Mode) : Callee := ⟨12, [.one (.lst (.pair (.int .i64) (.pair (.int .i64) (.int .i64))))], .tup [.sh (.ag (.pair (.int .i64) (.pair (.int .i64) (.int .i64)))), .sh (.one (.int .i64))], pendulumref30_Combine.run m_⟩
theorem pendulumref30_Combine.k (m_ : Mode) : ∀ v : Shs (pendulumref30_Combine.c m_).args, runS P (oras (pendulumref30_Combine.cs m_)) pendulumref30_Combine.inl [] [pendulumref30_Combine.g0 m_, pendulumref30_Combine.g1 m_] (pendulumref30_Combine.c m_).res.fin 20000 false (start 12 (encs (pendulumref30_Combine.c m_).args v)) = pendulumref30_Combine.run m_ v := by
  intro v_; exact (match v_ with | (l, ()) => by kernel_rfl)
theorem pendulumref30_Combine.ok (m_ : Mode) : (pendulumref30_Combine.c m_).OK P := Callee.of_run (fun S0 w0 => oras_ok (pendulumref30_Combine.csok m_)) (by kernel_rfl) (by rfl) (fun S0 w0 cs0 => all_cons (pendulumref30_Combine.s0 m_ S0 w0 cs0) (all_cons (pendulumref30_Combine.s1 m_ S0 w0 cs0) (all_nil))) (fun x r h => (pendulumref30_Combine.k m_ x).trans h)

/-! ### pendulum/pendulumref30.Far -/
noncomputable def pendulumref30_Far.cs (m_ : Mode) : List Callee := [pendulumref30_distance.c m_]
theorem pendulumref30_Far.csok (m_ : Mode) : ∀ k ∈ pendulumref30_Far.cs m_, k.OK P := all_cons (pendulumref30_distance.ok m_) (all_nil)
def pendulumref30_Far.inl : FuncId → Bool := fun f => [].any (Nat.beq f)
def pendulumref30_Far.e0 : Spec := ⟨[{ fn := 14, items := [.code [.r, .r, .r, .l, .r, .l, .l], .inLoop [.r, .r, .r, .l, .r, .l, .l], .inBlock 0, .code [.r, .r, .r, .r]], slots := [(0, .dat (.lst (.pair (.int .i64) (.pair (.int .i64) (.int .i64))))), (1, .dat (.int .i64)), (5, .dat (.int .i64)), (6, .dat (.int .i64))] }], [], 0⟩
def pendulumref30_Far.x0 : List Spec := [⟨[{ fn := 14, items := [.code [.r, .r, .r, .r]], slots := [(5, .dat (.int .i64))] }], [], 0⟩]
noncomputable def pendulumref30_Far.b0 (m_ : Mode) (self : (List (Int × (Int × Int))) × Int × Int × Int × Unit → Option ((Int × Unit))) : (List (Int × (Int × Int))) × Int × Int × Int × Unit → Option ((Int × Unit)) := fun v_ => match v_ with
| (l, k, n, i, ()) =>
  bif smallI (l.length : Int) then
  bif decide (i < (l.length : Int)) then
    bif inB i (l.length : Int) then
    bif inB k (l.length : Int) then
    (pendulumref30_distance.run m_ ((rd ((0 : Int), ((0 : Int), (0 : Int))) l i).1, (rd ((0 : Int), ((0 : Int), (0 : Int))) l k).1, ())).bind fun r =>
    self (l, k, (IntKind.i64.wrap (n + r)), (IntKind.i64.wrap (i + (1 : Int))), ())
    else none
    else none
  else
    some (n, ())
  else none
theorem pendulumref30_Far.k0 (m_ : Mode) : ∀ (self : Known pendulumref30_Far.e0.sls → Option (Exits pendulumref30_Far.x0)) (v : Known pendulumref30_Far.e0.sls), runS P (oras (pendulumref30_Far.cs m_)) pendulumref30_Far.inl (⟨pendulumref30_Far.e0, self⟩ :: exitCuts pendulumref30_Far.x0 id) [] (fun _ _ => none) 20000 false (pendulumref30_Far.e0.mk' v) = pendulumref30_Far.b0 m_ self v := by
  intro self v_; exact (match v_ with | (l, k, n, i, ()) => by kernel_rfl)
noncomputable def pendulumref30_Far.l0 (m_ : Mode) : (List (Int × (Int × Int))) × Int × Int × Int × Unit → Option ((Int × Unit)) := loop m_ (pendulumref30_Far.b0 m_)
theorem pendulumref30_Far.q0 (v) : pendulumref30_Far.l0 .lim v = pendulumref30_Far.b0 .lim (pendulumref30_Far.l0 .lim) v := lfp_eq (cont_of_run (pendulumref30_Far.k0 .lim)) v
noncomputable def pendulumref30_Far.g0 (m_ : Mode) : Seg := ⟨pendulumref30_Far.e0, pendulumref30_Far.x0, pendulumref30_Far.l0 m_⟩
theorem pendulumref30_Far.s0 (m_ : Mode) (S0 w0 cs0) : SegGood P S0 w0 cs0 14 (pendulumref30_Far.g0 m_) := seg_loop m_ (oras_ok (pendulumref30_Far.csok m_)) (all_nil) (by rfl) (fun e he => List.all_eq_true.1 (show pendulumref30_Far.x0.all Spec.ok = true by rfl) e he) (pendulumref30_Far.k0 m_)
noncomputable def pendulumref30_Far.run (m_ : Mode) : (List (Int × (Int × Int))) × Int × Unit → Option (Int) := fun v_ => match v_ with
| (l, k, ()) =>
  bif ((!(!(decide (k < (0 : Int))))) || (smallI (l.length : Int))) then
  bif ((decide (k < (0 : Int))) || (decide (k ≥ (l.length : Int)))) then
    some (0 : Int)
  else
    (pendulumref30_Far.l0 m_ (l, k, (0 : Int), (0 : Int), ())).bind fun (n, ()) =>
    some n
  else none
noncomputable def pendulumref30_Far.c (m_ : Mode) : Callee := ⟨14, [.one (.lst (.pair (.int .i64) (.pair (.int .i64) (.int .i64)))), .one (.int .i64)], .one (.sh (.one (.int .i64))), pendulumref30_Far.run m_⟩
theorem pendulumref30_Far.k (m_ : Mode) : ∀ v : Shs (pendulumref30_Far.c m_).args, runS P (oras (pendulumref30_Far.cs m_)) pendulumref30_Far.inl [] [pendulumref30_Far.g0 m_] (pendulumref30_Far.c m_).res.fin 20000 false (start 14 (encs (pendulumref30_Far.c m_).args v)) = pendulumref30_Far.run m_ v := by
  intro v_; exact (match v_ with | (l, k, ()) => by kernel_rfl)
theorem pendulumref30_Far.ok (m_ : Mode) : (pendulumref30_Far.c m_).OK P := Callee.of_run (fun S0 w0 => oras_ok (pendulumref30_Far.csok m_)) (by kernel_rfl) (by rfl) (fun S0 w0 cs0 => all_cons (pendulumref30_Far.s0 m_ S0 w0 cs0) (all_nil)) (fun x r h => (pendulumref30_Far.k m_ x).trans h)

/-! ### pendulum/pendulumlaw30.CombTells -/
noncomputable def pendulumlaw30_CombTells.cs (m_ : Mode) : List Callee := [pendulumref29_Fit.c m_, pendulumlaw30_awake.t, comb_Weight.c m_, pendulumref30_Weight.c m_, comb_Combine.c m_, pendulumref30_Combine.c m_, comb_Far.c m_, pendulumref30_Far.c m_]
theorem pendulumlaw30_CombTells.csok (m_ : Mode) : ∀ k ∈ pendulumlaw30_CombTells.cs m_, k.OK P := all_cons (pendulumref29_Fit.ok m_) (all_cons pendulumlaw30_awake.okt (all_cons (comb_Weight.ok m_) (all_cons (pendulumref30_Weight.ok m_) (all_cons (comb_Combine.ok m_) (all_cons (pendulumref30_Combine.ok m_) (all_cons (comb_Far.ok m_) (all_cons (pendulumref30_Far.ok m_) (all_nil))))))))
def pendulumlaw30_CombTells.inl : FuncId → Bool := fun f => [].any (Nat.beq f)
def pendulumlaw30_CombTells.e0 : Spec := ⟨[{ fn := 3, items := [.code [.r, .r, .l, .r, .l, .l], .inLoop [.r, .r, .l, .r, .l, .l], .inBlock 0, .code [.r, .r, .r]], slots := [(0, .dat (.lst (.pair (.int .i64) (.pair (.int .i64) (.int .i64))))), (1, .dat (.int .i64)), (15, .dat (.lst (.pair (.int .i64) (.pair (.int .i64) (.int .i64))))), (16, .dat (.int .i64)), (17, .dat (.int .i64))] }], [], 0⟩
def pendulumlaw30_CombTells.x0 : List Spec := [⟨[{ fn := 3, items := [.code [.r, .r, .l, .r, .l, .l, .r, .r, .l, .l, .r, .r, .l, .r], .inBlock 1, .code [.r, .r, .l, .r, .l, .l, .r, .r, .r], .inLoop [.r, .r, .l, .r, .l, .l], .inBlock 0, .code [.r, .r, .r]], slots := [(4, .dat .bool)] }], [], 0⟩, ⟨[{ fn := 3, items := [.code [.r, .r, .r]], slots := [(0, .dat (.lst (.pair (.int .i64) (.pair (.int .i64) (.int .i64))))), (1, .dat (.int .i64))] }], [], 0⟩]
noncomputable def pendulumlaw30_CombTells.b0 (m_ : Mode) (self : (List (Int × (Int × Int))) × Int × (List (Int × (Int × Int))) × Int × Int × Unit → Option ((Bool × Unit) ⊕ ((List (Int × (Int × Int))) × Int × Unit))) : (List (Int × (Int × Int))) × Int × (List (Int × (Int × Int))) × Int × Int × Unit → Option ((Bool × Unit) ⊕ ((List (Int × (Int × Int))) × Int × Unit)) := fun v_ => match v_ with
| (l, k, t, t1, t2, ()) =>
  bif decide (t2 < t1) then
    bif inB t2 (t.length : Int) then
    (comb_Weight.run m_ (((rd ((0 : Int), ((0 : Int), (0 : Int))) t t2).1, (((rd ((0 : Int), ((0 : Int), (0 : Int))) t t2).2).1, ((rd ((0 : Int), ((0 : Int), (0 : Int))) t t2).2).2)), ())).bind fun r =>
    (pendulumref30_Weight.run m_ (((rd ((0 : Int), ((0 : Int), (0 : Int))) t t2).1, (((rd ((0 : Int), ((0 : Int), (0 : Int))) t t2).2).1, ((rd ((0 : Int), ((0 : Int), (0 : Int))) t t2).2).2)), ())).bind fun r1 =>
    bif !(decide (r = r1)) then
      some (.inl (false, ()))
    else
      self (l, k, t, t1, (IntKind.i64.wrap (t2 + (1 : Int))), ())
    else none
  else
    some (.inr (l, k, ()))
theorem pendulumlaw30_CombTells.k0 (m_ : Mode) : ∀ (self : Known pendulumlaw30_CombTells.e0.sls → Option (Exits pendulumlaw30_CombTells.x0)) (v : Known pendulumlaw30_CombTells.e0.sls), runS P (oras (pendulumlaw30_CombTells.cs m_)) pendulumlaw30_CombTells.inl (⟨pendulumlaw30_CombTells.e0, self⟩ :: exitCuts pendulumlaw30_CombTells.x0 id) [] (fun _ _ => none) 20000 false (pendulumlaw30_CombTells.e0.mk' v) = pendulumlaw30_CombTells.b0 m_ self v := by
  intro self v_; exact (match v_ with | (l, k, t, t1, t2, ()) => by kernel_rfl)
noncomputable def pendulumlaw30_CombTells.l0 (m_ : Mode) : (List (Int × (Int × Int))) × Int × (List (Int × (Int × Int))) × Int × Int × Unit → Option ((Bool × Unit) ⊕ ((List (Int × (Int × Int))) × Int × Unit)) := loop m_ (pendulumlaw30_CombTells.b0 m_)
theorem pendulumlaw30_CombTells.q0 (v) : pendulumlaw30_CombTells.l0 .lim v = pendulumlaw30_CombTells.b0 .lim (pendulumlaw30_CombTells.l0 .lim) v := lfp_eq (cont_of_run (pendulumlaw30_CombTells.k0 .lim)) v
noncomputable def pendulumlaw30_CombTells.g0 (m_ : Mode) : Seg := ⟨pendulumlaw30_CombTells.e0, pendulumlaw30_CombTells.x0, pendulumlaw30_CombTells.l0 m_⟩
theorem pendulumlaw30_CombTells.s0 (m_ : Mode) (S0 w0 cs0) : SegGood P S0 w0 cs0 3 (pendulumlaw30_CombTells.g0 m_) := seg_loop m_ (oras_ok (pendulumlaw30_CombTells.csok m_)) (all_nil) (by rfl) (fun e he => List.all_eq_true.1 (show pendulumlaw30_CombTells.x0.all Spec.ok = true by rfl) e he) (pendulumlaw30_CombTells.k0 m_)
noncomputable def pendulumlaw30_CombTells.run (m_ : Mode) : (List (Int × (Int × Int))) × Int × Unit → Option (Bool) := fun v_ => match v_ with
| (l, k, ()) =>
  (pendulumref29_Fit.run m_ (l, ())).bind fun r =>
  bif !r then
    (some true).bind fun r1 =>
    some r1
  else
    bif smallI (l.length : Int) then
    (pendulumlaw30_CombTells.l0 m_ (l, k, l, (l.length : Int), (0 : Int), ())).bind fun g_ => match g_ with
    | .inl (t, ()) =>
      some t
    | .inr (l1, k1, ()) =>
      (comb_Combine.run m_ (l1, ())).bind fun (r2, r3, ()) =>
      (pendulumref30_Combine.run m_ (l1, ())).bind fun (r4, r5, ()) =>
      (comb_Far.run m_ (l1, k1, ())).bind fun r6 =>
      (pendulumref30_Far.run m_ (l1, k1, ())).bind fun r7 =>
      ((bif (((decide (r6 = r7)) && ((decide (r2.1 = r4.1)) && ((decide (r2.2.1 = r4.2.1)) && (decide (r2.2.2 = r4.2.2))))) && (decide (r3 = r5))) then some true else some false)).bind fun r8 =>
      some ((((decide (r6 = r7)) && ((decide (r2.1 = r4.1)) && ((decide (r2.2.1 = r4.2.1)) && (decide (r2.2.2 = r4.2.2))))) && (decide (r3 = r5))) && r8)
    else none
noncomputable def pendulumlaw30_CombTells.c (m_ : Mode) : Callee := ⟨3, [.one (.lst (.pair (.int .i64) (.pair (.int .i64) (.int .i64)))), .one (.int .i64)], .one (.sh (.one .bool)), pendulumlaw30_CombTells.run m_⟩
theorem pendulumlaw30_CombTells.k (m_ : Mode) : ∀ v : Shs (pendulumlaw30_CombTells.c m_).args, runS P (oras (pendulumlaw30_CombTells.cs m_)) pendulumlaw30_CombTells.inl [] [pendulumlaw30_CombTells.g0 m_] (pendulumlaw30_CombTells.c m_).res.fin 20000 false (start 3 (encs (pendulumlaw30_CombTells.c m_).args v)) = pendulumlaw30_CombTells.run m_ v := by
  intro v_; exact (match v_ with | (l, k, ()) => by kernel_rfl)
theorem pendulumlaw30_CombTells.ok (m_ : Mode) : (pendulumlaw30_CombTells.c m_).OK P := Callee.of_run (fun S0 w0 => oras_ok (pendulumlaw30_CombTells.csok m_)) (by kernel_rfl) (by rfl) (fun S0 w0 cs0 => all_cons (pendulumlaw30_CombTells.s0 m_ S0 w0 cs0) (all_nil)) (fun x r h => (pendulumlaw30_CombTells.k m_ x).trans h)

/-! ### pendulum/pendulumref30.Survivors -/
noncomputable def pendulumref30_Survivors.cs (m_ : Mode) : List Callee := [pendulumref30_Far.c m_]
theorem pendulumref30_Survivors.csok (m_ : Mode) : ∀ k ∈ pendulumref30_Survivors.cs m_, k.OK P := all_cons (pendulumref30_Far.ok m_) (all_nil)
def pendulumref30_Survivors.inl : FuncId → Bool := fun f => [].any (Nat.beq f)
def pendulumref30_Survivors.e0 : Spec := ⟨[{ fn := 17, items := [.code [.r, .r, .l, .r, .l, .l], .inLoop [.r, .r, .l, .r, .l, .l], .inBlock 0, .code [.r, .r, .r]], slots := [(0, .dat (.lst (.pair (.int .i64) (.pair (.int .i64) (.int .i64))))), (3, .own 5001 (.int .i64)), (4, .dat (.int .i64))] }], [(5001, .cells false [.row (.int .i64)])], 5002⟩
def pendulumref30_Survivors.x0 : List Spec := [⟨[{ fn := 17, items := [.code [.r, .r, .r]], slots := [(0, .dat (.lst (.pair (.int .i64) (.pair (.int .i64) (.int .i64))))), (3, .own 5001 (.int .i64))] }], [(5001, .cells false [.row (.int .i64)])], 5002⟩]
noncomputable def pendulumref30_Survivors.b0 (m_ : Mode) (self : (List (Int × (Int × Int))) × Int × (List Int) × Unit → Option (((List (Int × (Int × Int))) × (List Int) × Unit))) : (List (Int × (Int × Int))) × Int × (List Int) × Unit → Option (((List (Int × (Int × Int))) × (List Int) × Unit)) := fun v_ => match v_ with
| (l, i, m, ()) =>
  bif smallI (l.length : Int) then
  bif decide (i < (l.length : Int)) then
    bif decide (m.length + ([i] : List Int).length < 8796093022208) then self (l, (IntKind.i64.wrap (i + (1 : Int))), (m ++ ([i] : List Int)), ()) else none
  else
    some (l, m, ())
  else none
theorem pendulumref30_Survivors.k0 (m_ : Mode) : ∀ (self : Known pendulumref30_Survivors.e0.sls → Option (Exits pendulumref30_Survivors.x0)) (v : Known pendulumref30_Survivors.e0.sls), runS P (oras (pendulumref30_Survivors.cs m_)) pendulumref30_Survivors.inl (⟨pendulumref30_Survivors.e0, self⟩ :: exitCuts pendulumref30_Survivors.x0 id) [] (fun _ _ => none) 20000 false (pendulumref30_Survivors.e0.mk' v) = pendulumref30_Survivors.b0 m_ self v := by
  intro self v_; exact (match v_ with | (l, i, m, ()) => by kernel_rfl)
noncomputable def pendulumref30_Survivors.l0 (m_ : Mode) : (List (Int × (Int × Int))) × Int × (List Int) × Unit → Option (((List (Int × (Int × Int))) × (List Int) × Unit)) := loop m_ (pendulumref30_Survivors.b0 m_)
theorem pendulumref30_Survivors.q0 (v) : pendulumref30_Survivors.l0 .lim v = pendulumref30_Survivors.b0 .lim (pendulumref30_Survivors.l0 .lim) v := lfp_eq (cont_of_run (pendulumref30_Survivors.k0 .lim)) v
noncomputable def pendulumref30_Survivors.g0 (m_ : Mode) : Seg := ⟨pendulumref30_Survivors.e0, pendulumref30_Survivors.x0, pendulumref30_Survivors.l0 m_⟩
theorem pendulumref30_Survivors.s0 (m_ : Mode) (S0 w0 cs0) : SegGood P S0 w0 cs0 17 (pendulumref30_Survivors.g0 m_) := seg_loop m_ (oras_ok (pendulumref30_Survivors.csok m_)) (all_nil) (by rfl) (fun e he => List.all_eq_true.1 (show pendulumref30_Survivors.x0.all Spec.ok = true by rfl) e he) (pendulumref30_Survivors.k0 m_)
def pendulumref30_Survivors.e1 : Spec := ⟨[{ fn := 17, items := [.code [.r, .r, .r, .l, .l, .l, .r, .l, .r, .r, .l, .r, .l, .l], .inLoop [.r, .r, .r, .l, .l, .l, .r, .l, .r, .r, .l, .r, .l, .l], .inBlock 4, .code [.r, .r, .r, .l, .l, .l, .r, .l, .r, .r, .r], .inBlock 3, .inLoop [.r, .r, .r, .l, .l, .l], .inBlock 2, .code [.r, .r, .r, .r]], slots := [(0, .dat (.lst (.pair (.int .i64) (.pair (.int .i64) (.int .i64))))), (3, .dat (.lst (.int .i64))), (5, .own 5002 (.pair (.int .i64) (.pair (.int .i64) (.int .i64)))), (6, .dat (.int .i64)), (7, .dat (.int .i64))] }], [(5002, .cells false [.row (.pair (.int .i64) (.pair (.int .i64) (.int .i64)))])], 5003⟩
def pendulumref30_Survivors.x1 : List Spec := [⟨[{ fn := 17, items := [.code [.r, .r, .r, .l, .l, .l, .r, .l, .r, .r, .r], .inBlock 3, .inLoop [.r, .r, .r, .l, .l, .l], .inBlock 2, .code [.r, .r, .r, .r]], slots := [(0, .dat (.lst (.pair (.int .i64) (.pair (.int .i64) (.int .i64))))), (3, .dat (.lst (.int .i64))), (5, .own 5002 (.pair (.int .i64) (.pair (.int .i64) (.int .i64)))), (6, .dat (.int .i64))] }], [(5002, .cells false [.row (.pair (.int .i64) (.pair (.int .i64) (.int .i64)))])], 5003⟩]
noncomputable def pendulumref30_Survivors.b1 (m_ : Mode) (self : (List (Int × (Int × Int))) × (List Int) × Int × Int × (List (Int × (Int × Int))) × Unit → Option (((List (Int × (Int × Int))) × (List Int) × Int × (List (Int × (Int × Int))) × Unit))) : (List (Int × (Int × Int))) × (List Int) × Int × Int × (List (Int × (Int × Int))) × Unit → Option (((List (Int × (Int × Int))) × (List Int) × Int × (List (Int × (Int × Int))) × Unit)) := fun v_ => match v_ with
| (l, left, least, i, m, ()) =>
  bif smallI (left.length : Int) then
  bif decide (i < (left.length : Int)) then
    bif inB i (left.length : Int) then
    bif inB (rd (0 : Int) left i) (l.length : Int) then
    bif decide (m.length + ([((rd ((0 : Int), ((0 : Int), (0 : Int))) l (rd (0 : Int) left i)).1, (((rd ((0 : Int), ((0 : Int), (0 : Int))) l (rd (0 : Int) left i)).2).1, ((rd ((0 : Int), ((0 : Int), (0 : Int))) l (rd (0 : Int) left i)).2).2))] : List (Int × (Int × Int))).length < 2932031007402) then
    bif inB i (left.length : Int) then
    bif inB (rd (0 : Int) left i) (l.length : Int) then self (l, left, (mn least (((rd ((0 : Int), ((0 : Int), (0 : Int))) l (rd (0 : Int) left i)).2).2)), (IntKind.i64.wrap (i + (1 : Int))), (m ++ ([((rd ((0 : Int), ((0 : Int), (0 : Int))) l (rd (0 : Int) left i)).1, (((rd ((0 : Int), ((0 : Int), (0 : Int))) l (rd (0 : Int) left i)).2).1, ((rd ((0 : Int), ((0 : Int), (0 : Int))) l (rd (0 : Int) left i)).2).2))] : List (Int × (Int × Int)))), ()) else none
    else none
    else none
    else none
    else none
  else
    some (l, left, least, m, ())
  else none
theorem pendulumref30_Survivors.k1 (m_ : Mode) : ∀ (self : Known pendulumref30_Survivors.e1.sls → Option (Exits pendulumref30_Survivors.x1)) (v : Known pendulumref30_Survivors.e1.sls), runS P (oras (pendulumref30_Survivors.cs m_)) pendulumref30_Survivors.inl (⟨pendulumref30_Survivors.e1, self⟩ :: exitCuts pendulumref30_Survivors.x1 id) [] (fun _ _ => none) 20000 false (pendulumref30_Survivors.e1.mk' v) = pendulumref30_Survivors.b1 m_ self v := by
  intro self v_; exact (match v_ with | (l, left, least, i, m, ()) => by kernel_rfl)
noncomputable def pendulumref30_Survivors.l1 (m_ : Mode) : (List (Int × (Int × Int))) × (List Int) × Int × Int × (List (Int × (Int × Int))) × Unit → Option (((List (Int × (Int × Int))) × (List Int) × Int × (List (Int × (Int × Int))) × Unit)) := loop m_ (pendulumref30_Survivors.b1 m_)
theorem pendulumref30_Survivors.q1 (v) : pendulumref30_Survivors.l1 .lim v = pendulumref30_Survivors.b1 .lim (pendulumref30_Survivors.l1 .lim) v := lfp_eq (cont_of_run (pendulumref30_Survivors.k1 .lim)) v
noncomputable def pendulumref30_Survivors.g1 (m_ : Mode) : Seg := ⟨pendulumref30_Survivors.e1, pendulumref30_Survivors.x1, pendulumref30_Survivors.l1 m_⟩
theorem pendulumref30_Survivors.s1 (m_ : Mode) (S0 w0 cs0) : SegGood P S0 w0 cs0 17 (pendulumref30_Survivors.g1 m_) := seg_loop m_ (oras_ok (pendulumref30_Survivors.csok m_)) (all_nil) (by rfl) (fun e he => List.all_eq_true.1 (show pendulumref30_Survivors.x1.all Spec.ok = true by rfl) e he) (pendulumref30_Survivors.k1 m_)
def pendulumref30_Survivors.e2 : Spec := ⟨[{ fn := 17, items := [.code [.r, .r, .r, .l, .l, .l, .r, .l, .r, .r, .r, .r, .l, .r, .l, .l], .inLoop [.r, .r, .r, .l, .l, .l, .r, .l, .r, .r, .r, .r, .l, .r, .l, .l], .inBlock 6, .code [.r, .r, .r, .l, .l, .l, .r, .l, .r, .r, .r, .r, .r], .inBlock 3, .inLoop [.r, .r, .r, .l, .l, .l], .inBlock 2, .code [.r, .r, .r, .r]], slots := [(0, .dat (.lst (.pair (.int .i64) (.pair (.int .i64) (.int .i64))))), (3, .dat (.lst (.int .i64))), (5, .own 5002 (.pair (.int .i64) (.pair (.int .i64) (.int .i64)))), (6, .dat (.int .i64)), (8, .dat (.int .i64)), (9, .dat (.int .i64))] }], [(5002, .cells false [.row (.pair (.int .i64) (.pair (.int .i64) (.int .i64)))])], 5003⟩
def pendulumref30_Survivors.x2 : List Spec := [⟨[{ fn := 17, items := [.code [.r, .r, .r, .l, .l, .l, .r, .l, .r, .r, .r, .r, .r], .inBlock 3, .inLoop [.r, .r, .r, .l, .l, .l], .inBlock 2, .code [.r, .r, .r, .r]], slots := [(0, .dat (.lst (.pair (.int .i64) (.pair (.int .i64) (.int .i64))))), (3, .dat (.lst (.int .i64))), (5, .own 5002 (.pair (.int .i64) (.pair (.int .i64) (.int .i64)))), (6, .dat (.int .i64)), (8, .dat (.int .i64))] }], [(5002, .cells false [.row (.pair (.int .i64) (.pair (.int .i64) (.int .i64)))])], 5003⟩]
noncomputable def pendulumref30_Survivors.b2 (m_ : Mode) (self : (List (Int × (Int × Int))) × (List Int) × Int × Int × Int × (List (Int × (Int × Int))) × Unit → Option (((List (Int × (Int × Int))) × (List Int) × Int × Int × (List (Int × (Int × Int))) × Unit))) : (List (Int × (Int × Int))) × (List Int) × Int × Int × Int × (List (Int × (Int × Int))) × Unit → Option (((List (Int × (Int × Int))) × (List Int) × Int × Int × (List (Int × (Int × Int))) × Unit)) := fun v_ => match v_ with
| (l, left, least, worst, i, m, ()) =>
  bif smallI (m.length : Int) then
  bif decide (i < (m.length : Int)) then
    (pendulumref30_Far.run m_ (m, i, ())).bind fun r =>
    (pendulumref30_Far.run m_ (m, worst, ())).bind fun r1 =>
    bif decide (r ≥ r1) then
      self (l, left, least, i, (IntKind.i64.wrap (i + (1 : Int))), m, ())
    else
      self (l, left, least, worst, (IntKind.i64.wrap (i + (1 : Int))), m, ())
  else
    some (l, left, least, worst, m, ())
  else none
theorem pendulumref30_Survivors.k2 (m_ : Mode) : ∀ (self : Known pendulumref30_Survivors.e2.sls → Option (Exits pendulumref30_Survivors.x2)) (v : Known pendulumref30_Survivors.e2.sls), runS P (oras (pendulumref30_Survivors.cs m_)) pendulumref30_Survivors.inl (⟨pendulumref30_Survivors.e2, self⟩ :: exitCuts pendulumref30_Survivors.x2 id) [] (fun _ _ => none) 20000 false (pendulumref30_Survivors.e2.mk' v) = pendulumref30_Survivors.b2 m_ self v := by
  intro self v_; exact (match v_ with | (l, left, least, worst, i, m, ()) => by kernel_rfl)
noncomputable def pendulumref30_Survivors.l2 (m_ : Mode) : (List (Int × (Int × Int))) × (List Int) × Int × Int × Int × (List (Int × (Int × Int))) × Unit → Option (((List (Int × (Int × Int))) × (List Int) × Int × Int × (List (Int × (Int × Int))) × Unit)) := loop m_ (pendulumref30_Survivors.b2 m_)
theorem pendulumref30_Survivors.q2 (v) : pendulumref30_Survivors.l2 .lim v = pendulumref30_Survivors.b2 .lim (pendulumref30_Survivors.l2 .lim) v := lfp_eq (cont_of_run (pendulumref30_Survivors.k2 .lim)) v
noncomputable def pendulumref30_Survivors.g2 (m_ : Mode) : Seg := ⟨pendulumref30_Survivors.e2, pendulumref30_Survivors.x2, pendulumref30_Survivors.l2 m_⟩
theorem pendulumref30_Survivors.s2 (m_ : Mode) (S0 w0 cs0) : SegGood P S0 w0 cs0 17 (pendulumref30_Survivors.g2 m_) := seg_loop m_ (oras_ok (pendulumref30_Survivors.csok m_)) (all_nil) (by rfl) (fun e he => List.all_eq_true.1 (show pendulumref30_Survivors.x2.all Spec.ok = true by rfl) e he) (pendulumref30_Survivors.k2 m_)
def pendulumref30_Survivors.e3 : Spec := ⟨[{ fn := 17, items := [.code [.r, .r, .r, .l, .l, .l], .inLoop [.r, .r, .r, .l, .l, .l], .inBlock 2, .code [.r, .r, .r, .r]], slots := [(0, .dat (.lst (.pair (.int .i64) (.pair (.int .i64) (.int .i64))))), (3, .dat (.lst (.int .i64)))] }], [], 0⟩
def pendulumref30_Survivors.x3 : List Spec := [⟨[{ fn := 17, items := [.code [.r, .r, .r, .r]], slots := [(3, .dat (.lst (.int .i64)))] }], [], 0⟩]
noncomputable def pendulumref30_Survivors.b3 (m_ : Mode) (self : (List (Int × (Int × Int))) × (List Int) × Unit → Option (((List Int) × Unit))) : (List (Int × (Int × Int))) × (List Int) × Unit → Option (((List Int) × Unit)) := fun v_ => match v_ with
| (l, left, ()) =>
  bif smallI (left.length : Int) then
  bif decide ((left.length : Int) > (3 : Int)) then
    bif inB (0 : Int) (left.length : Int) then
    bif inB (rd (0 : Int) left (0 : Int)) (l.length : Int) then
    (pendulumref30_Survivors.l1 m_ (l, left, ((rd ((0 : Int), ((0 : Int), (0 : Int))) l (rd (0 : Int) left (0 : Int))).2).2, (0 : Int), ([] : List (Int × (Int × Int))), ())).bind fun (l1, left1, least, m, ()) =>
    (pendulumref30_Survivors.l2 m_ (l1, left1, least, (0 : Int), (0 : Int), m, ())).bind fun (l2, left2, least1, worst, m1, ()) =>
    (pendulumref30_Far.run m_ (m1, worst, ())).bind fun r =>
    bif smallI (m1.length : Int) then
    bif decide (r ≤ (IntKind.i64.wrap (least1 * (IntKind.i64.wrap ((m1.length : Int) - (1 : Int)))))) then
      some (left2, ())
    else
      bif cutB (0 : Int) worst (left2.length : Int) then
      bif decide ((cut left2 (0 : Int) worst).length < 8796093022208) then
      bif cutB (IntKind.i64.wrap (worst + (1 : Int))) (left2.length : Int) (left2.length : Int) then
      bif decide ((cut left2 (0 : Int) worst).length + (cut left2 (IntKind.i64.wrap (worst + (1 : Int))) (left2.length : Int)).length < 8796093022208) then self (l2, ((cut left2 (0 : Int) worst) ++ (cut left2 (IntKind.i64.wrap (worst + (1 : Int))) (left2.length : Int))), ()) else none
      else none
      else none
      else none
    else none
    else none
    else none
  else
    some (left, ())
  else none
theorem pendulumref30_Survivors.k3 (m_ : Mode) : ∀ (self : Known pendulumref30_Survivors.e3.sls → Option (Exits pendulumref30_Survivors.x3)) (v : Known pendulumref30_Survivors.e3.sls), runS P (oras (pendulumref30_Survivors.cs m_)) pendulumref30_Survivors.inl (⟨pendulumref30_Survivors.e3, self⟩ :: exitCuts pendulumref30_Survivors.x3 id) [pendulumref30_Survivors.g1 m_, pendulumref30_Survivors.g2 m_] (fun _ _ => none) 20000 false (pendulumref30_Survivors.e3.mk' v) = pendulumref30_Survivors.b3 m_ self v := by
  intro self v_; exact (match v_ with | (l, left, ()) => by kernel_rfl)
noncomputable def pendulumref30_Survivors.l3 (m_ : Mode) : (List (Int × (Int × Int))) × (List Int) × Unit → Option (((List Int) × Unit)) := loop m_ (pendulumref30_Survivors.b3 m_)
theorem pendulumref30_Survivors.q3 (v) : pendulumref30_Survivors.l3 .lim v = pendulumref30_Survivors.b3 .lim (pendulumref30_Survivors.l3 .lim) v := lfp_eq (cont_of_run (pendulumref30_Survivors.k3 .lim)) v
noncomputable def pendulumref30_Survivors.g3 (m_ : Mode) : Seg := ⟨pendulumref30_Survivors.e3, pendulumref30_Survivors.x3, pendulumref30_Survivors.l3 m_⟩
theorem pendulumref30_Survivors.s3 (m_ : Mode) (S0 w0 cs0) : SegGood P S0 w0 cs0 17 (pendulumref30_Survivors.g3 m_) := seg_loop m_ (oras_ok (pendulumref30_Survivors.csok m_)) (all_cons (pendulumref30_Survivors.s1 m_ S0 w0 cs0) (all_cons (pendulumref30_Survivors.s2 m_ S0 w0 cs0) (all_nil))) (by rfl) (fun e he => List.all_eq_true.1 (show pendulumref30_Survivors.x3.all Spec.ok = true by rfl) e he) (pendulumref30_Survivors.k3 m_)
noncomputable def pendulumref30_Survivors.run (m_ : Mode) : (List (Int × (Int × Int))) × Unit → Option (List Int) := fun v_ => match v_ with
| (l, ()) =>
  (pendulumref30_Survivors.l0 m_ (l, (0 : Int), ([] : List Int), ())).bind fun (l1, m, ()) =>
  (pendulumref30_Survivors.l3 m_ (l1, m, ())).bind fun (left, ()) =>
  some left
noncomputable def pendulumref30_Survivors.c (m_ : Mode) : Callee := ⟨17, [.one (.lst (.pair (.int .i64) (.pair (.int .i64) (.int .i64))))], .one (.sh (.one (.lst (.int .i64)))), pendulumref30_Survivors.run m_⟩
theorem pendulumref30_Survivors.k (m_ : Mode) : ∀ v : Shs (pendulumref30_Survivors.c m_).args, runS P (oras (pendulumref30_Survivors.cs m_)) pendulumref30_Survivors.inl [] [pendulumref30_Survivors.g0 m_, pendulumref30_Survivors.g3 m_] (pendulumref30_Survivors.c m_).res.fin 20000 false (start 17 (encs (pendulumref30_Survivors.c m_).args v)) = pendulumref30_Survivors.run m_ v := by
  intro v_; exact (match v_ with | (l, ()) => by kernel_rfl)
theorem pendulumref30_Survivors.ok (m_ : Mode) : (pendulumref30_Survivors.c m_).OK P := Callee.of_run (fun S0 w0 => oras_ok (pendulumref30_Survivors.csok m_)) (by kernel_rfl) (by rfl) (fun S0 w0 cs0 => all_cons (pendulumref30_Survivors.s0 m_ S0 w0 cs0) (all_cons (pendulumref30_Survivors.s3 m_ S0 w0 cs0) (all_nil))) (fun x r h => (pendulumref30_Survivors.k m_ x).trans h)

/-! ### pendulum/pendulumlaw30.CombLeft -/
noncomputable def pendulumlaw30_CombLeft.cs (m_ : Mode) : List Callee := [pendulumref29_Fit.c m_, pendulumlaw30_awake.t, pendulumlaw30_ints.c m_, comb_Survivors.c m_, pendulumref30_Survivors.c m_]
theorem pendulumlaw30_CombLeft.csok (m_ : Mode) : ∀ k ∈ pendulumlaw30_CombLeft.cs m_, k.OK P := all_cons (pendulumref29_Fit.ok m_) (all_cons pendulumlaw30_awake.okt (all_cons (pendulumlaw30_ints.ok m_) (all_cons (comb_Survivors.ok m_) (all_cons (pendulumref30_Survivors.ok m_) (all_nil)))))
def pendulumlaw30_CombLeft.inl : FuncId → Bool := fun f => [].any (Nat.beq f)
noncomputable def pendulumlaw30_CombLeft.run (m_ : Mode) : (List (Int × (Int × Int))) × Unit → Option (Bool) := fun v_ => match v_ with
| (l, ()) =>
  (pendulumref29_Fit.run m_ (l, ())).bind fun r =>
  bif !r then
    (some true).bind fun r1 =>
    some r1
  else
    (comb_Survivors.run m_ (l, ())).bind fun r2 =>
    (pendulumref30_Survivors.run m_ (l, ())).bind fun r3 =>
    (pendulumlaw30_ints.run m_ (r2, r3, ())).bind fun r4 =>
    ((bif r4 then some true else some false)).bind fun r5 =>
    some (r4 && r5)
noncomputable def pendulumlaw30_CombLeft.c (m_ : Mode) : Callee := ⟨4, [.one (.lst (.pair (.int .i64) (.pair (.int .i64) (.int .i64))))], .one (.sh (.one .bool)), pendulumlaw30_CombLeft.run m_⟩
theorem pendulumlaw30_CombLeft.k (m_ : Mode) : ∀ v : Shs (pendulumlaw30_CombLeft.c m_).args, runS P (oras (pendulumlaw30_CombLeft.cs m_)) pendulumlaw30_CombLeft.inl [] [] (pendulumlaw30_CombLeft.c m_).res.fin 20000 false (start 4 (encs (pendulumlaw30_CombLeft.c m_).args v)) = pendulumlaw30_CombLeft.run m_ v := by
  intro v_; exact (match v_ with | (l, ()) => by kernel_rfl)
theorem pendulumlaw30_CombLeft.ok (m_ : Mode) : (pendulumlaw30_CombLeft.c m_).OK P := Callee.of_run (fun S0 w0 => oras_ok (pendulumlaw30_CombLeft.csok m_)) (by kernel_rfl) (by rfl) (fun S0 w0 cs0 => all_nil) (fun x r h => (pendulumlaw30_CombLeft.k m_ x).trans h)

/-! ### pendulum/pendulumlaw30.CombBetween -/
noncomputable def pendulumlaw30_CombBetween.cs (m_ : Mode) : List Callee := [pendulumref29_Fit.c m_, pendulumlaw30_awake.t, comb_Combine.c m_]
theorem pendulumlaw30_CombBetween.csok (m_ : Mode) : ∀ k ∈ pendulumlaw30_CombBetween.cs m_, k.OK P := all_cons (pendulumref29_Fit.ok m_) (all_cons pendulumlaw30_awake.okt (all_cons (comb_Combine.ok m_) (all_nil)))
def pendulumlaw30_CombBetween.inl : FuncId → Bool := fun f => [].any (Nat.beq f)
def pendulumlaw30_CombBetween.e0 : Spec := ⟨[{ fn := 5, items := [.code [.r, .r, .r, .r, .r, .l, .r, .l, .l], .inLoop [.r, .r, .r, .r, .r, .l, .r, .l, .l], .inBlock 0, .code [.r, .r, .r, .r, .r, .r]], slots := [(0, .dat (.lst (.pair (.int .i64) (.pair (.int .i64) (.int .i64))))), (3, .ptr 9 0), (4, .dat (.int .i64)), (5, .dat (.int .i64)), (6, .dat (.int .i64)), (37, .dat (.lst (.pair (.int .i64) (.pair (.int .i64) (.int .i64))))), (38, .dat (.int .i64)), (39, .dat (.int .i64))] }], [(9, .cells false [.dat (.int .i64), .dat (.int .i64), .dat (.int .i64)])], 10⟩
def pendulumlaw30_CombBetween.x0 : List Spec := [⟨[{ fn := 5, items := [.code [.r, .r, .r, .r, .r, .r]], slots := [(0, .dat (.lst (.pair (.int .i64) (.pair (.int .i64) (.int .i64))))), (3, .ptr 9 0), (4, .dat (.int .i64)), (5, .dat (.int .i64)), (6, .dat (.int .i64))] }], [(9, .cells false [.dat (.int .i64), .dat (.int .i64), .dat (.int .i64)])], 10⟩]
noncomputable def pendulumlaw30_CombBetween.b0 (m_ : Mode) (self : (List (Int × (Int × Int))) × Int × Int × Int × (List (Int × (Int × Int))) × Int × Int × Int × Int × Int × Unit → Option (((List (Int × (Int × Int))) × Int × Int × Int × Int × Int × Int × Unit))) : (List (Int × (Int × Int))) × Int × Int × Int × (List (Int × (Int × Int))) × Int × Int × Int × Int × Int × Unit → Option (((List (Int × (Int × Int))) × Int × Int × Int × Int × Int × Int × Unit)) := fun v_ => match v_ with
| (l, e, low, high, t, t1, t2, m, m1, m2, ()) =>
  bif decide (t2 < t1) then
    bif inB t2 (t.length : Int) then self (l, e, (mn low ((rd ((0 : Int), ((0 : Int), (0 : Int))) t t2).1)), (mx high ((rd ((0 : Int), ((0 : Int), (0 : Int))) t t2).1)), t, t1, (IntKind.i64.wrap (t2 + (1 : Int))), m, m1, m2, ()) else none
  else
    some (l, e, low, high, m, m1, m2, ())
theorem pendulumlaw30_CombBetween.k0 (m_ : Mode) : ∀ (self : Known pendulumlaw30_CombBetween.e0.sls → Option (Exits pendulumlaw30_CombBetween.x0)) (v : Known pendulumlaw30_CombBetween.e0.sls), runS P (oras (pendulumlaw30_CombBetween.cs m_)) pendulumlaw30_CombBetween.inl (⟨pendulumlaw30_CombBetween.e0, self⟩ :: exitCuts pendulumlaw30_CombBetween.x0 id) [] (fun _ _ => none) 20000 false (pendulumlaw30_CombBetween.e0.mk' v) = pendulumlaw30_CombBetween.b0 m_ self v := by
  intro self v_; exact (match v_ with | (l, e, low, high, t, t1, t2, m, m1, m2, ()) => by kernel_rfl)
noncomputable def pendulumlaw30_CombBetween.l0 (m_ : Mode) : (List (Int × (Int × Int))) × Int × Int × Int × (List (Int × (Int × Int))) × Int × Int × Int × Int × Int × Unit → Option (((List (Int × (Int × Int))) × Int × Int × Int × Int × Int × Int × Unit)) := loop m_ (pendulumlaw30_CombBetween.b0 m_)
theorem pendulumlaw30_CombBetween.q0 (v) : pendulumlaw30_CombBetween.l0 .lim v = pendulumlaw30_CombBetween.b0 .lim (pendulumlaw30_CombBetween.l0 .lim) v := lfp_eq (cont_of_run (pendulumlaw30_CombBetween.k0 .lim)) v
noncomputable def pendulumlaw30_CombBetween.g0 (m_ : Mode) : Seg := ⟨pendulumlaw30_CombBetween.e0, pendulumlaw30_CombBetween.x0, pendulumlaw30_CombBetween.l0 m_⟩
theorem pendulumlaw30_CombBetween.s0 (m_ : Mode) (S0 w0 cs0) : SegGood P S0 w0 cs0 5 (pendulumlaw30_CombBetween.g0 m_) := seg_loop m_ (oras_ok (pendulumlaw30_CombBetween.csok m_)) (all_nil) (by rfl) (fun e he => List.all_eq_true.1 (show pendulumlaw30_CombBetween.x0.all Spec.ok = true by rfl) e he) (pendulumlaw30_CombBetween.k0 m_)
def pendulumlaw30_CombBetween.e1 : Spec := ⟨[{ fn := 5, items := [.code [.r, .r, .r, .r, .r, .r, .r, .l, .r, .l, .l], .inLoop [.r, .r, .r, .r, .r, .r, .r, .l, .r, .l, .l], .inBlock 2, .code [.r, .r, .r, .r, .r, .r, .r, .r]], slots := [(3, .ptr 9 0), (5, .dat (.int .i64)), (6, .dat (.int .i64)), (76, .dat (.lst (.pair (.int .i64) (.pair (.int .i64) (.int .i64))))), (77, .dat (.int .i64)), (78, .dat (.int .i64))] }], [(9, .cells false [.dat (.int .i64), .dat (.int .i64), .dat (.int .i64)])], 10⟩
def pendulumlaw30_CombBetween.x1 : List Spec := [⟨[{ fn := 5, items := [.code [.r, .r, .r, .r, .r, .r, .r, .l, .r, .l, .l, .r, .r, .l, .l, .r, .r, .r, .l, .r], .inBlock 3, .code [.r, .r, .r, .r, .r, .r, .r, .l, .r, .l, .l, .r, .r, .r], .inLoop [.r, .r, .r, .r, .r, .r, .r, .l, .r, .l, .l], .inBlock 2, .code [.r, .r, .r, .r, .r, .r, .r, .r]], slots := [(2, .dat .bool)] }], [], 0⟩, ⟨[{ fn := 5, items := [.code [.r, .r, .r, .r, .r, .r, .r, .r]], slots := [(3, .ptr 9 0), (5, .dat (.int .i64)), (6, .dat (.int .i64))] }], [(9, .cells false [.dat (.int .i64), .dat (.int .i64), .dat (.int .i64)])], 10⟩]
noncomputable def pendulumlaw30_CombBetween.b1 (m_ : Mode) (self : Int × Int × (List (Int × (Int × Int))) × Int × Int × Int × Int × Int × Unit → Option ((Bool × Unit) ⊕ (Int × Int × Int × Int × Int × Unit))) : Int × Int × (List (Int × (Int × Int))) × Int × Int × Int × Int × Int × Unit → Option ((Bool × Unit) ⊕ (Int × Int × Int × Int × Int × Unit)) := fun v_ => match v_ with
| (low, high, t, t1, t2, m, m1, m2, ()) =>
  bif decide (t2 < t1) then
    bif inB t2 (t.length : Int) then
    bif ((decide ((mx (IntKind.i64.wrap (((rd ((0 : Int), ((0 : Int), (0 : Int))) t t2).1) - m)) (IntKind.i64.wrap (m - ((rd ((0 : Int), ((0 : Int), (0 : Int))) t t2).1)))) > m2)) && (decide (m2 < (140737488355328 : Int)))) then
      some (.inl (false, ()))
    else
      self (low, high, t, t1, (IntKind.i64.wrap (t2 + (1 : Int))), m, m1, m2, ())
    else none
  else
    some (.inr (low, high, m, m1, m2, ()))
theorem pendulumlaw30_CombBetween.k1 (m_ : Mode) : ∀ (self : Known pendulumlaw30_CombBetween.e1.sls → Option (Exits pendulumlaw30_CombBetween.x1)) (v : Known pendulumlaw30_CombBetween.e1.sls), runS P (oras (pendulumlaw30_CombBetween.cs m_)) pendulumlaw30_CombBetween.inl (⟨pendulumlaw30_CombBetween.e1, self⟩ :: exitCuts pendulumlaw30_CombBetween.x1 id) [] (fun _ _ => none) 20000 false (pendulumlaw30_CombBetween.e1.mk' v) = pendulumlaw30_CombBetween.b1 m_ self v := by
  intro self v_; exact (match v_ with | (low, high, t, t1, t2, m, m1, m2, ()) => by kernel_rfl)
noncomputable def pendulumlaw30_CombBetween.l1 (m_ : Mode) : Int × Int × (List (Int × (Int × Int))) × Int × Int × Int × Int × Int × Unit → Option ((Bool × Unit) ⊕ (Int × Int × Int × Int × Int × Unit)) := loop m_ (pendulumlaw30_CombBetween.b1 m_)
theorem pendulumlaw30_CombBetween.q1 (v) : pendulumlaw30_CombBetween.l1 .lim v = pendulumlaw30_CombBetween.b1 .lim (pendulumlaw30_CombBetween.l1 .lim) v := lfp_eq (cont_of_run (pendulumlaw30_CombBetween.k1 .lim)) v
noncomputable def pendulumlaw30_CombBetween.g1 (m_ : Mode) : Seg := ⟨pendulumlaw30_CombBetween.e1, pendulumlaw30_CombBetween.x1, pendulumlaw30_CombBetween.l1 m_⟩
theorem pendulumlaw30_CombBetween.s1 (m_ : Mode) (S0 w0 cs0) : SegGood P S0 w0 cs0 5 (pendulumlaw30_CombBetween.g1 m_) := seg_loop m_ (oras_ok (pendulumlaw30_CombBetween.csok m_)) (all_nil) (by rfl) (fun e he => List.all_eq_true.1 (show pendulumlaw30_CombBetween.x1.all Spec.ok = true by rfl) e he) (pendulumlaw30_CombBetween.k1 m_)
noncomputable def pendulumlaw30_CombBetween.run (m_ : Mode) : (List (Int × (Int × Int))) × Unit → Option (Bool) := fun v_ => match v_ with
| (l, ()) =>
  (pendulumref29_Fit.run m_ (l, ())).bind fun r =>
  bif !r then
    (some true).bind fun r1 =>
    some r1
  else
    (comb_Combine.run m_ (l, ())).bind fun (r2, r3, ()) =>
    bif smallI (l.length : Int) then
    bif decide ((l.length : Int) = (0 : Int)) then
      ((bif decide (r3 = (19 : Int)) then some true else some false)).bind fun r4 =>
      some ((decide (r3 = (19 : Int))) && r4)
    else
      bif inB (0 : Int) (l.length : Int) then
      bif inB (0 : Int) (l.length : Int) then
      bif smallI (l.length : Int) then
      (pendulumlaw30_CombBetween.l0 m_ (l, r3, (rd ((0 : Int), ((0 : Int), (0 : Int))) l (0 : Int)).1, (rd ((0 : Int), ((0 : Int), (0 : Int))) l (0 : Int)).1, l, (l.length : Int), (0 : Int), r2.1, r2.2.1, r2.2.2, ())).bind fun (l1, e, low, high, m, m1, m2, ()) =>
      bif (((((!(decide (e = (0 : Int)))) || (decide (m < low))) || (decide (m > high))) || (decide (m1 < (0 : Int)))) || (decide (m1 > (140737488355328 : Int)))) then
        some false
      else
        bif smallI (l1.length : Int) then
        (pendulumlaw30_CombBetween.l1 m_ (low, high, l1, (l1.length : Int), (0 : Int), m, m1, m2, ())).bind fun g_ => match g_ with
        | .inl (t, ()) =>
          some t
        | .inr (low1, high1, m3, m4, m5, ()) =>
          ((bif ((!(decide (low1 = high1))) || ((decide (m3 = low1)) && (decide (m5 = (0 : Int))))) then some true else some false)).bind fun r5 =>
          some (((!(decide (low1 = high1))) || ((decide (m3 = low1)) && (decide (m5 = (0 : Int))))) && r5)
        else none
      else none
      else none
      else none
    else none
noncomputable def pendulumlaw30_CombBetween.c (m_ : Mode) : Callee := ⟨5, [.one (.lst (.pair (.int .i64) (.pair (.int .i64) (.int .i64))))], .one (.sh (.one .bool)), pendulumlaw30_CombBetween.run m_⟩
theorem pendulumlaw30_CombBetween.k (m_ : Mode) : ∀ v : Shs (pendulumlaw30_CombBetween.c m_).args, runS P (oras (pendulumlaw30_CombBetween.cs m_)) pendulumlaw30_CombBetween.inl [] [pendulumlaw30_CombBetween.g0 m_, pendulumlaw30_CombBetween.g1 m_] (pendulumlaw30_CombBetween.c m_).res.fin 20000 false (start 5 (encs (pendulumlaw30_CombBetween.c m_).args v)) = pendulumlaw30_CombBetween.run m_ v := by
  intro v_; exact (match v_ with | (l, ()) => by kernel_rfl)
theorem pendulumlaw30_CombBetween.ok (m_ : Mode) : (pendulumlaw30_CombBetween.c m_).OK P := Callee.of_run (fun S0 w0 => oras_ok (pendulumlaw30_CombBetween.csok m_)) (by kernel_rfl) (by rfl) (fun S0 w0 cs0 => all_cons (pendulumlaw30_CombBetween.s0 m_ S0 w0 cs0) (all_cons (pendulumlaw30_CombBetween.s1 m_ S0 w0 cs0) (all_nil))) (fun x r h => (pendulumlaw30_CombBetween.k m_ x).trans h)

/-! ### pendulum/pendulumlaw30.CombFar -/
noncomputable def pendulumlaw30_CombFar.cs (m_ : Mode) : List Callee := [pendulumref29_Fit.c m_, pendulumlaw30_awake.t, comb_Far.c m_, comb_Survivors.c m_]
theorem pendulumlaw30_CombFar.csok (m_ : Mode) : ∀ k ∈ pendulumlaw30_CombFar.cs m_, k.OK P := all_cons (pendulumref29_Fit.ok m_) (all_cons pendulumlaw30_awake.okt (all_cons (comb_Far.ok m_) (all_cons (comb_Survivors.ok m_) (all_nil))))
def pendulumlaw30_CombFar.inl : FuncId → Bool := fun f => [].any (Nat.beq f)
def pendulumlaw30_CombFar.e0 : Spec := ⟨[{ fn := 6, items := [.code [.r, .r, .r, .r, .l, .r, .l, .l], .inLoop [.r, .r, .r, .r, .l, .r, .l, .l], .inBlock 0, .code [.r, .r, .r, .r, .r]], slots := [(0, .dat (.lst (.pair (.int .i64) (.pair (.int .i64) (.int .i64))))), (3, .dat (.lst (.int .i64))), (43, .dat (.lst (.int .i64))), (44, .dat (.int .i64)), (45, .dat (.int .i64))] }], [], 0⟩
def pendulumlaw30_CombFar.x0 : List Spec := [⟨[{ fn := 6, items := [.code [.r, .r, .r, .r, .l, .r, .l, .l, .r, .r, .l, .l, .r, .r, .l, .r], .inBlock 1, .code [.r, .r, .r, .r, .l, .r, .l, .l, .r, .r, .r], .inLoop [.r, .r, .r, .r, .l, .r, .l, .l], .inBlock 0, .code [.r, .r, .r, .r, .r]], slots := [(2, .dat .bool)] }], [], 0⟩, ⟨[{ fn := 6, items := [.code [.r, .r, .r, .r, .r]], slots := [(0, .dat (.lst (.pair (.int .i64) (.pair (.int .i64) (.int .i64))))), (3, .dat (.lst (.int .i64)))] }], [], 0⟩]
noncomputable def pendulumlaw30_CombFar.b0 (m_ : Mode) (self : (List (Int × (Int × Int))) × (List Int) × (List Int) × Int × Int × Unit → Option ((Bool × Unit) ⊕ ((List (Int × (Int × Int))) × (List Int) × Unit))) : (List (Int × (Int × Int))) × (List Int) × (List Int) × Int × Int × Unit → Option ((Bool × Unit) ⊕ ((List (Int × (Int × Int))) × (List Int) × Unit)) := fun v_ => match v_ with
| (l, s, t, t1, t2, ()) =>
  bif decide (t2 < t1) then
    bif inB t2 (t.length : Int) then
    bif ((!(!(decide ((rd (0 : Int) t t2) < (0 : Int))))) || (smallI (l.length : Int))) then
    bif ((!((!((decide ((rd (0 : Int) t t2) < (0 : Int))) || (decide ((rd (0 : Int) t t2) ≥ (l.length : Int))))) && (decide (t2 > (0 : Int))))) || (inB (IntKind.i64.wrap (t2 - (1 : Int))) (s.length : Int))) then
    bif (((decide ((rd (0 : Int) t t2) < (0 : Int))) || (decide ((rd (0 : Int) t t2) ≥ (l.length : Int)))) || ((decide (t2 > (0 : Int))) && (decide ((rd (0 : Int) s (IntKind.i64.wrap (t2 - (1 : Int)))) ≥ (rd (0 : Int) t t2))))) then
      some (.inl (false, ()))
    else
      self (l, s, t, t1, (IntKind.i64.wrap (t2 + (1 : Int))), ())
    else none
    else none
    else none
  else
    some (.inr (l, s, ()))
theorem pendulumlaw30_CombFar.k0 (m_ : Mode) : ∀ (self : Known pendulumlaw30_CombFar.e0.sls → Option (Exits pendulumlaw30_CombFar.x0)) (v : Known pendulumlaw30_CombFar.e0.sls), runS P (oras (pendulumlaw30_CombFar.cs m_)) pendulumlaw30_CombFar.inl (⟨pendulumlaw30_CombFar.e0, self⟩ :: exitCuts pendulumlaw30_CombFar.x0 id) [] (fun _ _ => none) 20000 false (pendulumlaw30_CombFar.e0.mk' v) = pendulumlaw30_CombFar.b0 m_ self v := by
  intro self v_; exact (match v_ with | (l, s, t, t1, t2, ()) => by kernel_rfl)
noncomputable def pendulumlaw30_CombFar.l0 (m_ : Mode) : (List (Int × (Int × Int))) × (List Int) × (List Int) × Int × Int × Unit → Option ((Bool × Unit) ⊕ ((List (Int × (Int × Int))) × (List Int) × Unit)) := loop m_ (pendulumlaw30_CombFar.b0 m_)
theorem pendulumlaw30_CombFar.q0 (v) : pendulumlaw30_CombFar.l0 .lim v = pendulumlaw30_CombFar.b0 .lim (pendulumlaw30_CombFar.l0 .lim) v := lfp_eq (cont_of_run (pendulumlaw30_CombFar.k0 .lim)) v
noncomputable def pendulumlaw30_CombFar.g0 (m_ : Mode) : Seg := ⟨pendulumlaw30_CombFar.e0, pendulumlaw30_CombFar.x0, pendulumlaw30_CombFar.l0 m_⟩
theorem pendulumlaw30_CombFar.s0 (m_ : Mode) (S0 w0 cs0) : SegGood P S0 w0 cs0 6 (pendulumlaw30_CombFar.g0 m_) := seg_loop m_ (oras_ok (pendulumlaw30_CombFar.csok m_)) (all_nil) (by rfl) (fun e he => List.all_eq_true.1 (show pendulumlaw30_CombFar.x0.all Spec.ok = true by rfl) e he) (pendulumlaw30_CombFar.k0 m_)
def pendulumlaw30_CombFar.e1 : Spec := ⟨[{ fn := 6, items := [.code [.r, .r, .r, .r, .r, .r, .l, .r, .l, .l], .inLoop [.r, .r, .r, .r, .r, .r, .l, .r, .l, .l], .inBlock 2, .code [.r, .r, .r, .r, .r, .r, .r]], slots := [(0, .dat (.lst (.pair (.int .i64) (.pair (.int .i64) (.int .i64))))), (3, .dat (.lst (.int .i64))), (6, .dat (.int .i64)), (73, .dat (.int .i64)), (74, .dat (.int .i64))] }], [], 0⟩
def pendulumlaw30_CombFar.x1 : List Spec := [⟨[{ fn := 6, items := [.code [.r, .r, .r, .r, .r, .r, .r]], slots := [(0, .dat (.lst (.pair (.int .i64) (.pair (.int .i64) (.int .i64))))), (3, .dat (.lst (.int .i64))), (6, .dat (.int .i64))] }], [], 0⟩]
noncomputable def pendulumlaw30_CombFar.b1 (m_ : Mode) (self : (List (Int × (Int × Int))) × (List Int) × Int × Int × Int × Unit → Option (((List (Int × (Int × Int))) × (List Int) × Int × Unit))) : (List (Int × (Int × Int))) × (List Int) × Int × Int × Int × Unit → Option (((List (Int × (Int × Int))) × (List Int) × Int × Unit)) := fun v_ => match v_ with
| (l, s, worst, t, t1, ()) =>
  bif decide (t1 < t) then
    (comb_Far.run m_ (l, t1, ())).bind fun r =>
    self (l, s, (mx worst r), t, (IntKind.i64.wrap (t1 + (1 : Int))), ())
  else
    some (l, s, worst, ())
theorem pendulumlaw30_CombFar.k1 (m_ : Mode) : ∀ (self : Known pendulumlaw30_CombFar.e1.sls → Option (Exits pendulumlaw30_CombFar.x1)) (v : Known pendulumlaw30_CombFar.e1.sls), runS P (oras (pendulumlaw30_CombFar.cs m_)) pendulumlaw30_CombFar.inl (⟨pendulumlaw30_CombFar.e1, self⟩ :: exitCuts pendulumlaw30_CombFar.x1 id) [] (fun _ _ => none) 20000 false (pendulumlaw30_CombFar.e1.mk' v) = pendulumlaw30_CombFar.b1 m_ self v := by
  intro self v_; exact (match v_ with | (l, s, worst, t, t1, ()) => by kernel_rfl)
noncomputable def pendulumlaw30_CombFar.l1 (m_ : Mode) : (List (Int × (Int × Int))) × (List Int) × Int × Int × Int × Unit → Option (((List (Int × (Int × Int))) × (List Int) × Int × Unit)) := loop m_ (pendulumlaw30_CombFar.b1 m_)
theorem pendulumlaw30_CombFar.q1 (v) : pendulumlaw30_CombFar.l1 .lim v = pendulumlaw30_CombFar.b1 .lim (pendulumlaw30_CombFar.l1 .lim) v := lfp_eq (cont_of_run (pendulumlaw30_CombFar.k1 .lim)) v
noncomputable def pendulumlaw30_CombFar.g1 (m_ : Mode) : Seg := ⟨pendulumlaw30_CombFar.e1, pendulumlaw30_CombFar.x1, pendulumlaw30_CombFar.l1 m_⟩
theorem pendulumlaw30_CombFar.s1 (m_ : Mode) (S0 w0 cs0) : SegGood P S0 w0 cs0 6 (pendulumlaw30_CombFar.g1 m_) := seg_loop m_ (oras_ok (pendulumlaw30_CombFar.csok m_)) (all_nil) (by rfl) (fun e he => List.all_eq_true.1 (show pendulumlaw30_CombFar.x1.all Spec.ok = true by rfl) e he) (pendulumlaw30_CombFar.k1 m_)
def pendulumlaw30_CombFar.e2 : Spec := ⟨[{ fn := 6, items := [.code [.r, .r, .r, .r, .r, .r, .r, .r, .l, .r, .l, .l, .r, .r, .l, .l, .r, .r, .l, .r, .l, .l], .inLoop [.r, .r, .r, .r, .r, .r, .r, .r, .l, .r, .l, .l, .r, .r, .l, .l, .r, .r, .l, .r, .l, .l], .inBlock 6, .code [.r, .r, .r, .r, .r, .r, .r, .r, .l, .r, .l, .l, .r, .r, .l, .l, .r, .r, .r], .inBlock 5, .code [.r, .r, .r, .r, .r, .r, .r, .r, .l, .r, .l, .l, .r, .r, .r], .inLoop [.r, .r, .r, .r, .r, .r, .r, .r, .l, .r, .l, .l], .inBlock 4, .code [.r, .r, .r, .r, .r, .r, .r, .r, .r]], slots := [(0, .dat (.lst (.pair (.int .i64) (.pair (.int .i64) (.int .i64))))), (3, .dat (.lst (.int .i64))), (6, .dat (.int .i64)), (8, .dat (.int .i64)), (9, .dat .bool), (90, .dat (.int .i64)), (91, .dat (.int .i64)), (94, .dat (.lst (.int .i64))), (95, .dat (.int .i64)), (96, .dat (.int .i64))] }], [], 0⟩
def pendulumlaw30_CombFar.x2 : List Spec := [⟨[{ fn := 6, items := [.code [.r, .r, .r, .r, .r, .r, .r, .r, .l, .r, .l, .l, .r, .r, .l, .l, .r, .r, .r], .inBlock 5, .code [.r, .r, .r, .r, .r, .r, .r, .r, .l, .r, .l, .l, .r, .r, .r], .inLoop [.r, .r, .r, .r, .r, .r, .r, .r, .l, .r, .l, .l], .inBlock 4, .code [.r, .r, .r, .r, .r, .r, .r, .r, .r]], slots := [(0, .dat (.lst (.pair (.int .i64) (.pair (.int .i64) (.int .i64))))), (3, .dat (.lst (.int .i64))), (6, .dat (.int .i64)), (8, .dat (.int .i64)), (9, .dat .bool), (90, .dat (.int .i64)), (91, .dat (.int .i64))] }], [], 0⟩]
noncomputable def pendulumlaw30_CombFar.b2 (m_ : Mode) (self : (List (Int × (Int × Int))) × (List Int) × Int × Int × Bool × Int × Int × (List Int) × Int × Int × Unit → Option (((List (Int × (Int × Int))) × (List Int) × Int × Int × Bool × Int × Int × Unit))) : (List (Int × (Int × Int))) × (List Int) × Int × Int × Bool × Int × Int × (List Int) × Int × Int × Unit → Option (((List (Int × (Int × Int))) × (List Int) × Int × Int × Bool × Int × Int × Unit)) := fun v_ => match v_ with
| (l, s, worst, k, out, t, t1, t2, t3, t4, ()) =>
  bif decide (t4 < t3) then
    bif inB t4 (t2.length : Int) then self (l, s, worst, k, (out && (!(decide ((rd (0 : Int) t2 t4) = k)))), t, t1, t2, t3, (IntKind.i64.wrap (t4 + (1 : Int))), ()) else none
  else
    some (l, s, worst, k, out, t, t1, ())
theorem pendulumlaw30_CombFar.k2 (m_ : Mode) : ∀ (self : Known pendulumlaw30_CombFar.e2.sls → Option (Exits pendulumlaw30_CombFar.x2)) (v : Known pendulumlaw30_CombFar.e2.sls), runS P (oras (pendulumlaw30_CombFar.cs m_)) pendulumlaw30_CombFar.inl (⟨pendulumlaw30_CombFar.e2, self⟩ :: exitCuts pendulumlaw30_CombFar.x2 id) [] (fun _ _ => none) 20000 false (pendulumlaw30_CombFar.e2.mk' v) = pendulumlaw30_CombFar.b2 m_ self v := by
  intro self v_; exact (match v_ with | (l, s, worst, k, out, t, t1, t2, t3, t4, ()) => by kernel_rfl)
noncomputable def pendulumlaw30_CombFar.l2 (m_ : Mode) : (List (Int × (Int × Int))) × (List Int) × Int × Int × Bool × Int × Int × (List Int) × Int × Int × Unit → Option (((List (Int × (Int × Int))) × (List Int) × Int × Int × Bool × Int × Int × Unit)) := loop m_ (pendulumlaw30_CombFar.b2 m_)
theorem pendulumlaw30_CombFar.q2 (v) : pendulumlaw30_CombFar.l2 .lim v = pendulumlaw30_CombFar.b2 .lim (pendulumlaw30_CombFar.l2 .lim) v := lfp_eq (cont_of_run (pendulumlaw30_CombFar.k2 .lim)) v
noncomputable def pendulumlaw30_CombFar.g2 (m_ : Mode) : Seg := ⟨pendulumlaw30_CombFar.e2, pendulumlaw30_CombFar.x2, pendulumlaw30_CombFar.l2 m_⟩
theorem pendulumlaw30_CombFar.s2 (m_ : Mode) (S0 w0 cs0) : SegGood P S0 w0 cs0 6 (pendulumlaw30_CombFar.g2 m_) := seg_loop m_ (oras_ok (pendulumlaw30_CombFar.csok m_)) (all_nil) (by rfl) (fun e he => List.all_eq_true.1 (show pendulumlaw30_CombFar.x2.all Spec.ok = true by rfl) e he) (pendulumlaw30_CombFar.k2 m_)
def pendulumlaw30_CombFar.e3 : Spec := ⟨[{ fn := 6, items := [.code [.r, .r, .r, .r, .r, .r, .r, .r, .l, .r, .l, .l], .inLoop [.r, .r, .r, .r, .r, .r, .r, .r, .l, .r, .l, .l], .inBlock 4, .code [.r, .r, .r, .r, .r, .r, .r, .r, .r]], slots := [(0, .dat (.lst (.pair (.int .i64) (.pair (.int .i64) (.int .i64))))), (3, .dat (.lst (.int .i64))), (6, .dat (.int .i64)), (90, .dat (.int .i64)), (91, .dat (.int .i64))] }], [], 0⟩
def pendulumlaw30_CombFar.x3 : List Spec := [⟨[{ fn := 6, items := [.code [.r, .r, .r, .r, .r, .r, .r, .r, .l, .r, .l, .l, .r, .r, .l, .l, .r, .r, .r, .r, .l, .r], .inBlock 5, .code [.r, .r, .r, .r, .r, .r, .r, .r, .l, .r, .l, .l, .r, .r, .r], .inLoop [.r, .r, .r, .r, .r, .r, .r, .r, .l, .r, .l, .l], .inBlock 4, .code [.r, .r, .r, .r, .r, .r, .r, .r, .r]], slots := [(2, .dat .bool)] }], [], 0⟩, ⟨[{ fn := 6, items := [.code [.r, .r, .r, .r, .r, .r, .r, .r, .r]], slots := [] }], [], 0⟩]
noncomputable def pendulumlaw30_CombFar.b3 (m_ : Mode) (self : (List (Int × (Int × Int))) × (List Int) × Int × Int × Int × Unit → Option ((Bool × Unit) ⊕ (Unit))) : (List (Int × (Int × Int))) × (List Int) × Int × Int × Int × Unit → Option ((Bool × Unit) ⊕ (Unit)) := fun v_ => match v_ with
| (l, s, worst, t, t1, ()) =>
  bif decide (t1 < t) then
    bif smallI (s.length : Int) then
    (pendulumlaw30_CombFar.l2 m_ (l, s, worst, t1, true, t, t1, s, (s.length : Int), (0 : Int), ())).bind fun (l1, s1, worst1, k, out, t2, t3, ()) =>
    ((bif out then comb_Far.run m_ (l1, k, ()) else some (0 : Int))).bind fun r =>
    bif (out && (decide (r = worst1))) then
      (some true).bind fun r1 =>
      some (.inl (r1, ()))
    else
      self (l1, s1, worst1, t2, (IntKind.i64.wrap (t3 + (1 : Int))), ())
    else none
  else
    some (.inr (()))
theorem pendulumlaw30_CombFar.k3 (m_ : Mode) : ∀ (self : Known pendulumlaw30_CombFar.e3.sls → Option (Exits pendulumlaw30_CombFar.x3)) (v : Known pendulumlaw30_CombFar.e3.sls), runS P (oras (pendulumlaw30_CombFar.cs m_)) pendulumlaw30_CombFar.inl (⟨pendulumlaw30_CombFar.e3, self⟩ :: exitCuts pendulumlaw30_CombFar.x3 id) [pendulumlaw30_CombFar.g2 m_] (fun _ _ => none) 20000 false (pendulumlaw30_CombFar.e3.mk' v) = pendulumlaw30_CombFar.b3 m_ self v := by
  intro self v_; exact (match v_ with | (l, s, worst, t, t1, ()) => by kernel_rfl)
noncomputable def pendulumlaw30_CombFar.l3 (m_ : Mode) : (List (Int × (Int × Int))) × (List Int) × Int × Int × Int × Unit → Option ((Bool × Unit) ⊕ (Unit)) := loop m_ (pendulumlaw30_CombFar.b3 m_)
theorem pendulumlaw30_CombFar.q3 (v) : pendulumlaw30_CombFar.l3 .lim v = pendulumlaw30_CombFar.b3 .lim (pendulumlaw30_CombFar.l3 .lim) v := lfp_eq (cont_of_run (pendulumlaw30_CombFar.k3 .lim)) v
noncomputable def pendulumlaw30_CombFar.g3 (m_ : Mode) : Seg := ⟨pendulumlaw30_CombFar.e3, pendulumlaw30_CombFar.x3, pendulumlaw30_CombFar.l3 m_⟩
theorem pendulumlaw30_CombFar.s3 (m_ : Mode) (S0 w0 cs0) : SegGood P S0 w0 cs0 6 (pendulumlaw30_CombFar.g3 m_) := seg_loop m_ (oras_ok (pendulumlaw30_CombFar.csok m_)) (all_cons (pendulumlaw30_CombFar.s2 m_ S0 w0 cs0) (all_nil)) (by rfl) (fun e he => List.all_eq_true.1 (show pendulumlaw30_CombFar.x3.all Spec.ok = true by rfl) e he) (pendulumlaw30_CombFar.k3 m_)
noncomputable def pendulumlaw30_CombFar.run (m_ : Mode) : (List (Int × (Int × Int))) × Unit → Option (Bool) := fun v_ => match v_ with
| (l, ()) =>
  (pendulumref29_Fit.run m_ (l, ())).bind fun r =>
  bif !r then
    (some true).bind fun r1 =>
    some r1
  else
    (comb_Survivors.run m_ (l, ())).bind fun r2 =>
    bif smallI (r2.length : Int) then
    bif smallI (l.length : Int) then
    bif ((!(!(decide ((r2.length : Int) = (l.length : Int))))) || (smallI (l.length : Int))) then
    bif ((!(!((!(decide ((r2.length : Int) = (l.length : Int)))) && (decide ((l.length : Int) ≤ (3 : Int)))))) || (smallI (r2.length : Int))) then
    bif ((!(!((!(decide ((r2.length : Int) = (l.length : Int)))) && (decide ((l.length : Int) ≤ (3 : Int)))))) || (smallI (l.length : Int))) then
    bif ((!(!(((!(decide ((r2.length : Int) = (l.length : Int)))) && (decide ((l.length : Int) ≤ (3 : Int)))) || (decide ((r2.length : Int) < (mn (l.length : Int) (3 : Int))))))) || (smallI (r2.length : Int))) then
    bif ((!(!(((!(decide ((r2.length : Int) = (l.length : Int)))) && (decide ((l.length : Int) ≤ (3 : Int)))) || (decide ((r2.length : Int) < (mn (l.length : Int) (3 : Int))))))) || (smallI (l.length : Int))) then
    bif ((((!(decide ((r2.length : Int) = (l.length : Int)))) && (decide ((l.length : Int) ≤ (3 : Int)))) || (decide ((r2.length : Int) < (mn (l.length : Int) (3 : Int))))) || (decide ((r2.length : Int) > (l.length : Int)))) then
      some false
    else
      bif smallI (r2.length : Int) then
      (pendulumlaw30_CombFar.l0 m_ (l, r2, r2, (r2.length : Int), (0 : Int), ())).bind fun g_ => match g_ with
      | .inl (t, ()) =>
        some t
      | .inr (l1, s, ()) =>
        bif smallI (l1.length : Int) then
        (pendulumlaw30_CombFar.l1 m_ (l1, s, (0 : Int), (l1.length : Int), (0 : Int), ())).bind fun (l2, s1, worst, ()) =>
        bif smallI (s1.length : Int) then
        bif smallI (l2.length : Int) then
        bif decide ((s1.length : Int) = (l2.length : Int)) then
          (some true).bind fun r3 =>
          some r3
        else
          bif smallI (l2.length : Int) then
          (pendulumlaw30_CombFar.l3 m_ (l2, s1, worst, (l2.length : Int), (0 : Int), ())).bind fun g_ => match g_ with
          | .inl (t1, ()) =>
            some t1
          | .inr (()) =>
            some false
          else none
        else none
        else none
        else none
      else none
    else none
    else none
    else none
    else none
    else none
    else none
    else none
noncomputable def pendulumlaw30_CombFar.c (m_ : Mode) : Callee := ⟨6, [.one (.lst (.pair (.int .i64) (.pair (.int .i64) (.int .i64))))], .one (.sh (.one .bool)), pendulumlaw30_CombFar.run m_⟩
theorem pendulumlaw30_CombFar.k (m_ : Mode) : ∀ v : Shs (pendulumlaw30_CombFar.c m_).args, runS P (oras (pendulumlaw30_CombFar.cs m_)) pendulumlaw30_CombFar.inl [] [pendulumlaw30_CombFar.g0 m_, pendulumlaw30_CombFar.g1 m_, pendulumlaw30_CombFar.g3 m_] (pendulumlaw30_CombFar.c m_).res.fin 20000 false (start 6 (encs (pendulumlaw30_CombFar.c m_).args v)) = pendulumlaw30_CombFar.run m_ v := by
  intro v_; exact (match v_ with | (l, ()) => by kernel_rfl)
theorem pendulumlaw30_CombFar.ok (m_ : Mode) : (pendulumlaw30_CombFar.c m_).OK P := Callee.of_run (fun S0 w0 => oras_ok (pendulumlaw30_CombFar.csok m_)) (by kernel_rfl) (by rfl) (fun S0 w0 cs0 => all_cons (pendulumlaw30_CombFar.s0 m_ S0 w0 cs0) (all_cons (pendulumlaw30_CombFar.s1 m_ S0 w0 cs0) (all_cons (pendulumlaw30_CombFar.s3 m_ S0 w0 cs0) (all_nil)))) (fun x r h => (pendulumlaw30_CombFar.k m_ x).trans h)
end Go.AM
end

section
namespace Go.AM
/-! Plain laws of whole numbers and loops. -/
theorem wrap64 {n : Int} (h1 : -9223372036854775808 ≤ n) (h2 : n < 9223372036854775808) : IntKind.i64.wrap n = n := by
  unfold IntKind.wrap; simp [IntKind.signed, IntKind.bits]; omega
theorem cond_pos {α : Type} {c : Bool} {a b : α} (h : c = true) : (bif c then a else b) = a := by rw [h]; rfl
theorem cond_neg {α : Type} {c : Bool} {a b : α} (h : c = false) : (bif c then a else b) = b := by rw [h]; rfl
theorem cond_ite {α : Type} {p : Prop} {i : Decidable p} {a b : α} : (bif @decide p i then a else b) = if p then a else b := by
  by_cases h : p <;> simp [h]
theorem smallI_t {n : Int} (h : n < 9223372036854775808) : smallI n = true := by
  unfold smallI; rw [Nat.blt_eq]; omega
theorem inB_t {i n : Int} (h1 : 0 ≤ i) (h2 : i < n) : inB i n = true := by simp [inB, h1, h2]
theorem loop_to {α β : Type} {f : α → Option β} (st : Nat → α) {n : Nat} (h : ∀ k, k < n → f (st k) = f (st (k + 1))) : f (st 0) = f (st n) := by
  induction n with
  | zero => rfl
  | succ n ih => exact (ih fun k hk => h k (by omega)).trans (h n (by omega))
/-- Either all steps go on, or the first one that does not tells the answer. -/
theorem loop_or {α β : Type} {f : α → Option β} (st : Nat → α) {n : Nat} {c : Nat → Bool} {e : Nat → Option β} (h : ∀ k, k < n → f (st k) = bif c k then e k else f (st (k + 1))) :
    (f (st 0) = f (st n) ∧ ∀ k, k < n → c k = false) ∨ ∃ k, k < n ∧ c k = true ∧ (∀ j, j < k → c j = false) ∧ f (st 0) = e k := by
  induction n with
  | zero => exact .inl ⟨rfl, fun k hk => absurd hk (by omega)⟩
  | succ n ih =>
    rcases ih fun k hk => h k (by omega) with ⟨h1, h2⟩ | ⟨k, hk, h1⟩
    · cases hc : c n with
      | false =>
        refine .inl ⟨h1.trans ((h n (by omega)).trans (by rw [hc]; rfl)), fun k hk => ?_⟩
        rcases Nat.lt_succ_iff_lt_or_eq.1 hk with hk | rfl
        · exact h2 k hk
        · exact hc
      | true => exact .inr ⟨n, by omega, hc, h2, h1.trans ((h n (by omega)).trans (by rw [hc]; rfl))⟩
    · exact .inr ⟨k, by omega, h1⟩
/-- Sums by index. -/
def acc (g : Nat → Int) : Nat → Int
  | 0 => 0
  | k + 1 => acc g k + g k
theorem acc_bd {g : Nat → Int} {a b : Int} {n : Nat} (h : ∀ k, k < n → a ≤ g k ∧ g k ≤ b) : n * a ≤ acc g n ∧ acc g n ≤ n * b := by
  induction n with
  | zero => simp [acc]
  | succ n ih =>
    have h1 := ih fun k hk => h k (by omega)
    have h2 := h n (by omega)
    rw [acc, Int.natCast_succ, Int.add_mul, Int.add_mul]; omega
/-- Folds by index. -/
def fold {α : Type} (g : α → Nat → α) (z : α) : Nat → α
  | 0 => z
  | k + 1 => g (fold g z k) k
theorem rd_mem {α : Type} {d : α} {xs : List α} {i : Int} (h1 : 0 ≤ i) (h2 : i < xs.length) : rd d xs i ∈ xs := by
  unfold rd; rw [List.getD_eq_getElem?_getD, List.getElem?_eq_getElem (show i.toNat < xs.length by omega), Option.getD_some]; exact List.getElem_mem _
theorem mx_eq (x y : Int) : mx x y = max x y := by unfold mx; split <;> omega
theorem mn_eq (x y : Int) : mn x y = min x y := by unfold mn; split <;> omega
theorem dec_t {p : Prop} {i : Decidable p} (h : p) : @decide p i = true := decide_eq_true h
theorem dec_f {p : Prop} {i : Decidable p} (h : ¬p) : @decide p i = false := decide_eq_false h
theorem dec_not {p : Prop} {i : Decidable p} : (!@decide p i) = decide (¬p) := by by_cases h : p <;> simp [h]
theorem dec_and {p q : Prop} {i : Decidable p} {j : Decidable q} : (@decide p i && @decide q j) = decide (p ∧ q) := by by_cases h : p <;> simp [h]
theorem dec_or {p q : Prop} {i : Decidable p} {j : Decidable q} : (@decide p i || @decide q j) = decide (p ∨ q) := by by_cases h : p <;> simp [h]
theorem cutB_t {l h n : Int} (h1 : 0 ≤ l) (h2 : l ≤ h) (h3 : h ≤ n) : cutB l h n = true := by simp [cutB, h1, h2, h3]
theorem fold_min_first {g : Nat → Int} {z : Int} (h : g 0 ≤ z) {n : Nat} (hn : 0 < n) : fold (fun r i => min r (g i)) (g 0) n = fold (fun r i => min r (g i)) z n := by
  have key : ∀ k, fold (fun r i => min r (g i)) (g 0) k = min (g 0) (fold (fun r i => min r (g i)) z k) ∧ (0 < k → fold (fun r i => min r (g i)) z k ≤ g 0) := by
    intro k
    induction k with
    | zero => refine ⟨?_, fun h => absurd h (by omega)⟩; show g 0 = min (g 0) z; omega
    | succ k ih =>
      show min (fold (fun r i => min r (g i)) (g 0) k) (g k) = min (g 0) (min (fold (fun r i => min r (g i)) z k) (g k)) ∧ (0 < k + 1 → min (fold (fun r i => min r (g i)) z k) (g k) ≤ g 0)
      refine ⟨by omega, fun _ => ?_⟩
      by_cases hk : k = 0
      · subst hk; omega
      · have := ih.2 (by omega); omega
  have := key n
  have := this.2 hn
  omega
theorem rd_ix {α : Type} {d : α} {xs : List α} {k : Nat} (h : k < xs.length) : rd d xs (k : Int) = xs[k] := by
  unfold rd; rw [Int.toNat_natCast, List.getD_eq_getElem?_getD, List.getElem?_eq_getElem h, Option.getD_some]
theorem rd_take {α : Type} {d : α} {xs : List α} {n k : Nat} (hk : k < n) : rd d (xs.take n) (k : Int) = rd d xs (k : Int) := by
  unfold rd; rw [Int.toNat_natCast, List.getD_eq_getElem?_getD, List.getD_eq_getElem?_getD, List.getElem?_take_of_lt hk]
theorem take_rd {α : Type} {d : α} {xs : List α} {k : Nat} (h : k < xs.length) : xs.take (k + 1) = xs.take k ++ [rd d xs (k : Int)] := by
  rw [rd_ix h, List.take_succ_eq_append_getElem h]
/-- A row without the one at a place. -/
def dropAt {α : Type} (xs : List α) (w : Nat) : List α := xs.take w ++ xs.drop (w + 1)
theorem dropAt_length {α : Type} {xs : List α} {w : Nat} (h : w < xs.length) : (dropAt xs w).length = xs.length - 1 := by
  unfold dropAt; rw [List.length_append, List.length_take, List.length_drop]; omega
theorem dropAt_mem {α : Type} {xs : List α} {w : Nat} {x : α} (h : x ∈ dropAt xs w) : x ∈ xs := by
  unfold dropAt at h
  rcases List.mem_append.1 h with h | h
  · exact List.mem_of_mem_take h
  · exact List.mem_of_mem_drop h
theorem dropAt_map {α β : Type} (f : α → β) (xs : List α) (w : Nat) : (dropAt xs w).map f = dropAt (xs.map f) w := by
  unfold dropAt; rw [List.map_append, List.map_take, List.map_drop]
/-- Deleting in place. -/
theorem del_ok {α : Type} {m : List α} {n w : Nat} {z : α} (hn : n ≤ m.length) (hw : w < n) {i1 i2 i3 i4 i5 i6 : Nat} (h1 : i1 = w) (h2 : i2 = w + 1) (h3 : i3 = n - (w + 1)) (h4 : i4 = n - 1) (h5 : i5 = n - 1) (h6 : i6 ≤ 1) :
    (splice (m.take i1 ++ ((m.drop i2).take i3 ++ m.drop i4)) i5 (List.replicate i6 z)).take (n - 1) = dropAt (m.take n) w ∧ (splice (m.take i1 ++ ((m.drop i2).take i3 ++ m.drop i4)) i5 (List.replicate i6 z)).length = m.length := by
  subst h1 h2 h3 h4 h5
  have e : (m.take i1 ++ ((m.drop (i1 + 1)).take (n - (i1 + 1)) ++ m.drop (n - 1))) = dropAt (m.take n) i1 ++ m.drop (n - 1) := by
    unfold dropAt
    rw [List.take_take, Nat.min_eq_left (by omega), List.drop_take, List.append_assoc]
  have hl : (dropAt (m.take n) i1).length = n - 1 := by rw [dropAt_length (by rw [List.length_take]; omega), List.length_take]; omega
  rw [e]
  unfold splice
  constructor
  · rw [List.take_append_of_le_length (by rw [List.length_take, List.length_append]; omega), List.take_take, Nat.min_self, List.take_append_of_le_length (by omega), List.take_of_length_le (by omega)]
  · simp only [List.length_append, List.length_take, List.length_drop, List.length_replicate, hl]
    omega
end Go.AM
end

section
namespace Go.AM
/-! Plain laws of Comb. -/
abbrev Peer := Int × (Int × Int)
def pk (l : List Peer) (k : Nat) : Peer := rd ((0 : Int), ((0 : Int), (0 : Int))) l (k : Int)
theorem rd_pk (l : List Peer) (k : Nat) : rd ((0 : Int), ((0 : Int), (0 : Int))) l (k : Int) = pk l k := rfl
def fitP (p : Peer) : Prop := (-140737488355328 ≤ p.1 ∧ p.1 ≤ 140737488355328) ∧ (0 ≤ p.2.1 ∧ p.2.1 ≤ 140737488355328) ∧ (0 ≤ p.2.2 ∧ p.2.2 ≤ 140737488355328)
instance (p : Peer) : Decidable (fitP p) := by unfold fitP; infer_instance
def fitL (l : List Peer) : Prop := l.length ≤ 10 ∧ ∀ k, k < l.length → fitP (pk l k)
theorem within_eq (n a b : Int) : pendulumref29_within.run .lim (n, a, b, ()) = some (decide (a ≤ n ∧ n ≤ b)) := by
  simp [pendulumref29_within.run]
theorem fit_eq (l : List Peer) (hl : l.length ≤ 9223372036854775807) : (pendulumref29_Fit.run .lim (l, ()) = some false) ∨ (pendulumref29_Fit.run .lim (l, ()) = some true ∧ fitL l) := by
  by_cases h10 : (l.length : Int) > 10
  · left; simp (disch := omega) only [smallI_t, inB_t, wrap64, dec_t, dec_f, dec_not, dec_and, dec_or, cond_ite, cond_true, cond_false, Option.bind_some, Option.bind_none, Bool.or_true, Bool.true_or, Bool.and_true, Bool.true_and, Bool.and_false, Bool.false_and, Bool.or_false, Bool.false_or, Bool.not_true, Bool.not_false, Bool.or_self, Bool.and_self, Bool.not_not, if_true, if_false, and_self, true_and, and_true, and_false, false_and, or_true, true_or, or_false, false_or, not_true_eq_false, not_false_eq_true, decide_true, decide_false, eq_self, if_pos, if_neg, mx_eq, mn_eq, pendulumref29_Fit.run]
  · have step : ∀ k, k < l.length → pendulumref29_Fit.l0 .lim (l, (k : Int), ()) = bif !decide (fitP (pk l k)) then some (.inl (false, ())) else pendulumref29_Fit.l0 .lim (l, ((k + 1 : Nat) : Int), ()) := by
      intro k hk
      rw [pendulumref29_Fit.q0]
      simp (disch := omega) only [smallI_t, inB_t, wrap64, dec_t, dec_f, dec_not, dec_and, dec_or, cond_ite, cond_true, cond_false, Option.bind_some, Option.bind_none, Bool.or_true, Bool.true_or, Bool.and_true, Bool.true_and, Bool.and_false, Bool.false_and, Bool.or_false, Bool.false_or, Bool.not_true, Bool.not_false, Bool.or_self, Bool.and_self, Bool.not_not, if_true, if_false, and_self, true_and, and_true, and_false, false_and, or_true, true_or, or_false, false_or, not_true_eq_false, not_false_eq_true, decide_true, decide_false, eq_self, if_pos, if_neg, mx_eq, mn_eq, pendulumref29_Fit.b0, within_eq, rd_pk]
      by_cases h1 : (-140737488355328 ≤ (pk l k).1 ∧ (pk l k).1 ≤ 140737488355328)
      · by_cases h2 : 0 ≤ (pk l k).2.1 ∧ (pk l k).2.1 ≤ 140737488355328
        · by_cases h3 : 0 ≤ (pk l k).2.2 ∧ (pk l k).2.2 ≤ 140737488355328
          · simp [fitP, h1, h2, h3]
          · simp [fitP, h1, h2, h3]
        · simp [fitP, h1, h2]
      · simp [fitP, h1]
    simp (disch := omega) only [smallI_t, inB_t, wrap64, dec_t, dec_f, dec_not, dec_and, dec_or, cond_ite, cond_true, cond_false, Option.bind_some, Option.bind_none, Bool.or_true, Bool.true_or, Bool.and_true, Bool.true_and, Bool.and_false, Bool.false_and, Bool.or_false, Bool.false_or, Bool.not_true, Bool.not_false, Bool.or_self, Bool.and_self, Bool.not_not, if_true, if_false, and_self, true_and, and_true, and_false, false_and, or_true, true_or, or_false, false_or, not_true_eq_false, not_false_eq_true, decide_true, decide_false, eq_self, if_pos, if_neg, mx_eq, mn_eq, pendulumref29_Fit.run]
    rcases loop_or (fun k : Nat => (l, (k : Int), ())) step with ⟨h1, h2⟩ | ⟨k, hk, h1, h2, h3⟩
    · right
      refine ⟨?_, by omega, fun k hk => by simpa using h2 k hk⟩
      rw [show (l, (0 : Int), ()) = (l, ((0 : Nat) : Int), ()) from rfl, h1, pendulumref29_Fit.q0]
      simp (disch := omega) only [smallI_t, inB_t, wrap64, dec_t, dec_f, dec_not, dec_and, dec_or, cond_ite, cond_true, cond_false, Option.bind_some, Option.bind_none, Bool.or_true, Bool.true_or, Bool.and_true, Bool.true_and, Bool.and_false, Bool.false_and, Bool.or_false, Bool.false_or, Bool.not_true, Bool.not_false, Bool.or_self, Bool.and_self, Bool.not_not, if_true, if_false, and_self, true_and, and_true, and_false, false_and, or_true, true_or, or_false, false_or, not_true_eq_false, not_false_eq_true, decide_true, decide_false, eq_self, if_pos, if_neg, mx_eq, mn_eq, pendulumref29_Fit.b0]
    · left; rw [show (l, (0 : Int), ()) = (l, ((0 : Nat) : Int), ()) from rfl, h3]
      simp (disch := omega) only [smallI_t, inB_t, wrap64, dec_t, dec_f, dec_not, dec_and, dec_or, cond_ite, cond_true, cond_false, Option.bind_some, Option.bind_none, Bool.or_true, Bool.true_or, Bool.and_true, Bool.true_and, Bool.and_false, Bool.false_and, Bool.or_false, Bool.false_or, Bool.not_true, Bool.not_false, Bool.or_self, Bool.and_self, Bool.not_not, if_true, if_false, and_self, true_and, and_true, and_false, false_and, or_true, true_or, or_false, false_or, not_true_eq_false, not_false_eq_true, decide_true, decide_false, eq_self, if_pos, if_neg, mx_eq, mn_eq]
end Go.AM
end

section
namespace Go.AM
theorem mul_bd {x w a b : Int} (h1 : -a ≤ x) (h2 : x ≤ a) (h3 : 0 ≤ w) (h4 : w ≤ b) (ha : 0 ≤ a) : -(a * b) ≤ x * w ∧ x * w ≤ a * b := by
  have e1 : x * w ≤ a * w := Int.mul_le_mul_of_nonneg_right h2 h3
  have e2 : a * w ≤ a * b := Int.mul_le_mul_of_nonneg_left h4 ha
  have e3 : -a * w ≤ x * w := Int.mul_le_mul_of_nonneg_right h1 h3
  rw [Int.neg_mul] at e3
  omega
theorem flr_eq {s a : Int} (ha : 0 < a) : (if s.tmod a < 0 then s.tdiv a - 1 else s.tdiv a) = s / a := by
  have h1 := Int.mul_tdiv_add_tmod s a
  have h2 : s.tmod a < a := Int.tmod_lt_of_pos s ha
  have h3 : -a < s.tmod a := by have := Int.lt_tmod_of_pos s ha; omega
  symm
  split
  · rw [Int.ediv_eq_iff_of_pos ha]
    rw [Int.sub_mul, Int.mul_comm]
    constructor <;> omega
  · rw [Int.ediv_eq_iff_of_pos ha, Int.mul_comm]
    constructor <;> omega
def wt (p : Peer) : Int := max 1 (4096 / (p.2.1 / 65536 + 1))
theorem wt_bd (p : Peer) (h : 0 ≤ p.2.1) : 1 ≤ wt p ∧ wt p ≤ 4096 := by
  unfold wt
  have h1 : 0 ≤ p.2.1 / 65536 := by omega
  have h2 : 4096 / (p.2.1 / 65536 + 1) ≤ 4096 := Int.ediv_le_self _ (by decide)
  omega
theorem shr16 (x : Int) : ishr .i64 x 16 = x / 65536 := by
  unfold ishr
  rw [show (2 ^ min (16 : Int).toNat IntKind.i64.bits : Int) = 65536 from rfl, Int.fdiv_eq_ediv_of_nonneg _ (by decide)]
theorem weight_eq (p : Peer) (h : fitP p) : comb_Weight.run .lim (p, ()) = some (wt p) := by
  obtain ⟨-, h, -⟩ := h
  have h1 : 0 ≤ p.2.1 / 65536 := by omega
  have h2 : 4096 / (p.2.1 / 65536 + 1) ≤ 4096 := Int.ediv_le_self _ (by decide)
  have h3 : 0 ≤ 4096 / (p.2.1 / 65536 + 1) := Int.ediv_nonneg (by decide) (by omega)
  simp (disch := omega) only [smallI_t, inB_t, wrap64, dec_t, dec_f, dec_not, dec_and, dec_or, cond_ite, cond_true, cond_false, Option.bind_some, Option.bind_none, Bool.or_true, Bool.true_or, Bool.and_true, Bool.true_and, Bool.and_false, Bool.false_and, Bool.or_false, Bool.false_or, Bool.not_true, Bool.not_false, Bool.or_self, Bool.and_self, Bool.not_not, if_true, if_false, and_self, true_and, and_true, and_false, false_and, or_true, true_or, or_false, false_or, not_true_eq_false, not_false_eq_true, decide_true, decide_false, eq_self, if_pos, if_neg, mx_eq, mn_eq, comb_Weight.run, shr16]
  rw [Int.tdiv_eq_ediv_of_nonneg (by decide)]
  simp (disch := omega) only [smallI_t, inB_t, wrap64, dec_t, dec_f, dec_not, dec_and, dec_or, cond_ite, cond_true, cond_false, Option.bind_some, Option.bind_none, Bool.or_true, Bool.true_or, Bool.and_true, Bool.true_and, Bool.and_false, Bool.false_and, Bool.or_false, Bool.false_or, Bool.not_true, Bool.not_false, Bool.or_self, Bool.and_self, Bool.not_not, if_true, if_false, and_self, true_and, and_true, and_false, false_and, or_true, true_or, or_false, false_or, not_true_eq_false, not_false_eq_true, decide_true, decide_false, eq_self, if_pos, if_neg, mx_eq, mn_eq]
  rfl
theorem rweight_eq (p : Peer) (h : fitP p) : pendulumref30_Weight.run .lim (p, ()) = some (wt p) := by
  obtain ⟨-, h, -⟩ := h
  have h1 : 0 ≤ p.2.1 / 65536 := by omega
  have h2 : 4096 / (p.2.1 / 65536 + 1) ≤ 4096 := Int.ediv_le_self _ (by decide)
  have h3 : 0 ≤ 4096 / (p.2.1 / 65536 + 1) := Int.ediv_nonneg (by decide) (by omega)
  simp (disch := omega) only [smallI_t, inB_t, wrap64, dec_t, dec_f, dec_not, dec_and, dec_or, cond_ite, cond_true, cond_false, Option.bind_some, Option.bind_none, Bool.or_true, Bool.true_or, Bool.and_true, Bool.true_and, Bool.and_false, Bool.false_and, Bool.or_false, Bool.false_or, Bool.not_true, Bool.not_false, Bool.or_self, Bool.and_self, Bool.not_not, if_true, if_false, and_self, true_and, and_true, and_false, false_and, or_true, true_or, or_false, false_or, not_true_eq_false, not_false_eq_true, decide_true, decide_false, eq_self, if_pos, if_neg, mx_eq, mn_eq, pendulumref30_Weight.run, shr16]
  rw [Int.tdiv_eq_ediv_of_nonneg (by decide)]
  simp (disch := omega) only [smallI_t, inB_t, wrap64, dec_t, dec_f, dec_not, dec_and, dec_or, cond_ite, cond_true, cond_false, Option.bind_some, Option.bind_none, Bool.or_true, Bool.true_or, Bool.and_true, Bool.true_and, Bool.and_false, Bool.false_and, Bool.or_false, Bool.false_or, Bool.not_true, Bool.not_false, Bool.or_self, Bool.and_self, Bool.not_not, if_true, if_false, and_self, true_and, and_true, and_false, false_and, or_true, true_or, or_false, false_or, not_true_eq_false, not_false_eq_true, decide_true, decide_false, eq_self, if_pos, if_neg, mx_eq, mn_eq]
  rw [wt, Int.max_comm]
def dist (a b : Int) : Int := if a < b then b - a else a - b
def nar (a : Int) : Prop := -1000000000000000 ≤ a ∧ a ≤ 1000000000000000
theorem dist_bd {a b : Int} (ha : nar a) (hb : nar b) : 0 ≤ dist a b ∧ dist a b ≤ 2000000000000000 := by
  unfold dist; unfold nar at ha hb; split <;> omega
theorem distance_eq {a b : Int} (ha : nar a) (hb : nar b) : comb_distance.run .lim (a, b, ()) = some (dist a b) := by
  unfold nar at ha hb
  simp (disch := omega) only [smallI_t, inB_t, wrap64, dec_t, dec_f, dec_not, dec_and, dec_or, cond_ite, cond_true, cond_false, Option.bind_some, Option.bind_none, Bool.or_true, Bool.true_or, Bool.and_true, Bool.true_and, Bool.and_false, Bool.false_and, Bool.or_false, Bool.false_or, Bool.not_true, Bool.not_false, Bool.or_self, Bool.and_self, Bool.not_not, if_true, if_false, and_self, true_and, and_true, and_false, false_and, or_true, true_or, or_false, false_or, not_true_eq_false, not_false_eq_true, decide_true, decide_false, eq_self, if_pos, if_neg, mx_eq, mn_eq, comb_distance.run]
  unfold dist; split <;> congr 1 <;> omega
theorem rdistance_eq {a b : Int} (ha : nar a) (hb : nar b) : pendulumref30_distance.run .lim (a, b, ()) = some (dist a b) := by
  unfold nar at ha hb
  simp (disch := omega) only [smallI_t, inB_t, wrap64, dec_t, dec_f, dec_not, dec_and, dec_or, cond_ite, cond_true, cond_false, Option.bind_some, Option.bind_none, Bool.or_true, Bool.true_or, Bool.and_true, Bool.true_and, Bool.and_false, Bool.false_and, Bool.or_false, Bool.false_or, Bool.not_true, Bool.not_false, Bool.or_self, Bool.and_self, Bool.not_not, if_true, if_false, and_self, true_and, and_true, and_false, false_and, or_true, true_or, or_false, false_or, not_true_eq_false, not_false_eq_true, decide_true, decide_false, eq_self, if_pos, if_neg, mx_eq, mn_eq, pendulumref30_distance.run]
  unfold dist; split <;> rfl
def far (l : List Peer) (k : Int) : Int := if 0 ≤ k ∧ k < l.length then acc (fun i => dist (pk l i).1 (rd ((0 : Int), ((0 : Int), (0 : Int))) l k).1) l.length else 0
theorem fit_nar {p : Peer} (h : fitP p) : nar p.1 := by unfold nar; obtain ⟨h, -⟩ := h; omega
theorem fit_rd {l : List Peer} (h : fitL l) {k : Int} (h1 : 0 ≤ k) (h2 : k < l.length) : fitP (rd ((0 : Int), ((0 : Int), (0 : Int))) l k) := by
  have := h.2 k.toNat (by omega)
  simpa [pk, Int.toNat_of_nonneg h1] using this
theorem far_eq {l : List Peer} (h : fitL l) (k : Int) : comb_Far.run .lim (l, k, ()) = some (far l k) := by
  have h10 := h.1
  by_cases hk : 0 ≤ k ∧ k < l.length
  · have hb : ∀ m : Nat, m ≤ l.length → 0 ≤ acc (fun i => dist (pk l i).1 (rd ((0 : Int), ((0 : Int), (0 : Int))) l k).1) m ∧ acc (fun i => dist (pk l i).1 (rd ((0 : Int), ((0 : Int), (0 : Int))) l k).1) m ≤ 20000000000000000 := by
      intro m hm
      have := acc_bd (n := m) (g := fun i => dist (pk l i).1 (rd ((0 : Int), ((0 : Int), (0 : Int))) l k).1) (a := 0) (b := 2000000000000000) (fun i hi => dist_bd (fit_nar (h.2 i (by omega))) (fit_nar (fit_rd h hk.1 hk.2)))
      omega
    have step : ∀ m, m < l.length → comb_Far.l0 .lim (acc (fun i => dist (pk l i).1 (rd ((0 : Int), ((0 : Int), (0 : Int))) l k).1) m, l, (l.length : Int), (m : Int), l, k, ()) = comb_Far.l0 .lim (acc (fun i => dist (pk l i).1 (rd ((0 : Int), ((0 : Int), (0 : Int))) l k).1) (m + 1), l, (l.length : Int), ((m + 1 : Nat) : Int), l, k, ()) := by
      intro m hm
      rw [comb_Far.q0]
      have h1 := hb m (by omega)
      have h2 := hb (m + 1) (by omega)
      rw [acc] at h2 ⊢
      simp (disch := omega) only [smallI_t, inB_t, wrap64, dec_t, dec_f, dec_not, dec_and, dec_or, cond_ite, cond_true, cond_false, Option.bind_some, Option.bind_none, Bool.or_true, Bool.true_or, Bool.and_true, Bool.true_and, Bool.and_false, Bool.false_and, Bool.or_false, Bool.false_or, Bool.not_true, Bool.not_false, Bool.or_self, Bool.and_self, Bool.not_not, if_true, if_false, and_self, true_and, and_true, and_false, false_and, or_true, true_or, or_false, false_or, not_true_eq_false, not_false_eq_true, decide_true, decide_false, eq_self, if_pos, if_neg, mx_eq, mn_eq, comb_Far.b0, rd_pk, distance_eq (fit_nar (h.2 m hm)) (fit_nar (fit_rd h hk.1 hk.2))]
      rfl
    have := loop_to (fun m : Nat => (acc (fun i => dist (pk l i).1 (rd ((0 : Int), ((0 : Int), (0 : Int))) l k).1) m, l, (l.length : Int), (m : Int), l, k, ())) step
    simp (disch := omega) only [smallI_t, inB_t, wrap64, dec_t, dec_f, dec_not, dec_and, dec_or, cond_ite, cond_true, cond_false, Option.bind_some, Option.bind_none, Bool.or_true, Bool.true_or, Bool.and_true, Bool.true_and, Bool.and_false, Bool.false_and, Bool.or_false, Bool.false_or, Bool.not_true, Bool.not_false, Bool.or_self, Bool.and_self, Bool.not_not, if_true, if_false, and_self, true_and, and_true, and_false, false_and, or_true, true_or, or_false, false_or, not_true_eq_false, not_false_eq_true, decide_true, decide_false, eq_self, if_pos, if_neg, mx_eq, mn_eq, comb_Far.run]
    rw [show ((0 : Int), l, (l.length : Int), (0 : Int), l, k, ()) = (acc (fun i => dist (pk l i).1 (rd ((0 : Int), ((0 : Int), (0 : Int))) l k).1) 0, l, (l.length : Int), ((0 : Nat) : Int), l, k, ()) from rfl, this, comb_Far.q0]
    simp (disch := omega) only [smallI_t, inB_t, wrap64, dec_t, dec_f, dec_not, dec_and, dec_or, cond_ite, cond_true, cond_false, Option.bind_some, Option.bind_none, Bool.or_true, Bool.true_or, Bool.and_true, Bool.true_and, Bool.and_false, Bool.false_and, Bool.or_false, Bool.false_or, Bool.not_true, Bool.not_false, Bool.or_self, Bool.and_self, Bool.not_not, if_true, if_false, and_self, true_and, and_true, and_false, false_and, or_true, true_or, or_false, false_or, not_true_eq_false, not_false_eq_true, decide_true, decide_false, eq_self, if_pos, if_neg, mx_eq, mn_eq, comb_Far.b0]
    rw [far, if_pos hk]
  · rw [far, if_neg hk]
    simp (disch := omega) only [smallI_t, inB_t, wrap64, dec_t, dec_f, dec_not, dec_and, dec_or, cond_ite, cond_true, cond_false, Option.bind_some, Option.bind_none, Bool.or_true, Bool.true_or, Bool.and_true, Bool.true_and, Bool.and_false, Bool.false_and, Bool.or_false, Bool.false_or, Bool.not_true, Bool.not_false, Bool.or_self, Bool.and_self, Bool.not_not, if_true, if_false, and_self, true_and, and_true, and_false, false_and, or_true, true_or, or_false, false_or, not_true_eq_false, not_false_eq_true, decide_true, decide_false, eq_self, if_pos, if_neg, mx_eq, mn_eq, comb_Far.run]
theorem rfar_eq {l : List Peer} (h : fitL l) (k : Int) : pendulumref30_Far.run .lim (l, k, ()) = some (far l k) := by
  have h10 := h.1
  by_cases hk : 0 ≤ k ∧ k < l.length
  · have hb : ∀ m : Nat, m ≤ l.length → 0 ≤ acc (fun i => dist (pk l i).1 (rd ((0 : Int), ((0 : Int), (0 : Int))) l k).1) m ∧ acc (fun i => dist (pk l i).1 (rd ((0 : Int), ((0 : Int), (0 : Int))) l k).1) m ≤ 20000000000000000 := by
      intro m hm
      have := acc_bd (n := m) (g := fun i => dist (pk l i).1 (rd ((0 : Int), ((0 : Int), (0 : Int))) l k).1) (a := 0) (b := 2000000000000000) (fun i hi => dist_bd (fit_nar (h.2 i (by omega))) (fit_nar (fit_rd h hk.1 hk.2)))
      omega
    have step : ∀ m, m < l.length → pendulumref30_Far.l0 .lim (l, k, acc (fun i => dist (pk l i).1 (rd ((0 : Int), ((0 : Int), (0 : Int))) l k).1) m, (m : Int), ()) = pendulumref30_Far.l0 .lim (l, k, acc (fun i => dist (pk l i).1 (rd ((0 : Int), ((0 : Int), (0 : Int))) l k).1) (m + 1), ((m + 1 : Nat) : Int), ()) := by
      intro m hm
      rw [pendulumref30_Far.q0]
      have h1 := hb m (by omega)
      have h2 := hb (m + 1) (by omega)
      rw [acc] at h2 ⊢
      simp (disch := omega) only [smallI_t, inB_t, wrap64, dec_t, dec_f, dec_not, dec_and, dec_or, cond_ite, cond_true, cond_false, Option.bind_some, Option.bind_none, Bool.or_true, Bool.true_or, Bool.and_true, Bool.true_and, Bool.and_false, Bool.false_and, Bool.or_false, Bool.false_or, Bool.not_true, Bool.not_false, Bool.or_self, Bool.and_self, Bool.not_not, if_true, if_false, and_self, true_and, and_true, and_false, false_and, or_true, true_or, or_false, false_or, not_true_eq_false, not_false_eq_true, decide_true, decide_false, eq_self, if_pos, if_neg, mx_eq, mn_eq, pendulumref30_Far.b0, rd_pk, rdistance_eq (fit_nar (h.2 m hm)) (fit_nar (fit_rd h hk.1 hk.2))]
      rfl
    have := loop_to (fun m : Nat => (l, k, acc (fun i => dist (pk l i).1 (rd ((0 : Int), ((0 : Int), (0 : Int))) l k).1) m, (m : Int), ())) step
    simp (disch := omega) only [smallI_t, inB_t, wrap64, dec_t, dec_f, dec_not, dec_and, dec_or, cond_ite, cond_true, cond_false, Option.bind_some, Option.bind_none, Bool.or_true, Bool.true_or, Bool.and_true, Bool.true_and, Bool.and_false, Bool.false_and, Bool.or_false, Bool.false_or, Bool.not_true, Bool.not_false, Bool.or_self, Bool.and_self, Bool.not_not, if_true, if_false, and_self, true_and, and_true, and_false, false_and, or_true, true_or, or_false, false_or, not_true_eq_false, not_false_eq_true, decide_true, decide_false, eq_self, if_pos, if_neg, mx_eq, mn_eq, pendulumref30_Far.run]
    rw [show (l, k, (0 : Int), (0 : Int), ()) = (l, k, acc (fun i => dist (pk l i).1 (rd ((0 : Int), ((0 : Int), (0 : Int))) l k).1) 0, ((0 : Nat) : Int), ()) from rfl, this, pendulumref30_Far.q0]
    simp (disch := omega) only [smallI_t, inB_t, wrap64, dec_t, dec_f, dec_not, dec_and, dec_or, cond_ite, cond_true, cond_false, Option.bind_some, Option.bind_none, Bool.or_true, Bool.true_or, Bool.and_true, Bool.true_and, Bool.and_false, Bool.false_and, Bool.or_false, Bool.false_or, Bool.not_true, Bool.not_false, Bool.or_self, Bool.and_self, Bool.not_not, if_true, if_false, and_self, true_and, and_true, and_false, false_and, or_true, true_or, or_false, false_or, not_true_eq_false, not_false_eq_true, decide_true, decide_false, eq_self, if_pos, if_neg, mx_eq, mn_eq, pendulumref30_Far.b0]
    rw [far, if_pos hk]
  · rw [far, if_neg hk]
    simp (disch := omega) only [smallI_t, inB_t, wrap64, dec_t, dec_f, dec_not, dec_and, dec_or, cond_ite, cond_true, cond_false, Option.bind_some, Option.bind_none, Bool.or_true, Bool.true_or, Bool.and_true, Bool.true_and, Bool.and_false, Bool.false_and, Bool.or_false, Bool.false_or, Bool.not_true, Bool.not_false, Bool.or_self, Bool.and_self, Bool.not_not, if_true, if_false, and_self, true_and, and_true, and_false, false_and, or_true, true_or, or_false, false_or, not_true_eq_false, not_false_eq_true, decide_true, decide_false, eq_self, if_pos, if_neg, mx_eq, mn_eq, pendulumref30_Far.run]
end Go.AM
end

section
namespace Go.AM
theorem far_bd {l : List Peer} (h : fitL l) (k : Int) : 0 ≤ far l k ∧ far l k ≤ 20000000000000000 := by
  have h10 := h.1
  unfold far
  split
  · rename_i hk
    have := acc_bd (n := l.length) (g := fun i => dist (pk l i).1 (rd ((0 : Int), ((0 : Int), (0 : Int))) l k).1) (a := 0) (b := 2000000000000000) (fun i hi => dist_bd (fit_nar (h.2 i (by omega))) (fit_nar (fit_rd h hk.1 hk.2)))
    omega
  · omega
def wst (R : List Peer) : Nat → Nat
  | 0 => 0
  | k + 1 => if far R (wst R k : Int) ≤ far R (k : Int) then k else wst R k
theorem wst_lt (R : List Peer) {n : Nat} (h : 0 < n) : wst R n < n := by
  induction n with
  | zero => omega
  | succ n ih =>
    rw [wst]
    split
    · omega
    · by_cases h0 : n = 0
      · subst h0; rw [wst]; omega
      · have := ih (by omega); omega
def mnj (R : List Peer) (z : Int) (k : Nat) : Int := fold (fun r i => min r (pk R i).2.2) z k
theorem mnj_succ (R : List Peer) (z : Int) (k : Nat) : mnj R z (k + 1) = min (mnj R z k) (pk R k).2.2 := rfl
theorem mnj_bd {R : List Peer} (h : fitL R) {z : Int} (hz : 0 ≤ z) {k : Nat} (hk : k ≤ R.length) : 0 ≤ mnj R z k ∧ mnj R z k ≤ z := by
  induction k with
  | zero => exact ⟨hz, Int.le_refl _⟩
  | succ k ih => rw [mnj_succ]; have := ih (by omega); have := (h.2 k (by omega)).2.2; omega
def rowOf (l : List Peer) (left : List Int) : List Peer := left.map fun i => rd ((0 : Int), ((0 : Int), (0 : Int))) l i
theorem rowOf_length (l : List Peer) (left : List Int) : (rowOf l left).length = left.length := List.length_map _
def halt (R : List Peer) : Prop := far R (wst R R.length : Int) ≤ mnj R 140737488355328 R.length * ((R.length : Int) - 1)
instance (R : List Peer) : Decidable (halt R) := by unfold halt; infer_instance
def surv (l : List Peer) : Nat → List Int → List Int
  | 0, left => left
  | n + 1, left => if 3 < left.length then (if halt (rowOf l left) then left else surv l n (dropAt left (wst (rowOf l left) left.length))) else left
def valid (l : List Peer) (left : List Int) : Prop := left.length ≤ 10 ∧ ∀ x ∈ left, 0 ≤ x ∧ x < l.length
theorem pk_row {l : List Peer} {left : List Int} {k : Nat} (hk : k < left.length) : pk (rowOf l left) k = rd ((0 : Int), ((0 : Int), (0 : Int))) l (rd (0 : Int) left (k : Int)) := by
  unfold pk rowOf
  rw [rd_ix (by rw [List.length_map]; exact hk), List.getElem_map, rd_ix hk]
theorem fit_row {l : List Peer} {left : List Int} (h : fitL l) (hv : valid l left) : fitL (rowOf l left) := by
  refine ⟨by rw [rowOf_length]; exact hv.1, fun k hk => ?_⟩
  rw [rowOf_length] at hk
  rw [pk_row hk]
  have hm : rd (0 : Int) left (k : Int) ∈ left := rd_mem (by omega) (by omega)
  exact fit_rd h (hv.2 _ hm).1 (hv.2 _ hm).2
theorem valid_drop {l : List Peer} {left : List Int} (hv : valid l left) {w : Nat} (hw : w < left.length) : valid l (dropAt left w) := by
  have := hv.1
  exact ⟨by rw [dropAt_length hw]; omega, fun x hx => hv.2 x (dropAt_mem hx)⟩
theorem halt_bd {R : List Peer} (h : fitL R) (h0 : 0 < R.length) : 0 ≤ mnj R 140737488355328 R.length * ((R.length : Int) - 1) ∧ mnj R 140737488355328 R.length * ((R.length : Int) - 1) ≤ 1266637395197952 := by
  have h1 := mnj_bd h (z := 140737488355328) (by decide) (Nat.le_refl _)
  have h2 := h.1
  have e1 : mnj R 140737488355328 R.length * ((R.length : Int) - 1) ≤ 140737488355328 * ((R.length : Int) - 1) := Int.mul_le_mul_of_nonneg_right h1.2 (by omega)
  have e2 : 0 ≤ mnj R 140737488355328 R.length * ((R.length : Int) - 1) := Int.mul_nonneg h1.1 (by omega)
  omega
/-- the program's search for the worst -/
theorem surv1 {R m : List Peer} {m1 : List Int} {n : Nat} (hR : m.take n = R) (hl : R.length = n) (hf : fitL R) (h0 : 0 < n) (left : Int) :
    comb_Survivors.l1 .lim ((n : Int), left, (0 : Int), (-1 : Int), (140737488355328 : Int), (n : Int), (n : Int), (0 : Int), m, m1, ()) = some ((n : Int), left, (wst R n : Int), far R (wst R n : Int), mnj R 140737488355328 n, m, m1, ()) := by
  have h10 := hf.1
  have step : ∀ k, k < n → comb_Survivors.l1 .lim ((n : Int), left, (wst R k : Int), (if k = 0 then (-1 : Int) else far R (wst R k : Int)), mnj R 140737488355328 k, (n : Int), (n : Int), (k : Int), m, m1, ()) = comb_Survivors.l1 .lim ((n : Int), left, (wst R (k + 1) : Int), (if k + 1 = 0 then (-1 : Int) else far R (wst R (k + 1) : Int)), mnj R 140737488355328 (k + 1), (n : Int), (n : Int), ((k + 1 : Nat) : Int), m, m1, ()) := by
    intro k hk
    rw [comb_Survivors.q1, mnj_succ, wst, if_neg (show ¬ k + 1 = 0 by omega)]
    have hp : rd ((0 : Int), ((0 : Int), (0 : Int))) m (0 + (k : Int)) = pk R k := by
      rw [Int.zero_add, ← hR, pk, rd_take hk]
    have h1 := far_bd hf (k : Int)
    by_cases hk0 : k = 0
    · subst hk0
      rw [wst, if_pos rfl]
      have h2 : far R ((0 : Nat) : Int) ≤ far R ((0 : Nat) : Int) := Int.le_refl _
      simp (disch := omega) only [smallI_t, inB_t, cutB_t, wrap64, dec_t, dec_f, dec_not, dec_and, dec_or, cond_ite, cond_true, cond_false, Option.bind_some, Option.bind_none, Bool.or_true, Bool.true_or, Bool.and_true, Bool.true_and, Bool.and_false, Bool.false_and, Bool.or_false, Bool.false_or, Bool.not_true, Bool.not_false, Bool.or_self, Bool.and_self, Bool.not_not, if_true, if_false, and_self, true_and, and_true, and_false, false_and, or_true, true_or, or_false, false_or, not_true_eq_false, not_false_eq_true, decide_true, decide_false, eq_self, if_pos, if_neg, mx_eq, mn_eq, comb_Survivors.b1, List.drop_zero, Int.toNat_natCast, hR, far_eq hf, hp]
      rfl
    · rw [if_neg hk0]
      by_cases hc : far R (wst R k : Int) ≤ far R (k : Int)
      · simp (disch := omega) only [smallI_t, inB_t, cutB_t, wrap64, dec_t, dec_f, dec_not, dec_and, dec_or, cond_ite, cond_true, cond_false, Option.bind_some, Option.bind_none, Bool.or_true, Bool.true_or, Bool.and_true, Bool.true_and, Bool.and_false, Bool.false_and, Bool.or_false, Bool.false_or, Bool.not_true, Bool.not_false, Bool.or_self, Bool.and_self, Bool.not_not, if_true, if_false, and_self, true_and, and_true, and_false, false_and, or_true, true_or, or_false, false_or, not_true_eq_false, not_false_eq_true, decide_true, decide_false, eq_self, if_pos, if_neg, mx_eq, mn_eq, comb_Survivors.b1, List.drop_zero, Int.toNat_natCast, hR, far_eq hf, hp]
        rfl
      · simp (disch := omega) only [smallI_t, inB_t, cutB_t, wrap64, dec_t, dec_f, dec_not, dec_and, dec_or, cond_ite, cond_true, cond_false, Option.bind_some, Option.bind_none, Bool.or_true, Bool.true_or, Bool.and_true, Bool.true_and, Bool.and_false, Bool.false_and, Bool.or_false, Bool.false_or, Bool.not_true, Bool.not_false, Bool.or_self, Bool.and_self, Bool.not_not, if_true, if_false, and_self, true_and, and_true, and_false, false_and, or_true, true_or, or_false, false_or, not_true_eq_false, not_false_eq_true, decide_true, decide_false, eq_self, if_pos, if_neg, mx_eq, mn_eq, comb_Survivors.b1, List.drop_zero, Int.toNat_natCast, hR, far_eq hf, hp]
        rfl
  refine (loop_to (fun k : Nat => ((n : Int), left, (wst R k : Int), (if k = 0 then (-1 : Int) else far R (wst R k : Int)), mnj R 140737488355328 k, (n : Int), (n : Int), (k : Int), m, m1, ())) step).trans ?_
  rw [comb_Survivors.q1]
  simp (disch := omega) only [smallI_t, inB_t, cutB_t, wrap64, dec_t, dec_f, dec_not, dec_and, dec_or, cond_ite, cond_true, cond_false, Option.bind_some, Option.bind_none, Bool.or_true, Bool.true_or, Bool.and_true, Bool.true_and, Bool.and_false, Bool.false_and, Bool.or_false, Bool.false_or, Bool.not_true, Bool.not_false, Bool.or_self, Bool.and_self, Bool.not_not, if_true, if_false, and_self, true_and, and_true, and_false, false_and, or_true, true_or, or_false, false_or, not_true_eq_false, not_false_eq_true, decide_true, decide_false, eq_self, if_pos, if_neg, mx_eq, mn_eq, comb_Survivors.b1]
set_option maxHeartbeats 4000000 in
theorem survP {l : List Peer} (h : fitL l) : ∀ (fuel : Nat) (left : List Int) (a b : Int) (m : List Peer) (m1 : List Int), left.length ≤ fuel + 3 → valid l left → a = left.length → b = left.length → m.take left.length = rowOf l left → m1.take left.length = left → left.length ≤ m.length → left.length ≤ m1.length → m.length ≤ 10 → m1.length ≤ 10 →
    ∃ k m', comb_Survivors.l2 .lim (a, b, m, m1, ()) = some (k, m', ()) ∧ (m'.drop 0).take k.toNat = surv l fuel left := by
  intro fuel
  induction fuel with
  | zero =>
    intro left a b m m1 hf hv ha hb hm hm1 hn hn1 hx hx1
    subst ha hb
    rw [comb_Survivors.q2]
    refine ⟨left.length, m1, ?_, ?_⟩
    · simp (disch := omega) only [smallI_t, inB_t, cutB_t, wrap64, dec_t, dec_f, dec_not, dec_and, dec_or, cond_ite, cond_true, cond_false, Option.bind_some, Option.bind_none, Bool.or_true, Bool.true_or, Bool.and_true, Bool.true_and, Bool.and_false, Bool.false_and, Bool.or_false, Bool.false_or, Bool.not_true, Bool.not_false, Bool.or_self, Bool.and_self, Bool.not_not, if_true, if_false, and_self, true_and, and_true, and_false, false_and, or_true, true_or, or_false, false_or, not_true_eq_false, not_false_eq_true, decide_true, decide_false, eq_self, if_pos, if_neg, mx_eq, mn_eq, comb_Survivors.b2]
    · rw [List.drop_zero, Int.toNat_natCast, hm1, surv]
  | succ fuel ih =>
    intro left a b m m1 hf hv ha hb hm hm1 hn hn1 hx hx1
    subst ha hb
    rw [comb_Survivors.q2]
    by_cases h3 : 3 < left.length
    · have hr := fit_row h hv
      have hrl := rowOf_length l left
      have e1 := surv1 (m1 := m1) hm hrl hr (by omega) (left.length : Int)
      have hw := wst_lt (rowOf l left) (n := left.length) (by omega)
      have hb := halt_bd hr (by omega)
      have h10 := hv.1
      rw [hrl] at hb
      have hmb := mnj_bd hr (z := 140737488355328) (by decide) (Nat.le_of_eq hrl.symm)
      by_cases hh : far (rowOf l left) (wst (rowOf l left) left.length : Int) ≤ mnj (rowOf l left) 140737488355328 left.length * ((left.length : Int) - 1)
      · refine ⟨left.length, m1, ?_, ?_⟩
        · simp (disch := omega) only [smallI_t, inB_t, cutB_t, wrap64, dec_t, dec_f, dec_not, dec_and, dec_or, cond_ite, cond_true, cond_false, Option.bind_some, Option.bind_none, Bool.or_true, Bool.true_or, Bool.and_true, Bool.true_and, Bool.and_false, Bool.false_and, Bool.or_false, Bool.false_or, Bool.not_true, Bool.not_false, Bool.or_self, Bool.and_self, Bool.not_not, if_true, if_false, and_self, true_and, and_true, and_false, false_and, or_true, true_or, or_false, false_or, not_true_eq_false, not_false_eq_true, decide_true, decide_false, eq_self, if_pos, if_neg, mx_eq, mn_eq, comb_Survivors.b2, e1]
        · rw [List.drop_zero, Int.toNat_natCast, hm1, surv, if_pos h3, if_pos (by unfold halt; rw [hrl]; exact hh)]
      · rw [surv, if_pos h3, if_neg (by unfold halt; rw [hrl]; exact hh)]
        generalize hwd : wst (rowOf l left) left.length = w at *
        have hdl := dropAt_length hw
        simp (disch := omega) only [smallI_t, inB_t, cutB_t, wrap64, dec_t, dec_f, dec_not, dec_and, dec_or, cond_ite, cond_true, cond_false, Option.bind_some, Option.bind_none, Bool.or_true, Bool.true_or, Bool.and_true, Bool.true_and, Bool.and_false, Bool.false_and, Bool.or_false, Bool.false_or, Bool.not_true, Bool.not_false, Bool.or_self, Bool.and_self, Bool.not_not, if_true, if_false, and_self, true_and, and_true, and_false, false_and, or_true, true_or, or_false, false_or, not_true_eq_false, not_false_eq_true, decide_true, decide_false, eq_self, if_pos, if_neg, mx_eq, mn_eq, comb_Survivors.b2, e1, List.length_take, List.length_drop, List.length_append]
        refine ih (dropAt left w) _ _ _ _ (by omega) (valid_drop hv hw) ?_ ?_ ?_ ?_ ?_ ?_ ?_ ?_
        · omega
        · omega
        · rw [hdl, rowOf, dropAt_map]
          exact (del_ok hn hw (by omega) (by omega) (by omega) (by omega) (by omega) (by omega)).1.trans (by rw [hm]; rfl)
        · rw [hdl]
          exact (del_ok hn1 hw (by omega) (by omega) (by omega) (by omega) (by omega) (by omega)).1.trans (by rw [hm1])
        · rw [(del_ok hn hw (by omega) (by omega) (by omega) (by omega) (by omega) (by omega)).2]; omega
        · rw [(del_ok hn1 hw (by omega) (by omega) (by omega) (by omega) (by omega) (by omega)).2]; omega
        · rw [(del_ok hn hw (by omega) (by omega) (by omega) (by omega) (by omega) (by omega)).2]; omega
        · rw [(del_ok hn1 hw (by omega) (by omega) (by omega) (by omega) (by omega) (by omega)).2]; omega
    · refine ⟨left.length, m1, ?_, ?_⟩
      · simp (disch := omega) only [smallI_t, inB_t, cutB_t, wrap64, dec_t, dec_f, dec_not, dec_and, dec_or, cond_ite, cond_true, cond_false, Option.bind_some, Option.bind_none, Bool.or_true, Bool.true_or, Bool.and_true, Bool.true_and, Bool.and_false, Bool.false_and, Bool.or_false, Bool.false_or, Bool.not_true, Bool.not_false, Bool.or_self, Bool.and_self, Bool.not_not, if_true, if_false, and_self, true_and, and_true, and_false, false_and, or_true, true_or, or_false, false_or, not_true_eq_false, not_false_eq_true, decide_true, decide_false, eq_self, if_pos, if_neg, mx_eq, mn_eq, comb_Survivors.b2]
      · rw [List.drop_zero, Int.toNat_natCast, hm1, surv, if_neg h3]
end Go.AM
end

section
namespace Go.AM
theorem fit_ne {l : List Peer} {left : List Int} (hv : valid l left) {k : Nat} (hk : k < left.length) : 0 ≤ rd (0 : Int) left (k : Int) ∧ rd (0 : Int) left (k : Int) < l.length := hv.2 _ (rd_mem (by omega) (by omega))
theorem rsurv1 {l : List Peer} {left : List Int} (hv : valid l left) (z : Int) :
    pendulumref30_Survivors.l1 .lim (l, left, z, (0 : Int), ([] : List Peer), ()) = some (l, left, mnj (rowOf l left) z left.length, rowOf l left, ()) := by
  have h10 := hv.1
  have hrl := rowOf_length l left
  have step : ∀ k, k < left.length → pendulumref30_Survivors.l1 .lim (l, left, mnj (rowOf l left) z k, (k : Int), (rowOf l left).take k, ()) = pendulumref30_Survivors.l1 .lim (l, left, mnj (rowOf l left) z (k + 1), ((k + 1 : Nat) : Int), (rowOf l left).take (k + 1), ()) := by
    intro k hk
    rw [pendulumref30_Survivors.q1, mnj_succ, take_rd (d := ((0 : Int), ((0 : Int), (0 : Int)))) (by omega)]
    have h1 := fit_ne hv hk
    have hp : rd ((0 : Int), ((0 : Int), (0 : Int))) (rowOf l left) (k : Int) = rd ((0 : Int), ((0 : Int), (0 : Int))) l (rd (0 : Int) left (k : Int)) := pk_row hk
    rw [pk, hp]
    simp (disch := omega) only [smallI_t, inB_t, cutB_t, wrap64, dec_t, dec_f, dec_not, dec_and, dec_or, cond_ite, cond_true, cond_false, Option.bind_some, Option.bind_none, Bool.or_true, Bool.true_or, Bool.and_true, Bool.true_and, Bool.and_false, Bool.false_and, Bool.or_false, Bool.false_or, Bool.not_true, Bool.not_false, Bool.or_self, Bool.and_self, Bool.not_not, if_true, if_false, and_self, true_and, and_true, and_false, false_and, or_true, true_or, or_false, false_or, not_true_eq_false, not_false_eq_true, decide_true, decide_false, eq_self, if_pos, if_neg, mx_eq, mn_eq, pendulumref30_Survivors.b1, List.length_take, List.length_singleton]
    rfl
  refine (loop_to (fun k : Nat => (l, left, mnj (rowOf l left) z k, (k : Int), (rowOf l left).take k, ())) step).trans ?_
  rw [pendulumref30_Survivors.q1, List.take_of_length_le (by omega)]
  simp (disch := omega) only [smallI_t, inB_t, cutB_t, wrap64, dec_t, dec_f, dec_not, dec_and, dec_or, cond_ite, cond_true, cond_false, Option.bind_some, Option.bind_none, Bool.or_true, Bool.true_or, Bool.and_true, Bool.true_and, Bool.and_false, Bool.false_and, Bool.or_false, Bool.false_or, Bool.not_true, Bool.not_false, Bool.or_self, Bool.and_self, Bool.not_not, if_true, if_false, and_self, true_and, and_true, and_false, false_and, or_true, true_or, or_false, false_or, not_true_eq_false, not_false_eq_true, decide_true, decide_false, eq_self, if_pos, if_neg, mx_eq, mn_eq, pendulumref30_Survivors.b1]
theorem rsurv2 {R : List Peer} (hf : fitL R) {l : List Peer} {left : List Int} (z : Int) :
    pendulumref30_Survivors.l2 .lim (l, left, z, (0 : Int), (0 : Int), R, ()) = some (l, left, z, (wst R R.length : Int), R, ()) := by
  have h10 := hf.1
  have step : ∀ k, k < R.length → pendulumref30_Survivors.l2 .lim (l, left, z, (wst R k : Int), (k : Int), R, ()) = pendulumref30_Survivors.l2 .lim (l, left, z, (wst R (k + 1) : Int), ((k + 1 : Nat) : Int), R, ()) := by
    intro k hk
    rw [pendulumref30_Survivors.q2, wst]
    by_cases hc : far R (wst R k : Int) ≤ far R (k : Int)
    · simp (disch := omega) only [smallI_t, inB_t, cutB_t, wrap64, dec_t, dec_f, dec_not, dec_and, dec_or, cond_ite, cond_true, cond_false, Option.bind_some, Option.bind_none, Bool.or_true, Bool.true_or, Bool.and_true, Bool.true_and, Bool.and_false, Bool.false_and, Bool.or_false, Bool.false_or, Bool.not_true, Bool.not_false, Bool.or_self, Bool.and_self, Bool.not_not, if_true, if_false, and_self, true_and, and_true, and_false, false_and, or_true, true_or, or_false, false_or, not_true_eq_false, not_false_eq_true, decide_true, decide_false, eq_self, if_pos, if_neg, mx_eq, mn_eq, pendulumref30_Survivors.b2, rfar_eq hf]
      rfl
    · simp (disch := omega) only [smallI_t, inB_t, cutB_t, wrap64, dec_t, dec_f, dec_not, dec_and, dec_or, cond_ite, cond_true, cond_false, Option.bind_some, Option.bind_none, Bool.or_true, Bool.true_or, Bool.and_true, Bool.true_and, Bool.and_false, Bool.false_and, Bool.or_false, Bool.false_or, Bool.not_true, Bool.not_false, Bool.or_self, Bool.and_self, Bool.not_not, if_true, if_false, and_self, true_and, and_true, and_false, false_and, or_true, true_or, or_false, false_or, not_true_eq_false, not_false_eq_true, decide_true, decide_false, eq_self, if_pos, if_neg, mx_eq, mn_eq, pendulumref30_Survivors.b2, rfar_eq hf]
      rfl
  refine (loop_to (fun k : Nat => (l, left, z, (wst R k : Int), (k : Int), R, ())) step).trans ?_
  rw [pendulumref30_Survivors.q2]
  simp (disch := omega) only [smallI_t, inB_t, cutB_t, wrap64, dec_t, dec_f, dec_not, dec_and, dec_or, cond_ite, cond_true, cond_false, Option.bind_some, Option.bind_none, Bool.or_true, Bool.true_or, Bool.and_true, Bool.true_and, Bool.and_false, Bool.false_and, Bool.or_false, Bool.false_or, Bool.not_true, Bool.not_false, Bool.or_self, Bool.and_self, Bool.not_not, if_true, if_false, and_self, true_and, and_true, and_false, false_and, or_true, true_or, or_false, false_or, not_true_eq_false, not_false_eq_true, decide_true, decide_false, eq_self, if_pos, if_neg, mx_eq, mn_eq, pendulumref30_Survivors.b2]
theorem cut_take (left : List Int) (w : Nat) : cut left 0 (w : Int) = left.take w := by
  unfold cut; rw [Int.toNat_natCast]; rfl
theorem cut_drop (left : List Int) (w : Nat) : cut left ((w : Int) + 1) (left.length : Int) = left.drop (w + 1) := by
  unfold cut; rw [Int.toNat_natCast, List.take_of_length_le (Nat.le_refl _), show ((w : Int) + 1).toNat = w + 1 by omega]
set_option maxHeartbeats 4000000 in
theorem survR {l : List Peer} (h : fitL l) : ∀ (fuel : Nat) (left : List Int), left.length ≤ fuel + 3 → valid l left → pendulumref30_Survivors.l3 .lim (l, left, ()) = some (surv l fuel left, ()) := by
  intro fuel
  induction fuel with
  | zero =>
    intro left hf hv
    rw [pendulumref30_Survivors.q3]
    simp (disch := omega) only [smallI_t, inB_t, cutB_t, wrap64, dec_t, dec_f, dec_not, dec_and, dec_or, cond_ite, cond_true, cond_false, Option.bind_some, Option.bind_none, Bool.or_true, Bool.true_or, Bool.and_true, Bool.true_and, Bool.and_false, Bool.false_and, Bool.or_false, Bool.false_or, Bool.not_true, Bool.not_false, Bool.or_self, Bool.and_self, Bool.not_not, if_true, if_false, and_self, true_and, and_true, and_false, false_and, or_true, true_or, or_false, false_or, not_true_eq_false, not_false_eq_true, decide_true, decide_false, eq_self, if_pos, if_neg, mx_eq, mn_eq, pendulumref30_Survivors.b3, surv]
  | succ fuel ih =>
    intro left hf hv
    rw [pendulumref30_Survivors.q3]
    have h10 := hv.1
    by_cases h3 : 3 < left.length
    · have hr := fit_row h hv
      have hrl := rowOf_length l left
      have h1 := fit_ne hv (k := 0) (by omega)
      have hz : rd ((0 : Int), ((0 : Int), (0 : Int))) l (rd (0 : Int) left 0) = pk (rowOf l left) 0 := (pk_row (k := 0) (by omega)).symm
      have hmz : mnj (rowOf l left) (pk (rowOf l left) 0).2.2 left.length = mnj (rowOf l left) 140737488355328 left.length :=
        fold_min_first (g := fun i => (pk (rowOf l left) i).2.2) (hr.2 0 (by omega)).2.2.2 (by omega)
      have e1 := rsurv1 hv (pk (rowOf l left) 0).2.2
      have e2 := rsurv2 hr (l := l) (left := left) (mnj (rowOf l left) 140737488355328 left.length)
      have hw := wst_lt (rowOf l left) (n := left.length) (by omega)
      have hb := halt_bd hr (by omega)
      have hmb := mnj_bd hr (z := 140737488355328) (by decide) (Nat.le_of_eq hrl.symm)
      rw [hrl] at hb e2
      rw [hmz] at e1
      have h1' : 0 ≤ rd (0 : Int) left 0 ∧ rd (0 : Int) left 0 < l.length := h1
      by_cases hh : far (rowOf l left) (wst (rowOf l left) left.length : Int) ≤ mnj (rowOf l left) 140737488355328 left.length * ((left.length : Int) - 1)
      · rw [surv, if_pos h3, if_pos (by unfold halt; rw [hrl]; exact hh)]
        simp (disch := omega) only [smallI_t, inB_t, cutB_t, wrap64, dec_t, dec_f, dec_not, dec_and, dec_or, cond_ite, cond_true, cond_false, Option.bind_some, Option.bind_none, Bool.or_true, Bool.true_or, Bool.and_true, Bool.true_and, Bool.and_false, Bool.false_and, Bool.or_false, Bool.false_or, Bool.not_true, Bool.not_false, Bool.or_self, Bool.and_self, Bool.not_not, if_true, if_false, and_self, true_and, and_true, and_false, false_and, or_true, true_or, or_false, false_or, not_true_eq_false, not_false_eq_true, decide_true, decide_false, eq_self, if_pos, if_neg, mx_eq, mn_eq, pendulumref30_Survivors.b3, hz, e1, e2, rfar_eq hr, hrl]
      · rw [surv, if_pos h3, if_neg (by unfold halt; rw [hrl]; exact hh)]
        generalize wst (rowOf l left) left.length = w at *
        have hdl := dropAt_length hw
        have hd : left.take w ++ left.drop (w + 1) = dropAt left w := rfl
        simp (disch := omega) only [smallI_t, inB_t, cutB_t, wrap64, dec_t, dec_f, dec_not, dec_and, dec_or, cond_ite, cond_true, cond_false, Option.bind_some, Option.bind_none, Bool.or_true, Bool.true_or, Bool.and_true, Bool.true_and, Bool.and_false, Bool.false_and, Bool.or_false, Bool.false_or, Bool.not_true, Bool.not_false, Bool.or_self, Bool.and_self, Bool.not_not, if_true, if_false, and_self, true_and, and_true, and_false, false_and, or_true, true_or, or_false, false_or, not_true_eq_false, not_false_eq_true, decide_true, decide_false, eq_self, if_pos, if_neg, mx_eq, mn_eq, pendulumref30_Survivors.b3, hz, e1, e2, rfar_eq hr, hrl, cut_take, cut_drop, List.length_take, List.length_drop, hd]
        exact ih (dropAt left w) (by omega) (valid_drop hv hw)
    · rw [surv, if_neg h3]
      simp (disch := omega) only [smallI_t, inB_t, cutB_t, wrap64, dec_t, dec_f, dec_not, dec_and, dec_or, cond_ite, cond_true, cond_false, Option.bind_some, Option.bind_none, Bool.or_true, Bool.true_or, Bool.and_true, Bool.true_and, Bool.and_false, Bool.false_and, Bool.or_false, Bool.false_or, Bool.not_true, Bool.not_false, Bool.or_self, Bool.and_self, Bool.not_not, if_true, if_false, and_self, true_and, and_true, and_false, false_and, or_true, true_or, or_false, false_or, not_true_eq_false, not_false_eq_true, decide_true, decide_false, eq_self, if_pos, if_neg, mx_eq, mn_eq, pendulumref30_Survivors.b3]
def idx (n : Nat) : List Int := (List.range n).map fun i : Nat => (i : Int)
theorem idx_succ (n : Nat) : idx (n + 1) = idx n ++ [(n : Int)] := by
  unfold idx; rw [List.range_succ, List.map_append]; rfl
theorem idx_length (n : Nat) : (idx n).length = n := by unfold idx; rw [List.length_map, List.length_range]
theorem idx_mem {n : Nat} {x : Int} (h : x ∈ idx n) : 0 ≤ x ∧ x < n := by
  obtain ⟨i, hi, rfl⟩ := List.mem_map.1 h
  have := List.mem_range.1 hi
  omega
theorem idx_row (l : List Peer) : rowOf l (idx l.length) = l := by
  apply List.ext_getElem
  · rw [rowOf_length, idx_length]
  · intro i h1 h2
    simp only [rowOf, idx, List.getElem_map, List.getElem_range]
    exact rd_ix h2
theorem valid_idx {l : List Peer} (h : fitL l) : valid l (idx l.length) := ⟨by rw [idx_length]; exact h.1, fun x hx => idx_mem hx⟩
theorem survivors_eq {l : List Peer} (h : fitL l) : comb_Survivors.run .lim (l, ()) = some (surv l 10 (idx l.length)) := by
  have h10 := h.1
  have step : ∀ k, k < l.length → comb_Survivors.l0 .lim ((l.length : Int), (k : Int), l, idx k, ()) = comb_Survivors.l0 .lim ((l.length : Int), ((k + 1 : Nat) : Int), l, idx (k + 1), ()) := by
    intro k hk
    rw [comb_Survivors.q0, idx_succ]
    have := idx_length k
    simp (disch := omega) only [smallI_t, inB_t, cutB_t, wrap64, dec_t, dec_f, dec_not, dec_and, dec_or, cond_ite, cond_true, cond_false, Option.bind_some, Option.bind_none, Bool.or_true, Bool.true_or, Bool.and_true, Bool.true_and, Bool.and_false, Bool.false_and, Bool.or_false, Bool.false_or, Bool.not_true, Bool.not_false, Bool.or_self, Bool.and_self, Bool.not_not, if_true, if_false, and_self, true_and, and_true, and_false, false_and, or_true, true_or, or_false, false_or, not_true_eq_false, not_false_eq_true, decide_true, decide_false, eq_self, if_pos, if_neg, mx_eq, mn_eq, comb_Survivors.b0, List.length_singleton]
    rfl
  have e0 : comb_Survivors.l0 .lim ((l.length : Int), (0 : Int), l, ([] : List Int), ()) = some (l, idx l.length, ()) := by
    refine (loop_to (fun k : Nat => ((l.length : Int), (k : Int), l, idx k, ())) step).trans ?_
    rw [comb_Survivors.q0]
    simp (disch := omega) only [smallI_t, inB_t, cutB_t, wrap64, dec_t, dec_f, dec_not, dec_and, dec_or, cond_ite, cond_true, cond_false, Option.bind_some, Option.bind_none, Bool.or_true, Bool.true_or, Bool.and_true, Bool.true_and, Bool.and_false, Bool.false_and, Bool.or_false, Bool.false_or, Bool.not_true, Bool.not_false, Bool.or_self, Bool.and_self, Bool.not_not, if_true, if_false, and_self, true_and, and_true, and_false, false_and, or_true, true_or, or_false, false_or, not_true_eq_false, not_false_eq_true, decide_true, decide_false, eq_self, if_pos, if_neg, mx_eq, mn_eq, comb_Survivors.b0]
  have hl := idx_length l.length
  obtain ⟨k, m', e1, hk⟩ := survP h 10 (idx l.length) l.length l.length l (idx l.length) (by omega) (valid_idx h) (by rw [hl]) (by rw [hl])
    (by rw [hl, idx_row, List.take_of_length_le (Nat.le_refl _)]) (by rw [List.take_of_length_le (Nat.le_refl _)]) (by omega) (by omega) (by omega) (by omega)
  simp (disch := omega) only [smallI_t, inB_t, cutB_t, wrap64, dec_t, dec_f, dec_not, dec_and, dec_or, cond_ite, cond_true, cond_false, Option.bind_some, Option.bind_none, Bool.or_true, Bool.true_or, Bool.and_true, Bool.true_and, Bool.and_false, Bool.false_and, Bool.or_false, Bool.false_or, Bool.not_true, Bool.not_false, Bool.or_self, Bool.and_self, Bool.not_not, if_true, if_false, and_self, true_and, and_true, and_false, false_and, or_true, true_or, or_false, false_or, not_true_eq_false, not_false_eq_true, decide_true, decide_false, eq_self, if_pos, if_neg, mx_eq, mn_eq, comb_Survivors.run, slices_Clone_api_Peer_api_Peer.run, List.length_nil, List.nil_append, e0, hl, e1, hk]
theorem rsurvivors_eq {l : List Peer} (h : fitL l) : pendulumref30_Survivors.run .lim (l, ()) = some (surv l 10 (idx l.length)) := by
  have h10 := h.1
  have step : ∀ k, k < l.length → pendulumref30_Survivors.l0 .lim (l, (k : Int), idx k, ()) = pendulumref30_Survivors.l0 .lim (l, ((k + 1 : Nat) : Int), idx (k + 1), ()) := by
    intro k hk
    rw [pendulumref30_Survivors.q0, idx_succ]
    have := idx_length k
    simp (disch := omega) only [smallI_t, inB_t, cutB_t, wrap64, dec_t, dec_f, dec_not, dec_and, dec_or, cond_ite, cond_true, cond_false, Option.bind_some, Option.bind_none, Bool.or_true, Bool.true_or, Bool.and_true, Bool.true_and, Bool.and_false, Bool.false_and, Bool.or_false, Bool.false_or, Bool.not_true, Bool.not_false, Bool.or_self, Bool.and_self, Bool.not_not, if_true, if_false, and_self, true_and, and_true, and_false, false_and, or_true, true_or, or_false, false_or, not_true_eq_false, not_false_eq_true, decide_true, decide_false, eq_self, if_pos, if_neg, mx_eq, mn_eq, pendulumref30_Survivors.b0, List.length_singleton]
    rfl
  have e0 : pendulumref30_Survivors.l0 .lim (l, (0 : Int), ([] : List Int), ()) = some (l, idx l.length, ()) := by
    refine (loop_to (fun k : Nat => (l, (k : Int), idx k, ())) step).trans ?_
    rw [pendulumref30_Survivors.q0]
    simp (disch := omega) only [smallI_t, inB_t, cutB_t, wrap64, dec_t, dec_f, dec_not, dec_and, dec_or, cond_ite, cond_true, cond_false, Option.bind_some, Option.bind_none, Bool.or_true, Bool.true_or, Bool.and_true, Bool.true_and, Bool.and_false, Bool.false_and, Bool.or_false, Bool.false_or, Bool.not_true, Bool.not_false, Bool.or_self, Bool.and_self, Bool.not_not, if_true, if_false, and_self, true_and, and_true, and_false, false_and, or_true, true_or, or_false, false_or, not_true_eq_false, not_false_eq_true, decide_true, decide_false, eq_self, if_pos, if_neg, mx_eq, mn_eq, pendulumref30_Survivors.b0]
  have hl := idx_length l.length
  simp (disch := omega) only [smallI_t, inB_t, cutB_t, wrap64, dec_t, dec_f, dec_not, dec_and, dec_or, cond_ite, cond_true, cond_false, Option.bind_some, Option.bind_none, Bool.or_true, Bool.true_or, Bool.and_true, Bool.true_and, Bool.and_false, Bool.false_and, Bool.or_false, Bool.false_or, Bool.not_true, Bool.not_false, Bool.or_self, Bool.and_self, Bool.not_not, if_true, if_false, and_self, true_and, and_true, and_false, false_and, or_true, true_or, or_false, false_or, not_true_eq_false, not_false_eq_true, decide_true, decide_false, eq_self, if_pos, if_neg, mx_eq, mn_eq, pendulumref30_Survivors.run, e0, survR h 10 (idx l.length) (by omega) (valid_idx h)]
theorem ints_self (a : List Int) (ha : a.length ≤ 10) : pendulumlaw30_ints.run .lim (a, a, ()) = some true := by
  have step : ∀ k, k < a.length → pendulumlaw30_ints.l0 .lim (a, a, (a.length : Int), (k : Int), ()) = pendulumlaw30_ints.l0 .lim (a, a, (a.length : Int), ((k + 1 : Nat) : Int), ()) := by
    intro k hk
    rw [pendulumlaw30_ints.q0]
    simp (disch := omega) only [smallI_t, inB_t, cutB_t, wrap64, dec_t, dec_f, dec_not, dec_and, dec_or, cond_ite, cond_true, cond_false, Option.bind_some, Option.bind_none, Bool.or_true, Bool.true_or, Bool.and_true, Bool.true_and, Bool.and_false, Bool.false_and, Bool.or_false, Bool.false_or, Bool.not_true, Bool.not_false, Bool.or_self, Bool.and_self, Bool.not_not, if_true, if_false, and_self, true_and, and_true, and_false, false_and, or_true, true_or, or_false, false_or, not_true_eq_false, not_false_eq_true, decide_true, decide_false, eq_self, if_pos, if_neg, mx_eq, mn_eq, pendulumlaw30_ints.b0]
    rfl
  have e0 : pendulumlaw30_ints.l0 .lim (a, a, (a.length : Int), (0 : Int), ()) = some (.inr ()) := by
    refine (loop_to (fun k : Nat => (a, a, (a.length : Int), (k : Int), ())) step).trans ?_
    rw [pendulumlaw30_ints.q0]
    simp (disch := omega) only [smallI_t, inB_t, cutB_t, wrap64, dec_t, dec_f, dec_not, dec_and, dec_or, cond_ite, cond_true, cond_false, Option.bind_some, Option.bind_none, Bool.or_true, Bool.true_or, Bool.and_true, Bool.true_and, Bool.and_false, Bool.false_and, Bool.or_false, Bool.false_or, Bool.not_true, Bool.not_false, Bool.or_self, Bool.and_self, Bool.not_not, if_true, if_false, and_self, true_and, and_true, and_false, false_and, or_true, true_or, or_false, false_or, not_true_eq_false, not_false_eq_true, decide_true, decide_false, eq_self, if_pos, if_neg, mx_eq, mn_eq, pendulumlaw30_ints.b0]
  simp (disch := omega) only [smallI_t, inB_t, cutB_t, wrap64, dec_t, dec_f, dec_not, dec_and, dec_or, cond_ite, cond_true, cond_false, Option.bind_some, Option.bind_none, Bool.or_true, Bool.true_or, Bool.and_true, Bool.true_and, Bool.and_false, Bool.false_and, Bool.or_false, Bool.false_or, Bool.not_true, Bool.not_false, Bool.or_self, Bool.and_self, Bool.not_not, if_true, if_false, and_self, true_and, and_true, and_false, false_and, or_true, true_or, or_false, false_or, not_true_eq_false, not_false_eq_true, decide_true, decide_false, eq_self, if_pos, if_neg, mx_eq, mn_eq, pendulumlaw30_ints.run, e0]
theorem surv_len (l : List Peer) : ∀ (fuel : Nat) (left : List Int), (surv l fuel left).length ≤ left.length := by
  intro fuel
  induction fuel with
  | zero => intro left; exact Nat.le_refl _
  | succ fuel ih =>
    intro left
    rw [surv]
    split
    · split
      · exact Nat.le_refl _
      · have h1 := ih (dropAt left (wst (rowOf l left) left.length))
        have h2 := dropAt_length (wst_lt (rowOf l left) (n := left.length) (by omega))
        omega
    · exact Nat.le_refl _
theorem left_true (l : List Peer) (hl : l.length ≤ 9223372036854775807) : pendulumlaw30_CombLeft.run .lim (l, ()) = some true := by
  rcases fit_eq l hl with h | ⟨h1, h⟩
  · simp (disch := omega) only [smallI_t, inB_t, cutB_t, wrap64, dec_t, dec_f, dec_not, dec_and, dec_or, cond_ite, cond_true, cond_false, Option.bind_some, Option.bind_none, Bool.or_true, Bool.true_or, Bool.and_true, Bool.true_and, Bool.and_false, Bool.false_and, Bool.or_false, Bool.false_or, Bool.not_true, Bool.not_false, Bool.or_self, Bool.and_self, Bool.not_not, if_true, if_false, and_self, true_and, and_true, and_false, false_and, or_true, true_or, or_false, false_or, not_true_eq_false, not_false_eq_true, decide_true, decide_false, eq_self, if_pos, if_neg, mx_eq, mn_eq, pendulumlaw30_CombLeft.run, h]
  · have h10 := h.1
    have h2 := surv_len l 10 (idx l.length)
    rw [idx_length] at h2
    simp (disch := omega) only [smallI_t, inB_t, cutB_t, wrap64, dec_t, dec_f, dec_not, dec_and, dec_or, cond_ite, cond_true, cond_false, Option.bind_some, Option.bind_none, Bool.or_true, Bool.true_or, Bool.and_true, Bool.true_and, Bool.and_false, Bool.false_and, Bool.or_false, Bool.false_or, Bool.not_true, Bool.not_false, Bool.or_self, Bool.and_self, Bool.not_not, if_true, if_false, and_self, true_and, and_true, and_false, false_and, or_true, true_or, or_false, false_or, not_true_eq_false, not_false_eq_true, decide_true, decide_false, eq_self, if_pos, if_neg, mx_eq, mn_eq, pendulumlaw30_CombLeft.run, h1, survivors_eq h, rsurvivors_eq h, ints_self _ (Nat.le_trans h2 h10)]
theorem left_ok : ∀ x, oks [.one (.lst (.pair (.int .i64) (.pair (.int .i64) (.int .i64))))] x → pendulumlaw30_CombLeft.run .lim x = some true := by
  intro x h
  match x with
  | (l, ()) => exact left_true l h.1.1
end Go.AM
end

section
namespace Go.AM
theorem dropAt_sub {α : Type} (xs : List α) (w : Nat) : (dropAt xs w).Sublist xs := by
  unfold dropAt
  have := List.Sublist.append (List.Sublist.refl (xs.take w)) (List.drop_sublist_drop_left xs (Nat.le_succ w))
  rwa [List.take_append_drop] at this
theorem surv_sub (l : List Peer) : ∀ (fuel : Nat) (left : List Int), (surv l fuel left).Sublist left := by
  intro fuel
  induction fuel with
  | zero => intro left; exact .refl _
  | succ fuel ih =>
    intro left
    rw [surv]
    split
    · split
      · exact .refl _
      · exact (ih _).trans (dropAt_sub _ _)
    · exact .refl _
theorem surv_min (l : List Peer) : ∀ (fuel : Nat) (left : List Int), min left.length 3 ≤ (surv l fuel left).length := by
  intro fuel
  induction fuel with
  | zero => intro left; rw [surv]; omega
  | succ fuel ih =>
    intro left
    rw [surv]
    split
    · split
      · omega
      · have h1 := ih (dropAt left (wst (rowOf l left) left.length))
        have h2 := dropAt_length (wst_lt (rowOf l left) (n := left.length) (by omega))
        omega
    · omega
theorem idx_lt (n : Nat) : (idx n).Pairwise (· < ·) := by
  induction n with
  | zero => exact .nil
  | succ n ih =>
    rw [idx_succ, List.pairwise_append]
    refine ⟨ih, List.pairwise_singleton _ _, fun a ha b hb => ?_⟩
    have := idx_mem ha
    rw [List.mem_singleton.1 hb]; omega
theorem idx_ix {n i : Nat} (h : i < (idx n).length) : (idx n)[i] = (i : Int) := by
  simp only [idx, List.getElem_map, List.getElem_range]
theorem idx_drop {n w : Nat} (hw : w < n) : (w : Int) ∉ dropAt (idx n) w := by
  intro h
  unfold dropAt at h
  rcases List.mem_append.1 h with h | h
  · obtain ⟨i, hi, e⟩ := List.mem_iff_getElem.1 h
    rw [List.getElem_take, idx_ix] at e
    rw [List.length_take] at hi
    omega
  · obtain ⟨i, hi, e⟩ := List.mem_iff_getElem.1 h
    rw [List.getElem_drop, idx_ix] at e
    omega
theorem wst_max (R : List Peer) (n : Nat) : ∀ k, k < n → far R (k : Int) ≤ far R (wst R n : Int) := by
  induction n with
  | zero => intro k hk; omega
  | succ n ih =>
    intro k hk
    rw [wst]
    split
    · rename_i hc
      by_cases h : k = n
      · subst h; exact Int.le_refl _
      · have := ih k (by omega); omega
    · rename_i hc
      by_cases h : k = n
      · subst h; omega
      · exact ih k (by omega)
def mxf (l : List Peer) (k : Nat) : Int := fold (fun r i => max r (far l (i : Int))) 0 k
theorem mxf_succ (l : List Peer) (k : Nat) : mxf l (k + 1) = max (mxf l k) (far l (k : Int)) := rfl
theorem mxf_bd {l : List Peer} (h : fitL l) (k : Nat) : 0 ≤ mxf l k ∧ mxf l k ≤ 20000000000000000 := by
  induction k with
  | zero => show (0 : Int) ≤ 0 ∧ (0 : Int) ≤ _; omega
  | succ k ih => rw [mxf_succ]; have := far_bd h (k : Int); omega
theorem mxf_wst {l : List Peer} (h : fitL l) {n : Nat} (hn : 0 < n) : mxf l n = far l (wst l n : Int) := by
  have h1 := wst_max l n
  have h0 := far_bd h (wst l n : Int)
  have h2 : mxf l n ≤ far l (wst l n : Int) := by
    have key : ∀ k, k ≤ n → mxf l k ≤ far l (wst l n : Int) := by
      intro k
      induction k with
      | zero => intro _; exact h0.1
      | succ k ih => intro hk; rw [mxf_succ]; have := ih (by omega); have := h1 k (by omega); omega
    exact key n (Nat.le_refl _)
  have h3 : ∀ k m : Nat, k < m → far l (k : Int) ≤ mxf l m := by
    intro k m
    induction m with
    | zero => intro hk; omega
    | succ m ih =>
      intro hk
      rw [mxf_succ]
      by_cases e : k = m
      · subst e; omega
      · have := ih (by omega); omega
  have := h3 _ _ (wst_lt l hn)
  omega
def outB (s : List Int) (k : Int) (j : Nat) : Bool := fold (fun o i => o && !decide (rd (0 : Int) s (i : Int) = k)) true j
theorem outB_succ (s : List Int) (k : Int) (j : Nat) : outB s k (j + 1) = (outB s k j && !decide (rd (0 : Int) s (j : Int) = k)) := rfl
theorem outB_t {s : List Int} {k : Int} (h : k ∉ s) : ∀ j, j ≤ s.length → outB s k j = true := by
  intro j
  induction j with
  | zero => intro _; rfl
  | succ j ih =>
    intro hj
    rw [outB_succ, ih (by omega), Bool.true_and]
    have hm : rd (0 : Int) s (j : Int) ∈ s := rd_mem (by omega) (by omega)
    have : rd (0 : Int) s (j : Int) ≠ k := fun e => h (e ▸ hm)
    rw [decide_eq_false this]; rfl
theorem far2 {l : List Peer} {s : List Int} (hs : s.length ≤ 10) (W k t t1 : Int) :
    pendulumlaw30_CombFar.l2 .lim (l, s, W, k, true, t, t1, s, (s.length : Int), (0 : Int), ()) = some (l, s, W, k, outB s k s.length, t, t1, ()) := by
  have step : ∀ j, j < s.length → pendulumlaw30_CombFar.l2 .lim (l, s, W, k, outB s k j, t, t1, s, (s.length : Int), (j : Int), ()) = pendulumlaw30_CombFar.l2 .lim (l, s, W, k, outB s k (j + 1), t, t1, s, (s.length : Int), ((j + 1 : Nat) : Int), ()) := by
    intro j hj
    rw [pendulumlaw30_CombFar.q2, outB_succ]
    have h1 := inB_t (i := (j : Int)) (n := (s.length : Int)) (by omega) (by omega)
    simp only [pendulumlaw30_CombFar.b2, h1, decide_eq_true (show (j : Int) < (s.length : Int) by omega), cond_true, wrap64 (n := (j : Int) + 1) (by omega) (by omega)]
    rfl
  refine (loop_to (fun j : Nat => (l, s, W, k, outB s k j, t, t1, s, (s.length : Int), (j : Int), ())) step).trans ?_
  rw [pendulumlaw30_CombFar.q2]
  simp (disch := omega) only [smallI_t, inB_t, cutB_t, wrap64, dec_t, dec_f, dec_not, dec_and, dec_or, cond_ite, cond_true, cond_false, Option.bind_some, Option.bind_none, Bool.or_true, Bool.true_or, Bool.and_true, Bool.true_and, Bool.and_false, Bool.false_and, Bool.or_false, Bool.false_or, Bool.not_true, Bool.not_false, Bool.or_self, Bool.and_self, Bool.not_not, if_true, if_false, and_self, true_and, and_true, and_false, false_and, or_true, true_or, or_false, false_or, not_true_eq_false, not_false_eq_true, decide_true, decide_false, eq_self, if_pos, if_neg, mx_eq, mn_eq, pendulumlaw30_CombFar.b2]
theorem far1 {l : List Peer} (h : fitL l) (s : List Int) : pendulumlaw30_CombFar.l1 .lim (l, s, (0 : Int), (l.length : Int), (0 : Int), ()) = some (l, s, mxf l l.length, ()) := by
  have h10 := h.1
  have step : ∀ j, j < l.length → pendulumlaw30_CombFar.l1 .lim (l, s, mxf l j, (l.length : Int), (j : Int), ()) = pendulumlaw30_CombFar.l1 .lim (l, s, mxf l (j + 1), (l.length : Int), ((j + 1 : Nat) : Int), ()) := by
    intro j hj
    rw [pendulumlaw30_CombFar.q1, mxf_succ]
    simp (disch := omega) only [smallI_t, inB_t, cutB_t, wrap64, dec_t, dec_f, dec_not, dec_and, dec_or, cond_ite, cond_true, cond_false, Option.bind_some, Option.bind_none, Bool.or_true, Bool.true_or, Bool.and_true, Bool.true_and, Bool.and_false, Bool.false_and, Bool.or_false, Bool.false_or, Bool.not_true, Bool.not_false, Bool.or_self, Bool.and_self, Bool.not_not, if_true, if_false, and_self, true_and, and_true, and_false, false_and, or_true, true_or, or_false, false_or, not_true_eq_false, not_false_eq_true, decide_true, decide_false, eq_self, if_pos, if_neg, mx_eq, mn_eq, pendulumlaw30_CombFar.b1, far_eq h]
    rfl
  refine (loop_to (fun j : Nat => (l, s, mxf l j, (l.length : Int), (j : Int), ())) step).trans ?_
  rw [pendulumlaw30_CombFar.q1]
  simp (disch := omega) only [smallI_t, inB_t, cutB_t, wrap64, dec_t, dec_f, dec_not, dec_and, dec_or, cond_ite, cond_true, cond_false, Option.bind_some, Option.bind_none, Bool.or_true, Bool.true_or, Bool.and_true, Bool.true_and, Bool.and_false, Bool.false_and, Bool.or_false, Bool.false_or, Bool.not_true, Bool.not_false, Bool.or_self, Bool.and_self, Bool.not_not, if_true, if_false, and_self, true_and, and_true, and_false, false_and, or_true, true_or, or_false, false_or, not_true_eq_false, not_false_eq_true, decide_true, decide_false, eq_self, if_pos, if_neg, mx_eq, mn_eq, pendulumlaw30_CombFar.b1]
theorem far3 {l : List Peer} (h : fitL l) {s : List Int} (hs : s.length ≤ 10) {w : Nat} (hw : w < l.length) (hws : (w : Int) ∉ s) {W : Int} (hW : far l (w : Int) = W) :
    pendulumlaw30_CombFar.l3 .lim (l, s, W, (l.length : Int), (0 : Int), ()) = some (.inl (true, ())) := by
  have h10 := h.1
  have step : ∀ j, j < l.length → pendulumlaw30_CombFar.l3 .lim (l, s, W, (l.length : Int), (j : Int), ()) = bif outB s (j : Int) s.length && decide (far l (j : Int) = W) then some (.inl (true, ())) else pendulumlaw30_CombFar.l3 .lim (l, s, W, (l.length : Int), ((j + 1 : Nat) : Int), ()) := by
    intro j hj
    rw [pendulumlaw30_CombFar.q3]
    cases ho : outB s (j : Int) s.length with
    | false =>
      simp (disch := omega) only [smallI_t, inB_t, cutB_t, wrap64, dec_t, dec_f, dec_not, dec_and, dec_or, cond_ite, cond_true, cond_false, Option.bind_some, Option.bind_none, Bool.or_true, Bool.true_or, Bool.and_true, Bool.true_and, Bool.and_false, Bool.false_and, Bool.or_false, Bool.false_or, Bool.not_true, Bool.not_false, Bool.or_self, Bool.and_self, Bool.not_not, if_true, if_false, and_self, true_and, and_true, and_false, false_and, or_true, true_or, or_false, false_or, not_true_eq_false, not_false_eq_true, decide_true, decide_false, eq_self, if_pos, if_neg, mx_eq, mn_eq, pendulumlaw30_CombFar.b3, far2 hs, ho, far_eq h]
      rfl
    | true =>
      by_cases hf : far l (j : Int) = W
      · simp (disch := omega) only [smallI_t, inB_t, cutB_t, wrap64, dec_t, dec_f, dec_not, dec_and, dec_or, cond_ite, cond_true, cond_false, Option.bind_some, Option.bind_none, Bool.or_true, Bool.true_or, Bool.and_true, Bool.true_and, Bool.and_false, Bool.false_and, Bool.or_false, Bool.false_or, Bool.not_true, Bool.not_false, Bool.or_self, Bool.and_self, Bool.not_not, if_true, if_false, and_self, true_and, and_true, and_false, false_and, or_true, true_or, or_false, false_or, not_true_eq_false, not_false_eq_true, decide_true, decide_false, eq_self, if_pos, if_neg, mx_eq, mn_eq, pendulumlaw30_CombFar.b3, far2 hs, ho, far_eq h]
      · simp (disch := omega) only [smallI_t, inB_t, cutB_t, wrap64, dec_t, dec_f, dec_not, dec_and, dec_or, cond_ite, cond_true, cond_false, Option.bind_some, Option.bind_none, Bool.or_true, Bool.true_or, Bool.and_true, Bool.true_and, Bool.and_false, Bool.false_and, Bool.or_false, Bool.false_or, Bool.not_true, Bool.not_false, Bool.or_self, Bool.and_self, Bool.not_not, if_true, if_false, and_self, true_and, and_true, and_false, false_and, or_true, true_or, or_false, false_or, not_true_eq_false, not_false_eq_true, decide_true, decide_false, eq_self, if_pos, if_neg, mx_eq, mn_eq, pendulumlaw30_CombFar.b3, far2 hs, ho, far_eq h]
        rfl
  rcases loop_or (fun j : Nat => (l, s, W, (l.length : Int), (j : Int), ())) step with ⟨-, h2⟩ | ⟨k, hk, h1, h2, h3⟩
  · have := h2 w hw
    rw [outB_t hws _ (Nat.le_refl _), hW] at this
    simp at this
  · exact h3
theorem far0 {l : List Peer} (h : fitL l) {s : List Int} (hs : s.length ≤ 10) (hv : ∀ x ∈ s, 0 ≤ x ∧ x < l.length) (hp : s.Pairwise (· < ·)) :
    pendulumlaw30_CombFar.l0 .lim (l, s, s, (s.length : Int), (0 : Int), ()) = some (.inr (l, s, ())) := by
  have h10 := h.1
  have step : ∀ j, j < s.length → pendulumlaw30_CombFar.l0 .lim (l, s, s, (s.length : Int), (j : Int), ()) = pendulumlaw30_CombFar.l0 .lim (l, s, s, (s.length : Int), ((j + 1 : Nat) : Int), ()) := by
    intro j hj
    rw [pendulumlaw30_CombFar.q0]
    have h1 := hv (rd (0 : Int) s (j : Int)) (rd_mem (by omega) (by omega))
    by_cases hj0 : j = 0
    · simp (disch := omega) only [smallI_t, inB_t, cutB_t, wrap64, dec_t, dec_f, dec_not, dec_and, dec_or, cond_ite, cond_true, cond_false, Option.bind_some, Option.bind_none, Bool.or_true, Bool.true_or, Bool.and_true, Bool.true_and, Bool.and_false, Bool.false_and, Bool.or_false, Bool.false_or, Bool.not_true, Bool.not_false, Bool.or_self, Bool.and_self, Bool.not_not, if_true, if_false, and_self, true_and, and_true, and_false, false_and, or_true, true_or, or_false, false_or, not_true_eq_false, not_false_eq_true, decide_true, decide_false, eq_self, if_pos, if_neg, mx_eq, mn_eq, pendulumlaw30_CombFar.b0]
      rfl
    · have h2 : rd (0 : Int) s ((j : Int) - 1) < rd (0 : Int) s (j : Int) := by
        rw [show (j : Int) - 1 = ((j - 1 : Nat) : Int) by omega, rd_ix (by omega), rd_ix hj]
        exact List.pairwise_iff_getElem.1 hp _ _ _ _ (by omega)
      simp (disch := omega) only [smallI_t, inB_t, cutB_t, wrap64, dec_t, dec_f, dec_not, dec_and, dec_or, cond_ite, cond_true, cond_false, Option.bind_some, Option.bind_none, Bool.or_true, Bool.true_or, Bool.and_true, Bool.true_and, Bool.and_false, Bool.false_and, Bool.or_false, Bool.false_or, Bool.not_true, Bool.not_false, Bool.or_self, Bool.and_self, Bool.not_not, if_true, if_false, and_self, true_and, and_true, and_false, false_and, or_true, true_or, or_false, false_or, not_true_eq_false, not_false_eq_true, decide_true, decide_false, eq_self, if_pos, if_neg, mx_eq, mn_eq, pendulumlaw30_CombFar.b0]
      rfl
  refine (loop_to (fun j : Nat => (l, s, s, (s.length : Int), (j : Int), ())) step).trans ?_
  rw [pendulumlaw30_CombFar.q0]
  simp (disch := omega) only [smallI_t, inB_t, cutB_t, wrap64, dec_t, dec_f, dec_not, dec_and, dec_or, cond_ite, cond_true, cond_false, Option.bind_some, Option.bind_none, Bool.or_true, Bool.true_or, Bool.and_true, Bool.true_and, Bool.and_false, Bool.false_and, Bool.or_false, Bool.false_or, Bool.not_true, Bool.not_false, Bool.or_self, Bool.and_self, Bool.not_not, if_true, if_false, and_self, true_and, and_true, and_false, false_and, or_true, true_or, or_false, false_or, not_true_eq_false, not_false_eq_true, decide_true, decide_false, eq_self, if_pos, if_neg, mx_eq, mn_eq, pendulumlaw30_CombFar.b0]
theorem combfar_true (l : List Peer) (hl : l.length ≤ 9223372036854775807) : pendulumlaw30_CombFar.run .lim (l, ()) = some true := by
  rcases fit_eq l hl with h | ⟨h1, h⟩
  · simp (disch := omega) only [smallI_t, inB_t, cutB_t, wrap64, dec_t, dec_f, dec_not, dec_and, dec_or, cond_ite, cond_true, cond_false, Option.bind_some, Option.bind_none, Bool.or_true, Bool.true_or, Bool.and_true, Bool.true_and, Bool.and_false, Bool.false_and, Bool.or_false, Bool.false_or, Bool.not_true, Bool.not_false, Bool.or_self, Bool.and_self, Bool.not_not, if_true, if_false, and_self, true_and, and_true, and_false, false_and, or_true, true_or, or_false, false_or, not_true_eq_false, not_false_eq_true, decide_true, decide_false, eq_self, if_pos, if_neg, mx_eq, mn_eq, pendulumlaw30_CombFar.run, h]
  · have h10 := h.1
    have h2 := surv_len l 10 (idx l.length)
    have h3 := surv_min l 10 (idx l.length)
    have hsub := surv_sub l 10 (idx l.length)
    have hq : ∀ s, s = surv l 10 (idx l.length) → s.length ≠ l.length → 3 < l.length ∧ (wst l l.length : Int) ∉ s := by
      intro s hs hne
      subst hs
      rw [surv, idx_length] at hne ⊢
      by_cases h3 : 3 < l.length
      · rw [if_pos h3] at hne ⊢
        by_cases hh : halt (rowOf l (idx l.length))
        · rw [if_pos hh, idx_length] at hne; exact absurd rfl hne
        · rw [if_neg hh, idx_row]
          refine ⟨h3, fun hm => ?_⟩
          exact idx_drop (wst_lt l (by omega)) ((surv_sub l 9 _).subset hm)
      · rw [if_neg h3, idx_length] at hne; exact absurd rfl hne
    rw [idx_length] at h2 h3
    have hse := survivors_eq h
    generalize surv l 10 (idx l.length) = s at *
    have hq := hq s rfl
    have hf0 := far0 h (s := s) (by omega) (fun x hx => idx_mem (hsub.subset hx)) ((idx_lt l.length).sublist hsub)
    by_cases he : s.length = l.length
    · simp (disch := omega) only [smallI_t, inB_t, cutB_t, wrap64, dec_t, dec_f, dec_not, dec_and, dec_or, cond_ite, cond_true, cond_false, Option.bind_some, Option.bind_none, Bool.or_true, Bool.true_or, Bool.and_true, Bool.true_and, Bool.and_false, Bool.false_and, Bool.or_false, Bool.false_or, Bool.not_true, Bool.not_false, Bool.or_self, Bool.and_self, Bool.not_not, if_true, if_false, and_self, true_and, and_true, and_false, false_and, or_true, true_or, or_false, false_or, not_true_eq_false, not_false_eq_true, decide_true, decide_false, eq_self, if_pos, if_neg, mx_eq, mn_eq, pendulumlaw30_CombFar.run, h1, hse, hf0, far1 h]
    · have hq := hq he
      have hf3 := far3 h (s := s) (by omega) (wst_lt l (n := l.length) (by omega)) hq.2 (mxf_wst h (n := l.length) (by omega)).symm
      simp (disch := omega) only [smallI_t, inB_t, cutB_t, wrap64, dec_t, dec_f, dec_not, dec_and, dec_or, cond_ite, cond_true, cond_false, Option.bind_some, Option.bind_none, Bool.or_true, Bool.true_or, Bool.and_true, Bool.true_and, Bool.and_false, Bool.false_and, Bool.or_false, Bool.false_or, Bool.not_true, Bool.not_false, Bool.or_self, Bool.and_self, Bool.not_not, if_true, if_false, and_self, true_and, and_true, and_false, false_and, or_true, true_or, or_false, false_or, not_true_eq_false, not_false_eq_true, decide_true, decide_false, eq_self, if_pos, if_neg, mx_eq, mn_eq, pendulumlaw30_CombFar.run, h1, hse, hf0, far1 h, hf3]
theorem combfar_ok : ∀ x, oks [.one (.lst (.pair (.int .i64) (.pair (.int .i64) (.int .i64))))] x → pendulumlaw30_CombFar.run .lim x = some true := by
  intro x h
  match x with
  | (l, ()) => exact combfar_true l h.1.1
end Go.AM
end

section
namespace Go.Proofs.Ytbkblmaplmbicaa.combFar
open Go.ChangeShapes Go.WideShapes Go.ChangeAt Go.RowKit
set_option linter.unusedVariables false
theorem own : ownKnob Try.prog.godebug = none := by kernel_rfl
theorem laidOut : laidOutB Try.prog = true := by kernel_rfl
set_option maxRecDepth 100000 in
theorem lifted (os : Os) (started : os.Started) (H : Type) (enc : TypeId × Value → H) :
    ReturnsInHanded {} Try.checked os 6 .any (Rows.combFarSpec.pre6 enc Try.prog Try.f6 Rows.combFarRow.domain false) (Rows.combFarSpec.post enc Try.prog Try.f6 false true false false) := by
  refine returnsInHanded_of_change_sized (C := Try.checked) own started (by kernel_rfl) Try.func6
    (ChangeSpec.witness6 (enc := enc) (C := Try.checked) false ⟨#[], #[.slice none 0 0], []⟩ 8 (by kernel_rfl) (by kernel_rfl) (by kernel_rfl) (by kernel_rfl)) ?_
  intro W base args ds gs before hval hW _ _ _
  exact Go.AM.law_contract (enc := enc) laidOut (Go.AM.pendulumlaw30_CombFar.ok .lim) (by kernel_rfl) (by rfl) (by kernel_rfl) rfl (by kernel_rfl) rfl (fun ds h => by match ds, h with | [a], _ => rfl) Go.AM.combfar_ok W base args ds gs before hval hW
theorem over : Rows.combFarRow.holds Try.pinned (OpenSpec.ofChange Rows.combFarSpec) :=
  OpenClaim.holds_of_wide 6 Try.f6 rfl rfl rfl rfl rfl rfl rfl ⟨rfl, rfl, rfl, rfl, rfl⟩ rfl rfl rfl rfl rfl (by kernel_rfl) Try.func6 (by kernel_rfl)
    (of_decide_eq_true (by kernel_rfl)) (by unfold Func.isWrapper; first | (rw [if_pos (by decide +kernel)]; kernel_rfl) | (rw [if_neg (by decide +kernel)]; exact ⟨rfl, rfl⟩))
    (fun os started H enc _ => lifted os started H enc)
theorem proved : Rows.CombFarSaid := over
end Go.Proofs.Ytbkblmaplmbicaa.combFar
namespace Go.Proofs.Ytbkblmaplmbicaa
/-- The row, under a short name, for the claim. -/
theorem combFar_holds : Rows.CombFarSaid := combFar.proved
end Go.Proofs.Ytbkblmaplmbicaa
end
