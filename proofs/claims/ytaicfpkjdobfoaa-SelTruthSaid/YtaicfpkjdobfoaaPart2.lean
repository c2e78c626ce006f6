import Derived.Test.YtaicfpkjdobfoaaPart1

/-! The functions that the laws of this seat reach, as plain functions, and what these answer; no condition. -/
set_option linter.unusedSimpArgs false
set_option linter.unusedVariables false

section
namespace Go.AM
open Go.Proofs
set_option maxRecDepth 100000
set_option linter.unusedVariables false
/-! ### pendulum/sel.Most -/
noncomputable def sel_Most.cs (m_ : Mode) : List Callee := [sel_Reach.c m_]
theorem sel_Most.csok (m_ : Mode) : ∀ k ∈ sel_Most.cs m_, k.OK P := all_cons (sel_Reach.ok m_) (all_nil)
def sel_Most.inl : FuncId → Bool := fun f => [21, 28].any (Nat.beq f)
noncomputable def sel_Most.ps (m_ : Mode) : List Proc := [slices_SortFunc_sel_end_sel_end.p m_]
theorem sel_Most.psok (m_ : Mode) : ∀ k ∈ sel_Most.ps m_, k.OK P := all_cons (slices_SortFunc_sel_end_sel_end.pok m_) (all_nil)
def sel_Most.e0 : Spec := ⟨[{ fn := 21, items := [.code [.r, .r, .l, .r, .l, .l], .inLoop [.r, .r, .l, .r, .l, .l], .inBlock 0, .code [.r, .r, .r]], slots := [(3, .own 5000 (.arr 2 (.int .i64))), (8, .dat (.lst (.pair (.int .i64) (.pair (.int .i64) (.int .i64))))), (9, .dat (.int .i64)), (10, .dat (.int .i64))] }, { fn := 14, items := [.inRegion [.r, .r, .r, .l, .l] [1], .code [.r, .r, .r, .l, .r], .code [.r, .r, .r, .r]], slots := [(5, .ptr 3 0), (6, .ptr 4 0), (7, .ptr 7 0), (8, .ptr 8 0), (9, .ptr 9 0)] }], [(3, .cells false [.dat (.int .i64)]), (4, .cells false [.dat (.int .i64)]), (7, .cells false [.dat (.int .i64)]), (8, .cells false [.dat (.int .i64)]), (9, .cells false [.dat .bool]), (5000, .cells false [.row (.arr 2 (.int .i64))])], 5001⟩
def sel_Most.x0 : List Spec := [⟨[{ fn := 21, items := [.code [.r, .r, .r]], slots := [(3, .own 5000 (.arr 2 (.int .i64)))] }, { fn := 14, items := [.inRegion [.r, .r, .r, .l, .l] [1], .code [.r, .r, .r, .l, .r], .code [.r, .r, .r, .r]], slots := [(5, .ptr 3 0), (6, .ptr 4 0), (7, .ptr 7 0), (8, .ptr 8 0), (9, .ptr 9 0)] }], [(3, .cells false [.dat (.int .i64)]), (4, .cells false [.dat (.int .i64)]), (7, .cells false [.dat (.int .i64)]), (8, .cells false [.dat (.int .i64)]), (9, .cells false [.dat .bool]), (5000, .cells false [.row (.arr 2 (.int .i64))])], 5001⟩]
noncomputable def sel_Most.b0 (m_ : Mode) (self : (List (Int × (Int × Int))) × Int × Int × Int × Int × Int × Int × Bool × (List (List Int)) × Unit → Option ((Int × Int × Int × Int × Bool × (List (List Int)) × Unit))) : (List (Int × (Int × Int))) × Int × Int × Int × Int × Int × Int × Bool × (List (List Int)) × Unit → Option ((Int × Int × Int × Int × Bool × (List (List Int)) × Unit)) := fun v_ => match v_ with
| (t, t1, t2, m, m1, m2, m3, m4, m5, ()) =>
  bif decide (t2 < t1) then
    bif inB t2 (t.length : Int) then
    (sel_Reach.run m_ (((rd ((0 : Int), ((0 : Int), (0 : Int))) t t2).1, (((rd ((0 : Int), ((0 : Int), (0 : Int))) t t2).2).1, ((rd ((0 : Int), ((0 : Int), (0 : Int))) t t2).2).2)), ())).bind fun (r, r1, ()) =>
    bif decide (m5.length + ([(((List.replicate 2 (0 : Int) : List Int).set 0 r).set 1 (1 : Int)), (((List.replicate 2 (0 : Int) : List Int).set 0 r1).set 1 (-1 : Int))] : List (List Int)).length < 4398046511104) then self (t, t1, (IntKind.i64.wrap (t2 + (1 : Int))), m, m1, m2, m3, m4, (m5 ++ ([(((List.replicate 2 (0 : Int) : List Int).set 0 r).set 1 (1 : Int)), (((List.replicate 2 (0 : Int) : List Int).set 0 r1).set 1 (-1 : Int))] : List (List Int))), ()) else none
    else none
  else
    some (m, m1, m2, m3, m4, m5, ())
theorem sel_Most.k0 (m_ : Mode) : ∀ (self : Known sel_Most.e0.sls → Option (Exits sel_Most.x0)) (v : Known sel_Most.e0.sls), runS P (both (oras (sel_Most.cs m_)) (procs (sel_Most.ps m_))) sel_Most.inl (⟨sel_Most.e0, self⟩ :: exitCuts sel_Most.x0 id) [] (fun _ _ => none) 20000 false (sel_Most.e0.mk' v) = sel_Most.b0 m_ self v := by
  intro self v_; exact (match v_ with | (t, t1, t2, m, m1, m2, m3, m4, m5, ()) => by kernel_rfl)
noncomputable def sel_Most.l0 (m_ : Mode) : (List (Int × (Int × Int))) × Int × Int × Int × Int × Int × Int × Bool × (List (List Int)) × Unit → Option ((Int × Int × Int × Int × Bool × (List (List Int)) × Unit)) := loop m_ (sel_Most.b0 m_)
theorem sel_Most.q0 (v) : sel_Most.l0 .lim v = sel_Most.b0 .lim (sel_Most.l0 .lim) v := lfp_eq (cont_of_run (sel_Most.k0 .lim)) v
noncomputable def sel_Most.g0 (m_ : Mode) : Seg := ⟨sel_Most.e0, sel_Most.x0, sel_Most.l0 m_⟩
theorem sel_Most.s0 (m_ : Mode) (S0 w0 cs0) : SegGood P S0 w0 cs0 14 (sel_Most.g0 m_) := seg_loop m_ (both_ok (oras_ok (sel_Most.csok m_)) (procs_ok (sel_Most.psok m_))) (all_nil) (by rfl) (fun e he => List.all_eq_true.1 (show sel_Most.x0.all Spec.ok = true by rfl) e he) (sel_Most.k0 m_)
def sel_Most.e1 : Spec := ⟨[{ fn := 33, items := [.code [.r, .l, .l], .inLoop [.r, .l, .l], .inBlock 0], slots := [(0, .fn (.yield 5010) []), (5, .own 5000 (.arr 2 (.int .i64))), (6, .dat (.int .i64)), (7, .dat (.int .i64))] }, { fn := 14, items := [.inRange 5010, .inBlock 0, .code [.r, .r, .r, .r]], slots := [(6, .ptr 4 0), (7, .ptr 7 0), (8, .ptr 8 0)], marks := [5009] }], [(3, .cells false [.dat (.int .i64)]), (4, .cells false [.dat (.int .i64)]), (7, .cells false [.dat (.int .i64)]), (8, .cells false [.dat (.int .i64)]), (9, .cells false [.dat .bool]), (5000, .cells false [.row (.arr 2 (.int .i64))]), (5009, .deferred false), (5010, .loop .ready none 14 [(5, .ptr 3 0), (6, .ptr 4 0), (7, .ptr 7 0), (8, .ptr 8 0), (9, .ptr 9 0)] [13] [.r, .r, .r, .l, .r, .l] 5009)], 5011⟩
def sel_Most.x1 : List Spec := [⟨[{ fn := 33, items := [], slots := [] }, { fn := 14, items := [.inRange 5010, .inBlock 0, .code [.r, .r, .r, .r]], slots := [(6, .ptr 4 0), (7, .ptr 7 0), (8, .ptr 8 0)], marks := [5009] }], [(3, .cells false [.dat (.int .i64)]), (4, .cells false [.dat (.int .i64)]), (7, .cells false [.dat (.int .i64)]), (8, .cells false [.dat (.int .i64)]), (9, .cells false [.dat .bool]), (5009, .deferred false), (5010, .loop .ready none 14 [(5, .ptr 3 0), (6, .ptr 4 0), (7, .ptr 7 0), (8, .ptr 8 0), (9, .ptr 9 0)] [13] [.r, .r, .r, .l, .r, .l] 5009)], 5011⟩]
noncomputable def sel_Most.b1 (m_ : Mode) (self : Int × Int × Int × Int × Int × Int × Bool × (List (List Int)) × Unit → Option ((Int × Int × Int × Int × Bool × Unit))) : Int × Int × Int × Int × Int × Int × Bool × (List (List Int)) × Unit → Option ((Int × Int × Int × Int × Bool × Unit)) := fun v_ => match v_ with
| (t, t1, m, m1, m2, m3, m4, m5, ()) =>
  bif decide (t1 < t) then
    bif inB t1 (m5.length : Int) then
    bif decide ((rd (0 : Int) (rd (List.replicate 2 (0 : Int) : List Int) m5 t1) (1 : Int)) < (0 : Int)) then
      bif m4 then
        self (t, (IntKind.i64.wrap (t1 + (1 : Int))), (IntKind.i64.wrap (m - (1 : Int))), m1, m2, (rd (0 : Int) (rd (List.replicate 2 (0 : Int) : List Int) m5 t1) (0 : Int)), false, m5, ())
      else
        self (t, (IntKind.i64.wrap (t1 + (1 : Int))), (IntKind.i64.wrap (m - (1 : Int))), m1, m2, m3, m4, m5, ())
    else
      bif decide ((IntKind.i64.wrap (m + (1 : Int))) > m1) then
        self (t, (IntKind.i64.wrap (t1 + (1 : Int))), (IntKind.i64.wrap (m + (1 : Int))), (IntKind.i64.wrap (m + (1 : Int))), (rd (0 : Int) (rd (List.replicate 2 (0 : Int) : List Int) m5 t1) (0 : Int)), m3, true, m5, ())
      else
        self (t, (IntKind.i64.wrap (t1 + (1 : Int))), (IntKind.i64.wrap (m + (1 : Int))), m1, m2, m3, m4, m5, ())
    else none
  else
    some (m, m1, m2, m3, m4, ())
theorem sel_Most.k1 (m_ : Mode) : ∀ (self : Known sel_Most.e1.sls → Option (Exits sel_Most.x1)) (v : Known sel_Most.e1.sls), runS P (both (oras (sel_Most.cs m_)) (procs (sel_Most.ps m_))) sel_Most.inl (⟨sel_Most.e1, self⟩ :: exitCuts sel_Most.x1 id) [] (fun _ _ => none) 20000 false (sel_Most.e1.mk' v) = sel_Most.b1 m_ self v := by
  intro self v_; exact (match v_ with | (t, t1, m, m1, m2, m3, m4, m5, ()) => by kernel_rfl)
noncomputable def sel_Most.l1 (m_ : Mode) : Int × Int × Int × Int × Int × Int × Bool × (List (List Int)) × Unit → Option ((Int × Int × Int × Int × Bool × Unit)) := loop m_ (sel_Most.b1 m_)
theorem sel_Most.q1 (v) : sel_Most.l1 .lim v = sel_Most.b1 .lim (sel_Most.l1 .lim) v := lfp_eq (cont_of_run (sel_Most.k1 .lim)) v
noncomputable def sel_Most.g1 (m_ : Mode) : Seg := ⟨sel_Most.e1, sel_Most.x1, sel_Most.l1 m_⟩
theorem sel_Most.s1 (m_ : Mode) (S0 w0 cs0) : SegGood P S0 w0 cs0 14 (sel_Most.g1 m_) := seg_loop m_ (both_ok (oras_ok (sel_Most.csok m_)) (procs_ok (sel_Most.psok m_))) (all_nil) (by rfl) (fun e he => List.all_eq_true.1 (show sel_Most.x1.all Spec.ok = true by rfl) e he) (sel_Most.k1 m_)
noncomputable def sel_Most.run (m_ : Mode) : (List (Int × (Int × Int))) × Unit → Option (Int × Int × Int × Unit) := fun v_ => match v_ with
| (l, ()) =>
  bif smallI (l.length : Int) then
  (sel_Most.l0 m_ (l, (l.length : Int), (0 : Int), (0 : Int), (0 : Int), (0 : Int), (0 : Int), false, ([] : List (List Int)), ())).bind fun (m, m1, m2, m3, m4, m5, ()) =>
  (lenOK m5 (slices_SortFunc_sel_end_sel_end.F m_ m5 (()))).bind fun ((), ys) =>
  bif smallI (ys.length : Int) then
  (sel_Most.l1 m_ ((ys.length : Int), (0 : Int), m, m1, m2, m3, m4, ys, ())).bind fun (m6, m7, m8, m9, m10, ()) =>
  some (m7, m8, m9, ())
  else none
  else none
noncomputable def sel_Most.c (m_ : Mode) : Callee := ⟨14, [.one (.lst (.pair (.int .i64) (.pair (.int .i64) (.int .i64))))], .tup [.sh (.one (.int .i64)), .sh (.one (.int .i64)), .sh (.one (.int .i64))], sel_Most.run m_⟩
theorem sel_Most.k (m_ : Mode) : ∀ v : Shs (sel_Most.c m_).args, runS P (both (oras (sel_Most.cs m_)) (procs (sel_Most.ps m_))) sel_Most.inl [] [sel_Most.g0 m_, sel_Most.g1 m_] (sel_Most.c m_).res.fin 20000 false (start 14 (encs (sel_Most.c m_).args v)) = sel_Most.run m_ v := by
  intro v_; exact (match v_ with | (l, ()) => by kernel_rfl)
theorem sel_Most.ok (m_ : Mode) : (sel_Most.c m_).OK P := Callee.of_run (fun S0 w0 => (both_ok (oras_ok (sel_Most.csok m_)) (procs_ok (sel_Most.psok m_)))) (by kernel_rfl) (by rfl) (fun S0 w0 cs0 => all_cons (sel_Most.s0 m_ S0 w0 cs0) (all_cons (sel_Most.s1 m_ S0 w0 cs0) (all_nil))) (fun x r h => (sel_Most.k m_ x).trans h)

/-! ### pendulum/sel.reaches -/
noncomputable def sel_reaches.cs (m_ : Mode) : List Callee := [sel_Reach.c m_]
theorem sel_reaches.csok (m_ : Mode) : ∀ k ∈ sel_reaches.cs m_, k.OK P := all_cons (sel_Reach.ok m_) (all_nil)
def sel_reaches.inl : FuncId → Bool := fun f => [].any (Nat.beq f)
noncomputable def sel_reaches.run (m_ : Mode) : (Int × (Int × Int)) × Int × Unit → Option (Bool) := fun v_ => match v_ with
| (p, atV, ()) =>
  (sel_Reach.run m_ ((p.1, (p.2.1, p.2.2)), ())).bind fun (r, r1, ()) =>
  some ((decide (r ≤ atV)) && (decide (atV ≤ r1)))
noncomputable def sel_reaches.c (m_ : Mode) : Callee := ⟨20, [.ag (.pair (.int .i64) (.pair (.int .i64) (.int .i64))), .one (.int .i64)], .one (.sh (.one .bool)), sel_reaches.run m_⟩
theorem sel_reaches.k (m_ : Mode) : ∀ v : Shs (sel_reaches.c m_).args, runS P (oras (sel_reaches.cs m_)) sel_reaches.inl [] [] (sel_reaches.c m_).res.fin 20000 false (start 20 (encs (sel_reaches.c m_).args v)) = sel_reaches.run m_ v := by
  intro v_; exact (match v_ with | (p, atV, ()) => by kernel_rfl)
theorem sel_reaches.ok (m_ : Mode) : (sel_reaches.c m_).OK P := Callee.of_run (fun S0 w0 => (oras_ok (sel_reaches.csok m_))) (by kernel_rfl) (by rfl) (fun S0 w0 cs0 => all_nil) (fun x r h => (sel_reaches.k m_ x).trans h)

/-! ### pendulum/sel.Select -/
noncomputable def sel_Select.cs (m_ : Mode) : List Callee := [sel_Most.c m_, sel_reaches.c m_]
theorem sel_Select.csok (m_ : Mode) : ∀ k ∈ sel_Select.cs m_, k.OK P := all_cons (sel_Most.ok m_) (all_cons (sel_reaches.ok m_) (all_nil))
def sel_Select.inl : FuncId → Bool := fun f => [].any (Nat.beq f)
def sel_Select.e0 : Spec := ⟨[{ fn := 9, items := [.code [.r, .r, .r, .r, .l, .r, .l, .l], .inLoop [.r, .r, .r, .r, .l, .r, .l, .l], .inBlock 1, .code [.r, .r, .r, .r, .r]], slots := [(7, .dat (.int .i64)), (8, .dat (.int .i64)), (9, .own 5001 (.int .i64)), (28, .dat (.lst (.pair (.int .i64) (.pair (.int .i64) (.int .i64))))), (29, .dat (.int .i64)), (30, .dat (.int .i64))] }], [(5001, .cells false [.row (.int .i64)])], 5002⟩
def sel_Select.x0 : List Spec := [⟨[{ fn := 9, items := [.code [.r, .r, .r, .r, .r]], slots := [(7, .dat (.int .i64)), (8, .dat (.int .i64)), (9, .own 5001 (.int .i64))] }], [(5001, .cells false [.row (.int .i64)])], 5002⟩]
noncomputable def sel_Select.b0 (m_ : Mode) (self : Int × Int × (List (Int × (Int × Int))) × Int × Int × (List Int) × Unit → Option ((Int × Int × (List Int) × Unit))) : Int × Int × (List (Int × (Int × Int))) × Int × Int × (List Int) × Unit → Option ((Int × Int × (List Int) × Unit)) := fun v_ => match v_ with
| (low, high, t, t1, t2, m, ()) =>
  bif decide (t2 < t1) then
    bif inB t2 (t.length : Int) then
    (sel_reaches.run m_ (((rd ((0 : Int), ((0 : Int), (0 : Int))) t t2).1, (((rd ((0 : Int), ((0 : Int), (0 : Int))) t t2).2).1, ((rd ((0 : Int), ((0 : Int), (0 : Int))) t t2).2).2)), low, ())).bind fun r =>
    bif r then
      bif decide (m.length + ([t2] : List Int).length < 8796093022208) then self (low, high, t, t1, (IntKind.i64.wrap (t2 + (1 : Int))), (m ++ ([t2] : List Int)), ()) else none
    else
      self (low, high, t, t1, (IntKind.i64.wrap (t2 + (1 : Int))), m, ())
    else none
  else
    some (low, high, m, ())
theorem sel_Select.k0 (m_ : Mode) : ∀ (self : Known sel_Select.e0.sls → Option (Exits sel_Select.x0)) (v : Known sel_Select.e0.sls), runS P (oras (sel_Select.cs m_)) sel_Select.inl (⟨sel_Select.e0, self⟩ :: exitCuts sel_Select.x0 id) [] (fun _ _ => none) 20000 false (sel_Select.e0.mk' v) = sel_Select.b0 m_ self v := by
  intro self v_; exact (match v_ with | (low, high, t, t1, t2, m, ()) => by kernel_rfl)
noncomputable def sel_Select.l0 (m_ : Mode) : Int × Int × (List (Int × (Int × Int))) × Int × Int × (List Int) × Unit → Option ((Int × Int × (List Int) × Unit)) := loop m_ (sel_Select.b0 m_)
theorem sel_Select.q0 (v) : sel_Select.l0 .lim v = sel_Select.b0 .lim (sel_Select.l0 .lim) v := lfp_eq (cont_of_run (sel_Select.k0 .lim)) v
noncomputable def sel_Select.g0 (m_ : Mode) : Seg := ⟨sel_Select.e0, sel_Select.x0, sel_Select.l0 m_⟩
theorem sel_Select.s0 (m_ : Mode) (S0 w0 cs0) : SegGood P S0 w0 cs0 9 (sel_Select.g0 m_) := seg_loop m_ (oras_ok (sel_Select.csok m_)) (all_nil) (by rfl) (fun e he => List.all_eq_true.1 (show sel_Select.x0.all Spec.ok = true by rfl) e he) (sel_Select.k0 m_)
noncomputable def sel_Select.run (m_ : Mode) : (List (Int × (Int × Int))) × Unit → Option ((List Int) × Int × Int × Int × Unit) := fun v_ => match v_ with
| (l, ()) =>
  (sel_Most.run m_ (l, ())).bind fun (r, r1, r2, ()) =>
  bif smallI (l.length : Int) then
  bif decide ((l.length : Int) = (0 : Int)) then
    some (([] : List Int), (0 : Int), (0 : Int), (19 : Int), ())
  else
    bif smallI (l.length : Int) then
    bif decide ((IntKind.i64.wrap ((2 : Int) * r)) ≤ (l.length : Int)) then
      some (([] : List Int), (0 : Int), (0 : Int), (22 : Int), ())
    else
      bif smallI (l.length : Int) then
      (sel_Select.l0 m_ (r1, r2, l, (l.length : Int), (0 : Int), ([] : List Int), ())).bind fun (low, high, m, ()) =>
      some (m, low, high, (0 : Int), ())
      else none
    else none
  else none
noncomputable def sel_Select.c (m_ : Mode) : Callee := ⟨9, [.one (.lst (.pair (.int .i64) (.pair (.int .i64) (.int .i64))))], .tup [.own (.int .i64), .sh (.one (.int .i64)), .sh (.one (.int .i64)), .sh (.one (.int .i64))], sel_Select.run m_⟩
theorem sel_Select.k (m_ : Mode) : ∀ v : Shs (sel_Select.c m_).args, runS P (oras (sel_Select.cs m_)) sel_Select.inl [] [sel_Select.g0 m_] (sel_Select.c m_).res.fin 20000 false (start 9 (encs (sel_Select.c m_).args v)) = sel_Select.run m_ v := by
  intro v_; exact (match v_ with | (l, ()) => by kernel_rfl)
theorem sel_Select.ok (m_ : Mode) : (sel_Select.c m_).OK P := Callee.of_run (fun S0 w0 => (oras_ok (sel_Select.csok m_))) (by kernel_rfl) (by rfl) (fun S0 w0 cs0 => all_cons (sel_Select.s0 m_ S0 w0 cs0) (all_nil)) (fun x r h => (sel_Select.k m_ x).trans h)

/-! ### pendulum/pendulumlaw29.ints -/
noncomputable def pendulumlaw29_ints.cs (m_ : Mode) : List Callee := []
theorem pendulumlaw29_ints.csok (m_ : Mode) : ∀ k ∈ pendulumlaw29_ints.cs m_, k.OK P := all_nil
def pendulumlaw29_ints.inl : FuncId → Bool := fun f => [].any (Nat.beq f)
def pendulumlaw29_ints.e0 : Spec := ⟨[{ fn := 11, items := [.code [.r, .r, .l, .r, .l, .l], .inLoop [.r, .r, .l, .r, .l, .l], .inBlock 0, .code [.r, .r, .r]], slots := [(0, .dat (.lst (.int .i64))), (1, .dat (.lst (.int .i64))), (12, .dat (.int .i64)), (13, .dat (.int .i64))] }], [], 0⟩
def pendulumlaw29_ints.x0 : List Spec := [⟨[{ fn := 11, items := [.code [.r, .r, .l, .r, .l, .l, .r, .r, .l, .l, .r, .r, .l, .r], .inBlock 1, .code [.r, .r, .l, .r, .l, .l, .r, .r, .r], .inLoop [.r, .r, .l, .r, .l, .l], .inBlock 0, .code [.r, .r, .r]], slots := [(4, .dat .bool)] }], [], 0⟩, ⟨[{ fn := 11, items := [.code [.r, .r, .r]], slots := [] }], [], 0⟩]
noncomputable def pendulumlaw29_ints.b0 (m_ : Mode) (self : (List Int) × (List Int) × Int × Int × Unit → Option ((Bool × Unit) ⊕ (Unit))) : (List Int) × (List Int) × Int × Int × Unit → Option ((Bool × Unit) ⊕ (Unit)) := fun v_ => match v_ with
| (a, b, t, t1, ()) =>
  bif decide (t1 < t) then
    bif inB t1 (a.length : Int) then
    bif inB t1 (b.length : Int) then
    bif !(decide ((rd (0 : Int) a t1) = (rd (0 : Int) b t1))) then
      some (.inl (false, ()))
    else
      self (a, b, t, (IntKind.i64.wrap (t1 + (1 : Int))), ())
    else none
    else none
  else
    some (.inr (()))
theorem pendulumlaw29_ints.k0 (m_ : Mode) : ∀ (self : Known pendulumlaw29_ints.e0.sls → Option (Exits pendulumlaw29_ints.x0)) (v : Known pendulumlaw29_ints.e0.sls), runS P (oras (pendulumlaw29_ints.cs m_)) pendulumlaw29_ints.inl (⟨pendulumlaw29_ints.e0, self⟩ :: exitCuts pendulumlaw29_ints.x0 id) [] (fun _ _ => none) 20000 false (pendulumlaw29_ints.e0.mk' v) = pendulumlaw29_ints.b0 m_ self v := by
  intro self v_; exact (match v_ with | (a, b, t, t1, ()) => by kernel_rfl)
noncomputable def pendulumlaw29_ints.l0 (m_ : Mode) : (List Int) × (List Int) × Int × Int × Unit → Option ((Bool × Unit) ⊕ (Unit)) := loop m_ (pendulumlaw29_ints.b0 m_)
theorem pendulumlaw29_ints.q0 (v) : pendulumlaw29_ints.l0 .lim v = pendulumlaw29_ints.b0 .lim (pendulumlaw29_ints.l0 .lim) v := lfp_eq (cont_of_run (pendulumlaw29_ints.k0 .lim)) v
noncomputable def pendulumlaw29_ints.g0 (m_ : Mode) : Seg := ⟨pendulumlaw29_ints.e0, pendulumlaw29_ints.x0, pendulumlaw29_ints.l0 m_⟩
theorem pendulumlaw29_ints.s0 (m_ : Mode) (S0 w0 cs0) : SegGood P S0 w0 cs0 11 (pendulumlaw29_ints.g0 m_) := seg_loop m_ (oras_ok (pendulumlaw29_ints.csok m_)) (all_nil) (by rfl) (fun e he => List.all_eq_true.1 (show pendulumlaw29_ints.x0.all Spec.ok = true by rfl) e he) (pendulumlaw29_ints.k0 m_)
noncomputable def pendulumlaw29_ints.run (m_ : Mode) : (List Int) × (List Int) × Unit → Option (Bool) := fun v_ => match v_ with
| (a, b, ()) =>
  bif smallI (a.length : Int) then
  bif smallI (b.length : Int) then
  bif !(decide ((a.length : Int) = (b.length : Int))) then
    some false
  else
    bif smallI (a.length : Int) then
    (pendulumlaw29_ints.l0 m_ (a, b, (a.length : Int), (0 : Int), ())).bind fun g_ => match g_ with
    | .inl (t, ()) =>
      some t
    | .inr (()) =>
      some true
    else none
  else none
  else none
noncomputable def pendulumlaw29_ints.c (m_ : Mode) : Callee := ⟨11, [.one (.lst (.int .i64)), .one (.lst (.int .i64))], .one (.sh (.one .bool)), pendulumlaw29_ints.run m_⟩
theorem pendulumlaw29_ints.k (m_ : Mode) : ∀ v : Shs (pendulumlaw29_ints.c m_).args, runS P (oras (pendulumlaw29_ints.cs m_)) pendulumlaw29_ints.inl [] [pendulumlaw29_ints.g0 m_] (pendulumlaw29_ints.c m_).res.fin 20000 false (start 11 (encs (pendulumlaw29_ints.c m_).args v)) = pendulumlaw29_ints.run m_ v := by
  intro v_; exact (match v_ with | (a, b, ()) => by kernel_rfl)
theorem pendulumlaw29_ints.ok (m_ : Mode) : (pendulumlaw29_ints.c m_).OK P := Callee.of_run (fun S0 w0 => (oras_ok (pendulumlaw29_ints.csok m_))) (by kernel_rfl) (by rfl) (fun S0 w0 cs0 => all_cons (pendulumlaw29_ints.s0 m_ S0 w0 cs0) (all_nil)) (fun x r h => (pendulumlaw29_ints.k m_ x).trans h)

/-! ### pendulum/pendulumlaw29.awake -/
noncomputable def pendulumlaw29_awake.cs (m_ : Mode) : List Callee := [sel_Select.c m_, pendulumlaw29_ints.c m_]
theorem pendulumlaw29_awake.csok (m_ : Mode) : ∀ k ∈ pendulumlaw29_awake.cs m_, k.OK P := all_cons (sel_Select.ok m_) (all_cons (pendulumlaw29_ints.ok m_) (all_nil))
def pendulumlaw29_awake.inl : FuncId → Bool := fun f => [].any (Nat.beq f)
noncomputable def pendulumlaw29_awake.run (m_ : Mode) : Unit → Option (Bool) := fun v_ => match v_ with
| (()) =>
  (sel_Select.run m_ (([((0 : Int), ((2 : Int), (0 : Int))), ((3 : Int), ((2 : Int), (0 : Int))), ((100 : Int), ((2 : Int), (0 : Int)))] : List (Int × (Int × Int))), ())).bind fun (r, r1, r2, r3, ()) =>
  (sel_Select.run m_ (([((0 : Int), ((0 : Int), (0 : Int))), ((5 : Int), ((0 : Int), (0 : Int)))] : List (Int × (Int × Int))), ())).bind fun (r4, r5, r6, r7, ()) =>
  (sel_Select.run m_ (([] : List (Int × (Int × Int))), ())).bind fun (r8, r9, r10, r11, ()) =>
  (pendulumlaw29_ints.run m_ (r, ([(0 : Int), (1 : Int)] : List Int), ())).bind fun r12 =>
  some (((((r12 && (decide (r1 = (1 : Int)))) && (decide (r2 = (2 : Int)))) && (decide (r3 = (0 : Int)))) && (decide (r7 = (22 : Int)))) && (decide (r11 = (19 : Int))))
noncomputable def pendulumlaw29_awake.c (m_ : Mode) : Callee := ⟨8, [], .one (.sh (.one .bool)), pendulumlaw29_awake.run m_⟩
theorem pendulumlaw29_awake.k (m_ : Mode) : ∀ v : Shs (pendulumlaw29_awake.c m_).args, runS P (oras (pendulumlaw29_awake.cs m_)) pendulumlaw29_awake.inl [] [] (pendulumlaw29_awake.c m_).res.fin 20000 false (start 8 (encs (pendulumlaw29_awake.c m_).args v)) = pendulumlaw29_awake.run m_ v := by
  intro v_; exact (match v_ with | (()) => by kernel_rfl)
theorem pendulumlaw29_awake.ok (m_ : Mode) : (pendulumlaw29_awake.c m_).OK P := Callee.of_run (fun S0 w0 => (oras_ok (pendulumlaw29_awake.csok m_))) (by kernel_rfl) (by rfl) (fun S0 w0 cs0 => all_nil) (fun x r h => (pendulumlaw29_awake.k m_ x).trans h)
def pendulumlaw29_awake.t : Callee := ⟨8, [], .one (.sh (.one .bool)), fun _ => some true⟩
theorem pendulumlaw29_awake.plays : pendulumlaw29_awake.run (.fuel 1000) () = some true := by kernel_rfl
theorem pendulumlaw29_awake.okt : pendulumlaw29_awake.t.OK P := Callee.of_run (fun S0 w0 => (oras_ok (pendulumlaw29_awake.csok (.fuel 1000)))) (by kernel_rfl) (by rfl) (fun S0 w0 cs0 => all_nil) (fun x r h => (pendulumlaw29_awake.k (.fuel 1000) x).trans (pendulumlaw29_awake.plays.trans h))

/-! ### pendulum/pendulumref29.Reach -/
noncomputable def pendulumref29_Reach.cs (m_ : Mode) : List Callee := []
theorem pendulumref29_Reach.csok (m_ : Mode) : ∀ k ∈ pendulumref29_Reach.cs m_, k.OK P := all_nil
def pendulumref29_Reach.inl : FuncId → Bool := fun f => [].any (Nat.beq f)
noncomputable def pendulumref29_Reach.run (m_ : Mode) : (Int × (Int × Int)) × Unit → Option (Int × Int × Unit) := fun v_ => match v_ with
| (p, ()) =>
  some ((IntKind.i64.wrap (p.1 - p.2.1)), (IntKind.i64.wrap (p.1 + p.2.1)), ())
noncomputable def pendulumref29_Reach.c (m_ : Mode) : Callee := ⟨13, [.ag (.pair (.int .i64) (.pair (.int .i64) (.int .i64)))], .tup [.sh (.one (.int .i64)), .sh (.one (.int .i64))], pendulumref29_Reach.run m_⟩
theorem pendulumref29_Reach.k (m_ : Mode) : ∀ v : Shs (pendulumref29_Reach.c m_).args, runS P (oras (pendulumref29_Reach.cs m_)) pendulumref29_Reach.inl [] [] (pendulumref29_Reach.c m_).res.fin 20000 false (start 13 (encs (pendulumref29_Reach.c m_).args v)) = pendulumref29_Reach.run m_ v := by
  intro v_; exact (match v_ with | (p, ()) => by kernel_rfl)
theorem pendulumref29_Reach.ok (m_ : Mode) : (pendulumref29_Reach.c m_).OK P := Callee.of_run (fun S0 w0 => (oras_ok (pendulumref29_Reach.csok m_))) (by kernel_rfl) (by rfl) (fun S0 w0 cs0 => all_nil) (fun x r h => (pendulumref29_Reach.k m_ x).trans h)

/-! ### pendulum/pendulumref29.Count -/
noncomputable def pendulumref29_Count.cs (m_ : Mode) : List Callee := [pendulumref29_Reach.c m_]
theorem pendulumref29_Count.csok (m_ : Mode) : ∀ k ∈ pendulumref29_Count.cs m_, k.OK P := all_cons (pendulumref29_Reach.ok m_) (all_nil)
def pendulumref29_Count.inl : FuncId → Bool := fun f => [].any (Nat.beq f)
def pendulumref29_Count.e0 : Spec := ⟨[{ fn := 12, items := [.code [.r, .r, .l, .r, .l, .l], .inLoop [.r, .r, .l, .r, .l, .l], .inBlock 0, .code [.r, .r, .r]], slots := [(0, .dat (.lst (.pair (.int .i64) (.pair (.int .i64) (.int .i64))))), (1, .dat (.int .i64)), (5, .dat (.int .i64)), (6, .dat (.int .i64))] }], [], 0⟩
def pendulumref29_Count.x0 : List Spec := [⟨[{ fn := 12, items := [.code [.r, .r, .r]], slots := [(5, .dat (.int .i64))] }], [], 0⟩]
noncomputable def pendulumref29_Count.b0 (m_ : Mode) (self : (List (Int × (Int × Int))) × Int × Int × Int × Unit → Option ((Int × Unit))) : (List (Int × (Int × Int))) × Int × Int × Int × Unit → Option ((Int × Unit)) := fun v_ => match v_ with
| (l, atV, n, i, ()) =>
  bif smallI (l.length : Int) then
  bif decide (i < (l.length : Int)) then
    bif inB i (l.length : Int) then
    (pendulumref29_Reach.run m_ (((rd ((0 : Int), ((0 : Int), (0 : Int))) l i).1, (((rd ((0 : Int), ((0 : Int), (0 : Int))) l i).2).1, ((rd ((0 : Int), ((0 : Int), (0 : Int))) l i).2).2)), ())).bind fun (r, r1, ()) =>
    bif ((decide (r ≤ atV)) && (decide (atV ≤ r1))) then
      self (l, atV, (IntKind.i64.wrap (n + (1 : Int))), (IntKind.i64.wrap (i + (1 : Int))), ())
    else
      self (l, atV, n, (IntKind.i64.wrap (i + (1 : Int))), ())
    else none
  else
    some (n, ())
  else none
theorem pendulumref29_Count.k0 (m_ : Mode) : ∀ (self : Known pendulumref29_Count.e0.sls → Option (Exits pendulumref29_Count.x0)) (v : Known pendulumref29_Count.e0.sls), runS P (oras (pendulumref29_Count.cs m_)) pendulumref29_Count.inl (⟨pendulumref29_Count.e0, self⟩ :: exitCuts pendulumref29_Count.x0 id) [] (fun _ _ => none) 20000 false (pendulumref29_Count.e0.mk' v) = pendulumref29_Count.b0 m_ self v := by
  intro self v_; exact (match v_ with | (l, atV, n, i, ()) => by kernel_rfl)
noncomputable def pendulumref29_Count.l0 (m_ : Mode) : (List (Int × (Int × Int))) × Int × Int × Int × Unit → Option ((Int × Unit)) := loop m_ (pendulumref29_Count.b0 m_)
theorem pendulumref29_Count.q0 (v) : pendulumref29_Count.l0 .lim v = pendulumref29_Count.b0 .lim (pendulumref29_Count.l0 .lim) v := lfp_eq (cont_of_run (pendulumref29_Count.k0 .lim)) v
noncomputable def pendulumref29_Count.g0 (m_ : Mode) : Seg := ⟨pendulumref29_Count.e0, pendulumref29_Count.x0, pendulumref29_Count.l0 m_⟩
theorem pendulumref29_Count.s0 (m_ : Mode) (S0 w0 cs0) : SegGood P S0 w0 cs0 12 (pendulumref29_Count.g0 m_) := seg_loop m_ (oras_ok (pendulumref29_Count.csok m_)) (all_nil) (by rfl) (fun e he => List.all_eq_true.1 (show pendulumref29_Count.x0.all Spec.ok = true by rfl) e he) (pendulumref29_Count.k0 m_)
noncomputable def pendulumref29_Count.run (m_ : Mode) : (List (Int × (Int × Int))) × Int × Unit → Option (Int) := fun v_ => match v_ with
| (l, atV, ()) =>
  (pendulumref29_Count.l0 m_ (l, atV, (0 : Int), (0 : Int), ())).bind fun (n, ()) =>
  some n
noncomputable def pendulumref29_Count.c (m_ : Mode) : Callee := ⟨12, [.one (.lst (.pair (.int .i64) (.pair (.int .i64) (.int .i64)))), .one (.int .i64)], .one (.sh (.one (.int .i64))), pendulumref29_Count.run m_⟩
theorem pendulumref29_Count.k (m_ : Mode) : ∀ v : Shs (pendulumref29_Count.c m_).args, runS P (oras (pendulumref29_Count.cs m_)) pendulumref29_Count.inl [] [pendulumref29_Count.g0 m_] (pendulumref29_Count.c m_).res.fin 20000 false (start 12 (encs (pendulumref29_Count.c m_).args v)) = pendulumref29_Count.run m_ v := by
  intro v_; exact (match v_ with | (l, atV, ()) => by kernel_rfl)
theorem pendulumref29_Count.ok (m_ : Mode) : (pendulumref29_Count.c m_).OK P := Callee.of_run (fun S0 w0 => (oras_ok (pendulumref29_Count.csok m_))) (by kernel_rfl) (by rfl) (fun S0 w0 cs0 => all_cons (pendulumref29_Count.s0 m_ S0 w0 cs0) (all_nil)) (fun x r h => (pendulumref29_Count.k m_ x).trans h)

/-! ### pendulum/pendulumref29.Most -/
noncomputable def pendulumref29_Most.cs (m_ : Mode) : List Callee := [pendulumref29_Count.c m_, pendulumref29_Reach.c m_]
theorem pendulumref29_Most.csok (m_ : Mode) : ∀ k ∈ pendulumref29_Most.cs m_, k.OK P := all_cons (pendulumref29_Count.ok m_) (all_cons (pendulumref29_Reach.ok m_) (all_nil))
def pendulumref29_Most.inl : FuncId → Bool := fun f => [].any (Nat.beq f)
def pendulumref29_Most.e0 : Spec := ⟨[{ fn := 17, items := [.code [.r, .r, .r, .l, .r, .l, .l], .inLoop [.r, .r, .r, .l, .r, .l, .l], .inBlock 0, .code [.r, .r, .r, .r]], slots := [(0, .dat (.lst (.pair (.int .i64) (.pair (.int .i64) (.int .i64))))), (5, .dat (.int .i64)), (6, .dat (.int .i64)), (7, .dat (.int .i64))] }], [], 0⟩
def pendulumref29_Most.x0 : List Spec := [⟨[{ fn := 17, items := [.code [.r, .r, .r, .r]], slots := [(0, .dat (.lst (.pair (.int .i64) (.pair (.int .i64) (.int .i64))))), (5, .dat (.int .i64)), (6, .dat (.int .i64))] }], [], 0⟩]
noncomputable def pendulumref29_Most.b0 (m_ : Mode) (self : (List (Int × (Int × Int))) × Int × Int × Int × Unit → Option (((List (Int × (Int × Int))) × Int × Int × Unit))) : (List (Int × (Int × Int))) × Int × Int × Int × Unit → Option (((List (Int × (Int × Int))) × Int × Int × Unit)) := fun v_ => match v_ with
| (l, m, atV, i, ()) =>
  bif smallI (l.length : Int) then
  bif decide (i < (l.length : Int)) then
    bif inB i (l.length : Int) then
    (pendulumref29_Reach.run m_ (((rd ((0 : Int), ((0 : Int), (0 : Int))) l i).1, (((rd ((0 : Int), ((0 : Int), (0 : Int))) l i).2).1, ((rd ((0 : Int), ((0 : Int), (0 : Int))) l i).2).2)), ())).bind fun (r, r1, ()) =>
    (pendulumref29_Count.run m_ (l, r, ())).bind fun r2 =>
    bif ((decide (r2 > m)) || ((decide (r2 = m)) && (decide (r < atV)))) then
      self (l, r2, r, (IntKind.i64.wrap (i + (1 : Int))), ())
    else
      self (l, m, atV, (IntKind.i64.wrap (i + (1 : Int))), ())
    else none
  else
    some (l, m, atV, ())
  else none
theorem pendulumref29_Most.k0 (m_ : Mode) : ∀ (self : Known pendulumref29_Most.e0.sls → Option (Exits pendulumref29_Most.x0)) (v : Known pendulumref29_Most.e0.sls), runS P (oras (pendulumref29_Most.cs m_)) pendulumref29_Most.inl (⟨pendulumref29_Most.e0, self⟩ :: exitCuts pendulumref29_Most.x0 id) [] (fun _ _ => none) 20000 false (pendulumref29_Most.e0.mk' v) = pendulumref29_Most.b0 m_ self v := by
  intro self v_; exact (match v_ with | (l, m, atV, i, ()) => by kernel_rfl)
noncomputable def pendulumref29_Most.l0 (m_ : Mode) : (List (Int × (Int × Int))) × Int × Int × Int × Unit → Option (((List (Int × (Int × Int))) × Int × Int × Unit)) := loop m_ (pendulumref29_Most.b0 m_)
theorem pendulumref29_Most.q0 (v) : pendulumref29_Most.l0 .lim v = pendulumref29_Most.b0 .lim (pendulumref29_Most.l0 .lim) v := lfp_eq (cont_of_run (pendulumref29_Most.k0 .lim)) v
noncomputable def pendulumref29_Most.g0 (m_ : Mode) : Seg := ⟨pendulumref29_Most.e0, pendulumref29_Most.x0, pendulumref29_Most.l0 m_⟩
theorem pendulumref29_Most.s0 (m_ : Mode) (S0 w0 cs0) : SegGood P S0 w0 cs0 17 (pendulumref29_Most.g0 m_) := seg_loop m_ (oras_ok (pendulumref29_Most.csok m_)) (all_nil) (by rfl) (fun e he => List.all_eq_true.1 (show pendulumref29_Most.x0.all Spec.ok = true by rfl) e he) (pendulumref29_Most.k0 m_)
def pendulumref29_Most.e1 : Spec := ⟨[{ fn := 17, items := [.code [.r, .r, .r, .r, .r, .r, .r, .l, .r, .l, .l], .inLoop [.r, .r, .r, .r, .r, .r, .r, .l, .r, .l, .l], .inBlock 2, .code [.r, .r, .r, .r, .r, .r, .r, .r]], slots := [(0, .dat (.lst (.pair (.int .i64) (.pair (.int .i64) (.int .i64))))), (5, .dat (.int .i64)), (6, .dat (.int .i64)), (11, .dat (.int .i64)), (12, .dat .bool), (13, .dat (.int .i64))] }], [], 0⟩
def pendulumref29_Most.x1 : List Spec := [⟨[{ fn := 17, items := [.code [.r, .r, .r, .r, .r, .r, .r, .r]], slots := [(5, .dat (.int .i64)), (6, .dat (.int .i64)), (11, .dat (.int .i64))] }], [], 0⟩]
noncomputable def pendulumref29_Most.b1 (m_ : Mode) (self : (List (Int × (Int × Int))) × Int × Int × Int × Bool × Int × Unit → Option ((Int × Int × Int × Unit))) : (List (Int × (Int × Int))) × Int × Int × Int × Bool × Int × Unit → Option ((Int × Int × Int × Unit)) := fun v_ => match v_ with
| (l, m, atV, endV, first, i, ()) =>
  bif smallI (l.length : Int) then
  bif decide (i < (l.length : Int)) then
    bif inB i (l.length : Int) then
    (pendulumref29_Reach.run m_ (((rd ((0 : Int), ((0 : Int), (0 : Int))) l i).1, (((rd ((0 : Int), ((0 : Int), (0 : Int))) l i).2).1, ((rd ((0 : Int), ((0 : Int), (0 : Int))) l i).2).2)), ())).bind fun (r, r1, ()) =>
    bif (((decide (r ≤ atV)) && (decide (atV ≤ r1))) && (first || (decide (r1 < endV)))) then
      self (l, m, atV, r1, false, (IntKind.i64.wrap (i + (1 : Int))), ())
    else
      self (l, m, atV, endV, first, (IntKind.i64.wrap (i + (1 : Int))), ())
    else none
  else
    some (m, atV, endV, ())
  else none
theorem pendulumref29_Most.k1 (m_ : Mode) : ∀ (self : Known pendulumref29_Most.e1.sls → Option (Exits pendulumref29_Most.x1)) (v : Known pendulumref29_Most.e1.sls), runS P (oras (pendulumref29_Most.cs m_)) pendulumref29_Most.inl (⟨pendulumref29_Most.e1, self⟩ :: exitCuts pendulumref29_Most.x1 id) [] (fun _ _ => none) 20000 false (pendulumref29_Most.e1.mk' v) = pendulumref29_Most.b1 m_ self v := by
  intro self v_; exact (match v_ with | (l, m, atV, endV, first, i, ()) => by kernel_rfl)
noncomputable def pendulumref29_Most.l1 (m_ : Mode) : (List (Int × (Int × Int))) × Int × Int × Int × Bool × Int × Unit → Option ((Int × Int × Int × Unit)) := loop m_ (pendulumref29_Most.b1 m_)
theorem pendulumref29_Most.q1 (v) : pendulumref29_Most.l1 .lim v = pendulumref29_Most.b1 .lim (pendulumref29_Most.l1 .lim) v := lfp_eq (cont_of_run (pendulumref29_Most.k1 .lim)) v
noncomputable def pendulumref29_Most.g1 (m_ : Mode) : Seg := ⟨pendulumref29_Most.e1, pendulumref29_Most.x1, pendulumref29_Most.l1 m_⟩
theorem pendulumref29_Most.s1 (m_ : Mode) (S0 w0 cs0) : SegGood P S0 w0 cs0 17 (pendulumref29_Most.g1 m_) := seg_loop m_ (oras_ok (pendulumref29_Most.csok m_)) (all_nil) (by rfl) (fun e he => List.all_eq_true.1 (show pendulumref29_Most.x1.all Spec.ok = true by rfl) e he) (pendulumref29_Most.k1 m_)
noncomputable def pendulumref29_Most.run (m_ : Mode) : (List (Int × (Int × Int))) × Unit → Option (Int × Int × Int × Unit) := fun v_ => match v_ with
| (l, ()) =>
  (pendulumref29_Most.l0 m_ (l, (0 : Int), (0 : Int), (0 : Int), ())).bind fun (l1, m, atV, ()) =>
  bif decide (m = (0 : Int)) then
    some ((0 : Int), (0 : Int), (0 : Int), ())
  else
    (pendulumref29_Most.l1 m_ (l1, m, atV, (0 : Int), true, (0 : Int), ())).bind fun (m1, atV1, endV, ()) =>
    some (m1, atV1, endV, ())
noncomputable def pendulumref29_Most.c (m_ : Mode) : Callee := ⟨17, [.one (.lst (.pair (.int .i64) (.pair (.int .i64) (.int .i64))))], .tup [.sh (.one (.int .i64)), .sh (.one (.int .i64)), .sh (.one (.int .i64))], pendulumref29_Most.run m_⟩
theorem pendulumref29_Most.k (m_ : Mode) : ∀ v : Shs (pendulumref29_Most.c m_).args, runS P (oras (pendulumref29_Most.cs m_)) pendulumref29_Most.inl [] [pendulumref29_Most.g0 m_, pendulumref29_Most.g1 m_] (pendulumref29_Most.c m_).res.fin 20000 false (start 17 (encs (pendulumref29_Most.c m_).args v)) = pendulumref29_Most.run m_ v := by
  intro v_; exact (match v_ with | (l, ()) => by kernel_rfl)
theorem pendulumref29_Most.ok (m_ : Mode) : (pendulumref29_Most.c m_).OK P := Callee.of_run (fun S0 w0 => (oras_ok (pendulumref29_Most.csok m_))) (by kernel_rfl) (by rfl) (fun S0 w0 cs0 => all_cons (pendulumref29_Most.s0 m_ S0 w0 cs0) (all_cons (pendulumref29_Most.s1 m_ S0 w0 cs0) (all_nil))) (fun x r h => (pendulumref29_Most.k m_ x).trans h)

/-! ### pendulum/pendulumref29.Select -/
noncomputable def pendulumref29_Select.cs (m_ : Mode) : List Callee := [pendulumref29_Reach.c m_, pendulumref29_Most.c m_]
theorem pendulumref29_Select.csok (m_ : Mode) : ∀ k ∈ pendulumref29_Select.cs m_, k.OK P := all_cons (pendulumref29_Reach.ok m_) (all_cons (pendulumref29_Most.ok m_) (all_nil))
def pendulumref29_Select.inl : FuncId → Bool := fun f => [].any (Nat.beq f)
def pendulumref29_Select.e0 : Spec := ⟨[{ fn := 10, items := [.code [.r, .r, .r, .r, .r, .l, .r, .l, .l], .inLoop [.r, .r, .r, .r, .r, .l, .r, .l, .l], .inBlock 0, .code [.r, .r, .r, .r, .r, .r]], slots := [(0, .dat (.lst (.pair (.int .i64) (.pair (.int .i64) (.int .i64))))), (7, .dat (.int .i64)), (8, .dat (.int .i64)), (9, .own 5002 (.int .i64)), (10, .dat (.int .i64))] }], [(5002, .cells false [.row (.int .i64)])], 5003⟩
def pendulumref29_Select.x0 : List Spec := [⟨[{ fn := 10, items := [.code [.r, .r, .r, .r, .r, .r]], slots := [(7, .dat (.int .i64)), (8, .dat (.int .i64)), (9, .own 5002 (.int .i64))] }], [(5002, .cells false [.row (.int .i64)])], 5003⟩]
noncomputable def pendulumref29_Select.b0 (m_ : Mode) (self : (List (Int × (Int × Int))) × Int × Int × Int × (List Int) × Unit → Option ((Int × Int × (List Int) × Unit))) : (List (Int × (Int × Int))) × Int × Int × Int × (List Int) × Unit → Option ((Int × Int × (List Int) × Unit)) := fun v_ => match v_ with
| (l, low, high, i, m, ()) =>
  bif smallI (l.length : Int) then
  bif decide (i < (l.length : Int)) then
    bif inB i (l.length : Int) then
    (pendulumref29_Reach.run m_ (((rd ((0 : Int), ((0 : Int), (0 : Int))) l i).1, (((rd ((0 : Int), ((0 : Int), (0 : Int))) l i).2).1, ((rd ((0 : Int), ((0 : Int), (0 : Int))) l i).2).2)), ())).bind fun (r, r1, ()) =>
    bif ((decide (r ≤ low)) && (decide (high ≤ r1))) then
      bif decide (m.length + ([i] : List Int).length < 8796093022208) then self (l, low, high, (IntKind.i64.wrap (i + (1 : Int))), (m ++ ([i] : List Int)), ()) else none
    else
      self (l, low, high, (IntKind.i64.wrap (i + (1 : Int))), m, ())
    else none
  else
    some (low, high, m, ())
  else none
theorem pendulumref29_Select.k0 (m_ : Mode) : ∀ (self : Known pendulumref29_Select.e0.sls → Option (Exits pendulumref29_Select.x0)) (v : Known pendulumref29_Select.e0.sls), runS P (oras (pendulumref29_Select.cs m_)) pendulumref29_Select.inl (⟨pendulumref29_Select.e0, self⟩ :: exitCuts pendulumref29_Select.x0 id) [] (fun _ _ => none) 20000 false (pendulumref29_Select.e0.mk' v) = pendulumref29_Select.b0 m_ self v := by
  intro self v_; exact (match v_ with | (l, low, high, i, m, ()) => by kernel_rfl)
noncomputable def pendulumref29_Select.l0 (m_ : Mode) : (List (Int × (Int × Int))) × Int × Int × Int × (List Int) × Unit → Option ((Int × Int × (List Int) × Unit)) := loop m_ (pendulumref29_Select.b0 m_)
theorem pendulumref29_Select.q0 (v) : pendulumref29_Select.l0 .lim v = pendulumref29_Select.b0 .lim (pendulumref29_Select.l0 .lim) v := lfp_eq (cont_of_run (pendulumref29_Select.k0 .lim)) v
noncomputable def pendulumref29_Select.g0 (m_ : Mode) : Seg := ⟨pendulumref29_Select.e0, pendulumref29_Select.x0, pendulumref29_Select.l0 m_⟩
theorem pendulumref29_Select.s0 (m_ : Mode) (S0 w0 cs0) : SegGood P S0 w0 cs0 10 (pendulumref29_Select.g0 m_) := seg_loop m_ (oras_ok (pendulumref29_Select.csok m_)) (all_nil) (by rfl) (fun e he => List.all_eq_true.1 (show pendulumref29_Select.x0.all Spec.ok = true by rfl) e he) (pendulumref29_Select.k0 m_)
noncomputable def pendulumref29_Select.run (m_ : Mode) : (List (Int × (Int × Int))) × Unit → Option ((List Int) × Int × Int × Int × Unit) := fun v_ => match v_ with
| (l, ()) =>
  bif smallI (l.length : Int) then
  bif decide ((l.length : Int) = (0 : Int)) then
    some (([] : List Int), (0 : Int), (0 : Int), (19 : Int), ())
  else
    (pendulumref29_Most.run m_ (l, ())).bind fun (r, r1, r2, ()) =>
    bif smallI (l.length : Int) then
    bif decide ((IntKind.i64.wrap ((2 : Int) * r)) ≤ (l.length : Int)) then
      some (([] : List Int), (0 : Int), (0 : Int), (22 : Int), ())
    else
      (pendulumref29_Select.l0 m_ (l, r1, r2, (0 : Int), ([] : List Int), ())).bind fun (low, high, m, ()) =>
      some (m, low, high, (0 : Int), ())
    else none
  else none
noncomputable def pendulumref29_Select.c (m_ : Mode) : Callee := ⟨10, [.one (.lst (.pair (.int .i64) (.pair (.int .i64) (.int .i64))))], .tup [.own (.int .i64), .sh (.one (.int .i64)), .sh (.one (.int .i64)), .sh (.one (.int .i64))], pendulumref29_Select.run m_⟩
theorem pendulumref29_Select.k (m_ : Mode) : ∀ v : Shs (pendulumref29_Select.c m_).args, runS P (oras (pendulumref29_Select.cs m_)) pendulumref29_Select.inl [] [pendulumref29_Select.g0 m_] (pendulumref29_Select.c m_).res.fin 20000 false (start 10 (encs (pendulumref29_Select.c m_).args v)) = pendulumref29_Select.run m_ v := by
  intro v_; exact (match v_ with | (l, ()) => by kernel_rfl)
theorem pendulumref29_Select.ok (m_ : Mode) : (pendulumref29_Select.c m_).OK P := Callee.of_run (fun S0 w0 => (oras_ok (pendulumref29_Select.csok m_))) (by kernel_rfl) (by rfl) (fun S0 w0 cs0 => all_cons (pendulumref29_Select.s0 m_ S0 w0 cs0) (all_nil)) (fun x r h => (pendulumref29_Select.k m_ x).trans h)

/-! ### pendulum/pendulumlaw29.SelSelects -/
noncomputable def pendulumlaw29_SelSelects.cs (m_ : Mode) : List Callee := [pendulumref29_Fit.c m_, pendulumlaw29_awake.t, sel_Select.c m_, pendulumref29_Select.c m_, pendulumlaw29_ints.c m_]
theorem pendulumlaw29_SelSelects.csok (m_ : Mode) : ∀ k ∈ pendulumlaw29_SelSelects.cs m_, k.OK P := all_cons (pendulumref29_Fit.ok m_) (all_cons pendulumlaw29_awake.okt (all_cons (sel_Select.ok m_) (all_cons (pendulumref29_Select.ok m_) (all_cons (pendulumlaw29_ints.ok m_) (all_nil)))))
def pendulumlaw29_SelSelects.inl : FuncId → Bool := fun f => [].any (Nat.beq f)
noncomputable def pendulumlaw29_SelSelects.run (m_ : Mode) : (List (Int × (Int × Int))) × Unit → Option (Bool) := fun v_ => match v_ with
| (l, ()) =>
  (pendulumref29_Fit.run m_ (l, ())).bind fun r =>
  bif !r then
    (some true).bind fun r1 =>
    some r1
  else
    (sel_Select.run m_ (l, ())).bind fun (r2, r3, r4, r5, ()) =>
    (pendulumref29_Select.run m_ (l, ())).bind fun (r6, r7, r8, r9, ()) =>
    (pendulumlaw29_ints.run m_ (r2, r6, ())).bind fun r10 =>
    ((bif (((r10 && (decide (r3 = r7))) && (decide (r4 = r8))) && (decide (r5 = r9))) then some true else some false)).bind fun r11 =>
    some ((((r10 && (decide (r3 = r7))) && (decide (r4 = r8))) && (decide (r5 = r9))) && r11)
noncomputable def pendulumlaw29_SelSelects.c (m_ : Mode) : Callee := ⟨3, [.one (.lst (.pair (.int .i64) (.pair (.int .i64) (.int .i64))))], .one (.sh (.one .bool)), pendulumlaw29_SelSelects.run m_⟩
theorem pendulumlaw29_SelSelects.k (m_ : Mode) : ∀ v : Shs (pendulumlaw29_SelSelects.c m_).args, runS P (oras (pendulumlaw29_SelSelects.cs m_)) pendulumlaw29_SelSelects.inl [] [] (pendulumlaw29_SelSelects.c m_).res.fin 20000 false (start 3 (encs (pendulumlaw29_SelSelects.c m_).args v)) = pendulumlaw29_SelSelects.run m_ v := by
  intro v_; exact (match v_ with | (l, ()) => by kernel_rfl)
theorem pendulumlaw29_SelSelects.ok (m_ : Mode) : (pendulumlaw29_SelSelects.c m_).OK P := Callee.of_run (fun S0 w0 => (oras_ok (pendulumlaw29_SelSelects.csok m_))) (by kernel_rfl) (by rfl) (fun S0 w0 cs0 => all_nil) (fun x r h => (pendulumlaw29_SelSelects.k m_ x).trans h)

/-! ### pendulum/pendulumlaw29.SelTruth -/
noncomputable def pendulumlaw29_SelTruth.cs (m_ : Mode) : List Callee := [pendulumref29_Fit.c m_, pendulumlaw29_awake.t, sel_Select.c m_, pendulumref29_Count.c m_, pendulumref29_Reach.c m_]
theorem pendulumlaw29_SelTruth.csok (m_ : Mode) : ∀ k ∈ pendulumlaw29_SelTruth.cs m_, k.OK P := all_cons (pendulumref29_Fit.ok m_) (all_cons pendulumlaw29_awake.okt (all_cons (sel_Select.ok m_) (all_cons (pendulumref29_Count.ok m_) (all_cons (pendulumref29_Reach.ok m_) (all_nil)))))
def pendulumlaw29_SelTruth.inl : FuncId → Bool := fun f => [].any (Nat.beq f)
def pendulumlaw29_SelTruth.e0 : Spec := ⟨[{ fn := 4, items := [.code [.r, .r, .r, .r, .r, .r, .l, .r, .l, .l], .inLoop [.r, .r, .r, .r, .r, .r, .l, .r, .l, .l], .inBlock 0, .code [.r, .r, .r, .r, .r, .r, .r]], slots := [(0, .dat (.lst (.pair (.int .i64) (.pair (.int .i64) (.int .i64))))), (1, .dat (.int .i64)), (8, .dat (.int .i64)), (9, .dat (.int .i64)), (11, .dat (.int .i64)), (12, .dat .bool), (63, .own 19 (.int .i64)), (64, .dat (.int .i64)), (65, .dat (.int .i64))] }], [(19, .cells false [.row (.int .i64)])], 20⟩
def pendulumlaw29_SelTruth.x0 : List Spec := [⟨[{ fn := 4, items := [.code [.r, .r, .r, .r, .r, .r, .l, .r, .l, .l, .r, .r, .l, .l, .r, .l, .r, .l, .r], .code [.r, .r, .r, .r, .r, .r, .l, .r, .l, .l, .r, .r, .l, .l, .r, .r], .inBlock 1, .code [.r, .r, .r, .r, .r, .r, .l, .r, .l, .l, .r, .r, .r], .inLoop [.r, .r, .r, .r, .r, .r, .l, .r, .l, .l], .inBlock 0, .code [.r, .r, .r, .r, .r, .r, .r]], slots := [(6, .dat .bool)] }], [], 0⟩, ⟨[{ fn := 4, items := [.code [.r, .r, .r, .r, .r, .r, .l, .r, .l, .l, .r, .r, .l, .l, .r, .r, .r, .l, .r, .l, .r], .code [.r, .r, .r, .r, .r, .r, .l, .r, .l, .l, .r, .r, .l, .l, .r, .r, .r, .r], .inBlock 1, .code [.r, .r, .r, .r, .r, .r, .l, .r, .l, .l, .r, .r, .r], .inLoop [.r, .r, .r, .r, .r, .r, .l, .r, .l, .l], .inBlock 0, .code [.r, .r, .r, .r, .r, .r, .r]], slots := [(6, .dat .bool)] }], [], 0⟩, ⟨[{ fn := 4, items := [.code [.r, .r, .r, .r, .r, .r, .l, .r, .l, .l, .r, .r, .l, .l, .r, .r, .r, .r, .r, .l, .r, .l, .r, .l, .r], .code [.r, .r, .r, .r, .r, .r, .l, .r, .l, .l, .r, .r, .l, .l, .r, .r, .r, .r, .r, .l, .r, .r], .inBlock 1, .code [.r, .r, .r, .r, .r, .r, .l, .r, .l, .l, .r, .r, .r], .inLoop [.r, .r, .r, .r, .r, .r, .l, .r, .l, .l], .inBlock 0, .code [.r, .r, .r, .r, .r, .r, .r]], slots := [(6, .dat .bool)] }], [], 0⟩, ⟨[{ fn := 4, items := [.code [.r, .r, .r, .r, .r, .r, .r]], slots := [(12, .dat .bool)] }], [], 0⟩]
noncomputable def pendulumlaw29_SelTruth.b0 (m_ : Mode) (self : (List (Int × (Int × Int))) × Int × Int × Int × Int × Bool × Int × Int × (List Int) × Unit → Option ((Bool × Unit) ⊕ (Bool × Unit) ⊕ (Bool × Unit) ⊕ (Bool × Unit))) : (List (Int × (Int × Int))) × Int × Int × Int × Int × Bool × Int × Int × (List Int) × Unit → Option ((Bool × Unit) ⊕ (Bool × Unit) ⊕ (Bool × Unit) ⊕ (Bool × Unit)) := fun v_ => match v_ with
| (l, truth, low, high, point, found, t, t1, m, ()) =>
  bif decide (t1 < t) then
    bif inB t1 (m.length : Int) then
    bif ((!(!(decide ((rd (0 : Int) m t1) < (0 : Int))))) || (smallI (l.length : Int))) then
    bif ((decide ((rd (0 : Int) m t1) < (0 : Int))) || (decide ((rd (0 : Int) m t1) ≥ (l.length : Int)))) then
      some (.inl (false, ()))
    else
      bif inB (rd (0 : Int) m t1) (l.length : Int) then
      (pendulumref29_Reach.run m_ (((rd ((0 : Int), ((0 : Int), (0 : Int))) l (rd (0 : Int) m t1)).1, (((rd ((0 : Int), ((0 : Int), (0 : Int))) l (rd (0 : Int) m t1)).2).1, ((rd ((0 : Int), ((0 : Int), (0 : Int))) l (rd (0 : Int) m t1)).2).2)), ())).bind fun (r, r1, ()) =>
      bif ((decide (r > low)) || (decide (r1 < high))) then
        some (.inr (.inl (false, ())))
      else
        bif ((decide (r ≤ truth)) && (decide (truth ≤ r1))) then
          bif inB (rd (0 : Int) m t1) (l.length : Int) then
          bif decide ((mx (IntKind.i64.wrap (point - truth)) (IntKind.i64.wrap (truth - point))) > (IntKind.i64.wrap ((2 : Int) * (((rd ((0 : Int), ((0 : Int), (0 : Int))) l (rd (0 : Int) m t1)).2).1)))) then
            some (.inr (.inr (.inl (false, ()))))
          else
            self (l, truth, low, high, point, true, t, (IntKind.i64.wrap (t1 + (1 : Int))), m, ())
          else none
        else
          self (l, truth, low, high, point, found, t, (IntKind.i64.wrap (t1 + (1 : Int))), m, ())
      else none
    else none
    else none
  else
    some (.inr (.inr (.inr (found, ()))))
theorem pendulumlaw29_SelTruth.k0 (m_ : Mode) : ∀ (self : Known pendulumlaw29_SelTruth.e0.sls → Option (Exits pendulumlaw29_SelTruth.x0)) (v : Known pendulumlaw29_SelTruth.e0.sls), runS P (oras (pendulumlaw29_SelTruth.cs m_)) pendulumlaw29_SelTruth.inl (⟨pendulumlaw29_SelTruth.e0, self⟩ :: exitCuts pendulumlaw29_SelTruth.x0 id) [] (fun _ _ => none) 20000 false (pendulumlaw29_SelTruth.e0.mk' v) = pendulumlaw29_SelTruth.b0 m_ self v := by
  intro self v_; exact (match v_ with | (l, truth, low, high, point, found, t, t1, m, ()) => by kernel_rfl)
noncomputable def pendulumlaw29_SelTruth.l0 (m_ : Mode) : (List (Int × (Int × Int))) × Int × Int × Int × Int × Bool × Int × Int × (List Int) × Unit → Option ((Bool × Unit) ⊕ (Bool × Unit) ⊕ (Bool × Unit) ⊕ (Bool × Unit)) := loop m_ (pendulumlaw29_SelTruth.b0 m_)
theorem pendulumlaw29_SelTruth.q0 (v) : pendulumlaw29_SelTruth.l0 .lim v = pendulumlaw29_SelTruth.b0 .lim (pendulumlaw29_SelTruth.l0 .lim) v := lfp_eq (cont_of_run (pendulumlaw29_SelTruth.k0 .lim)) v
noncomputable def pendulumlaw29_SelTruth.g0 (m_ : Mode) : Seg := ⟨pendulumlaw29_SelTruth.e0, pendulumlaw29_SelTruth.x0, pendulumlaw29_SelTruth.l0 m_⟩
theorem pendulumlaw29_SelTruth.s0 (m_ : Mode) (S0 w0 cs0) : SegGood P S0 w0 cs0 4 (pendulumlaw29_SelTruth.g0 m_) := seg_loop m_ (oras_ok (pendulumlaw29_SelTruth.csok m_)) (all_nil) (by rfl) (fun e he => List.all_eq_true.1 (show pendulumlaw29_SelTruth.x0.all Spec.ok = true by rfl) e he) (pendulumlaw29_SelTruth.k0 m_)
noncomputable def pendulumlaw29_SelTruth.run (m_ : Mode) : (List (Int × (Int × Int))) × Int × Int × Unit → Option (Bool) := fun v_ => match v_ with
| (l, truth, atV, ()) =>
  (pendulumref29_Fit.run m_ (l, ())).bind fun r =>
  bif (!!!r || (smallI (l.length : Int))) then
  ((bif !(!r || (decide ((l.length : Int) = (0 : Int)))) then pendulumref29_Count.run m_ (l, truth, ()) else some (0 : Int))).bind fun r1 =>
  bif ((!(!(!r || (decide ((l.length : Int) = (0 : Int)))))) || (smallI (l.length : Int))) then
  bif ((!r || (decide ((l.length : Int) = (0 : Int)))) || (decide ((IntKind.i64.wrap ((2 : Int) * r1)) ≤ (l.length : Int)))) then
    (some true).bind fun r2 =>
    some r2
  else
    (sel_Select.run m_ (l, ())).bind fun (r3, r4, r5, r6, ()) =>
    bif ((!(!(!(decide (r6 = (0 : Int)))))) || (smallI (r3.length : Int))) then
    bif ((!(!(!(decide (r6 = (0 : Int)))))) || (smallI (l.length : Int))) then
    bif (((!(decide (r6 = (0 : Int)))) || (decide ((IntKind.i64.wrap ((2 : Int) * (r3.length : Int))) ≤ (l.length : Int)))) || (decide (r4 > r5))) then
      some false
    else
      bif smallI (r3.length : Int) then
      (pendulumlaw29_SelTruth.l0 m_ (l, truth, r4, r5, (mn (mx atV r4) r5), false, (r3.length : Int), (0 : Int), r3, ())).bind fun g_ => match g_ with
      | .inl (t, ()) =>
        some t
      | .inr (.inl (t1, ())) =>
        some t1
      | .inr (.inr (.inl (t2, ()))) =>
        some t2
      | .inr (.inr (.inr (found, ()))) =>
        ((bif found then some true else some false)).bind fun r7 =>
        some (found && r7)
      else none
    else none
    else none
  else none
  else none
noncomputable def pendulumlaw29_SelTruth.c (m_ : Mode) : Callee := ⟨4, [.one (.lst (.pair (.int .i64) (.pair (.int .i64) (.int .i64)))), .one (.int .i64), .one (.int .i64)], .one (.sh (.one .bool)), pendulumlaw29_SelTruth.run m_⟩
theorem pendulumlaw29_SelTruth.k (m_ : Mode) : ∀ v : Shs (pendulumlaw29_SelTruth.c m_).args, runS P (oras (pendulumlaw29_SelTruth.cs m_)) pendulumlaw29_SelTruth.inl [] [pendulumlaw29_SelTruth.g0 m_] (pendulumlaw29_SelTruth.c m_).res.fin 20000 false (start 4 (encs (pendulumlaw29_SelTruth.c m_).args v)) = pendulumlaw29_SelTruth.run m_ v := by
  intro v_; exact (match v_ with | (l, truth, atV, ()) => by kernel_rfl)
theorem pendulumlaw29_SelTruth.ok (m_ : Mode) : (pendulumlaw29_SelTruth.c m_).OK P := Callee.of_run (fun S0 w0 => (oras_ok (pendulumlaw29_SelTruth.csok m_))) (by kernel_rfl) (by rfl) (fun S0 w0 cs0 => all_cons (pendulumlaw29_SelTruth.s0 m_ S0 w0 cs0) (all_nil)) (fun x r h => (pendulumlaw29_SelTruth.k m_ x).trans h)

/-! ### pendulum/pendulumlaw29.SelMost -/
noncomputable def pendulumlaw29_SelMost.cs (m_ : Mode) : List Callee := [pendulumref29_Fit.c m_, pendulumlaw29_awake.t, pendulumref29_Count.c m_, sel_Most.c m_]
theorem pendulumlaw29_SelMost.csok (m_ : Mode) : ∀ k ∈ pendulumlaw29_SelMost.cs m_, k.OK P := all_cons (pendulumref29_Fit.ok m_) (all_cons pendulumlaw29_awake.okt (all_cons (pendulumref29_Count.ok m_) (all_cons (sel_Most.ok m_) (all_nil))))
def pendulumlaw29_SelMost.inl : FuncId → Bool := fun f => [].any (Nat.beq f)
def pendulumlaw29_SelMost.e0 : Spec := ⟨[{ fn := 5, items := [.code [.r, .r, .r, .r, .l, .r, .l, .l], .inLoop [.r, .r, .r, .r, .l, .r, .l, .l], .inBlock 0, .code [.r, .r, .r, .r, .r]], slots := [(0, .dat (.lst (.pair (.int .i64) (.pair (.int .i64) (.int .i64))))), (2, .dat (.int .i64)), (4, .ptr 0 0), (7, .dat (.int .i64)), (8, .dat (.int .i64)), (9, .dat (.int .i64)), (10, .own 5003 (.pair (.int .i64) (.pair (.int .i64) (.int .i64)))), (30, .dat (.int .i64)), (31, .dat (.int .i64))] }], [(0, .cells false [.dat (.int .i64), .dat (.int .i64), .dat (.int .i64)]), (5003, .cells false [.row (.pair (.int .i64) (.pair (.int .i64) (.int .i64)))])], 5004⟩
def pendulumlaw29_SelMost.x0 : List Spec := [⟨[{ fn := 5, items := [.code [.r, .r, .r, .r, .r]], slots := [(0, .dat (.lst (.pair (.int .i64) (.pair (.int .i64) (.int .i64))))), (2, .dat (.int .i64)), (4, .ptr 0 0), (7, .dat (.int .i64)), (8, .dat (.int .i64)), (9, .dat (.int .i64)), (10, .own 5003 (.pair (.int .i64) (.pair (.int .i64) (.int .i64))))] }], [(0, .cells false [.dat (.int .i64), .dat (.int .i64), .dat (.int .i64)]), (5003, .cells false [.row (.pair (.int .i64) (.pair (.int .i64) (.int .i64)))])], 5004⟩]
noncomputable def pendulumlaw29_SelMost.b0 (m_ : Mode) (self : (List (Int × (Int × Int))) × Int × Int × Int × Int × Int × Int × Int × Int × Int × (List (Int × (Int × Int))) × Unit → Option (((List (Int × (Int × Int))) × Int × Int × Int × Int × Int × Int × Int × (List (Int × (Int × Int))) × Unit))) : (List (Int × (Int × Int))) × Int × Int × Int × Int × Int × Int × Int × Int × Int × (List (Int × (Int × Int))) × Unit → Option (((List (Int × (Int × Int))) × Int × Int × Int × Int × Int × Int × Int × (List (Int × (Int × Int))) × Unit)) := fun v_ => match v_ with
| (l, atV, m, low, high, t, t1, m1, m2, m3, m4, ()) =>
  bif decide (t1 < t) then
    bif smallI (l.length : Int) then
    bif inB (IntKind.i64.wrap ((IntKind.i64.wrap ((l.length : Int) - (1 : Int))) - t1)) (l.length : Int) then
    bif decide (m4.length + ([((rd ((0 : Int), ((0 : Int), (0 : Int))) l (IntKind.i64.wrap ((IntKind.i64.wrap ((l.length : Int) - (1 : Int))) - t1))).1, (((rd ((0 : Int), ((0 : Int), (0 : Int))) l (IntKind.i64.wrap ((IntKind.i64.wrap ((l.length : Int) - (1 : Int))) - t1))).2).1, ((rd ((0 : Int), ((0 : Int), (0 : Int))) l (IntKind.i64.wrap ((IntKind.i64.wrap ((l.length : Int) - (1 : Int))) - t1))).2).2))] : List (Int × (Int × Int))).length < 2932031007402) then self (l, atV, m, low, high, t, (IntKind.i64.wrap (t1 + (1 : Int))), m1, m2, m3, (m4 ++ ([((rd ((0 : Int), ((0 : Int), (0 : Int))) l (IntKind.i64.wrap ((IntKind.i64.wrap ((l.length : Int) - (1 : Int))) - t1))).1, (((rd ((0 : Int), ((0 : Int), (0 : Int))) l (IntKind.i64.wrap ((IntKind.i64.wrap ((l.length : Int) - (1 : Int))) - t1))).2).1, ((rd ((0 : Int), ((0 : Int), (0 : Int))) l (IntKind.i64.wrap ((IntKind.i64.wrap ((l.length : Int) - (1 : Int))) - t1))).2).2))] : List (Int × (Int × Int)))), ()) else none
    else none
    else none
  else
    some (l, atV, m, low, high, m1, m2, m3, m4, ())
theorem pendulumlaw29_SelMost.k0 (m_ : Mode) : ∀ (self : Known pendulumlaw29_SelMost.e0.sls → Option (Exits pendulumlaw29_SelMost.x0)) (v : Known pendulumlaw29_SelMost.e0.sls), runS P (oras (pendulumlaw29_SelMost.cs m_)) pendulumlaw29_SelMost.inl (⟨pendulumlaw29_SelMost.e0, self⟩ :: exitCuts pendulumlaw29_SelMost.x0 id) [] (fun _ _ => none) 20000 false (pendulumlaw29_SelMost.e0.mk' v) = pendulumlaw29_SelMost.b0 m_ self v := by
  intro self v_; exact (match v_ with | (l, atV, m, low, high, t, t1, m1, m2, m3, m4, ()) => by kernel_rfl)
noncomputable def pendulumlaw29_SelMost.l0 (m_ : Mode) : (List (Int × (Int × Int))) × Int × Int × Int × Int × Int × Int × Int × Int × Int × (List (Int × (Int × Int))) × Unit → Option (((List (Int × (Int × Int))) × Int × Int × Int × Int × Int × Int × Int × (List (Int × (Int × Int))) × Unit)) := loop m_ (pendulumlaw29_SelMost.b0 m_)
theorem pendulumlaw29_SelMost.q0 (v) : pendulumlaw29_SelMost.l0 .lim v = pendulumlaw29_SelMost.b0 .lim (pendulumlaw29_SelMost.l0 .lim) v := lfp_eq (cont_of_run (pendulumlaw29_SelMost.k0 .lim)) v
noncomputable def pendulumlaw29_SelMost.g0 (m_ : Mode) : Seg := ⟨pendulumlaw29_SelMost.e0, pendulumlaw29_SelMost.x0, pendulumlaw29_SelMost.l0 m_⟩
theorem pendulumlaw29_SelMost.s0 (m_ : Mode) (S0 w0 cs0) : SegGood P S0 w0 cs0 5 (pendulumlaw29_SelMost.g0 m_) := seg_loop m_ (oras_ok (pendulumlaw29_SelMost.csok m_)) (all_nil) (by rfl) (fun e he => List.all_eq_true.1 (show pendulumlaw29_SelMost.x0.all Spec.ok = true by rfl) e he) (pendulumlaw29_SelMost.k0 m_)
noncomputable def pendulumlaw29_SelMost.run (m_ : Mode) : (List (Int × (Int × Int))) × (Int × (Int × Int)) × Int × Unit → Option (Bool) := fun v_ => match v_ with
| (l, p, atV, ()) =>
  (pendulumref29_Fit.run m_ (l, ())).bind fun r =>
  bif !r then
    (some true).bind fun r1 =>
    some r1
  else
    (sel_Most.run m_ (l, ())).bind fun (r2, r3, r4, ()) =>
    bif smallI (l.length : Int) then
    (pendulumlaw29_SelMost.l0 m_ (l, atV, r2, r3, r4, (l.length : Int), (0 : Int), p.1, p.2.1, p.2.2, ([] : List (Int × (Int × Int))), ())).bind fun (l1, atV1, m, low, high, m1, m2, m3, m4, ()) =>
    (sel_Most.run m_ (m4, ())).bind fun (r5, r6, r7, ()) =>
    ((bif !(((!(decide (m = r5))) || (!(decide (low = r6)))) || (!(decide (high = r7)))) then pendulumref29_Count.run m_ (l1, atV1, ()) else some (0 : Int))).bind fun r8 =>
    bif ((!(!((((!(decide (m = r5))) || (!(decide (low = r6)))) || (!(decide (high = r7)))) || (decide (r8 > m))))) || (smallI (l1.length : Int))) then
    ((bif ((!((((!(decide (m = r5))) || (!(decide (low = r6)))) || (!(decide (high = r7)))) || (decide (r8 > m)))) && (decide ((l1.length : Int) > (0 : Int)))) then pendulumref29_Count.run m_ (l1, low, ()) else some (0 : Int))).bind fun r9 =>
    ((bif (((!((((!(decide (m = r5))) || (!(decide (low = r6)))) || (!(decide (high = r7)))) || (decide (r8 > m)))) && (decide ((l1.length : Int) > (0 : Int)))) && (!(!(decide (r9 = m))))) then pendulumref29_Count.run m_ (l1, high, ()) else some (0 : Int))).bind fun r10 =>
    bif (((((!(decide (m = r5))) || (!(decide (low = r6)))) || (!(decide (high = r7)))) || (decide (r8 > m))) || ((decide ((l1.length : Int) > (0 : Int))) && (((!(decide (r9 = m))) || (decide (r10 < m))) || (decide (low > high))))) then
      some false
    else
      bif decide (([] : List (Int × (Int × Int))).length + l1.length < 2932031007402) then
      bif decide ((([] : List (Int × (Int × Int))) ++ l1).length + ([(m1, (m2, m3))] : List (Int × (Int × Int))).length < 2932031007402) then
      (pendulumref29_Fit.run m_ (((([] : List (Int × (Int × Int))) ++ l1) ++ ([(m1, (m2, m3))] : List (Int × (Int × Int)))), ())).bind fun r11 =>
      bif !r11 then
        (some true).bind fun r12 =>
        some r12
      else
        (sel_Most.run m_ (((([] : List (Int × (Int × Int))) ++ l1) ++ ([(m1, (m2, m3))] : List (Int × (Int × Int)))), ())).bind fun (r13, r14, r15, ()) =>
        ((bif (((decide (r13 ≥ m)) && (decide (r13 ≤ (IntKind.i64.wrap (m + (1 : Int)))))) && (decide (r13 ≥ (1 : Int)))) then some true else some false)).bind fun r16 =>
        some ((((decide (r13 ≥ m)) && (decide (r13 ≤ (IntKind.i64.wrap (m + (1 : Int)))))) && (decide (r13 ≥ (1 : Int)))) && r16)
      else none
      else none
    else none
    else none
noncomputable def pendulumlaw29_SelMost.c (m_ : Mode) : Callee := ⟨5, [.one (.lst (.pair (.int .i64) (.pair (.int .i64) (.int .i64)))), .ag (.pair (.int .i64) (.pair (.int .i64) (.int .i64))), .one (.int .i64)], .one (.sh (.one .bool)), pendulumlaw29_SelMost.run m_⟩
theorem pendulumlaw29_SelMost.k (m_ : Mode) : ∀ v : Shs (pendulumlaw29_SelMost.c m_).args, runS P (oras (pendulumlaw29_SelMost.cs m_)) pendulumlaw29_SelMost.inl [] [pendulumlaw29_SelMost.g0 m_] (pendulumlaw29_SelMost.c m_).res.fin 20000 false (start 5 (encs (pendulumlaw29_SelMost.c m_).args v)) = pendulumlaw29_SelMost.run m_ v := by
  intro v_; exact (match v_ with | (l, p, atV, ()) => by kernel_rfl)
theorem pendulumlaw29_SelMost.ok (m_ : Mode) : (pendulumlaw29_SelMost.c m_).OK P := Callee.of_run (fun S0 w0 => (oras_ok (pendulumlaw29_SelMost.csok m_))) (by kernel_rfl) (by rfl) (fun S0 w0 cs0 => all_cons (pendulumlaw29_SelMost.s0 m_ S0 w0 cs0) (all_nil)) (fun x r h => (pendulumlaw29_SelMost.k m_ x).trans h)

/-! ### pendulum/sel.within -/
noncomputable def sel_within.cs (m_ : Mode) : List Callee := []
theorem sel_within.csok (m_ : Mode) : ∀ k ∈ sel_within.cs m_, k.OK P := all_nil
def sel_within.inl : FuncId → Bool := fun f => [].any (Nat.beq f)
noncomputable def sel_within.run (m_ : Mode) : Int × Int × Int × Unit → Option (Bool) := fun v_ => match v_ with
| (n, low, high, ()) =>
  some ((decide (low ≤ n)) && (decide (n ≤ high)))
noncomputable def sel_within.c (m_ : Mode) : Callee := ⟨24, [.one (.int .i64), .one (.int .i64), .one (.int .i64)], .one (.sh (.one .bool)), sel_within.run m_⟩
theorem sel_within.k (m_ : Mode) : ∀ v : Shs (sel_within.c m_).args, runS P (oras (sel_within.cs m_)) sel_within.inl [] [] (sel_within.c m_).res.fin 20000 false (start 24 (encs (sel_within.c m_).args v)) = sel_within.run m_ v := by
  intro v_; exact (match v_ with | (n, low, high, ()) => by kernel_rfl)
theorem sel_within.ok (m_ : Mode) : (sel_within.c m_).OK P := Callee.of_run (fun S0 w0 => (oras_ok (sel_within.csok m_))) (by kernel_rfl) (by rfl) (fun S0 w0 cs0 => all_nil) (fun x r h => (sel_within.k m_ x).trans h)

/-! ### pendulum/sel.Fit$1 -/
noncomputable def sel_Fit_1.cs (m_ : Mode) : List Callee := [sel_within.c m_]
theorem sel_Fit_1.csok (m_ : Mode) : ∀ k ∈ sel_Fit_1.cs m_, k.OK P := all_cons (sel_within.ok m_) (all_nil)
def sel_Fit_1.inl : FuncId → Bool := fun f => [].any (Nat.beq f)
noncomputable def sel_Fit_1.run (m_ : Mode) : (Int × (Int × Int)) × Unit → Option (Bool) := fun v_ => match v_ with
| (p, ()) =>
  (sel_within.run m_ (p.1, (-140737488355328 : Int), (140737488355328 : Int), ())).bind fun r =>
  ((bif !!r then sel_within.run m_ (p.2.1, (0 : Int), (140737488355328 : Int), ()) else some false)).bind fun r1 =>
  ((bif !(!r || !r1) then sel_within.run m_ (p.2.2, (0 : Int), (140737488355328 : Int), ()) else some false)).bind fun r2 =>
  some ((!r || !r1) || !r2)
noncomputable def sel_Fit_1.c (m_ : Mode) : Callee := ⟨23, [.ag (.pair (.int .i64) (.pair (.int .i64) (.int .i64)))], .one (.sh (.one .bool)), sel_Fit_1.run m_⟩
theorem sel_Fit_1.k (m_ : Mode) : ∀ v : Shs (sel_Fit_1.c m_).args, runS P (oras (sel_Fit_1.cs m_)) sel_Fit_1.inl [] [] (sel_Fit_1.c m_).res.fin 20000 false (start 23 (encs (sel_Fit_1.c m_).args v)) = sel_Fit_1.run m_ v := by
  intro v_; exact (match v_ with | (p, ()) => by kernel_rfl)
theorem sel_Fit_1.ok (m_ : Mode) : (sel_Fit_1.c m_).OK P := Callee.of_run (fun S0 w0 => (oras_ok (sel_Fit_1.csok m_))) (by kernel_rfl) (by rfl) (fun S0 w0 cs0 => all_nil) (fun x r h => (sel_Fit_1.k m_ x).trans h)

/-! ### pendulum/sel.Fit -/
noncomputable def sel_Fit.cs (m_ : Mode) : List Callee := [sel_Fit_1.c m_]
theorem sel_Fit.csok (m_ : Mode) : ∀ k ∈ sel_Fit.cs m_, k.OK P := all_cons (sel_Fit_1.ok m_) (all_nil)
def sel_Fit.inl : FuncId → Bool := fun f => [22, 29].any (Nat.beq f)
def sel_Fit.e0 : Spec := ⟨[{ fn := 29, items := [.code [.r, .l, .r, .l, .l], .inLoop [.r, .l, .r, .l, .l], .inBlock 0, .code [.r, .r]], slots := [(0, .dat (.lst (.pair (.int .i64) (.pair (.int .i64) (.int .i64))))), (1, .fn (.func 23) []), (7, .dat (.int .i64)), (8, .dat (.int .i64))] }, { fn := 22, items := [.inRegion [.r, .l] [2, 3, 4], .code [.r, .r]], slots := [] }, { fn := 15, items := [.inRegion [.r, .l] [5, 6, 7, 8], .code [.r, .r]], slots := [(6, .dat .bool)] }], [], 0⟩
def sel_Fit.x0 : List Spec := [⟨[{ fn := 29, items := [.code [.r, .l, .r, .l, .l, .r, .r, .l, .l, .r, .r, .l, .r], .inBlock 1, .code [.r, .l, .r, .l, .l, .r, .r, .r], .inLoop [.r, .l, .r, .l, .l], .inBlock 0, .code [.r, .r]], slots := [(4, .dat (.int .i64))] }, { fn := 22, items := [.inRegion [.r, .l] [2, 3, 4], .code [.r, .r]], slots := [] }, { fn := 15, items := [.inRegion [.r, .l] [5, 6, 7, 8], .code [.r, .r]], slots := [(6, .dat .bool)] }], [], 0⟩, ⟨[{ fn := 29, items := [.code [.r, .r]], slots := [] }, { fn := 22, items := [.inRegion [.r, .l] [2, 3, 4], .code [.r, .r]], slots := [] }, { fn := 15, items := [.inRegion [.r, .l] [5, 6, 7, 8], .code [.r, .r]], slots := [(6, .dat .bool)] }], [], 0⟩]
noncomputable def sel_Fit.b0 (m_ : Mode) (self : (List (Int × (Int × Int))) × Int × Int × Bool × Unit → Option ((Int × Bool × Unit) ⊕ (Bool × Unit))) : (List (Int × (Int × Int))) × Int × Int × Bool × Unit → Option ((Int × Bool × Unit) ⊕ (Bool × Unit)) := fun v_ => match v_ with
| (s, t, t1, t2, ()) =>
  bif decide (t1 < t) then
    bif inB t1 (s.length : Int) then
    (sel_Fit_1.run m_ (((rd ((0 : Int), ((0 : Int), (0 : Int))) s t1).1, (((rd ((0 : Int), ((0 : Int), (0 : Int))) s t1).2).1, ((rd ((0 : Int), ((0 : Int), (0 : Int))) s t1).2).2)), ())).bind fun r =>
    bif r then
      some (.inl (t1, t2, ()))
    else
      self (s, t, (IntKind.i64.wrap (t1 + (1 : Int))), t2, ())
    else none
  else
    some (.inr (t2, ()))
theorem sel_Fit.k0 (m_ : Mode) : ∀ (self : Known sel_Fit.e0.sls → Option (Exits sel_Fit.x0)) (v : Known sel_Fit.e0.sls), runS P (oras (sel_Fit.cs m_)) sel_Fit.inl (⟨sel_Fit.e0, self⟩ :: exitCuts sel_Fit.x0 id) [] (fun _ _ => none) 20000 false (sel_Fit.e0.mk' v) = sel_Fit.b0 m_ self v := by
  intro self v_; exact (match v_ with | (s, t, t1, t2, ()) => by kernel_rfl)
noncomputable def sel_Fit.l0 (m_ : Mode) : (List (Int × (Int × Int))) × Int × Int × Bool × Unit → Option ((Int × Bool × Unit) ⊕ (Bool × Unit)) := loop m_ (sel_Fit.b0 m_)
theorem sel_Fit.q0 (v) : sel_Fit.l0 .lim v = sel_Fit.b0 .lim (sel_Fit.l0 .lim) v := lfp_eq (cont_of_run (sel_Fit.k0 .lim)) v
noncomputable def sel_Fit.g0 (m_ : Mode) : Seg := ⟨sel_Fit.e0, sel_Fit.x0, sel_Fit.l0 m_⟩
theorem sel_Fit.s0 (m_ : Mode) (S0 w0 cs0) : SegGood P S0 w0 cs0 15 (sel_Fit.g0 m_) := seg_loop m_ (oras_ok (sel_Fit.csok m_)) (all_nil) (by rfl) (fun e he => List.all_eq_true.1 (show sel_Fit.x0.all Spec.ok = true by rfl) e he) (sel_Fit.k0 m_)
noncomputable def sel_Fit.run (m_ : Mode) : (List (Int × (Int × Int))) × Unit → Option (Bool) := fun v_ => match v_ with
| (l, ()) =>
  bif smallI (l.length : Int) then
  bif decide ((l.length : Int) ≤ (10 : Int)) then
    bif smallI (l.length : Int) then
    (sel_Fit.l0 m_ (l, (l.length : Int), (0 : Int), decide ((l.length : Int) ≤ (10 : Int)), ())).bind fun g_ => match g_ with
    | .inl (t, t1, ()) =>
      some (t1 && (!(decide (t ≥ (0 : Int)))))
    | .inr (t2, ()) =>
      some (t2 && true)
    else none
  else
    some ((decide ((l.length : Int) ≤ (10 : Int))) && true)
  else none
noncomputable def sel_Fit.c (m_ : Mode) : Callee := ⟨15, [.one (.lst (.pair (.int .i64) (.pair (.int .i64) (.int .i64))))], .one (.sh (.one .bool)), sel_Fit.run m_⟩
theorem sel_Fit.k (m_ : Mode) : ∀ v : Shs (sel_Fit.c m_).args, runS P (oras (sel_Fit.cs m_)) sel_Fit.inl [] [sel_Fit.g0 m_] (sel_Fit.c m_).res.fin 20000 false (start 15 (encs (sel_Fit.c m_).args v)) = sel_Fit.run m_ v := by
  intro v_; exact (match v_ with | (l, ()) => by kernel_rfl)
theorem sel_Fit.ok (m_ : Mode) : (sel_Fit.c m_).OK P := Callee.of_run (fun S0 w0 => (oras_ok (sel_Fit.csok m_))) (by kernel_rfl) (by rfl) (fun S0 w0 cs0 => all_cons (sel_Fit.s0 m_ S0 w0 cs0) (all_nil)) (fun x r h => (sel_Fit.k m_ x).trans h)

/-! ### pendulum/sel.Count -/
noncomputable def sel_Count.cs (m_ : Mode) : List Callee := [sel_reaches.c m_]
theorem sel_Count.csok (m_ : Mode) : ∀ k ∈ sel_Count.cs m_, k.OK P := all_cons (sel_reaches.ok m_) (all_nil)
def sel_Count.inl : FuncId → Bool := fun f => [].any (Nat.beq f)
def sel_Count.e0 : Spec := ⟨[{ fn := 18, items := [.code [.r, .r, .l, .r, .l, .l], .inLoop [.r, .r, .l, .r, .l, .l], .inBlock 0, .code [.r, .r, .r]], slots := [(1, .dat (.int .i64)), (5, .dat (.int .i64)), (8, .dat (.lst (.pair (.int .i64) (.pair (.int .i64) (.int .i64))))), (9, .dat (.int .i64)), (10, .dat (.int .i64))] }], [], 0⟩
def sel_Count.x0 : List Spec := [⟨[{ fn := 18, items := [.code [.r, .r, .r]], slots := [(5, .dat (.int .i64))] }], [], 0⟩]
noncomputable def sel_Count.b0 (m_ : Mode) (self : Int × Int × (List (Int × (Int × Int))) × Int × Int × Unit → Option ((Int × Unit))) : Int × Int × (List (Int × (Int × Int))) × Int × Int × Unit → Option ((Int × Unit)) := fun v_ => match v_ with
| (atV, n, t, t1, t2, ()) =>
  bif decide (t2 < t1) then
    bif inB t2 (t.length : Int) then
    (sel_reaches.run m_ (((rd ((0 : Int), ((0 : Int), (0 : Int))) t t2).1, (((rd ((0 : Int), ((0 : Int), (0 : Int))) t t2).2).1, ((rd ((0 : Int), ((0 : Int), (0 : Int))) t t2).2).2)), atV, ())).bind fun r =>
    bif r then
      self (atV, (IntKind.i64.wrap (n + (1 : Int))), t, t1, (IntKind.i64.wrap (t2 + (1 : Int))), ())
    else
      self (atV, n, t, t1, (IntKind.i64.wrap (t2 + (1 : Int))), ())
    else none
  else
    some (n, ())
theorem sel_Count.k0 (m_ : Mode) : ∀ (self : Known sel_Count.e0.sls → Option (Exits sel_Count.x0)) (v : Known sel_Count.e0.sls), runS P (oras (sel_Count.cs m_)) sel_Count.inl (⟨sel_Count.e0, self⟩ :: exitCuts sel_Count.x0 id) [] (fun _ _ => none) 20000 false (sel_Count.e0.mk' v) = sel_Count.b0 m_ self v := by
  intro self v_; exact (match v_ with | (atV, n, t, t1, t2, ()) => by kernel_rfl)
noncomputable def sel_Count.l0 (m_ : Mode) : Int × Int × (List (Int × (Int × Int))) × Int × Int × Unit → Option ((Int × Unit)) := loop m_ (sel_Count.b0 m_)
theorem sel_Count.q0 (v) : sel_Count.l0 .lim v = sel_Count.b0 .lim (sel_Count.l0 .lim) v := lfp_eq (cont_of_run (sel_Count.k0 .lim)) v
noncomputable def sel_Count.g0 (m_ : Mode) : Seg := ⟨sel_Count.e0, sel_Count.x0, sel_Count.l0 m_⟩
theorem sel_Count.s0 (m_ : Mode) (S0 w0 cs0) : SegGood P S0 w0 cs0 18 (sel_Count.g0 m_) := seg_loop m_ (oras_ok (sel_Count.csok m_)) (all_nil) (by rfl) (fun e he => List.all_eq_true.1 (show sel_Count.x0.all Spec.ok = true by rfl) e he) (sel_Count.k0 m_)
noncomputable def sel_Count.run (m_ : Mode) : (List (Int × (Int × Int))) × Int × Unit → Option (Int) := fun v_ => match v_ with
| (l, atV, ()) =>
  bif smallI (l.length : Int) then
  (sel_Count.l0 m_ (atV, (0 : Int), l, (l.length : Int), (0 : Int), ())).bind fun (n, ()) =>
  some n
  else none
noncomputable def sel_Count.c (m_ : Mode) : Callee := ⟨18, [.one (.lst (.pair (.int .i64) (.pair (.int .i64) (.int .i64)))), .one (.int .i64)], .one (.sh (.one (.int .i64))), sel_Count.run m_⟩
theorem sel_Count.k (m_ : Mode) : ∀ v : Shs (sel_Count.c m_).args, runS P (oras (sel_Count.cs m_)) sel_Count.inl [] [sel_Count.g0 m_] (sel_Count.c m_).res.fin 20000 false (start 18 (encs (sel_Count.c m_).args v)) = sel_Count.run m_ v := by
  intro v_; exact (match v_ with | (l, atV, ()) => by kernel_rfl)
theorem sel_Count.ok (m_ : Mode) : (sel_Count.c m_).OK P := Callee.of_run (fun S0 w0 => (oras_ok (sel_Count.csok m_))) (by kernel_rfl) (by rfl) (fun S0 w0 cs0 => all_cons (sel_Count.s0 m_ S0 w0 cs0) (all_nil)) (fun x r h => (sel_Count.k m_ x).trans h)

/-! ### pendulum/pendulumlaw29.SelTells -/
noncomputable def pendulumlaw29_SelTells.cs (m_ : Mode) : List Callee := [pendulumref29_Fit.c m_, pendulumlaw29_awake.t, pendulumref29_Count.c m_, pendulumref29_Reach.c m_, sel_Most.c m_, sel_Fit.c m_, sel_Reach.c m_, pendulumref29_Most.c m_, sel_Count.c m_]
theorem pendulumlaw29_SelTells.csok (m_ : Mode) : ∀ k ∈ pendulumlaw29_SelTells.cs m_, k.OK P := all_cons (pendulumref29_Fit.ok m_) (all_cons pendulumlaw29_awake.okt (all_cons (pendulumref29_Count.ok m_) (all_cons (pendulumref29_Reach.ok m_) (all_cons (sel_Most.ok m_) (all_cons (sel_Fit.ok m_) (all_cons (sel_Reach.ok m_) (all_cons (pendulumref29_Most.ok m_) (all_cons (sel_Count.ok m_) (all_nil)))))))))
def pendulumlaw29_SelTells.inl : FuncId → Bool := fun f => [].any (Nat.beq f)
def pendulumlaw29_SelTells.e0 : Spec := ⟨[{ fn := 6, items := [.code [.r, .r, .r, .r, .l, .r, .l, .l], .inLoop [.r, .r, .r, .r, .l, .r, .l, .l], .inBlock 0, .code [.r, .r, .r, .r, .r]], slots := [(0, .dat (.lst (.pair (.int .i64) (.pair (.int .i64) (.int .i64))))), (1, .dat (.int .i64)), (30, .dat (.lst (.pair (.int .i64) (.pair (.int .i64) (.int .i64))))), (31, .dat (.int .i64)), (32, .dat (.int .i64))] }], [], 0⟩
def pendulumlaw29_SelTells.x0 : List Spec := [⟨[{ fn := 6, items := [.code [.r, .r, .r, .r, .l, .r, .l, .l, .r, .r, .l, .l, .r, .r, .r, .r, .l, .r], .inBlock 1, .code [.r, .r, .r, .r, .l, .r, .l, .l, .r, .r, .r], .inLoop [.r, .r, .r, .r, .l, .r, .l, .l], .inBlock 0, .code [.r, .r, .r, .r, .r]], slots := [(4, .dat .bool)] }], [], 0⟩, ⟨[{ fn := 6, items := [.code [.r, .r, .r, .r, .r]], slots := [(0, .dat (.lst (.pair (.int .i64) (.pair (.int .i64) (.int .i64))))), (1, .dat (.int .i64))] }], [], 0⟩]
noncomputable def pendulumlaw29_SelTells.b0 (m_ : Mode) (self : (List (Int × (Int × Int))) × Int × (List (Int × (Int × Int))) × Int × Int × Unit → Option ((Bool × Unit) ⊕ ((List (Int × (Int × Int))) × Int × Unit))) : (List (Int × (Int × Int))) × Int × (List (Int × (Int × Int))) × Int × Int × Unit → Option ((Bool × Unit) ⊕ ((List (Int × (Int × Int))) × Int × Unit)) := fun v_ => match v_ with
| (l, atV, t, t1, t2, ()) =>
  bif decide (t2 < t1) then
    bif inB t2 (t.length : Int) then
    (sel_Reach.run m_ (((rd ((0 : Int), ((0 : Int), (0 : Int))) t t2).1, (((rd ((0 : Int), ((0 : Int), (0 : Int))) t t2).2).1, ((rd ((0 : Int), ((0 : Int), (0 : Int))) t t2).2).2)), ())).bind fun (r, r1, ()) =>
    (pendulumref29_Reach.run m_ (((rd ((0 : Int), ((0 : Int), (0 : Int))) t t2).1, (((rd ((0 : Int), ((0 : Int), (0 : Int))) t t2).2).1, ((rd ((0 : Int), ((0 : Int), (0 : Int))) t t2).2).2)), ())).bind fun (r2, r3, ()) =>
    bif ((!(decide (r = r2))) || (!(decide (r1 = r3)))) then
      some (.inl (false, ()))
    else
      self (l, atV, t, t1, (IntKind.i64.wrap (t2 + (1 : Int))), ())
    else none
  else
    some (.inr (l, atV, ()))
theorem pendulumlaw29_SelTells.k0 (m_ : Mode) : ∀ (self : Known pendulumlaw29_SelTells.e0.sls → Option (Exits pendulumlaw29_SelTells.x0)) (v : Known pendulumlaw29_SelTells.e0.sls), runS P (oras (pendulumlaw29_SelTells.cs m_)) pendulumlaw29_SelTells.inl (⟨pendulumlaw29_SelTells.e0, self⟩ :: exitCuts pendulumlaw29_SelTells.x0 id) [] (fun _ _ => none) 20000 false (pendulumlaw29_SelTells.e0.mk' v) = pendulumlaw29_SelTells.b0 m_ self v := by
  intro self v_; exact (match v_ with | (l, atV, t, t1, t2, ()) => by kernel_rfl)
noncomputable def pendulumlaw29_SelTells.l0 (m_ : Mode) : (List (Int × (Int × Int))) × Int × (List (Int × (Int × Int))) × Int × Int × Unit → Option ((Bool × Unit) ⊕ ((List (Int × (Int × Int))) × Int × Unit)) := loop m_ (pendulumlaw29_SelTells.b0 m_)
theorem pendulumlaw29_SelTells.q0 (v) : pendulumlaw29_SelTells.l0 .lim v = pendulumlaw29_SelTells.b0 .lim (pendulumlaw29_SelTells.l0 .lim) v := lfp_eq (cont_of_run (pendulumlaw29_SelTells.k0 .lim)) v
noncomputable def pendulumlaw29_SelTells.g0 (m_ : Mode) : Seg := ⟨pendulumlaw29_SelTells.e0, pendulumlaw29_SelTells.x0, pendulumlaw29_SelTells.l0 m_⟩
theorem pendulumlaw29_SelTells.s0 (m_ : Mode) (S0 w0 cs0) : SegGood P S0 w0 cs0 6 (pendulumlaw29_SelTells.g0 m_) := seg_loop m_ (oras_ok (pendulumlaw29_SelTells.csok m_)) (all_nil) (by rfl) (fun e he => List.all_eq_true.1 (show pendulumlaw29_SelTells.x0.all Spec.ok = true by rfl) e he) (pendulumlaw29_SelTells.k0 m_)
noncomputable def pendulumlaw29_SelTells.run (m_ : Mode) : (List (Int × (Int × Int))) × Int × Unit → Option (Bool) := fun v_ => match v_ with
| (l, atV, ()) =>
  bif smallI (l.length : Int) then
  bif decide ((l.length : Int) > (100 : Int)) then
    (some true).bind fun r =>
    some r
  else
    (sel_Fit.run m_ (l, ())).bind fun r1 =>
    (pendulumref29_Fit.run m_ (l, ())).bind fun r2 =>
    bif !(r1 == r2) then
      some false
    else
      (pendulumref29_Fit.run m_ (l, ())).bind fun r3 =>
      bif !r3 then
        (some true).bind fun r4 =>
        some r4
      else
        bif smallI (l.length : Int) then
        (pendulumlaw29_SelTells.l0 m_ (l, atV, l, (l.length : Int), (0 : Int), ())).bind fun g_ => match g_ with
        | .inl (t, ()) =>
          some t
        | .inr (l1, atV1, ()) =>
          (sel_Most.run m_ (l1, ())).bind fun (r5, r6, r7, ()) =>
          (pendulumref29_Most.run m_ (l1, ())).bind fun (r8, r9, r10, ()) =>
          (sel_Count.run m_ (l1, atV1, ())).bind fun r11 =>
          (pendulumref29_Count.run m_ (l1, atV1, ())).bind fun r12 =>
          ((bif ((((decide (r11 = r12)) && (decide (r5 = r8))) && (decide (r6 = r9))) && (decide (r7 = r10))) then some true else some false)).bind fun r13 =>
          some (((((decide (r11 = r12)) && (decide (r5 = r8))) && (decide (r6 = r9))) && (decide (r7 = r10))) && r13)
        else none
  else none
noncomputable def pendulumlaw29_SelTells.c (m_ : Mode) : Callee := ⟨6, [.one (.lst (.pair (.int .i64) (.pair (.int .i64) (.int .i64)))), .one (.int .i64)], .one (.sh (.one .bool)), pendulumlaw29_SelTells.run m_⟩
theorem pendulumlaw29_SelTells.k (m_ : Mode) : ∀ v : Shs (pendulumlaw29_SelTells.c m_).args, runS P (oras (pendulumlaw29_SelTells.cs m_)) pendulumlaw29_SelTells.inl [] [pendulumlaw29_SelTells.g0 m_] (pendulumlaw29_SelTells.c m_).res.fin 20000 false (start 6 (encs (pendulumlaw29_SelTells.c m_).args v)) = pendulumlaw29_SelTells.run m_ v := by
  intro v_; exact (match v_ with | (l, atV, ()) => by kernel_rfl)
theorem pendulumlaw29_SelTells.ok (m_ : Mode) : (pendulumlaw29_SelTells.c m_).OK P := Callee.of_run (fun S0 w0 => (oras_ok (pendulumlaw29_SelTells.csok m_))) (by kernel_rfl) (by rfl) (fun S0 w0 cs0 => all_cons (pendulumlaw29_SelTells.s0 m_ S0 w0 cs0) (all_nil)) (fun x r h => (pendulumlaw29_SelTells.k m_ x).trans h)
end Go.AM
end
section
namespace Go.AM
open Go.Sort
/-! The order of ends. -/
abbrev E := List Int
def e0 (x : E) : Int := rd (0 : Int) x 0
def e1 (x : E) : Int := rd (0 : Int) x 1
/-- an end: a place; 1 or -1 -/
def good (x : E) : Prop := ∃ t s, x = [t, s] ∧ (s = 1 ∨ s = -1)
def cm (x y : E) : Int := if e0 x < e0 y then -1 else if e0 y < e0 x then 1 else e1 y - e1 x
def ltE (x y : E) : Bool := decide (cm x y < 0)
theorem ltE_iff (x y : E) : ltE x y = true ↔ e0 x < e0 y ∨ e0 x = e0 y ∧ e1 y < e1 x := by
  unfold ltE cm; rw [decide_eq_true_iff]; split
  · omega
  · split <;> omega
theorem ltE_not (x y : E) : ltE x y = false ↔ e0 y < e0 x ∨ e0 x = e0 y ∧ e1 x ≤ e1 y := by
  unfold ltE cm; rw [decide_eq_false_iff_not]; split
  · omega
  · split <;> omega
theorem ltE_swo : SWO ltE where
  irrefl x := by rw [ltE_not]; omega
  trans x y z h1 h2 := by rw [ltE_iff] at *; omega
  ntrans x y z h1 h2 := by rw [ltE_not] at *; omega
theorem ccmp (x y : Int) : cmp_Compare_int64.run .lim (x, y, ()) = some (if x < y then -1 else if y < x then 1 else 0) := by
  simp (disch := omega) only [smallI_t, inB_t, cutB_t, wrap64, dec_t, dec_f, dec_not, dec_and, dec_or, cond_ite, cond_true, cond_false, Option.bind_some, Option.bind_none, Bool.or_true, Bool.true_or, Bool.and_true, Bool.true_and, Bool.and_false, Bool.false_and, Bool.or_false, Bool.false_or, Bool.not_true, Bool.not_false, Bool.or_self, Bool.and_self, Bool.not_not, if_true, if_false, and_self, true_and, and_true, and_false, false_and, or_true, true_or, or_false, false_or, not_true_eq_false, not_false_eq_true, decide_true, decide_false, eq_self, if_pos, if_neg, mx_eq, mn_eq, cmp_Compare_int64.run, cmp_isNaN_int64.run]
  by_cases h1 : x < y
  · simp (disch := omega) only [smallI_t, inB_t, cutB_t, wrap64, dec_t, dec_f, dec_not, dec_and, dec_or, cond_ite, cond_true, cond_false, Option.bind_some, Option.bind_none, Bool.or_true, Bool.true_or, Bool.and_true, Bool.true_and, Bool.and_false, Bool.false_and, Bool.or_false, Bool.false_or, Bool.not_true, Bool.not_false, Bool.or_self, Bool.and_self, Bool.not_not, if_true, if_false, and_self, true_and, and_true, and_false, false_and, or_true, true_or, or_false, false_or, not_true_eq_false, not_false_eq_true, decide_true, decide_false, eq_self, if_pos, if_neg, mx_eq, mn_eq]
  · by_cases h2 : y < x
    · simp (disch := omega) only [smallI_t, inB_t, cutB_t, wrap64, dec_t, dec_f, dec_not, dec_and, dec_or, cond_ite, cond_true, cond_false, Option.bind_some, Option.bind_none, Bool.or_true, Bool.true_or, Bool.and_true, Bool.true_and, Bool.and_false, Bool.false_and, Bool.or_false, Bool.false_or, Bool.not_true, Bool.not_false, Bool.or_self, Bool.and_self, Bool.not_not, if_true, if_false, and_self, true_and, and_true, and_false, false_and, or_true, true_or, or_false, false_or, not_true_eq_false, not_false_eq_true, decide_true, decide_false, eq_self, if_pos, if_neg, mx_eq, mn_eq]
    · simp (disch := omega) only [smallI_t, inB_t, cutB_t, wrap64, dec_t, dec_f, dec_not, dec_and, dec_or, cond_ite, cond_true, cond_false, Option.bind_some, Option.bind_none, Bool.or_true, Bool.true_or, Bool.and_true, Bool.true_and, Bool.and_false, Bool.false_and, Bool.or_false, Bool.false_or, Bool.not_true, Bool.not_false, Bool.or_self, Bool.and_self, Bool.not_not, if_true, if_false, and_self, true_and, and_true, and_false, false_and, or_true, true_or, or_false, false_or, not_true_eq_false, not_false_eq_true, decide_true, decide_false, eq_self, if_pos, if_neg, mx_eq, mn_eq]
theorem scmp (x y : Int) (h : x ≠ y) : slices_Compare_int64_int64.run .lim ([x], [y], ()) = some (if x < y then -1 else 1) := by
  have e : slices_Compare_int64_int64.l0 .lim ([x], [y], [x], 1, 0, ()) = some (.inr (.inl ((if x < y then -1 else 1), ()))) := by
    rw [slices_Compare_int64_int64.q0]
    have h0 : ∀ z : Int, rd (0 : Int) [z] 0 = z := fun z => rfl
    simp (disch := omega) only [smallI_t, inB_t, cutB_t, wrap64, dec_t, dec_f, dec_not, dec_and, dec_or, cond_ite, cond_true, cond_false, Option.bind_some, Option.bind_none, Bool.or_true, Bool.true_or, Bool.and_true, Bool.true_and, Bool.and_false, Bool.false_and, Bool.or_false, Bool.false_or, Bool.not_true, Bool.not_false, Bool.or_self, Bool.and_self, Bool.not_not, if_true, if_false, and_self, true_and, and_true, and_false, false_and, or_true, true_or, or_false, false_or, not_true_eq_false, not_false_eq_true, decide_true, decide_false, eq_self, if_pos, if_neg, mx_eq, mn_eq, slices_Compare_int64_int64.b0, ccmp, List.length_singleton, h0]
  simp (disch := omega) only [smallI_t, inB_t, cutB_t, wrap64, dec_t, dec_f, dec_not, dec_and, dec_or, cond_ite, cond_true, cond_false, Option.bind_some, Option.bind_none, Bool.or_true, Bool.true_or, Bool.and_true, Bool.true_and, Bool.and_false, Bool.false_and, Bool.or_false, Bool.false_or, Bool.not_true, Bool.not_false, Bool.or_self, Bool.and_self, Bool.not_not, if_true, if_false, and_self, true_and, and_true, and_false, false_and, or_true, true_or, or_false, false_or, not_true_eq_false, not_false_eq_true, decide_true, decide_false, eq_self, if_pos, if_neg, mx_eq, mn_eq, slices_Compare_int64_int64.run, List.length_singleton]
  rw [show ((1 : Nat) : Int) = 1 from rfl, e]; rfl
theorem cmp_eq {x y : E} (hx : good x) (hy : good y) : sel_ends_1.run .lim (x, y, ()) = some (cm x y) := by
  obtain ⟨t, s, rfl, hs⟩ := hx
  obtain ⟨u, r, rfl, hr⟩ := hy
  have a0 : ∀ z w : Int, rd (0 : Int) [z, w] 0 = z := fun z w => rfl
  have a1 : ∀ z w : Int, rd (0 : Int) [z, w] 1 = w := fun z w => rfl
  unfold cm e0 e1
  simp (disch := omega) only [smallI_t, inB_t, cutB_t, wrap64, dec_t, dec_f, dec_not, dec_and, dec_or, cond_ite, cond_true, cond_false, Option.bind_some, Option.bind_none, Bool.or_true, Bool.true_or, Bool.and_true, Bool.true_and, Bool.and_false, Bool.false_and, Bool.or_false, Bool.false_or, Bool.not_true, Bool.not_false, Bool.or_self, Bool.and_self, Bool.not_not, if_true, if_false, and_self, true_and, and_true, and_false, false_and, or_true, true_or, or_false, false_or, not_true_eq_false, not_false_eq_true, decide_true, decide_false, eq_self, if_pos, if_neg, mx_eq, mn_eq, sel_ends_1.run, List.drop_zero, List.take_succ_cons, List.take_zero, a0, a1]
  by_cases h : t = u
  · subst h
    have : -9223372036854775808 ≤ r - s ∧ r - s < 9223372036854775808 := by omega
    simp (disch := omega) only [smallI_t, inB_t, cutB_t, wrap64, dec_t, dec_f, dec_not, dec_and, dec_or, cond_ite, cond_true, cond_false, Option.bind_some, Option.bind_none, Bool.or_true, Bool.true_or, Bool.and_true, Bool.true_and, Bool.and_false, Bool.false_and, Bool.or_false, Bool.false_or, Bool.not_true, Bool.not_false, Bool.or_self, Bool.and_self, Bool.not_not, if_true, if_false, and_self, true_and, and_true, and_false, false_and, or_true, true_or, or_false, false_or, not_true_eq_false, not_false_eq_true, decide_true, decide_false, eq_self, if_pos, if_neg, mx_eq, mn_eq]
  · simp (disch := omega) only [smallI_t, inB_t, cutB_t, wrap64, dec_t, dec_f, dec_not, dec_and, dec_or, cond_ite, cond_true, cond_false, Option.bind_some, Option.bind_none, Bool.or_true, Bool.true_or, Bool.and_true, Bool.true_and, Bool.and_false, Bool.false_and, Bool.or_false, Bool.false_or, Bool.not_true, Bool.not_false, Bool.or_self, Bool.and_self, Bool.not_not, if_true, if_false, and_self, true_and, and_true, and_false, false_and, or_true, true_or, or_false, false_or, not_true_eq_false, not_false_eq_true, decide_true, decide_false, eq_self, if_pos, if_neg, mx_eq, mn_eq]
    rw [scmp t u h]
    by_cases h1 : t < u
    · simp (disch := omega) only [smallI_t, inB_t, cutB_t, wrap64, dec_t, dec_f, dec_not, dec_and, dec_or, cond_ite, cond_true, cond_false, Option.bind_some, Option.bind_none, Bool.or_true, Bool.true_or, Bool.and_true, Bool.true_and, Bool.and_false, Bool.false_and, Bool.or_false, Bool.false_or, Bool.not_true, Bool.not_false, Bool.or_self, Bool.and_self, Bool.not_not, if_true, if_false, and_self, true_and, and_true, and_false, false_and, or_true, true_or, or_false, false_or, not_true_eq_false, not_false_eq_true, decide_true, decide_false, eq_self, if_pos, if_neg, mx_eq, mn_eq]
    · simp (disch := omega) only [smallI_t, inB_t, cutB_t, wrap64, dec_t, dec_f, dec_not, dec_and, dec_or, cond_ite, cond_true, cond_false, Option.bind_some, Option.bind_none, Bool.or_true, Bool.true_or, Bool.and_true, Bool.true_and, Bool.and_false, Bool.false_and, Bool.or_false, Bool.false_or, Bool.not_true, Bool.not_false, Bool.or_self, Bool.and_self, Bool.not_not, if_true, if_false, and_self, true_and, and_true, and_false, false_and, or_true, true_or, or_false, false_or, not_true_eq_false, not_false_eq_true, decide_true, decide_false, eq_self, if_pos, if_neg, mx_eq, mn_eq]
def G (d : Array E) : Prop := ∀ k, k < d.size → good d[k]!
theorem swp_get {d : Array E} {i j k : Nat} (hi : i < d.size) (hj : j < d.size) (hk : k < d.size) : (swp d i j)[k]! = if j = k then d[i]! else if i = k then d[j]! else d[k]! := by
  unfold swp
  rw [getElem!_pos _ k (by simpa using hk), Array.getElem_setIfInBounds (by simpa using hk)]
  split
  · rfl
  · rw [Array.getElem_setIfInBounds (by simpa using hk)]
    split
    · rfl
    · rw [getElem!_pos d k hk]
theorem G_swp {d : Array E} {i j : Nat} (h : G d) (hi : i < d.size) (hj : j < d.size) : G (swp d i j) := by
  intro k hk
  rw [swp_size] at hk
  rw [swp_get hi hj hk]
  split
  · exact h _ hi
  · split
    · exact h _ hj
    · exact h _ hk
end Go.AM
end
section
namespace Go.AM
open Go.Sort
abbrev zE : E := List.replicate 2 (0 : Int)
/-! insertion sort -/
theorem insInner_size (a : Nat) : ∀ (j : Nat) (d : Array E), (insInner ltE a j d).size = d.size := by
  intro j
  induction j with
  | zero => intro d; rfl
  | succ j ih => intro d; rw [insInner]; split
                 · rw [ih, swp_size]
                 · rfl
theorem ins_inner {a b i : Int} {a' : Nat} (ha : a = a') : ∀ (j : Nat) (d : Array E), G d → j < d.size → d.size < 50 →
    slices_insertionSortCmpFunc_sel_end.l0 .lim (a, b, i, (j : Int), d.toList, ()) = some (a, b, i, (insInner ltE a' j d).toList, ()) ∧ G (insInner ltE a' j d) := by
  intro j
  induction j with
  | zero =>
    intro d hG hj hs
    rw [slices_insertionSortCmpFunc_sel_end.q0]
    simp (disch := omega) only [smallI_t, inB_t, cutB_t, wrap64, dec_t, dec_f, dec_not, dec_and, dec_or, cond_ite, cond_true, cond_false, Option.bind_some, Option.bind_none, Bool.or_true, Bool.true_or, Bool.and_true, Bool.true_and, Bool.and_false, Bool.false_and, Bool.or_false, Bool.false_or, Bool.not_true, Bool.not_false, Bool.or_self, Bool.and_self, Bool.not_not, if_true, if_false, and_self, true_and, and_true, and_false, false_and, or_true, true_or, or_false, false_or, not_true_eq_false, not_false_eq_true, decide_true, decide_false, eq_self, if_pos, if_neg, mx_eq, mn_eq, slices_insertionSortCmpFunc_sel_end.b0]
    exact ⟨rfl, hG⟩
  | succ j ih =>
    intro d hG hj hs
    rw [slices_insertionSortCmpFunc_sel_end.q0, insInner]
    have hj1 : ((j + 1 : Nat) : Int) - 1 = (j : Int) := by omega
    have hsw := swB (d := d) (i := j + 1) (j := j) (i1 := ((j + 1 : Nat) : Int)) (j2 := (j : Int)) rfl rfl
    by_cases hja : j + 1 > a'
    · have h1 := rdA (z := zE) (d := d) (i := ((j + 1 : Nat) : Int)) rfl hj
      have h2 := rdA (z := zE) (d := d) (i := (j : Int)) (k := j) rfl (by omega)
      have hc := cmp_eq (hG (j + 1) hj) (hG j (by omega))
      cases hl : ltE d[j + 1]! d[j]! with
      | true =>
        have hl' : cm d[j + 1]! d[j]! < 0 := by simpa [ltE] using hl
        have := ih (swp d (j + 1) j) (G_swp hG hj (by omega)) (by rw [swp_size]; omega) (by rw [swp_size]; omega)
        simp (disch := omega) only [smallI_t, inB_t, cutB_t, wrap64, dec_t, dec_f, dec_not, dec_and, dec_or, cond_ite, cond_true, cond_false, Option.bind_some, Option.bind_none, Bool.or_true, Bool.true_or, Bool.and_true, Bool.true_and, Bool.and_false, Bool.false_and, Bool.or_false, Bool.false_or, Bool.not_true, Bool.not_false, Bool.or_self, Bool.and_self, Bool.not_not, if_true, if_false, and_self, true_and, and_true, and_false, false_and, or_true, true_or, or_false, false_or, not_true_eq_false, not_false_eq_true, decide_true, decide_false, eq_self, if_pos, if_neg, mx_eq, mn_eq, slices_insertionSortCmpFunc_sel_end.b0, h1, h2, hc, sizeA, hsw, hj1, List.length_set]
        exact this
      | false =>
        have hl' : ¬ cm d[j + 1]! d[j]! < 0 := by simpa [ltE] using hl
        simp (disch := omega) only [smallI_t, inB_t, cutB_t, wrap64, dec_t, dec_f, dec_not, dec_and, dec_or, cond_ite, cond_true, cond_false, Option.bind_some, Option.bind_none, Bool.or_true, Bool.true_or, Bool.and_true, Bool.true_and, Bool.and_false, Bool.false_and, Bool.or_false, Bool.false_or, Bool.not_true, Bool.not_false, Bool.or_self, Bool.and_self, Bool.not_not, if_true, if_false, and_self, true_and, and_true, and_false, false_and, or_true, true_or, or_false, false_or, not_true_eq_false, not_false_eq_true, decide_true, decide_false, eq_self, if_pos, if_neg, mx_eq, mn_eq, slices_insertionSortCmpFunc_sel_end.b0, h1, h2, hc, sizeA, hsw, hj1, List.length_set]
        simp [hG]
    · simp (disch := omega) only [smallI_t, inB_t, cutB_t, wrap64, dec_t, dec_f, dec_not, dec_and, dec_or, cond_ite, cond_true, cond_false, Option.bind_some, Option.bind_none, Bool.or_true, Bool.true_or, Bool.and_true, Bool.true_and, Bool.and_false, Bool.false_and, Bool.or_false, Bool.false_or, Bool.not_true, Bool.not_false, Bool.or_self, Bool.and_self, Bool.not_not, if_true, if_false, and_self, true_and, and_true, and_false, false_and, or_true, true_or, or_false, false_or, not_true_eq_false, not_false_eq_true, decide_true, decide_false, eq_self, if_pos, if_neg, mx_eq, mn_eq, slices_insertionSortCmpFunc_sel_end.b0]
      simp [hja, hG]
theorem insOuter_size (a b : Nat) : ∀ (n i : Nat) (d : Array E), b - i ≤ n → (insOuter ltE a b i d).size = d.size := by
  intro n
  induction n with
  | zero => intro i d h; rw [insOuter, if_neg (by omega)]
  | succ n ih =>
    intro i d h
    rw [insOuter]; split
    · rw [ih _ _ (by omega), insInner_size]
    · rfl
theorem ins_outer {a b : Nat} : ∀ (n i : Nat) (d : Array E), b - i ≤ n → G d → b ≤ d.size → d.size < 50 →
    slices_insertionSortCmpFunc_sel_end.l1 .lim ((a : Int), (b : Int), (i : Int), d.toList, ()) = some ((insOuter ltE a b i d).toList, ()) ∧ G (insOuter ltE a b i d) := by
  intro n
  induction n with
  | zero =>
    intro i d h hG hb hs
    rw [slices_insertionSortCmpFunc_sel_end.q1, insOuter, if_neg (by omega)]
    refine ⟨?_, hG⟩
    simp (disch := omega) only [smallI_t, inB_t, cutB_t, wrap64, dec_t, dec_f, dec_not, dec_and, dec_or, cond_ite, cond_true, cond_false, Option.bind_some, Option.bind_none, Bool.or_true, Bool.true_or, Bool.and_true, Bool.true_and, Bool.and_false, Bool.false_and, Bool.or_false, Bool.false_or, Bool.not_true, Bool.not_false, Bool.or_self, Bool.and_self, Bool.not_not, if_true, if_false, and_self, true_and, and_true, and_false, false_and, or_true, true_or, or_false, false_or, not_true_eq_false, not_false_eq_true, decide_true, decide_false, eq_self, if_pos, if_neg, mx_eq, mn_eq, slices_insertionSortCmpFunc_sel_end.b1]
  | succ n ih =>
    intro i d h hG hb hs
    rw [slices_insertionSortCmpFunc_sel_end.q1, insOuter]
    by_cases hi : i < b
    · obtain ⟨e, hG'⟩ := ins_inner (a := (a : Int)) (b := (b : Int)) (i := (i : Int)) rfl i d hG (by omega) hs
      have := ih (i + 1) (insInner ltE a i d) (by omega) hG' (by rw [insInner_size]; omega) (by rw [insInner_size]; omega)
      simp (disch := omega) only [smallI_t, inB_t, cutB_t, wrap64, dec_t, dec_f, dec_not, dec_and, dec_or, cond_ite, cond_true, cond_false, Option.bind_some, Option.bind_none, Bool.or_true, Bool.true_or, Bool.and_true, Bool.true_and, Bool.and_false, Bool.false_and, Bool.or_false, Bool.false_or, Bool.not_true, Bool.not_false, Bool.or_self, Bool.and_self, Bool.not_not, if_true, if_false, and_self, true_and, and_true, and_false, false_and, or_true, true_or, or_false, false_or, not_true_eq_false, not_false_eq_true, decide_true, decide_false, eq_self, if_pos, if_neg, mx_eq, mn_eq, slices_insertionSortCmpFunc_sel_end.b1, e]
      exact this
    · rw [if_neg hi]
      refine ⟨?_, hG⟩
      simp (disch := omega) only [smallI_t, inB_t, cutB_t, wrap64, dec_t, dec_f, dec_not, dec_and, dec_or, cond_ite, cond_true, cond_false, Option.bind_some, Option.bind_none, Bool.or_true, Bool.true_or, Bool.and_true, Bool.true_and, Bool.and_false, Bool.false_and, Bool.or_false, Bool.false_or, Bool.not_true, Bool.not_false, Bool.or_self, Bool.and_self, Bool.not_not, if_true, if_false, and_self, true_and, and_true, and_false, false_and, or_true, true_or, or_false, false_or, not_true_eq_false, not_false_eq_true, decide_true, decide_false, eq_self, if_pos, if_neg, mx_eq, mn_eq, slices_insertionSortCmpFunc_sel_end.b1]
theorem insertionSort_size (d : Array E) (a b : Nat) : (insertionSort ltE d a b).size = d.size := insOuter_size a b _ _ d (Nat.le_refl _)
theorem insertion_eq {a b : Nat} {d : Array E} (hG : G d) (hb : b ≤ d.size) (ha : a ≤ b) (hs : d.size < 50) :
    slices_insertionSortCmpFunc_sel_end.F .lim d.toList ((a : Int), (b : Int), ()) = some ((), (insertionSort ltE d a b).toList) ∧ G (insertionSort ltE d a b) := by
  obtain ⟨e, hG'⟩ := ins_outer (a := a) (b := b) _ (a + 1) d (Nat.le_refl _) hG hb hs
  simp (disch := omega) only [smallI_t, inB_t, cutB_t, wrap64, dec_t, dec_f, dec_not, dec_and, dec_or, cond_ite, cond_true, cond_false, Option.bind_some, Option.bind_none, Bool.or_true, Bool.true_or, Bool.and_true, Bool.true_and, Bool.and_false, Bool.false_and, Bool.or_false, Bool.false_or, Bool.not_true, Bool.not_false, Bool.or_self, Bool.and_self, Bool.not_not, if_true, if_false, and_self, true_and, and_true, and_false, false_and, or_true, true_or, or_false, false_or, not_true_eq_false, not_false_eq_true, decide_true, decide_false, eq_self, if_pos, if_neg, mx_eq, mn_eq, slices_insertionSortCmpFunc_sel_end.F]
  rw [show ((a : Int) + 1) = ((a + 1 : Nat) : Int) from rfl, e]
  exact ⟨rfl, hG'⟩
end Go.AM
end
section
namespace Go.AM
open Go.Sort
/-! the heap -/
theorem ltE_cm (x y : E) : (ltE x y = true → cm x y < 0) ∧ (ltE x y = false → ¬ cm x y < 0) := by simp [ltE]
theorem siftDown_size (hi first : Nat) : ∀ (n root : Nat) (d : Array E), hi - root ≤ n → (siftDown ltE hi first root d).size = d.size := by
  intro n
  induction n with
  | zero => intro root d h; rw [siftDown, dif_pos (by omega)]
  | succ n ih =>
    intro root d h
    rw [siftDown]
    split
    · rfl
    · split
      · split
        · rfl
        · split
          · rw [ih _ _ (by omega), swp_size]
          · rfl
      · split
        · rfl
        · rw [ih _ _ (by omega), swp_size]
set_option maxHeartbeats 1000000 in
theorem sift_loop {hi first : Nat} : ∀ (n root : Nat) (d : Array E), hi - root ≤ n → G d → first + hi ≤ d.size → d.size < 50 → root < 50 →
    ((slices_siftDownCmpFunc_sel_end.l0 .lim ((hi : Int), (first : Int), (root : Int), d.toList, ()) = some (.inl ((siftDown ltE hi first root d).toList, ())) ∨
     slices_siftDownCmpFunc_sel_end.l0 .lim ((hi : Int), (first : Int), (root : Int), d.toList, ()) = some (.inr ((siftDown ltE hi first root d).toList, ()))) ∧ G (siftDown ltE hi first root d)) := by
  intro n
  induction n with
  | zero =>
    intro root d h hG hb hs hr
    rw [slices_siftDownCmpFunc_sel_end.q0, siftDown, dif_pos (by omega)]
    refine ⟨.inl ?_, hG⟩
    simp (disch := omega) only [smallI_t, inB_t, cutB_t, wrap64, dec_t, dec_f, dec_not, dec_and, dec_or, cond_ite, cond_true, cond_false, Option.bind_some, Option.bind_none, Bool.or_true, Bool.true_or, Bool.and_true, Bool.true_and, Bool.and_false, Bool.false_and, Bool.or_false, Bool.false_or, Bool.not_true, Bool.not_false, Bool.or_self, Bool.and_self, Bool.not_not, if_true, if_false, and_self, true_and, and_true, and_false, false_and, or_true, true_or, or_false, false_or, not_true_eq_false, not_false_eq_true, decide_true, decide_false, eq_self, if_pos, if_neg, mx_eq, mn_eq, slices_siftDownCmpFunc_sel_end.b0]
  | succ n ih =>
    intro root d h hG hb hs hr
    rw [slices_siftDownCmpFunc_sel_end.q0, siftDown]
    by_cases h1 : 2 * root + 1 ≥ hi
    · rw [dif_pos h1]
      refine ⟨.inl ?_, hG⟩
      simp (disch := omega) only [smallI_t, inB_t, cutB_t, wrap64, dec_t, dec_f, dec_not, dec_and, dec_or, cond_ite, cond_true, cond_false, Option.bind_some, Option.bind_none, Bool.or_true, Bool.true_or, Bool.and_true, Bool.true_and, Bool.and_false, Bool.false_and, Bool.or_false, Bool.false_or, Bool.not_true, Bool.not_false, Bool.or_self, Bool.and_self, Bool.not_not, if_true, if_false, and_self, true_and, and_true, and_false, false_and, or_true, true_or, or_false, false_or, not_true_eq_false, not_false_eq_true, decide_true, decide_false, eq_self, if_pos, if_neg, mx_eq, mn_eq, slices_siftDownCmpFunc_sel_end.b0]
    · rw [dif_neg h1]
      have q2 : (2 * (root : Int) + 1) = ((2 * root + 1 : Nat) : Int) := by omega
      have q1 : ((2 * root + 1 : Nat) : Int) + 1 = ((2 * root + 2 : Nat) : Int) := by omega
      have k1 : (first : Int) + ((2 * root + 1 : Nat) : Int) = ((first + (2 * root + 1) : Nat) : Int) := by omega
      have k2 : (first : Int) + ((2 * root + 2 : Nat) : Int) = ((first + (2 * root + 2) : Nat) : Int) := by omega
      have k0 : (first : Int) + (root : Int) = ((first + root : Nat) : Int) := by omega
      have r0 := rdA (z := zE) (d := d) (i := ((first + root : Nat) : Int)) rfl (by omega)
      have r1 := rdA (z := zE) (d := d) (i := ((first + (2 * root + 1) : Nat) : Int)) rfl (by omega)
      have k3 : ((first + (2 * root + 1) : Nat) : Int) + 1 = ((first + (2 * root + 2) : Nat) : Int) := by omega
      have s1 := swB (d := d) (i := first + root) (j := first + (2 * root + 1)) rfl rfl
      have s2 := swB (d := d) (i := first + root) (j := first + (2 * root + 2)) rfl rfl
      have c01 := cmp_eq (hG (first + root) (by omega)) (hG (first + (2 * root + 1)) (by omega))
      have i1 := ih (2 * root + 1) (swp d (first + root) (first + (2 * root + 1))) (by omega) (G_swp hG (by omega) (by omega)) (by rw [swp_size]; omega) (by rw [swp_size]; omega) (by omega)
      by_cases h2 : 2 * root + 1 + 1 < hi
      · have r2 := rdA (z := zE) (d := d) (i := ((first + (2 * root + 2) : Nat) : Int)) rfl (by omega)
        have c12 := cmp_eq (hG (first + (2 * root + 1)) (by omega)) (hG (first + (2 * root + 2)) (by omega))
        have c02 := cmp_eq (hG (first + root) (by omega)) (hG (first + (2 * root + 2)) (by omega))
        have i2 := ih (2 * root + 2) (swp d (first + root) (first + (2 * root + 2))) (by omega) (G_swp hG (by omega) (by omega)) (by rw [swp_size]; omega) (by rw [swp_size]; omega) (by omega)
        have w12 := ltE_cm d[first + (2 * root + 1)]! d[first + (2 * root + 2)]!
        have w02 := ltE_cm d[first + root]! d[first + (2 * root + 2)]!
        have w01 := ltE_cm d[first + root]! d[first + (2 * root + 1)]!
        rw [show first + (2 * root + 1) + 1 = first + (2 * root + 2) from rfl]
        cases l12 : ltE d[first + (2 * root + 1)]! d[first + (2 * root + 2)]! with
        | true =>
          have w12 := w12.1 l12
          cases l02 : ltE d[first + root]! d[first + (2 * root + 2)]! with
          | true =>
            have w02 := w02.1 l02
            simp (disch := omega) only [smallI_t, inB_t, cutB_t, wrap64, dec_t, dec_f, dec_not, dec_and, dec_or, cond_ite, cond_true, cond_false, Option.bind_some, Option.bind_none, Bool.or_true, Bool.true_or, Bool.and_true, Bool.true_and, Bool.and_false, Bool.false_and, Bool.or_false, Bool.false_or, Bool.not_true, Bool.not_false, Bool.or_self, Bool.and_self, Bool.not_not, if_true, if_false, and_self, true_and, and_true, and_false, false_and, or_true, true_or, or_false, false_or, not_true_eq_false, not_false_eq_true, decide_true, decide_false, eq_self, if_pos, if_neg, mx_eq, mn_eq, slices_siftDownCmpFunc_sel_end.b0, k0, k1, k2, k3, q1, q2, r0, r1, r2, c12, c02, sizeA, List.length_set, s2]
            simp only [h2, decide_true, Bool.and_self, if_true, Bool.not_true, Bool.false_eq_true, if_false, dite_true]
            exact i2
          | false =>
            have w02 := w02.2 l02
            simp only [h2, decide_true, Bool.and_self, if_true, Bool.not_false]
            refine ⟨.inr ?_, hG⟩
            simp (disch := omega) only [smallI_t, inB_t, cutB_t, wrap64, dec_t, dec_f, dec_not, dec_and, dec_or, cond_ite, cond_true, cond_false, Option.bind_some, Option.bind_none, Bool.or_true, Bool.true_or, Bool.and_true, Bool.true_and, Bool.and_false, Bool.false_and, Bool.or_false, Bool.false_or, Bool.not_true, Bool.not_false, Bool.or_self, Bool.and_self, Bool.not_not, if_true, if_false, and_self, true_and, and_true, and_false, false_and, or_true, true_or, or_false, false_or, not_true_eq_false, not_false_eq_true, decide_true, decide_false, eq_self, if_pos, if_neg, mx_eq, mn_eq, slices_siftDownCmpFunc_sel_end.b0, k0, k1, k2, k3, q1, q2, r0, r1, r2, c12, c02, sizeA]
        | false =>
          have w12 := w12.2 l12
          cases l01 : ltE d[first + root]! d[first + (2 * root + 1)]! with
          | true =>
            have w01 := w01.1 l01
            simp (disch := omega) only [smallI_t, inB_t, cutB_t, wrap64, dec_t, dec_f, dec_not, dec_and, dec_or, cond_ite, cond_true, cond_false, Option.bind_some, Option.bind_none, Bool.or_true, Bool.true_or, Bool.and_true, Bool.true_and, Bool.and_false, Bool.false_and, Bool.or_false, Bool.false_or, Bool.not_true, Bool.not_false, Bool.or_self, Bool.and_self, Bool.not_not, if_true, if_false, and_self, true_and, and_true, and_false, false_and, or_true, true_or, or_false, false_or, not_true_eq_false, not_false_eq_true, decide_true, decide_false, eq_self, if_pos, if_neg, mx_eq, mn_eq, slices_siftDownCmpFunc_sel_end.b0, k0, k1, k2, k3, q1, q2, r0, r1, r2, c12, c01, sizeA, List.length_set, s1]
            simp only [h2, decide_true, Bool.and_false, Bool.not_true, Bool.false_eq_true, if_false]
            exact i1
          | false =>
            have w01 := w01.2 l01
            simp only [h2, decide_true, Bool.and_false, Bool.false_eq_true, if_false, Bool.not_false, if_true]
            refine ⟨.inr ?_, hG⟩
            simp (disch := omega) only [smallI_t, inB_t, cutB_t, wrap64, dec_t, dec_f, dec_not, dec_and, dec_or, cond_ite, cond_true, cond_false, Option.bind_some, Option.bind_none, Bool.or_true, Bool.true_or, Bool.and_true, Bool.true_and, Bool.and_false, Bool.false_and, Bool.or_false, Bool.false_or, Bool.not_true, Bool.not_false, Bool.or_self, Bool.and_self, Bool.not_not, if_true, if_false, and_self, true_and, and_true, and_false, false_and, or_true, true_or, or_false, false_or, not_true_eq_false, not_false_eq_true, decide_true, decide_false, eq_self, if_pos, if_neg, mx_eq, mn_eq, slices_siftDownCmpFunc_sel_end.b0, k0, k1, k2, k3, q1, q2, r0, r1, r2, c12, c01, sizeA]
      · have w01 := ltE_cm d[first + root]! d[first + (2 * root + 1)]!
        cases l01 : ltE d[first + root]! d[first + (2 * root + 1)]! with
        | true =>
          have w01 := w01.1 l01
          simp (disch := omega) only [smallI_t, inB_t, cutB_t, wrap64, dec_t, dec_f, dec_not, dec_and, dec_or, cond_ite, cond_true, cond_false, Option.bind_some, Option.bind_none, Bool.or_true, Bool.true_or, Bool.and_true, Bool.true_and, Bool.and_false, Bool.false_and, Bool.or_false, Bool.false_or, Bool.not_true, Bool.not_false, Bool.or_self, Bool.and_self, Bool.not_not, if_true, if_false, and_self, true_and, and_true, and_false, false_and, or_true, true_or, or_false, false_or, not_true_eq_false, not_false_eq_true, decide_true, decide_false, eq_self, if_pos, if_neg, mx_eq, mn_eq, slices_siftDownCmpFunc_sel_end.b0, k0, k1, k2, k3, q1, q2, r0, r1, c01, sizeA, List.length_set, s1]
          simp only [h2, decide_false, Bool.false_and, Bool.not_true, Bool.false_eq_true, if_false]
          exact i1
        | false =>
          have w01 := w01.2 l01
          simp only [h2, decide_false, Bool.false_and, Bool.false_eq_true, if_false, Bool.not_false, if_true]
          refine ⟨.inr ?_, hG⟩
          simp (disch := omega) only [smallI_t, inB_t, cutB_t, wrap64, dec_t, dec_f, dec_not, dec_and, dec_or, cond_ite, cond_true, cond_false, Option.bind_some, Option.bind_none, Bool.or_true, Bool.true_or, Bool.and_true, Bool.true_and, Bool.and_false, Bool.false_and, Bool.or_false, Bool.false_or, Bool.not_true, Bool.not_false, Bool.or_self, Bool.and_self, Bool.not_not, if_true, if_false, and_self, true_and, and_true, and_false, false_and, or_true, true_or, or_false, false_or, not_true_eq_false, not_false_eq_true, decide_true, decide_false, eq_self, if_pos, if_neg, mx_eq, mn_eq, slices_siftDownCmpFunc_sel_end.b0, k0, k1, k2, k3, q1, q2, r0, r1, c01, sizeA]
end Go.AM
end
section
namespace Go.AM
open Go.Sort
theorem sift_eq {lo hi first : Nat} {d : Array E} (hG : G d) (hb : first + hi ≤ d.size) (hs : d.size < 50) (hl : lo < 50) :
    slices_siftDownCmpFunc_sel_end.F .lim d.toList ((lo : Int), (hi : Int), (first : Int), ()) = some ((), (siftDown ltE hi first lo d).toList) ∧ G (siftDown ltE hi first lo d) := by
  obtain ⟨e, hG'⟩ := sift_loop (hi := hi) (first := first) _ lo d (Nat.le_refl _) hG hb hs hl
  refine ⟨?_, hG'⟩
  rcases e with e | e <;> simp (disch := omega) only [smallI_t, inB_t, cutB_t, wrap64, dec_t, dec_f, dec_not, dec_and, dec_or, cond_ite, cond_true, cond_false, Option.bind_some, Option.bind_none, Bool.or_true, Bool.true_or, Bool.and_true, Bool.true_and, Bool.and_false, Bool.false_and, Bool.or_false, Bool.false_or, Bool.not_true, Bool.not_false, Bool.or_self, Bool.and_self, Bool.not_not, if_true, if_false, and_self, true_and, and_true, and_false, false_and, or_true, true_or, or_false, false_or, not_true_eq_false, not_false_eq_true, decide_true, decide_false, eq_self, if_pos, if_neg, mx_eq, mn_eq, slices_siftDownCmpFunc_sel_end.F, e]
theorem sift_sz {lo hi first : Nat} {d : Array E} : (siftDown ltE hi first lo d).size = d.size := siftDown_size hi first _ lo d (Nat.le_refl _)
theorem heap_build {hi first : Nat} : ∀ (k : Nat) (d : Array E), G d → first + hi ≤ d.size → d.size < 50 → k ≤ 50 →
    slices_heapSortCmpFunc_sel_end.l0 .lim ((first : Int), (0 : Int), (hi : Int), (k : Int) - 1, d.toList, ()) = some ((first : Int), (0 : Int), (hi : Int), (heapBuild ltE hi first k d).toList, ()) ∧ G (heapBuild ltE hi first k d) ∧ (heapBuild ltE hi first k d).size = d.size := by
  intro k
  induction k with
  | zero =>
    intro d hG hb hs hk
    rw [slices_heapSortCmpFunc_sel_end.q0]
    refine ⟨?_, hG, rfl⟩
    simp (disch := omega) only [smallI_t, inB_t, cutB_t, wrap64, dec_t, dec_f, dec_not, dec_and, dec_or, cond_ite, cond_true, cond_false, Option.bind_some, Option.bind_none, Bool.or_true, Bool.true_or, Bool.and_true, Bool.true_and, Bool.and_false, Bool.false_and, Bool.or_false, Bool.false_or, Bool.not_true, Bool.not_false, Bool.or_self, Bool.and_self, Bool.not_not, if_true, if_false, and_self, true_and, and_true, and_false, false_and, or_true, true_or, or_false, false_or, not_true_eq_false, not_false_eq_true, decide_true, decide_false, eq_self, if_pos, if_neg, mx_eq, mn_eq, slices_heapSortCmpFunc_sel_end.b0]
    rfl
  | succ k ih =>
    intro d hG hb hs hk
    rw [slices_heapSortCmpFunc_sel_end.q0, heapBuild]
    obtain ⟨e, hG'⟩ := sift_eq (lo := k) (hi := hi) (first := first) hG hb hs (by omega)
    obtain ⟨i1, i2, i3⟩ := ih (siftDown ltE hi first k d) hG' (by rw [sift_sz]; omega) (by rw [sift_sz]; omega) (by omega)
    refine ⟨?_, i2, by rw [i3, sift_sz]⟩
    have h1 : ((k + 1 : Nat) : Int) - 1 = (k : Int) := by omega
    rw [h1]
    simp (disch := omega) only [smallI_t, inB_t, cutB_t, wrap64, dec_t, dec_f, dec_not, dec_and, dec_or, cond_ite, cond_true, cond_false, Option.bind_some, Option.bind_none, Bool.or_true, Bool.true_or, Bool.and_true, Bool.true_and, Bool.and_false, Bool.false_and, Bool.or_false, Bool.false_or, Bool.not_true, Bool.not_false, Bool.or_self, Bool.and_self, Bool.not_not, if_true, if_false, and_self, true_and, and_true, and_false, false_and, or_true, true_or, or_false, false_or, not_true_eq_false, not_false_eq_true, decide_true, decide_false, eq_self, if_pos, if_neg, mx_eq, mn_eq, slices_heapSortCmpFunc_sel_end.b0, e, lenOK_some (show (siftDown ltE hi first k d).toList.length = d.toList.length by simp [sift_sz])]
    exact i1
theorem heap_pop {first : Nat} : ∀ (k : Nat) (d : Array E), G d → first + k ≤ d.size → d.size < 50 →
    slices_heapSortCmpFunc_sel_end.l1 .lim ((first : Int), (0 : Int), (k : Int) - 1, d.toList, ()) = some ((heapPop ltE first k d).toList, ()) ∧ G (heapPop ltE first k d) ∧ (heapPop ltE first k d).size = d.size := by
  intro k
  induction k with
  | zero =>
    intro d hG hb hs
    rw [slices_heapSortCmpFunc_sel_end.q1]
    refine ⟨?_, hG, rfl⟩
    simp (disch := omega) only [smallI_t, inB_t, cutB_t, wrap64, dec_t, dec_f, dec_not, dec_and, dec_or, cond_ite, cond_true, cond_false, Option.bind_some, Option.bind_none, Bool.or_true, Bool.true_or, Bool.and_true, Bool.true_and, Bool.and_false, Bool.false_and, Bool.or_false, Bool.false_or, Bool.not_true, Bool.not_false, Bool.or_self, Bool.and_self, Bool.not_not, if_true, if_false, and_self, true_and, and_true, and_false, false_and, or_true, true_or, or_false, false_or, not_true_eq_false, not_false_eq_true, decide_true, decide_false, eq_self, if_pos, if_neg, mx_eq, mn_eq, slices_heapSortCmpFunc_sel_end.b1]
    rfl
  | succ k ih =>
    intro d hG hb hs
    rw [slices_heapSortCmpFunc_sel_end.q1, heapPop]
    have hG1 := G_swp hG (i := first) (j := first + k) (by omega) (by omega)
    obtain ⟨e, hG'⟩ := sift_eq (lo := 0) (hi := k) (first := first) hG1 (by rw [swp_size]; omega) (by rw [swp_size]; omega) (by omega)
    obtain ⟨i1, i2, i3⟩ := ih (siftDown ltE k first 0 (swp d first (first + k))) hG' (by rw [sift_sz, swp_size]; omega) (by rw [sift_sz, swp_size]; omega)
    refine ⟨?_, i2, by rw [i3, sift_sz, swp_size]⟩
    have h1 : ((k + 1 : Nat) : Int) - 1 = (k : Int) := by omega
    have h2 : (first : Int) + (k : Int) = ((first + k : Nat) : Int) := by omega
    have r1 := rdA (z := zE) (d := d) (i := ((first + k : Nat) : Int)) rfl (by omega)
    have r0 := rdA (z := zE) (d := d) (i := (first : Int)) rfl (by omega)
    have s1 := swB (d := d) (i := first) (j := first + k) rfl rfl
    rw [h1]
    have e' : slices_siftDownCmpFunc_sel_end.F .lim (swp d first (first + k)).toList ((0 : Int), (k : Int), (first : Int), ()) = some ((), (siftDown ltE k first 0 (swp d first (first + k))).toList) := e
    simp (disch := omega) only [smallI_t, inB_t, cutB_t, wrap64, dec_t, dec_f, dec_not, dec_and, dec_or, cond_ite, cond_true, cond_false, Option.bind_some, Option.bind_none, Bool.or_true, Bool.true_or, Bool.and_true, Bool.true_and, Bool.and_false, Bool.false_and, Bool.or_false, Bool.false_or, Bool.not_true, Bool.not_false, Bool.or_self, Bool.and_self, Bool.not_not, if_true, if_false, and_self, true_and, and_true, and_false, false_and, or_true, true_or, or_false, false_or, not_true_eq_false, not_false_eq_true, decide_true, decide_false, eq_self, if_pos, if_neg, mx_eq, mn_eq, slices_heapSortCmpFunc_sel_end.b1, h2, r0, r1, s1, sizeA, List.length_set, e', lenOK_some (show (siftDown ltE k first 0 (swp d first (first + k))).toList.length = (swp d first (first + k)).toList.length by simp [sift_sz])]
    exact i1
theorem heapSort_size (d : Array E) (a b : Nat) (hG : G d) (hb : b ≤ d.size) (hs : d.size < 50) (ha : a ≤ b) : (heapSort ltE d a b).size = d.size := by
  have h1 := heap_build (hi := b - a) (first := a) ((b - a - 1) / 2 + 1) d hG (by omega) hs (by omega)
  have h2 := heap_pop (first := a) (b - a) _ h1.2.1 (by rw [h1.2.2]; omega) (by rw [h1.2.2]; omega)
  rw [heapSort, h2.2.2, h1.2.2]
theorem heap_eq {a b : Nat} {d : Array E} (hG : G d) (hb : b ≤ d.size) (ha : a ≤ b) (hs : d.size < 50) :
    slices_heapSortCmpFunc_sel_end.F .lim d.toList ((a : Int), (b : Int), ()) = some ((), (heapSort ltE d a b).toList) ∧ G (heapSort ltE d a b) := by
  have h1 := heap_build (hi := b - a) (first := a) ((b - a - 1) / 2 + 1) d hG (by omega) hs (by omega)
  have h2 := heap_pop (first := a) (b - a) _ h1.2.1 (by rw [h1.2.2]; omega) (by rw [h1.2.2]; omega)
  refine ⟨?_, h2.2.1⟩
  have k1 : (b : Int) - (a : Int) = ((b - a : Nat) : Int) := by omega
  have k3 : (((b - a : Nat) : Int) - 1).tdiv 2 = (((b - a - 1) / 2 + 1 : Nat) : Int) - 1 := by
    by_cases h : b - a = 0
    · rw [h]; rfl
    · rw [Int.tdiv_eq_ediv_of_nonneg (by omega)]; omega
  simp (disch := omega) only [smallI_t, inB_t, cutB_t, wrap64, dec_t, dec_f, dec_not, dec_and, dec_or, cond_ite, cond_true, cond_false, Option.bind_some, Option.bind_none, Bool.or_true, Bool.true_or, Bool.and_true, Bool.true_and, Bool.and_false, Bool.false_and, Bool.or_false, Bool.false_or, Bool.not_true, Bool.not_false, Bool.or_self, Bool.and_self, Bool.not_not, if_true, if_false, and_self, true_and, and_true, and_false, false_and, or_true, true_or, or_false, false_or, not_true_eq_false, not_false_eq_true, decide_true, decide_false, eq_self, if_pos, if_neg, mx_eq, mn_eq, slices_heapSortCmpFunc_sel_end.F, k1, k3, h1.1, h2.1]
  rfl
/-! reversing -/
theorem reverseLoop_size : ∀ (n i j : Nat) (d : Array E), j - i ≤ n → (reverseLoop i j d).size = d.size := by
  intro n
  induction n with
  | zero => intro i j d h; rw [reverseLoop, if_neg (by omega)]
  | succ n ih =>
    intro i j d h
    rw [reverseLoop]; split
    · rw [ih _ _ _ (by omega), swp_size]
    · rfl
theorem rev_loop : ∀ (n i j : Nat) (j' : Int) (d : Array E), j - i ≤ n → G d → j < d.size ∨ j ≤ i → (j' = (j : Int) ∨ j' < i ∧ j ≤ i ∧ -10 < j') → d.size < 50 →
    slices_reverseRangeCmpFunc_sel_end.l0 .lim ((i : Int), j', d.toList, ()) = some ((reverseLoop i j d).toList, ()) ∧ G (reverseLoop i j d) := by
  intro n
  induction n with
  | zero =>
    intro i j j' d h hG hj hj' hs
    rw [slices_reverseRangeCmpFunc_sel_end.q0, reverseLoop, if_neg (by omega)]
    refine ⟨?_, hG⟩
    simp (disch := omega) only [smallI_t, inB_t, cutB_t, wrap64, dec_t, dec_f, dec_not, dec_and, dec_or, cond_ite, cond_true, cond_false, Option.bind_some, Option.bind_none, Bool.or_true, Bool.true_or, Bool.and_true, Bool.true_and, Bool.and_false, Bool.false_and, Bool.or_false, Bool.false_or, Bool.not_true, Bool.not_false, Bool.or_self, Bool.and_self, Bool.not_not, if_true, if_false, and_self, true_and, and_true, and_false, false_and, or_true, true_or, or_false, false_or, not_true_eq_false, not_false_eq_true, decide_true, decide_false, eq_self, if_pos, if_neg, mx_eq, mn_eq, slices_reverseRangeCmpFunc_sel_end.b0]
  | succ n ih =>
    intro i j j' d h hG hj hj' hs
    rw [slices_reverseRangeCmpFunc_sel_end.q0, reverseLoop]
    by_cases hij : i < j
    · rw [if_pos hij]
      obtain rfl : j' = (j : Int) := by omega
      obtain ⟨i1, i2⟩ := ih (i + 1) (j - 1) ((j : Int) - 1) (swp d i j) (by omega) (G_swp hG (by omega) (by omega)) (by rw [swp_size]; omega) (by omega) (by rw [swp_size]; omega)
      refine ⟨?_, i2⟩
      have r1 := rdA (z := zE) (d := d) (i := (i : Int)) rfl (by omega)
      have r2 := rdA (z := zE) (d := d) (i := (j : Int)) rfl (by omega)
      have s1 := swB (d := d) (i := i) (j := j) rfl rfl
      simp (disch := omega) only [smallI_t, inB_t, cutB_t, wrap64, dec_t, dec_f, dec_not, dec_and, dec_or, cond_ite, cond_true, cond_false, Option.bind_some, Option.bind_none, Bool.or_true, Bool.true_or, Bool.and_true, Bool.true_and, Bool.and_false, Bool.false_and, Bool.or_false, Bool.false_or, Bool.not_true, Bool.not_false, Bool.or_self, Bool.and_self, Bool.not_not, if_true, if_false, and_self, true_and, and_true, and_false, false_and, or_true, true_or, or_false, false_or, not_true_eq_false, not_false_eq_true, decide_true, decide_false, eq_self, if_pos, if_neg, mx_eq, mn_eq, slices_reverseRangeCmpFunc_sel_end.b0, r1, r2, s1, sizeA, List.length_set]
      exact i1
    · rw [if_neg hij]
      refine ⟨?_, hG⟩
      simp (disch := omega) only [smallI_t, inB_t, cutB_t, wrap64, dec_t, dec_f, dec_not, dec_and, dec_or, cond_ite, cond_true, cond_false, Option.bind_some, Option.bind_none, Bool.or_true, Bool.true_or, Bool.and_true, Bool.true_and, Bool.and_false, Bool.false_and, Bool.or_false, Bool.false_or, Bool.not_true, Bool.not_false, Bool.or_self, Bool.and_self, Bool.not_not, if_true, if_false, and_self, true_and, and_true, and_false, false_and, or_true, true_or, or_false, false_or, not_true_eq_false, not_false_eq_true, decide_true, decide_false, eq_self, if_pos, if_neg, mx_eq, mn_eq, slices_reverseRangeCmpFunc_sel_end.b0]
theorem reverse_eq {a b : Nat} {d : Array E} (hG : G d) (hb : b ≤ d.size) (ha : a < b) (hs : d.size < 50) :
    slices_reverseRangeCmpFunc_sel_end.F .lim d.toList ((a : Int), (b : Int), ()) = some ((), (reverseRange d a b).toList) ∧ G (reverseRange d a b) ∧ (reverseRange d a b).size = d.size := by
  obtain ⟨i1, i2⟩ := rev_loop _ a (b - 1) ((b : Int) - 1) d (Nat.le_refl _) hG (by omega) (by omega) hs
  refine ⟨?_, i2, reverseLoop_size _ _ _ _ (Nat.le_refl _)⟩
  simp (disch := omega) only [smallI_t, inB_t, cutB_t, wrap64, dec_t, dec_f, dec_not, dec_and, dec_or, cond_ite, cond_true, cond_false, Option.bind_some, Option.bind_none, Bool.or_true, Bool.true_or, Bool.and_true, Bool.true_and, Bool.and_false, Bool.false_and, Bool.or_false, Bool.false_or, Bool.not_true, Bool.not_false, Bool.or_self, Bool.and_self, Bool.not_not, if_true, if_false, and_self, true_and, and_true, and_false, false_and, or_true, true_or, or_false, false_or, not_true_eq_false, not_false_eq_true, decide_true, decide_false, eq_self, if_pos, if_neg, mx_eq, mn_eq, slices_reverseRangeCmpFunc_sel_end.F, i1]
  rfl
end Go.AM
end
section
namespace Go.AM
open Go.Sort
/-! unsigned words of 64 bits -/
theorem u64_max (x : UInt64) : 0 ≤ (x.toNat : Int) ∧ (x.toNat : Int) < 18446744073709551616 := by
  have := x.toNat_lt; omega
theorem wrapu64 {n : Int} (h1 : 0 ≤ n) (h2 : n < 18446744073709551616) : IntKind.u64.wrap n = n := by
  unfold IntKind.wrap; simp [IntKind.signed, IntKind.bits]; omega
theorem wrapu64_mod (n : Int) : IntKind.u64.wrap n = n % 18446744073709551616 := by
  unfold IntKind.wrap; simp [IntKind.signed, IntKind.bits]
theorem bv_of_u64 (x : UInt64) : BitVec.ofInt IntKind.u64.bits (x.toNat : Int) = x.toBitVec := by
  apply BitVec.eq_of_toNat_eq
  rw [BitVec.toNat_ofInt]
  show ((x.toNat : Int) % ((2 ^ 64 : Nat) : Int)).toNat = x.toNat
  have := u64_max x
  rw [Int.emod_eq_of_lt (by omega) (by omega), Int.toNat_natCast]
theorem u64_xor (x y : UInt64) : ixor .u64 (x.toNat : Int) (y.toNat : Int) = ((x ^^^ y).toNat : Int) := by
  unfold ixor bits2
  show IntKind.u64.wrap ((BitVec.ofInt IntKind.u64.bits (x.toNat : Int) ^^^ BitVec.ofInt IntKind.u64.bits (y.toNat : Int)).toNat : Int) = _
  rw [bv_of_u64, bv_of_u64]
  exact wrapu64 (by omega) (u64_max (x ^^^ y)).2
theorem u64_and (x y : UInt64) : iand .u64 (x.toNat : Int) (y.toNat : Int) = ((x &&& y).toNat : Int) := by
  unfold iand bits2
  show IntKind.u64.wrap ((BitVec.ofInt IntKind.u64.bits (x.toNat : Int) &&& BitVec.ofInt IntKind.u64.bits (y.toNat : Int)).toNat : Int) = _
  rw [bv_of_u64, bv_of_u64]
  exact wrapu64 (by omega) (u64_max (x &&& y)).2
theorem u64_shl (x : UInt64) (k : Nat) (hk : k < 64) : ishl .u64 (x.toNat : Int) (k : Int) = ((x <<< UInt64.ofNat k).toNat : Int) := by
  unfold ishl
  rw [Int.toNat_natCast, wrapu64_mod, Nat.min_eq_left (show k ≤ IntKind.u64.bits by show k ≤ 64; omega), UInt64.toNat_shiftLeft, UInt64.toNat_ofNat_of_lt' (by show k < 2 ^ 64; omega), Nat.mod_eq_of_lt hk, Nat.shiftLeft_eq]
  simp
theorem u64_shr (x : UInt64) (k : Nat) (hk : k < 64) : ishr .u64 (x.toNat : Int) (k : Int) = ((x >>> UInt64.ofNat k).toNat : Int) := by
  unfold ishr
  rw [Int.toNat_natCast, Nat.min_eq_left (show k ≤ IntKind.u64.bits by show k ≤ 64; omega), UInt64.toNat_shiftRight, UInt64.toNat_ofNat_of_lt' (by show k < 2 ^ 64; omega), Nat.mod_eq_of_lt hk, Nat.shiftRight_eq_div_pow, Int.fdiv_eq_ediv_of_nonneg _ (by have : (0:Int) < 2 ^ k := Int.pow_pos (by decide); omega)]
  simp
theorem xor_next (x : UInt64) : ixor .u64 (ixor .u64 (ixor .u64 (x.toNat : Int) (ishl .u64 (x.toNat : Int) (13 : Int))) (ishr .u64 (ixor .u64 (x.toNat : Int) (ishl .u64 (x.toNat : Int) (13 : Int))) (7 : Int))) (ishl .u64 (ixor .u64 (ixor .u64 (x.toNat : Int) (ishl .u64 (x.toNat : Int) (13 : Int))) (ishr .u64 (ixor .u64 (x.toNat : Int) (ishl .u64 (x.toNat : Int) (13 : Int))) (7 : Int))) (17 : Int)) = ((xorNext x).toNat : Int) := by
  have h13 : ∀ x : UInt64, ishl .u64 (x.toNat : Int) (13 : Int) = ((x <<< UInt64.ofNat 13).toNat : Int) := fun x => u64_shl x 13 (by decide)
  have h7 : ∀ x : UInt64, ishr .u64 (x.toNat : Int) (7 : Int) = ((x >>> UInt64.ofNat 7).toNat : Int) := fun x => u64_shr x 7 (by decide)
  have h17 : ∀ x : UInt64, ishl .u64 (x.toNat : Int) (17 : Int) = ((x <<< UInt64.ofNat 17).toNat : Int) := fun x => u64_shl x 17 (by decide)
  simp only [h13, h7, h17, u64_xor]
  rfl
theorem breakStep_size (a L M : Nat) (st : UInt64 × Array E) (i : Nat) : (breakStep a L M st i).2.size = st.2.size := by
  unfold breakStep; exact swp_size _ _ _
theorem br_loop {a L k : Nat} (hk : k ≤ 6) (hL : 8 ≤ L) (hL2 : L < 2 ^ k) (hLM : 2 ^ k ≤ 2 * L) {r : UInt64} {d : Array E} {idx : Nat} (hG : G d) (hb : a + L ≤ d.size) (hs : d.size < 50) (hi : idx ≤ a + L / 4 * 2 + 1) :
    slices_breakPatternsCmpFunc_sel_end.l0 .lim ((a : Int), (L : Int), ((2 ^ k : Nat) : Int), (idx : Int), d.toList, (r.toNat : Int), ()) =
    slices_breakPatternsCmpFunc_sel_end.l0 .lim ((a : Int), (L : Int), ((2 ^ k : Nat) : Int), ((idx + 1 : Nat) : Int), (breakStep a L (2 ^ k) (r, d) idx).2.toList, ((breakStep a L (2 ^ k) (r, d) idx).1.toNat : Int), ()) ∧ G (breakStep a L (2 ^ k) (r, d) idx).2 := by
  have hM : 2 ^ k ≤ 64 := Nat.pow_le_pow_right (n := 2) (by decide) hk
  have hM0 : 0 < 2 ^ k := Nat.two_pow_pos k
  have hand : iand .u64 ((xorNext r).toNat : Int) (((2 ^ k : Nat) : Int) - 1) = (((xorNext r).toNat &&& (2 ^ k - 1) : Nat) : Int) := by
    have := u64_and (xorNext r) (UInt64.ofNat (2 ^ k - 1))
    rw [UInt64.toNat_ofNat_of_lt' (by show _ < 2 ^ 64; omega), UInt64.toNat_and, UInt64.toNat_ofNat_of_lt' (by show _ < 2 ^ 64; omega)] at this
    rw [← this]; congr 1; omega
  have hlt : (xorNext r).toNat &&& (2 ^ k - 1) < 2 ^ k := by rw [Nat.and_two_pow_sub_one_eq_mod]; exact Nat.mod_lt _ hM0
  have hx := xor_next r
  have hw := wrapu64 (n := ((2 ^ k : Nat) : Int) - 1) (by omega) (by omega)
  rw [slices_breakPatternsCmpFunc_sel_end.q0]
  unfold breakStep
  generalize hy : xorNext r = y at *
  generalize ho : y.toNat &&& (2 ^ k - 1) = o at *
  have hM64 : ((2 ^ k : Nat) : Int) ≤ 64 := by omega
  generalize ((2 ^ k : Nat) : Int) = M at *
  have r0 := rdA (z := zE) (d := d) (i := (idx : Int)) rfl (by omega)
  by_cases h : o ≥ L
  · have k1 : (a : Int) + ((o : Int) - (L : Int)) = ((a + (o - L) : Nat) : Int) := by omega
    have r1 := rdA (z := zE) (d := d) (i := ((a + (o - L) : Nat) : Int)) rfl (by omega)
    have s1 := swB (d := d) (i := idx) (j := a + (o - L)) rfl rfl
    have hd : (L : Int).tdiv 4 = ((L / 4 : Nat) : Int) := by rw [Int.tdiv_eq_ediv_of_nonneg (by omega)]; omega
    refine ⟨?_, by simp only [ho, if_pos h]; exact G_swp hG (by omega) (by omega)⟩
    simp only [slices_breakPatternsCmpFunc_sel_end.b0, hx, hw, hand]
    simp (disch := omega) only [smallI_t, inB_t, cutB_t, wrap64, dec_t, dec_f, dec_not, dec_and, dec_or, cond_ite, cond_true, cond_false, Option.bind_some, Option.bind_none, Bool.or_true, Bool.true_or, Bool.and_true, Bool.true_and, Bool.and_false, Bool.false_and, Bool.or_false, Bool.false_or, Bool.not_true, Bool.not_false, Bool.or_self, Bool.and_self, Bool.not_not, if_true, if_false, and_self, true_and, and_true, and_false, false_and, or_true, true_or, or_false, false_or, not_true_eq_false, not_false_eq_true, decide_true, decide_false, eq_self, if_pos, if_neg, mx_eq, mn_eq, hd, k1, r0, r1, s1, sizeA, List.length_set, ho]
    rfl
  · have k1 : (a : Int) + (o : Int) = ((a + o : Nat) : Int) := by omega
    have r1 := rdA (z := zE) (d := d) (i := ((a + o : Nat) : Int)) rfl (by omega)
    have s1 := swB (d := d) (i := idx) (j := a + o) rfl rfl
    have hd : (L : Int).tdiv 4 = ((L / 4 : Nat) : Int) := by rw [Int.tdiv_eq_ediv_of_nonneg (by omega)]; omega
    refine ⟨?_, by simp only [ho, if_neg h]; exact G_swp hG (by omega) (by omega)⟩
    simp only [slices_breakPatternsCmpFunc_sel_end.b0, hx, hw, hand]
    simp (disch := omega) only [smallI_t, inB_t, cutB_t, wrap64, dec_t, dec_f, dec_not, dec_and, dec_or, cond_ite, cond_true, cond_false, Option.bind_some, Option.bind_none, Bool.or_true, Bool.true_or, Bool.and_true, Bool.true_and, Bool.and_false, Bool.false_and, Bool.or_false, Bool.false_or, Bool.not_true, Bool.not_false, Bool.or_self, Bool.and_self, Bool.not_not, if_true, if_false, and_self, true_and, and_true, and_false, false_and, or_true, true_or, or_false, false_or, not_true_eq_false, not_false_eq_true, decide_true, decide_false, eq_self, if_pos, if_neg, mx_eq, mn_eq, hd, k1, r0, r1, s1, sizeA, List.length_set, ho]
    rfl
end Go.AM
end
section
namespace Go.AM
open Go.Sort
theorem npot : ∀ L : Nat, L < 50 → slices_nextPowerOfTwo.run .lim ((L : Int), ()) = some (((2 ^ bitsLen L : Nat)) : Int) := by
  have h : (List.range 50).all (fun L => decide (slices_nextPowerOfTwo.run .lim ((L : Int), ()) = some (((2 ^ bitsLen L : Nat)) : Int))) = true := by kernel_rfl
  intro L hL
  exact of_decide_eq_true (List.all_eq_true.1 h L (List.mem_range.2 hL))
theorem blen : ∀ L : Nat, L < 50 → math_bits_Len.run .lim (IntKind.u64.wrap (L : Int), ()) = some ((bitsLen L : Nat) : Int) ∧ bitsLen L ≤ 6 ∧ L < 2 ^ bitsLen L ∧ (0 < L → 2 ^ bitsLen L ≤ 2 * L) := by
  have h : (List.range 50).all (fun L => decide (math_bits_Len.run .lim (IntKind.u64.wrap (L : Int), ()) = some ((bitsLen L : Nat) : Int)) && (decide (bitsLen L ≤ 6) && (decide (L < 2 ^ bitsLen L) && (Nat.beq L 0 || decide (2 ^ bitsLen L ≤ 2 * L))))) = true := by kernel_rfl
  intro L hL
  have := List.all_eq_true.1 h L (List.mem_range.2 hL)
  simp only [Bool.and_eq_true, Bool.or_eq_true, decide_eq_true_eq, Nat.beq_eq] at this
  exact ⟨this.1, this.2.1, this.2.2.1, fun h0 => by rcases this.2.2.2 with h | h <;> omega⟩
theorem break_eq {a b : Nat} {d : Array E} (hG : G d) (hb : b ≤ d.size) (ha : a ≤ b) (hs : d.size < 50) :
    slices_breakPatternsCmpFunc_sel_end.F .lim d.toList ((a : Int), (b : Int), ()) = some ((), (breakPatterns d a b).toList) ∧ G (breakPatterns d a b) ∧ (breakPatterns d a b).size = d.size := by
  have k1 : (b : Int) - (a : Int) = ((b - a : Nat) : Int) := by omega
  unfold breakPatterns
  by_cases h : b - a ≥ 8
  · obtain ⟨-, h6, hlt, hle⟩ := blen (b - a) (by omega)
    have hn := npot (b - a) (by omega)
    have hle := hle (by omega)
    simp only [h, if_true, Nat.one_shiftLeft]
    generalize hL : b - a = L at *
    have hd : (L : Int).tdiv 4 = ((L / 4 : Nat) : Int) := by rw [Int.tdiv_eq_ediv_of_nonneg (by omega)]; omega
    have st1 := br_loop (a := a) (L := L) (k := bitsLen L) h6 h hlt hle (r := UInt64.ofNat L) (d := d) (idx := a + L / 4 * 2 - 1) hG (by omega) hs (by omega)
    generalize hs1 : breakStep a L (2 ^ bitsLen L) (UInt64.ofNat L, d) (a + L / 4 * 2 - 1) = s1 at *
    have z1 : s1.2.size = d.size := by rw [← hs1, breakStep_size]
    have st2 := br_loop (a := a) (L := L) (k := bitsLen L) h6 h hlt hle (r := s1.1) (d := s1.2) (idx := a + L / 4 * 2 - 1 + 1) st1.2 (by omega) (by omega) (by omega)
    generalize hs2 : breakStep a L (2 ^ bitsLen L) (s1.1, s1.2) (a + L / 4 * 2 - 1 + 1) = s2 at *
    have z2 : s2.2.size = s1.2.size := by rw [← hs2, breakStep_size]
    have st3 := br_loop (a := a) (L := L) (k := bitsLen L) h6 h hlt hle (r := s2.1) (d := s2.2) (idx := a + L / 4 * 2 - 1 + 1 + 1) st2.2 (by omega) (by omega) (by omega)
    generalize hs3 : breakStep a L (2 ^ bitsLen L) (s2.1, s2.2) (a + L / 4 * 2 - 1 + 1 + 1) = s3 at *
    have z3 : s3.2.size = s2.2.size := by rw [← hs3, breakStep_size]
    have e3 : breakStep a L (2 ^ bitsLen L) s2 (a + L / 4 * 2 - 1 + 2) = s3 := hs3
    refine ⟨?_, st3.2, by omega⟩
    have hr : ((UInt64.ofNat L).toNat : Int) = (L : Int) := by rw [UInt64.toNat_ofNat_of_lt' (by show L < 2 ^ 64; omega)]
    have hw := wrapu64 (n := (L : Int)) (by omega) (by omega)
    have q1 := st1.1.trans (st2.1.trans st3.1)
    rw [hr] at q1
    have q2 : slices_breakPatternsCmpFunc_sel_end.l0 .lim ((a : Int), (L : Int), ((2 ^ bitsLen L : Nat) : Int), ((a + L / 4 * 2 - 1 + 1 + 1 + 1 : Nat) : Int), s3.2.toList, (s3.1.toNat : Int), ()) = some (s3.2.toList, ()) := by
      rw [slices_breakPatternsCmpFunc_sel_end.q0]
      simp (disch := omega) only [smallI_t, inB_t, cutB_t, wrap64, dec_t, dec_f, dec_not, dec_and, dec_or, cond_ite, cond_true, cond_false, Option.bind_some, Option.bind_none, Bool.or_true, Bool.true_or, Bool.and_true, Bool.true_and, Bool.and_false, Bool.false_and, Bool.or_false, Bool.false_or, Bool.not_true, Bool.not_false, Bool.or_self, Bool.and_self, Bool.not_not, if_true, if_false, and_self, true_and, and_true, and_false, false_and, or_true, true_or, or_false, false_or, not_true_eq_false, not_false_eq_true, decide_true, decide_false, eq_self, if_pos, if_neg, mx_eq, mn_eq, slices_breakPatternsCmpFunc_sel_end.b0, hd]
    have hi : (a : Int) + ((L / 4 : Nat) : Int) * 2 - 1 = ((a + L / 4 * 2 - 1 : Nat) : Int) := by omega
    simp (disch := omega) only [smallI_t, inB_t, cutB_t, wrap64, dec_t, dec_f, dec_not, dec_and, dec_or, cond_ite, cond_true, cond_false, Option.bind_some, Option.bind_none, Bool.or_true, Bool.true_or, Bool.and_true, Bool.true_and, Bool.and_false, Bool.false_and, Bool.or_false, Bool.false_or, Bool.not_true, Bool.not_false, Bool.or_self, Bool.and_self, Bool.not_not, if_true, if_false, and_self, true_and, and_true, and_false, false_and, or_true, true_or, or_false, false_or, not_true_eq_false, not_false_eq_true, decide_true, decide_false, eq_self, if_pos, if_neg, mx_eq, mn_eq, slices_breakPatternsCmpFunc_sel_end.F, k1, hn, hd, hi, hw, q1, q2]
  · simp only [h, if_false]
    refine ⟨?_, hG, trivial⟩
    simp (disch := omega) only [smallI_t, inB_t, cutB_t, wrap64, dec_t, dec_f, dec_not, dec_and, dec_or, cond_ite, cond_true, cond_false, Option.bind_some, Option.bind_none, Bool.or_true, Bool.true_or, Bool.and_true, Bool.true_and, Bool.and_false, Bool.false_and, Bool.or_false, Bool.false_or, Bool.not_true, Bool.not_false, Bool.or_self, Bool.and_self, Bool.not_not, if_true, if_false, and_self, true_and, and_true, and_false, false_and, or_true, true_or, or_false, false_or, not_true_eq_false, not_false_eq_true, decide_true, decide_false, eq_self, if_pos, if_neg, mx_eq, mn_eq, slices_breakPatternsCmpFunc_sel_end.F, k1]
/-! the pivot -/
theorem ord15 {a b : Nat} {c s : Int} {d : Array E} (hG : G d) (ha : a < d.size) (hb : b < d.size) (hs : d.size < 50) (h0 : 0 ≤ s) (h9 : s < 100) :
    slices_choosePivotCmpFunc_sel_end.l15 .lim ((a : Int), (b : Int), c, d.toList, s, ()) = some (if ltE d[b]! d[a]! = true then .inl ((b : Int), (a : Int), c, d.toList, s + 1, ()) else .inr ((a : Int), (b : Int), c, d.toList, s, ())) := by
  have ra := rdA (z := zE) (d := d) (i := (a : Int)) rfl ha
  have rb := rdA (z := zE) (d := d) (i := (b : Int)) rfl hb
  have hc := cmp_eq (hG b hb) (hG a ha)
  have hl := ltE_cm d[b]! d[a]!
  rw [slices_choosePivotCmpFunc_sel_end.q15]
  cases h : ltE d[b]! d[a]! with
  | true => have := hl.1 h; simp (disch := omega) only [smallI_t, inB_t, cutB_t, wrap64, dec_t, dec_f, dec_not, dec_and, dec_or, cond_ite, cond_true, cond_false, Option.bind_some, Option.bind_none, Bool.or_true, Bool.true_or, Bool.and_true, Bool.true_and, Bool.and_false, Bool.false_and, Bool.or_false, Bool.false_or, Bool.not_true, Bool.not_false, Bool.or_self, Bool.and_self, Bool.not_not, if_true, if_false, and_self, true_and, and_true, and_false, false_and, or_true, true_or, or_false, false_or, not_true_eq_false, not_false_eq_true, decide_true, decide_false, eq_self, if_pos, if_neg, mx_eq, mn_eq, slices_choosePivotCmpFunc_sel_end.b15, ra, rb, hc, sizeA]
  | false => have := hl.2 h; simp (disch := omega) only [smallI_t, inB_t, cutB_t, wrap64, dec_t, dec_f, dec_not, dec_and, dec_or, cond_ite, cond_true, cond_false, Option.bind_some, Option.bind_none, Bool.or_true, Bool.true_or, Bool.and_true, Bool.true_and, Bool.and_false, Bool.false_and, Bool.or_false, Bool.false_or, Bool.not_true, Bool.not_false, Bool.or_self, Bool.and_self, Bool.not_not, if_true, if_false, and_self, true_and, and_true, and_false, false_and, or_true, true_or, or_false, false_or, not_true_eq_false, not_false_eq_true, decide_true, decide_false, eq_self, if_pos, if_neg, mx_eq, mn_eq, slices_choosePivotCmpFunc_sel_end.b15, ra, rb, hc, sizeA]; rfl
theorem ord16 {a b : Nat} {c s : Int} {d : Array E} (hG : G d) (ha : a < d.size) (hb : b < d.size) (hs : d.size < 50) (h0 : 0 ≤ s) (h9 : s < 100) :
    slices_choosePivotCmpFunc_sel_end.l16 .lim ((a : Int), (b : Int), c, d.toList, s, ()) = some (if ltE d[b]! d[a]! = true then .inl ((b : Int), (a : Int), c, d.toList, s + 1, ()) else .inr ((a : Int), (b : Int), c, d.toList, s, ())) := by
  have ra := rdA (z := zE) (d := d) (i := (a : Int)) rfl ha
  have rb := rdA (z := zE) (d := d) (i := (b : Int)) rfl hb
  have hc := cmp_eq (hG b hb) (hG a ha)
  have hl := ltE_cm d[b]! d[a]!
  rw [slices_choosePivotCmpFunc_sel_end.q16]
  cases h : ltE d[b]! d[a]! with
  | true => have := hl.1 h; simp (disch := omega) only [smallI_t, inB_t, cutB_t, wrap64, dec_t, dec_f, dec_not, dec_and, dec_or, cond_ite, cond_true, cond_false, Option.bind_some, Option.bind_none, Bool.or_true, Bool.true_or, Bool.and_true, Bool.true_and, Bool.and_false, Bool.false_and, Bool.or_false, Bool.false_or, Bool.not_true, Bool.not_false, Bool.or_self, Bool.and_self, Bool.not_not, if_true, if_false, and_self, true_and, and_true, and_false, false_and, or_true, true_or, or_false, false_or, not_true_eq_false, not_false_eq_true, decide_true, decide_false, eq_self, if_pos, if_neg, mx_eq, mn_eq, slices_choosePivotCmpFunc_sel_end.b16, ra, rb, hc, sizeA]
  | false => have := hl.2 h; simp (disch := omega) only [smallI_t, inB_t, cutB_t, wrap64, dec_t, dec_f, dec_not, dec_and, dec_or, cond_ite, cond_true, cond_false, Option.bind_some, Option.bind_none, Bool.or_true, Bool.true_or, Bool.and_true, Bool.true_and, Bool.and_false, Bool.false_and, Bool.or_false, Bool.false_or, Bool.not_true, Bool.not_false, Bool.or_self, Bool.and_self, Bool.not_not, if_true, if_false, and_self, true_and, and_true, and_false, false_and, or_true, true_or, or_false, false_or, not_true_eq_false, not_false_eq_true, decide_true, decide_false, eq_self, if_pos, if_neg, mx_eq, mn_eq, slices_choosePivotCmpFunc_sel_end.b16, ra, rb, hc, sizeA]; rfl
theorem ord17 {a b : Nat} {s : Int} {d : Array E} (hG : G d) (ha : a < d.size) (hb : b < d.size) (hs : d.size < 50) (h0 : 0 ≤ s) (h9 : s < 100) :
    slices_choosePivotCmpFunc_sel_end.l17 .lim ((a : Int), (b : Int), d.toList, s, ()) = some (if ltE d[b]! d[a]! = true then .inl ((b : Int), (a : Int), d.toList, s + 1, ()) else .inr ((a : Int), (b : Int), d.toList, s, ())) := by
  have ra := rdA (z := zE) (d := d) (i := (a : Int)) rfl ha
  have rb := rdA (z := zE) (d := d) (i := (b : Int)) rfl hb
  have hc := cmp_eq (hG b hb) (hG a ha)
  have hl := ltE_cm d[b]! d[a]!
  rw [slices_choosePivotCmpFunc_sel_end.q17]
  cases h : ltE d[b]! d[a]! with
  | true => have := hl.1 h; simp (disch := omega) only [smallI_t, inB_t, cutB_t, wrap64, dec_t, dec_f, dec_not, dec_and, dec_or, cond_ite, cond_true, cond_false, Option.bind_some, Option.bind_none, Bool.or_true, Bool.true_or, Bool.and_true, Bool.true_and, Bool.and_false, Bool.false_and, Bool.or_false, Bool.false_or, Bool.not_true, Bool.not_false, Bool.or_self, Bool.and_self, Bool.not_not, if_true, if_false, and_self, true_and, and_true, and_false, false_and, or_true, true_or, or_false, false_or, not_true_eq_false, not_false_eq_true, decide_true, decide_false, eq_self, if_pos, if_neg, mx_eq, mn_eq, slices_choosePivotCmpFunc_sel_end.b17, ra, rb, hc, sizeA]
  | false => have := hl.2 h; simp (disch := omega) only [smallI_t, inB_t, cutB_t, wrap64, dec_t, dec_f, dec_not, dec_and, dec_or, cond_ite, cond_true, cond_false, Option.bind_some, Option.bind_none, Bool.or_true, Bool.true_or, Bool.and_true, Bool.true_and, Bool.and_false, Bool.false_and, Bool.or_false, Bool.false_or, Bool.not_true, Bool.not_false, Bool.or_self, Bool.and_self, Bool.not_not, if_true, if_false, and_self, true_and, and_true, and_false, false_and, or_true, true_or, or_false, false_or, not_true_eq_false, not_false_eq_true, decide_true, decide_false, eq_self, if_pos, if_neg, mx_eq, mn_eq, slices_choosePivotCmpFunc_sel_end.b17, ra, rb, hc, sizeA]; rfl
def hintC : Hint → Int
  | .unknown => 0
  | .increasing => 1
  | .decreasing => 2
theorem ord_le (d : Array E) (i j s : Nat) : (order2 ltE d i j s).2.2 ≤ s + 1 := by
  unfold order2; split <;> simp
theorem median_le (d : Array E) (i j k : Nat) : (median ltE d i j k 0).2 ≤ 3 := by
  have h1 := ord_le d i j 0
  have h2 := ord_le d (order2 ltE d i j 0).2.1 k (order2 ltE d i j 0).2.2
  have h3 := ord_le d (order2 ltE d i j 0).1 (order2 ltE d (order2 ltE d i j 0).2.1 k (order2 ltE d i j 0).2.2).1 (order2 ltE d (order2 ltE d i j 0).2.1 k (order2 ltE d i j 0).2.2).2.2
  show (order2 ltE d (order2 ltE d i j 0).1 (order2 ltE d (order2 ltE d i j 0).2.1 k (order2 ltE d i j 0).2.2).1 (order2 ltE d (order2 ltE d i j 0).2.1 k (order2 ltE d i j 0).2.2).2.2).2.2 ≤ 3
  omega
theorem median_eq {i j k : Nat} {d : Array E} (hG : G d) (hi : i < d.size) (hj : j < d.size) (hk : k < d.size) (hs : d.size < 50) :
    slices_choosePivotCmpFunc_sel_end.l18 .lim ((i : Int), (j : Int), (k : Int), d.toList, (0 : Int), ()) = some (((median ltE d i j k 0).1 : Int), d.toList, ((median ltE d i j k 0).2 : Int), ()) := by
  rw [slices_choosePivotCmpFunc_sel_end.q18]
  simp only [slices_choosePivotCmpFunc_sel_end.b18]
  rw [ord15 hG hi hj hs (by omega) (by omega)]
  unfold median order2
  by_cases h1 : ltE d[j]! d[i]! = true
  · simp only [h1, if_true, Option.bind_some]
    rw [ord16 hG hi hk hs (by omega) (by omega)]
    by_cases h2 : ltE d[k]! d[i]! = true
    · simp only [h2, if_true, Option.bind_some]
      rw [ord17 hG hj hk hs (by omega) (by omega)]
      by_cases h3 : ltE d[k]! d[j]! = true
      · simp only [h3, if_true, Option.bind_some]; rfl
      · simp only [h3, Bool.false_eq_true, if_false, Option.bind_some]; rfl
    · simp only [h2, Bool.false_eq_true, if_false, Option.bind_some]
      rw [ord17 hG hj hi hs (by omega) (by omega)]
      by_cases h3 : ltE d[i]! d[j]! = true
      · simp only [h3, if_true, Option.bind_some]; rfl
      · simp only [h3, Bool.false_eq_true, if_false, Option.bind_some]; rfl
  · simp only [h1, Bool.false_eq_true, if_false, Option.bind_some]
    rw [ord16 hG hj hk hs (by omega) (by omega)]
    by_cases h2 : ltE d[k]! d[j]! = true
    · simp only [h2, if_true, Option.bind_some]
      rw [ord17 hG hi hk hs (by omega) (by omega)]
      by_cases h3 : ltE d[k]! d[i]! = true
      · simp only [h3, if_true, Option.bind_some]; rfl
      · simp only [h3, Bool.false_eq_true, if_false, Option.bind_some]; rfl
    · simp only [h2, Bool.false_eq_true, if_false, Option.bind_some]
      rw [ord17 hG hi hj hs (by omega) (by omega)]
      simp only [h1, Bool.false_eq_true, if_false, Option.bind_some]; rfl
theorem pivot_eq {a b : Nat} {d : Array E} (hG : G d) (hb : b ≤ d.size) (ha : a < b) (hs : d.size < 50) :
    slices_choosePivotCmpFunc_sel_end.F .lim d.toList ((a : Int), (b : Int), ()) = some ((((choosePivot ltE d a b).1 : Int), hintC (choosePivot ltE d a b).2, ()), d.toList) ∧ (choosePivot ltE d a b).2 ≠ .decreasing := by
  have k1 : (b : Int) - (a : Int) = ((b - a : Nat) : Int) := by omega
  unfold choosePivot
  have hd : ((b - a : Nat) : Int).tdiv 4 = (((b - a) / 4 : Nat) : Int) := by rw [Int.tdiv_eq_ediv_of_nonneg (by omega)]; omega
  by_cases h8 : b - a ≥ 8
  · have hm := median_le d (a + (b - a) / 4 * 1) (a + (b - a) / 4 * 2) (a + (b - a) / 4 * 3)
    have he := median_eq hG (i := a + (b - a) / 4 * 1) (j := a + (b - a) / 4 * 2) (k := a + (b - a) / 4 * 3) (by omega) (by omega) (by omega) hs
    simp only [h8, if_true, show ¬ b - a ≥ 50 by omega, if_false]
    generalize median ltE d (a + (b - a) / 4 * 1) (a + (b - a) / 4 * 2) (a + (b - a) / 4 * 3) 0 = r at *
    have j1 : (a : Int) + (((b - a) / 4 : Nat) : Int) * 1 = ((a + (b - a) / 4 * 1 : Nat) : Int) := by omega
    have j2 : (a : Int) + (((b - a) / 4 : Nat) : Int) * 2 = ((a + (b - a) / 4 * 2 : Nat) : Int) := by omega
    have j3 : (a : Int) + (((b - a) / 4 : Nat) : Int) * 3 = ((a + (b - a) / 4 * 3 : Nat) : Int) := by omega
    refine ⟨?_, by
      split
      · exact fun h => nomatch h
      · rw [if_neg (by omega)]; exact fun h => nomatch h⟩
    by_cases hz : r.2 = 0
    · simp only [hz, if_true]
      simp (disch := omega) only [smallI_t, inB_t, cutB_t, wrap64, dec_t, dec_f, dec_not, dec_and, dec_or, cond_ite, cond_true, cond_false, Option.bind_some, Option.bind_none, Bool.or_true, Bool.true_or, Bool.and_true, Bool.true_and, Bool.and_false, Bool.false_and, Bool.or_false, Bool.false_or, Bool.not_true, Bool.not_false, Bool.or_self, Bool.and_self, Bool.not_not, if_true, if_false, and_self, true_and, and_true, and_false, false_and, or_true, true_or, or_false, false_or, not_true_eq_false, not_false_eq_true, decide_true, decide_false, eq_self, if_pos, if_neg, mx_eq, mn_eq, slices_choosePivotCmpFunc_sel_end.F, k1, hd, j1, j2, j3, he]
      rfl
    · rw [if_neg hz, if_neg (by omega)]
      simp (disch := omega) only [smallI_t, inB_t, cutB_t, wrap64, dec_t, dec_f, dec_not, dec_and, dec_or, cond_ite, cond_true, cond_false, Option.bind_some, Option.bind_none, Bool.or_true, Bool.true_or, Bool.and_true, Bool.true_and, Bool.and_false, Bool.false_and, Bool.or_false, Bool.false_or, Bool.not_true, Bool.not_false, Bool.or_self, Bool.and_self, Bool.not_not, if_true, if_false, and_self, true_and, and_true, and_false, false_and, or_true, true_or, or_false, false_or, not_true_eq_false, not_false_eq_true, decide_true, decide_false, eq_self, if_pos, if_neg, mx_eq, mn_eq, slices_choosePivotCmpFunc_sel_end.F, k1, hd, j1, j2, j3, he]
      rfl
  · simp only [h8, if_false]
    have j2 : (a : Int) + (((b - a) / 4 : Nat) : Int) * 2 = ((a + (b - a) / 4 * 2 : Nat) : Int) := by omega
    refine ⟨?_, by simp⟩
    simp (disch := omega) only [smallI_t, inB_t, cutB_t, wrap64, dec_t, dec_f, dec_not, dec_and, dec_or, cond_ite, cond_true, cond_false, Option.bind_some, Option.bind_none, Bool.or_true, Bool.true_or, Bool.and_true, Bool.true_and, Bool.and_false, Bool.false_and, Bool.or_false, Bool.false_or, Bool.not_true, Bool.not_false, Bool.or_self, Bool.and_self, Bool.not_not, if_true, if_false, and_self, true_and, and_true, and_false, false_and, or_true, true_or, or_false, false_or, not_true_eq_false, not_false_eq_true, decide_true, decide_false, eq_self, if_pos, if_neg, mx_eq, mn_eq, slices_choosePivotCmpFunc_sel_end.F, k1, hd, j2]
    rfl
end Go.AM
end
section
namespace Go.AM
open Go.Sort
/-! the scans -/
theorem pt0 {a j : Nat} {d : Array E} (hG : G d) (ha : a < d.size) (hj : j < d.size) (hs : d.size < 50) : ∀ (n i : Nat), j + 1 - i ≤ n → i < 60 →
    slices_partitionCmpFunc_sel_end.l0 .lim ((a : Int), (i : Int), (j : Int), d.toList, ()) = some ((a : Int), (scanUp (fun x => ltE x d[a]!) d j i : Int), (j : Int), d.toList, ()) := by
  intro n
  induction n with
  | zero =>
    intro i h hi
    rw [slices_partitionCmpFunc_sel_end.q0, scanUp]
    simp (disch := omega) only [smallI_t, inB_t, cutB_t, wrap64, dec_t, dec_f, dec_not, dec_and, dec_or, cond_ite, cond_true, cond_false, Option.bind_some, Option.bind_none, Bool.or_true, Bool.true_or, Bool.and_true, Bool.true_and, Bool.and_false, Bool.false_and, Bool.or_false, Bool.false_or, Bool.not_true, Bool.not_false, Bool.or_self, Bool.and_self, Bool.not_not, if_true, if_false, and_self, true_and, and_true, and_false, false_and, or_true, true_or, or_false, false_or, not_true_eq_false, not_false_eq_true, decide_true, decide_false, eq_self, if_pos, if_neg, mx_eq, mn_eq, slices_partitionCmpFunc_sel_end.b0]
    simp [show ¬ i ≤ j by omega]
  | succ n ih =>
    intro i h hi
    rw [slices_partitionCmpFunc_sel_end.q0, scanUp]
    by_cases hij : i ≤ j
    · have ra := rdA (z := zE) (d := d) (i := (a : Int)) rfl ha
      have rj := rdA (z := zE) (d := d) (i := (i : Int)) rfl (by omega)
      have hc := cmp_eq (hG i (by omega)) (hG a (by omega))
      have w := ltE_cm d[i]! d[a]!
      have := ih (i + 1) (by omega) (by omega)
      cases h : ltE d[i]! d[a]! with
      | true =>
        have w := w.1 h
        simp (disch := omega) only [smallI_t, inB_t, cutB_t, wrap64, dec_t, dec_f, dec_not, dec_and, dec_or, cond_ite, cond_true, cond_false, Option.bind_some, Option.bind_none, Bool.or_true, Bool.true_or, Bool.and_true, Bool.true_and, Bool.and_false, Bool.false_and, Bool.or_false, Bool.false_or, Bool.not_true, Bool.not_false, Bool.or_self, Bool.and_self, Bool.not_not, if_true, if_false, and_self, true_and, and_true, and_false, false_and, or_true, true_or, or_false, false_or, not_true_eq_false, not_false_eq_true, decide_true, decide_false, eq_self, if_pos, if_neg, mx_eq, mn_eq, slices_partitionCmpFunc_sel_end.b0, ra, rj, hc, sizeA]
        rw [show ((i : Int) + 1) = ((i + 1 : Nat) : Int) from rfl, this]
      | false =>
        have w := w.2 h
        simp (disch := omega) only [smallI_t, inB_t, cutB_t, wrap64, dec_t, dec_f, dec_not, dec_and, dec_or, cond_ite, cond_true, cond_false, Option.bind_some, Option.bind_none, Bool.or_true, Bool.true_or, Bool.and_true, Bool.true_and, Bool.and_false, Bool.false_and, Bool.or_false, Bool.false_or, Bool.not_true, Bool.not_false, Bool.or_self, Bool.and_self, Bool.not_not, if_true, if_false, and_self, true_and, and_true, and_false, false_and, or_true, true_or, or_false, false_or, not_true_eq_false, not_false_eq_true, decide_true, decide_false, eq_self, if_pos, if_neg, mx_eq, mn_eq, slices_partitionCmpFunc_sel_end.b0, ra, rj, hc, sizeA]
        simp
    · simp (disch := omega) only [smallI_t, inB_t, cutB_t, wrap64, dec_t, dec_f, dec_not, dec_and, dec_or, cond_ite, cond_true, cond_false, Option.bind_some, Option.bind_none, Bool.or_true, Bool.true_or, Bool.and_true, Bool.true_and, Bool.and_false, Bool.false_and, Bool.or_false, Bool.false_or, Bool.not_true, Bool.not_false, Bool.or_self, Bool.and_self, Bool.not_not, if_true, if_false, and_self, true_and, and_true, and_false, false_and, or_true, true_or, or_false, false_or, not_true_eq_false, not_false_eq_true, decide_true, decide_false, eq_self, if_pos, if_neg, mx_eq, mn_eq, slices_partitionCmpFunc_sel_end.b0]
      simp [hij]
theorem pt2 {a j : Nat} {d : Array E} (hG : G d) (ha : a < d.size) (hj : j < d.size) (hs : d.size < 50) : ∀ (n i : Nat), j + 1 - i ≤ n → i < 60 →
    slices_partitionCmpFunc_sel_end.l2 .lim ((a : Int), (i : Int), (j : Int), d.toList, ()) = some ((a : Int), (scanUp (fun x => ltE x d[a]!) d j i : Int), (j : Int), d.toList, ()) := by
  intro n
  induction n with
  | zero =>
    intro i h hi
    rw [slices_partitionCmpFunc_sel_end.q2, scanUp]
    simp (disch := omega) only [smallI_t, inB_t, cutB_t, wrap64, dec_t, dec_f, dec_not, dec_and, dec_or, cond_ite, cond_true, cond_false, Option.bind_some, Option.bind_none, Bool.or_true, Bool.true_or, Bool.and_true, Bool.true_and, Bool.and_false, Bool.false_and, Bool.or_false, Bool.false_or, Bool.not_true, Bool.not_false, Bool.or_self, Bool.and_self, Bool.not_not, if_true, if_false, and_self, true_and, and_true, and_false, false_and, or_true, true_or, or_false, false_or, not_true_eq_false, not_false_eq_true, decide_true, decide_false, eq_self, if_pos, if_neg, mx_eq, mn_eq, slices_partitionCmpFunc_sel_end.b2]
    simp [show ¬ i ≤ j by omega]
  | succ n ih =>
    intro i h hi
    rw [slices_partitionCmpFunc_sel_end.q2, scanUp]
    by_cases hij : i ≤ j
    · have ra := rdA (z := zE) (d := d) (i := (a : Int)) rfl ha
      have rj := rdA (z := zE) (d := d) (i := (i : Int)) rfl (by omega)
      have hc := cmp_eq (hG i (by omega)) (hG a (by omega))
      have w := ltE_cm d[i]! d[a]!
      have := ih (i + 1) (by omega) (by omega)
      cases h : ltE d[i]! d[a]! with
      | true =>
        have w := w.1 h
        simp (disch := omega) only [smallI_t, inB_t, cutB_t, wrap64, dec_t, dec_f, dec_not, dec_and, dec_or, cond_ite, cond_true, cond_false, Option.bind_some, Option.bind_none, Bool.or_true, Bool.true_or, Bool.and_true, Bool.true_and, Bool.and_false, Bool.false_and, Bool.or_false, Bool.false_or, Bool.not_true, Bool.not_false, Bool.or_self, Bool.and_self, Bool.not_not, if_true, if_false, and_self, true_and, and_true, and_false, false_and, or_true, true_or, or_false, false_or, not_true_eq_false, not_false_eq_true, decide_true, decide_false, eq_self, if_pos, if_neg, mx_eq, mn_eq, slices_partitionCmpFunc_sel_end.b2, ra, rj, hc, sizeA]
        rw [show ((i : Int) + 1) = ((i + 1 : Nat) : Int) from rfl, this]
      | false =>
        have w := w.2 h
        simp (disch := omega) only [smallI_t, inB_t, cutB_t, wrap64, dec_t, dec_f, dec_not, dec_and, dec_or, cond_ite, cond_true, cond_false, Option.bind_some, Option.bind_none, Bool.or_true, Bool.true_or, Bool.and_true, Bool.true_and, Bool.and_false, Bool.false_and, Bool.or_false, Bool.false_or, Bool.not_true, Bool.not_false, Bool.or_self, Bool.and_self, Bool.not_not, if_true, if_false, and_self, true_and, and_true, and_false, false_and, or_true, true_or, or_false, false_or, not_true_eq_false, not_false_eq_true, decide_true, decide_false, eq_self, if_pos, if_neg, mx_eq, mn_eq, slices_partitionCmpFunc_sel_end.b2, ra, rj, hc, sizeA]
        simp
    · simp (disch := omega) only [smallI_t, inB_t, cutB_t, wrap64, dec_t, dec_f, dec_not, dec_and, dec_or, cond_ite, cond_true, cond_false, Option.bind_some, Option.bind_none, Bool.or_true, Bool.true_or, Bool.and_true, Bool.true_and, Bool.and_false, Bool.false_and, Bool.or_false, Bool.false_or, Bool.not_true, Bool.not_false, Bool.or_self, Bool.and_self, Bool.not_not, if_true, if_false, and_self, true_and, and_true, and_false, false_and, or_true, true_or, or_false, false_or, not_true_eq_false, not_false_eq_true, decide_true, decide_false, eq_self, if_pos, if_neg, mx_eq, mn_eq, slices_partitionCmpFunc_sel_end.b2]
      simp [hij]
theorem pt1 {a i : Nat} {d : Array E} (hG : G d) (ha : a < d.size) (hi : 1 ≤ i) (hs : d.size < 50) (hi6 : i < 60) : ∀ (j : Nat), j < d.size →
    slices_partitionCmpFunc_sel_end.l1 .lim ((a : Int), (i : Int), (j : Int), d.toList, ()) = some ((a : Int), (i : Int), (scanDown (fun x => !ltE x d[a]!) d i j : Int), d.toList, ()) := by
  intro j
  induction j with
  | zero =>
    intro hj
    rw [slices_partitionCmpFunc_sel_end.q1, scanDown]
    simp (disch := omega) only [smallI_t, inB_t, cutB_t, wrap64, dec_t, dec_f, dec_not, dec_and, dec_or, cond_ite, cond_true, cond_false, Option.bind_some, Option.bind_none, Bool.or_true, Bool.true_or, Bool.and_true, Bool.true_and, Bool.and_false, Bool.false_and, Bool.or_false, Bool.false_or, Bool.not_true, Bool.not_false, Bool.or_self, Bool.and_self, Bool.not_not, if_true, if_false, and_self, true_and, and_true, and_false, false_and, or_true, true_or, or_false, false_or, not_true_eq_false, not_false_eq_true, decide_true, decide_false, eq_self, if_pos, if_neg, mx_eq, mn_eq, slices_partitionCmpFunc_sel_end.b1]
  | succ j ih =>
    intro hj
    rw [slices_partitionCmpFunc_sel_end.q1, scanDown]
    by_cases hij : i ≤ j + 1
    · have ra := rdA (z := zE) (d := d) (i := (a : Int)) rfl ha
      have rj := rdA (z := zE) (d := d) (i := ((j + 1 : Nat) : Int)) rfl (by omega)
      have hc := cmp_eq (hG (j + 1) (by omega)) (hG a (by omega))
      have w := ltE_cm d[j + 1]! d[a]!
      have hj1 : ((j + 1 : Nat) : Int) - 1 = (j : Int) := by omega
      have := ih (by omega)
      cases h : ltE d[j + 1]! d[a]! with
      | false =>
        have w := w.2 h
        simp (disch := omega) only [smallI_t, inB_t, cutB_t, wrap64, dec_t, dec_f, dec_not, dec_and, dec_or, cond_ite, cond_true, cond_false, Option.bind_some, Option.bind_none, Bool.or_true, Bool.true_or, Bool.and_true, Bool.true_and, Bool.and_false, Bool.false_and, Bool.or_false, Bool.false_or, Bool.not_true, Bool.not_false, Bool.or_self, Bool.and_self, Bool.not_not, if_true, if_false, and_self, true_and, and_true, and_false, false_and, or_true, true_or, or_false, false_or, not_true_eq_false, not_false_eq_true, decide_true, decide_false, eq_self, if_pos, if_neg, mx_eq, mn_eq, slices_partitionCmpFunc_sel_end.b1, ra, rj, hc, sizeA, hj1, this]
      | true =>
        have w := w.1 h
        simp (disch := omega) only [smallI_t, inB_t, cutB_t, wrap64, dec_t, dec_f, dec_not, dec_and, dec_or, cond_ite, cond_true, cond_false, Option.bind_some, Option.bind_none, Bool.or_true, Bool.true_or, Bool.and_true, Bool.true_and, Bool.and_false, Bool.false_and, Bool.or_false, Bool.false_or, Bool.not_true, Bool.not_false, Bool.or_self, Bool.and_self, Bool.not_not, if_true, if_false, and_self, true_and, and_true, and_false, false_and, or_true, true_or, or_false, false_or, not_true_eq_false, not_false_eq_true, decide_true, decide_false, eq_self, if_pos, if_neg, mx_eq, mn_eq, slices_partitionCmpFunc_sel_end.b1, ra, rj, hc, sizeA]
        simp
    · simp (disch := omega) only [smallI_t, inB_t, cutB_t, wrap64, dec_t, dec_f, dec_not, dec_and, dec_or, cond_ite, cond_true, cond_false, Option.bind_some, Option.bind_none, Bool.or_true, Bool.true_or, Bool.and_true, Bool.true_and, Bool.and_false, Bool.false_and, Bool.or_false, Bool.false_or, Bool.not_true, Bool.not_false, Bool.or_self, Bool.and_self, Bool.not_not, if_true, if_false, and_self, true_and, and_true, and_false, false_and, or_true, true_or, or_false, false_or, not_true_eq_false, not_false_eq_true, decide_true, decide_false, eq_self, if_pos, if_neg, mx_eq, mn_eq, slices_partitionCmpFunc_sel_end.b1]
      simp [hij]
theorem pt3 {a i : Nat} {d : Array E} (hG : G d) (ha : a < d.size) (hi : 1 ≤ i) (hs : d.size < 50) (hi6 : i < 60) : ∀ (j : Nat), j < d.size →
    slices_partitionCmpFunc_sel_end.l3 .lim ((a : Int), (i : Int), (j : Int), d.toList, ()) = some ((a : Int), (i : Int), (scanDown (fun x => !ltE x d[a]!) d i j : Int), d.toList, ()) := by
  intro j
  induction j with
  | zero =>
    intro hj
    rw [slices_partitionCmpFunc_sel_end.q3, scanDown]
    simp (disch := omega) only [smallI_t, inB_t, cutB_t, wrap64, dec_t, dec_f, dec_not, dec_and, dec_or, cond_ite, cond_true, cond_false, Option.bind_some, Option.bind_none, Bool.or_true, Bool.true_or, Bool.and_true, Bool.true_and, Bool.and_false, Bool.false_and, Bool.or_false, Bool.false_or, Bool.not_true, Bool.not_false, Bool.or_self, Bool.and_self, Bool.not_not, if_true, if_false, and_self, true_and, and_true, and_false, false_and, or_true, true_or, or_false, false_or, not_true_eq_false, not_false_eq_true, decide_true, decide_false, eq_self, if_pos, if_neg, mx_eq, mn_eq, slices_partitionCmpFunc_sel_end.b3]
  | succ j ih =>
    intro hj
    rw [slices_partitionCmpFunc_sel_end.q3, scanDown]
    by_cases hij : i ≤ j + 1
    · have ra := rdA (z := zE) (d := d) (i := (a : Int)) rfl ha
      have rj := rdA (z := zE) (d := d) (i := ((j + 1 : Nat) : Int)) rfl (by omega)
      have hc := cmp_eq (hG (j + 1) (by omega)) (hG a (by omega))
      have w := ltE_cm d[j + 1]! d[a]!
      have hj1 : ((j + 1 : Nat) : Int) - 1 = (j : Int) := by omega
      have := ih (by omega)
      cases h : ltE d[j + 1]! d[a]! with
      | false =>
        have w := w.2 h
        simp (disch := omega) only [smallI_t, inB_t, cutB_t, wrap64, dec_t, dec_f, dec_not, dec_and, dec_or, cond_ite, cond_true, cond_false, Option.bind_some, Option.bind_none, Bool.or_true, Bool.true_or, Bool.and_true, Bool.true_and, Bool.and_false, Bool.false_and, Bool.or_false, Bool.false_or, Bool.not_true, Bool.not_false, Bool.or_self, Bool.and_self, Bool.not_not, if_true, if_false, and_self, true_and, and_true, and_false, false_and, or_true, true_or, or_false, false_or, not_true_eq_false, not_false_eq_true, decide_true, decide_false, eq_self, if_pos, if_neg, mx_eq, mn_eq, slices_partitionCmpFunc_sel_end.b3, ra, rj, hc, sizeA, hj1, this]
      | true =>
        have w := w.1 h
        simp (disch := omega) only [smallI_t, inB_t, cutB_t, wrap64, dec_t, dec_f, dec_not, dec_and, dec_or, cond_ite, cond_true, cond_false, Option.bind_some, Option.bind_none, Bool.or_true, Bool.true_or, Bool.and_true, Bool.true_and, Bool.and_false, Bool.false_and, Bool.or_false, Bool.false_or, Bool.not_true, Bool.not_false, Bool.or_self, Bool.and_self, Bool.not_not, if_true, if_false, and_self, true_and, and_true, and_false, false_and, or_true, true_or, or_false, false_or, not_true_eq_false, not_false_eq_true, decide_true, decide_false, eq_self, if_pos, if_neg, mx_eq, mn_eq, slices_partitionCmpFunc_sel_end.b3, ra, rj, hc, sizeA]
        simp
    · simp (disch := omega) only [smallI_t, inB_t, cutB_t, wrap64, dec_t, dec_f, dec_not, dec_and, dec_or, cond_ite, cond_true, cond_false, Option.bind_some, Option.bind_none, Bool.or_true, Bool.true_or, Bool.and_true, Bool.true_and, Bool.and_false, Bool.false_and, Bool.or_false, Bool.false_or, Bool.not_true, Bool.not_false, Bool.or_self, Bool.and_self, Bool.not_not, if_true, if_false, and_self, true_and, and_true, and_false, false_and, or_true, true_or, or_false, false_or, not_true_eq_false, not_false_eq_true, decide_true, decide_false, eq_self, if_pos, if_neg, mx_eq, mn_eq, slices_partitionCmpFunc_sel_end.b3]
      simp [hij]
theorem pe0 {a j : Nat} {d : Array E} (hG : G d) (ha : a < d.size) (hj : j < d.size) (hs : d.size < 50) : ∀ (n i : Nat), j + 1 - i ≤ n → i < 60 →
    slices_partitionEqualCmpFunc_sel_end.l0 .lim ((a : Int), (i : Int), (j : Int), d.toList, ()) = some ((a : Int), (scanUp (fun x => !ltE d[a]! x) d j i : Int), (j : Int), d.toList, ()) := by
  intro n
  induction n with
  | zero =>
    intro i h hi
    rw [slices_partitionEqualCmpFunc_sel_end.q0, scanUp]
    simp (disch := omega) only [smallI_t, inB_t, cutB_t, wrap64, dec_t, dec_f, dec_not, dec_and, dec_or, cond_ite, cond_true, cond_false, Option.bind_some, Option.bind_none, Bool.or_true, Bool.true_or, Bool.and_true, Bool.true_and, Bool.and_false, Bool.false_and, Bool.or_false, Bool.false_or, Bool.not_true, Bool.not_false, Bool.or_self, Bool.and_self, Bool.not_not, if_true, if_false, and_self, true_and, and_true, and_false, false_and, or_true, true_or, or_false, false_or, not_true_eq_false, not_false_eq_true, decide_true, decide_false, eq_self, if_pos, if_neg, mx_eq, mn_eq, slices_partitionEqualCmpFunc_sel_end.b0]
    simp [show ¬ i ≤ j by omega]
  | succ n ih =>
    intro i h hi
    rw [slices_partitionEqualCmpFunc_sel_end.q0, scanUp]
    by_cases hij : i ≤ j
    · have ra := rdA (z := zE) (d := d) (i := (a : Int)) rfl ha
      have rj := rdA (z := zE) (d := d) (i := (i : Int)) rfl (by omega)
      have hc := cmp_eq (hG a (by omega)) (hG i (by omega))
      have w := ltE_cm d[a]! d[i]!
      have := ih (i + 1) (by omega) (by omega)
      cases h : ltE d[a]! d[i]! with
      | false =>
        have w := w.2 h
        simp (disch := omega) only [smallI_t, inB_t, cutB_t, wrap64, dec_t, dec_f, dec_not, dec_and, dec_or, cond_ite, cond_true, cond_false, Option.bind_some, Option.bind_none, Bool.or_true, Bool.true_or, Bool.and_true, Bool.true_and, Bool.and_false, Bool.false_and, Bool.or_false, Bool.false_or, Bool.not_true, Bool.not_false, Bool.or_self, Bool.and_self, Bool.not_not, if_true, if_false, and_self, true_and, and_true, and_false, false_and, or_true, true_or, or_false, false_or, not_true_eq_false, not_false_eq_true, decide_true, decide_false, eq_self, if_pos, if_neg, mx_eq, mn_eq, slices_partitionEqualCmpFunc_sel_end.b0, ra, rj, hc, sizeA]
        rw [show ((i : Int) + 1) = ((i + 1 : Nat) : Int) from rfl, this]
      | true =>
        have w := w.1 h
        simp (disch := omega) only [smallI_t, inB_t, cutB_t, wrap64, dec_t, dec_f, dec_not, dec_and, dec_or, cond_ite, cond_true, cond_false, Option.bind_some, Option.bind_none, Bool.or_true, Bool.true_or, Bool.and_true, Bool.true_and, Bool.and_false, Bool.false_and, Bool.or_false, Bool.false_or, Bool.not_true, Bool.not_false, Bool.or_self, Bool.and_self, Bool.not_not, if_true, if_false, and_self, true_and, and_true, and_false, false_and, or_true, true_or, or_false, false_or, not_true_eq_false, not_false_eq_true, decide_true, decide_false, eq_self, if_pos, if_neg, mx_eq, mn_eq, slices_partitionEqualCmpFunc_sel_end.b0, ra, rj, hc, sizeA]
        simp
    · simp (disch := omega) only [smallI_t, inB_t, cutB_t, wrap64, dec_t, dec_f, dec_not, dec_and, dec_or, cond_ite, cond_true, cond_false, Option.bind_some, Option.bind_none, Bool.or_true, Bool.true_or, Bool.and_true, Bool.true_and, Bool.and_false, Bool.false_and, Bool.or_false, Bool.false_or, Bool.not_true, Bool.not_false, Bool.or_self, Bool.and_self, Bool.not_not, if_true, if_false, and_self, true_and, and_true, and_false, false_and, or_true, true_or, or_false, false_or, not_true_eq_false, not_false_eq_true, decide_true, decide_false, eq_self, if_pos, if_neg, mx_eq, mn_eq, slices_partitionEqualCmpFunc_sel_end.b0]
      simp [hij]
theorem pe1 {a i : Nat} {d : Array E} (hG : G d) (ha : a < d.size) (hi : 1 ≤ i) (hs : d.size < 50) (hi6 : i < 60) : ∀ (j : Nat), j < d.size →
    slices_partitionEqualCmpFunc_sel_end.l1 .lim ((a : Int), (i : Int), (j : Int), d.toList, ()) = some ((a : Int), (i : Int), (scanDown (fun x => ltE d[a]! x) d i j : Int), d.toList, ()) := by
  intro j
  induction j with
  | zero =>
    intro hj
    rw [slices_partitionEqualCmpFunc_sel_end.q1, scanDown]
    simp (disch := omega) only [smallI_t, inB_t, cutB_t, wrap64, dec_t, dec_f, dec_not, dec_and, dec_or, cond_ite, cond_true, cond_false, Option.bind_some, Option.bind_none, Bool.or_true, Bool.true_or, Bool.and_true, Bool.true_and, Bool.and_false, Bool.false_and, Bool.or_false, Bool.false_or, Bool.not_true, Bool.not_false, Bool.or_self, Bool.and_self, Bool.not_not, if_true, if_false, and_self, true_and, and_true, and_false, false_and, or_true, true_or, or_false, false_or, not_true_eq_false, not_false_eq_true, decide_true, decide_false, eq_self, if_pos, if_neg, mx_eq, mn_eq, slices_partitionEqualCmpFunc_sel_end.b1]
  | succ j ih =>
    intro hj
    rw [slices_partitionEqualCmpFunc_sel_end.q1, scanDown]
    by_cases hij : i ≤ j + 1
    · have ra := rdA (z := zE) (d := d) (i := (a : Int)) rfl ha
      have rj := rdA (z := zE) (d := d) (i := ((j + 1 : Nat) : Int)) rfl (by omega)
      have hc := cmp_eq (hG a (by omega)) (hG (j + 1) (by omega))
      have w := ltE_cm d[a]! d[j + 1]!
      have hj1 : ((j + 1 : Nat) : Int) - 1 = (j : Int) := by omega
      have := ih (by omega)
      cases h : ltE d[a]! d[j + 1]! with
      | true =>
        have w := w.1 h
        simp (disch := omega) only [smallI_t, inB_t, cutB_t, wrap64, dec_t, dec_f, dec_not, dec_and, dec_or, cond_ite, cond_true, cond_false, Option.bind_some, Option.bind_none, Bool.or_true, Bool.true_or, Bool.and_true, Bool.true_and, Bool.and_false, Bool.false_and, Bool.or_false, Bool.false_or, Bool.not_true, Bool.not_false, Bool.or_self, Bool.and_self, Bool.not_not, if_true, if_false, and_self, true_and, and_true, and_false, false_and, or_true, true_or, or_false, false_or, not_true_eq_false, not_false_eq_true, decide_true, decide_false, eq_self, if_pos, if_neg, mx_eq, mn_eq, slices_partitionEqualCmpFunc_sel_end.b1, ra, rj, hc, sizeA, hj1, this]
      | false =>
        have w := w.2 h
        simp (disch := omega) only [smallI_t, inB_t, cutB_t, wrap64, dec_t, dec_f, dec_not, dec_and, dec_or, cond_ite, cond_true, cond_false, Option.bind_some, Option.bind_none, Bool.or_true, Bool.true_or, Bool.and_true, Bool.true_and, Bool.and_false, Bool.false_and, Bool.or_false, Bool.false_or, Bool.not_true, Bool.not_false, Bool.or_self, Bool.and_self, Bool.not_not, if_true, if_false, and_self, true_and, and_true, and_false, false_and, or_true, true_or, or_false, false_or, not_true_eq_false, not_false_eq_true, decide_true, decide_false, eq_self, if_pos, if_neg, mx_eq, mn_eq, slices_partitionEqualCmpFunc_sel_end.b1, ra, rj, hc, sizeA]
        simp
    · simp (disch := omega) only [smallI_t, inB_t, cutB_t, wrap64, dec_t, dec_f, dec_not, dec_and, dec_or, cond_ite, cond_true, cond_false, Option.bind_some, Option.bind_none, Bool.or_true, Bool.true_or, Bool.and_true, Bool.true_and, Bool.and_false, Bool.false_and, Bool.or_false, Bool.false_or, Bool.not_true, Bool.not_false, Bool.or_self, Bool.and_self, Bool.not_not, if_true, if_false, and_self, true_and, and_true, and_false, false_and, or_true, true_or, or_false, false_or, not_true_eq_false, not_false_eq_true, decide_true, decide_false, eq_self, if_pos, if_neg, mx_eq, mn_eq, slices_partitionEqualCmpFunc_sel_end.b1]
      simp [hij]
end Go.AM
end
section
namespace Go.AM
open Go.Sort
theorem up_le (p : E → Bool) (d : Array E) (j : Nat) : ∀ (n i : Nat), j + 1 - i ≤ n → i ≤ j + 1 → scanUp p d j i ≤ j + 1 := by
  intro n
  induction n with
  | zero => intro i h1 h2; rw [scanUp]; split
            · rename_i hc; simp at hc; omega
            · omega
  | succ n ih =>
    intro i h1 h2
    rw [scanUp]; split
    · rename_i hc; simp at hc; exact ih _ (by omega) (by omega)
    · omega
theorem part_loop {a : Nat} : ∀ (n i j : Nat) (d : Array E), j + 1 - i ≤ n → G d → a < d.size → j < d.size → d.size < 50 → 1 ≤ i → i < 60 →
    slices_partitionCmpFunc_sel_end.l4 .lim ((a : Int), (i : Int), (j : Int), d.toList, ()) = some ((a : Int), ((partLoop ltE a i j d).1 : Int), (partLoop ltE a i j d).2.toList, ()) ∧ G (partLoop ltE a i j d).2 ∧ (partLoop ltE a i j d).2.size = d.size ∧ (partLoop ltE a i j d).1 ≤ j := by
  intro n
  induction n with
  | zero =>
    intro i j d h hG ha hj hs h1 hi
    rw [slices_partitionCmpFunc_sel_end.q4, partLoop_eq]
    have g1 := scanUp_ge (fun x => ltE x d[a]!) d j i
    have g2 := scanDown_le (fun x => !ltE x d[a]!) d (scanUp (fun x => ltE x d[a]!) d j i) j
    have g3 : scanUp (fun x => ltE x d[a]!) d j i < 60 := by rw [scanUp, if_neg (by simp; omega)]; omega
    have e1 := pt2 hG ha hj hs _ i (Nat.le_refl _) hi
    have e2 := pt3 hG ha (i := scanUp (fun x => ltE x d[a]!) d j i) (by omega) hs g3 j hj
    generalize scanUp (fun x => ltE x d[a]!) d j i = i2 at *
    generalize scanDown (fun x => !ltE x d[a]!) d i2 j = j2 at *
    rw [if_pos (by omega)]
    refine ⟨?_, hG, rfl, g2⟩
    simp (disch := omega) only [smallI_t, inB_t, cutB_t, wrap64, dec_t, dec_f, dec_not, dec_and, dec_or, cond_ite, cond_true, cond_false, Option.bind_some, Option.bind_none, Bool.or_true, Bool.true_or, Bool.and_true, Bool.true_and, Bool.and_false, Bool.false_and, Bool.or_false, Bool.false_or, Bool.not_true, Bool.not_false, Bool.or_self, Bool.and_self, Bool.not_not, if_true, if_false, and_self, true_and, and_true, and_false, false_and, or_true, true_or, or_false, false_or, not_true_eq_false, not_false_eq_true, decide_true, decide_false, eq_self, if_pos, if_neg, mx_eq, mn_eq, slices_partitionCmpFunc_sel_end.b4, e1, e2]
  | succ n ih =>
    intro i j d h hG ha hj hs h1 hi
    rw [slices_partitionCmpFunc_sel_end.q4, partLoop_eq]
    have g1 := scanUp_ge (fun x => ltE x d[a]!) d j i
    have g2 := scanDown_le (fun x => !ltE x d[a]!) d (scanUp (fun x => ltE x d[a]!) d j i) j
    have g3 : scanUp (fun x => ltE x d[a]!) d j i < 60 := by
      by_cases hij : i ≤ j + 1
      · have := up_le (fun x => ltE x d[a]!) d j _ i (Nat.le_refl _) hij; omega
      · rw [scanUp, if_neg (by simp; omega)]; omega
    have e1 := pt2 hG ha hj hs _ i (Nat.le_refl _) hi
    have e2 := pt3 hG ha (i := scanUp (fun x => ltE x d[a]!) d j i) (by omega) hs g3 j hj
    generalize scanUp (fun x => ltE x d[a]!) d j i = i2 at *
    generalize scanDown (fun x => !ltE x d[a]!) d i2 j = j2 at *
    by_cases hc : i2 > j2
    · rw [if_pos hc]
      refine ⟨?_, hG, rfl, g2⟩
      simp (disch := omega) only [smallI_t, inB_t, cutB_t, wrap64, dec_t, dec_f, dec_not, dec_and, dec_or, cond_ite, cond_true, cond_false, Option.bind_some, Option.bind_none, Bool.or_true, Bool.true_or, Bool.and_true, Bool.true_and, Bool.and_false, Bool.false_and, Bool.or_false, Bool.false_or, Bool.not_true, Bool.not_false, Bool.or_self, Bool.and_self, Bool.not_not, if_true, if_false, and_self, true_and, and_true, and_false, false_and, or_true, true_or, or_false, false_or, not_true_eq_false, not_false_eq_true, decide_true, decide_false, eq_self, if_pos, if_neg, mx_eq, mn_eq, slices_partitionCmpFunc_sel_end.b4, e1, e2]
    · rw [if_neg hc]
      obtain ⟨i1, i2', i3, i4⟩ := ih (i2 + 1) (j2 - 1) (swp d i2 j2) (by omega) (G_swp hG (by omega) (by omega)) (by rw [swp_size]; omega) (by rw [swp_size]; omega) (by rw [swp_size]; omega) (by omega) (by omega)
      refine ⟨?_, i2', by rw [i3, swp_size], by omega⟩
      have r1 := rdA (z := zE) (d := d) (i := (i2 : Int)) rfl (by omega)
      have r2 := rdA (z := zE) (d := d) (i := (j2 : Int)) rfl (by omega)
      have s1 := swB (d := d) (i := i2) (j := j2) rfl rfl
      have k1 : (j2 : Int) - 1 = ((j2 - 1 : Nat) : Int) := by omega
      simp (disch := omega) only [smallI_t, inB_t, cutB_t, wrap64, dec_t, dec_f, dec_not, dec_and, dec_or, cond_ite, cond_true, cond_false, Option.bind_some, Option.bind_none, Bool.or_true, Bool.true_or, Bool.and_true, Bool.true_and, Bool.and_false, Bool.false_and, Bool.or_false, Bool.false_or, Bool.not_true, Bool.not_false, Bool.or_self, Bool.and_self, Bool.not_not, if_true, if_false, and_self, true_and, and_true, and_false, false_and, or_true, true_or, or_false, false_or, not_true_eq_false, not_false_eq_true, decide_true, decide_false, eq_self, if_pos, if_neg, mx_eq, mn_eq, slices_partitionCmpFunc_sel_end.b4, e1, e2, r1, r2, s1, sizeA, List.length_set, k1]
      exact i1
theorem partition_eq {a b p : Nat} {d : Array E} (hG : G d) (hb : b ≤ d.size) (hap : a ≤ p) (hpb : p < b) (hs : d.size < 50) (h12 : 2 ≤ b - a) :
    slices_partitionCmpFunc_sel_end.F .lim d.toList ((a : Int), (b : Int), (p : Int), ()) = some ((((partition ltE d a b p).1 : Int), (partition ltE d a b p).2.1, ()), (partition ltE d a b p).2.2.toList) ∧ G (partition ltE d a b p).2.2 ∧ (partition ltE d a b p).2.2.size = d.size := by
  have hG1 := G_swp hG (i := a) (j := p) (by omega) (by omega)
  have z1 : (swp d a p).size = d.size := swp_size _ _ _
  have r1 := rdA (z := zE) (d := d) (i := (a : Int)) rfl (by omega)
  have r2 := rdA (z := zE) (d := d) (i := (p : Int)) rfl (by omega)
  have s1 := swB (d := d) (i := a) (j := p) rfl rfl
  have k1 : (b : Int) - 1 = ((b - 1 : Nat) : Int) := by omega
  have k2 : (a : Int) + 1 = ((a + 1 : Nat) : Int) := by omega
  unfold partition
  simp only []
  generalize swp d a p = d1 at *
  have g1 := scanUp_ge (fun x => ltE x d1[a]!) d1 (b - 1) (a + 1)
  have g2 := scanDown_le (fun x => !ltE x d1[a]!) d1 (scanUp (fun x => ltE x d1[a]!) d1 (b - 1) (a + 1)) (b - 1)
  have g3 := up_le (fun x => ltE x d1[a]!) d1 (b - 1) _ (a + 1) (Nat.le_refl _) (by omega)
  have e1 := pt0 hG1 (a := a) (j := b - 1) (by omega) (by omega) (by omega) _ (a + 1) (Nat.le_refl _) (by omega)
  have e2 := pt1 hG1 (a := a) (i := scanUp (fun x => ltE x d1[a]!) d1 (b - 1) (a + 1)) (by omega) (by omega) (by omega) (by omega) (b - 1) (by omega)
  generalize scanUp (fun x => ltE x d1[a]!) d1 (b - 1) (a + 1) = i2 at *
  generalize scanDown (fun x => !ltE x d1[a]!) d1 i2 (b - 1) = j2 at *
  by_cases hc : i2 > j2
  · simp only [hc, if_true]
    have r3 := rdA (z := zE) (d := d1) (i := (a : Int)) rfl (by omega)
    have r4 := rdA (z := zE) (d := d1) (i := (j2 : Int)) rfl (by omega)
    have s2 := swB (d := d1) (i := j2) (j := a) rfl rfl
    refine ⟨?_, G_swp hG1 (by omega) (by omega), by rw [swp_size]; omega⟩
    simp (disch := omega) only [smallI_t, inB_t, cutB_t, wrap64, dec_t, dec_f, dec_not, dec_and, dec_or, cond_ite, cond_true, cond_false, Option.bind_some, Option.bind_none, Bool.or_true, Bool.true_or, Bool.and_true, Bool.true_and, Bool.and_false, Bool.false_and, Bool.or_false, Bool.false_or, Bool.not_true, Bool.not_false, Bool.or_self, Bool.and_self, Bool.not_not, if_true, if_false, and_self, true_and, and_true, and_false, false_and, or_true, true_or, or_false, false_or, not_true_eq_false, not_false_eq_true, decide_true, decide_false, eq_self, if_pos, if_neg, mx_eq, mn_eq, slices_partitionCmpFunc_sel_end.F, r1, r2, s1, sizeA, List.length_set, k1, k2, e1, e2, r3, r4, s2]
  · simp only [hc, if_false]
    have r3 := rdA (z := zE) (d := d1) (i := (i2 : Int)) rfl (by omega)
    have r4 := rdA (z := zE) (d := d1) (i := (j2 : Int)) rfl (by omega)
    have s2 := swB (d := d1) (i := i2) (j := j2) rfl rfl
    have hG2 := G_swp hG1 (i := i2) (j := j2) (by omega) (by omega)
    have z2 : (swp d1 i2 j2).size = d1.size := swp_size _ _ _
    have k3 : (j2 : Int) - 1 = ((j2 - 1 : Nat) : Int) := by omega
    have k4 : (i2 : Int) + 1 = ((i2 + 1 : Nat) : Int) := by omega
    generalize swp d1 i2 j2 = d2 at *
    obtain ⟨l1, l2, l3, l4⟩ := part_loop (a := a) _ (i2 + 1) (j2 - 1) d2 (Nat.le_refl _) hG2 (by omega) (by omega) (by omega) (by omega) (by omega)
    generalize partLoop ltE a (i2 + 1) (j2 - 1) d2 = r at *
    have r5 := rdA (z := zE) (d := r.2) (i := (a : Int)) rfl (by omega)
    have r6 := rdA (z := zE) (d := r.2) (i := (r.1 : Int)) rfl (by omega)
    have s3 := swB (d := r.2) (i := r.1) (j := a) rfl rfl
    refine ⟨?_, G_swp l2 (by omega) (by omega), by rw [swp_size]; omega⟩
    simp (disch := omega) only [smallI_t, inB_t, cutB_t, wrap64, dec_t, dec_f, dec_not, dec_and, dec_or, cond_ite, cond_true, cond_false, Option.bind_some, Option.bind_none, Bool.or_true, Bool.true_or, Bool.and_true, Bool.true_and, Bool.and_false, Bool.false_and, Bool.or_false, Bool.false_or, Bool.not_true, Bool.not_false, Bool.or_self, Bool.and_self, Bool.not_not, if_true, if_false, and_self, true_and, and_true, and_false, false_and, or_true, true_or, or_false, false_or, not_true_eq_false, not_false_eq_true, decide_true, decide_false, eq_self, if_pos, if_neg, mx_eq, mn_eq, slices_partitionCmpFunc_sel_end.F, r1, r2, s1, sizeA, List.length_set, k1, k2, e1, e2, r3, r4, s2, k3, k4, l1, r5, r6, s3]
theorem parteq_loop {a : Nat} : ∀ (n i j : Nat) (d : Array E), j + 1 - i ≤ n → G d → a < d.size → j < d.size → d.size < 50 → 1 ≤ i → i < 60 →
    slices_partitionEqualCmpFunc_sel_end.l2 .lim ((a : Int), (i : Int), (j : Int), d.toList, ()) = some (((partEqLoop ltE a i j d).1 : Int), (partEqLoop ltE a i j d).2.toList, ()) ∧ G (partEqLoop ltE a i j d).2 ∧ (partEqLoop ltE a i j d).2.size = d.size := by
  intro n
  induction n with
  | zero =>
    intro i j d h hG ha hj hs h1 hi
    rw [slices_partitionEqualCmpFunc_sel_end.q2, partEqLoop_eq]
    have g1 := scanUp_ge (fun x => !ltE d[a]! x) d j i
    have g2 := scanDown_le (fun x => ltE d[a]! x) d (scanUp (fun x => !ltE d[a]! x) d j i) j
    have g3 : scanUp (fun x => !ltE d[a]! x) d j i < 60 := by rw [scanUp, if_neg (by simp; omega)]; omega
    have e1 := pe0 hG ha hj hs _ i (Nat.le_refl _) hi
    have e2 := pe1 hG ha (i := scanUp (fun x => !ltE d[a]! x) d j i) (by omega) hs g3 j hj
    generalize scanUp (fun x => !ltE d[a]! x) d j i = i2 at *
    generalize scanDown (fun x => ltE d[a]! x) d i2 j = j2 at *
    rw [if_pos (by omega)]
    refine ⟨?_, hG, rfl⟩
    simp (disch := omega) only [smallI_t, inB_t, cutB_t, wrap64, dec_t, dec_f, dec_not, dec_and, dec_or, cond_ite, cond_true, cond_false, Option.bind_some, Option.bind_none, Bool.or_true, Bool.true_or, Bool.and_true, Bool.true_and, Bool.and_false, Bool.false_and, Bool.or_false, Bool.false_or, Bool.not_true, Bool.not_false, Bool.or_self, Bool.and_self, Bool.not_not, if_true, if_false, and_self, true_and, and_true, and_false, false_and, or_true, true_or, or_false, false_or, not_true_eq_false, not_false_eq_true, decide_true, decide_false, eq_self, if_pos, if_neg, mx_eq, mn_eq, slices_partitionEqualCmpFunc_sel_end.b2, e1, e2]
  | succ n ih =>
    intro i j d h hG ha hj hs h1 hi
    rw [slices_partitionEqualCmpFunc_sel_end.q2, partEqLoop_eq]
    have g1 := scanUp_ge (fun x => !ltE d[a]! x) d j i
    have g2 := scanDown_le (fun x => ltE d[a]! x) d (scanUp (fun x => !ltE d[a]! x) d j i) j
    have g3 : scanUp (fun x => !ltE d[a]! x) d j i < 60 := by
      by_cases hij : i ≤ j + 1
      · have := up_le (fun x => !ltE d[a]! x) d j _ i (Nat.le_refl _) hij; omega
      · rw [scanUp, if_neg (by simp; omega)]; omega
    have e1 := pe0 hG ha hj hs _ i (Nat.le_refl _) hi
    have e2 := pe1 hG ha (i := scanUp (fun x => !ltE d[a]! x) d j i) (by omega) hs g3 j hj
    generalize scanUp (fun x => !ltE d[a]! x) d j i = i2 at *
    generalize scanDown (fun x => ltE d[a]! x) d i2 j = j2 at *
    by_cases hc : i2 > j2
    · rw [if_pos hc]
      refine ⟨?_, hG, rfl⟩
      simp (disch := omega) only [smallI_t, inB_t, cutB_t, wrap64, dec_t, dec_f, dec_not, dec_and, dec_or, cond_ite, cond_true, cond_false, Option.bind_some, Option.bind_none, Bool.or_true, Bool.true_or, Bool.and_true, Bool.true_and, Bool.and_false, Bool.false_and, Bool.or_false, Bool.false_or, Bool.not_true, Bool.not_false, Bool.or_self, Bool.and_self, Bool.not_not, if_true, if_false, and_self, true_and, and_true, and_false, false_and, or_true, true_or, or_false, false_or, not_true_eq_false, not_false_eq_true, decide_true, decide_false, eq_self, if_pos, if_neg, mx_eq, mn_eq, slices_partitionEqualCmpFunc_sel_end.b2, e1, e2]
    · rw [if_neg hc]
      obtain ⟨i1, i2', i3⟩ := ih (i2 + 1) (j2 - 1) (swp d i2 j2) (by omega) (G_swp hG (by omega) (by omega)) (by rw [swp_size]; omega) (by rw [swp_size]; omega) (by rw [swp_size]; omega) (by omega) (by omega)
      refine ⟨?_, i2', by rw [i3, swp_size]⟩
      have r1 := rdA (z := zE) (d := d) (i := (i2 : Int)) rfl (by omega)
      have r2 := rdA (z := zE) (d := d) (i := (j2 : Int)) rfl (by omega)
      have s1 := swB (d := d) (i := i2) (j := j2) rfl rfl
      have k1 : (j2 : Int) - 1 = ((j2 - 1 : Nat) : Int) := by omega
      simp (disch := omega) only [smallI_t, inB_t, cutB_t, wrap64, dec_t, dec_f, dec_not, dec_and, dec_or, cond_ite, cond_true, cond_false, Option.bind_some, Option.bind_none, Bool.or_true, Bool.true_or, Bool.and_true, Bool.true_and, Bool.and_false, Bool.false_and, Bool.or_false, Bool.false_or, Bool.not_true, Bool.not_false, Bool.or_self, Bool.and_self, Bool.not_not, if_true, if_false, and_self, true_and, and_true, and_false, false_and, or_true, true_or, or_false, false_or, not_true_eq_false, not_false_eq_true, decide_true, decide_false, eq_self, if_pos, if_neg, mx_eq, mn_eq, slices_partitionEqualCmpFunc_sel_end.b2, e1, e2, r1, r2, s1, sizeA, List.length_set, k1]
      exact i1
theorem parteq_eq {a b p : Nat} {d : Array E} (hG : G d) (hb : b ≤ d.size) (hap : a ≤ p) (hpb : p < b) (hs : d.size < 50) (h12 : 2 ≤ b - a) :
    slices_partitionEqualCmpFunc_sel_end.F .lim d.toList ((a : Int), (b : Int), (p : Int), ()) = some (((partitionEqual ltE d a b p).1 : Int), (partitionEqual ltE d a b p).2.toList) ∧ G (partitionEqual ltE d a b p).2 ∧ (partitionEqual ltE d a b p).2.size = d.size := by
  have hG1 := G_swp hG (i := a) (j := p) (by omega) (by omega)
  have z1 : (swp d a p).size = d.size := swp_size _ _ _
  have r1 := rdA (z := zE) (d := d) (i := (a : Int)) rfl (by omega)
  have r2 := rdA (z := zE) (d := d) (i := (p : Int)) rfl (by omega)
  have s1 := swB (d := d) (i := a) (j := p) rfl rfl
  have k1 : (b : Int) - 1 = ((b - 1 : Nat) : Int) := by omega
  have k2 : (a : Int) + 1 = ((a + 1 : Nat) : Int) := by omega
  unfold partitionEqual
  generalize swp d a p = d1 at *
  obtain ⟨l1, l2, l3⟩ := parteq_loop (a := a) _ (a + 1) (b - 1) d1 (Nat.le_refl _) hG1 (by omega) (by omega) (by omega) (by omega) (by omega)
  refine ⟨?_, l2, by omega⟩
  simp (disch := omega) only [smallI_t, inB_t, cutB_t, wrap64, dec_t, dec_f, dec_not, dec_and, dec_or, cond_ite, cond_true, cond_false, Option.bind_some, Option.bind_none, Bool.or_true, Bool.true_or, Bool.and_true, Bool.true_and, Bool.and_false, Bool.false_and, Bool.or_false, Bool.false_or, Bool.not_true, Bool.not_false, Bool.or_self, Bool.and_self, Bool.not_not, if_true, if_false, and_self, true_and, and_true, and_false, false_and, or_true, true_or, or_false, false_or, not_true_eq_false, not_false_eq_true, decide_true, decide_false, eq_self, if_pos, if_neg, mx_eq, mn_eq, slices_partitionEqualCmpFunc_sel_end.F, r1, r2, s1, sizeA, List.length_set, k1, k2, l1]
/-! the look for a row that is sorted -/
theorem pi_scan {a b : Nat} {s : Int} {d : Array E} (hG : G d) (hb : b ≤ d.size) (hs : d.size < 50) : ∀ (n i : Nat), b - i ≤ n → 1 ≤ i → i < 60 →
    slices_partialInsertionSortCmpFunc_sel_end.l0 .lim ((a : Int), (b : Int), (i : Int), s, d.toList, ()) = some ((a : Int), (b : Int), (scanSorted ltE d b i : Int), s, d.toList, ()) := by
  intro n
  induction n with
  | zero =>
    intro i h h1 hi
    rw [slices_partialInsertionSortCmpFunc_sel_end.q0, scanSorted]
    simp (disch := omega) only [smallI_t, inB_t, cutB_t, wrap64, dec_t, dec_f, dec_not, dec_and, dec_or, cond_ite, cond_true, cond_false, Option.bind_some, Option.bind_none, Bool.or_true, Bool.true_or, Bool.and_true, Bool.true_and, Bool.and_false, Bool.false_and, Bool.or_false, Bool.false_or, Bool.not_true, Bool.not_false, Bool.or_self, Bool.and_self, Bool.not_not, if_true, if_false, and_self, true_and, and_true, and_false, false_and, or_true, true_or, or_false, false_or, not_true_eq_false, not_false_eq_true, decide_true, decide_false, eq_self, if_pos, if_neg, mx_eq, mn_eq, slices_partialInsertionSortCmpFunc_sel_end.b0]
    simp [show ¬ i < b by omega]
  | succ n ih =>
    intro i h h1 hi
    rw [slices_partialInsertionSortCmpFunc_sel_end.q0, scanSorted]
    by_cases hib : i < b
    · have k1 : (i : Int) - 1 = ((i - 1 : Nat) : Int) := by omega
      have r1 := rdA (z := zE) (d := d) (i := (i : Int)) rfl (by omega)
      have r2 := rdA (z := zE) (d := d) (i := ((i - 1 : Nat) : Int)) rfl (by omega)
      have hc := cmp_eq (hG i (by omega)) (hG (i - 1) (by omega))
      have w := ltE_cm d[i]! d[i - 1]!
      have := ih (i + 1) (by omega) (by omega) (by omega)
      cases h : ltE d[i]! d[i - 1]! with
      | false =>
        have w := w.2 h
        simp (disch := omega) only [smallI_t, inB_t, cutB_t, wrap64, dec_t, dec_f, dec_not, dec_and, dec_or, cond_ite, cond_true, cond_false, Option.bind_some, Option.bind_none, Bool.or_true, Bool.true_or, Bool.and_true, Bool.true_and, Bool.and_false, Bool.false_and, Bool.or_false, Bool.false_or, Bool.not_true, Bool.not_false, Bool.or_self, Bool.and_self, Bool.not_not, if_true, if_false, and_self, true_and, and_true, and_false, false_and, or_true, true_or, or_false, false_or, not_true_eq_false, not_false_eq_true, decide_true, decide_false, eq_self, if_pos, if_neg, mx_eq, mn_eq, slices_partialInsertionSortCmpFunc_sel_end.b0, k1, r1, r2, hc, sizeA]
        rw [show ((i : Int) + 1) = ((i + 1 : Nat) : Int) from rfl, this]
      | true =>
        have w := w.1 h
        simp (disch := omega) only [smallI_t, inB_t, cutB_t, wrap64, dec_t, dec_f, dec_not, dec_and, dec_or, cond_ite, cond_true, cond_false, Option.bind_some, Option.bind_none, Bool.or_true, Bool.true_or, Bool.and_true, Bool.true_and, Bool.and_false, Bool.false_and, Bool.or_false, Bool.false_or, Bool.not_true, Bool.not_false, Bool.or_self, Bool.and_self, Bool.not_not, if_true, if_false, and_self, true_and, and_true, and_false, false_and, or_true, true_or, or_false, false_or, not_true_eq_false, not_false_eq_true, decide_true, decide_false, eq_self, if_pos, if_neg, mx_eq, mn_eq, slices_partialInsertionSortCmpFunc_sel_end.b0, k1, r1, r2, hc, sizeA]
        simp
    · simp (disch := omega) only [smallI_t, inB_t, cutB_t, wrap64, dec_t, dec_f, dec_not, dec_and, dec_or, cond_ite, cond_true, cond_false, Option.bind_some, Option.bind_none, Bool.or_true, Bool.true_or, Bool.and_true, Bool.true_and, Bool.and_false, Bool.false_and, Bool.or_false, Bool.false_or, Bool.not_true, Bool.not_false, Bool.or_self, Bool.and_self, Bool.not_not, if_true, if_false, and_self, true_and, and_true, and_false, false_and, or_true, true_or, or_false, false_or, not_true_eq_false, not_false_eq_true, decide_true, decide_false, eq_self, if_pos, if_neg, mx_eq, mn_eq, slices_partialInsertionSortCmpFunc_sel_end.b0]
      simp [hib]
theorem scanSorted_le (d : Array E) (b : Nat) : ∀ (n i : Nat), b - i ≤ n → scanSorted ltE d b i ≤ max b i ∧ i ≤ scanSorted ltE d b i := by
  intro n
  induction n with
  | zero => intro i h; rw [scanSorted]; split
            · rename_i hc; simp at hc; omega
            · omega
  | succ n ih =>
    intro i h
    rw [scanSorted]; split
    · rename_i hc; simp at hc; have := ih (i + 1) (by omega); omega
    · omega
theorem pi_eq {a b : Nat} {d : Array E} (hG : G d) (hb : b ≤ d.size) (ha : a < b) (hs : d.size < 50) :
    slices_partialInsertionSortCmpFunc_sel_end.F .lim d.toList ((a : Int), (b : Int), ()) = some ((partialInsertionSort ltE d a b).2, (partialInsertionSort ltE d a b).1.toList) ∧ (partialInsertionSort ltE d a b).1 = d := by
  have e := pi_scan (a := a) (b := b) (s := 0) hG hb hs _ (a + 1) (Nat.le_refl _) (by omega) (by omega)
  have g := scanSorted_le d b _ (a + 1) (Nat.le_refl _)
  have k2 : (a : Int) + 1 = ((a + 1 : Nat) : Int) := by omega
  unfold partialInsertionSort partialIns
  simp only []
  by_cases h : scanSorted ltE d b (a + 1) = b
  · rw [if_pos h]
    refine ⟨?_, rfl⟩
    simp only [slices_partialInsertionSortCmpFunc_sel_end.F]
    rw [slices_partialInsertionSortCmpFunc_sel_end.q3]
    simp (disch := omega) only [smallI_t, inB_t, cutB_t, wrap64, dec_t, dec_f, dec_not, dec_and, dec_or, cond_ite, cond_true, cond_false, Option.bind_some, Option.bind_none, Bool.or_true, Bool.true_or, Bool.and_true, Bool.true_and, Bool.and_false, Bool.false_and, Bool.or_false, Bool.false_or, Bool.not_true, Bool.not_false, Bool.or_self, Bool.and_self, Bool.not_not, if_true, if_false, and_self, true_and, and_true, and_false, false_and, or_true, true_or, or_false, false_or, not_true_eq_false, not_false_eq_true, decide_true, decide_false, eq_self, if_pos, if_neg, mx_eq, mn_eq, slices_partialInsertionSortCmpFunc_sel_end.b3, k2, e]
  · rw [if_neg h, if_pos (by omega)]
    refine ⟨?_, rfl⟩
    simp only [slices_partialInsertionSortCmpFunc_sel_end.F]
    rw [slices_partialInsertionSortCmpFunc_sel_end.q3]
    generalize scanSorted ltE d b (a + 1) = i2 at *
    simp (disch := omega) only [smallI_t, inB_t, cutB_t, wrap64, dec_t, dec_f, dec_not, dec_and, dec_or, cond_ite, cond_true, cond_false, Option.bind_some, Option.bind_none, Bool.or_true, Bool.true_or, Bool.and_true, Bool.true_and, Bool.and_false, Bool.false_and, Bool.or_false, Bool.false_or, Bool.not_true, Bool.not_false, Bool.or_self, Bool.and_self, Bool.not_not, if_true, if_false, and_self, true_and, and_true, and_false, false_and, or_true, true_or, or_false, false_or, not_true_eq_false, not_false_eq_true, decide_true, decide_false, eq_self, if_pos, if_neg, mx_eq, mn_eq, slices_partialInsertionSortCmpFunc_sel_end.b3, k2, e]
end Go.AM
end
section
namespace Go.AM
open Go.Sort
theorem G_perm {a b : Nat} {d e : Array E} (hb : b ≤ d.size) (h : PermIn a b d e) (hG : G d) : G e := by
  intro k hk
  rw [h.1] at hk
  exact permIn_all d e 0 d.size good (Nat.le_refl _) (permIn_mono d e a b 0 d.size (Nat.zero_le _) hb (Nat.le_refl _) h) (fun i _ hi => hG i hi) k (Nat.zero_le _) hk
abbrev PdqO := ((List E) × Unit) ⊕ ((List E) × Unit) ⊕ ((List E) × Unit)
noncomputable def tailP (rec_ : List E → Int × Int × Int × Unit → Option (Unit × List E)) (self : Int × Int × Int × Bool × Bool × List E × Unit → Option PdqO) (a b limit : Int) (wb wp : Bool) (ys : List E) (p : Int) : Option PdqO :=
  bif ((!(decide (a > (0 : Int)))) || (inB (IntKind.i64.wrap (a - (1 : Int))) (ys.length : Int))) then
  bif ((!(decide (a > (0 : Int)))) || (inB p (ys.length : Int))) then
  ((bif decide (a > (0 : Int)) then sel_ends_1.run .lim ((rd (List.replicate 2 (0 : Int) : List Int) ys (IntKind.i64.wrap (a - (1 : Int)))), (rd (List.replicate 2 (0 : Int) : List Int) ys p), ()) else some (0 : Int))).bind fun r26 =>
  bif ((decide (a > (0 : Int))) && (!(decide (r26 < (0 : Int))))) then
    (lenOK ys (slices_partitionEqualCmpFunc_sel_end.F .lim ys (a, b, p, ()))).bind fun (r27, ys19) =>
    self (r27, b, limit, wb, wp, ys19, ())
  else
    (lenOK ys (slices_partitionCmpFunc_sel_end.F .lim ys (a, b, p, ()))).bind fun ((r28, r29, ()), ys20) =>
    bif decide ((IntKind.i64.wrap (r28 - a)) < (IntKind.i64.wrap (b - r28))) then
      (lenOK ys20 (rec_ ys20 (a, r28, limit, ()))).bind fun ((), ys21) =>
      self ((IntKind.i64.wrap (r28 + (1 : Int))), b, limit, decide ((IntKind.i64.wrap (r28 - a)) ≥ (IntKind.i64.wrap ((IntKind.i64.wrap (b - a)).tdiv (8 : Int)))), r29, ys21, ())
    else
      (lenOK ys20 (rec_ ys20 ((IntKind.i64.wrap (r28 + (1 : Int))), b, limit, ()))).bind fun ((), ys22) =>
      self (a, r28, limit, decide ((IntKind.i64.wrap (b - r28)) ≥ (IntKind.i64.wrap ((IntKind.i64.wrap (b - a)).tdiv (8 : Int)))), r29, ys22, ())
  else none
  else none
/-- what comes of sorting a part -/
def Sorts (a b : Nat) (d : Array E) (o : Option PdqO) : Prop := ∃ e : Array E, (o = some (.inl (e.toList, ())) ∨ o = some (.inr (.inl (e.toList, ()))) ∨ o = some (.inr (.inr (e.toList, ())))) ∧ PermIn a b d e ∧ SortedIn ltE a b e
def Rec (n : Nat) (rec_ : List E → Int × Int × Int × Unit → Option (Unit × List E)) : Prop := ∀ (a b l : Nat) (d : Array E), b - a < n → G d → a ≤ b → b ≤ d.size → d.size < 50 → l ≤ 60 → Below ltE a b d →
  ∃ e : Array E, rec_ d.toList ((a : Int), (b : Int), (l : Int), ()) = some ((), e.toList) ∧ PermIn a b d e ∧ SortedIn ltE a b e
def Self (n : Nat) (self : Int × Int × Int × Bool × Bool × List E × Unit → Option PdqO) : Prop := ∀ (a b l : Nat) (wb wp : Bool) (d : Array E), b - a < n → G d → a ≤ b → b ≤ d.size → d.size < 50 → l ≤ 60 → Below ltE a b d →
  Sorts a b d (self ((a : Int), (b : Int), (l : Int), wb, wp, d.toList, ()))
theorem tail_ok {n : Nat} {rec_ : List E → Int × Int × Int × Unit → Option (Unit × List E)} {self : Int × Int × Int × Bool × Bool × List E × Unit → Option PdqO} (hr : Rec n rec_) (hs : Self n self)
    {a b l p : Nat} {wb wp : Bool} {d : Array E} (hn : b - a ≤ n) (hG : G d) (hap : a ≤ p) (hpb : p < b) (hb : b ≤ d.size) (h50 : d.size < 50) (hl : l ≤ 60) (hB : Below ltE a b d) (h2 : 2 ≤ b - a) :
    Sorts a b d (tailP rec_ self (a : Int) (b : Int) (l : Int) wb wp d.toList (p : Int)) := by
  have rp := rdA (z := zE) (d := d) (i := (p : Int)) rfl (by omega)
  by_cases hc : 0 < a ∧ ltE d[a - 1]! d[p]! = false
  · have k1 : (a : Int) - 1 = ((a - 1 : Nat) : Int) := by omega
    have ra := rdA (z := zE) (d := d) (i := ((a - 1 : Nat) : Int)) rfl (by omega)
    have hcm := cmp_eq (hG (a - 1) (by omega)) (hG p (by omega))
    have w := (ltE_cm d[a - 1]! d[p]!).2 hc.2
    obtain ⟨e1, e2, e3⟩ := parteq_eq hG hb hap hpb h50 h2
    have hre := round_eq ltE_swo (partitionEqual_holds ltE) (mid := (partitionEqual ltE d a b p).1) (d4 := (partitionEqual ltE d a b p).2) hc.1 hap hpb hb hB hc.2 rfl
    obtain ⟨g1, g2, g3, g4, g5⟩ := hre
    obtain ⟨e, he, q1, q2⟩ := hs (partitionEqual ltE d a b p).1 b l wb wp (partitionEqual ltE d a b p).2 (by omega) e2 g2 (by omega) (by omega) hl g4
    refine ⟨e, ?_, g5 e q1 q2⟩
    have : tailP rec_ self (a : Int) (b : Int) (l : Int) wb wp d.toList (p : Int) = self (((partitionEqual ltE d a b p).1 : Int), (b : Int), (l : Int), wb, wp, (partitionEqual ltE d a b p).2.toList, ()) := by
      simp (disch := omega) only [smallI_t, inB_t, cutB_t, wrap64, dec_t, dec_f, dec_not, dec_and, dec_or, cond_ite, cond_true, cond_false, Option.bind_some, Option.bind_none, Bool.or_true, Bool.true_or, Bool.and_true, Bool.true_and, Bool.and_false, Bool.false_and, Bool.or_false, Bool.false_or, Bool.not_true, Bool.not_false, Bool.or_self, Bool.and_self, Bool.not_not, if_true, if_false, and_self, true_and, and_true, and_false, false_and, or_true, true_or, or_false, false_or, not_true_eq_false, not_false_eq_true, decide_true, decide_false, eq_self, if_pos, if_neg, mx_eq, mn_eq, tailP, k1, ra, rp, hcm, sizeA, e1, lenOK_some (show (partitionEqual ltE d a b p).2.toList.length = d.toList.length by simp [e3])]
    rw [this]; exact he
  · obtain ⟨e1, e2, e3⟩ := partition_eq hG hb hap hpb h50 h2
    have hrp := round_part ltE_swo (partition_holds ltE) (mid := (partition ltE d a b p).1) (ap := (partition ltE d a b p).2.1) (d4 := (partition ltE d a b p).2.2) hap hpb hb hB rfl
    have hstep : tailP rec_ self (a : Int) (b : Int) (l : Int) wb wp d.toList (p : Int) = (lenOK d.toList (slices_partitionCmpFunc_sel_end.F .lim d.toList ((a : Int), (b : Int), (p : Int), ()))).bind fun ((r28, r29, ()), ys20) =>
        bif decide ((IntKind.i64.wrap (r28 - a)) < (IntKind.i64.wrap (b - r28))) then
          (lenOK ys20 (rec_ ys20 (a, r28, l, ()))).bind fun ((), ys21) =>
          self ((IntKind.i64.wrap (r28 + (1 : Int))), b, l, decide ((IntKind.i64.wrap (r28 - a)) ≥ (IntKind.i64.wrap ((IntKind.i64.wrap (b - a)).tdiv (8 : Int)))), r29, ys21, ())
        else
          (lenOK ys20 (rec_ ys20 ((IntKind.i64.wrap (r28 + (1 : Int))), b, l, ()))).bind fun ((), ys22) =>
          self (a, r28, l, decide ((IntKind.i64.wrap (b - r28)) ≥ (IntKind.i64.wrap ((IntKind.i64.wrap (b - a)).tdiv (8 : Int)))), r29, ys22, ()) := by
      by_cases ha : 0 < a
      · have k1 : (a : Int) - 1 = ((a - 1 : Nat) : Int) := by omega
        have ra := rdA (z := zE) (d := d) (i := ((a - 1 : Nat) : Int)) rfl (by omega)
        have hcm := cmp_eq (hG (a - 1) (by omega)) (hG p (by omega))
        have w := (ltE_cm d[a - 1]! d[p]!).1 (by simpa using fun h => hc ⟨ha, h⟩)
        simp only [tailP]
        rw [cond_pos (by simp (disch := omega) only [smallI_t, inB_t, cutB_t, wrap64, dec_t, dec_f, dec_not, dec_and, dec_or, cond_ite, cond_true, cond_false, Option.bind_some, Option.bind_none, Bool.or_true, Bool.true_or, Bool.and_true, Bool.true_and, Bool.and_false, Bool.false_and, Bool.or_false, Bool.false_or, Bool.not_true, Bool.not_false, Bool.or_self, Bool.and_self, Bool.not_not, if_true, if_false, and_self, true_and, and_true, and_false, false_and, or_true, true_or, or_false, false_or, not_true_eq_false, not_false_eq_true, decide_true, decide_false, eq_self, if_pos, if_neg, mx_eq, mn_eq, k1, sizeA]), cond_pos (by simp (disch := omega) only [smallI_t, inB_t, cutB_t, wrap64, dec_t, dec_f, dec_not, dec_and, dec_or, cond_ite, cond_true, cond_false, Option.bind_some, Option.bind_none, Bool.or_true, Bool.true_or, Bool.and_true, Bool.true_and, Bool.and_false, Bool.false_and, Bool.or_false, Bool.false_or, Bool.not_true, Bool.not_false, Bool.or_self, Bool.and_self, Bool.not_not, if_true, if_false, and_self, true_and, and_true, and_false, false_and, or_true, true_or, or_false, false_or, not_true_eq_false, not_false_eq_true, decide_true, decide_false, eq_self, if_pos, if_neg, mx_eq, mn_eq, sizeA]), cond_pos (show decide ((a : Int) > 0) = true by simp (disch := omega) only [smallI_t, inB_t, cutB_t, wrap64, dec_t, dec_f, dec_not, dec_and, dec_or, cond_ite, cond_true, cond_false, Option.bind_some, Option.bind_none, Bool.or_true, Bool.true_or, Bool.and_true, Bool.true_and, Bool.and_false, Bool.false_and, Bool.or_false, Bool.false_or, Bool.not_true, Bool.not_false, Bool.or_self, Bool.and_self, Bool.not_not, if_true, if_false, and_self, true_and, and_true, and_false, false_and, or_true, true_or, or_false, false_or, not_true_eq_false, not_false_eq_true, decide_true, decide_false, eq_self, if_pos, if_neg, mx_eq, mn_eq]), show IntKind.i64.wrap ((a : Int) - 1) = ((a - 1 : Nat) : Int) by simp (disch := omega) only [smallI_t, inB_t, cutB_t, wrap64, dec_t, dec_f, dec_not, dec_and, dec_or, cond_ite, cond_true, cond_false, Option.bind_some, Option.bind_none, Bool.or_true, Bool.true_or, Bool.and_true, Bool.true_and, Bool.and_false, Bool.false_and, Bool.or_false, Bool.false_or, Bool.not_true, Bool.not_false, Bool.or_self, Bool.and_self, Bool.not_not, if_true, if_false, and_self, true_and, and_true, and_false, false_and, or_true, true_or, or_false, false_or, not_true_eq_false, not_false_eq_true, decide_true, decide_false, eq_self, if_pos, if_neg, mx_eq, mn_eq, k1], ra, rp, hcm, Option.bind_some, cond_neg (by simp (disch := omega) only [smallI_t, inB_t, cutB_t, wrap64, dec_t, dec_f, dec_not, dec_and, dec_or, cond_ite, cond_true, cond_false, Option.bind_some, Option.bind_none, Bool.or_true, Bool.true_or, Bool.and_true, Bool.true_and, Bool.and_false, Bool.false_and, Bool.or_false, Bool.false_or, Bool.not_true, Bool.not_false, Bool.or_self, Bool.and_self, Bool.not_not, if_true, if_false, and_self, true_and, and_true, and_false, false_and, or_true, true_or, or_false, false_or, not_true_eq_false, not_false_eq_true, decide_true, decide_false, eq_self, if_pos, if_neg, mx_eq, mn_eq])]
      · simp only [tailP]
        rw [cond_pos (by simp (disch := omega) only [smallI_t, inB_t, cutB_t, wrap64, dec_t, dec_f, dec_not, dec_and, dec_or, cond_ite, cond_true, cond_false, Option.bind_some, Option.bind_none, Bool.or_true, Bool.true_or, Bool.and_true, Bool.true_and, Bool.and_false, Bool.false_and, Bool.or_false, Bool.false_or, Bool.not_true, Bool.not_false, Bool.or_self, Bool.and_self, Bool.not_not, if_true, if_false, and_self, true_and, and_true, and_false, false_and, or_true, true_or, or_false, false_or, not_true_eq_false, not_false_eq_true, decide_true, decide_false, eq_self, if_pos, if_neg, mx_eq, mn_eq]), cond_pos (by simp (disch := omega) only [smallI_t, inB_t, cutB_t, wrap64, dec_t, dec_f, dec_not, dec_and, dec_or, cond_ite, cond_true, cond_false, Option.bind_some, Option.bind_none, Bool.or_true, Bool.true_or, Bool.and_true, Bool.true_and, Bool.and_false, Bool.false_and, Bool.or_false, Bool.false_or, Bool.not_true, Bool.not_false, Bool.or_self, Bool.and_self, Bool.not_not, if_true, if_false, and_self, true_and, and_true, and_false, false_and, or_true, true_or, or_false, false_or, not_true_eq_false, not_false_eq_true, decide_true, decide_false, eq_self, if_pos, if_neg, mx_eq, mn_eq]), cond_neg (show decide ((a : Int) > 0) = false by simp (disch := omega) only [smallI_t, inB_t, cutB_t, wrap64, dec_t, dec_f, dec_not, dec_and, dec_or, cond_ite, cond_true, cond_false, Option.bind_some, Option.bind_none, Bool.or_true, Bool.true_or, Bool.and_true, Bool.true_and, Bool.and_false, Bool.false_and, Bool.or_false, Bool.false_or, Bool.not_true, Bool.not_false, Bool.or_self, Bool.and_self, Bool.not_not, if_true, if_false, and_self, true_and, and_true, and_false, false_and, or_true, true_or, or_false, false_or, not_true_eq_false, not_false_eq_true, decide_true, decide_false, eq_self, if_pos, if_neg, mx_eq, mn_eq]), Option.bind_some, cond_neg (by simp (disch := omega) only [smallI_t, inB_t, cutB_t, wrap64, dec_t, dec_f, dec_not, dec_and, dec_or, cond_ite, cond_true, cond_false, Option.bind_some, Option.bind_none, Bool.or_true, Bool.true_or, Bool.and_true, Bool.true_and, Bool.and_false, Bool.false_and, Bool.or_false, Bool.false_or, Bool.not_true, Bool.not_false, Bool.or_self, Bool.and_self, Bool.not_not, if_true, if_false, and_self, true_and, and_true, and_false, false_and, or_true, true_or, or_false, false_or, not_true_eq_false, not_false_eq_true, decide_true, decide_false, eq_self, if_pos, if_neg, mx_eq, mn_eq])]
    rw [hstep, e1, lenOK_some (by simp [e3]), Option.bind_some]
    obtain ⟨g1, g2, g3, g4, g5, g6, g7⟩ := hrp
    generalize (partition ltE d a b p).1 = mid at *
    generalize (partition ltE d a b p).2.1 = ap at *
    generalize (partition ltE d a b p).2.2 = d4 at *
    have k2 : (mid : Int) + 1 = ((mid + 1 : Nat) : Int) := by omega
    by_cases hm : mid - a < b - mid
    · obtain ⟨e, he, q1, q2⟩ := hr a mid l d4 (by omega) e2 g1 (by omega) (by omega) hl g4
      obtain ⟨u1, u2⟩ := g6 e q1 q2
      have hsz : e.size = d4.size := q1.1
      have hGe := G_perm (show mid ≤ d4.size by omega) q1 e2
      obtain ⟨f, hf, v1, v2⟩ := hs (mid + 1) b l (decide (IntKind.i64.wrap ((mid : Int) - a) ≥ IntKind.i64.wrap ((IntKind.i64.wrap ((b : Int) - a)).tdiv 8))) ap e (by omega) hGe (by omega) (by omega) (by omega) hl u1
      refine ⟨f, ?_, u2 f v1 v2⟩
      have w1 : IntKind.i64.wrap ((mid : Int) + 1) = ((mid + 1 : Nat) : Int) := by simp (disch := omega) only [smallI_t, inB_t, cutB_t, wrap64, dec_t, dec_f, dec_not, dec_and, dec_or, cond_ite, cond_true, cond_false, Option.bind_some, Option.bind_none, Bool.or_true, Bool.true_or, Bool.and_true, Bool.true_and, Bool.and_false, Bool.false_and, Bool.or_false, Bool.false_or, Bool.not_true, Bool.not_false, Bool.or_self, Bool.and_self, Bool.not_not, if_true, if_false, and_self, true_and, and_true, and_false, false_and, or_true, true_or, or_false, false_or, not_true_eq_false, not_false_eq_true, decide_true, decide_false, eq_self, if_pos, if_neg, mx_eq, mn_eq, k2]
      simp only []
      rw [cond_pos (by simp (disch := omega) only [smallI_t, inB_t, cutB_t, wrap64, dec_t, dec_f, dec_not, dec_and, dec_or, cond_ite, cond_true, cond_false, Option.bind_some, Option.bind_none, Bool.or_true, Bool.true_or, Bool.and_true, Bool.true_and, Bool.and_false, Bool.false_and, Bool.or_false, Bool.false_or, Bool.not_true, Bool.not_false, Bool.or_self, Bool.and_self, Bool.not_not, if_true, if_false, and_self, true_and, and_true, and_false, false_and, or_true, true_or, or_false, false_or, not_true_eq_false, not_false_eq_true, decide_true, decide_false, eq_self, if_pos, if_neg, mx_eq, mn_eq]), he, lenOK_some (by simp [hsz]), Option.bind_some, w1]
      exact hf
    · obtain ⟨e, he, q1, q2⟩ := hr (mid + 1) b l d4 (by omega) e2 (by omega) (by omega) (by omega) hl g5
      obtain ⟨u1, u2⟩ := g7 e q1 q2
      have hsz : e.size = d4.size := q1.1
      have hGe := G_perm (show b ≤ d4.size by omega) q1 e2
      obtain ⟨f, hf, v1, v2⟩ := hs a mid l (decide (IntKind.i64.wrap ((b : Int) - mid) ≥ IntKind.i64.wrap ((IntKind.i64.wrap ((b : Int) - a)).tdiv 8))) ap e (by omega) hGe (by omega) (by omega) (by omega) hl u1
      refine ⟨f, ?_, u2 f v1 v2⟩
      have w1 : IntKind.i64.wrap ((mid : Int) + 1) = ((mid + 1 : Nat) : Int) := by simp (disch := omega) only [smallI_t, inB_t, cutB_t, wrap64, dec_t, dec_f, dec_not, dec_and, dec_or, cond_ite, cond_true, cond_false, Option.bind_some, Option.bind_none, Bool.or_true, Bool.true_or, Bool.and_true, Bool.true_and, Bool.and_false, Bool.false_and, Bool.or_false, Bool.false_or, Bool.not_true, Bool.not_false, Bool.or_self, Bool.and_self, Bool.not_not, if_true, if_false, and_self, true_and, and_true, and_false, false_and, or_true, true_or, or_false, false_or, not_true_eq_false, not_false_eq_true, decide_true, decide_false, eq_self, if_pos, if_neg, mx_eq, mn_eq, k2]
      simp only []
      rw [cond_neg (by simp (disch := omega) only [smallI_t, inB_t, cutB_t, wrap64, dec_t, dec_f, dec_not, dec_and, dec_or, cond_ite, cond_true, cond_false, Option.bind_some, Option.bind_none, Bool.or_true, Bool.true_or, Bool.and_true, Bool.true_and, Bool.and_false, Bool.false_and, Bool.or_false, Bool.false_or, Bool.not_true, Bool.not_false, Bool.or_self, Bool.and_self, Bool.not_not, if_true, if_false, and_self, true_and, and_true, and_false, false_and, or_true, true_or, or_false, false_or, not_true_eq_false, not_false_eq_true, decide_true, decide_false, eq_self, if_pos, if_neg, mx_eq, mn_eq]), w1, he, lenOK_some (by simp [hsz]), Option.bind_some]
      exact hf
end Go.AM
end
section
namespace Go.AM
open Go.Sort
set_option maxHeartbeats 8000000 in
theorem pdq_round {n : Nat} {rec_ : List E → Int × Int × Int × Unit → Option (Unit × List E)} {self : Int × Int × Int × Bool × Bool × List E × Unit → Option PdqO} (hr : Rec n rec_) (hs : Self n self)
    {a b l : Nat} {wb wp : Bool} {d : Array E} (hn : b - a ≤ n) (hG : G d) (hab : a ≤ b) (hb : b ≤ d.size) (h50 : d.size < 50) (hl : l ≤ 60) (hB : Below ltE a b d) :
    Sorts a b d (slices_pdqsortCmpFunc_sel_end.b0 .lim rec_ self ((a : Int), (b : Int), (l : Int), wb, wp, d.toList, ())) := by
  by_cases h12 : b - a ≤ 12
  · obtain ⟨e1, e2⟩ := insertion_eq hG hb hab h50
    obtain ⟨p1, p2⟩ := insertionSort_holds (lt := ltE) ltE_swo d a b hab hb
    refine ⟨insertionSort ltE d a b, .inl ?_, p1, p2⟩
    simp (disch := omega) only [smallI_t, inB_t, cutB_t, wrap64, dec_t, dec_f, dec_not, dec_and, dec_or, cond_ite, cond_true, cond_false, Option.bind_some, Option.bind_none, Bool.or_true, Bool.true_or, Bool.and_true, Bool.true_and, Bool.and_false, Bool.false_and, Bool.or_false, Bool.false_or, Bool.not_true, Bool.not_false, Bool.or_self, Bool.and_self, Bool.not_not, if_true, if_false, and_self, true_and, and_true, and_false, false_and, or_true, true_or, or_false, false_or, not_true_eq_false, not_false_eq_true, decide_true, decide_false, eq_self, if_pos, if_neg, mx_eq, mn_eq, slices_pdqsortCmpFunc_sel_end.b0, e1, lenOK_some (show (insertionSort ltE d a b).toList.length = d.toList.length by simp [p1.1])]
  · by_cases hl0 : l = 0
    · obtain ⟨e1, e2⟩ := heap_eq hG hb hab h50
      obtain ⟨p1, p2⟩ := heapSort_holds (lt := ltE) ltE_swo d a b hab hb
      refine ⟨heapSort ltE d a b, .inr (.inl ?_), p1, p2⟩
      simp (disch := omega) only [smallI_t, inB_t, cutB_t, wrap64, dec_t, dec_f, dec_not, dec_and, dec_or, cond_ite, cond_true, cond_false, Option.bind_some, Option.bind_none, Bool.or_true, Bool.true_or, Bool.and_true, Bool.true_and, Bool.and_false, Bool.false_and, Bool.or_false, Bool.false_or, Bool.not_true, Bool.not_false, Bool.or_self, Bool.and_self, Bool.not_not, if_true, if_false, and_self, true_and, and_true, and_false, false_and, or_true, true_or, or_false, false_or, not_true_eq_false, not_false_eq_true, decide_true, decide_false, eq_self, if_pos, if_neg, mx_eq, mn_eq, slices_pdqsortCmpFunc_sel_end.b0, e1, lenOK_some (show (heapSort ltE d a b).toList.length = d.toList.length by simp [p1.1])]
    · cases wb with
      | false =>
        obtain ⟨e1, e2, e3⟩ := break_eq hG hb hab h50
        have p1 := breakPatterns_holds d a b hab hb
        have hB1 : Below ltE a b (breakPatterns d a b) := hB.perm hb p1
        generalize breakPatterns d a b = d1 at *
        have c0 := choosePivot_holds ltE d1 a b (by omega)
        obtain ⟨f1, f2⟩ := pivot_eq e2 (a := a) (b := b) (by omega) (by omega) (by omega)
        generalize choosePivot ltE d1 a b = c at *
        obtain ⟨e, he, q1, q2⟩ := tail_ok hr hs (l := l - 1) (p := c.1) (wb := false) (wp := wp) hn e2 c0.1 c0.2 (by omega) (by omega) (by omega) hB1 (by omega)
        refine ⟨e, ?_, permIn_trans _ _ _ a b p1 q1, q2⟩
        have k1 : (l : Int) - 1 = ((l - 1 : Nat) : Int) := by omega
        have hh : hintC c.2 ≠ 2 := by cases hc : c.2 <;> simp [hintC, hc] at f2 ⊢
        have : slices_pdqsortCmpFunc_sel_end.b0 .lim rec_ self ((a : Int), (b : Int), (l : Int), false, wp, d.toList, ()) = tailP rec_ self (a : Int) (b : Int) ((l - 1 : Nat) : Int) false wp d1.toList (c.1 : Int) := by
          simp (disch := omega) only [smallI_t, inB_t, cutB_t, wrap64, dec_t, dec_f, dec_not, dec_and, dec_or, cond_ite, cond_true, cond_false, Option.bind_some, Option.bind_none, Bool.or_true, Bool.true_or, Bool.and_true, Bool.true_and, Bool.and_false, Bool.false_and, Bool.or_false, Bool.false_or, Bool.not_true, Bool.not_false, Bool.or_self, Bool.and_self, Bool.not_not, if_true, if_false, and_self, true_and, and_true, and_false, false_and, or_true, true_or, or_false, false_or, not_true_eq_false, not_false_eq_true, decide_true, decide_false, eq_self, if_pos, if_neg, mx_eq, mn_eq, slices_pdqsortCmpFunc_sel_end.b0, e1, lenOK_some (show d1.toList.length = d.toList.length by simp [e3]), f1, lenOK_some (show d1.toList.length = d1.toList.length from rfl), k1, tailP, Bool.false_eq_true]
        rw [this]; exact he
      | true =>
        have c0 := choosePivot_holds ltE d a b (by omega)
        obtain ⟨f1, f2⟩ := pivot_eq hG (a := a) (b := b) (by omega) (by omega) (by omega)
        generalize choosePivot ltE d a b = c at *
        have hh : hintC c.2 ≠ 2 := by cases hc : c.2 <;> simp [hintC, hc] at f2 ⊢
        obtain ⟨e, he, q1, q2⟩ := tail_ok hr hs (l := l) (p := c.1) (wb := true) (wp := wp) hn hG c0.1 c0.2 (by omega) (by omega) (by omega) hB (by omega)
        by_cases hw : wp = true ∧ hintC c.2 = 1
        · obtain ⟨hw, hh1⟩ := hw
          subst hw
          obtain ⟨i1, i2⟩ := pi_eq hG hb (a := a) (by omega) h50
          obtain ⟨j1, j2⟩ := partialInsertionSort_holds (lt := ltE) ltE_swo d a b (by omega) hb hB
          rw [i2] at i1 j1 j2
          cases hp : (partialInsertionSort ltE d a b).2 with
          | true =>
            rw [hp] at i1 j2
            refine ⟨d, .inr (.inr ?_), j1, j2 rfl⟩
            simp (disch := omega) only [smallI_t, inB_t, cutB_t, wrap64, dec_t, dec_f, dec_not, dec_and, dec_or, cond_ite, cond_true, cond_false, Option.bind_some, Option.bind_none, Bool.or_true, Bool.true_or, Bool.and_true, Bool.true_and, Bool.and_false, Bool.false_and, Bool.or_false, Bool.false_or, Bool.not_true, Bool.not_false, Bool.or_self, Bool.and_self, Bool.not_not, if_true, if_false, and_self, true_and, and_true, and_false, false_and, or_true, true_or, or_false, false_or, not_true_eq_false, not_false_eq_true, decide_true, decide_false, eq_self, if_pos, if_neg, mx_eq, mn_eq, slices_pdqsortCmpFunc_sel_end.b0, f1, lenOK_some (show d.toList.length = d.toList.length from rfl), i1]
          | false =>
            rw [hp] at i1
            refine ⟨e, ?_, q1, q2⟩
            have : slices_pdqsortCmpFunc_sel_end.b0 .lim rec_ self ((a : Int), (b : Int), (l : Int), true, true, d.toList, ()) = tailP rec_ self (a : Int) (b : Int) (l : Int) true true d.toList (c.1 : Int) := by
              simp (disch := omega) only [smallI_t, inB_t, cutB_t, wrap64, dec_t, dec_f, dec_not, dec_and, dec_or, cond_ite, cond_true, cond_false, Option.bind_some, Option.bind_none, Bool.or_true, Bool.true_or, Bool.and_true, Bool.true_and, Bool.and_false, Bool.false_and, Bool.or_false, Bool.false_or, Bool.not_true, Bool.not_false, Bool.or_self, Bool.and_self, Bool.not_not, if_true, if_false, and_self, true_and, and_true, and_false, false_and, or_true, true_or, or_false, false_or, not_true_eq_false, not_false_eq_true, decide_true, decide_false, eq_self, if_pos, if_neg, mx_eq, mn_eq, slices_pdqsortCmpFunc_sel_end.b0, f1, lenOK_some (show d.toList.length = d.toList.length from rfl), i1, tailP]
            rw [this]; exact he
        · refine ⟨e, ?_, q1, q2⟩
          have : slices_pdqsortCmpFunc_sel_end.b0 .lim rec_ self ((a : Int), (b : Int), (l : Int), true, wp, d.toList, ()) = tailP rec_ self (a : Int) (b : Int) (l : Int) true wp d.toList (c.1 : Int) := by
            cases wp with
            | false => simp (disch := omega) only [smallI_t, inB_t, cutB_t, wrap64, dec_t, dec_f, dec_not, dec_and, dec_or, cond_ite, cond_true, cond_false, Option.bind_some, Option.bind_none, Bool.or_true, Bool.true_or, Bool.and_true, Bool.true_and, Bool.and_false, Bool.false_and, Bool.or_false, Bool.false_or, Bool.not_true, Bool.not_false, Bool.or_self, Bool.and_self, Bool.not_not, if_true, if_false, and_self, true_and, and_true, and_false, false_and, or_true, true_or, or_false, false_or, not_true_eq_false, not_false_eq_true, decide_true, decide_false, eq_self, if_pos, if_neg, mx_eq, mn_eq, slices_pdqsortCmpFunc_sel_end.b0, f1, lenOK_some (show d.toList.length = d.toList.length from rfl), tailP]
            | true =>
              have h1 : hintC c.2 ≠ 1 := fun h => hw ⟨rfl, h⟩
              simp (disch := omega) only [smallI_t, inB_t, cutB_t, wrap64, dec_t, dec_f, dec_not, dec_and, dec_or, cond_ite, cond_true, cond_false, Option.bind_some, Option.bind_none, Bool.or_true, Bool.true_or, Bool.and_true, Bool.true_and, Bool.and_false, Bool.false_and, Bool.or_false, Bool.false_or, Bool.not_true, Bool.not_false, Bool.or_self, Bool.and_self, Bool.not_not, if_true, if_false, and_self, true_and, and_true, and_false, false_and, or_true, true_or, or_false, false_or, not_true_eq_false, not_false_eq_true, decide_true, decide_false, eq_self, if_pos, if_neg, mx_eq, mn_eq, slices_pdqsortCmpFunc_sel_end.b0, f1, lenOK_some (show d.toList.length = d.toList.length from rfl), tailP]
          rw [this]; exact he
theorem pdq_self {N : Nat} {rec_ : List E → Int × Int × Int × Unit → Option (Unit × List E)} (hr : Rec N rec_) : ∀ n, n ≤ N + 1 → Self n (slices_pdqsortCmpFunc_sel_end.l0 .lim rec_) := by
  intro n
  induction n with
  | zero => intro _ a b l wb wp d h; omega
  | succ n ih =>
    intro hn a b l wb wp d h hG hab hb h50 hl hB
    rw [slices_pdqsortCmpFunc_sel_end.q0]
    exact pdq_round (n := n) (fun a b l d h => hr a b l d (by omega)) (ih (by omega)) (by omega) hG hab hb h50 hl hB
theorem pdq_rec : ∀ k, Rec k (iterP (slices_pdqsortCmpFunc_sel_end.B .lim) k) := by
  intro k
  induction k with
  | zero => intro a b l d h; omega
  | succ k ih =>
    intro a b l d h hG hab hb h50 hl hB
    obtain ⟨e, he, q1, q2⟩ := pdq_self ih (k + 1) (Nat.le_refl _) a b l true true d h hG hab hb h50 hl hB
    refine ⟨e, ?_, q1, q2⟩
    rw [iterP]
    rcases he with he | he | he <;> (simp only [slices_pdqsortCmpFunc_sel_end.B]; rw [he]; rfl)
/-- The sort. -/
theorem sort_eq {m : List E} (hg : ∀ x ∈ m, good x) (hm : m.length < 50) : ∃ m', slices_SortFunc_sel_end_sel_end.F .lim m () = some ((), m') ∧ m'.Perm m ∧ m'.Pairwise (fun x y => ltE y x = false) := by
  obtain ⟨e, he, q1, q2⟩ := pdq_rec 100 0 m.length (bitsLen m.length) m.toArray (by omega) (fun k hk => by
    rw [getElem!_pos m.toArray k hk]; exact hg _ (by simp)) (Nat.zero_le _) (by simp) (by simpa using hm) (by have := (blen m.length hm).2.1; omega) (Or.inl rfl)
  refine ⟨e.toList, ?_, ?_, ?_⟩
  · have hb := blen m.length hm
    have he' : slices_pdqsortCmpFunc_sel_end.F .lim m ((0 : Int), (m.length : Int), (bitsLen m.length : Int), ()) = some ((), e.toList) := he
    have hz : e.toList.length = m.length := by have := q1.1; simpa using this
    simp (disch := omega) only [smallI_t, inB_t, cutB_t, wrap64, dec_t, dec_f, dec_not, dec_and, dec_or, cond_ite, cond_true, cond_false, Option.bind_some, Option.bind_none, Bool.or_true, Bool.true_or, Bool.and_true, Bool.true_and, Bool.and_false, Bool.false_and, Bool.or_false, Bool.false_or, Bool.not_true, Bool.not_false, Bool.or_self, Bool.and_self, Bool.not_not, if_true, if_false, and_self, true_and, and_true, and_false, false_and, or_true, true_or, or_false, false_or, not_true_eq_false, not_false_eq_true, decide_true, decide_false, eq_self, if_pos, if_neg, mx_eq, mn_eq, slices_SortFunc_sel_end_sel_end.F, hb.1, he', lenOK_some hz]
  · have hz : e.size = m.length := by have := q1.1; simpa using this
    have h3 := q1.2.2
    have h4 : e.extract 0 m.length = e := by rw [← hz]; simp
    have h5 : m.toArray.extract 0 m.length = m.toArray := by simp
    rw [h4, h5] at h3
    exact h3
  · have hz : e.size = m.length := by have := q1.1; simpa using this
    rw [List.pairwise_iff_getElem]
    intro i j hi hj hij
    have := q2 i j (Nat.zero_le _) hij (by simpa [hz] using hj)
    rw [getElem!_pos e i (by simpa using hi), getElem!_pos e j (by simpa using hj)] at this
    simpa using this
end Go.AM
end
section
namespace Go.AM
abbrev Peer := Int × (Int × Int)
abbrev zP : Peer := ((0 : Int), ((0 : Int), (0 : Int)))
def lo (p : Peer) : Int := p.1 - p.2.1
def hi (p : Peer) : Int := p.1 + p.2.1
def fitP (p : Peer) : Prop := -140737488355328 ≤ p.1 ∧ p.1 ≤ 140737488355328 ∧ 0 ≤ p.2.1 ∧ p.2.1 ≤ 140737488355328 ∧ 0 ≤ p.2.2 ∧ p.2.2 ≤ 140737488355328
def fitL (l : List Peer) : Prop := l.length ≤ 10 ∧ ∀ k, k < l.length → fitP (rd zP l (k : Int))
instance (p : Peer) : Decidable (fitP p) := by unfold fitP; infer_instance
def reachB (t : Int) (p : Peer) : Bool := decide (lo p ≤ t) && decide (t ≤ hi p)
def cnt (l : List Peer) (t : Int) : Nat := l.countP (reachB t)
theorem fit_mem {l : List Peer} (h : fitL l) {p : Peer} (hp : p ∈ l) : fitP p := by
  obtain ⟨k, hk, rfl⟩ := List.getElem_of_mem hp
  have := h.2 k hk
  rwa [rd_ix hk] at this
/-! Reach, Count -/
theorem reach_eq {p : Peer} (h : fitP p) : sel_Reach.run .lim (p, ()) = some (lo p, hi p, ()) := by
  unfold fitP at h
  simp (disch := omega) only [smallI_t, inB_t, cutB_t, wrap64, dec_t, dec_f, dec_not, dec_and, dec_or, cond_ite, cond_true, cond_false, Option.bind_some, Option.bind_none, Bool.or_true, Bool.true_or, Bool.and_true, Bool.true_and, Bool.and_false, Bool.false_and, Bool.or_false, Bool.false_or, Bool.not_true, Bool.not_false, Bool.or_self, Bool.and_self, Bool.not_not, if_true, if_false, and_self, true_and, and_true, and_false, false_and, or_true, true_or, or_false, false_or, not_true_eq_false, not_false_eq_true, decide_true, decide_false, eq_self, if_pos, if_neg, mx_eq, mn_eq, sel_Reach.run]; rfl
theorem rreach_eq {p : Peer} (h : fitP p) : pendulumref29_Reach.run .lim (p, ()) = some (lo p, hi p, ()) := by
  unfold fitP at h
  simp (disch := omega) only [smallI_t, inB_t, cutB_t, wrap64, dec_t, dec_f, dec_not, dec_and, dec_or, cond_ite, cond_true, cond_false, Option.bind_some, Option.bind_none, Bool.or_true, Bool.true_or, Bool.and_true, Bool.true_and, Bool.and_false, Bool.false_and, Bool.or_false, Bool.false_or, Bool.not_true, Bool.not_false, Bool.or_self, Bool.and_self, Bool.not_not, if_true, if_false, and_self, true_and, and_true, and_false, false_and, or_true, true_or, or_false, false_or, not_true_eq_false, not_false_eq_true, decide_true, decide_false, eq_self, if_pos, if_neg, mx_eq, mn_eq, pendulumref29_Reach.run]; rfl
theorem reaches_eq {p : Peer} (h : fitP p) (t : Int) : sel_reaches.run .lim (p, t, ()) = some (reachB t p) := by
  simp only [sel_reaches.run, Prod.eta]; rw [reach_eq h]; rfl
theorem cnt_take {l : List Peer} (t : Int) {k : Nat} (hk : k < l.length) : (cnt (l.take (k + 1)) t : Int) = cnt (l.take k) t + if reachB t (rd zP l (k : Int)) = true then 1 else 0 := by
  unfold cnt
  rw [take_rd (d := zP) hk, List.countP_append, List.countP_singleton]
  split <;> simp
theorem cnt_le (l : List Peer) (t : Int) : cnt l t ≤ l.length := List.countP_le_length
theorem count_eq {l : List Peer} (h : fitL l) (t : Int) : sel_Count.run .lim (l, t, ()) = some (cnt l t : Int) := by
  have h10 := h.1
  have step : ∀ k, k < l.length → sel_Count.l0 .lim (t, (cnt (l.take k) t : Int), l, (l.length : Int), (k : Int), ()) = sel_Count.l0 .lim (t, (cnt (l.take (k + 1)) t : Int), l, (l.length : Int), ((k + 1 : Nat) : Int), ()) := by
    intro k hk
    have hc := cnt_le (l.take k) t
    rw [List.length_take] at hc
    rw [sel_Count.q0, cnt_take t hk]
    simp only [sel_Count.b0, Prod.eta]
    rw [cond_pos (by simp (disch := omega) only [smallI_t, inB_t, cutB_t, wrap64, dec_t, dec_f, dec_not, dec_and, dec_or, cond_ite, cond_true, cond_false, Option.bind_some, Option.bind_none, Bool.or_true, Bool.true_or, Bool.and_true, Bool.true_and, Bool.and_false, Bool.false_and, Bool.or_false, Bool.false_or, Bool.not_true, Bool.not_false, Bool.or_self, Bool.and_self, Bool.not_not, if_true, if_false, and_self, true_and, and_true, and_false, false_and, or_true, true_or, or_false, false_or, not_true_eq_false, not_false_eq_true, decide_true, decide_false, eq_self, if_pos, if_neg, mx_eq, mn_eq]), cond_pos (by simp (disch := omega) only [smallI_t, inB_t, cutB_t, wrap64, dec_t, dec_f, dec_not, dec_and, dec_or, cond_ite, cond_true, cond_false, Option.bind_some, Option.bind_none, Bool.or_true, Bool.true_or, Bool.and_true, Bool.true_and, Bool.and_false, Bool.false_and, Bool.or_false, Bool.false_or, Bool.not_true, Bool.not_false, Bool.or_self, Bool.and_self, Bool.not_not, if_true, if_false, and_self, true_and, and_true, and_false, false_and, or_true, true_or, or_false, false_or, not_true_eq_false, not_false_eq_true, decide_true, decide_false, eq_self, if_pos, if_neg, mx_eq, mn_eq]), reaches_eq (h.2 k hk), Option.bind_some]
    cases hr : reachB t (rd zP l (k : Int)) with
    | true => simp (disch := omega) only [smallI_t, inB_t, cutB_t, wrap64, dec_t, dec_f, dec_not, dec_and, dec_or, cond_ite, cond_true, cond_false, Option.bind_some, Option.bind_none, Bool.or_true, Bool.true_or, Bool.and_true, Bool.true_and, Bool.and_false, Bool.false_and, Bool.or_false, Bool.false_or, Bool.not_true, Bool.not_false, Bool.or_self, Bool.and_self, Bool.not_not, if_true, if_false, and_self, true_and, and_true, and_false, false_and, or_true, true_or, or_false, false_or, not_true_eq_false, not_false_eq_true, decide_true, decide_false, eq_self, if_pos, if_neg, mx_eq, mn_eq]; rfl
    | false => simp (disch := omega) only [smallI_t, inB_t, cutB_t, wrap64, dec_t, dec_f, dec_not, dec_and, dec_or, cond_ite, cond_true, cond_false, Option.bind_some, Option.bind_none, Bool.or_true, Bool.true_or, Bool.and_true, Bool.true_and, Bool.and_false, Bool.false_and, Bool.or_false, Bool.false_or, Bool.not_true, Bool.not_false, Bool.or_self, Bool.and_self, Bool.not_not, if_true, if_false, and_self, true_and, and_true, and_false, false_and, or_true, true_or, or_false, false_or, not_true_eq_false, not_false_eq_true, decide_true, decide_false, eq_self, if_pos, if_neg, mx_eq, mn_eq, Bool.false_eq_true, Int.add_zero]; rfl
  have := loop_to (fun k : Nat => (t, (cnt (l.take k) t : Int), l, (l.length : Int), (k : Int), ())) step
  have e : sel_Count.l0 .lim (t, (0 : Int), l, (l.length : Int), (0 : Int), ()) = some ((cnt l t : Int), ()) := by
    refine this.trans ?_
    rw [sel_Count.q0, List.take_length]
    simp (disch := omega) only [smallI_t, inB_t, cutB_t, wrap64, dec_t, dec_f, dec_not, dec_and, dec_or, cond_ite, cond_true, cond_false, Option.bind_some, Option.bind_none, Bool.or_true, Bool.true_or, Bool.and_true, Bool.true_and, Bool.and_false, Bool.false_and, Bool.or_false, Bool.false_or, Bool.not_true, Bool.not_false, Bool.or_self, Bool.and_self, Bool.not_not, if_true, if_false, and_self, true_and, and_true, and_false, false_and, or_true, true_or, or_false, false_or, not_true_eq_false, not_false_eq_true, decide_true, decide_false, eq_self, if_pos, if_neg, mx_eq, mn_eq, sel_Count.b0]
  simp (disch := omega) only [smallI_t, inB_t, cutB_t, wrap64, dec_t, dec_f, dec_not, dec_and, dec_or, cond_ite, cond_true, cond_false, Option.bind_some, Option.bind_none, Bool.or_true, Bool.true_or, Bool.and_true, Bool.true_and, Bool.and_false, Bool.false_and, Bool.or_false, Bool.false_or, Bool.not_true, Bool.not_false, Bool.or_self, Bool.and_self, Bool.not_not, if_true, if_false, and_self, true_and, and_true, and_false, false_and, or_true, true_or, or_false, false_or, not_true_eq_false, not_false_eq_true, decide_true, decide_false, eq_self, if_pos, if_neg, mx_eq, mn_eq, sel_Count.run, e]
theorem rcount_eq {l : List Peer} (h : fitL l) (t : Int) : pendulumref29_Count.run .lim (l, t, ()) = some (cnt l t : Int) := by
  have h10 := h.1
  have step : ∀ k, k < l.length → pendulumref29_Count.l0 .lim (l, t, (cnt (l.take k) t : Int), (k : Int), ()) = pendulumref29_Count.l0 .lim (l, t, (cnt (l.take (k + 1)) t : Int), ((k + 1 : Nat) : Int), ()) := by
    intro k hk
    have hc := cnt_le (l.take k) t
    rw [List.length_take] at hc
    rw [pendulumref29_Count.q0, cnt_take t hk]
    simp only [pendulumref29_Count.b0, Prod.eta]
    rw [cond_pos (by simp (disch := omega) only [smallI_t, inB_t, cutB_t, wrap64, dec_t, dec_f, dec_not, dec_and, dec_or, cond_ite, cond_true, cond_false, Option.bind_some, Option.bind_none, Bool.or_true, Bool.true_or, Bool.and_true, Bool.true_and, Bool.and_false, Bool.false_and, Bool.or_false, Bool.false_or, Bool.not_true, Bool.not_false, Bool.or_self, Bool.and_self, Bool.not_not, if_true, if_false, and_self, true_and, and_true, and_false, false_and, or_true, true_or, or_false, false_or, not_true_eq_false, not_false_eq_true, decide_true, decide_false, eq_self, if_pos, if_neg, mx_eq, mn_eq]), cond_pos (by simp (disch := omega) only [smallI_t, inB_t, cutB_t, wrap64, dec_t, dec_f, dec_not, dec_and, dec_or, cond_ite, cond_true, cond_false, Option.bind_some, Option.bind_none, Bool.or_true, Bool.true_or, Bool.and_true, Bool.true_and, Bool.and_false, Bool.false_and, Bool.or_false, Bool.false_or, Bool.not_true, Bool.not_false, Bool.or_self, Bool.and_self, Bool.not_not, if_true, if_false, and_self, true_and, and_true, and_false, false_and, or_true, true_or, or_false, false_or, not_true_eq_false, not_false_eq_true, decide_true, decide_false, eq_self, if_pos, if_neg, mx_eq, mn_eq]), cond_pos (by simp (disch := omega) only [smallI_t, inB_t, cutB_t, wrap64, dec_t, dec_f, dec_not, dec_and, dec_or, cond_ite, cond_true, cond_false, Option.bind_some, Option.bind_none, Bool.or_true, Bool.true_or, Bool.and_true, Bool.true_and, Bool.and_false, Bool.false_and, Bool.or_false, Bool.false_or, Bool.not_true, Bool.not_false, Bool.or_self, Bool.and_self, Bool.not_not, if_true, if_false, and_self, true_and, and_true, and_false, false_and, or_true, true_or, or_false, false_or, not_true_eq_false, not_false_eq_true, decide_true, decide_false, eq_self, if_pos, if_neg, mx_eq, mn_eq]), rreach_eq (h.2 k hk), Option.bind_some]
    rw [show (decide (lo (rd zP l (k : Int)) ≤ t) && decide (t ≤ hi (rd zP l (k : Int)))) = reachB t (rd zP l (k : Int)) from rfl]
    cases hr : reachB t (rd zP l (k : Int)) with
    | true => simp (disch := omega) only [smallI_t, inB_t, cutB_t, wrap64, dec_t, dec_f, dec_not, dec_and, dec_or, cond_ite, cond_true, cond_false, Option.bind_some, Option.bind_none, Bool.or_true, Bool.true_or, Bool.and_true, Bool.true_and, Bool.and_false, Bool.false_and, Bool.or_false, Bool.false_or, Bool.not_true, Bool.not_false, Bool.or_self, Bool.and_self, Bool.not_not, if_true, if_false, and_self, true_and, and_true, and_false, false_and, or_true, true_or, or_false, false_or, not_true_eq_false, not_false_eq_true, decide_true, decide_false, eq_self, if_pos, if_neg, mx_eq, mn_eq]; rfl
    | false => simp (disch := omega) only [smallI_t, inB_t, cutB_t, wrap64, dec_t, dec_f, dec_not, dec_and, dec_or, cond_ite, cond_true, cond_false, Option.bind_some, Option.bind_none, Bool.or_true, Bool.true_or, Bool.and_true, Bool.true_and, Bool.and_false, Bool.false_and, Bool.or_false, Bool.false_or, Bool.not_true, Bool.not_false, Bool.or_self, Bool.and_self, Bool.not_not, if_true, if_false, and_self, true_and, and_true, and_false, false_and, or_true, true_or, or_false, false_or, not_true_eq_false, not_false_eq_true, decide_true, decide_false, eq_self, if_pos, if_neg, mx_eq, mn_eq, Bool.false_eq_true, Int.add_zero]; rfl
  have := loop_to (fun k : Nat => (l, t, (cnt (l.take k) t : Int), (k : Int), ())) step
  have e : pendulumref29_Count.l0 .lim (l, t, (0 : Int), (0 : Int), ()) = some ((cnt l t : Int), ()) := by
    refine this.trans ?_
    rw [pendulumref29_Count.q0, List.take_length]
    simp (disch := omega) only [smallI_t, inB_t, cutB_t, wrap64, dec_t, dec_f, dec_not, dec_and, dec_or, cond_ite, cond_true, cond_false, Option.bind_some, Option.bind_none, Bool.or_true, Bool.true_or, Bool.and_true, Bool.true_and, Bool.and_false, Bool.false_and, Bool.or_false, Bool.false_or, Bool.not_true, Bool.not_false, Bool.or_self, Bool.and_self, Bool.not_not, if_true, if_false, and_self, true_and, and_true, and_false, false_and, or_true, true_or, or_false, false_or, not_true_eq_false, not_false_eq_true, decide_true, decide_false, eq_self, if_pos, if_neg, mx_eq, mn_eq, pendulumref29_Count.b0]
  simp (disch := omega) only [smallI_t, inB_t, cutB_t, wrap64, dec_t, dec_f, dec_not, dec_and, dec_or, cond_ite, cond_true, cond_false, Option.bind_some, Option.bind_none, Bool.or_true, Bool.true_or, Bool.and_true, Bool.true_and, Bool.and_false, Bool.false_and, Bool.or_false, Bool.false_or, Bool.not_true, Bool.not_false, Bool.or_self, Bool.and_self, Bool.not_not, if_true, if_false, and_self, true_and, and_true, and_false, false_and, or_true, true_or, or_false, false_or, not_true_eq_false, not_false_eq_true, decide_true, decide_false, eq_self, if_pos, if_neg, mx_eq, mn_eq, pendulumref29_Count.run, e]
/-! the ends -/
def evs : List Peer → List E
  | [] => []
  | p :: r => [lo p, 1] :: [hi p, -1] :: evs r
theorem evs_length (l : List Peer) : (evs l).length = 2 * l.length := by
  induction l with
  | nil => rfl
  | cons p r ih => simp [evs, ih]; omega
theorem evs_append (l r : List Peer) : evs (l ++ r) = evs l ++ evs r := by
  induction l with
  | nil => rfl
  | cons p l ih => simp [evs, ih]
theorem evs_good {l : List Peer} {x : E} (h : x ∈ evs l) : good x := by
  induction l with
  | nil => cases h
  | cons p r ih =>
    rcases List.mem_cons.1 h with rfl | h
    · exact ⟨_, _, rfl, .inl rfl⟩
    · rcases List.mem_cons.1 h with rfl | h
      · exact ⟨_, _, rfl, .inr rfl⟩
      · exact ih h
theorem ends_eq {l : List Peer} (h : fitL l) : sel_Most.l0 .lim (l, (l.length : Int), (0 : Int), (0 : Int), (0 : Int), (0 : Int), (0 : Int), false, ([] : List (List Int)), ()) = some ((0 : Int), (0 : Int), (0 : Int), (0 : Int), false, evs l, ()) := by
  have h10 := h.1
  have step : ∀ k, k < l.length → sel_Most.l0 .lim (l, (l.length : Int), (k : Int), (0 : Int), (0 : Int), (0 : Int), (0 : Int), false, evs (l.take k), ()) = sel_Most.l0 .lim (l, (l.length : Int), ((k + 1 : Nat) : Int), (0 : Int), (0 : Int), (0 : Int), (0 : Int), false, evs (l.take (k + 1)), ()) := by
    intro k hk
    rw [sel_Most.q0, take_rd (d := zP) hk, evs_append]
    have hlen := evs_length (l.take k)
    rw [List.length_take] at hlen
    simp only [sel_Most.b0, Prod.eta]
    rw [cond_pos (by simp (disch := omega) only [smallI_t, inB_t, cutB_t, wrap64, dec_t, dec_f, dec_not, dec_and, dec_or, cond_ite, cond_true, cond_false, Option.bind_some, Option.bind_none, Bool.or_true, Bool.true_or, Bool.and_true, Bool.true_and, Bool.and_false, Bool.false_and, Bool.or_false, Bool.false_or, Bool.not_true, Bool.not_false, Bool.or_self, Bool.and_self, Bool.not_not, if_true, if_false, and_self, true_and, and_true, and_false, false_and, or_true, true_or, or_false, false_or, not_true_eq_false, not_false_eq_true, decide_true, decide_false, eq_self, if_pos, if_neg, mx_eq, mn_eq]), cond_pos (by simp (disch := omega) only [smallI_t, inB_t, cutB_t, wrap64, dec_t, dec_f, dec_not, dec_and, dec_or, cond_ite, cond_true, cond_false, Option.bind_some, Option.bind_none, Bool.or_true, Bool.true_or, Bool.and_true, Bool.true_and, Bool.and_false, Bool.false_and, Bool.or_false, Bool.false_or, Bool.not_true, Bool.not_false, Bool.or_self, Bool.and_self, Bool.not_not, if_true, if_false, and_self, true_and, and_true, and_false, false_and, or_true, true_or, or_false, false_or, not_true_eq_false, not_false_eq_true, decide_true, decide_false, eq_self, if_pos, if_neg, mx_eq, mn_eq]), reach_eq (h.2 k hk), Option.bind_some]
    simp only []
    rw [cond_pos (by simp only [List.length_cons, List.length_nil]; simp (disch := omega) only [smallI_t, inB_t, cutB_t, wrap64, dec_t, dec_f, dec_not, dec_and, dec_or, cond_ite, cond_true, cond_false, Option.bind_some, Option.bind_none, Bool.or_true, Bool.true_or, Bool.and_true, Bool.true_and, Bool.and_false, Bool.false_and, Bool.or_false, Bool.false_or, Bool.not_true, Bool.not_false, Bool.or_self, Bool.and_self, Bool.not_not, if_true, if_false, and_self, true_and, and_true, and_false, false_and, or_true, true_or, or_false, false_or, not_true_eq_false, not_false_eq_true, decide_true, decide_false, eq_self, if_pos, if_neg, mx_eq, mn_eq])]
    simp (disch := omega) only [smallI_t, inB_t, cutB_t, wrap64, dec_t, dec_f, dec_not, dec_and, dec_or, cond_ite, cond_true, cond_false, Option.bind_some, Option.bind_none, Bool.or_true, Bool.true_or, Bool.and_true, Bool.true_and, Bool.and_false, Bool.false_and, Bool.or_false, Bool.false_or, Bool.not_true, Bool.not_false, Bool.or_self, Bool.and_self, Bool.not_not, if_true, if_false, and_self, true_and, and_true, and_false, false_and, or_true, true_or, or_false, false_or, not_true_eq_false, not_false_eq_true, decide_true, decide_false, eq_self, if_pos, if_neg, mx_eq, mn_eq]
    rfl
  have := loop_to (fun k : Nat => (l, (l.length : Int), (k : Int), (0 : Int), (0 : Int), (0 : Int), (0 : Int), false, evs (l.take k), ())) step
  refine this.trans ?_
  rw [sel_Most.q0, List.take_length]
  simp (disch := omega) only [smallI_t, inB_t, cutB_t, wrap64, dec_t, dec_f, dec_not, dec_and, dec_or, cond_ite, cond_true, cond_false, Option.bind_some, Option.bind_none, Bool.or_true, Bool.true_or, Bool.and_true, Bool.true_and, Bool.and_false, Bool.false_and, Bool.or_false, Bool.false_or, Bool.not_true, Bool.not_false, Bool.or_self, Bool.and_self, Bool.not_not, if_true, if_false, and_self, true_and, and_true, and_false, false_and, or_true, true_or, or_false, false_or, not_true_eq_false, not_false_eq_true, decide_true, decide_false, eq_self, if_pos, if_neg, mx_eq, mn_eq, sel_Most.b0]
/-! the sweep -/
structure Sw where
  m : Int
  low : Int
  high : Int
def sweep : List E → Int → Int → Int → Int → Bool → Sw
  | [], _, m, low, high, _ => ⟨m, low, high⟩
  | e :: r, n, m, low, high, op =>
    if e1 e < 0 then (if op = true then sweep r (n - 1) m low (e0 e) false else sweep r (n - 1) m low high op)
    else if n + 1 > m then sweep r (n + 1) (n + 1) (e0 e) high true else sweep r (n + 1) m low high op
theorem sweep_eq (ys : List E) (hy : ys.length < 50) : ∀ (post pre : List E) (n m low high : Int) (op : Bool), ys = pre ++ post → -100 < n - post.length → n + post.length < 100 → -100 < m → m < 100 →
    ∃ n' op', sel_Most.l1 .lim ((ys.length : Int), (pre.length : Int), n, m, low, high, op, ys, ()) = some (n', (sweep post n m low high op).m, (sweep post n m low high op).low, (sweep post n m low high op).high, op', ()) := by
  intro post
  induction post with
  | nil =>
    intro pre n m low high op hys _ _ _ _
    rw [sel_Most.q1]
    have : ys.length = pre.length := by rw [hys]; simp
    exact ⟨n, op, by simp (disch := omega) only [smallI_t, inB_t, cutB_t, wrap64, dec_t, dec_f, dec_not, dec_and, dec_or, cond_ite, cond_true, cond_false, Option.bind_some, Option.bind_none, Bool.or_true, Bool.true_or, Bool.and_true, Bool.true_and, Bool.and_false, Bool.false_and, Bool.or_false, Bool.false_or, Bool.not_true, Bool.not_false, Bool.or_self, Bool.and_self, Bool.not_not, if_true, if_false, and_self, true_and, and_true, and_false, false_and, or_true, true_or, or_false, false_or, not_true_eq_false, not_false_eq_true, decide_true, decide_false, eq_self, if_pos, if_neg, mx_eq, mn_eq, sel_Most.b1]; rfl⟩
  | cons e r ih =>
    intro pre n m low high op hys h1 h2 h3 h4
    have hl : ys.length = pre.length + (r.length + 1) := by rw [hys]; simp
    have he : rd (List.replicate 2 (0 : Int) : List Int) ys (pre.length : Int) = e := by
      rw [rd_ix (by omega)]; simp [hys]
    have hp : ys = (pre ++ [e]) ++ r := by rw [hys]; simp
    have hpl : ((pre.length : Int) + 1) = ((pre ++ [e]).length : Int) := by simp
    rw [List.length_cons] at h1 h2
    rw [sel_Most.q1, sweep]
    by_cases c1 : e1 e < 0
    · have c1' : rd (0 : Int) e 1 < 0 := c1
      rw [if_pos c1]
      cases op with
      | true =>
        obtain ⟨n', op', hh⟩ := ih (pre ++ [e]) (n - 1) m low (e0 e) false hp (by omega) (by omega) h3 h4
        refine ⟨n', op', ?_⟩
        simp (disch := omega) only [smallI_t, inB_t, cutB_t, wrap64, dec_t, dec_f, dec_not, dec_and, dec_or, cond_ite, cond_true, cond_false, Option.bind_some, Option.bind_none, Bool.or_true, Bool.true_or, Bool.and_true, Bool.true_and, Bool.and_false, Bool.false_and, Bool.or_false, Bool.false_or, Bool.not_true, Bool.not_false, Bool.or_self, Bool.and_self, Bool.not_not, if_true, if_false, and_self, true_and, and_true, and_false, false_and, or_true, true_or, or_false, false_or, not_true_eq_false, not_false_eq_true, decide_true, decide_false, eq_self, if_pos, if_neg, mx_eq, mn_eq, sel_Most.b1, he]
        rw [hpl]
        exact hh
      | false =>
        obtain ⟨n', op', hh⟩ := ih (pre ++ [e]) (n - 1) m low high false hp (by omega) (by omega) h3 h4
        refine ⟨n', op', ?_⟩
        simp (disch := omega) only [smallI_t, inB_t, cutB_t, wrap64, dec_t, dec_f, dec_not, dec_and, dec_or, cond_ite, cond_true, cond_false, Option.bind_some, Option.bind_none, Bool.or_true, Bool.true_or, Bool.and_true, Bool.true_and, Bool.and_false, Bool.false_and, Bool.or_false, Bool.false_or, Bool.not_true, Bool.not_false, Bool.or_self, Bool.and_self, Bool.not_not, if_true, if_false, and_self, true_and, and_true, and_false, false_and, or_true, true_or, or_false, false_or, not_true_eq_false, not_false_eq_true, decide_true, decide_false, eq_self, if_pos, if_neg, mx_eq, mn_eq, sel_Most.b1, he, Bool.false_eq_true]
        rw [hpl]
        exact hh
    · have c1' : ¬ rd (0 : Int) e 1 < 0 := c1
      rw [if_neg c1]
      by_cases c2 : n + 1 > m
      · obtain ⟨n', op', hh⟩ := ih (pre ++ [e]) (n + 1) (n + 1) (e0 e) high true hp (by omega) (by omega) (by omega) (by omega)
        refine ⟨n', op', ?_⟩
        rw [if_pos c2]
        simp (disch := omega) only [smallI_t, inB_t, cutB_t, wrap64, dec_t, dec_f, dec_not, dec_and, dec_or, cond_ite, cond_true, cond_false, Option.bind_some, Option.bind_none, Bool.or_true, Bool.true_or, Bool.and_true, Bool.true_and, Bool.and_false, Bool.false_and, Bool.or_false, Bool.false_or, Bool.not_true, Bool.not_false, Bool.or_self, Bool.and_self, Bool.not_not, if_true, if_false, and_self, true_and, and_true, and_false, false_and, or_true, true_or, or_false, false_or, not_true_eq_false, not_false_eq_true, decide_true, decide_false, eq_self, if_pos, if_neg, mx_eq, mn_eq, sel_Most.b1, he]
        rw [hpl]
        exact hh
      · obtain ⟨n', op', hh⟩ := ih (pre ++ [e]) (n + 1) m low high op hp (by omega) (by omega) h3 h4
        refine ⟨n', op', ?_⟩
        rw [if_neg c2]
        simp (disch := omega) only [smallI_t, inB_t, cutB_t, wrap64, dec_t, dec_f, dec_not, dec_and, dec_or, cond_ite, cond_true, cond_false, Option.bind_some, Option.bind_none, Bool.or_true, Bool.true_or, Bool.and_true, Bool.true_and, Bool.and_false, Bool.false_and, Bool.or_false, Bool.false_or, Bool.not_true, Bool.not_false, Bool.or_self, Bool.and_self, Bool.not_not, if_true, if_false, and_self, true_and, and_true, and_false, false_and, or_true, true_or, or_false, false_or, not_true_eq_false, not_false_eq_true, decide_true, decide_false, eq_self, if_pos, if_neg, mx_eq, mn_eq, sel_Most.b1, he]
        rw [hpl]
        exact hh
theorem most_run {l : List Peer} (h : fitL l) : ∃ ys : List E, ys.Perm (evs l) ∧ ys.Pairwise (fun x y => ltE y x = false) ∧ sel_Most.run .lim (l, ()) = some ((sweep ys 0 0 0 0 false).m, (sweep ys 0 0 0 0 false).low, (sweep ys 0 0 0 0 false).high, ()) := by
  have h10 := h.1
  have hl := evs_length l
  obtain ⟨ys, h1, h2, h3⟩ := sort_eq (m := evs l) (fun x hx => evs_good hx) (by omega)
  have hyl : ys.length = (evs l).length := h2.length_eq
  obtain ⟨n', op', hh⟩ := sweep_eq ys (by omega) ys [] 0 0 0 0 false rfl (by omega) (by omega) (by omega) (by omega)
  refine ⟨ys, h2, h3, ?_⟩
  have hh' : sel_Most.l1 .lim ((ys.length : Int), (0 : Int), (0 : Int), (0 : Int), (0 : Int), (0 : Int), false, ys, ()) = some (n', (sweep ys 0 0 0 0 false).m, (sweep ys 0 0 0 0 false).low, (sweep ys 0 0 0 0 false).high, op', ()) := hh
  simp only [sel_Most.run]
  rw [cond_pos (by simp (disch := omega) only [smallI_t, inB_t, cutB_t, wrap64, dec_t, dec_f, dec_not, dec_and, dec_or, cond_ite, cond_true, cond_false, Option.bind_some, Option.bind_none, Bool.or_true, Bool.true_or, Bool.and_true, Bool.true_and, Bool.and_false, Bool.false_and, Bool.or_false, Bool.false_or, Bool.not_true, Bool.not_false, Bool.or_self, Bool.and_self, Bool.not_not, if_true, if_false, and_self, true_and, and_true, and_false, false_and, or_true, true_or, or_false, false_or, not_true_eq_false, not_false_eq_true, decide_true, decide_false, eq_self, if_pos, if_neg, mx_eq, mn_eq]), ends_eq h, Option.bind_some]
  simp only []
  rw [h1, lenOK_some hyl, Option.bind_some]
  simp only []
  rw [cond_pos (by simp (disch := omega) only [smallI_t, inB_t, cutB_t, wrap64, dec_t, dec_f, dec_not, dec_and, dec_or, cond_ite, cond_true, cond_false, Option.bind_some, Option.bind_none, Bool.or_true, Bool.true_or, Bool.and_true, Bool.true_and, Bool.and_false, Bool.false_and, Bool.or_false, Bool.false_or, Bool.not_true, Bool.not_false, Bool.or_self, Bool.and_self, Bool.not_not, if_true, if_false, and_self, true_and, and_true, and_false, false_and, or_true, true_or, or_false, false_or, not_true_eq_false, not_false_eq_true, decide_true, decide_false, eq_self, if_pos, if_neg, mx_eq, mn_eq]), hh']
  rfl
end Go.AM
end
section
namespace Go.AM
/-! what the sweep comes to -/
def sm : List E → Int
  | [] => 0
  | x :: r => e1 x + sm r
theorem sm_append (a b : List E) : sm (a ++ b) = sm a + sm b := by
  induction a with
  | nil => simp [sm]
  | cons x r ih => simp only [List.cons_append, sm, ih]; omega
theorem sm_perm {a b : List E} (h : a.Perm b) : sm a = sm b := by
  induction h with
  | nil => rfl
  | cons x _ ih => simp only [sm, ih]
  | swap x y l => simp only [sm]; omega
  | trans _ _ h1 h2 => rw [h1, h2]
theorem split_snoc {α : Type} {P : List α} {x b : α} {P1 P2 : List α} (h : P ++ [x] = P1 ++ b :: P2) : (P2 = [] ∧ b = x ∧ P1 = P) ∨ ∃ P2', P2 = P2' ++ [x] ∧ P = P1 ++ b :: P2' := by
  rcases List.eq_nil_or_concat P2 with rfl | ⟨P2', y, rfl⟩
  · have := List.append_inj' (h : P ++ [x] = P1 ++ [b]) rfl
    exact .inl ⟨rfl, by have := this.2; simp at this; exact this.symm, this.1.symm⟩
  · rw [List.concat_eq_append] at h ⊢
    have h' : P ++ [x] = (P1 ++ b :: P2') ++ [y] := by rw [h]; simp
    have := List.append_inj' h' rfl
    have hy : x = y := by have := this.2; simpa using this
    exact .inr ⟨P2', by rw [hy], this.1⟩
structure SwI (P : List E) (n m low high : Int) (op : Bool) : Prop where
  n_eq : n = sm P
  le_m : ∀ P1 b P2, P = P1 ++ b :: P2 → e1 b = 1 → sm P1 + 1 ≤ m
  best : (m = 0 ∧ low = 0 ∧ high = 0 ∧ op = false) ∨ ∃ P1 b P2, P = P1 ++ b :: P2 ∧ e1 b = 1 ∧ e0 b = low ∧ sm P1 + 1 = m ∧ (∀ Q1 c Q2, P1 = Q1 ++ c :: Q2 → e1 c = 1 → sm Q1 + 1 < m) ∧
    ((op = true ∧ ∀ x ∈ P2, e1 x = 1) ∨ (op = false ∧ ∃ P3 c P4, P2 = P3 ++ c :: P4 ∧ (∀ x ∈ P3, e1 x = 1) ∧ e1 c = -1 ∧ e0 c = high))
theorem inv_nil : SwI [] 0 0 0 0 false := ⟨rfl, fun P1 b P2 h => by simp at h, .inl ⟨rfl, rfl, rfl, rfl⟩⟩
theorem sm_snoc (P : List E) (x : E) : sm (P ++ [x]) = sm P + e1 x := by rw [sm_append]; simp [sm]
theorem inv_end {P : List E} {n m low high : Int} {op : Bool} {x : E} (h : SwI P n m low high op) (hx : e1 x = -1) : SwI (P ++ [x]) (n - 1) m low (if op = true then e0 x else high) false := by
  obtain ⟨h1, h2, h3⟩ := h
  refine ⟨by rw [sm_snoc, hx, h1]; omega, ?_, ?_⟩
  · intro P1 b P2 e hb
    rcases split_snoc e with ⟨rfl, rfl, rfl⟩ | ⟨P2', rfl, e'⟩
    · omega
    · exact h2 P1 b P2' e' hb
  · rcases h3 with ⟨a1, a2, a3, a4⟩ | ⟨P1, b, P2, e, hb, hlow, hm, hlt, hop⟩
    · exact .inl ⟨a1, a2, by rw [a4]; exact a3, rfl⟩
    · refine .inr ⟨P1, b, P2 ++ [x], by rw [e]; simp, hb, hlow, hm, hlt, .inr ⟨rfl, ?_⟩⟩
      rcases hop with ⟨o1, o2⟩ | ⟨o1, P3, c, P4, o2, o3, o4, o5⟩
      · exact ⟨P2, x, [], rfl, o2, hx, by rw [o1]; rfl⟩
      · exact ⟨P3, c, P4 ++ [x], by rw [o2]; simp, o3, o4, by rw [o1]; exact o5⟩
theorem inv_begin {P : List E} {n m low high : Int} {op : Bool} {x : E} (h : SwI P n m low high op) (hx : e1 x = 1) : (n + 1 > m → SwI (P ++ [x]) (n + 1) (n + 1) (e0 x) high true) ∧ (¬ n + 1 > m → SwI (P ++ [x]) (n + 1) m low high op) := by
  obtain ⟨h1, h2, h3⟩ := h
  constructor
  · intro hc
    refine ⟨by rw [sm_snoc, hx, h1], ?_, ?_⟩
    · intro P1 b P2 e hb
      rcases split_snoc e with ⟨rfl, rfl, rfl⟩ | ⟨P2', rfl, e'⟩
      · omega
      · have := h2 P1 b P2' e' hb; omega
    · refine .inr ⟨P, x, [], rfl, hx, rfl, by omega, ?_, .inl ⟨rfl, fun y hy => nomatch hy⟩⟩
      intro Q1 c Q2 e hc'
      have := h2 Q1 c Q2 e hc'
      omega
  · intro hc
    refine ⟨by rw [sm_snoc, hx, h1], ?_, ?_⟩
    · intro P1 b P2 e hb
      rcases split_snoc e with ⟨rfl, rfl, rfl⟩ | ⟨P2', rfl, e'⟩
      · omega
      · exact h2 P1 b P2' e' hb
    · rcases h3 with ⟨a1, a2, a3, a4⟩ | ⟨P1, b, P2, e, hb, hlow, hm, hlt, hop⟩
      · exact .inl ⟨a1, a2, a3, a4⟩
      · refine .inr ⟨P1, b, P2 ++ [x], by rw [e]; simp, hb, hlow, hm, hlt, ?_⟩
        rcases hop with ⟨o1, o2⟩ | ⟨o1, P3, c, P4, o2, o3, o4, o5⟩
        · refine .inl ⟨o1, fun y hy => ?_⟩
          rcases List.mem_append.1 hy with hy | hy
          · exact o2 y hy
          · rw [List.mem_singleton.1 hy]; exact hx
        · exact .inr ⟨o1, P3, c, P4 ++ [x], by rw [o2]; simp, o3, o4, o5⟩
theorem sweep_inv : ∀ (Q P : List E) (n m low high : Int) (op : Bool), (∀ x ∈ Q, e1 x = 1 ∨ e1 x = -1) → SwI P n m low high op →
    ∃ n' op', SwI (P ++ Q) n' (sweep Q n m low high op).m (sweep Q n m low high op).low (sweep Q n m low high op).high op' := by
  intro Q
  induction Q with
  | nil => intro P n m low high op _ h; exact ⟨n, op, by rw [List.append_nil]; exact h⟩
  | cons x r ih =>
    intro P n m low high op hg h
    have hx := hg x (by simp)
    have hr : ∀ y ∈ r, e1 y = 1 ∨ e1 y = -1 := fun y hy => hg y (by simp [hy])
    rw [sweep]
    rw [show P ++ x :: r = (P ++ [x]) ++ r by simp]
    by_cases c1 : e1 x < 0
    · rw [if_pos c1]
      have hi := inv_end h (x := x) (by omega)
      cases op with
      | true => exact ih _ _ _ _ _ _ hr hi
      | false => exact ih _ _ _ _ _ _ hr hi
    · rw [if_neg c1]
      have hi := inv_begin h (x := x) (by omega)
      split
      · rename_i c2; exact ih _ _ _ _ _ _ hr (hi.1 c2)
      · rename_i c2; exact ih _ _ _ _ _ _ hr (hi.2 c2)
/-! sorted rows, cut at an end -/
theorem cut_sorted {P1 P2 : List E} {b : E} (h : (P1 ++ b :: P2).Pairwise (fun x y => ltE y x = false)) : (∀ x ∈ P1, ltE b x = false) ∧ (∀ x ∈ P2, ltE x b = false) ∧ (∀ x ∈ P1, ∀ y ∈ P2, ltE y x = false) := by
  rw [List.pairwise_append] at h
  obtain ⟨-, h2, h3⟩ := h
  rw [List.pairwise_cons] at h2
  exact ⟨fun x hx => h3 x hx b (by simp), h2.1, fun x hx y hy => h3 x hx y (by simp [hy])⟩
def le1 (t : Int) (x : E) : Bool := decide (e0 x < t) || (decide (e0 x = t) && decide (e1 x = 1))
/-- the ends not behind the beginnings at t -/
theorem sm_filter (l : List Peer) (h : ∀ p ∈ l, 0 ≤ p.2.1) (t : Int) : sm ((evs l).filter (le1 t)) = cnt l t := by
  induction l with
  | nil => rfl
  | cons p r ih =>
    have ih := ih (fun q hq => h q (by simp [hq]))
    have hp := h p (by simp)
    unfold cnt at ih ⊢
    rw [evs, List.countP_cons, List.filter_cons, List.filter_cons]
    have b0 : e0 [lo p, 1] = lo p := rfl
    have b1 : e1 [lo p, 1] = 1 := rfl
    have c0 : e0 [hi p, -1] = hi p := rfl
    have c1 : e1 [hi p, -1] = -1 := rfl
    have l1 : le1 t [lo p, 1] = decide (lo p ≤ t) := by unfold le1; rw [b0, b1]; by_cases h1 : lo p ≤ t <;> by_cases h2 : lo p = t <;> simp [h1, h2] <;> omega
    have l2 : le1 t [hi p, -1] = decide (hi p < t) := by unfold le1; rw [c0, c1]; simp
    have hlh : lo p ≤ hi p := by unfold lo hi; omega
    have rb : reachB t p = (decide (lo p ≤ t) && decide (t ≤ hi p)) := rfl
    rw [l1, l2, rb]
    by_cases h1 : lo p ≤ t
    · by_cases h2 : hi p < t
      · simp only [h1, h2, decide_true, if_true, sm, b1, c1, ih, show ¬ t ≤ hi p by omega, decide_false, Bool.and_false, Bool.false_eq_true, if_false]; omega
      · simp only [h1, h2, decide_true, decide_false, if_true, sm, b1, ih, show t ≤ hi p by omega, Bool.and_true, Bool.false_eq_true, if_false]; omega
    · simp only [h1, show ¬ hi p < t by omega, decide_false, if_false, ih, Bool.false_and, Bool.false_eq_true]; omega
end Go.AM
end
section
namespace Go.AM
theorem mem_evs {l : List Peer} {x : E} (h : x ∈ evs l) : (∃ p ∈ l, x = [lo p, 1]) ∨ ∃ p ∈ l, x = [hi p, -1] := by
  induction l with
  | nil => cases h
  | cons p r ih =>
    rcases List.mem_cons.1 h with rfl | h
    · exact .inl ⟨p, by simp, rfl⟩
    · rcases List.mem_cons.1 h with rfl | h
      · exact .inr ⟨p, by simp, rfl⟩
      · rcases ih h with ⟨q, hq, e⟩ | ⟨q, hq, e⟩
        · exact .inl ⟨q, by simp [hq], e⟩
        · exact .inr ⟨q, by simp [hq], e⟩
theorem evs_mem {l : List Peer} {p : Peer} (h : p ∈ l) : [lo p, 1] ∈ evs l ∧ [hi p, -1] ∈ evs l := by
  induction l with
  | nil => cases h
  | cons q r ih =>
    rcases List.mem_cons.1 h with rfl | h
    · simp [evs]
    · have := ih h; simp [evs, this]
theorem e1_neg (t : Int) : ¬ e1 [t, -1] = 1 := fun h => absurd (show (-1 : Int) = 1 from h) (by decide)
theorem e1_pos (t : Int) : ¬ e1 [t, 1] = -1 := fun h => absurd (show (1 : Int) = -1 from h) (by decide)
theorem good_begin {x : E} (h : good x) (h1 : e1 x = 1) : x = [e0 x, 1] := by
  obtain ⟨t, s, rfl, hs⟩ := h
  have : e1 [t, s] = s := rfl
  rw [this] at h1; subst h1; rfl
theorem good_e1 {x : E} (h : good x) : e1 x = 1 ∨ e1 x = -1 := by
  obtain ⟨t, s, rfl, hs⟩ := h
  exact hs
theorem sm_ones {S : List E} (h : ∀ x ∈ S, e1 x = 1) : 0 ≤ sm S := by
  induction S with
  | nil => exact Int.le_refl _
  | cons x r ih => have := ih fun y hy => h y (by simp [hy]); have := h x (by simp); simp only [sm]; omega
theorem last_split {α : Type} [DecidableEq α] {a : α} : ∀ {l : List α}, a ∈ l → ∃ A B, l = A ++ a :: B ∧ a ∉ B := by
  intro l
  induction l with
  | nil => intro h; cases h
  | cons x r ih =>
    intro h
    by_cases hr : a ∈ r
    · obtain ⟨A, B, e, hB⟩ := ih hr
      exact ⟨x :: A, B, by rw [e]; rfl, hB⟩
    · rcases List.mem_cons.1 h with rfl | h
      · exact ⟨[], r, rfl, hr⟩
      · exact absurd h hr
structure MostS (l : List Peer) (m low high : Int) : Prop where
  at_low : (cnt l low : Int) = m
  begins : ∃ p ∈ l, lo p = low
  le : ∀ p ∈ l, (cnt l (lo p) : Int) ≤ m
  first : ∀ p ∈ l, (cnt l (lo p) : Int) = m → low ≤ lo p
  ends : ∃ p ∈ l, hi p = high ∧ lo p ≤ low ∧ low ≤ hi p
  least : ∀ p ∈ l, low ≤ hi p → high ≤ hi p
/-- the last beginning at a place -/
theorem prefix_cnt {l : List Peer} (hl : ∀ p ∈ l, 0 ≤ p.2.1) {ys : List E} (hp : ys.Perm (evs l)) (hs : ys.Pairwise (fun x y => ltE y x = false)) {P1 P2 : List E} {t : Int} (e : ys = P1 ++ [t, 1] :: P2) (hb : [t, 1] ∉ P2) :
    sm P1 + 1 = cnt l t := by
  rw [e] at hs
  obtain ⟨c1, c2, -⟩ := cut_sorted hs
  have b0 : e0 [t, 1] = t := rfl
  have b1 : e1 [t, 1] = 1 := rfl
  have hg : ∀ x ∈ ys, good x := fun x hx => evs_good (hp.mem_iff.1 hx)
  have f1 : P1.filter (le1 t) = P1 := by
    rw [List.filter_eq_self]
    intro x hx
    have := (ltE_not _ _).1 (c1 x hx)
    have := good_e1 (hg x (by rw [e]; simp [hx]))
    unfold le1
    rw [b0, b1] at *
    simp only [Bool.or_eq_true, Bool.and_eq_true, decide_eq_true_eq]
    omega
  have f2 : P2.filter (le1 t) = [] := by
    rw [List.filter_eq_nil_iff]
    intro x hx
    have h1 := (ltE_not _ _).1 (c2 x hx)
    have hgx := hg x (by rw [e]; simp [hx])
    have h2 := good_e1 hgx
    unfold le1
    simp only [Bool.or_eq_true, Bool.and_eq_true, decide_eq_true_eq]
    rw [b0, b1] at h1
    intro hc
    rcases hc with hc | ⟨hc, hc'⟩
    · omega
    · have := good_begin hgx hc'
      rw [hc] at this
      rw [this] at hx
      exact hb hx
  have := sm_perm (hp.filter (le1 t))
  rw [sm_filter l hl t, e, List.filter_append, List.filter_cons, f1, f2, if_pos (by simp [le1, b0, b1])] at this
  rw [sm_snoc, b1] at this
  omega
theorem most_spec {l : List Peer} (h : fitL l) (hne : l ≠ []) : ∃ m low high, sel_Most.run .lim (l, ()) = some (m, low, high, ()) ∧ MostS l m low high := by
  obtain ⟨ys, hp, hs, hrun⟩ := most_run h
  have hl : ∀ p ∈ l, 0 ≤ p.2.1 := fun p hp => (fit_mem h hp).2.2.1
  have hlh : ∀ p ∈ l, lo p ≤ hi p := fun p hp => by have := hl p hp; unfold lo hi; omega
  have hg : ∀ x ∈ ys, good x := fun x hx => evs_good (hp.mem_iff.1 hx)
  obtain ⟨n', op', hI⟩ := sweep_inv ys [] 0 0 0 0 false (fun x hx => good_e1 (hg x hx)) inv_nil
  rw [List.nil_append] at hI
  refine ⟨_, _, _, hrun, ?_⟩
  generalize (sweep ys 0 0 0 0 false).m = m at *
  generalize (sweep ys 0 0 0 0 false).low = low at *
  generalize (sweep ys 0 0 0 0 false).high = high at *
  obtain ⟨-, hle, hbest⟩ := hI
  have key : ∀ p ∈ l, ∃ A B, ys = A ++ [lo p, 1] :: B ∧ sm A + 1 = cnt l (lo p) := by
    intro p hpl
    obtain ⟨A, B, e, hB⟩ := last_split (hp.mem_iff.2 (evs_mem hpl).1)
    exact ⟨A, B, e, prefix_cnt hl hp hs e hB⟩
  have hle' : ∀ p ∈ l, (cnt l (lo p) : Int) ≤ m := by
    intro p hpl
    obtain ⟨A, B, e, hc⟩ := key p hpl
    have := hle A _ B e rfl
    omega
  obtain ⟨p0, hp0⟩ := List.exists_mem_of_ne_nil l hne
  rcases hbest with ⟨hm, -⟩ | ⟨P1, b, P2, e, hb1, hb0, hsm, hlt, hop⟩
  · have h1 := hle' p0 hp0
    have : 0 < cnt l (lo p0) := by
      unfold cnt
      rw [List.countP_pos_iff]
      exact ⟨p0, hp0, by have := hlh p0 hp0; unfold reachB; simp [this]⟩
    omega
  · have hbg := hg b (by rw [e]; simp)
    have hbe := good_begin hbg hb1
    rw [hb0] at hbe
    have hs' := hs
    rw [e] at hs'
    obtain ⟨c1, c2, -⟩ := cut_sorted hs'
    have hgP1 : ∀ x ∈ P1, e0 x < low ∨ e0 x = low ∧ e1 x = 1 := by
      intro x hx
      have h1 := (ltE_not _ _).1 (c1 x hx)
      have h2 := good_e1 (hg x (by rw [e]; simp [hx]))
      omega
    have hgP2 : ∀ x ∈ P2, low < e0 x ∨ low = e0 x := by
      intro x hx
      have h1 := (ltE_not _ _).1 (c2 x hx)
      omega
    have hbP2 : b ∉ P2 := by
      intro hb
      obtain ⟨S1, S2, e2⟩ := List.append_of_mem hb
      have hs2 : P2.Pairwise (fun x y => ltE y x = false) := by
        rw [List.pairwise_append] at hs'
        exact (List.pairwise_cons.1 hs'.2.1).2
      rw [e2] at hs2
      obtain ⟨d1, -, -⟩ := cut_sorted hs2
      have hS : ∀ x ∈ S1, e1 x = 1 := by
        intro x hx
        have h1 := (ltE_not _ _).1 (d1 x hx)
        have h2 := (ltE_not _ _).1 (c2 x (by rw [e2]; simp [hx]))
        omega
      have h3 := hle (P1 ++ b :: S1) b S2 (by rw [e, e2]; simp) hb1
      rw [sm_append] at h3
      have h4 := sm_ones hS
      simp only [sm, hb1] at h3
      omega
    rw [hbe] at hbP2
    have hlow : (cnt l low : Int) = m := by
      have := prefix_cnt hl hp hs (by rw [e, hbe]) hbP2
      omega
    have hbeg : ∃ p ∈ l, lo p = low := by
      rcases mem_evs (hp.mem_iff.1 (show b ∈ ys by rw [e]; simp)) with ⟨p, hpl, he⟩ | ⟨p, hpl, he⟩
      · refine ⟨p, hpl, ?_⟩
        rw [he] at hb0; exact hb0
      · rw [he] at hb1; exact absurd hb1 (e1_neg _)
    have hmemE : ∀ p ∈ l, low ≤ hi p → [hi p, -1] ∈ P2 := by
      intro p hpl hlo'
      have hx := hp.mem_iff.2 (evs_mem hpl).2
      rw [e] at hx
      rcases List.mem_append.1 hx with hx | hx
      · have := hgP1 _ hx
        have a0 : e0 [hi p, -1] = hi p := rfl
        have a1 : e1 [hi p, -1] = -1 := rfl
        omega
      · rcases List.mem_cons.1 hx with hx | hx
        · rw [← hx] at hb1; exact absurd hb1 (e1_neg _)
        · exact hx
    refine ⟨hlow, hbeg, hle', ?_, ?_, ?_⟩
    · intro p hpl hpm
      apply Decidable.byContradiction
      intro hlt'
      obtain ⟨A, B, e', hc⟩ := key p hpl
      have ee : A ++ [lo p, 1] :: B = P1 ++ b :: P2 := by rw [← e', e]
      rcases List.append_eq_append_iff.1 ee with ⟨aas, h1, h2⟩ | ⟨bs, h1, h2⟩
      · cases aas with
        | nil =>
          simp only [List.nil_append, List.cons.injEq] at h2
          rw [← h2.1] at hb0
          have a0 : e0 [lo p, 1] = lo p := rfl
          omega
        | cons x aas' =>
          simp only [List.cons_append, List.cons.injEq] at h2
          rw [← h2.1] at h1
          have := hlt A _ aas' h1 rfl
          omega
      · cases bs with
        | nil =>
          simp only [List.nil_append, List.cons.injEq] at h2
          rw [h2.1] at hb0
          have a0 : e0 [lo p, 1] = lo p := rfl
          omega
        | cons x bs' =>
          simp only [List.cons_append, List.cons.injEq] at h2
          have hx : [lo p, 1] ∈ P2 := by rw [h2.2]; simp
          have := hgP2 _ hx
          have a0 : e0 [lo p, 1] = lo p := rfl
          omega
    · rcases hop with ⟨-, hall⟩ | ⟨-, P3, c, P4, e3, h3, hc1, hc0⟩
      · obtain ⟨p, hpl, hpe⟩ := hbeg
        have := hmemE p hpl (by have := hlh p hpl; omega)
        exact absurd (hall _ this) (e1_neg _)
      · have hcm : c ∈ ys := by rw [e, e3]; simp
        rcases mem_evs (hp.mem_iff.1 hcm) with ⟨q, hql, he⟩ | ⟨q, hql, he⟩
        · rw [he] at hc1; exact absurd hc1 (e1_pos _)
        · have hq0 : hi q = high := by rw [he] at hc0; exact hc0
          have hcP2 : c ∈ P2 := by rw [e3]; simp
          have hlowq : low ≤ hi q := by have := hgP2 c hcP2; omega
          refine ⟨q, hql, hq0, ?_, hlowq⟩
          apply Decidable.byContradiction
          intro hlt'
          have hx := hp.mem_iff.2 (evs_mem hql).1
          have a0 : e0 [lo q, 1] = lo q := rfl
          have a1 : e1 [lo q, 1] = 1 := rfl
          rw [e] at hx
          rcases List.mem_append.1 hx with hx | hx
          · have := hgP1 _ hx; omega
          · rcases List.mem_cons.1 hx with hx | hx
            · rw [← hx] at hb0; omega
            · rw [e3] at hx
              have hs2 : P2.Pairwise (fun x y => ltE y x = false) := by
                rw [List.pairwise_append] at hs'
                exact (List.pairwise_cons.1 hs'.2.1).2
              rw [e3] at hs2
              obtain ⟨-, d2, -⟩ := cut_sorted hs2
              rcases List.mem_append.1 hx with hx | hx
              · obtain ⟨U1, U2, eu⟩ := List.append_of_mem hx
                have h4 := hle (P1 ++ b :: U1) [lo q, 1] (U2 ++ c :: P4) (by rw [e, e3, eu]; simp) rfl
                rw [sm_append] at h4
                have h5 := sm_ones (S := U1) fun x hx => h3 x (by rw [eu]; simp [hx])
                simp only [sm, hb1] at h4
                omega
              · rcases List.mem_cons.1 hx with hx | hx
                · rw [← hx] at hc1; exact absurd hc1 (e1_pos _)
                · have := (ltE_not _ _).1 (d2 _ hx)
                  have := hlh q hql
                  omega
    · intro p hpl hlow'
      have hx := hmemE p hpl hlow'
      have a0 : e0 [hi p, -1] = hi p := rfl
      have a1 : e1 [hi p, -1] = -1 := rfl
      rcases hop with ⟨-, hall⟩ | ⟨-, P3, c, P4, e3, h3, hc1, hc0⟩
      · exact absurd (hall _ hx) (e1_neg _)
      · have hs2 : P2.Pairwise (fun x y => ltE y x = false) := by
          rw [List.pairwise_append] at hs'
          exact (List.pairwise_cons.1 hs'.2.1).2
        rw [e3] at hs2 hx
        obtain ⟨-, d2, -⟩ := cut_sorted hs2
        rcases List.mem_append.1 hx with hx | hx
        · exact absurd (h3 _ hx) (e1_neg _)
        · rcases List.mem_cons.1 hx with hx | hx
          · rw [← hx] at hc0; omega
          · have := (ltE_not _ _).1 (d2 _ hx)
            omega
theorem most_nil : sel_Most.run .lim (([] : List Peer), ()) = some (0, 0, 0, ()) := by
  have h : fitL [] := ⟨by simp, fun k hk => by simp at hk⟩
  obtain ⟨ys, hp, -, hrun⟩ := most_run h
  have : ys = [] := hp.eq_nil
  subst this
  exact hrun
end Go.AM
end
