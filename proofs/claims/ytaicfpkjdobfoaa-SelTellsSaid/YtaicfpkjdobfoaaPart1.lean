import Derived.Test.YtaicfpkjdobfoaaAm3
import Derived.Sort.AssemblyPlain
import Derived.Test.YtaicfpkjdobfoaaProg

/-! The functions that the laws of this seat reach, as plain functions, and what these answer; no condition. -/
set_option linter.unusedSimpArgs false
set_option linter.unusedVariables false

section
namespace Go.AM
/-! Plain laws of whole numbers and loops. -/
theorem wrap64 {n : Int} (h1 : -9223372036854775808 ≤ n) (h2 : n < 9223372036854775808) : IntKind.i64.wrap n = n := by
  unfold IntKind.wrap; simp [IntKind.signed, IntKind.bits]; omega
theorem cond_pos {α : Type} {c : Bool} {a b : α} (h : c = true) : (bif c then a else b) = a := by rw [h]; rfl
theorem cond_neg {α : Type} {c : Bool} {a b : α} (h : c = false) : (bif c then a else b) = b := by rw [h]; rfl
theorem cond_ite {α : Type} {p : Prop} {i : Decidable p} {a b : α} : (bif @decide p i then a else b) = if p then a else b := by
  by_cases h : p <;> simp [h]
theorem smallI_t {n : Int} (h : n < 9223372036854775808) : smallI n = true := by
  unfold smallI; rw [Nat.blt_eq]; omega
theorem inB_t {i n : Int} (h1 : 0 ≤ i) (h2 : i < n) : inB i n = true := by simp [inB, h1, h2]
theorem loop_to {α β : Type} {f : α → Option β} (st : Nat → α) {n : Nat} (h : ∀ k, k < n → f (st k) = f (st (k + 1))) : f (st 0) = f (st n) := by
  induction n with
  | zero => rfl
  | succ n ih => exact (ih fun k hk => h k (by omega)).trans (h n (by omega))
/-- Either all steps go on, or the first one that does not tells the answer. -/
theorem loop_or {α β : Type} {f : α → Option β} (st : Nat → α) {n : Nat} {c : Nat → Bool} {e : Nat → Option β} (h : ∀ k, k < n → f (st k) = bif c k then e k else f (st (k + 1))) :
    (f (st 0) = f (st n) ∧ ∀ k, k < n → c k = false) ∨ ∃ k, k < n ∧ c k = true ∧ (∀ j, j < k → c j = false) ∧ f (st 0) = e k := by
  induction n with
  | zero => exact .inl ⟨rfl, fun k hk => absurd hk (by omega)⟩
  | succ n ih =>
    rcases ih fun k hk => h k (by omega) with ⟨h1, h2⟩ | ⟨k, hk, h1⟩
    · cases hc : c n with
      | false =>
        refine .inl ⟨h1.trans ((h n (by omega)).trans (by rw [hc]; rfl)), fun k hk => ?_⟩
        rcases Nat.lt_succ_iff_lt_or_eq.1 hk with hk | rfl
        · exact h2 k hk
        · exact hc
      | true => exact .inr ⟨n, by omega, hc, h2, h1.trans ((h n (by omega)).trans (by rw [hc]; rfl))⟩
    · exact .inr ⟨k, by omega, h1⟩
/-- Sums by index. -/
def acc (g : Nat → Int) : Nat → Int
  | 0 => 0
  | k + 1 => acc g k + g k
theorem acc_bd {g : Nat → Int} {a b : Int} {n : Nat} (h : ∀ k, k < n → a ≤ g k ∧ g k ≤ b) : n * a ≤ acc g n ∧ acc g n ≤ n * b := by
  induction n with
  | zero => simp [acc]
  | succ n ih =>
    have h1 := ih fun k hk => h k (by omega)
    have h2 := h n (by omega)
    rw [acc, Int.natCast_succ, Int.add_mul, Int.add_mul]; omega
/-- Folds by index. -/
def fold {α : Type} (g : α → Nat → α) (z : α) : Nat → α
  | 0 => z
  | k + 1 => g (fold g z k) k
theorem rd_mem {α : Type} {d : α} {xs : List α} {i : Int} (h1 : 0 ≤ i) (h2 : i < xs.length) : rd d xs i ∈ xs := by
  unfold rd; rw [List.getD_eq_getElem?_getD, List.getElem?_eq_getElem (show i.toNat < xs.length by omega), Option.getD_some]; exact List.getElem_mem _
theorem mx_eq (x y : Int) : mx x y = max x y := by unfold mx; split <;> omega
theorem mn_eq (x y : Int) : mn x y = min x y := by unfold mn; split <;> omega
theorem dec_t {p : Prop} {i : Decidable p} (h : p) : @decide p i = true := decide_eq_true h
theorem dec_f {p : Prop} {i : Decidable p} (h : ¬p) : @decide p i = false := decide_eq_false h
theorem dec_not {p : Prop} {i : Decidable p} : (!@decide p i) = decide (¬p) := by by_cases h : p <;> simp [h]
theorem dec_and {p q : Prop} {i : Decidable p} {j : Decidable q} : (@decide p i && @decide q j) = decide (p ∧ q) := by by_cases h : p <;> simp [h]
theorem dec_or {p q : Prop} {i : Decidable p} {j : Decidable q} : (@decide p i || @decide q j) = decide (p ∨ q) := by by_cases h : p <;> simp [h]
theorem cutB_t {l h n : Int} (h1 : 0 ≤ l) (h2 : l ≤ h) (h3 : h ≤ n) : cutB l h n = true := by simp [cutB, h1, h2, h3]
theorem fold_min_first {g : Nat → Int} {z : Int} (h : g 0 ≤ z) {n : Nat} (hn : 0 < n) : fold (fun r i => min r (g i)) (g 0) n = fold (fun r i => min r (g i)) z n := by
  have key : ∀ k, fold (fun r i => min r (g i)) (g 0) k = min (g 0) (fold (fun r i => min r (g i)) z k) ∧ (0 < k → fold (fun r i => min r (g i)) z k ≤ g 0) := by
    intro k
    induction k with
    | zero => refine ⟨?_, fun h => absurd h (by omega)⟩; show g 0 = min (g 0) z; omega
    | succ k ih =>
      show min (fold (fun r i => min r (g i)) (g 0) k) (g k) = min (g 0) (min (fold (fun r i => min r (g i)) z k) (g k)) ∧ (0 < k + 1 → min (fold (fun r i => min r (g i)) z k) (g k) ≤ g 0)
      refine ⟨by omega, fun _ => ?_⟩
      by_cases hk : k = 0
      · subst hk; omega
      · have := ih.2 (by omega); omega
  have := key n
  have := this.2 hn
  omega
theorem rd_ix {α : Type} {d : α} {xs : List α} {k : Nat} (h : k < xs.length) : rd d xs (k : Int) = xs[k] := by
  unfold rd; rw [Int.toNat_natCast, List.getD_eq_getElem?_getD, List.getElem?_eq_getElem h, Option.getD_some]
theorem rd_take {α : Type} {d : α} {xs : List α} {n k : Nat} (hk : k < n) : rd d (xs.take n) (k : Int) = rd d xs (k : Int) := by
  unfold rd; rw [Int.toNat_natCast, List.getD_eq_getElem?_getD, List.getD_eq_getElem?_getD, List.getElem?_take_of_lt hk]
theorem take_rd {α : Type} {d : α} {xs : List α} {k : Nat} (h : k < xs.length) : xs.take (k + 1) = xs.take k ++ [rd d xs (k : Int)] := by
  rw [rd_ix h, List.take_succ_eq_append_getElem h]
/-- A row without the one at a place. -/
def dropAt {α : Type} (xs : List α) (w : Nat) : List α := xs.take w ++ xs.drop (w + 1)
theorem dropAt_length {α : Type} {xs : List α} {w : Nat} (h : w < xs.length) : (dropAt xs w).length = xs.length - 1 := by
  unfold dropAt; rw [List.length_append, List.length_take, List.length_drop]; omega
theorem dropAt_mem {α : Type} {xs : List α} {w : Nat} {x : α} (h : x ∈ dropAt xs w) : x ∈ xs := by
  unfold dropAt at h
  rcases List.mem_append.1 h with h | h
  · exact List.mem_of_mem_take h
  · exact List.mem_of_mem_drop h
theorem dropAt_map {α β : Type} (f : α → β) (xs : List α) (w : Nat) : (dropAt xs w).map f = dropAt (xs.map f) w := by
  unfold dropAt; rw [List.map_append, List.map_take, List.map_drop]
/-- Deleting in place. -/
theorem del_ok {α : Type} {m : List α} {n w : Nat} {z : α} (hn : n ≤ m.length) (hw : w < n) {i1 i2 i3 i4 i5 i6 : Nat} (h1 : i1 = w) (h2 : i2 = w + 1) (h3 : i3 = n - (w + 1)) (h4 : i4 = n - 1) (h5 : i5 = n - 1) (h6 : i6 ≤ 1) :
    (splice (m.take i1 ++ ((m.drop i2).take i3 ++ m.drop i4)) i5 (List.replicate i6 z)).take (n - 1) = dropAt (m.take n) w ∧ (splice (m.take i1 ++ ((m.drop i2).take i3 ++ m.drop i4)) i5 (List.replicate i6 z)).length = m.length := by
  subst h1 h2 h3 h4 h5
  have e : (m.take i1 ++ ((m.drop (i1 + 1)).take (n - (i1 + 1)) ++ m.drop (n - 1))) = dropAt (m.take n) i1 ++ m.drop (n - 1) := by
    unfold dropAt
    rw [List.take_take, Nat.min_eq_left (by omega), List.drop_take, List.append_assoc]
  have hl : (dropAt (m.take n) i1).length = n - 1 := by rw [dropAt_length (by rw [List.length_take]; omega), List.length_take]; omega
  rw [e]
  unfold splice
  constructor
  · rw [List.take_append_of_le_length (by rw [List.length_take, List.length_append]; omega), List.take_take, Nat.min_self, List.take_append_of_le_length (by omega), List.take_of_length_le (by omega)]
  · simp only [List.length_append, List.length_take, List.length_drop, List.length_replicate, hl]
    omega
end Go.AM
end
section
namespace Go.AM
/-! Rows as arrays. -/
theorem rdA {α : Type} [Inhabited α] {z : α} {d : Array α} {i : Int} {k : Nat} (h : i = k) (hk : k < d.size) : rd z d.toList i = d[k]! := by
  subst h
  rw [rd_ix (by simpa using hk), Array.getElem_toList, getElem!_pos d k hk]
theorem setA {α : Type} {d : Array α} {i : Nat} {v : α} : d.toList.set i v = (d.setIfInBounds i v).toList := by simp
theorem swp_size {α : Type} [Inhabited α] (d : Array α) (i j : Nat) : (Go.Sort.swp d i j).size = d.size := by simp [Go.Sort.swp]
theorem sizeA {α : Type} {d : Array α} : (d.toList.length : Int) = (d.size : Int) := by simp
theorem swB {α : Type} [Inhabited α] {d : Array α} {i j : Nat} {i1 j2 : Int} (e1 : i1 = i) (f2 : j2 = j) :
    (d.toList.set i1.toNat d[j]!).set j2.toNat d[i]! = (Go.Sort.swp d i j).toList := by
  rw [setA, setA, e1, f2]; rfl
theorem lenOK_some {α γ : Type} {xs ys : List α} {g : γ} (h : ys.length = xs.length) : lenOK xs (some (g, ys)) = some (g, ys) := by
  unfold lenOK; simp [h]
end Go.AM
end
section
namespace Go.AM
open Go.Proofs
noncomputable abbrev P := Try.prog
universe u
theorem all_nil {α : Type u} {p : α → Prop} : ∀ k ∈ ([] : List α), p k := fun k h => nomatch h
theorem all_cons {α : Type u} {p : α → Prop} {a : α} {l : List α} (h : p a) (k : ∀ x ∈ l, p x) : ∀ x ∈ a :: l, p x := fun x hx => by
  rcases List.mem_cons.1 hx with rfl | hx
  · exact h
  · exact k x hx
set_option maxRecDepth 100000
set_option linter.unusedVariables false
/-! ### pendulum/pendulumref29.within -/
noncomputable def pendulumref29_within.cs (m_ : Mode) : List Callee := []
theorem pendulumref29_within.csok (m_ : Mode) : ∀ k ∈ pendulumref29_within.cs m_, k.OK P := all_nil
def pendulumref29_within.inl : FuncId → Bool := fun f => [].any (Nat.beq f)
noncomputable def pendulumref29_within.run (m_ : Mode) : Int × Int × Int × Unit → Option (Bool) := fun v_ => match v_ with
| (n, low, high, ()) =>
  some ((decide (n ≥ low)) && (decide (n ≤ high)))
noncomputable def pendulumref29_within.c (m_ : Mode) : Callee := ⟨19, [.one (.int .i64), .one (.int .i64), .one (.int .i64)], .one (.sh (.one .bool)), pendulumref29_within.run m_⟩
theorem pendulumref29_within.k (m_ : Mode) : ∀ v : Shs (pendulumref29_within.c m_).args, runS P (oras (pendulumref29_within.cs m_)) pendulumref29_within.inl [] [] (pendulumref29_within.c m_).res.fin 20000 false (start 19 (encs (pendulumref29_within.c m_).args v)) = pendulumref29_within.run m_ v := by
  intro v_; exact (match v_ with | (n, low, high, ()) => by kernel_rfl)
theorem pendulumref29_within.ok (m_ : Mode) : (pendulumref29_within.c m_).OK P := Callee.of_run (fun S0 w0 => (oras_ok (pendulumref29_within.csok m_))) (by kernel_rfl) (by rfl) (fun S0 w0 cs0 => all_nil) (fun x r h => (pendulumref29_within.k m_ x).trans h)

/-! ### pendulum/pendulumref29.Fit -/
noncomputable def pendulumref29_Fit.cs (m_ : Mode) : List Callee := [pendulumref29_within.c m_]
theorem pendulumref29_Fit.csok (m_ : Mode) : ∀ k ∈ pendulumref29_Fit.cs m_, k.OK P := all_cons (pendulumref29_within.ok m_) (all_nil)
def pendulumref29_Fit.inl : FuncId → Bool := fun f => [].any (Nat.beq f)
def pendulumref29_Fit.e0 : Spec := ⟨[{ fn := 7, items := [.code [.r, .r, .l, .r, .l, .l], .inLoop [.r, .r, .l, .r, .l, .l], .inBlock 0, .code [.r, .r, .r]], slots := [(0, .dat (.lst (.pair (.int .i64) (.pair (.int .i64) (.int .i64))))), (3, .dat (.int .i64))] }], [], 0⟩
def pendulumref29_Fit.x0 : List Spec := [⟨[{ fn := 7, items := [.code [.r, .r, .l, .r, .l, .l, .r, .l, .l, .r, .l, .r], .inBlock 1, .code [.r, .r, .l, .r, .l, .l, .r, .r], .inLoop [.r, .r, .l, .r, .l, .l], .inBlock 0, .code [.r, .r, .r]], slots := [(2, .dat .bool)] }], [], 0⟩, ⟨[{ fn := 7, items := [.code [.r, .r, .r]], slots := [] }], [], 0⟩]
noncomputable def pendulumref29_Fit.b0 (m_ : Mode) (self : (List (Int × (Int × Int))) × Int × Unit → Option ((Bool × Unit) ⊕ (Unit))) : (List (Int × (Int × Int))) × Int × Unit → Option ((Bool × Unit) ⊕ (Unit)) := fun v_ => match v_ with
| (l, i, ()) =>
  bif smallI (l.length : Int) then
  bif decide (i < (l.length : Int)) then
    bif inB i (l.length : Int) then
    (pendulumref29_within.run m_ ((rd ((0 : Int), ((0 : Int), (0 : Int))) l i).1, (-140737488355328 : Int), (140737488355328 : Int), ())).bind fun r =>
    bif (!!!r || (inB i (l.length : Int))) then
    ((bif !!r then pendulumref29_within.run m_ (((rd ((0 : Int), ((0 : Int), (0 : Int))) l i).2).1, (0 : Int), (140737488355328 : Int), ()) else some false)).bind fun r1 =>
    bif ((!(!(!r || !r1))) || (inB i (l.length : Int))) then
    ((bif !(!r || !r1) then pendulumref29_within.run m_ (((rd ((0 : Int), ((0 : Int), (0 : Int))) l i).2).2, (0 : Int), (140737488355328 : Int), ()) else some false)).bind fun r2 =>
    bif ((!r || !r1) || !r2) then
      some (.inl (false, ()))
    else
      self (l, (IntKind.i64.wrap (i + (1 : Int))), ())
    else none
    else none
    else none
  else
    some (.inr (()))
  else none
theorem pendulumref29_Fit.k0 (m_ : Mode) : ∀ (self : Known pendulumref29_Fit.e0.sls → Option (Exits pendulumref29_Fit.x0)) (v : Known pendulumref29_Fit.e0.sls), runS P (oras (pendulumref29_Fit.cs m_)) pendulumref29_Fit.inl (⟨pendulumref29_Fit.e0, self⟩ :: exitCuts pendulumref29_Fit.x0 id) [] (fun _ _ => none) 20000 false (pendulumref29_Fit.e0.mk' v) = pendulumref29_Fit.b0 m_ self v := by
  intro self v_; exact (match v_ with | (l, i, ()) => by kernel_rfl)
noncomputable def pendulumref29_Fit.l0 (m_ : Mode) : (List (Int × (Int × Int))) × Int × Unit → Option ((Bool × Unit) ⊕ (Unit)) := loop m_ (pendulumref29_Fit.b0 m_)
theorem pendulumref29_Fit.q0 (v) : pendulumref29_Fit.l0 .lim v = pendulumref29_Fit.b0 .lim (pendulumref29_Fit.l0 .lim) v := lfp_eq (cont_of_run (pendulumref29_Fit.k0 .lim)) v
noncomputable def pendulumref29_Fit.g0 (m_ : Mode) : Seg := ⟨pendulumref29_Fit.e0, pendulumref29_Fit.x0, pendulumref29_Fit.l0 m_⟩
theorem pendulumref29_Fit.s0 (m_ : Mode) (S0 w0 cs0) : SegGood P S0 w0 cs0 7 (pendulumref29_Fit.g0 m_) := seg_loop m_ (oras_ok (pendulumref29_Fit.csok m_)) (all_nil) (by rfl) (fun e he => List.all_eq_true.1 (show pendulumref29_Fit.x0.all Spec.ok = true by rfl) e he) (pendulumref29_Fit.k0 m_)
noncomputable def pendulumref29_Fit.run (m_ : Mode) : (List (Int × (Int × Int))) × Unit → Option (Bool) := fun v_ => match v_ with
| (l, ()) =>
  bif smallI (l.length : Int) then
  bif decide ((l.length : Int) > (10 : Int)) then
    some false
  else
    (pendulumref29_Fit.l0 m_ (l, (0 : Int), ())).bind fun g_ => match g_ with
    | .inl (t, ()) =>
      some t
    | .inr (()) =>
      some true
  else none
noncomputable def pendulumref29_Fit.c (m_ : Mode) : Callee := ⟨7, [.one (.lst (.pair (.int .i64) (.pair (.int .i64) (.int .i64))))], .one (.sh (.one .bool)), pendulumref29_Fit.run m_⟩
theorem pendulumref29_Fit.k (m_ : Mode) : ∀ v : Shs (pendulumref29_Fit.c m_).args, runS P (oras (pendulumref29_Fit.cs m_)) pendulumref29_Fit.inl [] [pendulumref29_Fit.g0 m_] (pendulumref29_Fit.c m_).res.fin 20000 false (start 7 (encs (pendulumref29_Fit.c m_).args v)) = pendulumref29_Fit.run m_ v := by
  intro v_; exact (match v_ with | (l, ()) => by kernel_rfl)
theorem pendulumref29_Fit.ok (m_ : Mode) : (pendulumref29_Fit.c m_).OK P := Callee.of_run (fun S0 w0 => (oras_ok (pendulumref29_Fit.csok m_))) (by kernel_rfl) (by rfl) (fun S0 w0 cs0 => all_cons (pendulumref29_Fit.s0 m_ S0 w0 cs0) (all_nil)) (fun x r h => (pendulumref29_Fit.k m_ x).trans h)

/-! ### pendulum/sel.Reach -/
noncomputable def sel_Reach.cs (m_ : Mode) : List Callee := []
theorem sel_Reach.csok (m_ : Mode) : ∀ k ∈ sel_Reach.cs m_, k.OK P := all_nil
def sel_Reach.inl : FuncId → Bool := fun f => [].any (Nat.beq f)
noncomputable def sel_Reach.run (m_ : Mode) : (Int × (Int × Int)) × Unit → Option (Int × Int × Unit) := fun v_ => match v_ with
| (p, ()) =>
  some ((IntKind.i64.wrap (p.1 - p.2.1)), (IntKind.i64.wrap (p.1 + p.2.1)), ())
noncomputable def sel_Reach.c (m_ : Mode) : Callee := ⟨16, [.ag (.pair (.int .i64) (.pair (.int .i64) (.int .i64)))], .tup [.sh (.one (.int .i64)), .sh (.one (.int .i64))], sel_Reach.run m_⟩
theorem sel_Reach.k (m_ : Mode) : ∀ v : Shs (sel_Reach.c m_).args, runS P (oras (sel_Reach.cs m_)) sel_Reach.inl [] [] (sel_Reach.c m_).res.fin 20000 false (start 16 (encs (sel_Reach.c m_).args v)) = sel_Reach.run m_ v := by
  intro v_; exact (match v_ with | (p, ()) => by kernel_rfl)
theorem sel_Reach.ok (m_ : Mode) : (sel_Reach.c m_).OK P := Callee.of_run (fun S0 w0 => (oras_ok (sel_Reach.csok m_))) (by kernel_rfl) (by rfl) (fun S0 w0 cs0 => all_nil) (fun x r h => (sel_Reach.k m_ x).trans h)

/-! ### math/bits.Len64 -/
noncomputable def math_bits_Len64.cs (m_ : Mode) : List Callee := []
theorem math_bits_Len64.csok (m_ : Mode) : ∀ k ∈ math_bits_Len64.cs m_, k.OK P := all_nil
def math_bits_Len64.inl : FuncId → Bool := fun f => [].any (Nat.beq f)
noncomputable def math_bits_Len64.run (m_ : Mode) : Int × Unit → Option (Int) := fun v_ => match v_ with
| (x, ()) =>
  bif decide (x ≥ (4294967296 : Int)) then
    bif decide ((ishr .u64 x (32 : Int)) ≥ (65536 : Int)) then
      bif decide ((ishr .u64 (ishr .u64 x (32 : Int)) (16 : Int)) ≥ (256 : Int)) then
        bif inB (IntKind.u8.wrap (ishr .u64 (ishr .u64 (ishr .u64 x (32 : Int)) (16 : Int)) (8 : Int))) (([0, 1, 2, 2, 3, 3, 3, 3, 4, 4, 4, 4, 4, 4, 4, 4, 5, 5, 5, 5, 5, 5, 5, 5, 5, 5, 5, 5, 5, 5, 5, 5, 6, 6, 6, 6, 6, 6, 6, 6, 6, 6, 6, 6, 6, 6, 6, 6, 6, 6, 6, 6, 6, 6, 6, 6, 6, 6, 6, 6, 6, 6, 6, 6, 7, 7, 7, 7, 7, 7, 7, 7, 7, 7, 7, 7, 7, 7, 7, 7, 7, 7, 7, 7, 7, 7, 7, 7, 7, 7, 7, 7, 7, 7, 7, 7, 7, 7, 7, 7, 7, 7, 7, 7, 7, 7, 7, 7, 7, 7, 7, 7, 7, 7, 7, 7, 7, 7, 7, 7, 7, 7, 7, 7, 7, 7, 7, 7, 8, 8, 8, 8, 8, 8, 8, 8, 8, 8, 8, 8, 8, 8, 8, 8, 8, 8, 8, 8, 8, 8, 8, 8, 8, 8, 8, 8, 8, 8, 8, 8, 8, 8, 8, 8, 8, 8, 8, 8, 8, 8, 8, 8, 8, 8, 8, 8, 8, 8, 8, 8, 8, 8, 8, 8, 8, 8, 8, 8, 8, 8, 8, 8, 8, 8, 8, 8, 8, 8, 8, 8, 8, 8, 8, 8, 8, 8, 8, 8, 8, 8, 8, 8, 8, 8, 8, 8, 8, 8, 8, 8, 8, 8, 8, 8, 8, 8, 8, 8, 8, 8, 8, 8, 8, 8, 8, 8, 8, 8, 8, 8, 8, 8, 8, 8, 8, 8, 8, 8, 8, 8, 8, 8, 8, 8, 8, 8] : List Int).length : Int) then some (IntKind.i64.wrap ((56 : Int) + (IntKind.i64.wrap (rd (0 : Int) ([0, 1, 2, 2, 3, 3, 3, 3, 4, 4, 4, 4, 4, 4, 4, 4, 5, 5, 5, 5, 5, 5, 5, 5, 5, 5, 5, 5, 5, 5, 5, 5, 6, 6, 6, 6, 6, 6, 6, 6, 6, 6, 6, 6, 6, 6, 6, 6, 6, 6, 6, 6, 6, 6, 6, 6, 6, 6, 6, 6, 6, 6, 6, 6, 7, 7, 7, 7, 7, 7, 7, 7, 7, 7, 7, 7, 7, 7, 7, 7, 7, 7, 7, 7, 7, 7, 7, 7, 7, 7, 7, 7, 7, 7, 7, 7, 7, 7, 7, 7, 7, 7, 7, 7, 7, 7, 7, 7, 7, 7, 7, 7, 7, 7, 7, 7, 7, 7, 7, 7, 7, 7, 7, 7, 7, 7, 7, 7, 8, 8, 8, 8, 8, 8, 8, 8, 8, 8, 8, 8, 8, 8, 8, 8, 8, 8, 8, 8, 8, 8, 8, 8, 8, 8, 8, 8, 8, 8, 8, 8, 8, 8, 8, 8, 8, 8, 8, 8, 8, 8, 8, 8, 8, 8, 8, 8, 8, 8, 8, 8, 8, 8, 8, 8, 8, 8, 8, 8, 8, 8, 8, 8, 8, 8, 8, 8, 8, 8, 8, 8, 8, 8, 8, 8, 8, 8, 8, 8, 8, 8, 8, 8, 8, 8, 8, 8, 8, 8, 8, 8, 8, 8, 8, 8, 8, 8, 8, 8, 8, 8, 8, 8, 8, 8, 8, 8, 8, 8, 8, 8, 8, 8, 8, 8, 8, 8, 8, 8, 8, 8, 8, 8, 8, 8, 8, 8] : List Int) (IntKind.u8.wrap (ishr .u64 (ishr .u64 (ishr .u64 x (32 : Int)) (16 : Int)) (8 : Int))))))) else none
      else
        bif inB (IntKind.u8.wrap (ishr .u64 (ishr .u64 x (32 : Int)) (16 : Int))) (([0, 1, 2, 2, 3, 3, 3, 3, 4, 4, 4, 4, 4, 4, 4, 4, 5, 5, 5, 5, 5, 5, 5, 5, 5, 5, 5, 5, 5, 5, 5, 5, 6, 6, 6, 6, 6, 6, 6, 6, 6, 6, 6, 6, 6, 6, 6, 6, 6, 6, 6, 6, 6, 6, 6, 6, 6, 6, 6, 6, 6, 6, 6, 6, 7, 7, 7, 7, 7, 7, 7, 7, 7, 7, 7, 7, 7, 7, 7, 7, 7, 7, 7, 7, 7, 7, 7, 7, 7, 7, 7, 7, 7, 7, 7, 7, 7, 7, 7, 7, 7, 7, 7, 7, 7, 7, 7, 7, 7, 7, 7, 7, 7, 7, 7, 7, 7, 7, 7, 7, 7, 7, 7, 7, 7, 7, 7, 7, 8, 8, 8, 8, 8, 8, 8, 8, 8, 8, 8, 8, 8, 8, 8, 8, 8, 8, 8, 8, 8, 8, 8, 8, 8, 8, 8, 8, 8, 8, 8, 8, 8, 8, 8, 8, 8, 8, 8, 8, 8, 8, 8, 8, 8, 8, 8, 8, 8, 8, 8, 8, 8, 8, 8, 8, 8, 8, 8, 8, 8, 8, 8, 8, 8, 8, 8, 8, 8, 8, 8, 8, 8, 8, 8, 8, 8, 8, 8, 8, 8, 8, 8, 8, 8, 8, 8, 8, 8, 8, 8, 8, 8, 8, 8, 8, 8, 8, 8, 8, 8, 8, 8, 8, 8, 8, 8, 8, 8, 8, 8, 8, 8, 8, 8, 8, 8, 8, 8, 8, 8, 8, 8, 8, 8, 8, 8, 8] : List Int).length : Int) then some (IntKind.i64.wrap ((48 : Int) + (IntKind.i64.wrap (rd (0 : Int) ([0, 1, 2, 2, 3, 3, 3, 3, 4, 4, 4, 4, 4, 4, 4, 4, 5, 5, 5, 5, 5, 5, 5, 5, 5, 5, 5, 5, 5, 5, 5, 5, 6, 6, 6, 6, 6, 6, 6, 6, 6, 6, 6, 6, 6, 6, 6, 6, 6, 6, 6, 6, 6, 6, 6, 6, 6, 6, 6, 6, 6, 6, 6, 6, 7, 7, 7, 7, 7, 7, 7, 7, 7, 7, 7, 7, 7, 7, 7, 7, 7, 7, 7, 7, 7, 7, 7, 7, 7, 7, 7, 7, 7, 7, 7, 7, 7, 7, 7, 7, 7, 7, 7, 7, 7, 7, 7, 7, 7, 7, 7, 7, 7, 7, 7, 7, 7, 7, 7, 7, 7, 7, 7, 7, 7, 7, 7, 7, 8, 8, 8, 8, 8, 8, 8, 8, 8, 8, 8, 8, 8, 8, 8, 8, 8, 8, 8, 8, 8, 8, 8, 8, 8, 8, 8, 8, 8, 8, 8, 8, 8, 8, 8, 8, 8, 8, 8, 8, 8, 8, 8, 8, 8, 8, 8, 8, 8, 8, 8, 8, 8, 8, 8, 8, 8, 8, 8, 8, 8, 8, 8, 8, 8, 8, 8, 8, 8, 8, 8, 8, 8, 8, 8, 8, 8, 8, 8, 8, 8, 8, 8, 8, 8, 8, 8, 8, 8, 8, 8, 8, 8, 8, 8, 8, 8, 8, 8, 8, 8, 8, 8, 8, 8, 8, 8, 8, 8, 8, 8, 8, 8, 8, 8, 8, 8, 8, 8, 8, 8, 8, 8, 8, 8, 8, 8, 8] : List Int) (IntKind.u8.wrap (ishr .u64 (ishr .u64 x (32 : Int)) (16 : Int))))))) else none
    else
      bif decide ((ishr .u64 x (32 : Int)) ≥ (256 : Int)) then
        bif inB (IntKind.u8.wrap (ishr .u64 (ishr .u64 x (32 : Int)) (8 : Int))) (([0, 1, 2, 2, 3, 3, 3, 3, 4, 4, 4, 4, 4, 4, 4, 4, 5, 5, 5, 5, 5, 5, 5, 5, 5, 5, 5, 5, 5, 5, 5, 5, 6, 6, 6, 6, 6, 6, 6, 6, 6, 6, 6, 6, 6, 6, 6, 6, 6, 6, 6, 6, 6, 6, 6, 6, 6, 6, 6, 6, 6, 6, 6, 6, 7, 7, 7, 7, 7, 7, 7, 7, 7, 7, 7, 7, 7, 7, 7, 7, 7, 7, 7, 7, 7, 7, 7, 7, 7, 7, 7, 7, 7, 7, 7, 7, 7, 7, 7, 7, 7, 7, 7, 7, 7, 7, 7, 7, 7, 7, 7, 7, 7, 7, 7, 7, 7, 7, 7, 7, 7, 7, 7, 7, 7, 7, 7, 7, 8, 8, 8, 8, 8, 8, 8, 8, 8, 8, 8, 8, 8, 8, 8, 8, 8, 8, 8, 8, 8, 8, 8, 8, 8, 8, 8, 8, 8, 8, 8, 8, 8, 8, 8, 8, 8, 8, 8, 8, 8, 8, 8, 8, 8, 8, 8, 8, 8, 8, 8, 8, 8, 8, 8, 8, 8, 8, 8, 8, 8, 8, 8, 8, 8, 8, 8, 8, 8, 8, 8, 8, 8, 8, 8, 8, 8, 8, 8, 8, 8, 8, 8, 8, 8, 8, 8, 8, 8, 8, 8, 8, 8, 8, 8, 8, 8, 8, 8, 8, 8, 8, 8, 8, 8, 8, 8, 8, 8, 8, 8, 8, 8, 8, 8, 8, 8, 8, 8, 8, 8, 8, 8, 8, 8, 8, 8, 8] : List Int).length : Int) then some (IntKind.i64.wrap ((40 : Int) + (IntKind.i64.wrap (rd (0 : Int) ([0, 1, 2, 2, 3, 3, 3, 3, 4, 4, 4, 4, 4, 4, 4, 4, 5, 5, 5, 5, 5, 5, 5, 5, 5, 5, 5, 5, 5, 5, 5, 5, 6, 6, 6, 6, 6, 6, 6, 6, 6, 6, 6, 6, 6, 6, 6, 6, 6, 6, 6, 6, 6, 6, 6, 6, 6, 6, 6, 6, 6, 6, 6, 6, 7, 7, 7, 7, 7, 7, 7, 7, 7, 7, 7, 7, 7, 7, 7, 7, 7, 7, 7, 7, 7, 7, 7, 7, 7, 7, 7, 7, 7, 7, 7, 7, 7, 7, 7, 7, 7, 7, 7, 7, 7, 7, 7, 7, 7, 7, 7, 7, 7, 7, 7, 7, 7, 7, 7, 7, 7, 7, 7, 7, 7, 7, 7, 7, 8, 8, 8, 8, 8, 8, 8, 8, 8, 8, 8, 8, 8, 8, 8, 8, 8, 8, 8, 8, 8, 8, 8, 8, 8, 8, 8, 8, 8, 8, 8, 8, 8, 8, 8, 8, 8, 8, 8, 8, 8, 8, 8, 8, 8, 8, 8, 8, 8, 8, 8, 8, 8, 8, 8, 8, 8, 8, 8, 8, 8, 8, 8, 8, 8, 8, 8, 8, 8, 8, 8, 8, 8, 8, 8, 8, 8, 8, 8, 8, 8, 8, 8, 8, 8, 8, 8, 8, 8, 8, 8, 8, 8, 8, 8, 8, 8, 8, 8, 8, 8, 8, 8, 8, 8, 8, 8, 8, 8, 8, 8, 8, 8, 8, 8, 8, 8, 8, 8, 8, 8, 8, 8, 8, 8, 8, 8, 8] : List Int) (IntKind.u8.wrap (ishr .u64 (ishr .u64 x (32 : Int)) (8 : Int))))))) else none
      else
        bif inB (IntKind.u8.wrap (ishr .u64 x (32 : Int))) (([0, 1, 2, 2, 3, 3, 3, 3, 4, 4, 4, 4, 4, 4, 4, 4, 5, 5, 5, 5, 5, 5, 5, 5, 5, 5, 5, 5, 5, 5, 5, 5, 6, 6, 6, 6, 6, 6, 6, 6, 6, 6, 6, 6, 6, 6, 6, 6, 6, 6, 6, 6, 6, 6, 6, 6, 6, 6, 6, 6, 6, 6, 6, 6, 7, 7, 7, 7, 7, 7, 7, 7, 7, 7, 7, 7, 7, 7, 7, 7, 7, 7, 7, 7, 7, 7, 7, 7, 7, 7, 7, 7, 7, 7, 7, 7, 7, 7, 7, 7, 7, 7, 7, 7, 7, 7, 7, 7, 7, 7, 7, 7, 7, 7, 7, 7, 7, 7, 7, 7, 7, 7, 7, 7, 7, 7, 7, 7, 8, 8, 8, 8, 8, 8, 8, 8, 8, 8, 8, 8, 8, 8, 8, 8, 8, 8, 8, 8, 8, 8, 8, 8, 8, 8, 8, 8, 8, 8, 8, 8, 8, 8, 8, 8, 8, 8, 8, 8, 8, 8, 8, 8, 8, 8, 8, 8, 8, 8, 8, 8, 8, 8, 8, 8, 8, 8, 8, 8, 8, 8, 8, 8, 8, 8, 8, 8, 8, 8, 8, 8, 8, 8, 8, 8, 8, 8, 8, 8, 8, 8, 8, 8, 8, 8, 8, 8, 8, 8, 8, 8, 8, 8, 8, 8, 8, 8, 8, 8, 8, 8, 8, 8, 8, 8, 8, 8, 8, 8, 8, 8, 8, 8, 8, 8, 8, 8, 8, 8, 8, 8, 8, 8, 8, 8, 8, 8] : List Int).length : Int) then some (IntKind.i64.wrap ((32 : Int) + (IntKind.i64.wrap (rd (0 : Int) ([0, 1, 2, 2, 3, 3, 3, 3, 4, 4, 4, 4, 4, 4, 4, 4, 5, 5, 5, 5, 5, 5, 5, 5, 5, 5, 5, 5, 5, 5, 5, 5, 6, 6, 6, 6, 6, 6, 6, 6, 6, 6, 6, 6, 6, 6, 6, 6, 6, 6, 6, 6, 6, 6, 6, 6, 6, 6, 6, 6, 6, 6, 6, 6, 7, 7, 7, 7, 7, 7, 7, 7, 7, 7, 7, 7, 7, 7, 7, 7, 7, 7, 7, 7, 7, 7, 7, 7, 7, 7, 7, 7, 7, 7, 7, 7, 7, 7, 7, 7, 7, 7, 7, 7, 7, 7, 7, 7, 7, 7, 7, 7, 7, 7, 7, 7, 7, 7, 7, 7, 7, 7, 7, 7, 7, 7, 7, 7, 8, 8, 8, 8, 8, 8, 8, 8, 8, 8, 8, 8, 8, 8, 8, 8, 8, 8, 8, 8, 8, 8, 8, 8, 8, 8, 8, 8, 8, 8, 8, 8, 8, 8, 8, 8, 8, 8, 8, 8, 8, 8, 8, 8, 8, 8, 8, 8, 8, 8, 8, 8, 8, 8, 8, 8, 8, 8, 8, 8, 8, 8, 8, 8, 8, 8, 8, 8, 8, 8, 8, 8, 8, 8, 8, 8, 8, 8, 8, 8, 8, 8, 8, 8, 8, 8, 8, 8, 8, 8, 8, 8, 8, 8, 8, 8, 8, 8, 8, 8, 8, 8, 8, 8, 8, 8, 8, 8, 8, 8, 8, 8, 8, 8, 8, 8, 8, 8, 8, 8, 8, 8, 8, 8, 8, 8, 8, 8] : List Int) (IntKind.u8.wrap (ishr .u64 x (32 : Int))))))) else none
  else
    bif decide (x ≥ (65536 : Int)) then
      bif decide ((ishr .u64 x (16 : Int)) ≥ (256 : Int)) then
        bif inB (IntKind.u8.wrap (ishr .u64 (ishr .u64 x (16 : Int)) (8 : Int))) (([0, 1, 2, 2, 3, 3, 3, 3, 4, 4, 4, 4, 4, 4, 4, 4, 5, 5, 5, 5, 5, 5, 5, 5, 5, 5, 5, 5, 5, 5, 5, 5, 6, 6, 6, 6, 6, 6, 6, 6, 6, 6, 6, 6, 6, 6, 6, 6, 6, 6, 6, 6, 6, 6, 6, 6, 6, 6, 6, 6, 6, 6, 6, 6, 7, 7, 7, 7, 7, 7, 7, 7, 7, 7, 7, 7, 7, 7, 7, 7, 7, 7, 7, 7, 7, 7, 7, 7, 7, 7, 7, 7, 7, 7, 7, 7, 7, 7, 7, 7, 7, 7, 7, 7, 7, 7, 7, 7, 7, 7, 7, 7, 7, 7, 7, 7, 7, 7, 7, 7, 7, 7, 7, 7, 7, 7, 7, 7, 8, 8, 8, 8, 8, 8, 8, 8, 8, 8, 8, 8, 8, 8, 8, 8, 8, 8, 8, 8, 8, 8, 8, 8, 8, 8, 8, 8, 8, 8, 8, 8, 8, 8, 8, 8, 8, 8, 8, 8, 8, 8, 8, 8, 8, 8, 8, 8, 8, 8, 8, 8, 8, 8, 8, 8, 8, 8, 8, 8, 8, 8, 8, 8, 8, 8, 8, 8, 8, 8, 8, 8, 8, 8, 8, 8, 8, 8, 8, 8, 8, 8, 8, 8, 8, 8, 8, 8, 8, 8, 8, 8, 8, 8, 8, 8, 8, 8, 8, 8, 8, 8, 8, 8, 8, 8, 8, 8, 8, 8, 8, 8, 8, 8, 8, 8, 8, 8, 8, 8, 8, 8, 8, 8, 8, 8, 8, 8] : List Int).length : Int) then some (IntKind.i64.wrap ((24 : Int) + (IntKind.i64.wrap (rd (0 : Int) ([0, 1, 2, 2, 3, 3, 3, 3, 4, 4, 4, 4, 4, 4, 4, 4, 5, 5, 5, 5, 5, 5, 5, 5, 5, 5, 5, 5, 5, 5, 5, 5, 6, 6, 6, 6, 6, 6, 6, 6, 6, 6, 6, 6, 6, 6, 6, 6, 6, 6, 6, 6, 6, 6, 6, 6, 6, 6, 6, 6, 6, 6, 6, 6, 7, 7, 7, 7, 7, 7, 7, 7, 7, 7, 7, 7, 7, 7, 7, 7, 7, 7, 7, 7, 7, 7, 7, 7, 7, 7, 7, 7, 7, 7, 7, 7, 7, 7, 7, 7, 7, 7, 7, 7, 7, 7, 7, 7, 7, 7, 7, 7, 7, 7, 7, 7, 7, 7, 7, 7, 7, 7, 7, 7, 7, 7, 7, 7, 8, 8, 8, 8, 8, 8, 8, 8, 8, 8, 8, 8, 8, 8, 8, 8, 8, 8, 8, 8, 8, 8, 8, 8, 8, 8, 8, 8, 8, 8, 8, 8, 8, 8, 8, 8, 8, 8, 8, 8, 8, 8, 8, 8, 8, 8, 8, 8, 8, 8, 8, 8, 8, 8, 8, 8, 8, 8, 8, 8, 8, 8, 8, 8, 8, 8, 8, 8, 8, 8, 8, 8, 8, 8, 8, 8, 8, 8, 8, 8, 8, 8, 8, 8, 8, 8, 8, 8, 8, 8, 8, 8, 8, 8, 8, 8, 8, 8, 8, 8, 8, 8, 8, 8, 8, 8, 8, 8, 8, 8, 8, 8, 8, 8, 8, 8, 8, 8, 8, 8, 8, 8, 8, 8, 8, 8, 8, 8] : List Int) (IntKind.u8.wrap (ishr .u64 (ishr .u64 x (16 : Int)) (8 : Int))))))) else none
      else
        bif inB (IntKind.u8.wrap (ishr .u64 x (16 : Int))) (([0, 1, 2, 2, 3, 3, 3, 3, 4, 4, 4, 4, 4, 4, 4, 4, 5, 5, 5, 5, 5, 5, 5, 5, 5, 5, 5, 5, 5, 5, 5, 5, 6, 6, 6, 6, 6, 6, 6, 6, 6, 6, 6, 6, 6, 6, 6, 6, 6, 6, 6, 6, 6, 6, 6, 6, 6, 6, 6, 6, 6, 6, 6, 6, 7, 7, 7, 7, 7, 7, 7, 7, 7, 7, 7, 7, 7, 7, 7, 7, 7, 7, 7, 7, 7, 7, 7, 7, 7, 7, 7, 7, 7, 7, 7, 7, 7, 7, 7, 7, 7, 7, 7, 7, 7, 7, 7, 7, 7, 7, 7, 7, 7, 7, 7, 7, 7, 7, 7, 7, 7, 7, 7, 7, 7, 7, 7, 7, 8, 8, 8, 8, 8, 8, 8, 8, 8, 8, 8, 8, 8, 8, 8, 8, 8, 8, 8, 8, 8, 8, 8, 8, 8, 8, 8, 8, 8, 8, 8, 8, 8, 8, 8, 8, 8, 8, 8, 8, 8, 8, 8, 8, 8, 8, 8, 8, 8, 8, 8, 8, 8, 8, 8, 8, 8, 8, 8, 8, 8, 8, 8, 8, 8, 8, 8, 8, 8, 8, 8, 8, 8, 8, 8, 8, 8, 8, 8, 8, 8, 8, 8, 8, 8, 8, 8, 8, 8, 8, 8, 8, 8, 8, 8, 8, 8, 8, 8, 8, 8, 8, 8, 8, 8, 8, 8, 8, 8, 8, 8, 8, 8, 8, 8, 8, 8, 8, 8, 8, 8, 8, 8, 8, 8, 8, 8, 8] : List Int).length : Int) then some (IntKind.i64.wrap ((16 : Int) + (IntKind.i64.wrap (rd (0 : Int) ([0, 1, 2, 2, 3, 3, 3, 3, 4, 4, 4, 4, 4, 4, 4, 4, 5, 5, 5, 5, 5, 5, 5, 5, 5, 5, 5, 5, 5, 5, 5, 5, 6, 6, 6, 6, 6, 6, 6, 6, 6, 6, 6, 6, 6, 6, 6, 6, 6, 6, 6, 6, 6, 6, 6, 6, 6, 6, 6, 6, 6, 6, 6, 6, 7, 7, 7, 7, 7, 7, 7, 7, 7, 7, 7, 7, 7, 7, 7, 7, 7, 7, 7, 7, 7, 7, 7, 7, 7, 7, 7, 7, 7, 7, 7, 7, 7, 7, 7, 7, 7, 7, 7, 7, 7, 7, 7, 7, 7, 7, 7, 7, 7, 7, 7, 7, 7, 7, 7, 7, 7, 7, 7, 7, 7, 7, 7, 7, 8, 8, 8, 8, 8, 8, 8, 8, 8, 8, 8, 8, 8, 8, 8, 8, 8, 8, 8, 8, 8, 8, 8, 8, 8, 8, 8, 8, 8, 8, 8, 8, 8, 8, 8, 8, 8, 8, 8, 8, 8, 8, 8, 8, 8, 8, 8, 8, 8, 8, 8, 8, 8, 8, 8, 8, 8, 8, 8, 8, 8, 8, 8, 8, 8, 8, 8, 8, 8, 8, 8, 8, 8, 8, 8, 8, 8, 8, 8, 8, 8, 8, 8, 8, 8, 8, 8, 8, 8, 8, 8, 8, 8, 8, 8, 8, 8, 8, 8, 8, 8, 8, 8, 8, 8, 8, 8, 8, 8, 8, 8, 8, 8, 8, 8, 8, 8, 8, 8, 8, 8, 8, 8, 8, 8, 8, 8, 8] : List Int) (IntKind.u8.wrap (ishr .u64 x (16 : Int))))))) else none
    else
      bif decide (x ≥ (256 : Int)) then
        bif inB (IntKind.u8.wrap (ishr .u64 x (8 : Int))) (([0, 1, 2, 2, 3, 3, 3, 3, 4, 4, 4, 4, 4, 4, 4, 4, 5, 5, 5, 5, 5, 5, 5, 5, 5, 5, 5, 5, 5, 5, 5, 5, 6, 6, 6, 6, 6, 6, 6, 6, 6, 6, 6, 6, 6, 6, 6, 6, 6, 6, 6, 6, 6, 6, 6, 6, 6, 6, 6, 6, 6, 6, 6, 6, 7, 7, 7, 7, 7, 7, 7, 7, 7, 7, 7, 7, 7, 7, 7, 7, 7, 7, 7, 7, 7, 7, 7, 7, 7, 7, 7, 7, 7, 7, 7, 7, 7, 7, 7, 7, 7, 7, 7, 7, 7, 7, 7, 7, 7, 7, 7, 7, 7, 7, 7, 7, 7, 7, 7, 7, 7, 7, 7, 7, 7, 7, 7, 7, 8, 8, 8, 8, 8, 8, 8, 8, 8, 8, 8, 8, 8, 8, 8, 8, 8, 8, 8, 8, 8, 8, 8, 8, 8, 8, 8, 8, 8, 8, 8, 8, 8, 8, 8, 8, 8, 8, 8, 8, 8, 8, 8, 8, 8, 8, 8, 8, 8, 8, 8, 8, 8, 8, 8, 8, 8, 8, 8, 8, 8, 8, 8, 8, 8, 8, 8, 8, 8, 8, 8, 8, 8, 8, 8, 8, 8, 8, 8, 8, 8, 8, 8, 8, 8, 8, 8, 8, 8, 8, 8, 8, 8, 8, 8, 8, 8, 8, 8, 8, 8, 8, 8, 8, 8, 8, 8, 8, 8, 8, 8, 8, 8, 8, 8, 8, 8, 8, 8, 8, 8, 8, 8, 8, 8, 8, 8, 8] : List Int).length : Int) then some (IntKind.i64.wrap ((8 : Int) + (IntKind.i64.wrap (rd (0 : Int) ([0, 1, 2, 2, 3, 3, 3, 3, 4, 4, 4, 4, 4, 4, 4, 4, 5, 5, 5, 5, 5, 5, 5, 5, 5, 5, 5, 5, 5, 5, 5, 5, 6, 6, 6, 6, 6, 6, 6, 6, 6, 6, 6, 6, 6, 6, 6, 6, 6, 6, 6, 6, 6, 6, 6, 6, 6, 6, 6, 6, 6, 6, 6, 6, 7, 7, 7, 7, 7, 7, 7, 7, 7, 7, 7, 7, 7, 7, 7, 7, 7, 7, 7, 7, 7, 7, 7, 7, 7, 7, 7, 7, 7, 7, 7, 7, 7, 7, 7, 7, 7, 7, 7, 7, 7, 7, 7, 7, 7, 7, 7, 7, 7, 7, 7, 7, 7, 7, 7, 7, 7, 7, 7, 7, 7, 7, 7, 7, 8, 8, 8, 8, 8, 8, 8, 8, 8, 8, 8, 8, 8, 8, 8, 8, 8, 8, 8, 8, 8, 8, 8, 8, 8, 8, 8, 8, 8, 8, 8, 8, 8, 8, 8, 8, 8, 8, 8, 8, 8, 8, 8, 8, 8, 8, 8, 8, 8, 8, 8, 8, 8, 8, 8, 8, 8, 8, 8, 8, 8, 8, 8, 8, 8, 8, 8, 8, 8, 8, 8, 8, 8, 8, 8, 8, 8, 8, 8, 8, 8, 8, 8, 8, 8, 8, 8, 8, 8, 8, 8, 8, 8, 8, 8, 8, 8, 8, 8, 8, 8, 8, 8, 8, 8, 8, 8, 8, 8, 8, 8, 8, 8, 8, 8, 8, 8, 8, 8, 8, 8, 8, 8, 8, 8, 8, 8, 8] : List Int) (IntKind.u8.wrap (ishr .u64 x (8 : Int))))))) else none
      else
        bif inB (IntKind.u8.wrap x) (([0, 1, 2, 2, 3, 3, 3, 3, 4, 4, 4, 4, 4, 4, 4, 4, 5, 5, 5, 5, 5, 5, 5, 5, 5, 5, 5, 5, 5, 5, 5, 5, 6, 6, 6, 6, 6, 6, 6, 6, 6, 6, 6, 6, 6, 6, 6, 6, 6, 6, 6, 6, 6, 6, 6, 6, 6, 6, 6, 6, 6, 6, 6, 6, 7, 7, 7, 7, 7, 7, 7, 7, 7, 7, 7, 7, 7, 7, 7, 7, 7, 7, 7, 7, 7, 7, 7, 7, 7, 7, 7, 7, 7, 7, 7, 7, 7, 7, 7, 7, 7, 7, 7, 7, 7, 7, 7, 7, 7, 7, 7, 7, 7, 7, 7, 7, 7, 7, 7, 7, 7, 7, 7, 7, 7, 7, 7, 7, 8, 8, 8, 8, 8, 8, 8, 8, 8, 8, 8, 8, 8, 8, 8, 8, 8, 8, 8, 8, 8, 8, 8, 8, 8, 8, 8, 8, 8, 8, 8, 8, 8, 8, 8, 8, 8, 8, 8, 8, 8, 8, 8, 8, 8, 8, 8, 8, 8, 8, 8, 8, 8, 8, 8, 8, 8, 8, 8, 8, 8, 8, 8, 8, 8, 8, 8, 8, 8, 8, 8, 8, 8, 8, 8, 8, 8, 8, 8, 8, 8, 8, 8, 8, 8, 8, 8, 8, 8, 8, 8, 8, 8, 8, 8, 8, 8, 8, 8, 8, 8, 8, 8, 8, 8, 8, 8, 8, 8, 8, 8, 8, 8, 8, 8, 8, 8, 8, 8, 8, 8, 8, 8, 8, 8, 8, 8, 8] : List Int).length : Int) then some (IntKind.i64.wrap ((0 : Int) + (IntKind.i64.wrap (rd (0 : Int) ([0, 1, 2, 2, 3, 3, 3, 3, 4, 4, 4, 4, 4, 4, 4, 4, 5, 5, 5, 5, 5, 5, 5, 5, 5, 5, 5, 5, 5, 5, 5, 5, 6, 6, 6, 6, 6, 6, 6, 6, 6, 6, 6, 6, 6, 6, 6, 6, 6, 6, 6, 6, 6, 6, 6, 6, 6, 6, 6, 6, 6, 6, 6, 6, 7, 7, 7, 7, 7, 7, 7, 7, 7, 7, 7, 7, 7, 7, 7, 7, 7, 7, 7, 7, 7, 7, 7, 7, 7, 7, 7, 7, 7, 7, 7, 7, 7, 7, 7, 7, 7, 7, 7, 7, 7, 7, 7, 7, 7, 7, 7, 7, 7, 7, 7, 7, 7, 7, 7, 7, 7, 7, 7, 7, 7, 7, 7, 7, 8, 8, 8, 8, 8, 8, 8, 8, 8, 8, 8, 8, 8, 8, 8, 8, 8, 8, 8, 8, 8, 8, 8, 8, 8, 8, 8, 8, 8, 8, 8, 8, 8, 8, 8, 8, 8, 8, 8, 8, 8, 8, 8, 8, 8, 8, 8, 8, 8, 8, 8, 8, 8, 8, 8, 8, 8, 8, 8, 8, 8, 8, 8, 8, 8, 8, 8, 8, 8, 8, 8, 8, 8, 8, 8, 8, 8, 8, 8, 8, 8, 8, 8, 8, 8, 8, 8, 8, 8, 8, 8, 8, 8, 8, 8, 8, 8, 8, 8, 8, 8, 8, 8, 8, 8, 8, 8, 8, 8, 8, 8, 8, 8, 8, 8, 8, 8, 8, 8, 8, 8, 8, 8, 8, 8, 8, 8, 8] : List Int) (IntKind.u8.wrap x))))) else none
noncomputable def math_bits_Len64.c (m_ : Mode) : Callee := ⟨43, [.one (.int .u64)], .one (.sh (.one (.int .i64))), math_bits_Len64.run m_⟩
theorem math_bits_Len64.k (m_ : Mode) : ∀ v : Shs (math_bits_Len64.c m_).args, runS P (oras (math_bits_Len64.cs m_)) math_bits_Len64.inl [] [] (math_bits_Len64.c m_).res.fin 20000 false (start 43 (encs (math_bits_Len64.c m_).args v)) = math_bits_Len64.run m_ v := by
  intro v_; exact (match v_ with | (x, ()) => by kernel_rfl)
theorem math_bits_Len64.ok (m_ : Mode) : (math_bits_Len64.c m_).OK P := Callee.of_run (fun S0 w0 => (oras_ok (math_bits_Len64.csok m_))) (by kernel_rfl) (by rfl) (fun S0 w0 cs0 => all_nil) (fun x r h => (math_bits_Len64.k m_ x).trans h)

/-! ### math/bits.Len -/
noncomputable def math_bits_Len.cs (m_ : Mode) : List Callee := [math_bits_Len64.c m_]
theorem math_bits_Len.csok (m_ : Mode) : ∀ k ∈ math_bits_Len.cs m_, k.OK P := all_cons (math_bits_Len64.ok m_) (all_nil)
def math_bits_Len.inl : FuncId → Bool := fun f => [].any (Nat.beq f)
noncomputable def math_bits_Len.run (m_ : Mode) : Int × Unit → Option (Int) := fun v_ => match v_ with
| (x, ()) =>
  (math_bits_Len64.run m_ (x, ())).bind fun r =>
  some r
noncomputable def math_bits_Len.c (m_ : Mode) : Callee := ⟨31, [.one (.int .u64)], .one (.sh (.one (.int .i64))), math_bits_Len.run m_⟩
theorem math_bits_Len.k (m_ : Mode) : ∀ v : Shs (math_bits_Len.c m_).args, runS P (oras (math_bits_Len.cs m_)) math_bits_Len.inl [] [] (math_bits_Len.c m_).res.fin 20000 false (start 31 (encs (math_bits_Len.c m_).args v)) = math_bits_Len.run m_ v := by
  intro v_; exact (match v_ with | (x, ()) => by kernel_rfl)
theorem math_bits_Len.ok (m_ : Mode) : (math_bits_Len.c m_).OK P := Callee.of_run (fun S0 w0 => (oras_ok (math_bits_Len.csok m_))) (by kernel_rfl) (by rfl) (fun S0 w0 cs0 => all_nil) (fun x r h => (math_bits_Len.k m_ x).trans h)

/-! ### cmp.isNaN[int64] -/
noncomputable def cmp_isNaN_int64.cs (m_ : Mode) : List Callee := []
theorem cmp_isNaN_int64.csok (m_ : Mode) : ∀ k ∈ cmp_isNaN_int64.cs m_, k.OK P := all_nil
def cmp_isNaN_int64.inl : FuncId → Bool := fun f => [].any (Nat.beq f)
noncomputable def cmp_isNaN_int64.run (m_ : Mode) : Int × Unit → Option (Bool) := fun v_ => match v_ with
| (x, ()) =>
  some (!(decide (x = x)))
noncomputable def cmp_isNaN_int64.c (m_ : Mode) : Callee := ⟨44, [.one (.int .i64)], .one (.sh (.one .bool)), cmp_isNaN_int64.run m_⟩
theorem cmp_isNaN_int64.k (m_ : Mode) : ∀ v : Shs (cmp_isNaN_int64.c m_).args, runS P (oras (cmp_isNaN_int64.cs m_)) cmp_isNaN_int64.inl [] [] (cmp_isNaN_int64.c m_).res.fin 20000 false (start 44 (encs (cmp_isNaN_int64.c m_).args v)) = cmp_isNaN_int64.run m_ v := by
  intro v_; exact (match v_ with | (x, ()) => by kernel_rfl)
theorem cmp_isNaN_int64.ok (m_ : Mode) : (cmp_isNaN_int64.c m_).OK P := Callee.of_run (fun S0 w0 => (oras_ok (cmp_isNaN_int64.csok m_))) (by kernel_rfl) (by rfl) (fun S0 w0 cs0 => all_nil) (fun x r h => (cmp_isNaN_int64.k m_ x).trans h)

/-! ### cmp.Compare[int64] -/
noncomputable def cmp_Compare_int64.cs (m_ : Mode) : List Callee := [cmp_isNaN_int64.c m_]
theorem cmp_Compare_int64.csok (m_ : Mode) : ∀ k ∈ cmp_Compare_int64.cs m_, k.OK P := all_cons (cmp_isNaN_int64.ok m_) (all_nil)
def cmp_Compare_int64.inl : FuncId → Bool := fun f => [].any (Nat.beq f)
noncomputable def cmp_Compare_int64.run (m_ : Mode) : Int × Int × Unit → Option (Int) := fun v_ => match v_ with
| (x, y, ()) =>
  (cmp_isNaN_int64.run m_ (x, ())).bind fun r =>
  (cmp_isNaN_int64.run m_ (y, ())).bind fun r1 =>
  bif r then
    bif r1 then
      some (0 : Int)
    else
      some (-1 : Int)
  else
    bif r1 then
      some (1 : Int)
    else
      bif decide (x < y) then
        some (-1 : Int)
      else
        bif decide (x > y) then
          some (1 : Int)
        else
          some (0 : Int)
noncomputable def cmp_Compare_int64.c (m_ : Mode) : Callee := ⟨32, [.one (.int .i64), .one (.int .i64)], .one (.sh (.one (.int .i64))), cmp_Compare_int64.run m_⟩
theorem cmp_Compare_int64.k (m_ : Mode) : ∀ v : Shs (cmp_Compare_int64.c m_).args, runS P (oras (cmp_Compare_int64.cs m_)) cmp_Compare_int64.inl [] [] (cmp_Compare_int64.c m_).res.fin 20000 false (start 32 (encs (cmp_Compare_int64.c m_).args v)) = cmp_Compare_int64.run m_ v := by
  intro v_; exact (match v_ with | (x, y, ()) => by kernel_rfl)
theorem cmp_Compare_int64.ok (m_ : Mode) : (cmp_Compare_int64.c m_).OK P := Callee.of_run (fun S0 w0 => (oras_ok (cmp_Compare_int64.csok m_))) (by kernel_rfl) (by rfl) (fun S0 w0 cs0 => all_nil) (fun x r h => (cmp_Compare_int64.k m_ x).trans h)

/-! ### slices.Compare[[]int64,int64] -/
noncomputable def slices_Compare_int64_int64.cs (m_ : Mode) : List Callee := [cmp_Compare_int64.c m_]
theorem slices_Compare_int64_int64.csok (m_ : Mode) : ∀ k ∈ slices_Compare_int64_int64.cs m_, k.OK P := all_cons (cmp_Compare_int64.ok m_) (all_nil)
def slices_Compare_int64_int64.inl : FuncId → Bool := fun f => [].any (Nat.beq f)
def slices_Compare_int64_int64.e0 : Spec := ⟨[{ fn := 27, items := [.code [.r, .l, .r, .l, .l], .inLoop [.r, .l, .r, .l, .l], .inBlock 0, .code [.r, .r]], slots := [(0, .dat (.lst (.int .i64))), (1, .dat (.lst (.int .i64))), (9, .dat (.lst (.int .i64))), (10, .dat (.int .i64)), (11, .dat (.int .i64))] }], [], 0⟩
def slices_Compare_int64_int64.x0 : List Spec := [⟨[{ fn := 27, items := [.code [.r, .l, .r, .l, .l, .r, .r, .l, .l, .r, .l, .r, .l, .r], .code [.r, .l, .r, .l, .l, .r, .r, .l, .l, .r, .r], .inBlock 1, .code [.r, .l, .r, .l, .l, .r, .r, .r], .inLoop [.r, .l, .r, .l, .l], .inBlock 0, .code [.r, .r]], slots := [(4, .dat (.int .i64))] }], [], 0⟩, ⟨[{ fn := 27, items := [.code [.r, .l, .r, .l, .l, .r, .r, .l, .l, .r, .r, .r, .r, .r, .l, .r], .inBlock 1, .code [.r, .l, .r, .l, .l, .r, .r, .r], .inLoop [.r, .l, .r, .l, .l], .inBlock 0, .code [.r, .r]], slots := [(4, .dat (.int .i64))] }], [], 0⟩, ⟨[{ fn := 27, items := [.code [.r, .r]], slots := [(0, .dat (.lst (.int .i64))), (1, .dat (.lst (.int .i64)))] }], [], 0⟩]
noncomputable def slices_Compare_int64_int64.b0 (m_ : Mode) (self : (List Int) × (List Int) × (List Int) × Int × Int × Unit → Option ((Int × Unit) ⊕ (Int × Unit) ⊕ ((List Int) × (List Int) × Unit))) : (List Int) × (List Int) × (List Int) × Int × Int × Unit → Option ((Int × Unit) ⊕ (Int × Unit) ⊕ ((List Int) × (List Int) × Unit)) := fun v_ => match v_ with
| (s1, s2, t, t1, t2, ()) =>
  bif decide (t2 < t1) then
    bif inB t2 (t.length : Int) then
    bif smallI (s2.length : Int) then
    bif decide (t2 ≥ (s2.length : Int)) then
      some (.inl ((1 : Int), ()))
    else
      bif inB t2 (s2.length : Int) then
      (cmp_Compare_int64.run m_ ((rd (0 : Int) t t2), (rd (0 : Int) s2 t2), ())).bind fun r =>
      bif !(decide (r = (0 : Int))) then
        some (.inr (.inl (r, ())))
      else
        self (s1, s2, t, t1, (IntKind.i64.wrap (t2 + (1 : Int))), ())
      else none
    else none
    else none
  else
    some (.inr (.inr (s1, s2, ())))
theorem slices_Compare_int64_int64.k0 (m_ : Mode) : ∀ (self : Known slices_Compare_int64_int64.e0.sls → Option (Exits slices_Compare_int64_int64.x0)) (v : Known slices_Compare_int64_int64.e0.sls), runS P (oras (slices_Compare_int64_int64.cs m_)) slices_Compare_int64_int64.inl (⟨slices_Compare_int64_int64.e0, self⟩ :: exitCuts slices_Compare_int64_int64.x0 id) [] (fun _ _ => none) 20000 false (slices_Compare_int64_int64.e0.mk' v) = slices_Compare_int64_int64.b0 m_ self v := by
  intro self v_; exact (match v_ with | (s1, s2, t, t1, t2, ()) => by kernel_rfl)
noncomputable def slices_Compare_int64_int64.l0 (m_ : Mode) : (List Int) × (List Int) × (List Int) × Int × Int × Unit → Option ((Int × Unit) ⊕ (Int × Unit) ⊕ ((List Int) × (List Int) × Unit)) := loop m_ (slices_Compare_int64_int64.b0 m_)
theorem slices_Compare_int64_int64.q0 (v) : slices_Compare_int64_int64.l0 .lim v = slices_Compare_int64_int64.b0 .lim (slices_Compare_int64_int64.l0 .lim) v := lfp_eq (cont_of_run (slices_Compare_int64_int64.k0 .lim)) v
noncomputable def slices_Compare_int64_int64.g0 (m_ : Mode) : Seg := ⟨slices_Compare_int64_int64.e0, slices_Compare_int64_int64.x0, slices_Compare_int64_int64.l0 m_⟩
theorem slices_Compare_int64_int64.s0 (m_ : Mode) (S0 w0 cs0) : SegGood P S0 w0 cs0 27 (slices_Compare_int64_int64.g0 m_) := seg_loop m_ (oras_ok (slices_Compare_int64_int64.csok m_)) (all_nil) (by rfl) (fun e he => List.all_eq_true.1 (show slices_Compare_int64_int64.x0.all Spec.ok = true by rfl) e he) (slices_Compare_int64_int64.k0 m_)
noncomputable def slices_Compare_int64_int64.run (m_ : Mode) : (List Int) × (List Int) × Unit → Option (Int) := fun v_ => match v_ with
| (s1, s2, ()) =>
  bif smallI (s1.length : Int) then
  (slices_Compare_int64_int64.l0 m_ (s1, s2, s1, (s1.length : Int), (0 : Int), ())).bind fun g_ => match g_ with
  | .inl (t, ()) =>
    some t
  | .inr (.inl (t1, ())) =>
    some t1
  | .inr (.inr (s11, s21, ())) =>
    bif smallI (s11.length : Int) then
    bif smallI (s21.length : Int) then
    bif decide ((s11.length : Int) < (s21.length : Int)) then
      some (-1 : Int)
    else
      some (0 : Int)
    else none
    else none
  else none
noncomputable def slices_Compare_int64_int64.c (m_ : Mode) : Callee := ⟨27, [.one (.lst (.int .i64)), .one (.lst (.int .i64))], .one (.sh (.one (.int .i64))), slices_Compare_int64_int64.run m_⟩
theorem slices_Compare_int64_int64.k (m_ : Mode) : ∀ v : Shs (slices_Compare_int64_int64.c m_).args, runS P (oras (slices_Compare_int64_int64.cs m_)) slices_Compare_int64_int64.inl [] [slices_Compare_int64_int64.g0 m_] (slices_Compare_int64_int64.c m_).res.fin 20000 false (start 27 (encs (slices_Compare_int64_int64.c m_).args v)) = slices_Compare_int64_int64.run m_ v := by
  intro v_; exact (match v_ with | (s1, s2, ()) => by kernel_rfl)
theorem slices_Compare_int64_int64.ok (m_ : Mode) : (slices_Compare_int64_int64.c m_).OK P := Callee.of_run (fun S0 w0 => (oras_ok (slices_Compare_int64_int64.csok m_))) (by kernel_rfl) (by rfl) (fun S0 w0 cs0 => all_cons (slices_Compare_int64_int64.s0 m_ S0 w0 cs0) (all_nil)) (fun x r h => (slices_Compare_int64_int64.k m_ x).trans h)

/-! ### pendulum/sel.ends$1 -/
noncomputable def sel_ends_1.cs (m_ : Mode) : List Callee := [slices_Compare_int64_int64.c m_]
theorem sel_ends_1.csok (m_ : Mode) : ∀ k ∈ sel_ends_1.cs m_, k.OK P := all_cons (slices_Compare_int64_int64.ok m_) (all_nil)
def sel_ends_1.inl : FuncId → Bool := fun f => [].any (Nat.beq f)
noncomputable def sel_ends_1.run (m_ : Mode) : (List Int) × (List Int) × Unit → Option (Int) := fun v_ => match v_ with
| (a, b, ()) =>
  bif !(decide ((rd (0 : Int) a (0 : Int)) = (rd (0 : Int) b (0 : Int)))) then
    (slices_Compare_int64_int64.run m_ (((a.drop 0).take 1), ((b.drop 0).take 1), ())).bind fun r =>
    some r
  else
    some (IntKind.i64.wrap ((rd (0 : Int) b (1 : Int)) - (rd (0 : Int) a (1 : Int))))
noncomputable def sel_ends_1.c (m_ : Mode) : Callee := ⟨26, [.one (.arr 2 (.int .i64)), .one (.arr 2 (.int .i64))], .one (.sh (.one (.int .i64))), sel_ends_1.run m_⟩
theorem sel_ends_1.k (m_ : Mode) : ∀ v : Shs (sel_ends_1.c m_).args, runS P (oras (sel_ends_1.cs m_)) sel_ends_1.inl [] [] (sel_ends_1.c m_).res.fin 20000 false (start 26 (encs (sel_ends_1.c m_).args v)) = sel_ends_1.run m_ v := by
  intro v_; exact (match v_ with | (a, b, ()) => by kernel_rfl)
theorem sel_ends_1.ok (m_ : Mode) : (sel_ends_1.c m_).OK P := Callee.of_run (fun S0 w0 => (oras_ok (sel_ends_1.csok m_))) (by kernel_rfl) (by rfl) (fun S0 w0 cs0 => all_nil) (fun x r h => (sel_ends_1.k m_ x).trans h)

/-! ### slices.insertionSortCmpFunc[pendulum/sel.end] -/
noncomputable def slices_insertionSortCmpFunc_sel_end.cs (m_ : Mode) : List Callee := [sel_ends_1.c m_]
theorem slices_insertionSortCmpFunc_sel_end.csok (m_ : Mode) : ∀ k ∈ slices_insertionSortCmpFunc_sel_end.cs m_, k.OK P := all_cons (sel_ends_1.ok m_) (all_nil)
def slices_insertionSortCmpFunc_sel_end.inl : FuncId → Bool := fun f => [].any (Nat.beq f)
def slices_insertionSortCmpFunc_sel_end.e0 : Spec := ⟨[{ fn := 34, items := [.code [.r, .l, .l, .r, .l, .l, .r, .l, .l], .inLoop [.r, .l, .l, .r, .l, .l, .r, .l, .l], .inBlock 2, .inBlock 1, .code [.r, .l, .l, .r, .r], .inLoop [.r, .l, .l], .inBlock 0], slots := [(0, .own 1000000 (.arr 2 (.int .i64))), (1, .dat (.int .i64)), (2, .dat (.int .i64)), (3, .fn (.func 26) []), (8, .dat (.int .i64)), (9, .dat (.int .i64))] }], [(1000000, .cells false [.row (.arr 2 (.int .i64))])], 1000001⟩
def slices_insertionSortCmpFunc_sel_end.x0 : List Spec := [⟨[{ fn := 34, items := [.code [.r, .l, .l, .r, .r], .inLoop [.r, .l, .l], .inBlock 0], slots := [(0, .own 1000000 (.arr 2 (.int .i64))), (1, .dat (.int .i64)), (2, .dat (.int .i64)), (3, .fn (.func 26) []), (8, .dat (.int .i64))] }], [(1000000, .cells false [.row (.arr 2 (.int .i64))])], 1000001⟩]
noncomputable def slices_insertionSortCmpFunc_sel_end.b0 (m_ : Mode) (self : Int × Int × Int × Int × (List (List Int)) × Unit → Option ((Int × Int × Int × (List (List Int)) × Unit))) : Int × Int × Int × Int × (List (List Int)) × Unit → Option ((Int × Int × Int × (List (List Int)) × Unit)) := fun v_ => match v_ with
| (a, b, i, j, m, ()) =>
  bif ((!(decide (j > a))) || (inB j (m.length : Int))) then
  bif ((!(decide (j > a))) || (inB (IntKind.i64.wrap (j - (1 : Int))) (m.length : Int))) then
  ((bif decide (j > a) then sel_ends_1.run m_ ((rd (List.replicate 2 (0 : Int) : List Int) m j), (rd (List.replicate 2 (0 : Int) : List Int) m (IntKind.i64.wrap (j - (1 : Int)))), ()) else some (0 : Int))).bind fun r =>
  bif ((decide (j > a)) && (decide (r < (0 : Int)))) then
    bif inB (IntKind.i64.wrap (j - (1 : Int))) (m.length : Int) then
    bif inB j (m.length : Int) then
    bif inB j (m.length : Int) then
    bif inB (IntKind.i64.wrap (j - (1 : Int))) ((m.set j.toNat (rd (List.replicate 2 (0 : Int) : List Int) m (IntKind.i64.wrap (j - (1 : Int))))).length : Int) then self (a, b, i, (IntKind.i64.wrap (j - (1 : Int))), ((m.set j.toNat (rd (List.replicate 2 (0 : Int) : List Int) m (IntKind.i64.wrap (j - (1 : Int))))).set ((IntKind.i64.wrap (j - (1 : Int))).toNat) (rd (List.replicate 2 (0 : Int) : List Int) m j)), ()) else none
    else none
    else none
    else none
  else
    some (a, b, i, m, ())
  else none
  else none
theorem slices_insertionSortCmpFunc_sel_end.k0 (m_ : Mode) : ∀ (self : Known slices_insertionSortCmpFunc_sel_end.e0.sls → Option (Exits slices_insertionSortCmpFunc_sel_end.x0)) (v : Known slices_insertionSortCmpFunc_sel_end.e0.sls), runS P (oras (slices_insertionSortCmpFunc_sel_end.cs m_)) slices_insertionSortCmpFunc_sel_end.inl (⟨slices_insertionSortCmpFunc_sel_end.e0, self⟩ :: exitCuts slices_insertionSortCmpFunc_sel_end.x0 id) [] (fun _ _ => none) 20000 false (slices_insertionSortCmpFunc_sel_end.e0.mk' v) = slices_insertionSortCmpFunc_sel_end.b0 m_ self v := by
  intro self v_; exact (match v_ with | (a, b, i, j, m, ()) => by kernel_rfl)
noncomputable def slices_insertionSortCmpFunc_sel_end.l0 (m_ : Mode) : Int × Int × Int × Int × (List (List Int)) × Unit → Option ((Int × Int × Int × (List (List Int)) × Unit)) := loop m_ (slices_insertionSortCmpFunc_sel_end.b0 m_)
theorem slices_insertionSortCmpFunc_sel_end.q0 (v) : slices_insertionSortCmpFunc_sel_end.l0 .lim v = slices_insertionSortCmpFunc_sel_end.b0 .lim (slices_insertionSortCmpFunc_sel_end.l0 .lim) v := lfp_eq (cont_of_run (slices_insertionSortCmpFunc_sel_end.k0 .lim)) v
noncomputable def slices_insertionSortCmpFunc_sel_end.g0 (m_ : Mode) : Seg := ⟨slices_insertionSortCmpFunc_sel_end.e0, slices_insertionSortCmpFunc_sel_end.x0, slices_insertionSortCmpFunc_sel_end.l0 m_⟩
theorem slices_insertionSortCmpFunc_sel_end.s0 (m_ : Mode) (S0 w0 cs0) : SegGood P S0 w0 cs0 34 (slices_insertionSortCmpFunc_sel_end.g0 m_) := seg_loop m_ (oras_ok (slices_insertionSortCmpFunc_sel_end.csok m_)) (all_nil) (by rfl) (fun e he => List.all_eq_true.1 (show slices_insertionSortCmpFunc_sel_end.x0.all Spec.ok = true by rfl) e he) (slices_insertionSortCmpFunc_sel_end.k0 m_)
def slices_insertionSortCmpFunc_sel_end.e1 : Spec := ⟨[{ fn := 34, items := [.code [.r, .l, .l], .inLoop [.r, .l, .l], .inBlock 0], slots := [(0, .own 1000000 (.arr 2 (.int .i64))), (1, .dat (.int .i64)), (2, .dat (.int .i64)), (3, .fn (.func 26) []), (8, .dat (.int .i64))] }], [(1000000, .cells false [.row (.arr 2 (.int .i64))])], 1000001⟩
def slices_insertionSortCmpFunc_sel_end.x1 : List Spec := [⟨[{ fn := 34, items := [], slots := [] }], [(1000000, .cells false [.row (.arr 2 (.int .i64))])], 1000001⟩]
noncomputable def slices_insertionSortCmpFunc_sel_end.b1 (m_ : Mode) (self : Int × Int × Int × (List (List Int)) × Unit → Option (((List (List Int)) × Unit))) : Int × Int × Int × (List (List Int)) × Unit → Option (((List (List Int)) × Unit)) := fun v_ => match v_ with
| (a, b, i, m, ()) =>
  bif decide (i < b) then
    (slices_insertionSortCmpFunc_sel_end.l0 m_ (a, b, i, i, m, ())).bind fun (a1, b1, i1, m1, ()) =>
    self (a1, b1, (IntKind.i64.wrap (i1 + (1 : Int))), m1, ())
  else
    some (m, ())
theorem slices_insertionSortCmpFunc_sel_end.k1 (m_ : Mode) : ∀ (self : Known slices_insertionSortCmpFunc_sel_end.e1.sls → Option (Exits slices_insertionSortCmpFunc_sel_end.x1)) (v : Known slices_insertionSortCmpFunc_sel_end.e1.sls), runS P (oras (slices_insertionSortCmpFunc_sel_end.cs m_)) slices_insertionSortCmpFunc_sel_end.inl (⟨slices_insertionSortCmpFunc_sel_end.e1, self⟩ :: exitCuts slices_insertionSortCmpFunc_sel_end.x1 id) [slices_insertionSortCmpFunc_sel_end.g0 m_] (fun _ _ => none) 20000 false (slices_insertionSortCmpFunc_sel_end.e1.mk' v) = slices_insertionSortCmpFunc_sel_end.b1 m_ self v := by
  intro self v_; exact (match v_ with | (a, b, i, m, ()) => by kernel_rfl)
noncomputable def slices_insertionSortCmpFunc_sel_end.l1 (m_ : Mode) : Int × Int × Int × (List (List Int)) × Unit → Option (((List (List Int)) × Unit)) := loop m_ (slices_insertionSortCmpFunc_sel_end.b1 m_)
theorem slices_insertionSortCmpFunc_sel_end.q1 (v) : slices_insertionSortCmpFunc_sel_end.l1 .lim v = slices_insertionSortCmpFunc_sel_end.b1 .lim (slices_insertionSortCmpFunc_sel_end.l1 .lim) v := lfp_eq (cont_of_run (slices_insertionSortCmpFunc_sel_end.k1 .lim)) v
noncomputable def slices_insertionSortCmpFunc_sel_end.g1 (m_ : Mode) : Seg := ⟨slices_insertionSortCmpFunc_sel_end.e1, slices_insertionSortCmpFunc_sel_end.x1, slices_insertionSortCmpFunc_sel_end.l1 m_⟩
theorem slices_insertionSortCmpFunc_sel_end.s1 (m_ : Mode) (S0 w0 cs0) : SegGood P S0 w0 cs0 34 (slices_insertionSortCmpFunc_sel_end.g1 m_) := seg_loop m_ (oras_ok (slices_insertionSortCmpFunc_sel_end.csok m_)) (all_cons (slices_insertionSortCmpFunc_sel_end.s0 m_ S0 w0 cs0) (all_nil)) (by rfl) (fun e he => List.all_eq_true.1 (show slices_insertionSortCmpFunc_sel_end.x1.all Spec.ok = true by rfl) e he) (slices_insertionSortCmpFunc_sel_end.k1 m_)
noncomputable def slices_insertionSortCmpFunc_sel_end.F (m_ : Mode) : List (List Int) → Int × Int × Unit → Option ((Unit) × List (List Int)) := fun xs v_ => match v_ with
| (a1, b, ()) =>
  (slices_insertionSortCmpFunc_sel_end.l1 m_ (a1, b, (IntKind.i64.wrap (a1 + (1 : Int))), xs, ())).bind fun (m, ()) =>
  some ((), m)
theorem slices_insertionSortCmpFunc_sel_end.k (m_ : Mode) : ∀ (xs_ : List (List Int)) (v : Shs (⟨34, (.arr 2 (.int .i64)), [.one (.int .i64), .one (.int .i64)], [26], .tup [], slices_insertionSortCmpFunc_sel_end.F m_⟩ : Proc).args), runS P (oras (slices_insertionSortCmpFunc_sel_end.cs m_)) slices_insertionSortCmpFunc_sel_end.inl [] [slices_insertionSortCmpFunc_sel_end.g1 m_] (⟨34, (.arr 2 (.int .i64)), [.one (.int .i64), .one (.int .i64)], [26], .tup [], slices_insertionSortCmpFunc_sel_end.F m_⟩ : Proc).fin 20000 false ((⟨34, (.arr 2 (.int .i64)), [.one (.int .i64), .one (.int .i64)], [26], .tup [], slices_insertionSortCmpFunc_sel_end.F m_⟩ : Proc).start xs_ v) = slices_insertionSortCmpFunc_sel_end.F m_ xs_ v := by
  intro xs_ v_; exact (match v_ with | (a1, b, ()) => by kernel_rfl)
noncomputable def slices_insertionSortCmpFunc_sel_end.p (m_ : Mode) : Proc := ⟨34, (.arr 2 (.int .i64)), [.one (.int .i64), .one (.int .i64)], [26], .tup [], slices_insertionSortCmpFunc_sel_end.F m_⟩
theorem slices_insertionSortCmpFunc_sel_end.pok (m_ : Mode) : (slices_insertionSortCmpFunc_sel_end.p m_).OK P := (Proc.of_run (fun S0 w0 => (oras_ok (slices_insertionSortCmpFunc_sel_end.csok m_))) (by kernel_rfl) (by rfl) (by rfl) (by rfl) (fun S0 w0 cs0 => all_cons (slices_insertionSortCmpFunc_sel_end.s1 m_ S0 w0 cs0) (all_nil)) (fun xs_ x r h => (slices_insertionSortCmpFunc_sel_end.k m_ xs_ x).trans h))

/-! ### slices.siftDownCmpFunc[pendulum/sel.end] -/
noncomputable def slices_siftDownCmpFunc_sel_end.cs (m_ : Mode) : List Callee := [sel_ends_1.c m_]
theorem slices_siftDownCmpFunc_sel_end.csok (m_ : Mode) : ∀ k ∈ slices_siftDownCmpFunc_sel_end.cs m_, k.OK P := all_cons (sel_ends_1.ok m_) (all_nil)
def slices_siftDownCmpFunc_sel_end.inl : FuncId → Bool := fun f => [].any (Nat.beq f)
def slices_siftDownCmpFunc_sel_end.e0 : Spec := ⟨[{ fn := 45, items := [.code [.r, .l, .l], .inLoop [.r, .l, .l], .inBlock 0], slots := [(0, .own 1000000 (.arr 2 (.int .i64))), (2, .dat (.int .i64)), (3, .dat (.int .i64)), (4, .fn (.func 26) []), (10, .dat (.int .i64))] }], [(1000000, .cells false [.row (.arr 2 (.int .i64))])], 1000001⟩
def slices_siftDownCmpFunc_sel_end.x0 : List Spec := [⟨[{ fn := 45, items := [], slots := [] }], [(1000000, .cells false [.row (.arr 2 (.int .i64))])], 1000001⟩, ⟨[{ fn := 45, items := [.code [.r, .l, .l, .l, .r, .r, .r, .l, .r, .l], .code [.r, .l, .l, .l, .r, .r, .r, .r], .inBlock 1, .inLoop [.r, .l, .l], .inBlock 0], slots := [] }], [(1000000, .cells false [.row (.arr 2 (.int .i64))])], 1000001⟩]
noncomputable def slices_siftDownCmpFunc_sel_end.b0 (m_ : Mode) (self : Int × Int × Int × (List (List Int)) × Unit → Option (((List (List Int)) × Unit) ⊕ ((List (List Int)) × Unit))) : Int × Int × Int × (List (List Int)) × Unit → Option (((List (List Int)) × Unit) ⊕ ((List (List Int)) × Unit)) := fun v_ => match v_ with
| (hi, first, root, m, ()) =>
  bif decide ((IntKind.i64.wrap ((IntKind.i64.wrap ((2 : Int) * root)) + (1 : Int))) ≥ hi) then
    some (.inl (m, ()))
  else
    bif ((!(decide ((IntKind.i64.wrap ((IntKind.i64.wrap ((IntKind.i64.wrap ((2 : Int) * root)) + (1 : Int))) + (1 : Int))) < hi))) || (inB (IntKind.i64.wrap (first + (IntKind.i64.wrap ((IntKind.i64.wrap ((2 : Int) * root)) + (1 : Int))))) (m.length : Int))) then
    bif ((!(decide ((IntKind.i64.wrap ((IntKind.i64.wrap ((IntKind.i64.wrap ((2 : Int) * root)) + (1 : Int))) + (1 : Int))) < hi))) || (inB (IntKind.i64.wrap ((IntKind.i64.wrap (first + (IntKind.i64.wrap ((IntKind.i64.wrap ((2 : Int) * root)) + (1 : Int))))) + (1 : Int))) (m.length : Int))) then
    ((bif decide ((IntKind.i64.wrap ((IntKind.i64.wrap ((IntKind.i64.wrap ((2 : Int) * root)) + (1 : Int))) + (1 : Int))) < hi) then sel_ends_1.run m_ ((rd (List.replicate 2 (0 : Int) : List Int) m (IntKind.i64.wrap (first + (IntKind.i64.wrap ((IntKind.i64.wrap ((2 : Int) * root)) + (1 : Int)))))), (rd (List.replicate 2 (0 : Int) : List Int) m (IntKind.i64.wrap ((IntKind.i64.wrap (first + (IntKind.i64.wrap ((IntKind.i64.wrap ((2 : Int) * root)) + (1 : Int))))) + (1 : Int)))), ()) else some (0 : Int))).bind fun r =>
    bif ((decide ((IntKind.i64.wrap ((IntKind.i64.wrap ((IntKind.i64.wrap ((2 : Int) * root)) + (1 : Int))) + (1 : Int))) < hi)) && (decide (r < (0 : Int)))) then
      bif inB (IntKind.i64.wrap (first + root)) (m.length : Int) then
      bif inB (IntKind.i64.wrap (first + (IntKind.i64.wrap ((IntKind.i64.wrap ((IntKind.i64.wrap ((2 : Int) * root)) + (1 : Int))) + (1 : Int))))) (m.length : Int) then
      (sel_ends_1.run m_ ((rd (List.replicate 2 (0 : Int) : List Int) m (IntKind.i64.wrap (first + root))), (rd (List.replicate 2 (0 : Int) : List Int) m (IntKind.i64.wrap (first + (IntKind.i64.wrap ((IntKind.i64.wrap ((IntKind.i64.wrap ((2 : Int) * root)) + (1 : Int))) + (1 : Int)))))), ())).bind fun r1 =>
      bif !(decide (r1 < (0 : Int))) then
        some (.inr (m, ()))
      else
        bif inB (IntKind.i64.wrap (first + (IntKind.i64.wrap ((IntKind.i64.wrap ((IntKind.i64.wrap ((2 : Int) * root)) + (1 : Int))) + (1 : Int))))) (m.length : Int) then
        bif inB (IntKind.i64.wrap (first + root)) (m.length : Int) then
        bif inB (IntKind.i64.wrap (first + root)) (m.length : Int) then
        bif inB (IntKind.i64.wrap (first + (IntKind.i64.wrap ((IntKind.i64.wrap ((IntKind.i64.wrap ((2 : Int) * root)) + (1 : Int))) + (1 : Int))))) ((m.set ((IntKind.i64.wrap (first + root)).toNat) (rd (List.replicate 2 (0 : Int) : List Int) m (IntKind.i64.wrap (first + (IntKind.i64.wrap ((IntKind.i64.wrap ((IntKind.i64.wrap ((2 : Int) * root)) + (1 : Int))) + (1 : Int))))))).length : Int) then self (hi, first, (IntKind.i64.wrap ((IntKind.i64.wrap ((IntKind.i64.wrap ((2 : Int) * root)) + (1 : Int))) + (1 : Int))), ((m.set ((IntKind.i64.wrap (first + root)).toNat) (rd (List.replicate 2 (0 : Int) : List Int) m (IntKind.i64.wrap (first + (IntKind.i64.wrap ((IntKind.i64.wrap ((IntKind.i64.wrap ((2 : Int) * root)) + (1 : Int))) + (1 : Int))))))).set ((IntKind.i64.wrap (first + (IntKind.i64.wrap ((IntKind.i64.wrap ((IntKind.i64.wrap ((2 : Int) * root)) + (1 : Int))) + (1 : Int))))).toNat) (rd (List.replicate 2 (0 : Int) : List Int) m (IntKind.i64.wrap (first + root)))), ()) else none
        else none
        else none
        else none
      else none
      else none
    else
      bif inB (IntKind.i64.wrap (first + root)) (m.length : Int) then
      bif inB (IntKind.i64.wrap (first + (IntKind.i64.wrap ((IntKind.i64.wrap ((2 : Int) * root)) + (1 : Int))))) (m.length : Int) then
      (sel_ends_1.run m_ ((rd (List.replicate 2 (0 : Int) : List Int) m (IntKind.i64.wrap (first + root))), (rd (List.replicate 2 (0 : Int) : List Int) m (IntKind.i64.wrap (first + (IntKind.i64.wrap ((IntKind.i64.wrap ((2 : Int) * root)) + (1 : Int)))))), ())).bind fun r2 =>
      bif !(decide (r2 < (0 : Int))) then
        some (.inr (m, ()))
      else
        bif inB (IntKind.i64.wrap (first + (IntKind.i64.wrap ((IntKind.i64.wrap ((2 : Int) * root)) + (1 : Int))))) (m.length : Int) then
        bif inB (IntKind.i64.wrap (first + root)) (m.length : Int) then
        bif inB (IntKind.i64.wrap (first + root)) (m.length : Int) then
        bif inB (IntKind.i64.wrap (first + (IntKind.i64.wrap ((IntKind.i64.wrap ((2 : Int) * root)) + (1 : Int))))) ((m.set ((IntKind.i64.wrap (first + root)).toNat) (rd (List.replicate 2 (0 : Int) : List Int) m (IntKind.i64.wrap (first + (IntKind.i64.wrap ((IntKind.i64.wrap ((2 : Int) * root)) + (1 : Int))))))).length : Int) then self (hi, first, (IntKind.i64.wrap ((IntKind.i64.wrap ((2 : Int) * root)) + (1 : Int))), ((m.set ((IntKind.i64.wrap (first + root)).toNat) (rd (List.replicate 2 (0 : Int) : List Int) m (IntKind.i64.wrap (first + (IntKind.i64.wrap ((IntKind.i64.wrap ((2 : Int) * root)) + (1 : Int))))))).set ((IntKind.i64.wrap (first + (IntKind.i64.wrap ((IntKind.i64.wrap ((2 : Int) * root)) + (1 : Int))))).toNat) (rd (List.replicate 2 (0 : Int) : List Int) m (IntKind.i64.wrap (first + root)))), ()) else none
        else none
        else none
        else none
      else none
      else none
    else none
    else none
theorem slices_siftDownCmpFunc_sel_end.k0 (m_ : Mode) : ∀ (self : Known slices_siftDownCmpFunc_sel_end.e0.sls → Option (Exits slices_siftDownCmpFunc_sel_end.x0)) (v : Known slices_siftDownCmpFunc_sel_end.e0.sls), runS P (oras (slices_siftDownCmpFunc_sel_end.cs m_)) slices_siftDownCmpFunc_sel_end.inl (⟨slices_siftDownCmpFunc_sel_end.e0, self⟩ :: exitCuts slices_siftDownCmpFunc_sel_end.x0 id) [] (fun _ _ => none) 20000 false (slices_siftDownCmpFunc_sel_end.e0.mk' v) = slices_siftDownCmpFunc_sel_end.b0 m_ self v := by
  intro self v_; exact (match v_ with | (hi, first, root, m, ()) => by kernel_rfl)
noncomputable def slices_siftDownCmpFunc_sel_end.l0 (m_ : Mode) : Int × Int × Int × (List (List Int)) × Unit → Option (((List (List Int)) × Unit) ⊕ ((List (List Int)) × Unit)) := loop m_ (slices_siftDownCmpFunc_sel_end.b0 m_)
theorem slices_siftDownCmpFunc_sel_end.q0 (v) : slices_siftDownCmpFunc_sel_end.l0 .lim v = slices_siftDownCmpFunc_sel_end.b0 .lim (slices_siftDownCmpFunc_sel_end.l0 .lim) v := lfp_eq (cont_of_run (slices_siftDownCmpFunc_sel_end.k0 .lim)) v
noncomputable def slices_siftDownCmpFunc_sel_end.g0 (m_ : Mode) : Seg := ⟨slices_siftDownCmpFunc_sel_end.e0, slices_siftDownCmpFunc_sel_end.x0, slices_siftDownCmpFunc_sel_end.l0 m_⟩
theorem slices_siftDownCmpFunc_sel_end.s0 (m_ : Mode) (S0 w0 cs0) : SegGood P S0 w0 cs0 45 (slices_siftDownCmpFunc_sel_end.g0 m_) := seg_loop m_ (oras_ok (slices_siftDownCmpFunc_sel_end.csok m_)) (all_nil) (by rfl) (fun e he => List.all_eq_true.1 (show slices_siftDownCmpFunc_sel_end.x0.all Spec.ok = true by rfl) e he) (slices_siftDownCmpFunc_sel_end.k0 m_)
noncomputable def slices_siftDownCmpFunc_sel_end.F (m_ : Mode) : List (List Int) → Int × Int × Int × Unit → Option ((Unit) × List (List Int)) := fun xs v_ => match v_ with
| (lo1, hi1, first, ()) =>
  (slices_siftDownCmpFunc_sel_end.l0 m_ (hi1, first, lo1, xs, ())).bind fun g_ => match g_ with
  | .inl (m, ()) =>
    some ((), m)
  | .inr (m1, ()) =>
    some ((), m1)
theorem slices_siftDownCmpFunc_sel_end.k (m_ : Mode) : ∀ (xs_ : List (List Int)) (v : Shs (⟨45, (.arr 2 (.int .i64)), [.one (.int .i64), .one (.int .i64), .one (.int .i64)], [26], .tup [], slices_siftDownCmpFunc_sel_end.F m_⟩ : Proc).args), runS P (oras (slices_siftDownCmpFunc_sel_end.cs m_)) slices_siftDownCmpFunc_sel_end.inl [] [slices_siftDownCmpFunc_sel_end.g0 m_] (⟨45, (.arr 2 (.int .i64)), [.one (.int .i64), .one (.int .i64), .one (.int .i64)], [26], .tup [], slices_siftDownCmpFunc_sel_end.F m_⟩ : Proc).fin 20000 false ((⟨45, (.arr 2 (.int .i64)), [.one (.int .i64), .one (.int .i64), .one (.int .i64)], [26], .tup [], slices_siftDownCmpFunc_sel_end.F m_⟩ : Proc).start xs_ v) = slices_siftDownCmpFunc_sel_end.F m_ xs_ v := by
  intro xs_ v_; exact (match v_ with | (lo1, hi1, first, ()) => by kernel_rfl)
noncomputable def slices_siftDownCmpFunc_sel_end.p (m_ : Mode) : Proc := ⟨45, (.arr 2 (.int .i64)), [.one (.int .i64), .one (.int .i64), .one (.int .i64)], [26], .tup [], slices_siftDownCmpFunc_sel_end.F m_⟩
theorem slices_siftDownCmpFunc_sel_end.pok (m_ : Mode) : (slices_siftDownCmpFunc_sel_end.p m_).OK P := (Proc.of_run (fun S0 w0 => (oras_ok (slices_siftDownCmpFunc_sel_end.csok m_))) (by kernel_rfl) (by rfl) (by rfl) (by rfl) (fun S0 w0 cs0 => all_cons (slices_siftDownCmpFunc_sel_end.s0 m_ S0 w0 cs0) (all_nil)) (fun xs_ x r h => (slices_siftDownCmpFunc_sel_end.k m_ xs_ x).trans h))

/-! ### slices.heapSortCmpFunc[pendulum/sel.end] -/
noncomputable def slices_heapSortCmpFunc_sel_end.cs (m_ : Mode) : List Callee := []
theorem slices_heapSortCmpFunc_sel_end.csok (m_ : Mode) : ∀ k ∈ slices_heapSortCmpFunc_sel_end.cs m_, k.OK P := all_nil
def slices_heapSortCmpFunc_sel_end.inl : FuncId → Bool := fun f => [].any (Nat.beq f)
noncomputable def slices_heapSortCmpFunc_sel_end.ps (m_ : Mode) : List Proc := [slices_siftDownCmpFunc_sel_end.p m_]
theorem slices_heapSortCmpFunc_sel_end.psok (m_ : Mode) : ∀ k ∈ slices_heapSortCmpFunc_sel_end.ps m_, k.OK P := all_cons (slices_siftDownCmpFunc_sel_end.pok m_) (all_nil)
def slices_heapSortCmpFunc_sel_end.e0 : Spec := ⟨[{ fn := 35, items := [.code [.r, .r, .r, .l, .r, .l, .l], .inLoop [.r, .r, .r, .l, .r, .l, .l], .inBlock 0, .code [.r, .r, .r, .r]], slots := [(0, .own 1000000 (.arr 2 (.int .i64))), (3, .fn (.func 26) []), (8, .dat (.int .i64)), (9, .dat (.int .i64)), (10, .dat (.int .i64)), (11, .dat (.int .i64))] }], [(1000000, .cells false [.row (.arr 2 (.int .i64))])], 1000001⟩
def slices_heapSortCmpFunc_sel_end.x0 : List Spec := [⟨[{ fn := 35, items := [.code [.r, .r, .r, .r]], slots := [(0, .own 1000000 (.arr 2 (.int .i64))), (3, .fn (.func 26) []), (8, .dat (.int .i64)), (9, .dat (.int .i64)), (10, .dat (.int .i64))] }], [(1000000, .cells false [.row (.arr 2 (.int .i64))])], 1000001⟩]
noncomputable def slices_heapSortCmpFunc_sel_end.b0 (m_ : Mode) (self : Int × Int × Int × Int × (List (List Int)) × Unit → Option ((Int × Int × Int × (List (List Int)) × Unit))) : Int × Int × Int × Int × (List (List Int)) × Unit → Option ((Int × Int × Int × (List (List Int)) × Unit)) := fun v_ => match v_ with
| (first, lo, hi, i, m, ()) =>
  bif decide (i ≥ (0 : Int)) then
    (lenOK m (slices_siftDownCmpFunc_sel_end.F m_ m (i, hi, first, ()))).bind fun ((), ys) =>
    self (first, lo, hi, (IntKind.i64.wrap (i - (1 : Int))), ys, ())
  else
    some (first, lo, hi, m, ())
theorem slices_heapSortCmpFunc_sel_end.k0 (m_ : Mode) : ∀ (self : Known slices_heapSortCmpFunc_sel_end.e0.sls → Option (Exits slices_heapSortCmpFunc_sel_end.x0)) (v : Known slices_heapSortCmpFunc_sel_end.e0.sls), runS P (both (oras (slices_heapSortCmpFunc_sel_end.cs m_)) (procs (slices_heapSortCmpFunc_sel_end.ps m_))) slices_heapSortCmpFunc_sel_end.inl (⟨slices_heapSortCmpFunc_sel_end.e0, self⟩ :: exitCuts slices_heapSortCmpFunc_sel_end.x0 id) [] (fun _ _ => none) 20000 false (slices_heapSortCmpFunc_sel_end.e0.mk' v) = slices_heapSortCmpFunc_sel_end.b0 m_ self v := by
  intro self v_; exact (match v_ with | (first, lo, hi, i, m, ()) => by kernel_rfl)
noncomputable def slices_heapSortCmpFunc_sel_end.l0 (m_ : Mode) : Int × Int × Int × Int × (List (List Int)) × Unit → Option ((Int × Int × Int × (List (List Int)) × Unit)) := loop m_ (slices_heapSortCmpFunc_sel_end.b0 m_)
theorem slices_heapSortCmpFunc_sel_end.q0 (v) : slices_heapSortCmpFunc_sel_end.l0 .lim v = slices_heapSortCmpFunc_sel_end.b0 .lim (slices_heapSortCmpFunc_sel_end.l0 .lim) v := lfp_eq (cont_of_run (slices_heapSortCmpFunc_sel_end.k0 .lim)) v
noncomputable def slices_heapSortCmpFunc_sel_end.g0 (m_ : Mode) : Seg := ⟨slices_heapSortCmpFunc_sel_end.e0, slices_heapSortCmpFunc_sel_end.x0, slices_heapSortCmpFunc_sel_end.l0 m_⟩
theorem slices_heapSortCmpFunc_sel_end.s0 (m_ : Mode) (S0 w0 cs0) : SegGood P S0 w0 cs0 35 (slices_heapSortCmpFunc_sel_end.g0 m_) := seg_loop m_ (both_ok (oras_ok (slices_heapSortCmpFunc_sel_end.csok m_)) (procs_ok (slices_heapSortCmpFunc_sel_end.psok m_))) (all_nil) (by rfl) (fun e he => List.all_eq_true.1 (show slices_heapSortCmpFunc_sel_end.x0.all Spec.ok = true by rfl) e he) (slices_heapSortCmpFunc_sel_end.k0 m_)
def slices_heapSortCmpFunc_sel_end.e1 : Spec := ⟨[{ fn := 35, items := [.code [.r, .r, .r, .r, .r, .l, .l], .inLoop [.r, .r, .r, .r, .r, .l, .l], .inBlock 2], slots := [(0, .own 1000000 (.arr 2 (.int .i64))), (3, .fn (.func 26) []), (8, .dat (.int .i64)), (9, .dat (.int .i64)), (12, .dat (.int .i64))] }], [(1000000, .cells false [.row (.arr 2 (.int .i64))])], 1000001⟩
def slices_heapSortCmpFunc_sel_end.x1 : List Spec := [⟨[{ fn := 35, items := [], slots := [] }], [(1000000, .cells false [.row (.arr 2 (.int .i64))])], 1000001⟩]
noncomputable def slices_heapSortCmpFunc_sel_end.b1 (m_ : Mode) (self : Int × Int × Int × (List (List Int)) × Unit → Option (((List (List Int)) × Unit))) : Int × Int × Int × (List (List Int)) × Unit → Option (((List (List Int)) × Unit)) := fun v_ => match v_ with
| (first, lo, i, m, ()) =>
  bif decide (i ≥ (0 : Int)) then
    bif inB (IntKind.i64.wrap (first + i)) (m.length : Int) then
    bif inB first (m.length : Int) then
    bif inB first (m.length : Int) then
    bif inB (IntKind.i64.wrap (first + i)) ((m.set first.toNat (rd (List.replicate 2 (0 : Int) : List Int) m (IntKind.i64.wrap (first + i)))).length : Int) then
    (lenOK ((m.set first.toNat (rd (List.replicate 2 (0 : Int) : List Int) m (IntKind.i64.wrap (first + i)))).set ((IntKind.i64.wrap (first + i)).toNat) (rd (List.replicate 2 (0 : Int) : List Int) m first)) (slices_siftDownCmpFunc_sel_end.F m_ ((m.set first.toNat (rd (List.replicate 2 (0 : Int) : List Int) m (IntKind.i64.wrap (first + i)))).set ((IntKind.i64.wrap (first + i)).toNat) (rd (List.replicate 2 (0 : Int) : List Int) m first)) (lo, i, first, ()))).bind fun ((), ys) =>
    self (first, lo, (IntKind.i64.wrap (i - (1 : Int))), ys, ())
    else none
    else none
    else none
    else none
  else
    some (m, ())
theorem slices_heapSortCmpFunc_sel_end.k1 (m_ : Mode) : ∀ (self : Known slices_heapSortCmpFunc_sel_end.e1.sls → Option (Exits slices_heapSortCmpFunc_sel_end.x1)) (v : Known slices_heapSortCmpFunc_sel_end.e1.sls), runS P (both (oras (slices_heapSortCmpFunc_sel_end.cs m_)) (procs (slices_heapSortCmpFunc_sel_end.ps m_))) slices_heapSortCmpFunc_sel_end.inl (⟨slices_heapSortCmpFunc_sel_end.e1, self⟩ :: exitCuts slices_heapSortCmpFunc_sel_end.x1 id) [] (fun _ _ => none) 20000 false (slices_heapSortCmpFunc_sel_end.e1.mk' v) = slices_heapSortCmpFunc_sel_end.b1 m_ self v := by
  intro self v_; exact (match v_ with | (first, lo, i, m, ()) => by kernel_rfl)
noncomputable def slices_heapSortCmpFunc_sel_end.l1 (m_ : Mode) : Int × Int × Int × (List (List Int)) × Unit → Option (((List (List Int)) × Unit)) := loop m_ (slices_heapSortCmpFunc_sel_end.b1 m_)
theorem slices_heapSortCmpFunc_sel_end.q1 (v) : slices_heapSortCmpFunc_sel_end.l1 .lim v = slices_heapSortCmpFunc_sel_end.b1 .lim (slices_heapSortCmpFunc_sel_end.l1 .lim) v := lfp_eq (cont_of_run (slices_heapSortCmpFunc_sel_end.k1 .lim)) v
noncomputable def slices_heapSortCmpFunc_sel_end.g1 (m_ : Mode) : Seg := ⟨slices_heapSortCmpFunc_sel_end.e1, slices_heapSortCmpFunc_sel_end.x1, slices_heapSortCmpFunc_sel_end.l1 m_⟩
theorem slices_heapSortCmpFunc_sel_end.s1 (m_ : Mode) (S0 w0 cs0) : SegGood P S0 w0 cs0 35 (slices_heapSortCmpFunc_sel_end.g1 m_) := seg_loop m_ (both_ok (oras_ok (slices_heapSortCmpFunc_sel_end.csok m_)) (procs_ok (slices_heapSortCmpFunc_sel_end.psok m_))) (all_nil) (by rfl) (fun e he => List.all_eq_true.1 (show slices_heapSortCmpFunc_sel_end.x1.all Spec.ok = true by rfl) e he) (slices_heapSortCmpFunc_sel_end.k1 m_)
noncomputable def slices_heapSortCmpFunc_sel_end.F (m_ : Mode) : List (List Int) → Int × Int × Unit → Option ((Unit) × List (List Int)) := fun xs v_ => match v_ with
| (a1, b, ()) =>
  (slices_heapSortCmpFunc_sel_end.l0 m_ (a1, (0 : Int), (IntKind.i64.wrap (b - a1)), (IntKind.i64.wrap ((IntKind.i64.wrap ((IntKind.i64.wrap (b - a1)) - (1 : Int))).tdiv (2 : Int))), xs, ())).bind fun (first, lo, hi, m, ()) =>
  (slices_heapSortCmpFunc_sel_end.l1 m_ (first, lo, (IntKind.i64.wrap (hi - (1 : Int))), m, ())).bind fun (m1, ()) =>
  some ((), m1)
theorem slices_heapSortCmpFunc_sel_end.k (m_ : Mode) : ∀ (xs_ : List (List Int)) (v : Shs (⟨35, (.arr 2 (.int .i64)), [.one (.int .i64), .one (.int .i64)], [26], .tup [], slices_heapSortCmpFunc_sel_end.F m_⟩ : Proc).args), runS P (both (oras (slices_heapSortCmpFunc_sel_end.cs m_)) (procs (slices_heapSortCmpFunc_sel_end.ps m_))) slices_heapSortCmpFunc_sel_end.inl [] [slices_heapSortCmpFunc_sel_end.g0 m_, slices_heapSortCmpFunc_sel_end.g1 m_] (⟨35, (.arr 2 (.int .i64)), [.one (.int .i64), .one (.int .i64)], [26], .tup [], slices_heapSortCmpFunc_sel_end.F m_⟩ : Proc).fin 20000 false ((⟨35, (.arr 2 (.int .i64)), [.one (.int .i64), .one (.int .i64)], [26], .tup [], slices_heapSortCmpFunc_sel_end.F m_⟩ : Proc).start xs_ v) = slices_heapSortCmpFunc_sel_end.F m_ xs_ v := by
  intro xs_ v_; exact (match v_ with | (a1, b, ()) => by kernel_rfl)
noncomputable def slices_heapSortCmpFunc_sel_end.p (m_ : Mode) : Proc := ⟨35, (.arr 2 (.int .i64)), [.one (.int .i64), .one (.int .i64)], [26], .tup [], slices_heapSortCmpFunc_sel_end.F m_⟩
theorem slices_heapSortCmpFunc_sel_end.pok (m_ : Mode) : (slices_heapSortCmpFunc_sel_end.p m_).OK P := (Proc.of_run (fun S0 w0 => (both_ok (oras_ok (slices_heapSortCmpFunc_sel_end.csok m_)) (procs_ok (slices_heapSortCmpFunc_sel_end.psok m_)))) (by kernel_rfl) (by rfl) (by rfl) (by rfl) (fun S0 w0 cs0 => all_cons (slices_heapSortCmpFunc_sel_end.s0 m_ S0 w0 cs0) (all_cons (slices_heapSortCmpFunc_sel_end.s1 m_ S0 w0 cs0) (all_nil))) (fun xs_ x r h => (slices_heapSortCmpFunc_sel_end.k m_ xs_ x).trans h))

/-! ### slices.nextPowerOfTwo -/
noncomputable def slices_nextPowerOfTwo.cs (m_ : Mode) : List Callee := [math_bits_Len.c m_]
theorem slices_nextPowerOfTwo.csok (m_ : Mode) : ∀ k ∈ slices_nextPowerOfTwo.cs m_, k.OK P := all_cons (math_bits_Len.ok m_) (all_nil)
def slices_nextPowerOfTwo.inl : FuncId → Bool := fun f => [].any (Nat.beq f)
noncomputable def slices_nextPowerOfTwo.run (m_ : Mode) : Int × Unit → Option (Int) := fun v_ => match v_ with
| (length, ()) =>
  (math_bits_Len.run m_ ((IntKind.u64.wrap length), ())).bind fun r =>
  bif decide ((0 : Int) ≤ r) then some (ishl .u64 (1 : Int) r) else none
noncomputable def slices_nextPowerOfTwo.c (m_ : Mode) : Callee := ⟨46, [.one (.int .i64)], .one (.sh (.one (.int .u64))), slices_nextPowerOfTwo.run m_⟩
theorem slices_nextPowerOfTwo.k (m_ : Mode) : ∀ v : Shs (slices_nextPowerOfTwo.c m_).args, runS P (oras (slices_nextPowerOfTwo.cs m_)) slices_nextPowerOfTwo.inl [] [] (slices_nextPowerOfTwo.c m_).res.fin 20000 false (start 46 (encs (slices_nextPowerOfTwo.c m_).args v)) = slices_nextPowerOfTwo.run m_ v := by
  intro v_; exact (match v_ with | (length, ()) => by kernel_rfl)
theorem slices_nextPowerOfTwo.ok (m_ : Mode) : (slices_nextPowerOfTwo.c m_).OK P := Callee.of_run (fun S0 w0 => (oras_ok (slices_nextPowerOfTwo.csok m_))) (by kernel_rfl) (by rfl) (fun S0 w0 cs0 => all_nil) (fun x r h => (slices_nextPowerOfTwo.k m_ x).trans h)

/-! ### slices.breakPatternsCmpFunc[pendulum/sel.end] -/
noncomputable def slices_breakPatternsCmpFunc_sel_end.cs (m_ : Mode) : List Callee := [slices_nextPowerOfTwo.c m_]
theorem slices_breakPatternsCmpFunc_sel_end.csok (m_ : Mode) : ∀ k ∈ slices_breakPatternsCmpFunc_sel_end.cs m_, k.OK P := all_cons (slices_nextPowerOfTwo.ok m_) (all_nil)
def slices_breakPatternsCmpFunc_sel_end.inl : FuncId → Bool := fun f => [47].any (Nat.beq f)
def slices_breakPatternsCmpFunc_sel_end.e0 : Spec := ⟨[{ fn := 36, items := [.code [.r, .r, .l, .r, .r, .r, .l, .l], .inLoop [.r, .r, .l, .r, .r, .r, .l, .l], .inBlock 0], slots := [(0, .own 1000000 (.arr 2 (.int .i64))), (1, .dat (.int .i64)), (8, .dat (.int .i64)), (9, .ptr 1000009 0), (10, .dat (.int .u64)), (11, .dat (.int .i64))] }], [(1000000, .cells false [.row (.arr 2 (.int .i64))]), (1000009, .cells false [.dat (.int .u64)])], 1000010⟩
def slices_breakPatternsCmpFunc_sel_end.x0 : List Spec := [⟨[{ fn := 36, items := [], slots := [] }], [(1000000, .cells false [.row (.arr 2 (.int .i64))])], 1000001⟩]
noncomputable def slices_breakPatternsCmpFunc_sel_end.b0 (m_ : Mode) (self : Int × Int × Int × Int × (List (List Int)) × Int × Unit → Option (((List (List Int)) × Unit))) : Int × Int × Int × Int × (List (List Int)) × Int × Unit → Option (((List (List Int)) × Unit)) := fun v_ => match v_ with
| (a, length, modulus, idx, m, m1, ()) =>
  bif decide (idx ≤ (IntKind.i64.wrap ((IntKind.i64.wrap (a + (IntKind.i64.wrap ((IntKind.i64.wrap (length.tdiv (4 : Int))) * (2 : Int))))) + (1 : Int)))) then
    bif decide ((IntKind.i64.wrap (iand .u64 (ixor .u64 (ixor .u64 (ixor .u64 m1 (ishl .u64 m1 (13 : Int))) (ishr .u64 (ixor .u64 m1 (ishl .u64 m1 (13 : Int))) (7 : Int))) (ishl .u64 (ixor .u64 (ixor .u64 m1 (ishl .u64 m1 (13 : Int))) (ishr .u64 (ixor .u64 m1 (ishl .u64 m1 (13 : Int))) (7 : Int))) (17 : Int))) (IntKind.u64.wrap (modulus - (1 : Int))))) ≥ length) then
      bif inB (IntKind.i64.wrap (a + (IntKind.i64.wrap ((IntKind.i64.wrap (iand .u64 (ixor .u64 (ixor .u64 (ixor .u64 m1 (ishl .u64 m1 (13 : Int))) (ishr .u64 (ixor .u64 m1 (ishl .u64 m1 (13 : Int))) (7 : Int))) (ishl .u64 (ixor .u64 (ixor .u64 m1 (ishl .u64 m1 (13 : Int))) (ishr .u64 (ixor .u64 m1 (ishl .u64 m1 (13 : Int))) (7 : Int))) (17 : Int))) (IntKind.u64.wrap (modulus - (1 : Int))))) - length)))) (m.length : Int) then
      bif inB idx (m.length : Int) then
      bif inB idx (m.length : Int) then
      bif inB (IntKind.i64.wrap (a + (IntKind.i64.wrap ((IntKind.i64.wrap (iand .u64 (ixor .u64 (ixor .u64 (ixor .u64 m1 (ishl .u64 m1 (13 : Int))) (ishr .u64 (ixor .u64 m1 (ishl .u64 m1 (13 : Int))) (7 : Int))) (ishl .u64 (ixor .u64 (ixor .u64 m1 (ishl .u64 m1 (13 : Int))) (ishr .u64 (ixor .u64 m1 (ishl .u64 m1 (13 : Int))) (7 : Int))) (17 : Int))) (IntKind.u64.wrap (modulus - (1 : Int))))) - length)))) ((m.set idx.toNat (rd (List.replicate 2 (0 : Int) : List Int) m (IntKind.i64.wrap (a + (IntKind.i64.wrap ((IntKind.i64.wrap (iand .u64 (ixor .u64 (ixor .u64 (ixor .u64 m1 (ishl .u64 m1 (13 : Int))) (ishr .u64 (ixor .u64 m1 (ishl .u64 m1 (13 : Int))) (7 : Int))) (ishl .u64 (ixor .u64 (ixor .u64 m1 (ishl .u64 m1 (13 : Int))) (ishr .u64 (ixor .u64 m1 (ishl .u64 m1 (13 : Int))) (7 : Int))) (17 : Int))) (IntKind.u64.wrap (modulus - (1 : Int))))) - length)))))).length : Int) then self (a, length, modulus, (IntKind.i64.wrap (idx + (1 : Int))), ((m.set idx.toNat (rd (List.replicate 2 (0 : Int) : List Int) m (IntKind.i64.wrap (a + (IntKind.i64.wrap ((IntKind.i64.wrap (iand .u64 (ixor .u64 (ixor .u64 (ixor .u64 m1 (ishl .u64 m1 (13 : Int))) (ishr .u64 (ixor .u64 m1 (ishl .u64 m1 (13 : Int))) (7 : Int))) (ishl .u64 (ixor .u64 (ixor .u64 m1 (ishl .u64 m1 (13 : Int))) (ishr .u64 (ixor .u64 m1 (ishl .u64 m1 (13 : Int))) (7 : Int))) (17 : Int))) (IntKind.u64.wrap (modulus - (1 : Int))))) - length)))))).set ((IntKind.i64.wrap (a + (IntKind.i64.wrap ((IntKind.i64.wrap (iand .u64 (ixor .u64 (ixor .u64 (ixor .u64 m1 (ishl .u64 m1 (13 : Int))) (ishr .u64 (ixor .u64 m1 (ishl .u64 m1 (13 : Int))) (7 : Int))) (ishl .u64 (ixor .u64 (ixor .u64 m1 (ishl .u64 m1 (13 : Int))) (ishr .u64 (ixor .u64 m1 (ishl .u64 m1 (13 : Int))) (7 : Int))) (17 : Int))) (IntKind.u64.wrap (modulus - (1 : Int))))) - length)))).toNat) (rd (List.replicate 2 (0 : Int) : List Int) m idx)), (ixor .u64 (ixor .u64 (ixor .u64 m1 (ishl .u64 m1 (13 : Int))) (ishr .u64 (ixor .u64 m1 (ishl .u64 m1 (13 : Int))) (7 : Int))) (ishl .u64 (ixor .u64 (ixor .u64 m1 (ishl .u64 m1 (13 : Int))) (ishr .u64 (ixor .u64 m1 (ishl .u64 m1 (13 : Int))) (7 : Int))) (17 : Int))), ()) else none
      else none
      else none
      else none
    else
      bif inB (IntKind.i64.wrap (a + (IntKind.i64.wrap (iand .u64 (ixor .u64 (ixor .u64 (ixor .u64 m1 (ishl .u64 m1 (13 : Int))) (ishr .u64 (ixor .u64 m1 (ishl .u64 m1 (13 : Int))) (7 : Int))) (ishl .u64 (ixor .u64 (ixor .u64 m1 (ishl .u64 m1 (13 : Int))) (ishr .u64 (ixor .u64 m1 (ishl .u64 m1 (13 : Int))) (7 : Int))) (17 : Int))) (IntKind.u64.wrap (modulus - (1 : Int))))))) (m.length : Int) then
      bif inB idx (m.length : Int) then
      bif inB idx (m.length : Int) then
      bif inB (IntKind.i64.wrap (a + (IntKind.i64.wrap (iand .u64 (ixor .u64 (ixor .u64 (ixor .u64 m1 (ishl .u64 m1 (13 : Int))) (ishr .u64 (ixor .u64 m1 (ishl .u64 m1 (13 : Int))) (7 : Int))) (ishl .u64 (ixor .u64 (ixor .u64 m1 (ishl .u64 m1 (13 : Int))) (ishr .u64 (ixor .u64 m1 (ishl .u64 m1 (13 : Int))) (7 : Int))) (17 : Int))) (IntKind.u64.wrap (modulus - (1 : Int))))))) ((m.set idx.toNat (rd (List.replicate 2 (0 : Int) : List Int) m (IntKind.i64.wrap (a + (IntKind.i64.wrap (iand .u64 (ixor .u64 (ixor .u64 (ixor .u64 m1 (ishl .u64 m1 (13 : Int))) (ishr .u64 (ixor .u64 m1 (ishl .u64 m1 (13 : Int))) (7 : Int))) (ishl .u64 (ixor .u64 (ixor .u64 m1 (ishl .u64 m1 (13 : Int))) (ishr .u64 (ixor .u64 m1 (ishl .u64 m1 (13 : Int))) (7 : Int))) (17 : Int))) (IntKind.u64.wrap (modulus - (1 : Int))))))))).length : Int) then self (a, length, modulus, (IntKind.i64.wrap (idx + (1 : Int))), ((m.set idx.toNat (rd (List.replicate 2 (0 : Int) : List Int) m (IntKind.i64.wrap (a + (IntKind.i64.wrap (iand .u64 (ixor .u64 (ixor .u64 (ixor .u64 m1 (ishl .u64 m1 (13 : Int))) (ishr .u64 (ixor .u64 m1 (ishl .u64 m1 (13 : Int))) (7 : Int))) (ishl .u64 (ixor .u64 (ixor .u64 m1 (ishl .u64 m1 (13 : Int))) (ishr .u64 (ixor .u64 m1 (ishl .u64 m1 (13 : Int))) (7 : Int))) (17 : Int))) (IntKind.u64.wrap (modulus - (1 : Int))))))))).set ((IntKind.i64.wrap (a + (IntKind.i64.wrap (iand .u64 (ixor .u64 (ixor .u64 (ixor .u64 m1 (ishl .u64 m1 (13 : Int))) (ishr .u64 (ixor .u64 m1 (ishl .u64 m1 (13 : Int))) (7 : Int))) (ishl .u64 (ixor .u64 (ixor .u64 m1 (ishl .u64 m1 (13 : Int))) (ishr .u64 (ixor .u64 m1 (ishl .u64 m1 (13 : Int))) (7 : Int))) (17 : Int))) (IntKind.u64.wrap (modulus - (1 : Int))))))).toNat) (rd (List.replicate 2 (0 : Int) : List Int) m idx)), (ixor .u64 (ixor .u64 (ixor .u64 m1 (ishl .u64 m1 (13 : Int))) (ishr .u64 (ixor .u64 m1 (ishl .u64 m1 (13 : Int))) (7 : Int))) (ishl .u64 (ixor .u64 (ixor .u64 m1 (ishl .u64 m1 (13 : Int))) (ishr .u64 (ixor .u64 m1 (ishl .u64 m1 (13 : Int))) (7 : Int))) (17 : Int))), ()) else none
      else none
      else none
      else none
  else
    some (m, ())
theorem slices_breakPatternsCmpFunc_sel_end.k0 (m_ : Mode) : ∀ (self : Known slices_breakPatternsCmpFunc_sel_end.e0.sls → Option (Exits slices_breakPatternsCmpFunc_sel_end.x0)) (v : Known slices_breakPatternsCmpFunc_sel_end.e0.sls), runS P (oras (slices_breakPatternsCmpFunc_sel_end.cs m_)) slices_breakPatternsCmpFunc_sel_end.inl (⟨slices_breakPatternsCmpFunc_sel_end.e0, self⟩ :: exitCuts slices_breakPatternsCmpFunc_sel_end.x0 id) [] (fun _ _ => none) 20000 false (slices_breakPatternsCmpFunc_sel_end.e0.mk' v) = slices_breakPatternsCmpFunc_sel_end.b0 m_ self v := by
  intro self v_; exact (match v_ with | (a, length, modulus, idx, m, m1, ()) => by kernel_rfl)
noncomputable def slices_breakPatternsCmpFunc_sel_end.l0 (m_ : Mode) : Int × Int × Int × Int × (List (List Int)) × Int × Unit → Option (((List (List Int)) × Unit)) := loop m_ (slices_breakPatternsCmpFunc_sel_end.b0 m_)
theorem slices_breakPatternsCmpFunc_sel_end.q0 (v) : slices_breakPatternsCmpFunc_sel_end.l0 .lim v = slices_breakPatternsCmpFunc_sel_end.b0 .lim (slices_breakPatternsCmpFunc_sel_end.l0 .lim) v := lfp_eq (cont_of_run (slices_breakPatternsCmpFunc_sel_end.k0 .lim)) v
noncomputable def slices_breakPatternsCmpFunc_sel_end.g0 (m_ : Mode) : Seg := ⟨slices_breakPatternsCmpFunc_sel_end.e0, slices_breakPatternsCmpFunc_sel_end.x0, slices_breakPatternsCmpFunc_sel_end.l0 m_⟩
theorem slices_breakPatternsCmpFunc_sel_end.s0 (m_ : Mode) (S0 w0 cs0) : SegGood P S0 w0 cs0 36 (slices_breakPatternsCmpFunc_sel_end.g0 m_) := seg_loop m_ (oras_ok (slices_breakPatternsCmpFunc_sel_end.csok m_)) (all_nil) (by rfl) (fun e he => List.all_eq_true.1 (show slices_breakPatternsCmpFunc_sel_end.x0.all Spec.ok = true by rfl) e he) (slices_breakPatternsCmpFunc_sel_end.k0 m_)
noncomputable def slices_breakPatternsCmpFunc_sel_end.F (m_ : Mode) : List (List Int) → Int × Int × Unit → Option ((Unit) × List (List Int)) := fun xs v_ => match v_ with
| (a1, b, ()) =>
  bif decide ((IntKind.i64.wrap (b - a1)) ≥ (8 : Int)) then
    (slices_nextPowerOfTwo.run m_ ((IntKind.i64.wrap (b - a1)), ())).bind fun r =>
    (slices_breakPatternsCmpFunc_sel_end.l0 m_ (a1, (IntKind.i64.wrap (b - a1)), r, (IntKind.i64.wrap ((IntKind.i64.wrap (a1 + (IntKind.i64.wrap ((IntKind.i64.wrap ((IntKind.i64.wrap (b - a1)).tdiv (4 : Int))) * (2 : Int))))) - (1 : Int))), xs, (IntKind.u64.wrap (IntKind.i64.wrap (b - a1))), ())).bind fun (m, ()) =>
    some ((), m)
  else
    some ((), xs)
theorem slices_breakPatternsCmpFunc_sel_end.k (m_ : Mode) : ∀ (xs_ : List (List Int)) (v : Shs (⟨36, (.arr 2 (.int .i64)), [.one (.int .i64), .one (.int .i64)], [26], .tup [], slices_breakPatternsCmpFunc_sel_end.F m_⟩ : Proc).args), runS P (oras (slices_breakPatternsCmpFunc_sel_end.cs m_)) slices_breakPatternsCmpFunc_sel_end.inl [] [slices_breakPatternsCmpFunc_sel_end.g0 m_] (⟨36, (.arr 2 (.int .i64)), [.one (.int .i64), .one (.int .i64)], [26], .tup [], slices_breakPatternsCmpFunc_sel_end.F m_⟩ : Proc).fin 20000 false ((⟨36, (.arr 2 (.int .i64)), [.one (.int .i64), .one (.int .i64)], [26], .tup [], slices_breakPatternsCmpFunc_sel_end.F m_⟩ : Proc).start xs_ v) = slices_breakPatternsCmpFunc_sel_end.F m_ xs_ v := by
  intro xs_ v_; exact (match v_ with | (a1, b, ()) => by kernel_rfl)
noncomputable def slices_breakPatternsCmpFunc_sel_end.p (m_ : Mode) : Proc := ⟨36, (.arr 2 (.int .i64)), [.one (.int .i64), .one (.int .i64)], [26], .tup [], slices_breakPatternsCmpFunc_sel_end.F m_⟩
theorem slices_breakPatternsCmpFunc_sel_end.pok (m_ : Mode) : (slices_breakPatternsCmpFunc_sel_end.p m_).OK P := (Proc.of_run (fun S0 w0 => (oras_ok (slices_breakPatternsCmpFunc_sel_end.csok m_))) (by kernel_rfl) (by rfl) (by rfl) (by rfl) (fun S0 w0 cs0 => all_cons (slices_breakPatternsCmpFunc_sel_end.s0 m_ S0 w0 cs0) (all_nil)) (fun xs_ x r h => (slices_breakPatternsCmpFunc_sel_end.k m_ xs_ x).trans h))

/-! ### slices.choosePivotCmpFunc[pendulum/sel.end] -/
noncomputable def slices_choosePivotCmpFunc_sel_end.cs (m_ : Mode) : List Callee := [sel_ends_1.c m_]
theorem slices_choosePivotCmpFunc_sel_end.csok (m_ : Mode) : ∀ k ∈ slices_choosePivotCmpFunc_sel_end.cs m_, k.OK P := all_cons (sel_ends_1.ok m_) (all_nil)
def slices_choosePivotCmpFunc_sel_end.inl : FuncId → Bool := fun f => [48, 49, 50].any (Nat.beq f)
def slices_choosePivotCmpFunc_sel_end.e0 : Spec := ⟨[{ fn := 50, items := [.code []], slots := [(0, .own 1000000 (.arr 2 (.int .i64))), (1, .dat (.int .i64)), (2, .dat (.int .i64)), (3, .ptr 1000007 0), (4, .fn (.func 26) [])] }, { fn := 49, items := [.inRegion [.r, .l] [5, 6, 7, 8, 9, 10], .code [.r, .r]], slots := [(0, .own 1000000 (.arr 2 (.int .i64))), (3, .dat (.int .i64)), (4, .ptr 1000007 0), (5, .fn (.func 26) [])] }, { fn := 48, items := [.inRegion [.r, .l] [8, 9], .code [.r, .r]], slots := [] }, { fn := 37, items := [.inRegion [.r, .r, .r, .r, .r, .r, .l, .r, .l, .l, .r, .l, .l] [3, 4], .code [.r, .r, .r, .r, .r, .r, .l, .r, .l, .l, .r, .l, .r], .code [.r, .r, .r, .r, .r, .r, .l, .r, .l, .r], .code [.r, .r, .r, .r, .r, .r, .r]], slots := [(0, .own 1000000 (.arr 2 (.int .i64))), (3, .fn (.func 26) []), (11, .ptr 1000007 0), (13, .dat (.int .i64)), (14, .dat (.int .i64))] }], [(1000000, .cells false [.row (.arr 2 (.int .i64))]), (1000007, .cells false [.dat (.int .i64)])], 1000008⟩
def slices_choosePivotCmpFunc_sel_end.x0 : List Spec := [⟨[{ fn := 50, items := [.code [.r, .l, .r, .l, .r, .r], .code [.r, .r]], slots := [(10, .dat (.int .i64)), (11, .dat (.int .i64))] }, { fn := 49, items := [.inRegion [.r, .l] [5, 6, 7, 8, 9, 10], .code [.r, .r]], slots := [(0, .own 1000000 (.arr 2 (.int .i64))), (3, .dat (.int .i64)), (4, .ptr 1000007 0), (5, .fn (.func 26) [])] }, { fn := 48, items := [.inRegion [.r, .l] [8, 9], .code [.r, .r]], slots := [] }, { fn := 37, items := [.inRegion [.r, .r, .r, .r, .r, .r, .l, .r, .l, .l, .r, .l, .l] [3, 4], .code [.r, .r, .r, .r, .r, .r, .l, .r, .l, .l, .r, .l, .r], .code [.r, .r, .r, .r, .r, .r, .l, .r, .l, .r], .code [.r, .r, .r, .r, .r, .r, .r]], slots := [(0, .own 1000000 (.arr 2 (.int .i64))), (3, .fn (.func 26) []), (11, .ptr 1000007 0), (13, .dat (.int .i64)), (14, .dat (.int .i64))] }], [(1000000, .cells false [.row (.arr 2 (.int .i64))]), (1000007, .cells false [.dat (.int .i64)])], 1000008⟩, ⟨[{ fn := 50, items := [.code [.r, .r, .r]], slots := [(10, .dat (.int .i64)), (11, .dat (.int .i64))] }, { fn := 49, items := [.inRegion [.r, .l] [5, 6, 7, 8, 9, 10], .code [.r, .r]], slots := [(0, .own 1000000 (.arr 2 (.int .i64))), (3, .dat (.int .i64)), (4, .ptr 1000007 0), (5, .fn (.func 26) [])] }, { fn := 48, items := [.inRegion [.r, .l] [8, 9], .code [.r, .r]], slots := [] }, { fn := 37, items := [.inRegion [.r, .r, .r, .r, .r, .r, .l, .r, .l, .l, .r, .l, .l] [3, 4], .code [.r, .r, .r, .r, .r, .r, .l, .r, .l, .l, .r, .l, .r], .code [.r, .r, .r, .r, .r, .r, .l, .r, .l, .r], .code [.r, .r, .r, .r, .r, .r, .r]], slots := [(0, .own 1000000 (.arr 2 (.int .i64))), (3, .fn (.func 26) []), (11, .ptr 1000007 0), (13, .dat (.int .i64)), (14, .dat (.int .i64))] }], [(1000000, .cells false [.row (.arr 2 (.int .i64))]), (1000007, .cells false [.dat (.int .i64)])], 1000008⟩]
noncomputable def slices_choosePivotCmpFunc_sel_end.b0 (m_ : Mode) (self : Int × Int × Int × Int × Int × (List (List Int)) × Int × Unit → Option ((Int × Int × Int × Int × Int × (List (List Int)) × Int × Unit) ⊕ (Int × Int × Int × Int × Int × (List (List Int)) × Int × Unit))) : Int × Int × Int × Int × Int × (List (List Int)) × Int × Unit → Option ((Int × Int × Int × Int × Int × (List (List Int)) × Int × Unit) ⊕ (Int × Int × Int × Int × Int × (List (List Int)) × Int × Unit)) := fun v_ => match v_ with
| (a, b, c, j, k, m, m1, ()) =>
  bif inB b (m.length : Int) then
  bif inB a (m.length : Int) then
  (sel_ends_1.run m_ ((rd (List.replicate 2 (0 : Int) : List Int) m b), (rd (List.replicate 2 (0 : Int) : List Int) m a), ())).bind fun r =>
  bif decide (r < (0 : Int)) then
    some (.inl (b, a, c, j, k, m, (IntKind.i64.wrap (m1 + (1 : Int))), ()))
  else
    some (.inr (a, b, c, j, k, m, m1, ()))
  else none
  else none
theorem slices_choosePivotCmpFunc_sel_end.k0 (m_ : Mode) : ∀ (self : Known slices_choosePivotCmpFunc_sel_end.e0.sls → Option (Exits slices_choosePivotCmpFunc_sel_end.x0)) (v : Known slices_choosePivotCmpFunc_sel_end.e0.sls), runS P (oras (slices_choosePivotCmpFunc_sel_end.cs m_)) slices_choosePivotCmpFunc_sel_end.inl (⟨slices_choosePivotCmpFunc_sel_end.e0, self⟩ :: exitCuts slices_choosePivotCmpFunc_sel_end.x0 id) [] (fun _ _ => none) 20000 false (slices_choosePivotCmpFunc_sel_end.e0.mk' v) = slices_choosePivotCmpFunc_sel_end.b0 m_ self v := by
  intro self v_; exact (match v_ with | (a, b, c, j, k, m, m1, ()) => by kernel_rfl)
noncomputable def slices_choosePivotCmpFunc_sel_end.l0 (m_ : Mode) : Int × Int × Int × Int × Int × (List (List Int)) × Int × Unit → Option ((Int × Int × Int × Int × Int × (List (List Int)) × Int × Unit) ⊕ (Int × Int × Int × Int × Int × (List (List Int)) × Int × Unit)) := loop m_ (slices_choosePivotCmpFunc_sel_end.b0 m_)
theorem slices_choosePivotCmpFunc_sel_end.q0 (v) : slices_choosePivotCmpFunc_sel_end.l0 .lim v = slices_choosePivotCmpFunc_sel_end.b0 .lim (slices_choosePivotCmpFunc_sel_end.l0 .lim) v := lfp_eq (cont_of_run (slices_choosePivotCmpFunc_sel_end.k0 .lim)) v
noncomputable def slices_choosePivotCmpFunc_sel_end.g0 (m_ : Mode) : Seg := ⟨slices_choosePivotCmpFunc_sel_end.e0, slices_choosePivotCmpFunc_sel_end.x0, slices_choosePivotCmpFunc_sel_end.l0 m_⟩
theorem slices_choosePivotCmpFunc_sel_end.s0 (m_ : Mode) (S0 w0 cs0) : SegGood P S0 w0 cs0 37 (slices_choosePivotCmpFunc_sel_end.g0 m_) := seg_loop m_ (oras_ok (slices_choosePivotCmpFunc_sel_end.csok m_)) (all_nil) (by rfl) (fun e he => List.all_eq_true.1 (show slices_choosePivotCmpFunc_sel_end.x0.all Spec.ok = true by rfl) e he) (slices_choosePivotCmpFunc_sel_end.k0 m_)
def slices_choosePivotCmpFunc_sel_end.e1 : Spec := ⟨[{ fn := 50, items := [.code []], slots := [(0, .own 1000000 (.arr 2 (.int .i64))), (1, .dat (.int .i64)), (2, .dat (.int .i64)), (3, .ptr 1000007 0), (4, .fn (.func 26) [])] }, { fn := 49, items := [.inRegion [.r, .r, .l] [5, 6, 7, 8, 9, 10], .code [.r, .r, .r]], slots := [(0, .own 1000000 (.arr 2 (.int .i64))), (1, .dat (.int .i64)), (4, .ptr 1000007 0), (5, .fn (.func 26) [])] }, { fn := 48, items := [.inRegion [.r, .l] [8, 9], .code [.r, .r]], slots := [] }, { fn := 37, items := [.inRegion [.r, .r, .r, .r, .r, .r, .l, .r, .l, .l, .r, .l, .l] [3, 4], .code [.r, .r, .r, .r, .r, .r, .l, .r, .l, .l, .r, .l, .r], .code [.r, .r, .r, .r, .r, .r, .l, .r, .l, .r], .code [.r, .r, .r, .r, .r, .r, .r]], slots := [(0, .own 1000000 (.arr 2 (.int .i64))), (3, .fn (.func 26) []), (11, .ptr 1000007 0), (13, .dat (.int .i64)), (14, .dat (.int .i64))] }], [(1000000, .cells false [.row (.arr 2 (.int .i64))]), (1000007, .cells false [.dat (.int .i64)])], 1000008⟩
def slices_choosePivotCmpFunc_sel_end.x1 : List Spec := [⟨[{ fn := 50, items := [.code [.r, .l, .r, .l, .r, .r], .code [.r, .r]], slots := [(10, .dat (.int .i64)), (11, .dat (.int .i64))] }, { fn := 49, items := [.inRegion [.r, .r, .l] [5, 6, 7, 8, 9, 10], .code [.r, .r, .r]], slots := [(0, .own 1000000 (.arr 2 (.int .i64))), (1, .dat (.int .i64)), (4, .ptr 1000007 0), (5, .fn (.func 26) [])] }, { fn := 48, items := [.inRegion [.r, .l] [8, 9], .code [.r, .r]], slots := [] }, { fn := 37, items := [.inRegion [.r, .r, .r, .r, .r, .r, .l, .r, .l, .l, .r, .l, .l] [3, 4], .code [.r, .r, .r, .r, .r, .r, .l, .r, .l, .l, .r, .l, .r], .code [.r, .r, .r, .r, .r, .r, .l, .r, .l, .r], .code [.r, .r, .r, .r, .r, .r, .r]], slots := [(0, .own 1000000 (.arr 2 (.int .i64))), (3, .fn (.func 26) []), (11, .ptr 1000007 0), (13, .dat (.int .i64)), (14, .dat (.int .i64))] }], [(1000000, .cells false [.row (.arr 2 (.int .i64))]), (1000007, .cells false [.dat (.int .i64)])], 1000008⟩, ⟨[{ fn := 50, items := [.code [.r, .r, .r]], slots := [(10, .dat (.int .i64)), (11, .dat (.int .i64))] }, { fn := 49, items := [.inRegion [.r, .r, .l] [5, 6, 7, 8, 9, 10], .code [.r, .r, .r]], slots := [(0, .own 1000000 (.arr 2 (.int .i64))), (1, .dat (.int .i64)), (4, .ptr 1000007 0), (5, .fn (.func 26) [])] }, { fn := 48, items := [.inRegion [.r, .l] [8, 9], .code [.r, .r]], slots := [] }, { fn := 37, items := [.inRegion [.r, .r, .r, .r, .r, .r, .l, .r, .l, .l, .r, .l, .l] [3, 4], .code [.r, .r, .r, .r, .r, .r, .l, .r, .l, .l, .r, .l, .r], .code [.r, .r, .r, .r, .r, .r, .l, .r, .l, .r], .code [.r, .r, .r, .r, .r, .r, .r]], slots := [(0, .own 1000000 (.arr 2 (.int .i64))), (3, .fn (.func 26) []), (11, .ptr 1000007 0), (13, .dat (.int .i64)), (14, .dat (.int .i64))] }], [(1000000, .cells false [.row (.arr 2 (.int .i64))]), (1000007, .cells false [.dat (.int .i64)])], 1000008⟩]
noncomputable def slices_choosePivotCmpFunc_sel_end.b1 (m_ : Mode) (self : Int × Int × Int × Int × Int × (List (List Int)) × Int × Unit → Option ((Int × Int × Int × Int × Int × (List (List Int)) × Int × Unit) ⊕ (Int × Int × Int × Int × Int × (List (List Int)) × Int × Unit))) : Int × Int × Int × Int × Int × (List (List Int)) × Int × Unit → Option ((Int × Int × Int × Int × Int × (List (List Int)) × Int × Unit) ⊕ (Int × Int × Int × Int × Int × (List (List Int)) × Int × Unit)) := fun v_ => match v_ with
| (a, b, a1, j, k, m, m1, ()) =>
  bif inB b (m.length : Int) then
  bif inB a (m.length : Int) then
  (sel_ends_1.run m_ ((rd (List.replicate 2 (0 : Int) : List Int) m b), (rd (List.replicate 2 (0 : Int) : List Int) m a), ())).bind fun r =>
  bif decide (r < (0 : Int)) then
    some (.inl (b, a, a1, j, k, m, (IntKind.i64.wrap (m1 + (1 : Int))), ()))
  else
    some (.inr (a, b, a1, j, k, m, m1, ()))
  else none
  else none
theorem slices_choosePivotCmpFunc_sel_end.k1 (m_ : Mode) : ∀ (self : Known slices_choosePivotCmpFunc_sel_end.e1.sls → Option (Exits slices_choosePivotCmpFunc_sel_end.x1)) (v : Known slices_choosePivotCmpFunc_sel_end.e1.sls), runS P (oras (slices_choosePivotCmpFunc_sel_end.cs m_)) slices_choosePivotCmpFunc_sel_end.inl (⟨slices_choosePivotCmpFunc_sel_end.e1, self⟩ :: exitCuts slices_choosePivotCmpFunc_sel_end.x1 id) [] (fun _ _ => none) 20000 false (slices_choosePivotCmpFunc_sel_end.e1.mk' v) = slices_choosePivotCmpFunc_sel_end.b1 m_ self v := by
  intro self v_; exact (match v_ with | (a, b, a1, j, k, m, m1, ()) => by kernel_rfl)
noncomputable def slices_choosePivotCmpFunc_sel_end.l1 (m_ : Mode) : Int × Int × Int × Int × Int × (List (List Int)) × Int × Unit → Option ((Int × Int × Int × Int × Int × (List (List Int)) × Int × Unit) ⊕ (Int × Int × Int × Int × Int × (List (List Int)) × Int × Unit)) := loop m_ (slices_choosePivotCmpFunc_sel_end.b1 m_)
theorem slices_choosePivotCmpFunc_sel_end.q1 (v) : slices_choosePivotCmpFunc_sel_end.l1 .lim v = slices_choosePivotCmpFunc_sel_end.b1 .lim (slices_choosePivotCmpFunc_sel_end.l1 .lim) v := lfp_eq (cont_of_run (slices_choosePivotCmpFunc_sel_end.k1 .lim)) v
noncomputable def slices_choosePivotCmpFunc_sel_end.g1 (m_ : Mode) : Seg := ⟨slices_choosePivotCmpFunc_sel_end.e1, slices_choosePivotCmpFunc_sel_end.x1, slices_choosePivotCmpFunc_sel_end.l1 m_⟩
theorem slices_choosePivotCmpFunc_sel_end.s1 (m_ : Mode) (S0 w0 cs0) : SegGood P S0 w0 cs0 37 (slices_choosePivotCmpFunc_sel_end.g1 m_) := seg_loop m_ (oras_ok (slices_choosePivotCmpFunc_sel_end.csok m_)) (all_nil) (by rfl) (fun e he => List.all_eq_true.1 (show slices_choosePivotCmpFunc_sel_end.x1.all Spec.ok = true by rfl) e he) (slices_choosePivotCmpFunc_sel_end.k1 m_)
def slices_choosePivotCmpFunc_sel_end.e2 : Spec := ⟨[{ fn := 50, items := [.code []], slots := [(0, .own 1000000 (.arr 2 (.int .i64))), (1, .dat (.int .i64)), (2, .dat (.int .i64)), (3, .ptr 1000007 0), (4, .fn (.func 26) [])] }, { fn := 49, items := [.inRegion [.r, .r, .r, .l] [5, 6, 7, 8, 9, 10], .code [.r, .r, .r, .r]], slots := [] }, { fn := 48, items := [.inRegion [.r, .l] [8, 9], .code [.r, .r]], slots := [] }, { fn := 37, items := [.inRegion [.r, .r, .r, .r, .r, .r, .l, .r, .l, .l, .r, .l, .l] [3, 4], .code [.r, .r, .r, .r, .r, .r, .l, .r, .l, .l, .r, .l, .r], .code [.r, .r, .r, .r, .r, .r, .l, .r, .l, .r], .code [.r, .r, .r, .r, .r, .r, .r]], slots := [(0, .own 1000000 (.arr 2 (.int .i64))), (3, .fn (.func 26) []), (11, .ptr 1000007 0), (13, .dat (.int .i64)), (14, .dat (.int .i64))] }], [(1000000, .cells false [.row (.arr 2 (.int .i64))]), (1000007, .cells false [.dat (.int .i64)])], 1000008⟩
def slices_choosePivotCmpFunc_sel_end.x2 : List Spec := [⟨[{ fn := 50, items := [.code [.r, .l, .r, .l, .r, .r], .code [.r, .r]], slots := [(10, .dat (.int .i64)), (11, .dat (.int .i64))] }, { fn := 49, items := [.inRegion [.r, .r, .r, .l] [5, 6, 7, 8, 9, 10], .code [.r, .r, .r, .r]], slots := [] }, { fn := 48, items := [.inRegion [.r, .l] [8, 9], .code [.r, .r]], slots := [] }, { fn := 37, items := [.inRegion [.r, .r, .r, .r, .r, .r, .l, .r, .l, .l, .r, .l, .l] [3, 4], .code [.r, .r, .r, .r, .r, .r, .l, .r, .l, .l, .r, .l, .r], .code [.r, .r, .r, .r, .r, .r, .l, .r, .l, .r], .code [.r, .r, .r, .r, .r, .r, .r]], slots := [(0, .own 1000000 (.arr 2 (.int .i64))), (3, .fn (.func 26) []), (11, .ptr 1000007 0), (13, .dat (.int .i64)), (14, .dat (.int .i64))] }], [(1000000, .cells false [.row (.arr 2 (.int .i64))]), (1000007, .cells false [.dat (.int .i64)])], 1000008⟩, ⟨[{ fn := 50, items := [.code [.r, .r, .r]], slots := [(10, .dat (.int .i64)), (11, .dat (.int .i64))] }, { fn := 49, items := [.inRegion [.r, .r, .r, .l] [5, 6, 7, 8, 9, 10], .code [.r, .r, .r, .r]], slots := [] }, { fn := 48, items := [.inRegion [.r, .l] [8, 9], .code [.r, .r]], slots := [] }, { fn := 37, items := [.inRegion [.r, .r, .r, .r, .r, .r, .l, .r, .l, .l, .r, .l, .l] [3, 4], .code [.r, .r, .r, .r, .r, .r, .l, .r, .l, .l, .r, .l, .r], .code [.r, .r, .r, .r, .r, .r, .l, .r, .l, .r], .code [.r, .r, .r, .r, .r, .r, .r]], slots := [(0, .own 1000000 (.arr 2 (.int .i64))), (3, .fn (.func 26) []), (11, .ptr 1000007 0), (13, .dat (.int .i64)), (14, .dat (.int .i64))] }], [(1000000, .cells false [.row (.arr 2 (.int .i64))]), (1000007, .cells false [.dat (.int .i64)])], 1000008⟩]
noncomputable def slices_choosePivotCmpFunc_sel_end.b2 (m_ : Mode) (self : Int × Int × Int × Int × (List (List Int)) × Int × Unit → Option ((Int × Int × Int × Int × (List (List Int)) × Int × Unit) ⊕ (Int × Int × Int × Int × (List (List Int)) × Int × Unit))) : Int × Int × Int × Int × (List (List Int)) × Int × Unit → Option ((Int × Int × Int × Int × (List (List Int)) × Int × Unit) ⊕ (Int × Int × Int × Int × (List (List Int)) × Int × Unit)) := fun v_ => match v_ with
| (a, b, j, k, m, m1, ()) =>
  bif inB b (m.length : Int) then
  bif inB a (m.length : Int) then
  (sel_ends_1.run m_ ((rd (List.replicate 2 (0 : Int) : List Int) m b), (rd (List.replicate 2 (0 : Int) : List Int) m a), ())).bind fun r =>
  bif decide (r < (0 : Int)) then
    some (.inl (b, a, j, k, m, (IntKind.i64.wrap (m1 + (1 : Int))), ()))
  else
    some (.inr (a, b, j, k, m, m1, ()))
  else none
  else none
theorem slices_choosePivotCmpFunc_sel_end.k2 (m_ : Mode) : ∀ (self : Known slices_choosePivotCmpFunc_sel_end.e2.sls → Option (Exits slices_choosePivotCmpFunc_sel_end.x2)) (v : Known slices_choosePivotCmpFunc_sel_end.e2.sls), runS P (oras (slices_choosePivotCmpFunc_sel_end.cs m_)) slices_choosePivotCmpFunc_sel_end.inl (⟨slices_choosePivotCmpFunc_sel_end.e2, self⟩ :: exitCuts slices_choosePivotCmpFunc_sel_end.x2 id) [] (fun _ _ => none) 20000 false (slices_choosePivotCmpFunc_sel_end.e2.mk' v) = slices_choosePivotCmpFunc_sel_end.b2 m_ self v := by
  intro self v_; exact (match v_ with | (a, b, j, k, m, m1, ()) => by kernel_rfl)
noncomputable def slices_choosePivotCmpFunc_sel_end.l2 (m_ : Mode) : Int × Int × Int × Int × (List (List Int)) × Int × Unit → Option ((Int × Int × Int × Int × (List (List Int)) × Int × Unit) ⊕ (Int × Int × Int × Int × (List (List Int)) × Int × Unit)) := loop m_ (slices_choosePivotCmpFunc_sel_end.b2 m_)
theorem slices_choosePivotCmpFunc_sel_end.q2 (v) : slices_choosePivotCmpFunc_sel_end.l2 .lim v = slices_choosePivotCmpFunc_sel_end.b2 .lim (slices_choosePivotCmpFunc_sel_end.l2 .lim) v := lfp_eq (cont_of_run (slices_choosePivotCmpFunc_sel_end.k2 .lim)) v
noncomputable def slices_choosePivotCmpFunc_sel_end.g2 (m_ : Mode) : Seg := ⟨slices_choosePivotCmpFunc_sel_end.e2, slices_choosePivotCmpFunc_sel_end.x2, slices_choosePivotCmpFunc_sel_end.l2 m_⟩
theorem slices_choosePivotCmpFunc_sel_end.s2 (m_ : Mode) (S0 w0 cs0) : SegGood P S0 w0 cs0 37 (slices_choosePivotCmpFunc_sel_end.g2 m_) := seg_loop m_ (oras_ok (slices_choosePivotCmpFunc_sel_end.csok m_)) (all_nil) (by rfl) (fun e he => List.all_eq_true.1 (show slices_choosePivotCmpFunc_sel_end.x2.all Spec.ok = true by rfl) e he) (slices_choosePivotCmpFunc_sel_end.k2 m_)
def slices_choosePivotCmpFunc_sel_end.e3 : Spec := ⟨[{ fn := 49, items := [.code []], slots := [(0, .own 1000000 (.arr 2 (.int .i64))), (1, .dat (.int .i64)), (2, .dat (.int .i64)), (3, .dat (.int .i64)), (4, .ptr 1000007 0), (5, .fn (.func 26) [])] }, { fn := 48, items := [.inRegion [.r, .l] [8, 9], .code [.r, .r]], slots := [] }, { fn := 37, items := [.inRegion [.r, .r, .r, .r, .r, .r, .l, .r, .l, .l, .r, .l, .l] [3, 4], .code [.r, .r, .r, .r, .r, .r, .l, .r, .l, .l, .r, .l, .r], .code [.r, .r, .r, .r, .r, .r, .l, .r, .l, .r], .code [.r, .r, .r, .r, .r, .r, .r]], slots := [(0, .own 1000000 (.arr 2 (.int .i64))), (3, .fn (.func 26) []), (11, .ptr 1000007 0), (13, .dat (.int .i64)), (14, .dat (.int .i64))] }], [(1000000, .cells false [.row (.arr 2 (.int .i64))]), (1000007, .cells false [.dat (.int .i64)])], 1000008⟩
def slices_choosePivotCmpFunc_sel_end.x3 : List Spec := [⟨[{ fn := 49, items := [.code [.r, .r, .r, .r, .r]], slots := [(12, .dat (.int .i64))] }, { fn := 48, items := [.inRegion [.r, .l] [8, 9], .code [.r, .r]], slots := [] }, { fn := 37, items := [.inRegion [.r, .r, .r, .r, .r, .r, .l, .r, .l, .l, .r, .l, .l] [3, 4], .code [.r, .r, .r, .r, .r, .r, .l, .r, .l, .l, .r, .l, .r], .code [.r, .r, .r, .r, .r, .r, .l, .r, .l, .r], .code [.r, .r, .r, .r, .r, .r, .r]], slots := [(0, .own 1000000 (.arr 2 (.int .i64))), (3, .fn (.func 26) []), (11, .ptr 1000007 0), (13, .dat (.int .i64)), (14, .dat (.int .i64))] }], [(1000000, .cells false [.row (.arr 2 (.int .i64))]), (1000007, .cells false [.dat (.int .i64)])], 1000008⟩]
noncomputable def slices_choosePivotCmpFunc_sel_end.b3 (m_ : Mode) (self : Int × Int × Int × Int × Int × (List (List Int)) × Int × Unit → Option ((Int × Int × Int × (List (List Int)) × Int × Unit))) : Int × Int × Int × Int × Int × (List (List Int)) × Int × Unit → Option ((Int × Int × Int × (List (List Int)) × Int × Unit)) := fun v_ => match v_ with
| (a, b, c, j, k, m, m1, ()) =>
  (slices_choosePivotCmpFunc_sel_end.l0 m_ (a, b, c, j, k, m, m1, ())).bind fun g_ => match g_ with
  | .inl (t, t1, c1, j1, k1, m2, m3, ()) =>
    (slices_choosePivotCmpFunc_sel_end.l1 m_ (t1, c1, t, j1, k1, m2, m3, ())).bind fun g_ => match g_ with
    | .inl (t2, t3, a1, j2, k2, m4, m5, ()) =>
      (slices_choosePivotCmpFunc_sel_end.l2 m_ (a1, t2, j2, k2, m4, m5, ())).bind fun g_ => match g_ with
      | .inl (t4, t5, j3, k3, m6, m7, ()) =>
        some (t5, j3, k3, m6, m7, ())
      | .inr (t6, t7, j4, k4, m8, m9, ()) =>
        some (t7, j4, k4, m8, m9, ())
    | .inr (t8, t9, a2, j5, k5, m10, m11, ()) =>
      (slices_choosePivotCmpFunc_sel_end.l2 m_ (a2, t8, j5, k5, m10, m11, ())).bind fun g_ => match g_ with
      | .inl (t10, t11, j6, k6, m12, m13, ()) =>
        some (t11, j6, k6, m12, m13, ())
      | .inr (t12, t13, j7, k7, m14, m15, ()) =>
        some (t13, j7, k7, m14, m15, ())
  | .inr (t14, t15, c2, j8, k8, m16, m17, ()) =>
    (slices_choosePivotCmpFunc_sel_end.l1 m_ (t15, c2, t14, j8, k8, m16, m17, ())).bind fun g_ => match g_ with
    | .inl (t16, t17, a3, j9, k9, m18, m19, ()) =>
      (slices_choosePivotCmpFunc_sel_end.l2 m_ (a3, t16, j9, k9, m18, m19, ())).bind fun g_ => match g_ with
      | .inl (t18, t19, j10, k10, m20, m21, ()) =>
        some (t19, j10, k10, m20, m21, ())
      | .inr (t20, t21, j11, k11, m22, m23, ()) =>
        some (t21, j11, k11, m22, m23, ())
    | .inr (t22, t23, a4, j12, k12, m24, m25, ()) =>
      (slices_choosePivotCmpFunc_sel_end.l2 m_ (a4, t22, j12, k12, m24, m25, ())).bind fun g_ => match g_ with
      | .inl (t24, t25, j13, k13, m26, m27, ()) =>
        some (t25, j13, k13, m26, m27, ())
      | .inr (t26, t27, j14, k14, m28, m29, ()) =>
        some (t27, j14, k14, m28, m29, ())
theorem slices_choosePivotCmpFunc_sel_end.k3 (m_ : Mode) : ∀ (self : Known slices_choosePivotCmpFunc_sel_end.e3.sls → Option (Exits slices_choosePivotCmpFunc_sel_end.x3)) (v : Known slices_choosePivotCmpFunc_sel_end.e3.sls), runS P (oras (slices_choosePivotCmpFunc_sel_end.cs m_)) slices_choosePivotCmpFunc_sel_end.inl (⟨slices_choosePivotCmpFunc_sel_end.e3, self⟩ :: exitCuts slices_choosePivotCmpFunc_sel_end.x3 id) [slices_choosePivotCmpFunc_sel_end.g0 m_, slices_choosePivotCmpFunc_sel_end.g1 m_, slices_choosePivotCmpFunc_sel_end.g2 m_] (fun _ _ => none) 20000 false (slices_choosePivotCmpFunc_sel_end.e3.mk' v) = slices_choosePivotCmpFunc_sel_end.b3 m_ self v := by
  intro self v_; exact (match v_ with | (a, b, c, j, k, m, m1, ()) => by kernel_rfl)
noncomputable def slices_choosePivotCmpFunc_sel_end.l3 (m_ : Mode) : Int × Int × Int × Int × Int × (List (List Int)) × Int × Unit → Option ((Int × Int × Int × (List (List Int)) × Int × Unit)) := loop m_ (slices_choosePivotCmpFunc_sel_end.b3 m_)
theorem slices_choosePivotCmpFunc_sel_end.q3 (v) : slices_choosePivotCmpFunc_sel_end.l3 .lim v = slices_choosePivotCmpFunc_sel_end.b3 .lim (slices_choosePivotCmpFunc_sel_end.l3 .lim) v := lfp_eq (cont_of_run (slices_choosePivotCmpFunc_sel_end.k3 .lim)) v
noncomputable def slices_choosePivotCmpFunc_sel_end.g3 (m_ : Mode) : Seg := ⟨slices_choosePivotCmpFunc_sel_end.e3, slices_choosePivotCmpFunc_sel_end.x3, slices_choosePivotCmpFunc_sel_end.l3 m_⟩
theorem slices_choosePivotCmpFunc_sel_end.s3 (m_ : Mode) (S0 w0 cs0) : SegGood P S0 w0 cs0 37 (slices_choosePivotCmpFunc_sel_end.g3 m_) := seg_loop m_ (oras_ok (slices_choosePivotCmpFunc_sel_end.csok m_)) (all_cons (slices_choosePivotCmpFunc_sel_end.s0 m_ S0 w0 cs0) (all_cons (slices_choosePivotCmpFunc_sel_end.s1 m_ S0 w0 cs0) (all_cons (slices_choosePivotCmpFunc_sel_end.s2 m_ S0 w0 cs0) (all_nil)))) (by rfl) (fun e he => List.all_eq_true.1 (show slices_choosePivotCmpFunc_sel_end.x3.all Spec.ok = true by rfl) e he) (slices_choosePivotCmpFunc_sel_end.k3 m_)
def slices_choosePivotCmpFunc_sel_end.e4 : Spec := ⟨[{ fn := 48, items := [.code []], slots := [(0, .own 1000000 (.arr 2 (.int .i64))), (1, .dat (.int .i64)), (2, .ptr 1000007 0), (3, .fn (.func 26) [])] }, { fn := 37, items := [.inRegion [.r, .r, .r, .r, .r, .r, .l, .r, .l, .l, .r, .l, .l] [3, 4], .code [.r, .r, .r, .r, .r, .r, .l, .r, .l, .l, .r, .l, .r], .code [.r, .r, .r, .r, .r, .r, .l, .r, .l, .r], .code [.r, .r, .r, .r, .r, .r, .r]], slots := [(0, .own 1000000 (.arr 2 (.int .i64))), (3, .fn (.func 26) []), (11, .ptr 1000007 0), (13, .dat (.int .i64)), (14, .dat (.int .i64))] }], [(1000000, .cells false [.row (.arr 2 (.int .i64))]), (1000007, .cells false [.dat (.int .i64)])], 1000008⟩
def slices_choosePivotCmpFunc_sel_end.x4 : List Spec := [⟨[{ fn := 48, items := [.code [.r, .r]], slots := [(8, .dat (.int .i64))] }, { fn := 37, items := [.inRegion [.r, .r, .r, .r, .r, .r, .l, .r, .l, .l, .r, .l, .l] [3, 4], .code [.r, .r, .r, .r, .r, .r, .l, .r, .l, .l, .r, .l, .r], .code [.r, .r, .r, .r, .r, .r, .l, .r, .l, .r], .code [.r, .r, .r, .r, .r, .r, .r]], slots := [(0, .own 1000000 (.arr 2 (.int .i64))), (3, .fn (.func 26) []), (11, .ptr 1000007 0), (13, .dat (.int .i64)), (14, .dat (.int .i64))] }], [(1000000, .cells false [.row (.arr 2 (.int .i64))]), (1000007, .cells false [.dat (.int .i64)])], 1000008⟩]
noncomputable def slices_choosePivotCmpFunc_sel_end.b4 (m_ : Mode) (self : Int × Int × Int × (List (List Int)) × Int × Unit → Option ((Int × Int × Int × (List (List Int)) × Int × Unit))) : Int × Int × Int × (List (List Int)) × Int × Unit → Option ((Int × Int × Int × (List (List Int)) × Int × Unit)) := fun v_ => match v_ with
| (a, j, k, m, m1, ()) =>
  (slices_choosePivotCmpFunc_sel_end.l3 m_ ((IntKind.i64.wrap (a - (1 : Int))), a, (IntKind.i64.wrap (a + (1 : Int))), j, k, m, m1, ())).bind fun (t, j1, k1, m2, m3, ()) =>
  some (t, j1, k1, m2, m3, ())
theorem slices_choosePivotCmpFunc_sel_end.k4 (m_ : Mode) : ∀ (self : Known slices_choosePivotCmpFunc_sel_end.e4.sls → Option (Exits slices_choosePivotCmpFunc_sel_end.x4)) (v : Known slices_choosePivotCmpFunc_sel_end.e4.sls), runS P (oras (slices_choosePivotCmpFunc_sel_end.cs m_)) slices_choosePivotCmpFunc_sel_end.inl (⟨slices_choosePivotCmpFunc_sel_end.e4, self⟩ :: exitCuts slices_choosePivotCmpFunc_sel_end.x4 id) [slices_choosePivotCmpFunc_sel_end.g3 m_] (fun _ _ => none) 20000 false (slices_choosePivotCmpFunc_sel_end.e4.mk' v) = slices_choosePivotCmpFunc_sel_end.b4 m_ self v := by
  intro self v_; exact (match v_ with | (a, j, k, m, m1, ()) => by kernel_rfl)
noncomputable def slices_choosePivotCmpFunc_sel_end.l4 (m_ : Mode) : Int × Int × Int × (List (List Int)) × Int × Unit → Option ((Int × Int × Int × (List (List Int)) × Int × Unit)) := loop m_ (slices_choosePivotCmpFunc_sel_end.b4 m_)
theorem slices_choosePivotCmpFunc_sel_end.q4 (v) : slices_choosePivotCmpFunc_sel_end.l4 .lim v = slices_choosePivotCmpFunc_sel_end.b4 .lim (slices_choosePivotCmpFunc_sel_end.l4 .lim) v := lfp_eq (cont_of_run (slices_choosePivotCmpFunc_sel_end.k4 .lim)) v
noncomputable def slices_choosePivotCmpFunc_sel_end.g4 (m_ : Mode) : Seg := ⟨slices_choosePivotCmpFunc_sel_end.e4, slices_choosePivotCmpFunc_sel_end.x4, slices_choosePivotCmpFunc_sel_end.l4 m_⟩
theorem slices_choosePivotCmpFunc_sel_end.s4 (m_ : Mode) (S0 w0 cs0) : SegGood P S0 w0 cs0 37 (slices_choosePivotCmpFunc_sel_end.g4 m_) := seg_loop m_ (oras_ok (slices_choosePivotCmpFunc_sel_end.csok m_)) (all_cons (slices_choosePivotCmpFunc_sel_end.s3 m_ S0 w0 cs0) (all_nil)) (by rfl) (fun e he => List.all_eq_true.1 (show slices_choosePivotCmpFunc_sel_end.x4.all Spec.ok = true by rfl) e he) (slices_choosePivotCmpFunc_sel_end.k4 m_)
def slices_choosePivotCmpFunc_sel_end.e5 : Spec := ⟨[{ fn := 50, items := [.code []], slots := [(0, .own 1000000 (.arr 2 (.int .i64))), (1, .dat (.int .i64)), (2, .dat (.int .i64)), (3, .ptr 1000007 0), (4, .fn (.func 26) [])] }, { fn := 49, items := [.inRegion [.r, .l] [5, 6, 7, 8, 9, 10], .code [.r, .r]], slots := [(0, .own 1000000 (.arr 2 (.int .i64))), (3, .dat (.int .i64)), (4, .ptr 1000007 0), (5, .fn (.func 26) [])] }, { fn := 48, items := [.inRegion [.r, .l] [8, 9], .code [.r, .r]], slots := [] }, { fn := 37, items := [.inRegion [.r, .r, .r, .r, .r, .r, .l, .r, .l, .l, .r, .l, .r, .l] [3, 4], .code [.r, .r, .r, .r, .r, .r, .l, .r, .l, .l, .r, .l, .r, .r], .code [.r, .r, .r, .r, .r, .r, .l, .r, .l, .r], .code [.r, .r, .r, .r, .r, .r, .r]], slots := [(0, .own 1000000 (.arr 2 (.int .i64))), (3, .fn (.func 26) []), (11, .ptr 1000007 0), (12, .dat (.int .i64)), (14, .dat (.int .i64))] }], [(1000000, .cells false [.row (.arr 2 (.int .i64))]), (1000007, .cells false [.dat (.int .i64)])], 1000008⟩
def slices_choosePivotCmpFunc_sel_end.x5 : List Spec := [⟨[{ fn := 50, items := [.code [.r, .l, .r, .l, .r, .r], .code [.r, .r]], slots := [(10, .dat (.int .i64)), (11, .dat (.int .i64))] }, { fn := 49, items := [.inRegion [.r, .l] [5, 6, 7, 8, 9, 10], .code [.r, .r]], slots := [(0, .own 1000000 (.arr 2 (.int .i64))), (3, .dat (.int .i64)), (4, .ptr 1000007 0), (5, .fn (.func 26) [])] }, { fn := 48, items := [.inRegion [.r, .l] [8, 9], .code [.r, .r]], slots := [] }, { fn := 37, items := [.inRegion [.r, .r, .r, .r, .r, .r, .l, .r, .l, .l, .r, .l, .r, .l] [3, 4], .code [.r, .r, .r, .r, .r, .r, .l, .r, .l, .l, .r, .l, .r, .r], .code [.r, .r, .r, .r, .r, .r, .l, .r, .l, .r], .code [.r, .r, .r, .r, .r, .r, .r]], slots := [(0, .own 1000000 (.arr 2 (.int .i64))), (3, .fn (.func 26) []), (11, .ptr 1000007 0), (12, .dat (.int .i64)), (14, .dat (.int .i64))] }], [(1000000, .cells false [.row (.arr 2 (.int .i64))]), (1000007, .cells false [.dat (.int .i64)])], 1000008⟩, ⟨[{ fn := 50, items := [.code [.r, .r, .r]], slots := [(10, .dat (.int .i64)), (11, .dat (.int .i64))] }, { fn := 49, items := [.inRegion [.r, .l] [5, 6, 7, 8, 9, 10], .code [.r, .r]], slots := [(0, .own 1000000 (.arr 2 (.int .i64))), (3, .dat (.int .i64)), (4, .ptr 1000007 0), (5, .fn (.func 26) [])] }, { fn := 48, items := [.inRegion [.r, .l] [8, 9], .code [.r, .r]], slots := [] }, { fn := 37, items := [.inRegion [.r, .r, .r, .r, .r, .r, .l, .r, .l, .l, .r, .l, .r, .l] [3, 4], .code [.r, .r, .r, .r, .r, .r, .l, .r, .l, .l, .r, .l, .r, .r], .code [.r, .r, .r, .r, .r, .r, .l, .r, .l, .r], .code [.r, .r, .r, .r, .r, .r, .r]], slots := [(0, .own 1000000 (.arr 2 (.int .i64))), (3, .fn (.func 26) []), (11, .ptr 1000007 0), (12, .dat (.int .i64)), (14, .dat (.int .i64))] }], [(1000000, .cells false [.row (.arr 2 (.int .i64))]), (1000007, .cells false [.dat (.int .i64)])], 1000008⟩]
noncomputable def slices_choosePivotCmpFunc_sel_end.b5 (m_ : Mode) (self : Int × Int × Int × Int × Int × (List (List Int)) × Int × Unit → Option ((Int × Int × Int × Int × Int × (List (List Int)) × Int × Unit) ⊕ (Int × Int × Int × Int × Int × (List (List Int)) × Int × Unit))) : Int × Int × Int × Int × Int × (List (List Int)) × Int × Unit → Option ((Int × Int × Int × Int × Int × (List (List Int)) × Int × Unit) ⊕ (Int × Int × Int × Int × Int × (List (List Int)) × Int × Unit)) := fun v_ => match v_ with
| (a, b, c, i, k, m, m1, ()) =>
  bif inB b (m.length : Int) then
  bif inB a (m.length : Int) then
  (sel_ends_1.run m_ ((rd (List.replicate 2 (0 : Int) : List Int) m b), (rd (List.replicate 2 (0 : Int) : List Int) m a), ())).bind fun r =>
  bif decide (r < (0 : Int)) then
    some (.inl (b, a, c, i, k, m, (IntKind.i64.wrap (m1 + (1 : Int))), ()))
  else
    some (.inr (a, b, c, i, k, m, m1, ()))
  else none
  else none
theorem slices_choosePivotCmpFunc_sel_end.k5 (m_ : Mode) : ∀ (self : Known slices_choosePivotCmpFunc_sel_end.e5.sls → Option (Exits slices_choosePivotCmpFunc_sel_end.x5)) (v : Known slices_choosePivotCmpFunc_sel_end.e5.sls), runS P (oras (slices_choosePivotCmpFunc_sel_end.cs m_)) slices_choosePivotCmpFunc_sel_end.inl (⟨slices_choosePivotCmpFunc_sel_end.e5, self⟩ :: exitCuts slices_choosePivotCmpFunc_sel_end.x5 id) [] (fun _ _ => none) 20000 false (slices_choosePivotCmpFunc_sel_end.e5.mk' v) = slices_choosePivotCmpFunc_sel_end.b5 m_ self v := by
  intro self v_; exact (match v_ with | (a, b, c, i, k, m, m1, ()) => by kernel_rfl)
noncomputable def slices_choosePivotCmpFunc_sel_end.l5 (m_ : Mode) : Int × Int × Int × Int × Int × (List (List Int)) × Int × Unit → Option ((Int × Int × Int × Int × Int × (List (List Int)) × Int × Unit) ⊕ (Int × Int × Int × Int × Int × (List (List Int)) × Int × Unit)) := loop m_ (slices_choosePivotCmpFunc_sel_end.b5 m_)
theorem slices_choosePivotCmpFunc_sel_end.q5 (v) : slices_choosePivotCmpFunc_sel_end.l5 .lim v = slices_choosePivotCmpFunc_sel_end.b5 .lim (slices_choosePivotCmpFunc_sel_end.l5 .lim) v := lfp_eq (cont_of_run (slices_choosePivotCmpFunc_sel_end.k5 .lim)) v
noncomputable def slices_choosePivotCmpFunc_sel_end.g5 (m_ : Mode) : Seg := ⟨slices_choosePivotCmpFunc_sel_end.e5, slices_choosePivotCmpFunc_sel_end.x5, slices_choosePivotCmpFunc_sel_end.l5 m_⟩
theorem slices_choosePivotCmpFunc_sel_end.s5 (m_ : Mode) (S0 w0 cs0) : SegGood P S0 w0 cs0 37 (slices_choosePivotCmpFunc_sel_end.g5 m_) := seg_loop m_ (oras_ok (slices_choosePivotCmpFunc_sel_end.csok m_)) (all_nil) (by rfl) (fun e he => List.all_eq_true.1 (show slices_choosePivotCmpFunc_sel_end.x5.all Spec.ok = true by rfl) e he) (slices_choosePivotCmpFunc_sel_end.k5 m_)
def slices_choosePivotCmpFunc_sel_end.e6 : Spec := ⟨[{ fn := 50, items := [.code []], slots := [(0, .own 1000000 (.arr 2 (.int .i64))), (1, .dat (.int .i64)), (2, .dat (.int .i64)), (3, .ptr 1000007 0), (4, .fn (.func 26) [])] }, { fn := 49, items := [.inRegion [.r, .r, .l] [5, 6, 7, 8, 9, 10], .code [.r, .r, .r]], slots := [(0, .own 1000000 (.arr 2 (.int .i64))), (1, .dat (.int .i64)), (4, .ptr 1000007 0), (5, .fn (.func 26) [])] }, { fn := 48, items := [.inRegion [.r, .l] [8, 9], .code [.r, .r]], slots := [] }, { fn := 37, items := [.inRegion [.r, .r, .r, .r, .r, .r, .l, .r, .l, .l, .r, .l, .r, .l] [3, 4], .code [.r, .r, .r, .r, .r, .r, .l, .r, .l, .l, .r, .l, .r, .r], .code [.r, .r, .r, .r, .r, .r, .l, .r, .l, .r], .code [.r, .r, .r, .r, .r, .r, .r]], slots := [(0, .own 1000000 (.arr 2 (.int .i64))), (3, .fn (.func 26) []), (11, .ptr 1000007 0), (12, .dat (.int .i64)), (14, .dat (.int .i64))] }], [(1000000, .cells false [.row (.arr 2 (.int .i64))]), (1000007, .cells false [.dat (.int .i64)])], 1000008⟩
def slices_choosePivotCmpFunc_sel_end.x6 : List Spec := [⟨[{ fn := 50, items := [.code [.r, .l, .r, .l, .r, .r], .code [.r, .r]], slots := [(10, .dat (.int .i64)), (11, .dat (.int .i64))] }, { fn := 49, items := [.inRegion [.r, .r, .l] [5, 6, 7, 8, 9, 10], .code [.r, .r, .r]], slots := [(0, .own 1000000 (.arr 2 (.int .i64))), (1, .dat (.int .i64)), (4, .ptr 1000007 0), (5, .fn (.func 26) [])] }, { fn := 48, items := [.inRegion [.r, .l] [8, 9], .code [.r, .r]], slots := [] }, { fn := 37, items := [.inRegion [.r, .r, .r, .r, .r, .r, .l, .r, .l, .l, .r, .l, .r, .l] [3, 4], .code [.r, .r, .r, .r, .r, .r, .l, .r, .l, .l, .r, .l, .r, .r], .code [.r, .r, .r, .r, .r, .r, .l, .r, .l, .r], .code [.r, .r, .r, .r, .r, .r, .r]], slots := [(0, .own 1000000 (.arr 2 (.int .i64))), (3, .fn (.func 26) []), (11, .ptr 1000007 0), (12, .dat (.int .i64)), (14, .dat (.int .i64))] }], [(1000000, .cells false [.row (.arr 2 (.int .i64))]), (1000007, .cells false [.dat (.int .i64)])], 1000008⟩, ⟨[{ fn := 50, items := [.code [.r, .r, .r]], slots := [(10, .dat (.int .i64)), (11, .dat (.int .i64))] }, { fn := 49, items := [.inRegion [.r, .r, .l] [5, 6, 7, 8, 9, 10], .code [.r, .r, .r]], slots := [(0, .own 1000000 (.arr 2 (.int .i64))), (1, .dat (.int .i64)), (4, .ptr 1000007 0), (5, .fn (.func 26) [])] }, { fn := 48, items := [.inRegion [.r, .l] [8, 9], .code [.r, .r]], slots := [] }, { fn := 37, items := [.inRegion [.r, .r, .r, .r, .r, .r, .l, .r, .l, .l, .r, .l, .r, .l] [3, 4], .code [.r, .r, .r, .r, .r, .r, .l, .r, .l, .l, .r, .l, .r, .r], .code [.r, .r, .r, .r, .r, .r, .l, .r, .l, .r], .code [.r, .r, .r, .r, .r, .r, .r]], slots := [(0, .own 1000000 (.arr 2 (.int .i64))), (3, .fn (.func 26) []), (11, .ptr 1000007 0), (12, .dat (.int .i64)), (14, .dat (.int .i64))] }], [(1000000, .cells false [.row (.arr 2 (.int .i64))]), (1000007, .cells false [.dat (.int .i64)])], 1000008⟩]
noncomputable def slices_choosePivotCmpFunc_sel_end.b6 (m_ : Mode) (self : Int × Int × Int × Int × Int × (List (List Int)) × Int × Unit → Option ((Int × Int × Int × Int × Int × (List (List Int)) × Int × Unit) ⊕ (Int × Int × Int × Int × Int × (List (List Int)) × Int × Unit))) : Int × Int × Int × Int × Int × (List (List Int)) × Int × Unit → Option ((Int × Int × Int × Int × Int × (List (List Int)) × Int × Unit) ⊕ (Int × Int × Int × Int × Int × (List (List Int)) × Int × Unit)) := fun v_ => match v_ with
| (a, b, a1, i, k, m, m1, ()) =>
  bif inB b (m.length : Int) then
  bif inB a (m.length : Int) then
  (sel_ends_1.run m_ ((rd (List.replicate 2 (0 : Int) : List Int) m b), (rd (List.replicate 2 (0 : Int) : List Int) m a), ())).bind fun r =>
  bif decide (r < (0 : Int)) then
    some (.inl (b, a, a1, i, k, m, (IntKind.i64.wrap (m1 + (1 : Int))), ()))
  else
    some (.inr (a, b, a1, i, k, m, m1, ()))
  else none
  else none
theorem slices_choosePivotCmpFunc_sel_end.k6 (m_ : Mode) : ∀ (self : Known slices_choosePivotCmpFunc_sel_end.e6.sls → Option (Exits slices_choosePivotCmpFunc_sel_end.x6)) (v : Known slices_choosePivotCmpFunc_sel_end.e6.sls), runS P (oras (slices_choosePivotCmpFunc_sel_end.cs m_)) slices_choosePivotCmpFunc_sel_end.inl (⟨slices_choosePivotCmpFunc_sel_end.e6, self⟩ :: exitCuts slices_choosePivotCmpFunc_sel_end.x6 id) [] (fun _ _ => none) 20000 false (slices_choosePivotCmpFunc_sel_end.e6.mk' v) = slices_choosePivotCmpFunc_sel_end.b6 m_ self v := by
  intro self v_; exact (match v_ with | (a, b, a1, i, k, m, m1, ()) => by kernel_rfl)
noncomputable def slices_choosePivotCmpFunc_sel_end.l6 (m_ : Mode) : Int × Int × Int × Int × Int × (List (List Int)) × Int × Unit → Option ((Int × Int × Int × Int × Int × (List (List Int)) × Int × Unit) ⊕ (Int × Int × Int × Int × Int × (List (List Int)) × Int × Unit)) := loop m_ (slices_choosePivotCmpFunc_sel_end.b6 m_)
theorem slices_choosePivotCmpFunc_sel_end.q6 (v) : slices_choosePivotCmpFunc_sel_end.l6 .lim v = slices_choosePivotCmpFunc_sel_end.b6 .lim (slices_choosePivotCmpFunc_sel_end.l6 .lim) v := lfp_eq (cont_of_run (slices_choosePivotCmpFunc_sel_end.k6 .lim)) v
noncomputable def slices_choosePivotCmpFunc_sel_end.g6 (m_ : Mode) : Seg := ⟨slices_choosePivotCmpFunc_sel_end.e6, slices_choosePivotCmpFunc_sel_end.x6, slices_choosePivotCmpFunc_sel_end.l6 m_⟩
theorem slices_choosePivotCmpFunc_sel_end.s6 (m_ : Mode) (S0 w0 cs0) : SegGood P S0 w0 cs0 37 (slices_choosePivotCmpFunc_sel_end.g6 m_) := seg_loop m_ (oras_ok (slices_choosePivotCmpFunc_sel_end.csok m_)) (all_nil) (by rfl) (fun e he => List.all_eq_true.1 (show slices_choosePivotCmpFunc_sel_end.x6.all Spec.ok = true by rfl) e he) (slices_choosePivotCmpFunc_sel_end.k6 m_)
def slices_choosePivotCmpFunc_sel_end.e7 : Spec := ⟨[{ fn := 50, items := [.code []], slots := [(0, .own 1000000 (.arr 2 (.int .i64))), (1, .dat (.int .i64)), (2, .dat (.int .i64)), (3, .ptr 1000007 0), (4, .fn (.func 26) [])] }, { fn := 49, items := [.inRegion [.r, .r, .r, .l] [5, 6, 7, 8, 9, 10], .code [.r, .r, .r, .r]], slots := [] }, { fn := 48, items := [.inRegion [.r, .l] [8, 9], .code [.r, .r]], slots := [] }, { fn := 37, items := [.inRegion [.r, .r, .r, .r, .r, .r, .l, .r, .l, .l, .r, .l, .r, .l] [3, 4], .code [.r, .r, .r, .r, .r, .r, .l, .r, .l, .l, .r, .l, .r, .r], .code [.r, .r, .r, .r, .r, .r, .l, .r, .l, .r], .code [.r, .r, .r, .r, .r, .r, .r]], slots := [(0, .own 1000000 (.arr 2 (.int .i64))), (3, .fn (.func 26) []), (11, .ptr 1000007 0), (12, .dat (.int .i64)), (14, .dat (.int .i64))] }], [(1000000, .cells false [.row (.arr 2 (.int .i64))]), (1000007, .cells false [.dat (.int .i64)])], 1000008⟩
def slices_choosePivotCmpFunc_sel_end.x7 : List Spec := [⟨[{ fn := 50, items := [.code [.r, .l, .r, .l, .r, .r], .code [.r, .r]], slots := [(10, .dat (.int .i64)), (11, .dat (.int .i64))] }, { fn := 49, items := [.inRegion [.r, .r, .r, .l] [5, 6, 7, 8, 9, 10], .code [.r, .r, .r, .r]], slots := [] }, { fn := 48, items := [.inRegion [.r, .l] [8, 9], .code [.r, .r]], slots := [] }, { fn := 37, items := [.inRegion [.r, .r, .r, .r, .r, .r, .l, .r, .l, .l, .r, .l, .r, .l] [3, 4], .code [.r, .r, .r, .r, .r, .r, .l, .r, .l, .l, .r, .l, .r, .r], .code [.r, .r, .r, .r, .r, .r, .l, .r, .l, .r], .code [.r, .r, .r, .r, .r, .r, .r]], slots := [(0, .own 1000000 (.arr 2 (.int .i64))), (3, .fn (.func 26) []), (11, .ptr 1000007 0), (12, .dat (.int .i64)), (14, .dat (.int .i64))] }], [(1000000, .cells false [.row (.arr 2 (.int .i64))]), (1000007, .cells false [.dat (.int .i64)])], 1000008⟩, ⟨[{ fn := 50, items := [.code [.r, .r, .r]], slots := [(10, .dat (.int .i64)), (11, .dat (.int .i64))] }, { fn := 49, items := [.inRegion [.r, .r, .r, .l] [5, 6, 7, 8, 9, 10], .code [.r, .r, .r, .r]], slots := [] }, { fn := 48, items := [.inRegion [.r, .l] [8, 9], .code [.r, .r]], slots := [] }, { fn := 37, items := [.inRegion [.r, .r, .r, .r, .r, .r, .l, .r, .l, .l, .r, .l, .r, .l] [3, 4], .code [.r, .r, .r, .r, .r, .r, .l, .r, .l, .l, .r, .l, .r, .r], .code [.r, .r, .r, .r, .r, .r, .l, .r, .l, .r], .code [.r, .r, .r, .r, .r, .r, .r]], slots := [(0, .own 1000000 (.arr 2 (.int .i64))), (3, .fn (.func 26) []), (11, .ptr 1000007 0), (12, .dat (.int .i64)), (14, .dat (.int .i64))] }], [(1000000, .cells false [.row (.arr 2 (.int .i64))]), (1000007, .cells false [.dat (.int .i64)])], 1000008⟩]
noncomputable def slices_choosePivotCmpFunc_sel_end.b7 (m_ : Mode) (self : Int × Int × Int × Int × (List (List Int)) × Int × Unit → Option ((Int × Int × Int × Int × (List (List Int)) × Int × Unit) ⊕ (Int × Int × Int × Int × (List (List Int)) × Int × Unit))) : Int × Int × Int × Int × (List (List Int)) × Int × Unit → Option ((Int × Int × Int × Int × (List (List Int)) × Int × Unit) ⊕ (Int × Int × Int × Int × (List (List Int)) × Int × Unit)) := fun v_ => match v_ with
| (a, b, i, k, m, m1, ()) =>
  bif inB b (m.length : Int) then
  bif inB a (m.length : Int) then
  (sel_ends_1.run m_ ((rd (List.replicate 2 (0 : Int) : List Int) m b), (rd (List.replicate 2 (0 : Int) : List Int) m a), ())).bind fun r =>
  bif decide (r < (0 : Int)) then
    some (.inl (b, a, i, k, m, (IntKind.i64.wrap (m1 + (1 : Int))), ()))
  else
    some (.inr (a, b, i, k, m, m1, ()))
  else none
  else none
theorem slices_choosePivotCmpFunc_sel_end.k7 (m_ : Mode) : ∀ (self : Known slices_choosePivotCmpFunc_sel_end.e7.sls → Option (Exits slices_choosePivotCmpFunc_sel_end.x7)) (v : Known slices_choosePivotCmpFunc_sel_end.e7.sls), runS P (oras (slices_choosePivotCmpFunc_sel_end.cs m_)) slices_choosePivotCmpFunc_sel_end.inl (⟨slices_choosePivotCmpFunc_sel_end.e7, self⟩ :: exitCuts slices_choosePivotCmpFunc_sel_end.x7 id) [] (fun _ _ => none) 20000 false (slices_choosePivotCmpFunc_sel_end.e7.mk' v) = slices_choosePivotCmpFunc_sel_end.b7 m_ self v := by
  intro self v_; exact (match v_ with | (a, b, i, k, m, m1, ()) => by kernel_rfl)
noncomputable def slices_choosePivotCmpFunc_sel_end.l7 (m_ : Mode) : Int × Int × Int × Int × (List (List Int)) × Int × Unit → Option ((Int × Int × Int × Int × (List (List Int)) × Int × Unit) ⊕ (Int × Int × Int × Int × (List (List Int)) × Int × Unit)) := loop m_ (slices_choosePivotCmpFunc_sel_end.b7 m_)
theorem slices_choosePivotCmpFunc_sel_end.q7 (v) : slices_choosePivotCmpFunc_sel_end.l7 .lim v = slices_choosePivotCmpFunc_sel_end.b7 .lim (slices_choosePivotCmpFunc_sel_end.l7 .lim) v := lfp_eq (cont_of_run (slices_choosePivotCmpFunc_sel_end.k7 .lim)) v
noncomputable def slices_choosePivotCmpFunc_sel_end.g7 (m_ : Mode) : Seg := ⟨slices_choosePivotCmpFunc_sel_end.e7, slices_choosePivotCmpFunc_sel_end.x7, slices_choosePivotCmpFunc_sel_end.l7 m_⟩
theorem slices_choosePivotCmpFunc_sel_end.s7 (m_ : Mode) (S0 w0 cs0) : SegGood P S0 w0 cs0 37 (slices_choosePivotCmpFunc_sel_end.g7 m_) := seg_loop m_ (oras_ok (slices_choosePivotCmpFunc_sel_end.csok m_)) (all_nil) (by rfl) (fun e he => List.all_eq_true.1 (show slices_choosePivotCmpFunc_sel_end.x7.all Spec.ok = true by rfl) e he) (slices_choosePivotCmpFunc_sel_end.k7 m_)
def slices_choosePivotCmpFunc_sel_end.e8 : Spec := ⟨[{ fn := 49, items := [.code []], slots := [(0, .own 1000000 (.arr 2 (.int .i64))), (1, .dat (.int .i64)), (2, .dat (.int .i64)), (3, .dat (.int .i64)), (4, .ptr 1000007 0), (5, .fn (.func 26) [])] }, { fn := 48, items := [.inRegion [.r, .l] [8, 9], .code [.r, .r]], slots := [] }, { fn := 37, items := [.inRegion [.r, .r, .r, .r, .r, .r, .l, .r, .l, .l, .r, .l, .r, .l] [3, 4], .code [.r, .r, .r, .r, .r, .r, .l, .r, .l, .l, .r, .l, .r, .r], .code [.r, .r, .r, .r, .r, .r, .l, .r, .l, .r], .code [.r, .r, .r, .r, .r, .r, .r]], slots := [(0, .own 1000000 (.arr 2 (.int .i64))), (3, .fn (.func 26) []), (11, .ptr 1000007 0), (12, .dat (.int .i64)), (14, .dat (.int .i64))] }], [(1000000, .cells false [.row (.arr 2 (.int .i64))]), (1000007, .cells false [.dat (.int .i64)])], 1000008⟩
def slices_choosePivotCmpFunc_sel_end.x8 : List Spec := [⟨[{ fn := 49, items := [.code [.r, .r, .r, .r, .r]], slots := [(12, .dat (.int .i64))] }, { fn := 48, items := [.inRegion [.r, .l] [8, 9], .code [.r, .r]], slots := [] }, { fn := 37, items := [.inRegion [.r, .r, .r, .r, .r, .r, .l, .r, .l, .l, .r, .l, .r, .l] [3, 4], .code [.r, .r, .r, .r, .r, .r, .l, .r, .l, .l, .r, .l, .r, .r], .code [.r, .r, .r, .r, .r, .r, .l, .r, .l, .r], .code [.r, .r, .r, .r, .r, .r, .r]], slots := [(0, .own 1000000 (.arr 2 (.int .i64))), (3, .fn (.func 26) []), (11, .ptr 1000007 0), (12, .dat (.int .i64)), (14, .dat (.int .i64))] }], [(1000000, .cells false [.row (.arr 2 (.int .i64))]), (1000007, .cells false [.dat (.int .i64)])], 1000008⟩]
noncomputable def slices_choosePivotCmpFunc_sel_end.b8 (m_ : Mode) (self : Int × Int × Int × Int × Int × (List (List Int)) × Int × Unit → Option ((Int × Int × Int × (List (List Int)) × Int × Unit))) : Int × Int × Int × Int × Int × (List (List Int)) × Int × Unit → Option ((Int × Int × Int × (List (List Int)) × Int × Unit)) := fun v_ => match v_ with
| (a, b, c, i, k, m, m1, ()) =>
  (slices_choosePivotCmpFunc_sel_end.l5 m_ (a, b, c, i, k, m, m1, ())).bind fun g_ => match g_ with
  | .inl (t, t1, c1, i1, k1, m2, m3, ()) =>
    (slices_choosePivotCmpFunc_sel_end.l6 m_ (t1, c1, t, i1, k1, m2, m3, ())).bind fun g_ => match g_ with
    | .inl (t2, t3, a1, i2, k2, m4, m5, ()) =>
      (slices_choosePivotCmpFunc_sel_end.l7 m_ (a1, t2, i2, k2, m4, m5, ())).bind fun g_ => match g_ with
      | .inl (t4, t5, i3, k3, m6, m7, ()) =>
        some (t5, i3, k3, m6, m7, ())
      | .inr (t6, t7, i4, k4, m8, m9, ()) =>
        some (t7, i4, k4, m8, m9, ())
    | .inr (t8, t9, a2, i5, k5, m10, m11, ()) =>
      (slices_choosePivotCmpFunc_sel_end.l7 m_ (a2, t8, i5, k5, m10, m11, ())).bind fun g_ => match g_ with
      | .inl (t10, t11, i6, k6, m12, m13, ()) =>
        some (t11, i6, k6, m12, m13, ())
      | .inr (t12, t13, i7, k7, m14, m15, ()) =>
        some (t13, i7, k7, m14, m15, ())
  | .inr (t14, t15, c2, i8, k8, m16, m17, ()) =>
    (slices_choosePivotCmpFunc_sel_end.l6 m_ (t15, c2, t14, i8, k8, m16, m17, ())).bind fun g_ => match g_ with
    | .inl (t16, t17, a3, i9, k9, m18, m19, ()) =>
      (slices_choosePivotCmpFunc_sel_end.l7 m_ (a3, t16, i9, k9, m18, m19, ())).bind fun g_ => match g_ with
      | .inl (t18, t19, i10, k10, m20, m21, ()) =>
        some (t19, i10, k10, m20, m21, ())
      | .inr (t20, t21, i11, k11, m22, m23, ()) =>
        some (t21, i11, k11, m22, m23, ())
    | .inr (t22, t23, a4, i12, k12, m24, m25, ()) =>
      (slices_choosePivotCmpFunc_sel_end.l7 m_ (a4, t22, i12, k12, m24, m25, ())).bind fun g_ => match g_ with
      | .inl (t24, t25, i13, k13, m26, m27, ()) =>
        some (t25, i13, k13, m26, m27, ())
      | .inr (t26, t27, i14, k14, m28, m29, ()) =>
        some (t27, i14, k14, m28, m29, ())
theorem slices_choosePivotCmpFunc_sel_end.k8 (m_ : Mode) : ∀ (self : Known slices_choosePivotCmpFunc_sel_end.e8.sls → Option (Exits slices_choosePivotCmpFunc_sel_end.x8)) (v : Known slices_choosePivotCmpFunc_sel_end.e8.sls), runS P (oras (slices_choosePivotCmpFunc_sel_end.cs m_)) slices_choosePivotCmpFunc_sel_end.inl (⟨slices_choosePivotCmpFunc_sel_end.e8, self⟩ :: exitCuts slices_choosePivotCmpFunc_sel_end.x8 id) [slices_choosePivotCmpFunc_sel_end.g5 m_, slices_choosePivotCmpFunc_sel_end.g6 m_, slices_choosePivotCmpFunc_sel_end.g7 m_] (fun _ _ => none) 20000 false (slices_choosePivotCmpFunc_sel_end.e8.mk' v) = slices_choosePivotCmpFunc_sel_end.b8 m_ self v := by
  intro self v_; exact (match v_ with | (a, b, c, i, k, m, m1, ()) => by kernel_rfl)
noncomputable def slices_choosePivotCmpFunc_sel_end.l8 (m_ : Mode) : Int × Int × Int × Int × Int × (List (List Int)) × Int × Unit → Option ((Int × Int × Int × (List (List Int)) × Int × Unit)) := loop m_ (slices_choosePivotCmpFunc_sel_end.b8 m_)
theorem slices_choosePivotCmpFunc_sel_end.q8 (v) : slices_choosePivotCmpFunc_sel_end.l8 .lim v = slices_choosePivotCmpFunc_sel_end.b8 .lim (slices_choosePivotCmpFunc_sel_end.l8 .lim) v := lfp_eq (cont_of_run (slices_choosePivotCmpFunc_sel_end.k8 .lim)) v
noncomputable def slices_choosePivotCmpFunc_sel_end.g8 (m_ : Mode) : Seg := ⟨slices_choosePivotCmpFunc_sel_end.e8, slices_choosePivotCmpFunc_sel_end.x8, slices_choosePivotCmpFunc_sel_end.l8 m_⟩
theorem slices_choosePivotCmpFunc_sel_end.s8 (m_ : Mode) (S0 w0 cs0) : SegGood P S0 w0 cs0 37 (slices_choosePivotCmpFunc_sel_end.g8 m_) := seg_loop m_ (oras_ok (slices_choosePivotCmpFunc_sel_end.csok m_)) (all_cons (slices_choosePivotCmpFunc_sel_end.s5 m_ S0 w0 cs0) (all_cons (slices_choosePivotCmpFunc_sel_end.s6 m_ S0 w0 cs0) (all_cons (slices_choosePivotCmpFunc_sel_end.s7 m_ S0 w0 cs0) (all_nil)))) (by rfl) (fun e he => List.all_eq_true.1 (show slices_choosePivotCmpFunc_sel_end.x8.all Spec.ok = true by rfl) e he) (slices_choosePivotCmpFunc_sel_end.k8 m_)
def slices_choosePivotCmpFunc_sel_end.e9 : Spec := ⟨[{ fn := 48, items := [.code []], slots := [(0, .own 1000000 (.arr 2 (.int .i64))), (1, .dat (.int .i64)), (2, .ptr 1000007 0), (3, .fn (.func 26) [])] }, { fn := 37, items := [.inRegion [.r, .r, .r, .r, .r, .r, .l, .r, .l, .l, .r, .l, .r, .l] [3, 4], .code [.r, .r, .r, .r, .r, .r, .l, .r, .l, .l, .r, .l, .r, .r], .code [.r, .r, .r, .r, .r, .r, .l, .r, .l, .r], .code [.r, .r, .r, .r, .r, .r, .r]], slots := [(0, .own 1000000 (.arr 2 (.int .i64))), (3, .fn (.func 26) []), (11, .ptr 1000007 0), (12, .dat (.int .i64)), (14, .dat (.int .i64))] }], [(1000000, .cells false [.row (.arr 2 (.int .i64))]), (1000007, .cells false [.dat (.int .i64)])], 1000008⟩
def slices_choosePivotCmpFunc_sel_end.x9 : List Spec := [⟨[{ fn := 48, items := [.code [.r, .r]], slots := [(8, .dat (.int .i64))] }, { fn := 37, items := [.inRegion [.r, .r, .r, .r, .r, .r, .l, .r, .l, .l, .r, .l, .r, .l] [3, 4], .code [.r, .r, .r, .r, .r, .r, .l, .r, .l, .l, .r, .l, .r, .r], .code [.r, .r, .r, .r, .r, .r, .l, .r, .l, .r], .code [.r, .r, .r, .r, .r, .r, .r]], slots := [(0, .own 1000000 (.arr 2 (.int .i64))), (3, .fn (.func 26) []), (11, .ptr 1000007 0), (12, .dat (.int .i64)), (14, .dat (.int .i64))] }], [(1000000, .cells false [.row (.arr 2 (.int .i64))]), (1000007, .cells false [.dat (.int .i64)])], 1000008⟩]
noncomputable def slices_choosePivotCmpFunc_sel_end.b9 (m_ : Mode) (self : Int × Int × Int × (List (List Int)) × Int × Unit → Option ((Int × Int × Int × (List (List Int)) × Int × Unit))) : Int × Int × Int × (List (List Int)) × Int × Unit → Option ((Int × Int × Int × (List (List Int)) × Int × Unit)) := fun v_ => match v_ with
| (a, i, k, m, m1, ()) =>
  (slices_choosePivotCmpFunc_sel_end.l8 m_ ((IntKind.i64.wrap (a - (1 : Int))), a, (IntKind.i64.wrap (a + (1 : Int))), i, k, m, m1, ())).bind fun (t, i1, k1, m2, m3, ()) =>
  some (t, i1, k1, m2, m3, ())
theorem slices_choosePivotCmpFunc_sel_end.k9 (m_ : Mode) : ∀ (self : Known slices_choosePivotCmpFunc_sel_end.e9.sls → Option (Exits slices_choosePivotCmpFunc_sel_end.x9)) (v : Known slices_choosePivotCmpFunc_sel_end.e9.sls), runS P (oras (slices_choosePivotCmpFunc_sel_end.cs m_)) slices_choosePivotCmpFunc_sel_end.inl (⟨slices_choosePivotCmpFunc_sel_end.e9, self⟩ :: exitCuts slices_choosePivotCmpFunc_sel_end.x9 id) [slices_choosePivotCmpFunc_sel_end.g8 m_] (fun _ _ => none) 20000 false (slices_choosePivotCmpFunc_sel_end.e9.mk' v) = slices_choosePivotCmpFunc_sel_end.b9 m_ self v := by
  intro self v_; exact (match v_ with | (a, i, k, m, m1, ()) => by kernel_rfl)
noncomputable def slices_choosePivotCmpFunc_sel_end.l9 (m_ : Mode) : Int × Int × Int × (List (List Int)) × Int × Unit → Option ((Int × Int × Int × (List (List Int)) × Int × Unit)) := loop m_ (slices_choosePivotCmpFunc_sel_end.b9 m_)
theorem slices_choosePivotCmpFunc_sel_end.q9 (v) : slices_choosePivotCmpFunc_sel_end.l9 .lim v = slices_choosePivotCmpFunc_sel_end.b9 .lim (slices_choosePivotCmpFunc_sel_end.l9 .lim) v := lfp_eq (cont_of_run (slices_choosePivotCmpFunc_sel_end.k9 .lim)) v
noncomputable def slices_choosePivotCmpFunc_sel_end.g9 (m_ : Mode) : Seg := ⟨slices_choosePivotCmpFunc_sel_end.e9, slices_choosePivotCmpFunc_sel_end.x9, slices_choosePivotCmpFunc_sel_end.l9 m_⟩
theorem slices_choosePivotCmpFunc_sel_end.s9 (m_ : Mode) (S0 w0 cs0) : SegGood P S0 w0 cs0 37 (slices_choosePivotCmpFunc_sel_end.g9 m_) := seg_loop m_ (oras_ok (slices_choosePivotCmpFunc_sel_end.csok m_)) (all_cons (slices_choosePivotCmpFunc_sel_end.s8 m_ S0 w0 cs0) (all_nil)) (by rfl) (fun e he => List.all_eq_true.1 (show slices_choosePivotCmpFunc_sel_end.x9.all Spec.ok = true by rfl) e he) (slices_choosePivotCmpFunc_sel_end.k9 m_)
def slices_choosePivotCmpFunc_sel_end.e10 : Spec := ⟨[{ fn := 50, items := [.code []], slots := [(0, .own 1000000 (.arr 2 (.int .i64))), (1, .dat (.int .i64)), (2, .dat (.int .i64)), (3, .ptr 1000007 0), (4, .fn (.func 26) [])] }, { fn := 49, items := [.inRegion [.r, .l] [5, 6, 7, 8, 9, 10], .code [.r, .r]], slots := [(0, .own 1000000 (.arr 2 (.int .i64))), (3, .dat (.int .i64)), (4, .ptr 1000007 0), (5, .fn (.func 26) [])] }, { fn := 48, items := [.inRegion [.r, .l] [8, 9], .code [.r, .r]], slots := [] }, { fn := 37, items := [.inRegion [.r, .r, .r, .r, .r, .r, .l, .r, .l, .l, .r, .l, .r, .r] [3, 4], .code [.r, .r, .r, .r, .r, .r, .l, .r, .l, .r], .code [.r, .r, .r, .r, .r, .r, .r]], slots := [(0, .own 1000000 (.arr 2 (.int .i64))), (3, .fn (.func 26) []), (11, .ptr 1000007 0), (12, .dat (.int .i64)), (13, .dat (.int .i64))] }], [(1000000, .cells false [.row (.arr 2 (.int .i64))]), (1000007, .cells false [.dat (.int .i64)])], 1000008⟩
def slices_choosePivotCmpFunc_sel_end.x10 : List Spec := [⟨[{ fn := 50, items := [.code [.r, .l, .r, .l, .r, .r], .code [.r, .r]], slots := [(10, .dat (.int .i64)), (11, .dat (.int .i64))] }, { fn := 49, items := [.inRegion [.r, .l] [5, 6, 7, 8, 9, 10], .code [.r, .r]], slots := [(0, .own 1000000 (.arr 2 (.int .i64))), (3, .dat (.int .i64)), (4, .ptr 1000007 0), (5, .fn (.func 26) [])] }, { fn := 48, items := [.inRegion [.r, .l] [8, 9], .code [.r, .r]], slots := [] }, { fn := 37, items := [.inRegion [.r, .r, .r, .r, .r, .r, .l, .r, .l, .l, .r, .l, .r, .r] [3, 4], .code [.r, .r, .r, .r, .r, .r, .l, .r, .l, .r], .code [.r, .r, .r, .r, .r, .r, .r]], slots := [(0, .own 1000000 (.arr 2 (.int .i64))), (3, .fn (.func 26) []), (11, .ptr 1000007 0), (12, .dat (.int .i64)), (13, .dat (.int .i64))] }], [(1000000, .cells false [.row (.arr 2 (.int .i64))]), (1000007, .cells false [.dat (.int .i64)])], 1000008⟩, ⟨[{ fn := 50, items := [.code [.r, .r, .r]], slots := [(10, .dat (.int .i64)), (11, .dat (.int .i64))] }, { fn := 49, items := [.inRegion [.r, .l] [5, 6, 7, 8, 9, 10], .code [.r, .r]], slots := [(0, .own 1000000 (.arr 2 (.int .i64))), (3, .dat (.int .i64)), (4, .ptr 1000007 0), (5, .fn (.func 26) [])] }, { fn := 48, items := [.inRegion [.r, .l] [8, 9], .code [.r, .r]], slots := [] }, { fn := 37, items := [.inRegion [.r, .r, .r, .r, .r, .r, .l, .r, .l, .l, .r, .l, .r, .r] [3, 4], .code [.r, .r, .r, .r, .r, .r, .l, .r, .l, .r], .code [.r, .r, .r, .r, .r, .r, .r]], slots := [(0, .own 1000000 (.arr 2 (.int .i64))), (3, .fn (.func 26) []), (11, .ptr 1000007 0), (12, .dat (.int .i64)), (13, .dat (.int .i64))] }], [(1000000, .cells false [.row (.arr 2 (.int .i64))]), (1000007, .cells false [.dat (.int .i64)])], 1000008⟩]
noncomputable def slices_choosePivotCmpFunc_sel_end.b10 (m_ : Mode) (self : Int × Int × Int × Int × Int × (List (List Int)) × Int × Unit → Option ((Int × Int × Int × Int × Int × (List (List Int)) × Int × Unit) ⊕ (Int × Int × Int × Int × Int × (List (List Int)) × Int × Unit))) : Int × Int × Int × Int × Int × (List (List Int)) × Int × Unit → Option ((Int × Int × Int × Int × Int × (List (List Int)) × Int × Unit) ⊕ (Int × Int × Int × Int × Int × (List (List Int)) × Int × Unit)) := fun v_ => match v_ with
| (a, b, c, i, j, m, m1, ()) =>
  bif inB b (m.length : Int) then
  bif inB a (m.length : Int) then
  (sel_ends_1.run m_ ((rd (List.replicate 2 (0 : Int) : List Int) m b), (rd (List.replicate 2 (0 : Int) : List Int) m a), ())).bind fun r =>
  bif decide (r < (0 : Int)) then
    some (.inl (b, a, c, i, j, m, (IntKind.i64.wrap (m1 + (1 : Int))), ()))
  else
    some (.inr (a, b, c, i, j, m, m1, ()))
  else none
  else none
theorem slices_choosePivotCmpFunc_sel_end.k10 (m_ : Mode) : ∀ (self : Known slices_choosePivotCmpFunc_sel_end.e10.sls → Option (Exits slices_choosePivotCmpFunc_sel_end.x10)) (v : Known slices_choosePivotCmpFunc_sel_end.e10.sls), runS P (oras (slices_choosePivotCmpFunc_sel_end.cs m_)) slices_choosePivotCmpFunc_sel_end.inl (⟨slices_choosePivotCmpFunc_sel_end.e10, self⟩ :: exitCuts slices_choosePivotCmpFunc_sel_end.x10 id) [] (fun _ _ => none) 20000 false (slices_choosePivotCmpFunc_sel_end.e10.mk' v) = slices_choosePivotCmpFunc_sel_end.b10 m_ self v := by
  intro self v_; exact (match v_ with | (a, b, c, i, j, m, m1, ()) => by kernel_rfl)
noncomputable def slices_choosePivotCmpFunc_sel_end.l10 (m_ : Mode) : Int × Int × Int × Int × Int × (List (List Int)) × Int × Unit → Option ((Int × Int × Int × Int × Int × (List (List Int)) × Int × Unit) ⊕ (Int × Int × Int × Int × Int × (List (List Int)) × Int × Unit)) := loop m_ (slices_choosePivotCmpFunc_sel_end.b10 m_)
theorem slices_choosePivotCmpFunc_sel_end.q10 (v) : slices_choosePivotCmpFunc_sel_end.l10 .lim v = slices_choosePivotCmpFunc_sel_end.b10 .lim (slices_choosePivotCmpFunc_sel_end.l10 .lim) v := lfp_eq (cont_of_run (slices_choosePivotCmpFunc_sel_end.k10 .lim)) v
noncomputable def slices_choosePivotCmpFunc_sel_end.g10 (m_ : Mode) : Seg := ⟨slices_choosePivotCmpFunc_sel_end.e10, slices_choosePivotCmpFunc_sel_end.x10, slices_choosePivotCmpFunc_sel_end.l10 m_⟩
theorem slices_choosePivotCmpFunc_sel_end.s10 (m_ : Mode) (S0 w0 cs0) : SegGood P S0 w0 cs0 37 (slices_choosePivotCmpFunc_sel_end.g10 m_) := seg_loop m_ (oras_ok (slices_choosePivotCmpFunc_sel_end.csok m_)) (all_nil) (by rfl) (fun e he => List.all_eq_true.1 (show slices_choosePivotCmpFunc_sel_end.x10.all Spec.ok = true by rfl) e he) (slices_choosePivotCmpFunc_sel_end.k10 m_)
def slices_choosePivotCmpFunc_sel_end.e11 : Spec := ⟨[{ fn := 50, items := [.code []], slots := [(0, .own 1000000 (.arr 2 (.int .i64))), (1, .dat (.int .i64)), (2, .dat (.int .i64)), (3, .ptr 1000007 0), (4, .fn (.func 26) [])] }, { fn := 49, items := [.inRegion [.r, .r, .l] [5, 6, 7, 8, 9, 10], .code [.r, .r, .r]], slots := [(0, .own 1000000 (.arr 2 (.int .i64))), (1, .dat (.int .i64)), (4, .ptr 1000007 0), (5, .fn (.func 26) [])] }, { fn := 48, items := [.inRegion [.r, .l] [8, 9], .code [.r, .r]], slots := [] }, { fn := 37, items := [.inRegion [.r, .r, .r, .r, .r, .r, .l, .r, .l, .l, .r, .l, .r, .r] [3, 4], .code [.r, .r, .r, .r, .r, .r, .l, .r, .l, .r], .code [.r, .r, .r, .r, .r, .r, .r]], slots := [(0, .own 1000000 (.arr 2 (.int .i64))), (3, .fn (.func 26) []), (11, .ptr 1000007 0), (12, .dat (.int .i64)), (13, .dat (.int .i64))] }], [(1000000, .cells false [.row (.arr 2 (.int .i64))]), (1000007, .cells false [.dat (.int .i64)])], 1000008⟩
def slices_choosePivotCmpFunc_sel_end.x11 : List Spec := [⟨[{ fn := 50, items := [.code [.r, .l, .r, .l, .r, .r], .code [.r, .r]], slots := [(10, .dat (.int .i64)), (11, .dat (.int .i64))] }, { fn := 49, items := [.inRegion [.r, .r, .l] [5, 6, 7, 8, 9, 10], .code [.r, .r, .r]], slots := [(0, .own 1000000 (.arr 2 (.int .i64))), (1, .dat (.int .i64)), (4, .ptr 1000007 0), (5, .fn (.func 26) [])] }, { fn := 48, items := [.inRegion [.r, .l] [8, 9], .code [.r, .r]], slots := [] }, { fn := 37, items := [.inRegion [.r, .r, .r, .r, .r, .r, .l, .r, .l, .l, .r, .l, .r, .r] [3, 4], .code [.r, .r, .r, .r, .r, .r, .l, .r, .l, .r], .code [.r, .r, .r, .r, .r, .r, .r]], slots := [(0, .own 1000000 (.arr 2 (.int .i64))), (3, .fn (.func 26) []), (11, .ptr 1000007 0), (12, .dat (.int .i64)), (13, .dat (.int .i64))] }], [(1000000, .cells false [.row (.arr 2 (.int .i64))]), (1000007, .cells false [.dat (.int .i64)])], 1000008⟩, ⟨[{ fn := 50, items := [.code [.r, .r, .r]], slots := [(10, .dat (.int .i64)), (11, .dat (.int .i64))] }, { fn := 49, items := [.inRegion [.r, .r, .l] [5, 6, 7, 8, 9, 10], .code [.r, .r, .r]], slots := [(0, .own 1000000 (.arr 2 (.int .i64))), (1, .dat (.int .i64)), (4, .ptr 1000007 0), (5, .fn (.func 26) [])] }, { fn := 48, items := [.inRegion [.r, .l] [8, 9], .code [.r, .r]], slots := [] }, { fn := 37, items := [.inRegion [.r, .r, .r, .r, .r, .r, .l, .r, .l, .l, .r, .l, .r, .r] [3, 4], .code [.r, .r, .r, .r, .r, .r, .l, .r, .l, .r], .code [.r, .r, .r, .r, .r, .r, .r]], slots := [(0, .own 1000000 (.arr 2 (.int .i64))), (3, .fn (.func 26) []), (11, .ptr 1000007 0), (12, .dat (.int .i64)), (13, .dat (.int .i64))] }], [(1000000, .cells false [.row (.arr 2 (.int .i64))]), (1000007, .cells false [.dat (.int .i64)])], 1000008⟩]
noncomputable def slices_choosePivotCmpFunc_sel_end.b11 (m_ : Mode) (self : Int × Int × Int × Int × Int × (List (List Int)) × Int × Unit → Option ((Int × Int × Int × Int × Int × (List (List Int)) × Int × Unit) ⊕ (Int × Int × Int × Int × Int × (List (List Int)) × Int × Unit))) : Int × Int × Int × Int × Int × (List (List Int)) × Int × Unit → Option ((Int × Int × Int × Int × Int × (List (List Int)) × Int × Unit) ⊕ (Int × Int × Int × Int × Int × (List (List Int)) × Int × Unit)) := fun v_ => match v_ with
| (a, b, a1, i, j, m, m1, ()) =>
  bif inB b (m.length : Int) then
  bif inB a (m.length : Int) then
  (sel_ends_1.run m_ ((rd (List.replicate 2 (0 : Int) : List Int) m b), (rd (List.replicate 2 (0 : Int) : List Int) m a), ())).bind fun r =>
  bif decide (r < (0 : Int)) then
    some (.inl (b, a, a1, i, j, m, (IntKind.i64.wrap (m1 + (1 : Int))), ()))
  else
    some (.inr (a, b, a1, i, j, m, m1, ()))
  else none
  else none
theorem slices_choosePivotCmpFunc_sel_end.k11 (m_ : Mode) : ∀ (self : Known slices_choosePivotCmpFunc_sel_end.e11.sls → Option (Exits slices_choosePivotCmpFunc_sel_end.x11)) (v : Known slices_choosePivotCmpFunc_sel_end.e11.sls), runS P (oras (slices_choosePivotCmpFunc_sel_end.cs m_)) slices_choosePivotCmpFunc_sel_end.inl (⟨slices_choosePivotCmpFunc_sel_end.e11, self⟩ :: exitCuts slices_choosePivotCmpFunc_sel_end.x11 id) [] (fun _ _ => none) 20000 false (slices_choosePivotCmpFunc_sel_end.e11.mk' v) = slices_choosePivotCmpFunc_sel_end.b11 m_ self v := by
  intro self v_; exact (match v_ with | (a, b, a1, i, j, m, m1, ()) => by kernel_rfl)
noncomputable def slices_choosePivotCmpFunc_sel_end.l11 (m_ : Mode) : Int × Int × Int × Int × Int × (List (List Int)) × Int × Unit → Option ((Int × Int × Int × Int × Int × (List (List Int)) × Int × Unit) ⊕ (Int × Int × Int × Int × Int × (List (List Int)) × Int × Unit)) := loop m_ (slices_choosePivotCmpFunc_sel_end.b11 m_)
theorem slices_choosePivotCmpFunc_sel_end.q11 (v) : slices_choosePivotCmpFunc_sel_end.l11 .lim v = slices_choosePivotCmpFunc_sel_end.b11 .lim (slices_choosePivotCmpFunc_sel_end.l11 .lim) v := lfp_eq (cont_of_run (slices_choosePivotCmpFunc_sel_end.k11 .lim)) v
noncomputable def slices_choosePivotCmpFunc_sel_end.g11 (m_ : Mode) : Seg := ⟨slices_choosePivotCmpFunc_sel_end.e11, slices_choosePivotCmpFunc_sel_end.x11, slices_choosePivotCmpFunc_sel_end.l11 m_⟩
theorem slices_choosePivotCmpFunc_sel_end.s11 (m_ : Mode) (S0 w0 cs0) : SegGood P S0 w0 cs0 37 (slices_choosePivotCmpFunc_sel_end.g11 m_) := seg_loop m_ (oras_ok (slices_choosePivotCmpFunc_sel_end.csok m_)) (all_nil) (by rfl) (fun e he => List.all_eq_true.1 (show slices_choosePivotCmpFunc_sel_end.x11.all Spec.ok = true by rfl) e he) (slices_choosePivotCmpFunc_sel_end.k11 m_)
def slices_choosePivotCmpFunc_sel_end.e12 : Spec := ⟨[{ fn := 50, items := [.code []], slots := [(0, .own 1000000 (.arr 2 (.int .i64))), (1, .dat (.int .i64)), (2, .dat (.int .i64)), (3, .ptr 1000007 0), (4, .fn (.func 26) [])] }, { fn := 49, items := [.inRegion [.r, .r, .r, .l] [5, 6, 7, 8, 9, 10], .code [.r, .r, .r, .r]], slots := [] }, { fn := 48, items := [.inRegion [.r, .l] [8, 9], .code [.r, .r]], slots := [] }, { fn := 37, items := [.inRegion [.r, .r, .r, .r, .r, .r, .l, .r, .l, .l, .r, .l, .r, .r] [3, 4], .code [.r, .r, .r, .r, .r, .r, .l, .r, .l, .r], .code [.r, .r, .r, .r, .r, .r, .r]], slots := [(0, .own 1000000 (.arr 2 (.int .i64))), (3, .fn (.func 26) []), (11, .ptr 1000007 0), (12, .dat (.int .i64)), (13, .dat (.int .i64))] }], [(1000000, .cells false [.row (.arr 2 (.int .i64))]), (1000007, .cells false [.dat (.int .i64)])], 1000008⟩
def slices_choosePivotCmpFunc_sel_end.x12 : List Spec := [⟨[{ fn := 50, items := [.code [.r, .l, .r, .l, .r, .r], .code [.r, .r]], slots := [(10, .dat (.int .i64)), (11, .dat (.int .i64))] }, { fn := 49, items := [.inRegion [.r, .r, .r, .l] [5, 6, 7, 8, 9, 10], .code [.r, .r, .r, .r]], slots := [] }, { fn := 48, items := [.inRegion [.r, .l] [8, 9], .code [.r, .r]], slots := [] }, { fn := 37, items := [.inRegion [.r, .r, .r, .r, .r, .r, .l, .r, .l, .l, .r, .l, .r, .r] [3, 4], .code [.r, .r, .r, .r, .r, .r, .l, .r, .l, .r], .code [.r, .r, .r, .r, .r, .r, .r]], slots := [(0, .own 1000000 (.arr 2 (.int .i64))), (3, .fn (.func 26) []), (11, .ptr 1000007 0), (12, .dat (.int .i64)), (13, .dat (.int .i64))] }], [(1000000, .cells false [.row (.arr 2 (.int .i64))]), (1000007, .cells false [.dat (.int .i64)])], 1000008⟩, ⟨[{ fn := 50, items := [.code [.r, .r, .r]], slots := [(10, .dat (.int .i64)), (11, .dat (.int .i64))] }, { fn := 49, items := [.inRegion [.r, .r, .r, .l] [5, 6, 7, 8, 9, 10], .code [.r, .r, .r, .r]], slots := [] }, { fn := 48, items := [.inRegion [.r, .l] [8, 9], .code [.r, .r]], slots := [] }, { fn := 37, items := [.inRegion [.r, .r, .r, .r, .r, .r, .l, .r, .l, .l, .r, .l, .r, .r] [3, 4], .code [.r, .r, .r, .r, .r, .r, .l, .r, .l, .r], .code [.r, .r, .r, .r, .r, .r, .r]], slots := [(0, .own 1000000 (.arr 2 (.int .i64))), (3, .fn (.func 26) []), (11, .ptr 1000007 0), (12, .dat (.int .i64)), (13, .dat (.int .i64))] }], [(1000000, .cells false [.row (.arr 2 (.int .i64))]), (1000007, .cells false [.dat (.int .i64)])], 1000008⟩]
noncomputable def slices_choosePivotCmpFunc_sel_end.b12 (m_ : Mode) (self : Int × Int × Int × Int × (List (List Int)) × Int × Unit → Option ((Int × Int × Int × Int × (List (List Int)) × Int × Unit) ⊕ (Int × Int × Int × Int × (List (List Int)) × Int × Unit))) : Int × Int × Int × Int × (List (List Int)) × Int × Unit → Option ((Int × Int × Int × Int × (List (List Int)) × Int × Unit) ⊕ (Int × Int × Int × Int × (List (List Int)) × Int × Unit)) := fun v_ => match v_ with
| (a, b, i, j, m, m1, ()) =>
  bif inB b (m.length : Int) then
  bif inB a (m.length : Int) then
  (sel_ends_1.run m_ ((rd (List.replicate 2 (0 : Int) : List Int) m b), (rd (List.replicate 2 (0 : Int) : List Int) m a), ())).bind fun r =>
  bif decide (r < (0 : Int)) then
    some (.inl (b, a, i, j, m, (IntKind.i64.wrap (m1 + (1 : Int))), ()))
  else
    some (.inr (a, b, i, j, m, m1, ()))
  else none
  else none
theorem slices_choosePivotCmpFunc_sel_end.k12 (m_ : Mode) : ∀ (self : Known slices_choosePivotCmpFunc_sel_end.e12.sls → Option (Exits slices_choosePivotCmpFunc_sel_end.x12)) (v : Known slices_choosePivotCmpFunc_sel_end.e12.sls), runS P (oras (slices_choosePivotCmpFunc_sel_end.cs m_)) slices_choosePivotCmpFunc_sel_end.inl (⟨slices_choosePivotCmpFunc_sel_end.e12, self⟩ :: exitCuts slices_choosePivotCmpFunc_sel_end.x12 id) [] (fun _ _ => none) 20000 false (slices_choosePivotCmpFunc_sel_end.e12.mk' v) = slices_choosePivotCmpFunc_sel_end.b12 m_ self v := by
  intro self v_; exact (match v_ with | (a, b, i, j, m, m1, ()) => by kernel_rfl)
noncomputable def slices_choosePivotCmpFunc_sel_end.l12 (m_ : Mode) : Int × Int × Int × Int × (List (List Int)) × Int × Unit → Option ((Int × Int × Int × Int × (List (List Int)) × Int × Unit) ⊕ (Int × Int × Int × Int × (List (List Int)) × Int × Unit)) := loop m_ (slices_choosePivotCmpFunc_sel_end.b12 m_)
theorem slices_choosePivotCmpFunc_sel_end.q12 (v) : slices_choosePivotCmpFunc_sel_end.l12 .lim v = slices_choosePivotCmpFunc_sel_end.b12 .lim (slices_choosePivotCmpFunc_sel_end.l12 .lim) v := lfp_eq (cont_of_run (slices_choosePivotCmpFunc_sel_end.k12 .lim)) v
noncomputable def slices_choosePivotCmpFunc_sel_end.g12 (m_ : Mode) : Seg := ⟨slices_choosePivotCmpFunc_sel_end.e12, slices_choosePivotCmpFunc_sel_end.x12, slices_choosePivotCmpFunc_sel_end.l12 m_⟩
theorem slices_choosePivotCmpFunc_sel_end.s12 (m_ : Mode) (S0 w0 cs0) : SegGood P S0 w0 cs0 37 (slices_choosePivotCmpFunc_sel_end.g12 m_) := seg_loop m_ (oras_ok (slices_choosePivotCmpFunc_sel_end.csok m_)) (all_nil) (by rfl) (fun e he => List.all_eq_true.1 (show slices_choosePivotCmpFunc_sel_end.x12.all Spec.ok = true by rfl) e he) (slices_choosePivotCmpFunc_sel_end.k12 m_)
def slices_choosePivotCmpFunc_sel_end.e13 : Spec := ⟨[{ fn := 49, items := [.code []], slots := [(0, .own 1000000 (.arr 2 (.int .i64))), (1, .dat (.int .i64)), (2, .dat (.int .i64)), (3, .dat (.int .i64)), (4, .ptr 1000007 0), (5, .fn (.func 26) [])] }, { fn := 48, items := [.inRegion [.r, .l] [8, 9], .code [.r, .r]], slots := [] }, { fn := 37, items := [.inRegion [.r, .r, .r, .r, .r, .r, .l, .r, .l, .l, .r, .l, .r, .r] [3, 4], .code [.r, .r, .r, .r, .r, .r, .l, .r, .l, .r], .code [.r, .r, .r, .r, .r, .r, .r]], slots := [(0, .own 1000000 (.arr 2 (.int .i64))), (3, .fn (.func 26) []), (11, .ptr 1000007 0), (12, .dat (.int .i64)), (13, .dat (.int .i64))] }], [(1000000, .cells false [.row (.arr 2 (.int .i64))]), (1000007, .cells false [.dat (.int .i64)])], 1000008⟩
def slices_choosePivotCmpFunc_sel_end.x13 : List Spec := [⟨[{ fn := 49, items := [.code [.r, .r, .r, .r, .r]], slots := [(12, .dat (.int .i64))] }, { fn := 48, items := [.inRegion [.r, .l] [8, 9], .code [.r, .r]], slots := [] }, { fn := 37, items := [.inRegion [.r, .r, .r, .r, .r, .r, .l, .r, .l, .l, .r, .l, .r, .r] [3, 4], .code [.r, .r, .r, .r, .r, .r, .l, .r, .l, .r], .code [.r, .r, .r, .r, .r, .r, .r]], slots := [(0, .own 1000000 (.arr 2 (.int .i64))), (3, .fn (.func 26) []), (11, .ptr 1000007 0), (12, .dat (.int .i64)), (13, .dat (.int .i64))] }], [(1000000, .cells false [.row (.arr 2 (.int .i64))]), (1000007, .cells false [.dat (.int .i64)])], 1000008⟩]
noncomputable def slices_choosePivotCmpFunc_sel_end.b13 (m_ : Mode) (self : Int × Int × Int × Int × Int × (List (List Int)) × Int × Unit → Option ((Int × Int × Int × (List (List Int)) × Int × Unit))) : Int × Int × Int × Int × Int × (List (List Int)) × Int × Unit → Option ((Int × Int × Int × (List (List Int)) × Int × Unit)) := fun v_ => match v_ with
| (a, b, c, i, j, m, m1, ()) =>
  (slices_choosePivotCmpFunc_sel_end.l10 m_ (a, b, c, i, j, m, m1, ())).bind fun g_ => match g_ with
  | .inl (t, t1, c1, i1, j1, m2, m3, ()) =>
    (slices_choosePivotCmpFunc_sel_end.l11 m_ (t1, c1, t, i1, j1, m2, m3, ())).bind fun g_ => match g_ with
    | .inl (t2, t3, a1, i2, j2, m4, m5, ()) =>
      (slices_choosePivotCmpFunc_sel_end.l12 m_ (a1, t2, i2, j2, m4, m5, ())).bind fun g_ => match g_ with
      | .inl (t4, t5, i3, j3, m6, m7, ()) =>
        some (t5, i3, j3, m6, m7, ())
      | .inr (t6, t7, i4, j4, m8, m9, ()) =>
        some (t7, i4, j4, m8, m9, ())
    | .inr (t8, t9, a2, i5, j5, m10, m11, ()) =>
      (slices_choosePivotCmpFunc_sel_end.l12 m_ (a2, t8, i5, j5, m10, m11, ())).bind fun g_ => match g_ with
      | .inl (t10, t11, i6, j6, m12, m13, ()) =>
        some (t11, i6, j6, m12, m13, ())
      | .inr (t12, t13, i7, j7, m14, m15, ()) =>
        some (t13, i7, j7, m14, m15, ())
  | .inr (t14, t15, c2, i8, j8, m16, m17, ()) =>
    (slices_choosePivotCmpFunc_sel_end.l11 m_ (t15, c2, t14, i8, j8, m16, m17, ())).bind fun g_ => match g_ with
    | .inl (t16, t17, a3, i9, j9, m18, m19, ()) =>
      (slices_choosePivotCmpFunc_sel_end.l12 m_ (a3, t16, i9, j9, m18, m19, ())).bind fun g_ => match g_ with
      | .inl (t18, t19, i10, j10, m20, m21, ()) =>
        some (t19, i10, j10, m20, m21, ())
      | .inr (t20, t21, i11, j11, m22, m23, ()) =>
        some (t21, i11, j11, m22, m23, ())
    | .inr (t22, t23, a4, i12, j12, m24, m25, ()) =>
      (slices_choosePivotCmpFunc_sel_end.l12 m_ (a4, t22, i12, j12, m24, m25, ())).bind fun g_ => match g_ with
      | .inl (t24, t25, i13, j13, m26, m27, ()) =>
        some (t25, i13, j13, m26, m27, ())
      | .inr (t26, t27, i14, j14, m28, m29, ()) =>
        some (t27, i14, j14, m28, m29, ())
theorem slices_choosePivotCmpFunc_sel_end.k13 (m_ : Mode) : ∀ (self : Known slices_choosePivotCmpFunc_sel_end.e13.sls → Option (Exits slices_choosePivotCmpFunc_sel_end.x13)) (v : Known slices_choosePivotCmpFunc_sel_end.e13.sls), runS P (oras (slices_choosePivotCmpFunc_sel_end.cs m_)) slices_choosePivotCmpFunc_sel_end.inl (⟨slices_choosePivotCmpFunc_sel_end.e13, self⟩ :: exitCuts slices_choosePivotCmpFunc_sel_end.x13 id) [slices_choosePivotCmpFunc_sel_end.g10 m_, slices_choosePivotCmpFunc_sel_end.g11 m_, slices_choosePivotCmpFunc_sel_end.g12 m_] (fun _ _ => none) 20000 false (slices_choosePivotCmpFunc_sel_end.e13.mk' v) = slices_choosePivotCmpFunc_sel_end.b13 m_ self v := by
  intro self v_; exact (match v_ with | (a, b, c, i, j, m, m1, ()) => by kernel_rfl)
noncomputable def slices_choosePivotCmpFunc_sel_end.l13 (m_ : Mode) : Int × Int × Int × Int × Int × (List (List Int)) × Int × Unit → Option ((Int × Int × Int × (List (List Int)) × Int × Unit)) := loop m_ (slices_choosePivotCmpFunc_sel_end.b13 m_)
theorem slices_choosePivotCmpFunc_sel_end.q13 (v) : slices_choosePivotCmpFunc_sel_end.l13 .lim v = slices_choosePivotCmpFunc_sel_end.b13 .lim (slices_choosePivotCmpFunc_sel_end.l13 .lim) v := lfp_eq (cont_of_run (slices_choosePivotCmpFunc_sel_end.k13 .lim)) v
noncomputable def slices_choosePivotCmpFunc_sel_end.g13 (m_ : Mode) : Seg := ⟨slices_choosePivotCmpFunc_sel_end.e13, slices_choosePivotCmpFunc_sel_end.x13, slices_choosePivotCmpFunc_sel_end.l13 m_⟩
theorem slices_choosePivotCmpFunc_sel_end.s13 (m_ : Mode) (S0 w0 cs0) : SegGood P S0 w0 cs0 37 (slices_choosePivotCmpFunc_sel_end.g13 m_) := seg_loop m_ (oras_ok (slices_choosePivotCmpFunc_sel_end.csok m_)) (all_cons (slices_choosePivotCmpFunc_sel_end.s10 m_ S0 w0 cs0) (all_cons (slices_choosePivotCmpFunc_sel_end.s11 m_ S0 w0 cs0) (all_cons (slices_choosePivotCmpFunc_sel_end.s12 m_ S0 w0 cs0) (all_nil)))) (by rfl) (fun e he => List.all_eq_true.1 (show slices_choosePivotCmpFunc_sel_end.x13.all Spec.ok = true by rfl) e he) (slices_choosePivotCmpFunc_sel_end.k13 m_)
def slices_choosePivotCmpFunc_sel_end.e14 : Spec := ⟨[{ fn := 48, items := [.code []], slots := [(0, .own 1000000 (.arr 2 (.int .i64))), (1, .dat (.int .i64)), (2, .ptr 1000007 0), (3, .fn (.func 26) [])] }, { fn := 37, items := [.inRegion [.r, .r, .r, .r, .r, .r, .l, .r, .l, .l, .r, .l, .r, .r] [3, 4], .code [.r, .r, .r, .r, .r, .r, .l, .r, .l, .r], .code [.r, .r, .r, .r, .r, .r, .r]], slots := [(0, .own 1000000 (.arr 2 (.int .i64))), (3, .fn (.func 26) []), (11, .ptr 1000007 0), (12, .dat (.int .i64)), (13, .dat (.int .i64))] }], [(1000000, .cells false [.row (.arr 2 (.int .i64))]), (1000007, .cells false [.dat (.int .i64)])], 1000008⟩
def slices_choosePivotCmpFunc_sel_end.x14 : List Spec := [⟨[{ fn := 48, items := [.code [.r, .r]], slots := [(8, .dat (.int .i64))] }, { fn := 37, items := [.inRegion [.r, .r, .r, .r, .r, .r, .l, .r, .l, .l, .r, .l, .r, .r] [3, 4], .code [.r, .r, .r, .r, .r, .r, .l, .r, .l, .r], .code [.r, .r, .r, .r, .r, .r, .r]], slots := [(0, .own 1000000 (.arr 2 (.int .i64))), (3, .fn (.func 26) []), (11, .ptr 1000007 0), (12, .dat (.int .i64)), (13, .dat (.int .i64))] }], [(1000000, .cells false [.row (.arr 2 (.int .i64))]), (1000007, .cells false [.dat (.int .i64)])], 1000008⟩]
noncomputable def slices_choosePivotCmpFunc_sel_end.b14 (m_ : Mode) (self : Int × Int × Int × (List (List Int)) × Int × Unit → Option ((Int × Int × Int × (List (List Int)) × Int × Unit))) : Int × Int × Int × (List (List Int)) × Int × Unit → Option ((Int × Int × Int × (List (List Int)) × Int × Unit)) := fun v_ => match v_ with
| (a, i, j, m, m1, ()) =>
  (slices_choosePivotCmpFunc_sel_end.l13 m_ ((IntKind.i64.wrap (a - (1 : Int))), a, (IntKind.i64.wrap (a + (1 : Int))), i, j, m, m1, ())).bind fun (t, i1, j1, m2, m3, ()) =>
  some (t, i1, j1, m2, m3, ())
theorem slices_choosePivotCmpFunc_sel_end.k14 (m_ : Mode) : ∀ (self : Known slices_choosePivotCmpFunc_sel_end.e14.sls → Option (Exits slices_choosePivotCmpFunc_sel_end.x14)) (v : Known slices_choosePivotCmpFunc_sel_end.e14.sls), runS P (oras (slices_choosePivotCmpFunc_sel_end.cs m_)) slices_choosePivotCmpFunc_sel_end.inl (⟨slices_choosePivotCmpFunc_sel_end.e14, self⟩ :: exitCuts slices_choosePivotCmpFunc_sel_end.x14 id) [slices_choosePivotCmpFunc_sel_end.g13 m_] (fun _ _ => none) 20000 false (slices_choosePivotCmpFunc_sel_end.e14.mk' v) = slices_choosePivotCmpFunc_sel_end.b14 m_ self v := by
  intro self v_; exact (match v_ with | (a, i, j, m, m1, ()) => by kernel_rfl)
noncomputable def slices_choosePivotCmpFunc_sel_end.l14 (m_ : Mode) : Int × Int × Int × (List (List Int)) × Int × Unit → Option ((Int × Int × Int × (List (List Int)) × Int × Unit)) := loop m_ (slices_choosePivotCmpFunc_sel_end.b14 m_)
theorem slices_choosePivotCmpFunc_sel_end.q14 (v) : slices_choosePivotCmpFunc_sel_end.l14 .lim v = slices_choosePivotCmpFunc_sel_end.b14 .lim (slices_choosePivotCmpFunc_sel_end.l14 .lim) v := lfp_eq (cont_of_run (slices_choosePivotCmpFunc_sel_end.k14 .lim)) v
noncomputable def slices_choosePivotCmpFunc_sel_end.g14 (m_ : Mode) : Seg := ⟨slices_choosePivotCmpFunc_sel_end.e14, slices_choosePivotCmpFunc_sel_end.x14, slices_choosePivotCmpFunc_sel_end.l14 m_⟩
theorem slices_choosePivotCmpFunc_sel_end.s14 (m_ : Mode) (S0 w0 cs0) : SegGood P S0 w0 cs0 37 (slices_choosePivotCmpFunc_sel_end.g14 m_) := seg_loop m_ (oras_ok (slices_choosePivotCmpFunc_sel_end.csok m_)) (all_cons (slices_choosePivotCmpFunc_sel_end.s13 m_ S0 w0 cs0) (all_nil)) (by rfl) (fun e he => List.all_eq_true.1 (show slices_choosePivotCmpFunc_sel_end.x14.all Spec.ok = true by rfl) e he) (slices_choosePivotCmpFunc_sel_end.k14 m_)
def slices_choosePivotCmpFunc_sel_end.e15 : Spec := ⟨[{ fn := 50, items := [.code []], slots := [(0, .own 1000000 (.arr 2 (.int .i64))), (1, .dat (.int .i64)), (2, .dat (.int .i64)), (3, .ptr 1000007 0), (4, .fn (.func 26) [])] }, { fn := 49, items := [.inRegion [.r, .l] [5, 6, 7, 8, 9, 10], .code [.r, .r]], slots := [(0, .own 1000000 (.arr 2 (.int .i64))), (3, .dat (.int .i64)), (4, .ptr 1000007 0), (5, .fn (.func 26) [])] }, { fn := 37, items := [.inRegion [.r, .r, .r, .r, .r, .r, .l, .r, .l, .r] [5, 6], .code [.r, .r, .r, .r, .r, .r, .r]], slots := [(11, .ptr 1000007 0)] }], [(1000000, .cells false [.row (.arr 2 (.int .i64))]), (1000007, .cells false [.dat (.int .i64)])], 1000008⟩
def slices_choosePivotCmpFunc_sel_end.x15 : List Spec := [⟨[{ fn := 50, items := [.code [.r, .l, .r, .l, .r, .r], .code [.r, .r]], slots := [(10, .dat (.int .i64)), (11, .dat (.int .i64))] }, { fn := 49, items := [.inRegion [.r, .l] [5, 6, 7, 8, 9, 10], .code [.r, .r]], slots := [(0, .own 1000000 (.arr 2 (.int .i64))), (3, .dat (.int .i64)), (4, .ptr 1000007 0), (5, .fn (.func 26) [])] }, { fn := 37, items := [.inRegion [.r, .r, .r, .r, .r, .r, .l, .r, .l, .r] [5, 6], .code [.r, .r, .r, .r, .r, .r, .r]], slots := [(11, .ptr 1000007 0)] }], [(1000000, .cells false [.row (.arr 2 (.int .i64))]), (1000007, .cells false [.dat (.int .i64)])], 1000008⟩, ⟨[{ fn := 50, items := [.code [.r, .r, .r]], slots := [(10, .dat (.int .i64)), (11, .dat (.int .i64))] }, { fn := 49, items := [.inRegion [.r, .l] [5, 6, 7, 8, 9, 10], .code [.r, .r]], slots := [(0, .own 1000000 (.arr 2 (.int .i64))), (3, .dat (.int .i64)), (4, .ptr 1000007 0), (5, .fn (.func 26) [])] }, { fn := 37, items := [.inRegion [.r, .r, .r, .r, .r, .r, .l, .r, .l, .r] [5, 6], .code [.r, .r, .r, .r, .r, .r, .r]], slots := [(11, .ptr 1000007 0)] }], [(1000000, .cells false [.row (.arr 2 (.int .i64))]), (1000007, .cells false [.dat (.int .i64)])], 1000008⟩]
noncomputable def slices_choosePivotCmpFunc_sel_end.b15 (m_ : Mode) (self : Int × Int × Int × (List (List Int)) × Int × Unit → Option ((Int × Int × Int × (List (List Int)) × Int × Unit) ⊕ (Int × Int × Int × (List (List Int)) × Int × Unit))) : Int × Int × Int × (List (List Int)) × Int × Unit → Option ((Int × Int × Int × (List (List Int)) × Int × Unit) ⊕ (Int × Int × Int × (List (List Int)) × Int × Unit)) := fun v_ => match v_ with
| (a, b, c, m, m1, ()) =>
  bif inB b (m.length : Int) then
  bif inB a (m.length : Int) then
  (sel_ends_1.run m_ ((rd (List.replicate 2 (0 : Int) : List Int) m b), (rd (List.replicate 2 (0 : Int) : List Int) m a), ())).bind fun r =>
  bif decide (r < (0 : Int)) then
    some (.inl (b, a, c, m, (IntKind.i64.wrap (m1 + (1 : Int))), ()))
  else
    some (.inr (a, b, c, m, m1, ()))
  else none
  else none
theorem slices_choosePivotCmpFunc_sel_end.k15 (m_ : Mode) : ∀ (self : Known slices_choosePivotCmpFunc_sel_end.e15.sls → Option (Exits slices_choosePivotCmpFunc_sel_end.x15)) (v : Known slices_choosePivotCmpFunc_sel_end.e15.sls), runS P (oras (slices_choosePivotCmpFunc_sel_end.cs m_)) slices_choosePivotCmpFunc_sel_end.inl (⟨slices_choosePivotCmpFunc_sel_end.e15, self⟩ :: exitCuts slices_choosePivotCmpFunc_sel_end.x15 id) [] (fun _ _ => none) 20000 false (slices_choosePivotCmpFunc_sel_end.e15.mk' v) = slices_choosePivotCmpFunc_sel_end.b15 m_ self v := by
  intro self v_; exact (match v_ with | (a, b, c, m, m1, ()) => by kernel_rfl)
noncomputable def slices_choosePivotCmpFunc_sel_end.l15 (m_ : Mode) : Int × Int × Int × (List (List Int)) × Int × Unit → Option ((Int × Int × Int × (List (List Int)) × Int × Unit) ⊕ (Int × Int × Int × (List (List Int)) × Int × Unit)) := loop m_ (slices_choosePivotCmpFunc_sel_end.b15 m_)
theorem slices_choosePivotCmpFunc_sel_end.q15 (v) : slices_choosePivotCmpFunc_sel_end.l15 .lim v = slices_choosePivotCmpFunc_sel_end.b15 .lim (slices_choosePivotCmpFunc_sel_end.l15 .lim) v := lfp_eq (cont_of_run (slices_choosePivotCmpFunc_sel_end.k15 .lim)) v
noncomputable def slices_choosePivotCmpFunc_sel_end.g15 (m_ : Mode) : Seg := ⟨slices_choosePivotCmpFunc_sel_end.e15, slices_choosePivotCmpFunc_sel_end.x15, slices_choosePivotCmpFunc_sel_end.l15 m_⟩
theorem slices_choosePivotCmpFunc_sel_end.s15 (m_ : Mode) (S0 w0 cs0) : SegGood P S0 w0 cs0 37 (slices_choosePivotCmpFunc_sel_end.g15 m_) := seg_loop m_ (oras_ok (slices_choosePivotCmpFunc_sel_end.csok m_)) (all_nil) (by rfl) (fun e he => List.all_eq_true.1 (show slices_choosePivotCmpFunc_sel_end.x15.all Spec.ok = true by rfl) e he) (slices_choosePivotCmpFunc_sel_end.k15 m_)
def slices_choosePivotCmpFunc_sel_end.e16 : Spec := ⟨[{ fn := 50, items := [.code []], slots := [(0, .own 1000000 (.arr 2 (.int .i64))), (1, .dat (.int .i64)), (2, .dat (.int .i64)), (3, .ptr 1000007 0), (4, .fn (.func 26) [])] }, { fn := 49, items := [.inRegion [.r, .r, .l] [5, 6, 7, 8, 9, 10], .code [.r, .r, .r]], slots := [(0, .own 1000000 (.arr 2 (.int .i64))), (1, .dat (.int .i64)), (4, .ptr 1000007 0), (5, .fn (.func 26) [])] }, { fn := 37, items := [.inRegion [.r, .r, .r, .r, .r, .r, .l, .r, .l, .r] [5, 6], .code [.r, .r, .r, .r, .r, .r, .r]], slots := [(11, .ptr 1000007 0)] }], [(1000000, .cells false [.row (.arr 2 (.int .i64))]), (1000007, .cells false [.dat (.int .i64)])], 1000008⟩
def slices_choosePivotCmpFunc_sel_end.x16 : List Spec := [⟨[{ fn := 50, items := [.code [.r, .l, .r, .l, .r, .r], .code [.r, .r]], slots := [(10, .dat (.int .i64)), (11, .dat (.int .i64))] }, { fn := 49, items := [.inRegion [.r, .r, .l] [5, 6, 7, 8, 9, 10], .code [.r, .r, .r]], slots := [(0, .own 1000000 (.arr 2 (.int .i64))), (1, .dat (.int .i64)), (4, .ptr 1000007 0), (5, .fn (.func 26) [])] }, { fn := 37, items := [.inRegion [.r, .r, .r, .r, .r, .r, .l, .r, .l, .r] [5, 6], .code [.r, .r, .r, .r, .r, .r, .r]], slots := [(11, .ptr 1000007 0)] }], [(1000000, .cells false [.row (.arr 2 (.int .i64))]), (1000007, .cells false [.dat (.int .i64)])], 1000008⟩, ⟨[{ fn := 50, items := [.code [.r, .r, .r]], slots := [(10, .dat (.int .i64)), (11, .dat (.int .i64))] }, { fn := 49, items := [.inRegion [.r, .r, .l] [5, 6, 7, 8, 9, 10], .code [.r, .r, .r]], slots := [(0, .own 1000000 (.arr 2 (.int .i64))), (1, .dat (.int .i64)), (4, .ptr 1000007 0), (5, .fn (.func 26) [])] }, { fn := 37, items := [.inRegion [.r, .r, .r, .r, .r, .r, .l, .r, .l, .r] [5, 6], .code [.r, .r, .r, .r, .r, .r, .r]], slots := [(11, .ptr 1000007 0)] }], [(1000000, .cells false [.row (.arr 2 (.int .i64))]), (1000007, .cells false [.dat (.int .i64)])], 1000008⟩]
noncomputable def slices_choosePivotCmpFunc_sel_end.b16 (m_ : Mode) (self : Int × Int × Int × (List (List Int)) × Int × Unit → Option ((Int × Int × Int × (List (List Int)) × Int × Unit) ⊕ (Int × Int × Int × (List (List Int)) × Int × Unit))) : Int × Int × Int × (List (List Int)) × Int × Unit → Option ((Int × Int × Int × (List (List Int)) × Int × Unit) ⊕ (Int × Int × Int × (List (List Int)) × Int × Unit)) := fun v_ => match v_ with
| (a, b, a1, m, m1, ()) =>
  bif inB b (m.length : Int) then
  bif inB a (m.length : Int) then
  (sel_ends_1.run m_ ((rd (List.replicate 2 (0 : Int) : List Int) m b), (rd (List.replicate 2 (0 : Int) : List Int) m a), ())).bind fun r =>
  bif decide (r < (0 : Int)) then
    some (.inl (b, a, a1, m, (IntKind.i64.wrap (m1 + (1 : Int))), ()))
  else
    some (.inr (a, b, a1, m, m1, ()))
  else none
  else none
theorem slices_choosePivotCmpFunc_sel_end.k16 (m_ : Mode) : ∀ (self : Known slices_choosePivotCmpFunc_sel_end.e16.sls → Option (Exits slices_choosePivotCmpFunc_sel_end.x16)) (v : Known slices_choosePivotCmpFunc_sel_end.e16.sls), runS P (oras (slices_choosePivotCmpFunc_sel_end.cs m_)) slices_choosePivotCmpFunc_sel_end.inl (⟨slices_choosePivotCmpFunc_sel_end.e16, self⟩ :: exitCuts slices_choosePivotCmpFunc_sel_end.x16 id) [] (fun _ _ => none) 20000 false (slices_choosePivotCmpFunc_sel_end.e16.mk' v) = slices_choosePivotCmpFunc_sel_end.b16 m_ self v := by
  intro self v_; exact (match v_ with | (a, b, a1, m, m1, ()) => by kernel_rfl)
noncomputable def slices_choosePivotCmpFunc_sel_end.l16 (m_ : Mode) : Int × Int × Int × (List (List Int)) × Int × Unit → Option ((Int × Int × Int × (List (List Int)) × Int × Unit) ⊕ (Int × Int × Int × (List (List Int)) × Int × Unit)) := loop m_ (slices_choosePivotCmpFunc_sel_end.b16 m_)
theorem slices_choosePivotCmpFunc_sel_end.q16 (v) : slices_choosePivotCmpFunc_sel_end.l16 .lim v = slices_choosePivotCmpFunc_sel_end.b16 .lim (slices_choosePivotCmpFunc_sel_end.l16 .lim) v := lfp_eq (cont_of_run (slices_choosePivotCmpFunc_sel_end.k16 .lim)) v
noncomputable def slices_choosePivotCmpFunc_sel_end.g16 (m_ : Mode) : Seg := ⟨slices_choosePivotCmpFunc_sel_end.e16, slices_choosePivotCmpFunc_sel_end.x16, slices_choosePivotCmpFunc_sel_end.l16 m_⟩
theorem slices_choosePivotCmpFunc_sel_end.s16 (m_ : Mode) (S0 w0 cs0) : SegGood P S0 w0 cs0 37 (slices_choosePivotCmpFunc_sel_end.g16 m_) := seg_loop m_ (oras_ok (slices_choosePivotCmpFunc_sel_end.csok m_)) (all_nil) (by rfl) (fun e he => List.all_eq_true.1 (show slices_choosePivotCmpFunc_sel_end.x16.all Spec.ok = true by rfl) e he) (slices_choosePivotCmpFunc_sel_end.k16 m_)
def slices_choosePivotCmpFunc_sel_end.e17 : Spec := ⟨[{ fn := 50, items := [.code []], slots := [(0, .own 1000000 (.arr 2 (.int .i64))), (1, .dat (.int .i64)), (2, .dat (.int .i64)), (3, .ptr 1000007 0), (4, .fn (.func 26) [])] }, { fn := 49, items := [.inRegion [.r, .r, .r, .l] [5, 6, 7, 8, 9, 10], .code [.r, .r, .r, .r]], slots := [] }, { fn := 37, items := [.inRegion [.r, .r, .r, .r, .r, .r, .l, .r, .l, .r] [5, 6], .code [.r, .r, .r, .r, .r, .r, .r]], slots := [(11, .ptr 1000007 0)] }], [(1000000, .cells false [.row (.arr 2 (.int .i64))]), (1000007, .cells false [.dat (.int .i64)])], 1000008⟩
def slices_choosePivotCmpFunc_sel_end.x17 : List Spec := [⟨[{ fn := 50, items := [.code [.r, .l, .r, .l, .r, .r], .code [.r, .r]], slots := [(10, .dat (.int .i64)), (11, .dat (.int .i64))] }, { fn := 49, items := [.inRegion [.r, .r, .r, .l] [5, 6, 7, 8, 9, 10], .code [.r, .r, .r, .r]], slots := [] }, { fn := 37, items := [.inRegion [.r, .r, .r, .r, .r, .r, .l, .r, .l, .r] [5, 6], .code [.r, .r, .r, .r, .r, .r, .r]], slots := [(11, .ptr 1000007 0)] }], [(1000000, .cells false [.row (.arr 2 (.int .i64))]), (1000007, .cells false [.dat (.int .i64)])], 1000008⟩, ⟨[{ fn := 50, items := [.code [.r, .r, .r]], slots := [(10, .dat (.int .i64)), (11, .dat (.int .i64))] }, { fn := 49, items := [.inRegion [.r, .r, .r, .l] [5, 6, 7, 8, 9, 10], .code [.r, .r, .r, .r]], slots := [] }, { fn := 37, items := [.inRegion [.r, .r, .r, .r, .r, .r, .l, .r, .l, .r] [5, 6], .code [.r, .r, .r, .r, .r, .r, .r]], slots := [(11, .ptr 1000007 0)] }], [(1000000, .cells false [.row (.arr 2 (.int .i64))]), (1000007, .cells false [.dat (.int .i64)])], 1000008⟩]
noncomputable def slices_choosePivotCmpFunc_sel_end.b17 (m_ : Mode) (self : Int × Int × (List (List Int)) × Int × Unit → Option ((Int × Int × (List (List Int)) × Int × Unit) ⊕ (Int × Int × (List (List Int)) × Int × Unit))) : Int × Int × (List (List Int)) × Int × Unit → Option ((Int × Int × (List (List Int)) × Int × Unit) ⊕ (Int × Int × (List (List Int)) × Int × Unit)) := fun v_ => match v_ with
| (a, b, m, m1, ()) =>
  bif inB b (m.length : Int) then
  bif inB a (m.length : Int) then
  (sel_ends_1.run m_ ((rd (List.replicate 2 (0 : Int) : List Int) m b), (rd (List.replicate 2 (0 : Int) : List Int) m a), ())).bind fun r =>
  bif decide (r < (0 : Int)) then
    some (.inl (b, a, m, (IntKind.i64.wrap (m1 + (1 : Int))), ()))
  else
    some (.inr (a, b, m, m1, ()))
  else none
  else none
theorem slices_choosePivotCmpFunc_sel_end.k17 (m_ : Mode) : ∀ (self : Known slices_choosePivotCmpFunc_sel_end.e17.sls → Option (Exits slices_choosePivotCmpFunc_sel_end.x17)) (v : Known slices_choosePivotCmpFunc_sel_end.e17.sls), runS P (oras (slices_choosePivotCmpFunc_sel_end.cs m_)) slices_choosePivotCmpFunc_sel_end.inl (⟨slices_choosePivotCmpFunc_sel_end.e17, self⟩ :: exitCuts slices_choosePivotCmpFunc_sel_end.x17 id) [] (fun _ _ => none) 20000 false (slices_choosePivotCmpFunc_sel_end.e17.mk' v) = slices_choosePivotCmpFunc_sel_end.b17 m_ self v := by
  intro self v_; exact (match v_ with | (a, b, m, m1, ()) => by kernel_rfl)
noncomputable def slices_choosePivotCmpFunc_sel_end.l17 (m_ : Mode) : Int × Int × (List (List Int)) × Int × Unit → Option ((Int × Int × (List (List Int)) × Int × Unit) ⊕ (Int × Int × (List (List Int)) × Int × Unit)) := loop m_ (slices_choosePivotCmpFunc_sel_end.b17 m_)
theorem slices_choosePivotCmpFunc_sel_end.q17 (v) : slices_choosePivotCmpFunc_sel_end.l17 .lim v = slices_choosePivotCmpFunc_sel_end.b17 .lim (slices_choosePivotCmpFunc_sel_end.l17 .lim) v := lfp_eq (cont_of_run (slices_choosePivotCmpFunc_sel_end.k17 .lim)) v
noncomputable def slices_choosePivotCmpFunc_sel_end.g17 (m_ : Mode) : Seg := ⟨slices_choosePivotCmpFunc_sel_end.e17, slices_choosePivotCmpFunc_sel_end.x17, slices_choosePivotCmpFunc_sel_end.l17 m_⟩
theorem slices_choosePivotCmpFunc_sel_end.s17 (m_ : Mode) (S0 w0 cs0) : SegGood P S0 w0 cs0 37 (slices_choosePivotCmpFunc_sel_end.g17 m_) := seg_loop m_ (oras_ok (slices_choosePivotCmpFunc_sel_end.csok m_)) (all_nil) (by rfl) (fun e he => List.all_eq_true.1 (show slices_choosePivotCmpFunc_sel_end.x17.all Spec.ok = true by rfl) e he) (slices_choosePivotCmpFunc_sel_end.k17 m_)
def slices_choosePivotCmpFunc_sel_end.e18 : Spec := ⟨[{ fn := 49, items := [.code []], slots := [(0, .own 1000000 (.arr 2 (.int .i64))), (1, .dat (.int .i64)), (2, .dat (.int .i64)), (3, .dat (.int .i64)), (4, .ptr 1000007 0), (5, .fn (.func 26) [])] }, { fn := 37, items := [.inRegion [.r, .r, .r, .r, .r, .r, .l, .r, .l, .r] [5, 6], .code [.r, .r, .r, .r, .r, .r, .r]], slots := [(11, .ptr 1000007 0)] }], [(1000000, .cells false [.row (.arr 2 (.int .i64))]), (1000007, .cells false [.dat (.int .i64)])], 1000008⟩
def slices_choosePivotCmpFunc_sel_end.x18 : List Spec := [⟨[{ fn := 49, items := [.code [.r, .r, .r, .r, .r]], slots := [(12, .dat (.int .i64))] }, { fn := 37, items := [.inRegion [.r, .r, .r, .r, .r, .r, .l, .r, .l, .r] [5, 6], .code [.r, .r, .r, .r, .r, .r, .r]], slots := [(11, .ptr 1000007 0)] }], [(1000000, .cells false [.row (.arr 2 (.int .i64))]), (1000007, .cells false [.dat (.int .i64)])], 1000008⟩]
noncomputable def slices_choosePivotCmpFunc_sel_end.b18 (m_ : Mode) (self : Int × Int × Int × (List (List Int)) × Int × Unit → Option ((Int × (List (List Int)) × Int × Unit))) : Int × Int × Int × (List (List Int)) × Int × Unit → Option ((Int × (List (List Int)) × Int × Unit)) := fun v_ => match v_ with
| (a, b, c, m, m1, ()) =>
  (slices_choosePivotCmpFunc_sel_end.l15 m_ (a, b, c, m, m1, ())).bind fun g_ => match g_ with
  | .inl (t, t1, c1, m2, m3, ()) =>
    (slices_choosePivotCmpFunc_sel_end.l16 m_ (t1, c1, t, m2, m3, ())).bind fun g_ => match g_ with
    | .inl (t2, t3, a1, m4, m5, ()) =>
      (slices_choosePivotCmpFunc_sel_end.l17 m_ (a1, t2, m4, m5, ())).bind fun g_ => match g_ with
      | .inl (t4, t5, m6, m7, ()) =>
        some (t5, m6, m7, ())
      | .inr (t6, t7, m8, m9, ()) =>
        some (t7, m8, m9, ())
    | .inr (t8, t9, a2, m10, m11, ()) =>
      (slices_choosePivotCmpFunc_sel_end.l17 m_ (a2, t8, m10, m11, ())).bind fun g_ => match g_ with
      | .inl (t10, t11, m12, m13, ()) =>
        some (t11, m12, m13, ())
      | .inr (t12, t13, m14, m15, ()) =>
        some (t13, m14, m15, ())
  | .inr (t14, t15, c2, m16, m17, ()) =>
    (slices_choosePivotCmpFunc_sel_end.l16 m_ (t15, c2, t14, m16, m17, ())).bind fun g_ => match g_ with
    | .inl (t16, t17, a3, m18, m19, ()) =>
      (slices_choosePivotCmpFunc_sel_end.l17 m_ (a3, t16, m18, m19, ())).bind fun g_ => match g_ with
      | .inl (t18, t19, m20, m21, ()) =>
        some (t19, m20, m21, ())
      | .inr (t20, t21, m22, m23, ()) =>
        some (t21, m22, m23, ())
    | .inr (t22, t23, a4, m24, m25, ()) =>
      (slices_choosePivotCmpFunc_sel_end.l17 m_ (a4, t22, m24, m25, ())).bind fun g_ => match g_ with
      | .inl (t24, t25, m26, m27, ()) =>
        some (t25, m26, m27, ())
      | .inr (t26, t27, m28, m29, ()) =>
        some (t27, m28, m29, ())
theorem slices_choosePivotCmpFunc_sel_end.k18 (m_ : Mode) : ∀ (self : Known slices_choosePivotCmpFunc_sel_end.e18.sls → Option (Exits slices_choosePivotCmpFunc_sel_end.x18)) (v : Known slices_choosePivotCmpFunc_sel_end.e18.sls), runS P (oras (slices_choosePivotCmpFunc_sel_end.cs m_)) slices_choosePivotCmpFunc_sel_end.inl (⟨slices_choosePivotCmpFunc_sel_end.e18, self⟩ :: exitCuts slices_choosePivotCmpFunc_sel_end.x18 id) [slices_choosePivotCmpFunc_sel_end.g15 m_, slices_choosePivotCmpFunc_sel_end.g16 m_, slices_choosePivotCmpFunc_sel_end.g17 m_] (fun _ _ => none) 20000 false (slices_choosePivotCmpFunc_sel_end.e18.mk' v) = slices_choosePivotCmpFunc_sel_end.b18 m_ self v := by
  intro self v_; exact (match v_ with | (a, b, c, m, m1, ()) => by kernel_rfl)
noncomputable def slices_choosePivotCmpFunc_sel_end.l18 (m_ : Mode) : Int × Int × Int × (List (List Int)) × Int × Unit → Option ((Int × (List (List Int)) × Int × Unit)) := loop m_ (slices_choosePivotCmpFunc_sel_end.b18 m_)
theorem slices_choosePivotCmpFunc_sel_end.q18 (v) : slices_choosePivotCmpFunc_sel_end.l18 .lim v = slices_choosePivotCmpFunc_sel_end.b18 .lim (slices_choosePivotCmpFunc_sel_end.l18 .lim) v := lfp_eq (cont_of_run (slices_choosePivotCmpFunc_sel_end.k18 .lim)) v
noncomputable def slices_choosePivotCmpFunc_sel_end.g18 (m_ : Mode) : Seg := ⟨slices_choosePivotCmpFunc_sel_end.e18, slices_choosePivotCmpFunc_sel_end.x18, slices_choosePivotCmpFunc_sel_end.l18 m_⟩
theorem slices_choosePivotCmpFunc_sel_end.s18 (m_ : Mode) (S0 w0 cs0) : SegGood P S0 w0 cs0 37 (slices_choosePivotCmpFunc_sel_end.g18 m_) := seg_loop m_ (oras_ok (slices_choosePivotCmpFunc_sel_end.csok m_)) (all_cons (slices_choosePivotCmpFunc_sel_end.s15 m_ S0 w0 cs0) (all_cons (slices_choosePivotCmpFunc_sel_end.s16 m_ S0 w0 cs0) (all_cons (slices_choosePivotCmpFunc_sel_end.s17 m_ S0 w0 cs0) (all_nil)))) (by rfl) (fun e he => List.all_eq_true.1 (show slices_choosePivotCmpFunc_sel_end.x18.all Spec.ok = true by rfl) e he) (slices_choosePivotCmpFunc_sel_end.k18 m_)
noncomputable def slices_choosePivotCmpFunc_sel_end.F (m_ : Mode) : List (List Int) → Int × Int × Unit → Option ((Int × Int × Unit) × List (List Int)) := fun xs v_ => match v_ with
| (a1, b, ()) =>
  bif decide ((IntKind.i64.wrap (b - a1)) ≥ (8 : Int)) then
    bif decide ((IntKind.i64.wrap (b - a1)) ≥ (50 : Int)) then
      (slices_choosePivotCmpFunc_sel_end.l4 m_ ((IntKind.i64.wrap (a1 + (IntKind.i64.wrap ((IntKind.i64.wrap ((IntKind.i64.wrap (b - a1)).tdiv (4 : Int))) * (1 : Int))))), (IntKind.i64.wrap (a1 + (IntKind.i64.wrap ((IntKind.i64.wrap ((IntKind.i64.wrap (b - a1)).tdiv (4 : Int))) * (2 : Int))))), (IntKind.i64.wrap (a1 + (IntKind.i64.wrap ((IntKind.i64.wrap ((IntKind.i64.wrap (b - a1)).tdiv (4 : Int))) * (3 : Int))))), xs, (0 : Int), ())).bind fun (t, j, k, m, m1, ()) =>
      (slices_choosePivotCmpFunc_sel_end.l9 m_ (j, t, k, m, m1, ())).bind fun (t1, i, k1, m2, m3, ()) =>
      (slices_choosePivotCmpFunc_sel_end.l14 m_ (k1, i, t1, m2, m3, ())).bind fun (t2, i1, j1, m4, m5, ()) =>
      (slices_choosePivotCmpFunc_sel_end.l18 m_ (i1, j1, t2, m4, m5, ())).bind fun (t3, m6, m7, ()) =>
      bif decide (m7 = (0 : Int)) then
        some ((t3, (1 : Int), ()), m6)
      else
        bif decide (m7 = (12 : Int)) then
          some ((t3, (2 : Int), ()), m6)
        else
          some ((t3, (0 : Int), ()), m6)
    else
      (slices_choosePivotCmpFunc_sel_end.l18 m_ ((IntKind.i64.wrap (a1 + (IntKind.i64.wrap ((IntKind.i64.wrap ((IntKind.i64.wrap (b - a1)).tdiv (4 : Int))) * (1 : Int))))), (IntKind.i64.wrap (a1 + (IntKind.i64.wrap ((IntKind.i64.wrap ((IntKind.i64.wrap (b - a1)).tdiv (4 : Int))) * (2 : Int))))), (IntKind.i64.wrap (a1 + (IntKind.i64.wrap ((IntKind.i64.wrap ((IntKind.i64.wrap (b - a1)).tdiv (4 : Int))) * (3 : Int))))), xs, (0 : Int), ())).bind fun (t4, m8, m9, ()) =>
      bif decide (m9 = (0 : Int)) then
        some ((t4, (1 : Int), ()), m8)
      else
        bif decide (m9 = (12 : Int)) then
          some ((t4, (2 : Int), ()), m8)
        else
          some ((t4, (0 : Int), ()), m8)
  else
    some (((IntKind.i64.wrap (a1 + (IntKind.i64.wrap ((IntKind.i64.wrap ((IntKind.i64.wrap (b - a1)).tdiv (4 : Int))) * (2 : Int))))), (1 : Int), ()), xs)
theorem slices_choosePivotCmpFunc_sel_end.k (m_ : Mode) : ∀ (xs_ : List (List Int)) (v : Shs (⟨37, (.arr 2 (.int .i64)), [.one (.int .i64), .one (.int .i64)], [26], .tup [.sh (.one (.int .i64)), .sh (.one (.int .i64))], slices_choosePivotCmpFunc_sel_end.F m_⟩ : Proc).args), runS P (oras (slices_choosePivotCmpFunc_sel_end.cs m_)) slices_choosePivotCmpFunc_sel_end.inl [] [slices_choosePivotCmpFunc_sel_end.g4 m_, slices_choosePivotCmpFunc_sel_end.g9 m_, slices_choosePivotCmpFunc_sel_end.g14 m_, slices_choosePivotCmpFunc_sel_end.g18 m_] (⟨37, (.arr 2 (.int .i64)), [.one (.int .i64), .one (.int .i64)], [26], .tup [.sh (.one (.int .i64)), .sh (.one (.int .i64))], slices_choosePivotCmpFunc_sel_end.F m_⟩ : Proc).fin 20000 false ((⟨37, (.arr 2 (.int .i64)), [.one (.int .i64), .one (.int .i64)], [26], .tup [.sh (.one (.int .i64)), .sh (.one (.int .i64))], slices_choosePivotCmpFunc_sel_end.F m_⟩ : Proc).start xs_ v) = slices_choosePivotCmpFunc_sel_end.F m_ xs_ v := by
  intro xs_ v_; exact (match v_ with | (a1, b, ()) => by kernel_rfl)
noncomputable def slices_choosePivotCmpFunc_sel_end.p (m_ : Mode) : Proc := ⟨37, (.arr 2 (.int .i64)), [.one (.int .i64), .one (.int .i64)], [26], .tup [.sh (.one (.int .i64)), .sh (.one (.int .i64))], slices_choosePivotCmpFunc_sel_end.F m_⟩
theorem slices_choosePivotCmpFunc_sel_end.pok (m_ : Mode) : (slices_choosePivotCmpFunc_sel_end.p m_).OK P := (Proc.of_run (fun S0 w0 => (oras_ok (slices_choosePivotCmpFunc_sel_end.csok m_))) (by kernel_rfl) (by rfl) (by rfl) (by rfl) (fun S0 w0 cs0 => all_cons (slices_choosePivotCmpFunc_sel_end.s4 m_ S0 w0 cs0) (all_cons (slices_choosePivotCmpFunc_sel_end.s9 m_ S0 w0 cs0) (all_cons (slices_choosePivotCmpFunc_sel_end.s14 m_ S0 w0 cs0) (all_cons (slices_choosePivotCmpFunc_sel_end.s18 m_ S0 w0 cs0) (all_nil))))) (fun xs_ x r h => (slices_choosePivotCmpFunc_sel_end.k m_ xs_ x).trans h))

/-! ### slices.reverseRangeCmpFunc[pendulum/sel.end] -/
noncomputable def slices_reverseRangeCmpFunc_sel_end.cs (m_ : Mode) : List Callee := []
theorem slices_reverseRangeCmpFunc_sel_end.csok (m_ : Mode) : ∀ k ∈ slices_reverseRangeCmpFunc_sel_end.cs m_, k.OK P := all_nil
def slices_reverseRangeCmpFunc_sel_end.inl : FuncId → Bool := fun f => [].any (Nat.beq f)
def slices_reverseRangeCmpFunc_sel_end.e0 : Spec := ⟨[{ fn := 38, items := [.code [.r, .r, .l, .l], .inLoop [.r, .r, .l, .l], .inBlock 0], slots := [(0, .own 1000000 (.arr 2 (.int .i64))), (8, .dat (.int .i64)), (9, .dat (.int .i64))] }], [(1000000, .cells false [.row (.arr 2 (.int .i64))])], 1000001⟩
def slices_reverseRangeCmpFunc_sel_end.x0 : List Spec := [⟨[{ fn := 38, items := [], slots := [] }], [(1000000, .cells false [.row (.arr 2 (.int .i64))])], 1000001⟩]
noncomputable def slices_reverseRangeCmpFunc_sel_end.b0 (m_ : Mode) (self : Int × Int × (List (List Int)) × Unit → Option (((List (List Int)) × Unit))) : Int × Int × (List (List Int)) × Unit → Option (((List (List Int)) × Unit)) := fun v_ => match v_ with
| (i, j, m, ()) =>
  bif decide (i < j) then
    bif inB j (m.length : Int) then
    bif inB i (m.length : Int) then
    bif inB i (m.length : Int) then
    bif inB j ((m.set i.toNat (rd (List.replicate 2 (0 : Int) : List Int) m j)).length : Int) then self ((IntKind.i64.wrap (i + (1 : Int))), (IntKind.i64.wrap (j - (1 : Int))), ((m.set i.toNat (rd (List.replicate 2 (0 : Int) : List Int) m j)).set j.toNat (rd (List.replicate 2 (0 : Int) : List Int) m i)), ()) else none
    else none
    else none
    else none
  else
    some (m, ())
theorem slices_reverseRangeCmpFunc_sel_end.k0 (m_ : Mode) : ∀ (self : Known slices_reverseRangeCmpFunc_sel_end.e0.sls → Option (Exits slices_reverseRangeCmpFunc_sel_end.x0)) (v : Known slices_reverseRangeCmpFunc_sel_end.e0.sls), runS P (oras (slices_reverseRangeCmpFunc_sel_end.cs m_)) slices_reverseRangeCmpFunc_sel_end.inl (⟨slices_reverseRangeCmpFunc_sel_end.e0, self⟩ :: exitCuts slices_reverseRangeCmpFunc_sel_end.x0 id) [] (fun _ _ => none) 20000 false (slices_reverseRangeCmpFunc_sel_end.e0.mk' v) = slices_reverseRangeCmpFunc_sel_end.b0 m_ self v := by
  intro self v_; exact (match v_ with | (i, j, m, ()) => by kernel_rfl)
noncomputable def slices_reverseRangeCmpFunc_sel_end.l0 (m_ : Mode) : Int × Int × (List (List Int)) × Unit → Option (((List (List Int)) × Unit)) := loop m_ (slices_reverseRangeCmpFunc_sel_end.b0 m_)
theorem slices_reverseRangeCmpFunc_sel_end.q0 (v) : slices_reverseRangeCmpFunc_sel_end.l0 .lim v = slices_reverseRangeCmpFunc_sel_end.b0 .lim (slices_reverseRangeCmpFunc_sel_end.l0 .lim) v := lfp_eq (cont_of_run (slices_reverseRangeCmpFunc_sel_end.k0 .lim)) v
noncomputable def slices_reverseRangeCmpFunc_sel_end.g0 (m_ : Mode) : Seg := ⟨slices_reverseRangeCmpFunc_sel_end.e0, slices_reverseRangeCmpFunc_sel_end.x0, slices_reverseRangeCmpFunc_sel_end.l0 m_⟩
theorem slices_reverseRangeCmpFunc_sel_end.s0 (m_ : Mode) (S0 w0 cs0) : SegGood P S0 w0 cs0 38 (slices_reverseRangeCmpFunc_sel_end.g0 m_) := seg_loop m_ (oras_ok (slices_reverseRangeCmpFunc_sel_end.csok m_)) (all_nil) (by rfl) (fun e he => List.all_eq_true.1 (show slices_reverseRangeCmpFunc_sel_end.x0.all Spec.ok = true by rfl) e he) (slices_reverseRangeCmpFunc_sel_end.k0 m_)
noncomputable def slices_reverseRangeCmpFunc_sel_end.F (m_ : Mode) : List (List Int) → Int × Int × Unit → Option ((Unit) × List (List Int)) := fun xs v_ => match v_ with
| (a1, b, ()) =>
  (slices_reverseRangeCmpFunc_sel_end.l0 m_ (a1, (IntKind.i64.wrap (b - (1 : Int))), xs, ())).bind fun (m, ()) =>
  some ((), m)
theorem slices_reverseRangeCmpFunc_sel_end.k (m_ : Mode) : ∀ (xs_ : List (List Int)) (v : Shs (⟨38, (.arr 2 (.int .i64)), [.one (.int .i64), .one (.int .i64)], [26], .tup [], slices_reverseRangeCmpFunc_sel_end.F m_⟩ : Proc).args), runS P (oras (slices_reverseRangeCmpFunc_sel_end.cs m_)) slices_reverseRangeCmpFunc_sel_end.inl [] [slices_reverseRangeCmpFunc_sel_end.g0 m_] (⟨38, (.arr 2 (.int .i64)), [.one (.int .i64), .one (.int .i64)], [26], .tup [], slices_reverseRangeCmpFunc_sel_end.F m_⟩ : Proc).fin 20000 false ((⟨38, (.arr 2 (.int .i64)), [.one (.int .i64), .one (.int .i64)], [26], .tup [], slices_reverseRangeCmpFunc_sel_end.F m_⟩ : Proc).start xs_ v) = slices_reverseRangeCmpFunc_sel_end.F m_ xs_ v := by
  intro xs_ v_; exact (match v_ with | (a1, b, ()) => by kernel_rfl)
noncomputable def slices_reverseRangeCmpFunc_sel_end.p (m_ : Mode) : Proc := ⟨38, (.arr 2 (.int .i64)), [.one (.int .i64), .one (.int .i64)], [26], .tup [], slices_reverseRangeCmpFunc_sel_end.F m_⟩
theorem slices_reverseRangeCmpFunc_sel_end.pok (m_ : Mode) : (slices_reverseRangeCmpFunc_sel_end.p m_).OK P := (Proc.of_run (fun S0 w0 => (oras_ok (slices_reverseRangeCmpFunc_sel_end.csok m_))) (by kernel_rfl) (by rfl) (by rfl) (by rfl) (fun S0 w0 cs0 => all_cons (slices_reverseRangeCmpFunc_sel_end.s0 m_ S0 w0 cs0) (all_nil)) (fun xs_ x r h => (slices_reverseRangeCmpFunc_sel_end.k m_ xs_ x).trans h))

/-! ### slices.partialInsertionSortCmpFunc[pendulum/sel.end] -/
noncomputable def slices_partialInsertionSortCmpFunc_sel_end.cs (m_ : Mode) : List Callee := [sel_ends_1.c m_]
theorem slices_partialInsertionSortCmpFunc_sel_end.csok (m_ : Mode) : ∀ k ∈ slices_partialInsertionSortCmpFunc_sel_end.cs m_, k.OK P := all_cons (sel_ends_1.ok m_) (all_nil)
def slices_partialInsertionSortCmpFunc_sel_end.inl : FuncId → Bool := fun f => [].any (Nat.beq f)
def slices_partialInsertionSortCmpFunc_sel_end.e0 : Spec := ⟨[{ fn := 39, items := [.code [.r, .r, .l, .r, .l, .l, .r, .l, .l, .l, .l, .l], .inLoop [.r, .r, .l, .r, .l, .l, .r, .l, .l, .l, .l, .l], .inBlock 2, .code [.r, .r, .l, .r, .l, .l, .r, .l, .l, .r], .inBlock 1, .code [.r, .r, .l, .r, .l, .l, .r, .r], .inLoop [.r, .r, .l, .r, .l, .l], .inBlock 0, .code [.r, .r, .r]], slots := [(0, .own 1000000 (.arr 2 (.int .i64))), (1, .dat (.int .i64)), (2, .dat (.int .i64)), (3, .fn (.func 26) []), (9, .dat (.int .i64)), (10, .dat (.int .i64))] }], [(1000000, .cells false [.row (.arr 2 (.int .i64))])], 1000001⟩
def slices_partialInsertionSortCmpFunc_sel_end.x0 : List Spec := [⟨[{ fn := 39, items := [.code [.r, .r, .l, .r, .l, .l, .r, .l, .l, .r], .inBlock 1, .code [.r, .r, .l, .r, .l, .l, .r, .r], .inLoop [.r, .r, .l, .r, .l, .l], .inBlock 0, .code [.r, .r, .r]], slots := [(0, .own 1000000 (.arr 2 (.int .i64))), (1, .dat (.int .i64)), (2, .dat (.int .i64)), (3, .fn (.func 26) []), (9, .dat (.int .i64)), (10, .dat (.int .i64))] }], [(1000000, .cells false [.row (.arr 2 (.int .i64))])], 1000001⟩]
noncomputable def slices_partialInsertionSortCmpFunc_sel_end.b0 (m_ : Mode) (self : Int × Int × Int × Int × (List (List Int)) × Unit → Option ((Int × Int × Int × Int × (List (List Int)) × Unit))) : Int × Int × Int × Int × (List (List Int)) × Unit → Option ((Int × Int × Int × Int × (List (List Int)) × Unit)) := fun v_ => match v_ with
| (a, b, i, j, m, ()) =>
  bif ((!(decide (i < b))) || (inB i (m.length : Int))) then
  bif ((!(decide (i < b))) || (inB (IntKind.i64.wrap (i - (1 : Int))) (m.length : Int))) then
  ((bif decide (i < b) then sel_ends_1.run m_ ((rd (List.replicate 2 (0 : Int) : List Int) m i), (rd (List.replicate 2 (0 : Int) : List Int) m (IntKind.i64.wrap (i - (1 : Int)))), ()) else some (0 : Int))).bind fun r =>
  bif ((decide (i < b)) && (!(decide (r < (0 : Int))))) then
    self (a, b, (IntKind.i64.wrap (i + (1 : Int))), j, m, ())
  else
    some (a, b, i, j, m, ())
  else none
  else none
theorem slices_partialInsertionSortCmpFunc_sel_end.k0 (m_ : Mode) : ∀ (self : Known slices_partialInsertionSortCmpFunc_sel_end.e0.sls → Option (Exits slices_partialInsertionSortCmpFunc_sel_end.x0)) (v : Known slices_partialInsertionSortCmpFunc_sel_end.e0.sls), runS P (oras (slices_partialInsertionSortCmpFunc_sel_end.cs m_)) slices_partialInsertionSortCmpFunc_sel_end.inl (⟨slices_partialInsertionSortCmpFunc_sel_end.e0, self⟩ :: exitCuts slices_partialInsertionSortCmpFunc_sel_end.x0 id) [] (fun _ _ => none) 20000 false (slices_partialInsertionSortCmpFunc_sel_end.e0.mk' v) = slices_partialInsertionSortCmpFunc_sel_end.b0 m_ self v := by
  intro self v_; exact (match v_ with | (a, b, i, j, m, ()) => by kernel_rfl)
noncomputable def slices_partialInsertionSortCmpFunc_sel_end.l0 (m_ : Mode) : Int × Int × Int × Int × (List (List Int)) × Unit → Option ((Int × Int × Int × Int × (List (List Int)) × Unit)) := loop m_ (slices_partialInsertionSortCmpFunc_sel_end.b0 m_)
theorem slices_partialInsertionSortCmpFunc_sel_end.q0 (v) : slices_partialInsertionSortCmpFunc_sel_end.l0 .lim v = slices_partialInsertionSortCmpFunc_sel_end.b0 .lim (slices_partialInsertionSortCmpFunc_sel_end.l0 .lim) v := lfp_eq (cont_of_run (slices_partialInsertionSortCmpFunc_sel_end.k0 .lim)) v
noncomputable def slices_partialInsertionSortCmpFunc_sel_end.g0 (m_ : Mode) : Seg := ⟨slices_partialInsertionSortCmpFunc_sel_end.e0, slices_partialInsertionSortCmpFunc_sel_end.x0, slices_partialInsertionSortCmpFunc_sel_end.l0 m_⟩
theorem slices_partialInsertionSortCmpFunc_sel_end.s0 (m_ : Mode) (S0 w0 cs0) : SegGood P S0 w0 cs0 39 (slices_partialInsertionSortCmpFunc_sel_end.g0 m_) := seg_loop m_ (oras_ok (slices_partialInsertionSortCmpFunc_sel_end.csok m_)) (all_nil) (by rfl) (fun e he => List.all_eq_true.1 (show slices_partialInsertionSortCmpFunc_sel_end.x0.all Spec.ok = true by rfl) e he) (slices_partialInsertionSortCmpFunc_sel_end.k0 m_)
def slices_partialInsertionSortCmpFunc_sel_end.e1 : Spec := ⟨[{ fn := 39, items := [.code [.r, .r, .l, .r, .l, .l, .r, .l, .l, .r, .r, .r, .r, .l, .r, .l, .r, .l, .l], .inLoop [.r, .r, .l, .r, .l, .l, .r, .l, .l, .r, .r, .r, .r, .l, .r, .l, .r, .l, .l], .inBlock 4, .code [.r, .r, .l, .r, .l, .l, .r, .l, .l, .r, .r, .r, .r, .r], .inBlock 1, .code [.r, .r, .l, .r, .l, .l, .r, .r], .inLoop [.r, .r, .l, .r, .l, .l], .inBlock 0, .code [.r, .r, .r]], slots := [(0, .own 1000000 (.arr 2 (.int .i64))), (1, .dat (.int .i64)), (2, .dat (.int .i64)), (3, .fn (.func 26) []), (9, .dat (.int .i64)), (10, .dat (.int .i64)), (11, .dat (.int .i64))] }], [(1000000, .cells false [.row (.arr 2 (.int .i64))])], 1000001⟩
def slices_partialInsertionSortCmpFunc_sel_end.x1 : List Spec := [⟨[{ fn := 39, items := [.code [.r, .r, .l, .r, .l, .l, .r, .l, .l, .r, .r, .r, .r, .r], .inBlock 1, .code [.r, .r, .l, .r, .l, .l, .r, .r], .inLoop [.r, .r, .l, .r, .l, .l], .inBlock 0, .code [.r, .r, .r]], slots := [(0, .own 1000000 (.arr 2 (.int .i64))), (1, .dat (.int .i64)), (2, .dat (.int .i64)), (3, .fn (.func 26) []), (9, .dat (.int .i64)), (10, .dat (.int .i64))] }], [(1000000, .cells false [.row (.arr 2 (.int .i64))])], 1000001⟩]
noncomputable def slices_partialInsertionSortCmpFunc_sel_end.b1 (m_ : Mode) (self : Int × Int × Int × Int × Int × (List (List Int)) × Unit → Option ((Int × Int × Int × Int × (List (List Int)) × Unit))) : Int × Int × Int × Int × Int × (List (List Int)) × Unit → Option ((Int × Int × Int × Int × (List (List Int)) × Unit)) := fun v_ => match v_ with
| (a, b, i, j, j1, m, ()) =>
  bif decide (j1 ≥ (1 : Int)) then
    bif inB j1 (m.length : Int) then
    bif inB (IntKind.i64.wrap (j1 - (1 : Int))) (m.length : Int) then
    (sel_ends_1.run m_ ((rd (List.replicate 2 (0 : Int) : List Int) m j1), (rd (List.replicate 2 (0 : Int) : List Int) m (IntKind.i64.wrap (j1 - (1 : Int)))), ())).bind fun r =>
    bif !(decide (r < (0 : Int))) then
      some (a, b, i, j, m, ())
    else
      bif inB (IntKind.i64.wrap (j1 - (1 : Int))) (m.length : Int) then
      bif inB j1 (m.length : Int) then
      bif inB j1 (m.length : Int) then
      bif inB (IntKind.i64.wrap (j1 - (1 : Int))) ((m.set j1.toNat (rd (List.replicate 2 (0 : Int) : List Int) m (IntKind.i64.wrap (j1 - (1 : Int))))).length : Int) then self (a, b, i, j, (IntKind.i64.wrap (j1 - (1 : Int))), ((m.set j1.toNat (rd (List.replicate 2 (0 : Int) : List Int) m (IntKind.i64.wrap (j1 - (1 : Int))))).set ((IntKind.i64.wrap (j1 - (1 : Int))).toNat) (rd (List.replicate 2 (0 : Int) : List Int) m j1)), ()) else none
      else none
      else none
      else none
    else none
    else none
  else
    some (a, b, i, j, m, ())
theorem slices_partialInsertionSortCmpFunc_sel_end.k1 (m_ : Mode) : ∀ (self : Known slices_partialInsertionSortCmpFunc_sel_end.e1.sls → Option (Exits slices_partialInsertionSortCmpFunc_sel_end.x1)) (v : Known slices_partialInsertionSortCmpFunc_sel_end.e1.sls), runS P (oras (slices_partialInsertionSortCmpFunc_sel_end.cs m_)) slices_partialInsertionSortCmpFunc_sel_end.inl (⟨slices_partialInsertionSortCmpFunc_sel_end.e1, self⟩ :: exitCuts slices_partialInsertionSortCmpFunc_sel_end.x1 id) [] (fun _ _ => none) 20000 false (slices_partialInsertionSortCmpFunc_sel_end.e1.mk' v) = slices_partialInsertionSortCmpFunc_sel_end.b1 m_ self v := by
  intro self v_; exact (match v_ with | (a, b, i, j, j1, m, ()) => by kernel_rfl)
noncomputable def slices_partialInsertionSortCmpFunc_sel_end.l1 (m_ : Mode) : Int × Int × Int × Int × Int × (List (List Int)) × Unit → Option ((Int × Int × Int × Int × (List (List Int)) × Unit)) := loop m_ (slices_partialInsertionSortCmpFunc_sel_end.b1 m_)
theorem slices_partialInsertionSortCmpFunc_sel_end.q1 (v) : slices_partialInsertionSortCmpFunc_sel_end.l1 .lim v = slices_partialInsertionSortCmpFunc_sel_end.b1 .lim (slices_partialInsertionSortCmpFunc_sel_end.l1 .lim) v := lfp_eq (cont_of_run (slices_partialInsertionSortCmpFunc_sel_end.k1 .lim)) v
noncomputable def slices_partialInsertionSortCmpFunc_sel_end.g1 (m_ : Mode) : Seg := ⟨slices_partialInsertionSortCmpFunc_sel_end.e1, slices_partialInsertionSortCmpFunc_sel_end.x1, slices_partialInsertionSortCmpFunc_sel_end.l1 m_⟩
theorem slices_partialInsertionSortCmpFunc_sel_end.s1 (m_ : Mode) (S0 w0 cs0) : SegGood P S0 w0 cs0 39 (slices_partialInsertionSortCmpFunc_sel_end.g1 m_) := seg_loop m_ (oras_ok (slices_partialInsertionSortCmpFunc_sel_end.csok m_)) (all_nil) (by rfl) (fun e he => List.all_eq_true.1 (show slices_partialInsertionSortCmpFunc_sel_end.x1.all Spec.ok = true by rfl) e he) (slices_partialInsertionSortCmpFunc_sel_end.k1 m_)
def slices_partialInsertionSortCmpFunc_sel_end.e2 : Spec := ⟨[{ fn := 39, items := [.code [.r, .r, .l, .r, .l, .l, .r, .l, .l, .r, .r, .r, .r, .r, .r, .l, .r, .l, .l], .inLoop [.r, .r, .l, .r, .l, .l, .r, .l, .l, .r, .r, .r, .r, .r, .r, .l, .r, .l, .l], .inBlock 6, .inBlock 1, .code [.r, .r, .l, .r, .l, .l, .r, .r], .inLoop [.r, .r, .l, .r, .l, .l], .inBlock 0, .code [.r, .r, .r]], slots := [(0, .own 1000000 (.arr 2 (.int .i64))), (1, .dat (.int .i64)), (2, .dat (.int .i64)), (3, .fn (.func 26) []), (9, .dat (.int .i64)), (10, .dat (.int .i64)), (12, .dat (.int .i64))] }], [(1000000, .cells false [.row (.arr 2 (.int .i64))])], 1000001⟩
def slices_partialInsertionSortCmpFunc_sel_end.x2 : List Spec := [⟨[{ fn := 39, items := [.code [.r, .r, .l, .r, .l, .l, .r, .r], .inLoop [.r, .r, .l, .r, .l, .l], .inBlock 0, .code [.r, .r, .r]], slots := [(0, .own 1000000 (.arr 2 (.int .i64))), (1, .dat (.int .i64)), (2, .dat (.int .i64)), (3, .fn (.func 26) []), (9, .dat (.int .i64)), (10, .dat (.int .i64))] }], [(1000000, .cells false [.row (.arr 2 (.int .i64))])], 1000001⟩]
noncomputable def slices_partialInsertionSortCmpFunc_sel_end.b2 (m_ : Mode) (self : Int × Int × Int × Int × Int × (List (List Int)) × Unit → Option ((Int × Int × Int × Int × (List (List Int)) × Unit))) : Int × Int × Int × Int × Int × (List (List Int)) × Unit → Option ((Int × Int × Int × Int × (List (List Int)) × Unit)) := fun v_ => match v_ with
| (a, b, i, j, j1, m, ()) =>
  bif decide (j1 < b) then
    bif inB j1 (m.length : Int) then
    bif inB (IntKind.i64.wrap (j1 - (1 : Int))) (m.length : Int) then
    (sel_ends_1.run m_ ((rd (List.replicate 2 (0 : Int) : List Int) m j1), (rd (List.replicate 2 (0 : Int) : List Int) m (IntKind.i64.wrap (j1 - (1 : Int)))), ())).bind fun r =>
    bif !(decide (r < (0 : Int))) then
      some (a, b, i, j, m, ())
    else
      bif inB (IntKind.i64.wrap (j1 - (1 : Int))) (m.length : Int) then
      bif inB j1 (m.length : Int) then
      bif inB j1 (m.length : Int) then
      bif inB (IntKind.i64.wrap (j1 - (1 : Int))) ((m.set j1.toNat (rd (List.replicate 2 (0 : Int) : List Int) m (IntKind.i64.wrap (j1 - (1 : Int))))).length : Int) then self (a, b, i, j, (IntKind.i64.wrap (j1 + (1 : Int))), ((m.set j1.toNat (rd (List.replicate 2 (0 : Int) : List Int) m (IntKind.i64.wrap (j1 - (1 : Int))))).set ((IntKind.i64.wrap (j1 - (1 : Int))).toNat) (rd (List.replicate 2 (0 : Int) : List Int) m j1)), ()) else none
      else none
      else none
      else none
    else none
    else none
  else
    some (a, b, i, j, m, ())
theorem slices_partialInsertionSortCmpFunc_sel_end.k2 (m_ : Mode) : ∀ (self : Known slices_partialInsertionSortCmpFunc_sel_end.e2.sls → Option (Exits slices_partialInsertionSortCmpFunc_sel_end.x2)) (v : Known slices_partialInsertionSortCmpFunc_sel_end.e2.sls), runS P (oras (slices_partialInsertionSortCmpFunc_sel_end.cs m_)) slices_partialInsertionSortCmpFunc_sel_end.inl (⟨slices_partialInsertionSortCmpFunc_sel_end.e2, self⟩ :: exitCuts slices_partialInsertionSortCmpFunc_sel_end.x2 id) [] (fun _ _ => none) 20000 false (slices_partialInsertionSortCmpFunc_sel_end.e2.mk' v) = slices_partialInsertionSortCmpFunc_sel_end.b2 m_ self v := by
  intro self v_; exact (match v_ with | (a, b, i, j, j1, m, ()) => by kernel_rfl)
noncomputable def slices_partialInsertionSortCmpFunc_sel_end.l2 (m_ : Mode) : Int × Int × Int × Int × Int × (List (List Int)) × Unit → Option ((Int × Int × Int × Int × (List (List Int)) × Unit)) := loop m_ (slices_partialInsertionSortCmpFunc_sel_end.b2 m_)
theorem slices_partialInsertionSortCmpFunc_sel_end.q2 (v) : slices_partialInsertionSortCmpFunc_sel_end.l2 .lim v = slices_partialInsertionSortCmpFunc_sel_end.b2 .lim (slices_partialInsertionSortCmpFunc_sel_end.l2 .lim) v := lfp_eq (cont_of_run (slices_partialInsertionSortCmpFunc_sel_end.k2 .lim)) v
noncomputable def slices_partialInsertionSortCmpFunc_sel_end.g2 (m_ : Mode) : Seg := ⟨slices_partialInsertionSortCmpFunc_sel_end.e2, slices_partialInsertionSortCmpFunc_sel_end.x2, slices_partialInsertionSortCmpFunc_sel_end.l2 m_⟩
theorem slices_partialInsertionSortCmpFunc_sel_end.s2 (m_ : Mode) (S0 w0 cs0) : SegGood P S0 w0 cs0 39 (slices_partialInsertionSortCmpFunc_sel_end.g2 m_) := seg_loop m_ (oras_ok (slices_partialInsertionSortCmpFunc_sel_end.csok m_)) (all_nil) (by rfl) (fun e he => List.all_eq_true.1 (show slices_partialInsertionSortCmpFunc_sel_end.x2.all Spec.ok = true by rfl) e he) (slices_partialInsertionSortCmpFunc_sel_end.k2 m_)
def slices_partialInsertionSortCmpFunc_sel_end.e3 : Spec := ⟨[{ fn := 39, items := [.code [.r, .r, .l, .r, .l, .l], .inLoop [.r, .r, .l, .r, .l, .l], .inBlock 0, .code [.r, .r, .r]], slots := [(0, .own 1000000 (.arr 2 (.int .i64))), (1, .dat (.int .i64)), (2, .dat (.int .i64)), (3, .fn (.func 26) []), (9, .dat (.int .i64)), (10, .dat (.int .i64))] }], [(1000000, .cells false [.row (.arr 2 (.int .i64))])], 1000001⟩
def slices_partialInsertionSortCmpFunc_sel_end.x3 : List Spec := [⟨[{ fn := 39, items := [.code [.r, .r, .l, .r, .l, .l, .r, .l, .l, .r, .l, .r, .l, .r], .code [.r, .r, .l, .r, .l, .l, .r, .l, .l, .r, .r], .inBlock 1, .code [.r, .r, .l, .r, .l, .l, .r, .r], .inLoop [.r, .r, .l, .r, .l, .l], .inBlock 0, .code [.r, .r, .r]], slots := [(8, .dat .bool)] }], [(1000000, .cells false [.row (.arr 2 (.int .i64))])], 1000001⟩, ⟨[{ fn := 39, items := [.code [.r, .r, .l, .r, .l, .l, .r, .l, .l, .r, .r, .l, .r, .l, .r], .code [.r, .r, .l, .r, .l, .l, .r, .l, .l, .r, .r, .r], .inBlock 1, .code [.r, .r, .l, .r, .l, .l, .r, .r], .inLoop [.r, .r, .l, .r, .l, .l], .inBlock 0, .code [.r, .r, .r]], slots := [(8, .dat .bool)] }], [(1000000, .cells false [.row (.arr 2 (.int .i64))])], 1000001⟩, ⟨[{ fn := 39, items := [.code [.r, .r, .r]], slots := [] }], [(1000000, .cells false [.row (.arr 2 (.int .i64))])], 1000001⟩]
noncomputable def slices_partialInsertionSortCmpFunc_sel_end.b3 (m_ : Mode) (self : Int × Int × Int × Int × (List (List Int)) × Unit → Option ((Bool × (List (List Int)) × Unit) ⊕ (Bool × (List (List Int)) × Unit) ⊕ ((List (List Int)) × Unit))) : Int × Int × Int × Int × (List (List Int)) × Unit → Option ((Bool × (List (List Int)) × Unit) ⊕ (Bool × (List (List Int)) × Unit) ⊕ ((List (List Int)) × Unit)) := fun v_ => match v_ with
| (a, b, i, j, m, ()) =>
  bif decide (j < (5 : Int)) then
    (slices_partialInsertionSortCmpFunc_sel_end.l0 m_ (a, b, i, j, m, ())).bind fun (a1, b1, i1, j1, m1, ()) =>
    bif decide (i1 = b1) then
      some (.inl (true, m1, ()))
    else
      bif decide ((IntKind.i64.wrap (b1 - a1)) < (50 : Int)) then
        some (.inr (.inl (false, m1, ())))
      else
        bif inB (IntKind.i64.wrap (i1 - (1 : Int))) (m1.length : Int) then
        bif inB i1 (m1.length : Int) then
        bif inB i1 (m1.length : Int) then
        bif inB (IntKind.i64.wrap (i1 - (1 : Int))) ((m1.set i1.toNat (rd (List.replicate 2 (0 : Int) : List Int) m1 (IntKind.i64.wrap (i1 - (1 : Int))))).length : Int) then
        bif decide ((IntKind.i64.wrap (i1 - a1)) ≥ (2 : Int)) then
          (slices_partialInsertionSortCmpFunc_sel_end.l1 m_ (a1, b1, i1, j1, (IntKind.i64.wrap (i1 - (1 : Int))), ((m1.set i1.toNat (rd (List.replicate 2 (0 : Int) : List Int) m1 (IntKind.i64.wrap (i1 - (1 : Int))))).set ((IntKind.i64.wrap (i1 - (1 : Int))).toNat) (rd (List.replicate 2 (0 : Int) : List Int) m1 i1)), ())).bind fun (a2, b2, i2, j2, m2, ()) =>
          bif decide ((IntKind.i64.wrap (b2 - i2)) ≥ (2 : Int)) then
            (slices_partialInsertionSortCmpFunc_sel_end.l2 m_ (a2, b2, i2, j2, (IntKind.i64.wrap (i2 + (1 : Int))), m2, ())).bind fun (a3, b3, i3, j3, m3, ()) =>
            self (a3, b3, i3, (IntKind.i64.wrap (j3 + (1 : Int))), m3, ())
          else
            self (a2, b2, i2, (IntKind.i64.wrap (j2 + (1 : Int))), m2, ())
        else
          bif decide ((IntKind.i64.wrap (b1 - i1)) ≥ (2 : Int)) then
            (slices_partialInsertionSortCmpFunc_sel_end.l2 m_ (a1, b1, i1, j1, (IntKind.i64.wrap (i1 + (1 : Int))), ((m1.set i1.toNat (rd (List.replicate 2 (0 : Int) : List Int) m1 (IntKind.i64.wrap (i1 - (1 : Int))))).set ((IntKind.i64.wrap (i1 - (1 : Int))).toNat) (rd (List.replicate 2 (0 : Int) : List Int) m1 i1)), ())).bind fun (a4, b4, i4, j4, m4, ()) =>
            self (a4, b4, i4, (IntKind.i64.wrap (j4 + (1 : Int))), m4, ())
          else
            self (a1, b1, i1, (IntKind.i64.wrap (j1 + (1 : Int))), ((m1.set i1.toNat (rd (List.replicate 2 (0 : Int) : List Int) m1 (IntKind.i64.wrap (i1 - (1 : Int))))).set ((IntKind.i64.wrap (i1 - (1 : Int))).toNat) (rd (List.replicate 2 (0 : Int) : List Int) m1 i1)), ())
        else none
        else none
        else none
        else none
  else
    some (.inr (.inr (m, ())))
theorem slices_partialInsertionSortCmpFunc_sel_end.k3 (m_ : Mode) : ∀ (self : Known slices_partialInsertionSortCmpFunc_sel_end.e3.sls → Option (Exits slices_partialInsertionSortCmpFunc_sel_end.x3)) (v : Known slices_partialInsertionSortCmpFunc_sel_end.e3.sls), runS P (oras (slices_partialInsertionSortCmpFunc_sel_end.cs m_)) slices_partialInsertionSortCmpFunc_sel_end.inl (⟨slices_partialInsertionSortCmpFunc_sel_end.e3, self⟩ :: exitCuts slices_partialInsertionSortCmpFunc_sel_end.x3 id) [slices_partialInsertionSortCmpFunc_sel_end.g0 m_, slices_partialInsertionSortCmpFunc_sel_end.g1 m_, slices_partialInsertionSortCmpFunc_sel_end.g2 m_] (fun _ _ => none) 20000 false (slices_partialInsertionSortCmpFunc_sel_end.e3.mk' v) = slices_partialInsertionSortCmpFunc_sel_end.b3 m_ self v := by
  intro self v_; exact (match v_ with | (a, b, i, j, m, ()) => by kernel_rfl)
noncomputable def slices_partialInsertionSortCmpFunc_sel_end.l3 (m_ : Mode) : Int × Int × Int × Int × (List (List Int)) × Unit → Option ((Bool × (List (List Int)) × Unit) ⊕ (Bool × (List (List Int)) × Unit) ⊕ ((List (List Int)) × Unit)) := loop m_ (slices_partialInsertionSortCmpFunc_sel_end.b3 m_)
theorem slices_partialInsertionSortCmpFunc_sel_end.q3 (v) : slices_partialInsertionSortCmpFunc_sel_end.l3 .lim v = slices_partialInsertionSortCmpFunc_sel_end.b3 .lim (slices_partialInsertionSortCmpFunc_sel_end.l3 .lim) v := lfp_eq (cont_of_run (slices_partialInsertionSortCmpFunc_sel_end.k3 .lim)) v
noncomputable def slices_partialInsertionSortCmpFunc_sel_end.g3 (m_ : Mode) : Seg := ⟨slices_partialInsertionSortCmpFunc_sel_end.e3, slices_partialInsertionSortCmpFunc_sel_end.x3, slices_partialInsertionSortCmpFunc_sel_end.l3 m_⟩
theorem slices_partialInsertionSortCmpFunc_sel_end.s3 (m_ : Mode) (S0 w0 cs0) : SegGood P S0 w0 cs0 39 (slices_partialInsertionSortCmpFunc_sel_end.g3 m_) := seg_loop m_ (oras_ok (slices_partialInsertionSortCmpFunc_sel_end.csok m_)) (all_cons (slices_partialInsertionSortCmpFunc_sel_end.s0 m_ S0 w0 cs0) (all_cons (slices_partialInsertionSortCmpFunc_sel_end.s1 m_ S0 w0 cs0) (all_cons (slices_partialInsertionSortCmpFunc_sel_end.s2 m_ S0 w0 cs0) (all_nil)))) (by rfl) (fun e he => List.all_eq_true.1 (show slices_partialInsertionSortCmpFunc_sel_end.x3.all Spec.ok = true by rfl) e he) (slices_partialInsertionSortCmpFunc_sel_end.k3 m_)
noncomputable def slices_partialInsertionSortCmpFunc_sel_end.F (m_ : Mode) : List (List Int) → Int × Int × Unit → Option ((Bool) × List (List Int)) := fun xs v_ => match v_ with
| (a1, b, ()) =>
  (slices_partialInsertionSortCmpFunc_sel_end.l3 m_ (a1, b, (IntKind.i64.wrap (a1 + (1 : Int))), (0 : Int), xs, ())).bind fun g_ => match g_ with
  | .inl (t, m, ()) =>
    some (t, m)
  | .inr (.inl (t1, m1, ())) =>
    some (t1, m1)
  | .inr (.inr (m2, ())) =>
    some (false, m2)
theorem slices_partialInsertionSortCmpFunc_sel_end.k (m_ : Mode) : ∀ (xs_ : List (List Int)) (v : Shs (⟨39, (.arr 2 (.int .i64)), [.one (.int .i64), .one (.int .i64)], [26], .one (.sh (.one .bool)), slices_partialInsertionSortCmpFunc_sel_end.F m_⟩ : Proc).args), runS P (oras (slices_partialInsertionSortCmpFunc_sel_end.cs m_)) slices_partialInsertionSortCmpFunc_sel_end.inl [] [slices_partialInsertionSortCmpFunc_sel_end.g3 m_] (⟨39, (.arr 2 (.int .i64)), [.one (.int .i64), .one (.int .i64)], [26], .one (.sh (.one .bool)), slices_partialInsertionSortCmpFunc_sel_end.F m_⟩ : Proc).fin 20000 false ((⟨39, (.arr 2 (.int .i64)), [.one (.int .i64), .one (.int .i64)], [26], .one (.sh (.one .bool)), slices_partialInsertionSortCmpFunc_sel_end.F m_⟩ : Proc).start xs_ v) = slices_partialInsertionSortCmpFunc_sel_end.F m_ xs_ v := by
  intro xs_ v_; exact (match v_ with | (a1, b, ()) => by kernel_rfl)
noncomputable def slices_partialInsertionSortCmpFunc_sel_end.p (m_ : Mode) : Proc := ⟨39, (.arr 2 (.int .i64)), [.one (.int .i64), .one (.int .i64)], [26], .one (.sh (.one .bool)), slices_partialInsertionSortCmpFunc_sel_end.F m_⟩
theorem slices_partialInsertionSortCmpFunc_sel_end.pok (m_ : Mode) : (slices_partialInsertionSortCmpFunc_sel_end.p m_).OK P := (Proc.of_run (fun S0 w0 => (oras_ok (slices_partialInsertionSortCmpFunc_sel_end.csok m_))) (by kernel_rfl) (by rfl) (by rfl) (by rfl) (fun S0 w0 cs0 => all_cons (slices_partialInsertionSortCmpFunc_sel_end.s3 m_ S0 w0 cs0) (all_nil)) (fun xs_ x r h => (slices_partialInsertionSortCmpFunc_sel_end.k m_ xs_ x).trans h))

/-! ### slices.partitionEqualCmpFunc[pendulum/sel.end] -/
noncomputable def slices_partitionEqualCmpFunc_sel_end.cs (m_ : Mode) : List Callee := [sel_ends_1.c m_]
theorem slices_partitionEqualCmpFunc_sel_end.csok (m_ : Mode) : ∀ k ∈ slices_partitionEqualCmpFunc_sel_end.cs m_, k.OK P := all_cons (sel_ends_1.ok m_) (all_nil)
def slices_partitionEqualCmpFunc_sel_end.inl : FuncId → Bool := fun f => [].any (Nat.beq f)
def slices_partitionEqualCmpFunc_sel_end.e0 : Spec := ⟨[{ fn := 40, items := [.code [.r, .r, .r, .l, .l, .l, .l, .l, .l, .l], .inLoop [.r, .r, .r, .l, .l, .l, .l, .l, .l, .l], .inBlock 2, .code [.r, .r, .r, .l, .l, .l, .l, .r], .inBlock 1, .inLoop [.r, .r, .r, .l, .l, .l], .inBlock 0, .code [.r, .r, .r, .r]], slots := [(0, .own 1000000 (.arr 2 (.int .i64))), (1, .dat (.int .i64)), (4, .fn (.func 26) []), (11, .dat (.int .i64)), (12, .dat (.int .i64))] }], [(1000000, .cells false [.row (.arr 2 (.int .i64))])], 1000001⟩
def slices_partitionEqualCmpFunc_sel_end.x0 : List Spec := [⟨[{ fn := 40, items := [.code [.r, .r, .r, .l, .l, .l, .l, .r], .inBlock 1, .inLoop [.r, .r, .r, .l, .l, .l], .inBlock 0, .code [.r, .r, .r, .r]], slots := [(0, .own 1000000 (.arr 2 (.int .i64))), (1, .dat (.int .i64)), (4, .fn (.func 26) []), (11, .dat (.int .i64)), (12, .dat (.int .i64))] }], [(1000000, .cells false [.row (.arr 2 (.int .i64))])], 1000001⟩]
noncomputable def slices_partitionEqualCmpFunc_sel_end.b0 (m_ : Mode) (self : Int × Int × Int × (List (List Int)) × Unit → Option ((Int × Int × Int × (List (List Int)) × Unit))) : Int × Int × Int × (List (List Int)) × Unit → Option ((Int × Int × Int × (List (List Int)) × Unit)) := fun v_ => match v_ with
| (a, i, j, m, ()) =>
  bif ((!(decide (i ≤ j))) || (inB a (m.length : Int))) then
  bif ((!(decide (i ≤ j))) || (inB i (m.length : Int))) then
  ((bif decide (i ≤ j) then sel_ends_1.run m_ ((rd (List.replicate 2 (0 : Int) : List Int) m a), (rd (List.replicate 2 (0 : Int) : List Int) m i), ()) else some (0 : Int))).bind fun r =>
  bif ((decide (i ≤ j)) && (!(decide (r < (0 : Int))))) then
    self (a, (IntKind.i64.wrap (i + (1 : Int))), j, m, ())
  else
    some (a, i, j, m, ())
  else none
  else none
theorem slices_partitionEqualCmpFunc_sel_end.k0 (m_ : Mode) : ∀ (self : Known slices_partitionEqualCmpFunc_sel_end.e0.sls → Option (Exits slices_partitionEqualCmpFunc_sel_end.x0)) (v : Known slices_partitionEqualCmpFunc_sel_end.e0.sls), runS P (oras (slices_partitionEqualCmpFunc_sel_end.cs m_)) slices_partitionEqualCmpFunc_sel_end.inl (⟨slices_partitionEqualCmpFunc_sel_end.e0, self⟩ :: exitCuts slices_partitionEqualCmpFunc_sel_end.x0 id) [] (fun _ _ => none) 20000 false (slices_partitionEqualCmpFunc_sel_end.e0.mk' v) = slices_partitionEqualCmpFunc_sel_end.b0 m_ self v := by
  intro self v_; exact (match v_ with | (a, i, j, m, ()) => by kernel_rfl)
noncomputable def slices_partitionEqualCmpFunc_sel_end.l0 (m_ : Mode) : Int × Int × Int × (List (List Int)) × Unit → Option ((Int × Int × Int × (List (List Int)) × Unit)) := loop m_ (slices_partitionEqualCmpFunc_sel_end.b0 m_)
theorem slices_partitionEqualCmpFunc_sel_end.q0 (v) : slices_partitionEqualCmpFunc_sel_end.l0 .lim v = slices_partitionEqualCmpFunc_sel_end.b0 .lim (slices_partitionEqualCmpFunc_sel_end.l0 .lim) v := lfp_eq (cont_of_run (slices_partitionEqualCmpFunc_sel_end.k0 .lim)) v
noncomputable def slices_partitionEqualCmpFunc_sel_end.g0 (m_ : Mode) : Seg := ⟨slices_partitionEqualCmpFunc_sel_end.e0, slices_partitionEqualCmpFunc_sel_end.x0, slices_partitionEqualCmpFunc_sel_end.l0 m_⟩
theorem slices_partitionEqualCmpFunc_sel_end.s0 (m_ : Mode) (S0 w0 cs0) : SegGood P S0 w0 cs0 40 (slices_partitionEqualCmpFunc_sel_end.g0 m_) := seg_loop m_ (oras_ok (slices_partitionEqualCmpFunc_sel_end.csok m_)) (all_nil) (by rfl) (fun e he => List.all_eq_true.1 (show slices_partitionEqualCmpFunc_sel_end.x0.all Spec.ok = true by rfl) e he) (slices_partitionEqualCmpFunc_sel_end.k0 m_)
def slices_partitionEqualCmpFunc_sel_end.e1 : Spec := ⟨[{ fn := 40, items := [.code [.r, .r, .r, .l, .l, .l, .l, .r, .l, .l, .l], .inLoop [.r, .r, .r, .l, .l, .l, .l, .r, .l, .l, .l], .inBlock 4, .code [.r, .r, .r, .l, .l, .l, .l, .r, .r], .inBlock 1, .inLoop [.r, .r, .r, .l, .l, .l], .inBlock 0, .code [.r, .r, .r, .r]], slots := [(0, .own 1000000 (.arr 2 (.int .i64))), (1, .dat (.int .i64)), (4, .fn (.func 26) []), (11, .dat (.int .i64)), (12, .dat (.int .i64))] }], [(1000000, .cells false [.row (.arr 2 (.int .i64))])], 1000001⟩
def slices_partitionEqualCmpFunc_sel_end.x1 : List Spec := [⟨[{ fn := 40, items := [.code [.r, .r, .r, .l, .l, .l, .l, .r, .r], .inBlock 1, .inLoop [.r, .r, .r, .l, .l, .l], .inBlock 0, .code [.r, .r, .r, .r]], slots := [(0, .own 1000000 (.arr 2 (.int .i64))), (1, .dat (.int .i64)), (4, .fn (.func 26) []), (11, .dat (.int .i64)), (12, .dat (.int .i64))] }], [(1000000, .cells false [.row (.arr 2 (.int .i64))])], 1000001⟩]
noncomputable def slices_partitionEqualCmpFunc_sel_end.b1 (m_ : Mode) (self : Int × Int × Int × (List (List Int)) × Unit → Option ((Int × Int × Int × (List (List Int)) × Unit))) : Int × Int × Int × (List (List Int)) × Unit → Option ((Int × Int × Int × (List (List Int)) × Unit)) := fun v_ => match v_ with
| (a, i, j, m, ()) =>
  bif ((!(decide (i ≤ j))) || (inB a (m.length : Int))) then
  bif ((!(decide (i ≤ j))) || (inB j (m.length : Int))) then
  ((bif decide (i ≤ j) then sel_ends_1.run m_ ((rd (List.replicate 2 (0 : Int) : List Int) m a), (rd (List.replicate 2 (0 : Int) : List Int) m j), ()) else some (0 : Int))).bind fun r =>
  bif ((decide (i ≤ j)) && (decide (r < (0 : Int)))) then
    self (a, i, (IntKind.i64.wrap (j - (1 : Int))), m, ())
  else
    some (a, i, j, m, ())
  else none
  else none
theorem slices_partitionEqualCmpFunc_sel_end.k1 (m_ : Mode) : ∀ (self : Known slices_partitionEqualCmpFunc_sel_end.e1.sls → Option (Exits slices_partitionEqualCmpFunc_sel_end.x1)) (v : Known slices_partitionEqualCmpFunc_sel_end.e1.sls), runS P (oras (slices_partitionEqualCmpFunc_sel_end.cs m_)) slices_partitionEqualCmpFunc_sel_end.inl (⟨slices_partitionEqualCmpFunc_sel_end.e1, self⟩ :: exitCuts slices_partitionEqualCmpFunc_sel_end.x1 id) [] (fun _ _ => none) 20000 false (slices_partitionEqualCmpFunc_sel_end.e1.mk' v) = slices_partitionEqualCmpFunc_sel_end.b1 m_ self v := by
  intro self v_; exact (match v_ with | (a, i, j, m, ()) => by kernel_rfl)
noncomputable def slices_partitionEqualCmpFunc_sel_end.l1 (m_ : Mode) : Int × Int × Int × (List (List Int)) × Unit → Option ((Int × Int × Int × (List (List Int)) × Unit)) := loop m_ (slices_partitionEqualCmpFunc_sel_end.b1 m_)
theorem slices_partitionEqualCmpFunc_sel_end.q1 (v) : slices_partitionEqualCmpFunc_sel_end.l1 .lim v = slices_partitionEqualCmpFunc_sel_end.b1 .lim (slices_partitionEqualCmpFunc_sel_end.l1 .lim) v := lfp_eq (cont_of_run (slices_partitionEqualCmpFunc_sel_end.k1 .lim)) v
noncomputable def slices_partitionEqualCmpFunc_sel_end.g1 (m_ : Mode) : Seg := ⟨slices_partitionEqualCmpFunc_sel_end.e1, slices_partitionEqualCmpFunc_sel_end.x1, slices_partitionEqualCmpFunc_sel_end.l1 m_⟩
theorem slices_partitionEqualCmpFunc_sel_end.s1 (m_ : Mode) (S0 w0 cs0) : SegGood P S0 w0 cs0 40 (slices_partitionEqualCmpFunc_sel_end.g1 m_) := seg_loop m_ (oras_ok (slices_partitionEqualCmpFunc_sel_end.csok m_)) (all_nil) (by rfl) (fun e he => List.all_eq_true.1 (show slices_partitionEqualCmpFunc_sel_end.x1.all Spec.ok = true by rfl) e he) (slices_partitionEqualCmpFunc_sel_end.k1 m_)
def slices_partitionEqualCmpFunc_sel_end.e2 : Spec := ⟨[{ fn := 40, items := [.code [.r, .r, .r, .l, .l, .l], .inLoop [.r, .r, .r, .l, .l, .l], .inBlock 0, .code [.r, .r, .r, .r]], slots := [(0, .own 1000000 (.arr 2 (.int .i64))), (1, .dat (.int .i64)), (4, .fn (.func 26) []), (11, .dat (.int .i64)), (12, .dat (.int .i64))] }], [(1000000, .cells false [.row (.arr 2 (.int .i64))])], 1000001⟩
def slices_partitionEqualCmpFunc_sel_end.x2 : List Spec := [⟨[{ fn := 40, items := [.code [.r, .r, .r, .r]], slots := [(11, .dat (.int .i64))] }], [(1000000, .cells false [.row (.arr 2 (.int .i64))])], 1000001⟩]
noncomputable def slices_partitionEqualCmpFunc_sel_end.b2 (m_ : Mode) (self : Int × Int × Int × (List (List Int)) × Unit → Option ((Int × (List (List Int)) × Unit))) : Int × Int × Int × (List (List Int)) × Unit → Option ((Int × (List (List Int)) × Unit)) := fun v_ => match v_ with
| (a, i, j, m, ()) =>
  (slices_partitionEqualCmpFunc_sel_end.l0 m_ (a, i, j, m, ())).bind fun (a1, i1, j1, m1, ()) =>
  (slices_partitionEqualCmpFunc_sel_end.l1 m_ (a1, i1, j1, m1, ())).bind fun (a2, i2, j2, m2, ()) =>
  bif decide (i2 > j2) then
    some (i2, m2, ())
  else
    bif inB j2 (m2.length : Int) then
    bif inB i2 (m2.length : Int) then
    bif inB i2 (m2.length : Int) then
    bif inB j2 ((m2.set i2.toNat (rd (List.replicate 2 (0 : Int) : List Int) m2 j2)).length : Int) then self (a2, (IntKind.i64.wrap (i2 + (1 : Int))), (IntKind.i64.wrap (j2 - (1 : Int))), ((m2.set i2.toNat (rd (List.replicate 2 (0 : Int) : List Int) m2 j2)).set j2.toNat (rd (List.replicate 2 (0 : Int) : List Int) m2 i2)), ()) else none
    else none
    else none
    else none
theorem slices_partitionEqualCmpFunc_sel_end.k2 (m_ : Mode) : ∀ (self : Known slices_partitionEqualCmpFunc_sel_end.e2.sls → Option (Exits slices_partitionEqualCmpFunc_sel_end.x2)) (v : Known slices_partitionEqualCmpFunc_sel_end.e2.sls), runS P (oras (slices_partitionEqualCmpFunc_sel_end.cs m_)) slices_partitionEqualCmpFunc_sel_end.inl (⟨slices_partitionEqualCmpFunc_sel_end.e2, self⟩ :: exitCuts slices_partitionEqualCmpFunc_sel_end.x2 id) [slices_partitionEqualCmpFunc_sel_end.g0 m_, slices_partitionEqualCmpFunc_sel_end.g1 m_] (fun _ _ => none) 20000 false (slices_partitionEqualCmpFunc_sel_end.e2.mk' v) = slices_partitionEqualCmpFunc_sel_end.b2 m_ self v := by
  intro self v_; exact (match v_ with | (a, i, j, m, ()) => by kernel_rfl)
noncomputable def slices_partitionEqualCmpFunc_sel_end.l2 (m_ : Mode) : Int × Int × Int × (List (List Int)) × Unit → Option ((Int × (List (List Int)) × Unit)) := loop m_ (slices_partitionEqualCmpFunc_sel_end.b2 m_)
theorem slices_partitionEqualCmpFunc_sel_end.q2 (v) : slices_partitionEqualCmpFunc_sel_end.l2 .lim v = slices_partitionEqualCmpFunc_sel_end.b2 .lim (slices_partitionEqualCmpFunc_sel_end.l2 .lim) v := lfp_eq (cont_of_run (slices_partitionEqualCmpFunc_sel_end.k2 .lim)) v
noncomputable def slices_partitionEqualCmpFunc_sel_end.g2 (m_ : Mode) : Seg := ⟨slices_partitionEqualCmpFunc_sel_end.e2, slices_partitionEqualCmpFunc_sel_end.x2, slices_partitionEqualCmpFunc_sel_end.l2 m_⟩
theorem slices_partitionEqualCmpFunc_sel_end.s2 (m_ : Mode) (S0 w0 cs0) : SegGood P S0 w0 cs0 40 (slices_partitionEqualCmpFunc_sel_end.g2 m_) := seg_loop m_ (oras_ok (slices_partitionEqualCmpFunc_sel_end.csok m_)) (all_cons (slices_partitionEqualCmpFunc_sel_end.s0 m_ S0 w0 cs0) (all_cons (slices_partitionEqualCmpFunc_sel_end.s1 m_ S0 w0 cs0) (all_nil))) (by rfl) (fun e he => List.all_eq_true.1 (show slices_partitionEqualCmpFunc_sel_end.x2.all Spec.ok = true by rfl) e he) (slices_partitionEqualCmpFunc_sel_end.k2 m_)
noncomputable def slices_partitionEqualCmpFunc_sel_end.F (m_ : Mode) : List (List Int) → Int × Int × Int × Unit → Option ((Int) × List (List Int)) := fun xs v_ => match v_ with
| (a1, b1, pivot, ()) =>
  bif inB pivot (xs.length : Int) then
  bif inB a1 (xs.length : Int) then
  bif inB a1 (xs.length : Int) then
  bif inB pivot ((xs.set a1.toNat (rd (List.replicate 2 (0 : Int) : List Int) xs pivot)).length : Int) then
  (slices_partitionEqualCmpFunc_sel_end.l2 m_ (a1, (IntKind.i64.wrap (a1 + (1 : Int))), (IntKind.i64.wrap (b1 - (1 : Int))), ((xs.set a1.toNat (rd (List.replicate 2 (0 : Int) : List Int) xs pivot)).set pivot.toNat (rd (List.replicate 2 (0 : Int) : List Int) xs a1)), ())).bind fun (i, m, ()) =>
  some (i, m)
  else none
  else none
  else none
  else none
theorem slices_partitionEqualCmpFunc_sel_end.k (m_ : Mode) : ∀ (xs_ : List (List Int)) (v : Shs (⟨40, (.arr 2 (.int .i64)), [.one (.int .i64), .one (.int .i64), .one (.int .i64)], [26], .one (.sh (.one (.int .i64))), slices_partitionEqualCmpFunc_sel_end.F m_⟩ : Proc).args), runS P (oras (slices_partitionEqualCmpFunc_sel_end.cs m_)) slices_partitionEqualCmpFunc_sel_end.inl [] [slices_partitionEqualCmpFunc_sel_end.g2 m_] (⟨40, (.arr 2 (.int .i64)), [.one (.int .i64), .one (.int .i64), .one (.int .i64)], [26], .one (.sh (.one (.int .i64))), slices_partitionEqualCmpFunc_sel_end.F m_⟩ : Proc).fin 20000 false ((⟨40, (.arr 2 (.int .i64)), [.one (.int .i64), .one (.int .i64), .one (.int .i64)], [26], .one (.sh (.one (.int .i64))), slices_partitionEqualCmpFunc_sel_end.F m_⟩ : Proc).start xs_ v) = slices_partitionEqualCmpFunc_sel_end.F m_ xs_ v := by
  intro xs_ v_; exact (match v_ with | (a1, b1, pivot, ()) => by kernel_rfl)
noncomputable def slices_partitionEqualCmpFunc_sel_end.p (m_ : Mode) : Proc := ⟨40, (.arr 2 (.int .i64)), [.one (.int .i64), .one (.int .i64), .one (.int .i64)], [26], .one (.sh (.one (.int .i64))), slices_partitionEqualCmpFunc_sel_end.F m_⟩
theorem slices_partitionEqualCmpFunc_sel_end.pok (m_ : Mode) : (slices_partitionEqualCmpFunc_sel_end.p m_).OK P := (Proc.of_run (fun S0 w0 => (oras_ok (slices_partitionEqualCmpFunc_sel_end.csok m_))) (by kernel_rfl) (by rfl) (by rfl) (by rfl) (fun S0 w0 cs0 => all_cons (slices_partitionEqualCmpFunc_sel_end.s2 m_ S0 w0 cs0) (all_nil)) (fun xs_ x r h => (slices_partitionEqualCmpFunc_sel_end.k m_ xs_ x).trans h))

/-! ### slices.partitionCmpFunc[pendulum/sel.end] -/
noncomputable def slices_partitionCmpFunc_sel_end.cs (m_ : Mode) : List Callee := [sel_ends_1.c m_]
theorem slices_partitionCmpFunc_sel_end.csok (m_ : Mode) : ∀ k ∈ slices_partitionCmpFunc_sel_end.cs m_, k.OK P := all_cons (sel_ends_1.ok m_) (all_nil)
def slices_partitionCmpFunc_sel_end.inl : FuncId → Bool := fun f => [].any (Nat.beq f)
def slices_partitionCmpFunc_sel_end.e0 : Spec := ⟨[{ fn := 41, items := [.code [.r, .r, .r, .l, .l, .l], .inLoop [.r, .r, .r, .l, .l, .l], .inBlock 0, .code [.r, .r, .r, .r]], slots := [(0, .own 1000000 (.arr 2 (.int .i64))), (1, .dat (.int .i64)), (4, .fn (.func 26) []), (12, .dat (.int .i64)), (13, .dat (.int .i64))] }], [(1000000, .cells false [.row (.arr 2 (.int .i64))])], 1000001⟩
def slices_partitionCmpFunc_sel_end.x0 : List Spec := [⟨[{ fn := 41, items := [.code [.r, .r, .r, .r]], slots := [(0, .own 1000000 (.arr 2 (.int .i64))), (1, .dat (.int .i64)), (4, .fn (.func 26) []), (12, .dat (.int .i64)), (13, .dat (.int .i64))] }], [(1000000, .cells false [.row (.arr 2 (.int .i64))])], 1000001⟩]
noncomputable def slices_partitionCmpFunc_sel_end.b0 (m_ : Mode) (self : Int × Int × Int × (List (List Int)) × Unit → Option ((Int × Int × Int × (List (List Int)) × Unit))) : Int × Int × Int × (List (List Int)) × Unit → Option ((Int × Int × Int × (List (List Int)) × Unit)) := fun v_ => match v_ with
| (a, i, j, m, ()) =>
  bif ((!(decide (i ≤ j))) || (inB i (m.length : Int))) then
  bif ((!(decide (i ≤ j))) || (inB a (m.length : Int))) then
  ((bif decide (i ≤ j) then sel_ends_1.run m_ ((rd (List.replicate 2 (0 : Int) : List Int) m i), (rd (List.replicate 2 (0 : Int) : List Int) m a), ()) else some (0 : Int))).bind fun r =>
  bif ((decide (i ≤ j)) && (decide (r < (0 : Int)))) then
    self (a, (IntKind.i64.wrap (i + (1 : Int))), j, m, ())
  else
    some (a, i, j, m, ())
  else none
  else none
theorem slices_partitionCmpFunc_sel_end.k0 (m_ : Mode) : ∀ (self : Known slices_partitionCmpFunc_sel_end.e0.sls → Option (Exits slices_partitionCmpFunc_sel_end.x0)) (v : Known slices_partitionCmpFunc_sel_end.e0.sls), runS P (oras (slices_partitionCmpFunc_sel_end.cs m_)) slices_partitionCmpFunc_sel_end.inl (⟨slices_partitionCmpFunc_sel_end.e0, self⟩ :: exitCuts slices_partitionCmpFunc_sel_end.x0 id) [] (fun _ _ => none) 20000 false (slices_partitionCmpFunc_sel_end.e0.mk' v) = slices_partitionCmpFunc_sel_end.b0 m_ self v := by
  intro self v_; exact (match v_ with | (a, i, j, m, ()) => by kernel_rfl)
noncomputable def slices_partitionCmpFunc_sel_end.l0 (m_ : Mode) : Int × Int × Int × (List (List Int)) × Unit → Option ((Int × Int × Int × (List (List Int)) × Unit)) := loop m_ (slices_partitionCmpFunc_sel_end.b0 m_)
theorem slices_partitionCmpFunc_sel_end.q0 (v) : slices_partitionCmpFunc_sel_end.l0 .lim v = slices_partitionCmpFunc_sel_end.b0 .lim (slices_partitionCmpFunc_sel_end.l0 .lim) v := lfp_eq (cont_of_run (slices_partitionCmpFunc_sel_end.k0 .lim)) v
noncomputable def slices_partitionCmpFunc_sel_end.g0 (m_ : Mode) : Seg := ⟨slices_partitionCmpFunc_sel_end.e0, slices_partitionCmpFunc_sel_end.x0, slices_partitionCmpFunc_sel_end.l0 m_⟩
theorem slices_partitionCmpFunc_sel_end.s0 (m_ : Mode) (S0 w0 cs0) : SegGood P S0 w0 cs0 41 (slices_partitionCmpFunc_sel_end.g0 m_) := seg_loop m_ (oras_ok (slices_partitionCmpFunc_sel_end.csok m_)) (all_nil) (by rfl) (fun e he => List.all_eq_true.1 (show slices_partitionCmpFunc_sel_end.x0.all Spec.ok = true by rfl) e he) (slices_partitionCmpFunc_sel_end.k0 m_)
def slices_partitionCmpFunc_sel_end.e1 : Spec := ⟨[{ fn := 41, items := [.code [.r, .r, .r, .r, .l, .l, .l], .inLoop [.r, .r, .r, .r, .l, .l, .l], .inBlock 2, .code [.r, .r, .r, .r, .r]], slots := [(0, .own 1000000 (.arr 2 (.int .i64))), (1, .dat (.int .i64)), (4, .fn (.func 26) []), (12, .dat (.int .i64)), (13, .dat (.int .i64))] }], [(1000000, .cells false [.row (.arr 2 (.int .i64))])], 1000001⟩
def slices_partitionCmpFunc_sel_end.x1 : List Spec := [⟨[{ fn := 41, items := [.code [.r, .r, .r, .r, .r]], slots := [(0, .own 1000000 (.arr 2 (.int .i64))), (1, .dat (.int .i64)), (4, .fn (.func 26) []), (12, .dat (.int .i64)), (13, .dat (.int .i64))] }], [(1000000, .cells false [.row (.arr 2 (.int .i64))])], 1000001⟩]
noncomputable def slices_partitionCmpFunc_sel_end.b1 (m_ : Mode) (self : Int × Int × Int × (List (List Int)) × Unit → Option ((Int × Int × Int × (List (List Int)) × Unit))) : Int × Int × Int × (List (List Int)) × Unit → Option ((Int × Int × Int × (List (List Int)) × Unit)) := fun v_ => match v_ with
| (a, i, j, m, ()) =>
  bif ((!(decide (i ≤ j))) || (inB j (m.length : Int))) then
  bif ((!(decide (i ≤ j))) || (inB a (m.length : Int))) then
  ((bif decide (i ≤ j) then sel_ends_1.run m_ ((rd (List.replicate 2 (0 : Int) : List Int) m j), (rd (List.replicate 2 (0 : Int) : List Int) m a), ()) else some (0 : Int))).bind fun r =>
  bif ((decide (i ≤ j)) && (!(decide (r < (0 : Int))))) then
    self (a, i, (IntKind.i64.wrap (j - (1 : Int))), m, ())
  else
    some (a, i, j, m, ())
  else none
  else none
theorem slices_partitionCmpFunc_sel_end.k1 (m_ : Mode) : ∀ (self : Known slices_partitionCmpFunc_sel_end.e1.sls → Option (Exits slices_partitionCmpFunc_sel_end.x1)) (v : Known slices_partitionCmpFunc_sel_end.e1.sls), runS P (oras (slices_partitionCmpFunc_sel_end.cs m_)) slices_partitionCmpFunc_sel_end.inl (⟨slices_partitionCmpFunc_sel_end.e1, self⟩ :: exitCuts slices_partitionCmpFunc_sel_end.x1 id) [] (fun _ _ => none) 20000 false (slices_partitionCmpFunc_sel_end.e1.mk' v) = slices_partitionCmpFunc_sel_end.b1 m_ self v := by
  intro self v_; exact (match v_ with | (a, i, j, m, ()) => by kernel_rfl)
noncomputable def slices_partitionCmpFunc_sel_end.l1 (m_ : Mode) : Int × Int × Int × (List (List Int)) × Unit → Option ((Int × Int × Int × (List (List Int)) × Unit)) := loop m_ (slices_partitionCmpFunc_sel_end.b1 m_)
theorem slices_partitionCmpFunc_sel_end.q1 (v) : slices_partitionCmpFunc_sel_end.l1 .lim v = slices_partitionCmpFunc_sel_end.b1 .lim (slices_partitionCmpFunc_sel_end.l1 .lim) v := lfp_eq (cont_of_run (slices_partitionCmpFunc_sel_end.k1 .lim)) v
noncomputable def slices_partitionCmpFunc_sel_end.g1 (m_ : Mode) : Seg := ⟨slices_partitionCmpFunc_sel_end.e1, slices_partitionCmpFunc_sel_end.x1, slices_partitionCmpFunc_sel_end.l1 m_⟩
theorem slices_partitionCmpFunc_sel_end.s1 (m_ : Mode) (S0 w0 cs0) : SegGood P S0 w0 cs0 41 (slices_partitionCmpFunc_sel_end.g1 m_) := seg_loop m_ (oras_ok (slices_partitionCmpFunc_sel_end.csok m_)) (all_nil) (by rfl) (fun e he => List.all_eq_true.1 (show slices_partitionCmpFunc_sel_end.x1.all Spec.ok = true by rfl) e he) (slices_partitionCmpFunc_sel_end.k1 m_)
def slices_partitionCmpFunc_sel_end.e2 : Spec := ⟨[{ fn := 41, items := [.code [.r, .r, .r, .r, .r, .r, .r, .r, .r, .l, .l, .l, .l, .l, .l, .l], .inLoop [.r, .r, .r, .r, .r, .r, .r, .r, .r, .l, .l, .l, .l, .l, .l, .l], .inBlock 6, .code [.r, .r, .r, .r, .r, .r, .r, .r, .r, .l, .l, .l, .l, .r], .inBlock 5, .inLoop [.r, .r, .r, .r, .r, .r, .r, .r, .r, .l, .l, .l], .inBlock 4, .code [.r, .r, .r, .r, .r, .r, .r, .r, .r, .r]], slots := [(0, .own 1000000 (.arr 2 (.int .i64))), (1, .dat (.int .i64)), (4, .fn (.func 26) []), (12, .dat (.int .i64)), (13, .dat (.int .i64))] }], [(1000000, .cells false [.row (.arr 2 (.int .i64))])], 1000001⟩
def slices_partitionCmpFunc_sel_end.x2 : List Spec := [⟨[{ fn := 41, items := [.code [.r, .r, .r, .r, .r, .r, .r, .r, .r, .l, .l, .l, .l, .r], .inBlock 5, .inLoop [.r, .r, .r, .r, .r, .r, .r, .r, .r, .l, .l, .l], .inBlock 4, .code [.r, .r, .r, .r, .r, .r, .r, .r, .r, .r]], slots := [(0, .own 1000000 (.arr 2 (.int .i64))), (1, .dat (.int .i64)), (4, .fn (.func 26) []), (12, .dat (.int .i64)), (13, .dat (.int .i64))] }], [(1000000, .cells false [.row (.arr 2 (.int .i64))])], 1000001⟩]
noncomputable def slices_partitionCmpFunc_sel_end.b2 (m_ : Mode) (self : Int × Int × Int × (List (List Int)) × Unit → Option ((Int × Int × Int × (List (List Int)) × Unit))) : Int × Int × Int × (List (List Int)) × Unit → Option ((Int × Int × Int × (List (List Int)) × Unit)) := fun v_ => match v_ with
| (a, i, j, m, ()) =>
  bif ((!(decide (i ≤ j))) || (inB i (m.length : Int))) then
  bif ((!(decide (i ≤ j))) || (inB a (m.length : Int))) then
  ((bif decide (i ≤ j) then sel_ends_1.run m_ ((rd (List.replicate 2 (0 : Int) : List Int) m i), (rd (List.replicate 2 (0 : Int) : List Int) m a), ()) else some (0 : Int))).bind fun r =>
  bif ((decide (i ≤ j)) && (decide (r < (0 : Int)))) then
    self (a, (IntKind.i64.wrap (i + (1 : Int))), j, m, ())
  else
    some (a, i, j, m, ())
  else none
  else none
theorem slices_partitionCmpFunc_sel_end.k2 (m_ : Mode) : ∀ (self : Known slices_partitionCmpFunc_sel_end.e2.sls → Option (Exits slices_partitionCmpFunc_sel_end.x2)) (v : Known slices_partitionCmpFunc_sel_end.e2.sls), runS P (oras (slices_partitionCmpFunc_sel_end.cs m_)) slices_partitionCmpFunc_sel_end.inl (⟨slices_partitionCmpFunc_sel_end.e2, self⟩ :: exitCuts slices_partitionCmpFunc_sel_end.x2 id) [] (fun _ _ => none) 20000 false (slices_partitionCmpFunc_sel_end.e2.mk' v) = slices_partitionCmpFunc_sel_end.b2 m_ self v := by
  intro self v_; exact (match v_ with | (a, i, j, m, ()) => by kernel_rfl)
noncomputable def slices_partitionCmpFunc_sel_end.l2 (m_ : Mode) : Int × Int × Int × (List (List Int)) × Unit → Option ((Int × Int × Int × (List (List Int)) × Unit)) := loop m_ (slices_partitionCmpFunc_sel_end.b2 m_)
theorem slices_partitionCmpFunc_sel_end.q2 (v) : slices_partitionCmpFunc_sel_end.l2 .lim v = slices_partitionCmpFunc_sel_end.b2 .lim (slices_partitionCmpFunc_sel_end.l2 .lim) v := lfp_eq (cont_of_run (slices_partitionCmpFunc_sel_end.k2 .lim)) v
noncomputable def slices_partitionCmpFunc_sel_end.g2 (m_ : Mode) : Seg := ⟨slices_partitionCmpFunc_sel_end.e2, slices_partitionCmpFunc_sel_end.x2, slices_partitionCmpFunc_sel_end.l2 m_⟩
theorem slices_partitionCmpFunc_sel_end.s2 (m_ : Mode) (S0 w0 cs0) : SegGood P S0 w0 cs0 41 (slices_partitionCmpFunc_sel_end.g2 m_) := seg_loop m_ (oras_ok (slices_partitionCmpFunc_sel_end.csok m_)) (all_nil) (by rfl) (fun e he => List.all_eq_true.1 (show slices_partitionCmpFunc_sel_end.x2.all Spec.ok = true by rfl) e he) (slices_partitionCmpFunc_sel_end.k2 m_)
def slices_partitionCmpFunc_sel_end.e3 : Spec := ⟨[{ fn := 41, items := [.code [.r, .r, .r, .r, .r, .r, .r, .r, .r, .l, .l, .l, .l, .r, .l, .l, .l], .inLoop [.r, .r, .r, .r, .r, .r, .r, .r, .r, .l, .l, .l, .l, .r, .l, .l, .l], .inBlock 8, .code [.r, .r, .r, .r, .r, .r, .r, .r, .r, .l, .l, .l, .l, .r, .r], .inBlock 5, .inLoop [.r, .r, .r, .r, .r, .r, .r, .r, .r, .l, .l, .l], .inBlock 4, .code [.r, .r, .r, .r, .r, .r, .r, .r, .r, .r]], slots := [(0, .own 1000000 (.arr 2 (.int .i64))), (1, .dat (.int .i64)), (4, .fn (.func 26) []), (12, .dat (.int .i64)), (13, .dat (.int .i64))] }], [(1000000, .cells false [.row (.arr 2 (.int .i64))])], 1000001⟩
def slices_partitionCmpFunc_sel_end.x3 : List Spec := [⟨[{ fn := 41, items := [.code [.r, .r, .r, .r, .r, .r, .r, .r, .r, .l, .l, .l, .l, .r, .r], .inBlock 5, .inLoop [.r, .r, .r, .r, .r, .r, .r, .r, .r, .l, .l, .l], .inBlock 4, .code [.r, .r, .r, .r, .r, .r, .r, .r, .r, .r]], slots := [(0, .own 1000000 (.arr 2 (.int .i64))), (1, .dat (.int .i64)), (4, .fn (.func 26) []), (12, .dat (.int .i64)), (13, .dat (.int .i64))] }], [(1000000, .cells false [.row (.arr 2 (.int .i64))])], 1000001⟩]
noncomputable def slices_partitionCmpFunc_sel_end.b3 (m_ : Mode) (self : Int × Int × Int × (List (List Int)) × Unit → Option ((Int × Int × Int × (List (List Int)) × Unit))) : Int × Int × Int × (List (List Int)) × Unit → Option ((Int × Int × Int × (List (List Int)) × Unit)) := fun v_ => match v_ with
| (a, i, j, m, ()) =>
  bif ((!(decide (i ≤ j))) || (inB j (m.length : Int))) then
  bif ((!(decide (i ≤ j))) || (inB a (m.length : Int))) then
  ((bif decide (i ≤ j) then sel_ends_1.run m_ ((rd (List.replicate 2 (0 : Int) : List Int) m j), (rd (List.replicate 2 (0 : Int) : List Int) m a), ()) else some (0 : Int))).bind fun r =>
  bif ((decide (i ≤ j)) && (!(decide (r < (0 : Int))))) then
    self (a, i, (IntKind.i64.wrap (j - (1 : Int))), m, ())
  else
    some (a, i, j, m, ())
  else none
  else none
theorem slices_partitionCmpFunc_sel_end.k3 (m_ : Mode) : ∀ (self : Known slices_partitionCmpFunc_sel_end.e3.sls → Option (Exits slices_partitionCmpFunc_sel_end.x3)) (v : Known slices_partitionCmpFunc_sel_end.e3.sls), runS P (oras (slices_partitionCmpFunc_sel_end.cs m_)) slices_partitionCmpFunc_sel_end.inl (⟨slices_partitionCmpFunc_sel_end.e3, self⟩ :: exitCuts slices_partitionCmpFunc_sel_end.x3 id) [] (fun _ _ => none) 20000 false (slices_partitionCmpFunc_sel_end.e3.mk' v) = slices_partitionCmpFunc_sel_end.b3 m_ self v := by
  intro self v_; exact (match v_ with | (a, i, j, m, ()) => by kernel_rfl)
noncomputable def slices_partitionCmpFunc_sel_end.l3 (m_ : Mode) : Int × Int × Int × (List (List Int)) × Unit → Option ((Int × Int × Int × (List (List Int)) × Unit)) := loop m_ (slices_partitionCmpFunc_sel_end.b3 m_)
theorem slices_partitionCmpFunc_sel_end.q3 (v) : slices_partitionCmpFunc_sel_end.l3 .lim v = slices_partitionCmpFunc_sel_end.b3 .lim (slices_partitionCmpFunc_sel_end.l3 .lim) v := lfp_eq (cont_of_run (slices_partitionCmpFunc_sel_end.k3 .lim)) v
noncomputable def slices_partitionCmpFunc_sel_end.g3 (m_ : Mode) : Seg := ⟨slices_partitionCmpFunc_sel_end.e3, slices_partitionCmpFunc_sel_end.x3, slices_partitionCmpFunc_sel_end.l3 m_⟩
theorem slices_partitionCmpFunc_sel_end.s3 (m_ : Mode) (S0 w0 cs0) : SegGood P S0 w0 cs0 41 (slices_partitionCmpFunc_sel_end.g3 m_) := seg_loop m_ (oras_ok (slices_partitionCmpFunc_sel_end.csok m_)) (all_nil) (by rfl) (fun e he => List.all_eq_true.1 (show slices_partitionCmpFunc_sel_end.x3.all Spec.ok = true by rfl) e he) (slices_partitionCmpFunc_sel_end.k3 m_)
def slices_partitionCmpFunc_sel_end.e4 : Spec := ⟨[{ fn := 41, items := [.code [.r, .r, .r, .r, .r, .r, .r, .r, .r, .l, .l, .l], .inLoop [.r, .r, .r, .r, .r, .r, .r, .r, .r, .l, .l, .l], .inBlock 4, .code [.r, .r, .r, .r, .r, .r, .r, .r, .r, .r]], slots := [(0, .own 1000000 (.arr 2 (.int .i64))), (1, .dat (.int .i64)), (4, .fn (.func 26) []), (12, .dat (.int .i64)), (13, .dat (.int .i64))] }], [(1000000, .cells false [.row (.arr 2 (.int .i64))])], 1000001⟩
def slices_partitionCmpFunc_sel_end.x4 : List Spec := [⟨[{ fn := 41, items := [.code [.r, .r, .r, .r, .r, .r, .r, .r, .r, .r]], slots := [(0, .own 1000000 (.arr 2 (.int .i64))), (1, .dat (.int .i64)), (13, .dat (.int .i64))] }], [(1000000, .cells false [.row (.arr 2 (.int .i64))])], 1000001⟩]
noncomputable def slices_partitionCmpFunc_sel_end.b4 (m_ : Mode) (self : Int × Int × Int × (List (List Int)) × Unit → Option ((Int × Int × (List (List Int)) × Unit))) : Int × Int × Int × (List (List Int)) × Unit → Option ((Int × Int × (List (List Int)) × Unit)) := fun v_ => match v_ with
| (a, i, j, m, ()) =>
  (slices_partitionCmpFunc_sel_end.l2 m_ (a, i, j, m, ())).bind fun (a1, i1, j1, m1, ()) =>
  (slices_partitionCmpFunc_sel_end.l3 m_ (a1, i1, j1, m1, ())).bind fun (a2, i2, j2, m2, ()) =>
  bif decide (i2 > j2) then
    some (a2, j2, m2, ())
  else
    bif inB j2 (m2.length : Int) then
    bif inB i2 (m2.length : Int) then
    bif inB i2 (m2.length : Int) then
    bif inB j2 ((m2.set i2.toNat (rd (List.replicate 2 (0 : Int) : List Int) m2 j2)).length : Int) then self (a2, (IntKind.i64.wrap (i2 + (1 : Int))), (IntKind.i64.wrap (j2 - (1 : Int))), ((m2.set i2.toNat (rd (List.replicate 2 (0 : Int) : List Int) m2 j2)).set j2.toNat (rd (List.replicate 2 (0 : Int) : List Int) m2 i2)), ()) else none
    else none
    else none
    else none
theorem slices_partitionCmpFunc_sel_end.k4 (m_ : Mode) : ∀ (self : Known slices_partitionCmpFunc_sel_end.e4.sls → Option (Exits slices_partitionCmpFunc_sel_end.x4)) (v : Known slices_partitionCmpFunc_sel_end.e4.sls), runS P (oras (slices_partitionCmpFunc_sel_end.cs m_)) slices_partitionCmpFunc_sel_end.inl (⟨slices_partitionCmpFunc_sel_end.e4, self⟩ :: exitCuts slices_partitionCmpFunc_sel_end.x4 id) [slices_partitionCmpFunc_sel_end.g2 m_, slices_partitionCmpFunc_sel_end.g3 m_] (fun _ _ => none) 20000 false (slices_partitionCmpFunc_sel_end.e4.mk' v) = slices_partitionCmpFunc_sel_end.b4 m_ self v := by
  intro self v_; exact (match v_ with | (a, i, j, m, ()) => by kernel_rfl)
noncomputable def slices_partitionCmpFunc_sel_end.l4 (m_ : Mode) : Int × Int × Int × (List (List Int)) × Unit → Option ((Int × Int × (List (List Int)) × Unit)) := loop m_ (slices_partitionCmpFunc_sel_end.b4 m_)
theorem slices_partitionCmpFunc_sel_end.q4 (v) : slices_partitionCmpFunc_sel_end.l4 .lim v = slices_partitionCmpFunc_sel_end.b4 .lim (slices_partitionCmpFunc_sel_end.l4 .lim) v := lfp_eq (cont_of_run (slices_partitionCmpFunc_sel_end.k4 .lim)) v
noncomputable def slices_partitionCmpFunc_sel_end.g4 (m_ : Mode) : Seg := ⟨slices_partitionCmpFunc_sel_end.e4, slices_partitionCmpFunc_sel_end.x4, slices_partitionCmpFunc_sel_end.l4 m_⟩
theorem slices_partitionCmpFunc_sel_end.s4 (m_ : Mode) (S0 w0 cs0) : SegGood P S0 w0 cs0 41 (slices_partitionCmpFunc_sel_end.g4 m_) := seg_loop m_ (oras_ok (slices_partitionCmpFunc_sel_end.csok m_)) (all_cons (slices_partitionCmpFunc_sel_end.s2 m_ S0 w0 cs0) (all_cons (slices_partitionCmpFunc_sel_end.s3 m_ S0 w0 cs0) (all_nil))) (by rfl) (fun e he => List.all_eq_true.1 (show slices_partitionCmpFunc_sel_end.x4.all Spec.ok = true by rfl) e he) (slices_partitionCmpFunc_sel_end.k4 m_)
noncomputable def slices_partitionCmpFunc_sel_end.F (m_ : Mode) : List (List Int) → Int × Int × Int × Unit → Option ((Int × Bool × Unit) × List (List Int)) := fun xs v_ => match v_ with
| (a1, b1, pivot, ()) =>
  bif inB pivot (xs.length : Int) then
  bif inB a1 (xs.length : Int) then
  bif inB a1 (xs.length : Int) then
  bif inB pivot ((xs.set a1.toNat (rd (List.replicate 2 (0 : Int) : List Int) xs pivot)).length : Int) then
  (slices_partitionCmpFunc_sel_end.l0 m_ (a1, (IntKind.i64.wrap (a1 + (1 : Int))), (IntKind.i64.wrap (b1 - (1 : Int))), ((xs.set a1.toNat (rd (List.replicate 2 (0 : Int) : List Int) xs pivot)).set pivot.toNat (rd (List.replicate 2 (0 : Int) : List Int) xs a1)), ())).bind fun (a2, i, j, m, ()) =>
  (slices_partitionCmpFunc_sel_end.l1 m_ (a2, i, j, m, ())).bind fun (a3, i1, j1, m1, ()) =>
  bif decide (i1 > j1) then
    bif inB a3 (m1.length : Int) then
    bif inB j1 (m1.length : Int) then
    bif inB j1 (m1.length : Int) then
    bif inB a3 ((m1.set j1.toNat (rd (List.replicate 2 (0 : Int) : List Int) m1 a3)).length : Int) then some ((j1, true, ()), ((m1.set j1.toNat (rd (List.replicate 2 (0 : Int) : List Int) m1 a3)).set a3.toNat (rd (List.replicate 2 (0 : Int) : List Int) m1 j1))) else none
    else none
    else none
    else none
  else
    bif inB j1 (m1.length : Int) then
    bif inB i1 (m1.length : Int) then
    bif inB i1 (m1.length : Int) then
    bif inB j1 ((m1.set i1.toNat (rd (List.replicate 2 (0 : Int) : List Int) m1 j1)).length : Int) then
    (slices_partitionCmpFunc_sel_end.l4 m_ (a3, (IntKind.i64.wrap (i1 + (1 : Int))), (IntKind.i64.wrap (j1 - (1 : Int))), ((m1.set i1.toNat (rd (List.replicate 2 (0 : Int) : List Int) m1 j1)).set j1.toNat (rd (List.replicate 2 (0 : Int) : List Int) m1 i1)), ())).bind fun (a4, j2, m2, ()) =>
    bif inB a4 (m2.length : Int) then
    bif inB j2 (m2.length : Int) then
    bif inB j2 (m2.length : Int) then
    bif inB a4 ((m2.set j2.toNat (rd (List.replicate 2 (0 : Int) : List Int) m2 a4)).length : Int) then some ((j2, false, ()), ((m2.set j2.toNat (rd (List.replicate 2 (0 : Int) : List Int) m2 a4)).set a4.toNat (rd (List.replicate 2 (0 : Int) : List Int) m2 j2))) else none
    else none
    else none
    else none
    else none
    else none
    else none
    else none
  else none
  else none
  else none
  else none
theorem slices_partitionCmpFunc_sel_end.k (m_ : Mode) : ∀ (xs_ : List (List Int)) (v : Shs (⟨41, (.arr 2 (.int .i64)), [.one (.int .i64), .one (.int .i64), .one (.int .i64)], [26], .tup [.sh (.one (.int .i64)), .sh (.one .bool)], slices_partitionCmpFunc_sel_end.F m_⟩ : Proc).args), runS P (oras (slices_partitionCmpFunc_sel_end.cs m_)) slices_partitionCmpFunc_sel_end.inl [] [slices_partitionCmpFunc_sel_end.g0 m_, slices_partitionCmpFunc_sel_end.g1 m_, slices_partitionCmpFunc_sel_end.g4 m_] (⟨41, (.arr 2 (.int .i64)), [.one (.int .i64), .one (.int .i64), .one (.int .i64)], [26], .tup [.sh (.one (.int .i64)), .sh (.one .bool)], slices_partitionCmpFunc_sel_end.F m_⟩ : Proc).fin 20000 false ((⟨41, (.arr 2 (.int .i64)), [.one (.int .i64), .one (.int .i64), .one (.int .i64)], [26], .tup [.sh (.one (.int .i64)), .sh (.one .bool)], slices_partitionCmpFunc_sel_end.F m_⟩ : Proc).start xs_ v) = slices_partitionCmpFunc_sel_end.F m_ xs_ v := by
  intro xs_ v_; exact (match v_ with | (a1, b1, pivot, ()) => by kernel_rfl)
noncomputable def slices_partitionCmpFunc_sel_end.p (m_ : Mode) : Proc := ⟨41, (.arr 2 (.int .i64)), [.one (.int .i64), .one (.int .i64), .one (.int .i64)], [26], .tup [.sh (.one (.int .i64)), .sh (.one .bool)], slices_partitionCmpFunc_sel_end.F m_⟩
theorem slices_partitionCmpFunc_sel_end.pok (m_ : Mode) : (slices_partitionCmpFunc_sel_end.p m_).OK P := (Proc.of_run (fun S0 w0 => (oras_ok (slices_partitionCmpFunc_sel_end.csok m_))) (by kernel_rfl) (by rfl) (by rfl) (by rfl) (fun S0 w0 cs0 => all_cons (slices_partitionCmpFunc_sel_end.s0 m_ S0 w0 cs0) (all_cons (slices_partitionCmpFunc_sel_end.s1 m_ S0 w0 cs0) (all_cons (slices_partitionCmpFunc_sel_end.s4 m_ S0 w0 cs0) (all_nil)))) (fun xs_ x r h => (slices_partitionCmpFunc_sel_end.k m_ xs_ x).trans h))

/-! ### slices.pdqsortCmpFunc[pendulum/sel.end] -/
noncomputable def slices_pdqsortCmpFunc_sel_end.cs (m_ : Mode) : List Callee := [sel_ends_1.c m_]
theorem slices_pdqsortCmpFunc_sel_end.csok (m_ : Mode) : ∀ k ∈ slices_pdqsortCmpFunc_sel_end.cs m_, k.OK P := all_cons (sel_ends_1.ok m_) (all_nil)
def slices_pdqsortCmpFunc_sel_end.inl : FuncId → Bool := fun f => [].any (Nat.beq f)
noncomputable def slices_pdqsortCmpFunc_sel_end.ps (m_ : Mode) (rec_ : List (List Int) → Int × Int × Int × Unit → Option ((Unit) × List (List Int))) : List Proc := [slices_insertionSortCmpFunc_sel_end.p m_, slices_heapSortCmpFunc_sel_end.p m_, slices_breakPatternsCmpFunc_sel_end.p m_, slices_choosePivotCmpFunc_sel_end.p m_, slices_reverseRangeCmpFunc_sel_end.p m_, slices_partialInsertionSortCmpFunc_sel_end.p m_, slices_partitionEqualCmpFunc_sel_end.p m_, slices_partitionCmpFunc_sel_end.p m_, ⟨30, (.arr 2 (.int .i64)), [.one (.int .i64), .one (.int .i64), .one (.int .i64)], [26], .tup [], rec_⟩]
theorem slices_pdqsortCmpFunc_sel_end.psok (m_ : Mode) (rec_ : List (List Int) → Int × Int × Int × Unit → Option ((Unit) × List (List Int))) (hrec : Proc.OK P ⟨30, (.arr 2 (.int .i64)), [.one (.int .i64), .one (.int .i64), .one (.int .i64)], [26], .tup [], rec_⟩) : ∀ k ∈ slices_pdqsortCmpFunc_sel_end.ps m_ rec_, k.OK P := all_cons (slices_insertionSortCmpFunc_sel_end.pok m_) (all_cons (slices_heapSortCmpFunc_sel_end.pok m_) (all_cons (slices_breakPatternsCmpFunc_sel_end.pok m_) (all_cons (slices_choosePivotCmpFunc_sel_end.pok m_) (all_cons (slices_reverseRangeCmpFunc_sel_end.pok m_) (all_cons (slices_partialInsertionSortCmpFunc_sel_end.pok m_) (all_cons (slices_partitionEqualCmpFunc_sel_end.pok m_) (all_cons (slices_partitionCmpFunc_sel_end.pok m_) (all_cons hrec all_nil))))))))
def slices_pdqsortCmpFunc_sel_end.e0 : Spec := ⟨[{ fn := 30, items := [.code [.r, .r, .l, .l], .inLoop [.r, .r, .l, .l], .inBlock 0], slots := [(0, .own 1000000 (.arr 2 (.int .i64))), (1, .dat (.int .i64)), (2, .dat (.int .i64)), (3, .dat (.int .i64)), (4, .fn (.func 26) []), (10, .dat .bool), (11, .dat .bool)] }], [(1000000, .cells false [.row (.arr 2 (.int .i64))])], 1000001⟩
def slices_pdqsortCmpFunc_sel_end.x0 : List Spec := [⟨[{ fn := 30, items := [.code [.r, .r, .l, .l, .l, .r, .l, .r, .l, .r], .code [.r, .r, .l, .l, .l, .r, .r], .inBlock 1, .inLoop [.r, .r, .l, .l], .inBlock 0], slots := [] }], [(1000000, .cells false [.row (.arr 2 (.int .i64))])], 1000001⟩, ⟨[{ fn := 30, items := [.code [.r, .r, .l, .l, .l, .r, .r, .l, .r, .l, .r], .code [.r, .r, .l, .l, .l, .r, .r, .r], .inBlock 1, .inLoop [.r, .r, .l, .l], .inBlock 0], slots := [] }], [(1000000, .cells false [.row (.arr 2 (.int .i64))])], 1000001⟩, ⟨[{ fn := 30, items := [.code [.r, .r, .l, .l, .l, .r, .r, .r, .r, .r, .r, .l, .r, .l, .r, .l], .code [.r, .r, .l, .l, .l, .r, .r, .r, .r, .r, .r, .r], .inBlock 1, .inLoop [.r, .r, .l, .l], .inBlock 0], slots := [] }], [(1000000, .cells false [.row (.arr 2 (.int .i64))])], 1000001⟩]
noncomputable def slices_pdqsortCmpFunc_sel_end.b0 (m_ : Mode) (rec_ : List (List Int) → Int × Int × Int × Unit → Option ((Unit) × List (List Int))) (self : Int × Int × Int × Bool × Bool × (List (List Int)) × Unit → Option (((List (List Int)) × Unit) ⊕ ((List (List Int)) × Unit) ⊕ ((List (List Int)) × Unit))) : Int × Int × Int × Bool × Bool × (List (List Int)) × Unit → Option (((List (List Int)) × Unit) ⊕ ((List (List Int)) × Unit) ⊕ ((List (List Int)) × Unit)) := fun v_ => match v_ with
| (a, b, limit, wasBalanced, wasPartitioned, m, ()) =>
  bif decide ((IntKind.i64.wrap (b - a)) ≤ (12 : Int)) then
    (lenOK m (slices_insertionSortCmpFunc_sel_end.F m_ m (a, b, ()))).bind fun ((), ys) =>
    some (.inl (ys, ()))
  else
    bif decide (limit = (0 : Int)) then
      (lenOK m (slices_heapSortCmpFunc_sel_end.F m_ m (a, b, ()))).bind fun ((), ys1) =>
      some (.inr (.inl (ys1, ())))
    else
      bif !wasBalanced then
        (lenOK m (slices_breakPatternsCmpFunc_sel_end.F m_ m (a, b, ()))).bind fun ((), ys2) =>
        (lenOK ys2 (slices_choosePivotCmpFunc_sel_end.F m_ ys2 (a, b, ()))).bind fun ((r3, r4, ()), ys3) =>
        bif decide (r4 = (2 : Int)) then
          (lenOK ys3 (slices_reverseRangeCmpFunc_sel_end.F m_ ys3 (a, b, ()))).bind fun ((), ys4) =>
          bif ((wasBalanced && wasPartitioned) && true) then
            (lenOK ys4 (slices_partialInsertionSortCmpFunc_sel_end.F m_ ys4 (a, b, ()))).bind fun (r6, ys5) =>
            bif r6 then
              some (.inr (.inr (ys5, ())))
            else
              bif ((!(decide (a > (0 : Int)))) || (inB (IntKind.i64.wrap (a - (1 : Int))) (ys5.length : Int))) then
              bif ((!(decide (a > (0 : Int)))) || (inB (IntKind.i64.wrap ((IntKind.i64.wrap (b - (1 : Int))) - (IntKind.i64.wrap (r3 - a)))) (ys5.length : Int))) then
              ((bif decide (a > (0 : Int)) then sel_ends_1.run m_ ((rd (List.replicate 2 (0 : Int) : List Int) ys5 (IntKind.i64.wrap (a - (1 : Int)))), (rd (List.replicate 2 (0 : Int) : List Int) ys5 (IntKind.i64.wrap ((IntKind.i64.wrap (b - (1 : Int))) - (IntKind.i64.wrap (r3 - a))))), ()) else some (0 : Int))).bind fun r7 =>
              bif ((decide (a > (0 : Int))) && (!(decide (r7 < (0 : Int))))) then
                (lenOK ys5 (slices_partitionEqualCmpFunc_sel_end.F m_ ys5 (a, b, (IntKind.i64.wrap ((IntKind.i64.wrap (b - (1 : Int))) - (IntKind.i64.wrap (r3 - a)))), ()))).bind fun (r8, ys6) =>
                self (r8, b, (IntKind.i64.wrap (limit - (1 : Int))), wasBalanced, wasPartitioned, ys6, ())
              else
                (lenOK ys5 (slices_partitionCmpFunc_sel_end.F m_ ys5 (a, b, (IntKind.i64.wrap ((IntKind.i64.wrap (b - (1 : Int))) - (IntKind.i64.wrap (r3 - a)))), ()))).bind fun ((r9, r10, ()), ys7) =>
                bif decide ((IntKind.i64.wrap (r9 - a)) < (IntKind.i64.wrap (b - r9))) then
                  (lenOK ys7 (rec_ ys7 (a, r9, (IntKind.i64.wrap (limit - (1 : Int))), ()))).bind fun ((), ys8) =>
                  self ((IntKind.i64.wrap (r9 + (1 : Int))), b, (IntKind.i64.wrap (limit - (1 : Int))), decide ((IntKind.i64.wrap (r9 - a)) ≥ (IntKind.i64.wrap ((IntKind.i64.wrap (b - a)).tdiv (8 : Int)))), r10, ys8, ())
                else
                  (lenOK ys7 (rec_ ys7 ((IntKind.i64.wrap (r9 + (1 : Int))), b, (IntKind.i64.wrap (limit - (1 : Int))), ()))).bind fun ((), ys9) =>
                  self (a, r9, (IntKind.i64.wrap (limit - (1 : Int))), decide ((IntKind.i64.wrap (b - r9)) ≥ (IntKind.i64.wrap ((IntKind.i64.wrap (b - a)).tdiv (8 : Int)))), r10, ys9, ())
              else none
              else none
          else
            bif ((!(decide (a > (0 : Int)))) || (inB (IntKind.i64.wrap (a - (1 : Int))) (ys4.length : Int))) then
            bif ((!(decide (a > (0 : Int)))) || (inB (IntKind.i64.wrap ((IntKind.i64.wrap (b - (1 : Int))) - (IntKind.i64.wrap (r3 - a)))) (ys4.length : Int))) then
            ((bif decide (a > (0 : Int)) then sel_ends_1.run m_ ((rd (List.replicate 2 (0 : Int) : List Int) ys4 (IntKind.i64.wrap (a - (1 : Int)))), (rd (List.replicate 2 (0 : Int) : List Int) ys4 (IntKind.i64.wrap ((IntKind.i64.wrap (b - (1 : Int))) - (IntKind.i64.wrap (r3 - a))))), ()) else some (0 : Int))).bind fun r13 =>
            bif ((decide (a > (0 : Int))) && (!(decide (r13 < (0 : Int))))) then
              (lenOK ys4 (slices_partitionEqualCmpFunc_sel_end.F m_ ys4 (a, b, (IntKind.i64.wrap ((IntKind.i64.wrap (b - (1 : Int))) - (IntKind.i64.wrap (r3 - a)))), ()))).bind fun (r14, ys10) =>
              self (r14, b, (IntKind.i64.wrap (limit - (1 : Int))), wasBalanced, wasPartitioned, ys10, ())
            else
              (lenOK ys4 (slices_partitionCmpFunc_sel_end.F m_ ys4 (a, b, (IntKind.i64.wrap ((IntKind.i64.wrap (b - (1 : Int))) - (IntKind.i64.wrap (r3 - a)))), ()))).bind fun ((r15, r16, ()), ys11) =>
              bif decide ((IntKind.i64.wrap (r15 - a)) < (IntKind.i64.wrap (b - r15))) then
                (lenOK ys11 (rec_ ys11 (a, r15, (IntKind.i64.wrap (limit - (1 : Int))), ()))).bind fun ((), ys12) =>
                self ((IntKind.i64.wrap (r15 + (1 : Int))), b, (IntKind.i64.wrap (limit - (1 : Int))), decide ((IntKind.i64.wrap (r15 - a)) ≥ (IntKind.i64.wrap ((IntKind.i64.wrap (b - a)).tdiv (8 : Int)))), r16, ys12, ())
              else
                (lenOK ys11 (rec_ ys11 ((IntKind.i64.wrap (r15 + (1 : Int))), b, (IntKind.i64.wrap (limit - (1 : Int))), ()))).bind fun ((), ys13) =>
                self (a, r15, (IntKind.i64.wrap (limit - (1 : Int))), decide ((IntKind.i64.wrap (b - r15)) ≥ (IntKind.i64.wrap ((IntKind.i64.wrap (b - a)).tdiv (8 : Int)))), r16, ys13, ())
            else none
            else none
        else
          bif ((wasBalanced && wasPartitioned) && (decide (r4 = (1 : Int)))) then
            (lenOK ys3 (slices_partialInsertionSortCmpFunc_sel_end.F m_ ys3 (a, b, ()))).bind fun (r19, ys14) =>
            bif r19 then
              some (.inr (.inr (ys14, ())))
            else
              bif ((!(decide (a > (0 : Int)))) || (inB (IntKind.i64.wrap (a - (1 : Int))) (ys14.length : Int))) then
              bif ((!(decide (a > (0 : Int)))) || (inB r3 (ys14.length : Int))) then
              ((bif decide (a > (0 : Int)) then sel_ends_1.run m_ ((rd (List.replicate 2 (0 : Int) : List Int) ys14 (IntKind.i64.wrap (a - (1 : Int)))), (rd (List.replicate 2 (0 : Int) : List Int) ys14 r3), ()) else some (0 : Int))).bind fun r20 =>
              bif ((decide (a > (0 : Int))) && (!(decide (r20 < (0 : Int))))) then
                (lenOK ys14 (slices_partitionEqualCmpFunc_sel_end.F m_ ys14 (a, b, r3, ()))).bind fun (r21, ys15) =>
                self (r21, b, (IntKind.i64.wrap (limit - (1 : Int))), wasBalanced, wasPartitioned, ys15, ())
              else
                (lenOK ys14 (slices_partitionCmpFunc_sel_end.F m_ ys14 (a, b, r3, ()))).bind fun ((r22, r23, ()), ys16) =>
                bif decide ((IntKind.i64.wrap (r22 - a)) < (IntKind.i64.wrap (b - r22))) then
                  (lenOK ys16 (rec_ ys16 (a, r22, (IntKind.i64.wrap (limit - (1 : Int))), ()))).bind fun ((), ys17) =>
                  self ((IntKind.i64.wrap (r22 + (1 : Int))), b, (IntKind.i64.wrap (limit - (1 : Int))), decide ((IntKind.i64.wrap (r22 - a)) ≥ (IntKind.i64.wrap ((IntKind.i64.wrap (b - a)).tdiv (8 : Int)))), r23, ys17, ())
                else
                  (lenOK ys16 (rec_ ys16 ((IntKind.i64.wrap (r22 + (1 : Int))), b, (IntKind.i64.wrap (limit - (1 : Int))), ()))).bind fun ((), ys18) =>
                  self (a, r22, (IntKind.i64.wrap (limit - (1 : Int))), decide ((IntKind.i64.wrap (b - r22)) ≥ (IntKind.i64.wrap ((IntKind.i64.wrap (b - a)).tdiv (8 : Int)))), r23, ys18, ())
              else none
              else none
          else
            bif ((!(decide (a > (0 : Int)))) || (inB (IntKind.i64.wrap (a - (1 : Int))) (ys3.length : Int))) then
            bif ((!(decide (a > (0 : Int)))) || (inB r3 (ys3.length : Int))) then
            ((bif decide (a > (0 : Int)) then sel_ends_1.run m_ ((rd (List.replicate 2 (0 : Int) : List Int) ys3 (IntKind.i64.wrap (a - (1 : Int)))), (rd (List.replicate 2 (0 : Int) : List Int) ys3 r3), ()) else some (0 : Int))).bind fun r26 =>
            bif ((decide (a > (0 : Int))) && (!(decide (r26 < (0 : Int))))) then
              (lenOK ys3 (slices_partitionEqualCmpFunc_sel_end.F m_ ys3 (a, b, r3, ()))).bind fun (r27, ys19) =>
              self (r27, b, (IntKind.i64.wrap (limit - (1 : Int))), wasBalanced, wasPartitioned, ys19, ())
            else
              (lenOK ys3 (slices_partitionCmpFunc_sel_end.F m_ ys3 (a, b, r3, ()))).bind fun ((r28, r29, ()), ys20) =>
              bif decide ((IntKind.i64.wrap (r28 - a)) < (IntKind.i64.wrap (b - r28))) then
                (lenOK ys20 (rec_ ys20 (a, r28, (IntKind.i64.wrap (limit - (1 : Int))), ()))).bind fun ((), ys21) =>
                self ((IntKind.i64.wrap (r28 + (1 : Int))), b, (IntKind.i64.wrap (limit - (1 : Int))), decide ((IntKind.i64.wrap (r28 - a)) ≥ (IntKind.i64.wrap ((IntKind.i64.wrap (b - a)).tdiv (8 : Int)))), r29, ys21, ())
              else
                (lenOK ys20 (rec_ ys20 ((IntKind.i64.wrap (r28 + (1 : Int))), b, (IntKind.i64.wrap (limit - (1 : Int))), ()))).bind fun ((), ys22) =>
                self (a, r28, (IntKind.i64.wrap (limit - (1 : Int))), decide ((IntKind.i64.wrap (b - r28)) ≥ (IntKind.i64.wrap ((IntKind.i64.wrap (b - a)).tdiv (8 : Int)))), r29, ys22, ())
            else none
            else none
      else
        (lenOK m (slices_choosePivotCmpFunc_sel_end.F m_ m (a, b, ()))).bind fun ((r32, r33, ()), ys23) =>
        bif decide (r33 = (2 : Int)) then
          (lenOK ys23 (slices_reverseRangeCmpFunc_sel_end.F m_ ys23 (a, b, ()))).bind fun ((), ys24) =>
          bif ((wasBalanced && wasPartitioned) && true) then
            (lenOK ys24 (slices_partialInsertionSortCmpFunc_sel_end.F m_ ys24 (a, b, ()))).bind fun (r35, ys25) =>
            bif r35 then
              some (.inr (.inr (ys25, ())))
            else
              bif ((!(decide (a > (0 : Int)))) || (inB (IntKind.i64.wrap (a - (1 : Int))) (ys25.length : Int))) then
              bif ((!(decide (a > (0 : Int)))) || (inB (IntKind.i64.wrap ((IntKind.i64.wrap (b - (1 : Int))) - (IntKind.i64.wrap (r32 - a)))) (ys25.length : Int))) then
              ((bif decide (a > (0 : Int)) then sel_ends_1.run m_ ((rd (List.replicate 2 (0 : Int) : List Int) ys25 (IntKind.i64.wrap (a - (1 : Int)))), (rd (List.replicate 2 (0 : Int) : List Int) ys25 (IntKind.i64.wrap ((IntKind.i64.wrap (b - (1 : Int))) - (IntKind.i64.wrap (r32 - a))))), ()) else some (0 : Int))).bind fun r36 =>
              bif ((decide (a > (0 : Int))) && (!(decide (r36 < (0 : Int))))) then
                (lenOK ys25 (slices_partitionEqualCmpFunc_sel_end.F m_ ys25 (a, b, (IntKind.i64.wrap ((IntKind.i64.wrap (b - (1 : Int))) - (IntKind.i64.wrap (r32 - a)))), ()))).bind fun (r37, ys26) =>
                self (r37, b, limit, wasBalanced, wasPartitioned, ys26, ())
              else
                (lenOK ys25 (slices_partitionCmpFunc_sel_end.F m_ ys25 (a, b, (IntKind.i64.wrap ((IntKind.i64.wrap (b - (1 : Int))) - (IntKind.i64.wrap (r32 - a)))), ()))).bind fun ((r38, r39, ()), ys27) =>
                bif decide ((IntKind.i64.wrap (r38 - a)) < (IntKind.i64.wrap (b - r38))) then
                  (lenOK ys27 (rec_ ys27 (a, r38, limit, ()))).bind fun ((), ys28) =>
                  self ((IntKind.i64.wrap (r38 + (1 : Int))), b, limit, decide ((IntKind.i64.wrap (r38 - a)) ≥ (IntKind.i64.wrap ((IntKind.i64.wrap (b - a)).tdiv (8 : Int)))), r39, ys28, ())
                else
                  (lenOK ys27 (rec_ ys27 ((IntKind.i64.wrap (r38 + (1 : Int))), b, limit, ()))).bind fun ((), ys29) =>
                  self (a, r38, limit, decide ((IntKind.i64.wrap (b - r38)) ≥ (IntKind.i64.wrap ((IntKind.i64.wrap (b - a)).tdiv (8 : Int)))), r39, ys29, ())
              else none
              else none
          else
            bif ((!(decide (a > (0 : Int)))) || (inB (IntKind.i64.wrap (a - (1 : Int))) (ys24.length : Int))) then
            bif ((!(decide (a > (0 : Int)))) || (inB (IntKind.i64.wrap ((IntKind.i64.wrap (b - (1 : Int))) - (IntKind.i64.wrap (r32 - a)))) (ys24.length : Int))) then
            ((bif decide (a > (0 : Int)) then sel_ends_1.run m_ ((rd (List.replicate 2 (0 : Int) : List Int) ys24 (IntKind.i64.wrap (a - (1 : Int)))), (rd (List.replicate 2 (0 : Int) : List Int) ys24 (IntKind.i64.wrap ((IntKind.i64.wrap (b - (1 : Int))) - (IntKind.i64.wrap (r32 - a))))), ()) else some (0 : Int))).bind fun r42 =>
            bif ((decide (a > (0 : Int))) && (!(decide (r42 < (0 : Int))))) then
              (lenOK ys24 (slices_partitionEqualCmpFunc_sel_end.F m_ ys24 (a, b, (IntKind.i64.wrap ((IntKind.i64.wrap (b - (1 : Int))) - (IntKind.i64.wrap (r32 - a)))), ()))).bind fun (r43, ys30) =>
              self (r43, b, limit, wasBalanced, wasPartitioned, ys30, ())
            else
              (lenOK ys24 (slices_partitionCmpFunc_sel_end.F m_ ys24 (a, b, (IntKind.i64.wrap ((IntKind.i64.wrap (b - (1 : Int))) - (IntKind.i64.wrap (r32 - a)))), ()))).bind fun ((r44, r45, ()), ys31) =>
              bif decide ((IntKind.i64.wrap (r44 - a)) < (IntKind.i64.wrap (b - r44))) then
                (lenOK ys31 (rec_ ys31 (a, r44, limit, ()))).bind fun ((), ys32) =>
                self ((IntKind.i64.wrap (r44 + (1 : Int))), b, limit, decide ((IntKind.i64.wrap (r44 - a)) ≥ (IntKind.i64.wrap ((IntKind.i64.wrap (b - a)).tdiv (8 : Int)))), r45, ys32, ())
              else
                (lenOK ys31 (rec_ ys31 ((IntKind.i64.wrap (r44 + (1 : Int))), b, limit, ()))).bind fun ((), ys33) =>
                self (a, r44, limit, decide ((IntKind.i64.wrap (b - r44)) ≥ (IntKind.i64.wrap ((IntKind.i64.wrap (b - a)).tdiv (8 : Int)))), r45, ys33, ())
            else none
            else none
        else
          bif ((wasBalanced && wasPartitioned) && (decide (r33 = (1 : Int)))) then
            (lenOK ys23 (slices_partialInsertionSortCmpFunc_sel_end.F m_ ys23 (a, b, ()))).bind fun (r48, ys34) =>
            bif r48 then
              some (.inr (.inr (ys34, ())))
            else
              bif ((!(decide (a > (0 : Int)))) || (inB (IntKind.i64.wrap (a - (1 : Int))) (ys34.length : Int))) then
              bif ((!(decide (a > (0 : Int)))) || (inB r32 (ys34.length : Int))) then
              ((bif decide (a > (0 : Int)) then sel_ends_1.run m_ ((rd (List.replicate 2 (0 : Int) : List Int) ys34 (IntKind.i64.wrap (a - (1 : Int)))), (rd (List.replicate 2 (0 : Int) : List Int) ys34 r32), ()) else some (0 : Int))).bind fun r49 =>
              bif ((decide (a > (0 : Int))) && (!(decide (r49 < (0 : Int))))) then
                (lenOK ys34 (slices_partitionEqualCmpFunc_sel_end.F m_ ys34 (a, b, r32, ()))).bind fun (r50, ys35) =>
                self (r50, b, limit, wasBalanced, wasPartitioned, ys35, ())
              else
                (lenOK ys34 (slices_partitionCmpFunc_sel_end.F m_ ys34 (a, b, r32, ()))).bind fun ((r51, r52, ()), ys36) =>
                bif decide ((IntKind.i64.wrap (r51 - a)) < (IntKind.i64.wrap (b - r51))) then
                  (lenOK ys36 (rec_ ys36 (a, r51, limit, ()))).bind fun ((), ys37) =>
                  self ((IntKind.i64.wrap (r51 + (1 : Int))), b, limit, decide ((IntKind.i64.wrap (r51 - a)) ≥ (IntKind.i64.wrap ((IntKind.i64.wrap (b - a)).tdiv (8 : Int)))), r52, ys37, ())
                else
                  (lenOK ys36 (rec_ ys36 ((IntKind.i64.wrap (r51 + (1 : Int))), b, limit, ()))).bind fun ((), ys38) =>
                  self (a, r51, limit, decide ((IntKind.i64.wrap (b - r51)) ≥ (IntKind.i64.wrap ((IntKind.i64.wrap (b - a)).tdiv (8 : Int)))), r52, ys38, ())
              else none
              else none
          else
            bif ((!(decide (a > (0 : Int)))) || (inB (IntKind.i64.wrap (a - (1 : Int))) (ys23.length : Int))) then
            bif ((!(decide (a > (0 : Int)))) || (inB r32 (ys23.length : Int))) then
            ((bif decide (a > (0 : Int)) then sel_ends_1.run m_ ((rd (List.replicate 2 (0 : Int) : List Int) ys23 (IntKind.i64.wrap (a - (1 : Int)))), (rd (List.replicate 2 (0 : Int) : List Int) ys23 r32), ()) else some (0 : Int))).bind fun r55 =>
            bif ((decide (a > (0 : Int))) && (!(decide (r55 < (0 : Int))))) then
              (lenOK ys23 (slices_partitionEqualCmpFunc_sel_end.F m_ ys23 (a, b, r32, ()))).bind fun (r56, ys39) =>
              self (r56, b, limit, wasBalanced, wasPartitioned, ys39, ())
            else
              (lenOK ys23 (slices_partitionCmpFunc_sel_end.F m_ ys23 (a, b, r32, ()))).bind fun ((r57, r58, ()), ys40) =>
              bif decide ((IntKind.i64.wrap (r57 - a)) < (IntKind.i64.wrap (b - r57))) then
                (lenOK ys40 (rec_ ys40 (a, r57, limit, ()))).bind fun ((), ys41) =>
                self ((IntKind.i64.wrap (r57 + (1 : Int))), b, limit, decide ((IntKind.i64.wrap (r57 - a)) ≥ (IntKind.i64.wrap ((IntKind.i64.wrap (b - a)).tdiv (8 : Int)))), r58, ys41, ())
              else
                (lenOK ys40 (rec_ ys40 ((IntKind.i64.wrap (r57 + (1 : Int))), b, limit, ()))).bind fun ((), ys42) =>
                self (a, r57, limit, decide ((IntKind.i64.wrap (b - r57)) ≥ (IntKind.i64.wrap ((IntKind.i64.wrap (b - a)).tdiv (8 : Int)))), r58, ys42, ())
            else none
            else none
theorem slices_pdqsortCmpFunc_sel_end.k0 (m_ : Mode) (rec_ : List (List Int) → Int × Int × Int × Unit → Option ((Unit) × List (List Int))) : ∀ (self : Known slices_pdqsortCmpFunc_sel_end.e0.sls → Option (Exits slices_pdqsortCmpFunc_sel_end.x0)) (v : Known slices_pdqsortCmpFunc_sel_end.e0.sls), runS P (both (oras (slices_pdqsortCmpFunc_sel_end.cs m_)) (procs (slices_pdqsortCmpFunc_sel_end.ps m_ rec_))) slices_pdqsortCmpFunc_sel_end.inl (⟨slices_pdqsortCmpFunc_sel_end.e0, self⟩ :: exitCuts slices_pdqsortCmpFunc_sel_end.x0 id) [] (fun _ _ => none) 20000 false (slices_pdqsortCmpFunc_sel_end.e0.mk' v) = slices_pdqsortCmpFunc_sel_end.b0 m_ rec_ self v := by
  intro self v_; exact (match v_ with | (a, b, limit, wasBalanced, wasPartitioned, m, ()) => by kernel_rfl)
noncomputable def slices_pdqsortCmpFunc_sel_end.l0 (m_ : Mode) (rec_ : List (List Int) → Int × Int × Int × Unit → Option ((Unit) × List (List Int))) : Int × Int × Int × Bool × Bool × (List (List Int)) × Unit → Option (((List (List Int)) × Unit) ⊕ ((List (List Int)) × Unit) ⊕ ((List (List Int)) × Unit)) := loop m_ (slices_pdqsortCmpFunc_sel_end.b0 m_ rec_)
theorem slices_pdqsortCmpFunc_sel_end.q0 (rec_ : List (List Int) → Int × Int × Int × Unit → Option ((Unit) × List (List Int))) (v) : slices_pdqsortCmpFunc_sel_end.l0 .lim rec_ v = slices_pdqsortCmpFunc_sel_end.b0 .lim rec_ (slices_pdqsortCmpFunc_sel_end.l0 .lim rec_) v := lfp_eq (cont_of_run (slices_pdqsortCmpFunc_sel_end.k0 .lim rec_)) v
noncomputable def slices_pdqsortCmpFunc_sel_end.g0 (m_ : Mode) (rec_ : List (List Int) → Int × Int × Int × Unit → Option ((Unit) × List (List Int))) : Seg := ⟨slices_pdqsortCmpFunc_sel_end.e0, slices_pdqsortCmpFunc_sel_end.x0, slices_pdqsortCmpFunc_sel_end.l0 m_ rec_⟩
theorem slices_pdqsortCmpFunc_sel_end.s0 (m_ : Mode) (rec_ : List (List Int) → Int × Int × Int × Unit → Option ((Unit) × List (List Int))) (hrec : Proc.OK P ⟨30, (.arr 2 (.int .i64)), [.one (.int .i64), .one (.int .i64), .one (.int .i64)], [26], .tup [], rec_⟩) (S0 w0 cs0) : SegGood P S0 w0 cs0 30 (slices_pdqsortCmpFunc_sel_end.g0 m_ rec_) := seg_loop m_ (both_ok (oras_ok (slices_pdqsortCmpFunc_sel_end.csok m_)) (procs_ok (slices_pdqsortCmpFunc_sel_end.psok m_ rec_ hrec))) (all_nil) (by rfl) (fun e he => List.all_eq_true.1 (show slices_pdqsortCmpFunc_sel_end.x0.all Spec.ok = true by rfl) e he) (slices_pdqsortCmpFunc_sel_end.k0 m_ rec_)
noncomputable def slices_pdqsortCmpFunc_sel_end.B (m_ : Mode) (rec_ : List (List Int) → Int × Int × Int × Unit → Option ((Unit) × List (List Int))) : List (List Int) → Int × Int × Int × Unit → Option ((Unit) × List (List Int)) := fun xs v_ => match v_ with
| (a1, b1, limit, ()) =>
  (slices_pdqsortCmpFunc_sel_end.l0 m_ rec_ (a1, b1, limit, true, true, xs, ())).bind fun g_ => match g_ with
  | .inl (m, ()) =>
    some ((), m)
  | .inr (.inl (m1, ())) =>
    some ((), m1)
  | .inr (.inr (m2, ())) =>
    some ((), m2)
theorem slices_pdqsortCmpFunc_sel_end.k (m_ : Mode) (rec_ : List (List Int) → Int × Int × Int × Unit → Option ((Unit) × List (List Int))) : ∀ (xs_ : List (List Int)) (v : Shs (⟨30, (.arr 2 (.int .i64)), [.one (.int .i64), .one (.int .i64), .one (.int .i64)], [26], .tup [], slices_pdqsortCmpFunc_sel_end.B m_ rec_⟩ : Proc).args), runS P (both (oras (slices_pdqsortCmpFunc_sel_end.cs m_)) (procs (slices_pdqsortCmpFunc_sel_end.ps m_ rec_))) slices_pdqsortCmpFunc_sel_end.inl [] [slices_pdqsortCmpFunc_sel_end.g0 m_ rec_] (⟨30, (.arr 2 (.int .i64)), [.one (.int .i64), .one (.int .i64), .one (.int .i64)], [26], .tup [], slices_pdqsortCmpFunc_sel_end.B m_ rec_⟩ : Proc).fin 20000 false ((⟨30, (.arr 2 (.int .i64)), [.one (.int .i64), .one (.int .i64), .one (.int .i64)], [26], .tup [], slices_pdqsortCmpFunc_sel_end.B m_ rec_⟩ : Proc).start xs_ v) = slices_pdqsortCmpFunc_sel_end.B m_ rec_ xs_ v := by
  intro xs_ v_; exact (match v_ with | (a1, b1, limit, ()) => by kernel_rfl)
noncomputable def slices_pdqsortCmpFunc_sel_end.F (m_ : Mode) : List (List Int) → Int × Int × Int × Unit → Option ((Unit) × List (List Int)) := iterP (slices_pdqsortCmpFunc_sel_end.B m_) 100
noncomputable def slices_pdqsortCmpFunc_sel_end.p (m_ : Mode) : Proc := ⟨30, (.arr 2 (.int .i64)), [.one (.int .i64), .one (.int .i64), .one (.int .i64)], [26], .tup [], slices_pdqsortCmpFunc_sel_end.F m_⟩
theorem slices_pdqsortCmpFunc_sel_end.pok (m_ : Mode) : (slices_pdqsortCmpFunc_sel_end.p m_).OK P := Proc.iter_ok (f := 30) (t := (.arr 2 (.int .i64))) (args := [.one (.int .i64), .one (.int .i64), .one (.int .i64)]) (cb := [26]) (res := .tup []) (B := slices_pdqsortCmpFunc_sel_end.B m_) (fun (rec_ : List (List Int) → Int × Int × Int × Unit → Option ((Unit) × List (List Int))) (hrec : Proc.OK P ⟨30, (.arr 2 (.int .i64)), [.one (.int .i64), .one (.int .i64), .one (.int .i64)], [26], .tup [], rec_⟩) => (Proc.of_run (fun S0 w0 => (both_ok (oras_ok (slices_pdqsortCmpFunc_sel_end.csok m_)) (procs_ok (slices_pdqsortCmpFunc_sel_end.psok m_ rec_ hrec)))) (by kernel_rfl) (by rfl) (by rfl) (by rfl) (fun S0 w0 cs0 => all_cons (slices_pdqsortCmpFunc_sel_end.s0 m_ rec_ hrec S0 w0 cs0) (all_nil)) (fun xs_ x r h => (slices_pdqsortCmpFunc_sel_end.k m_ rec_ xs_ x).trans h))) 100

/-! ### slices.SortFunc[[]pendulum/sel.end,pendulum/sel.end] -/
noncomputable def slices_SortFunc_sel_end_sel_end.cs (m_ : Mode) : List Callee := [math_bits_Len.c m_]
theorem slices_SortFunc_sel_end_sel_end.csok (m_ : Mode) : ∀ k ∈ slices_SortFunc_sel_end_sel_end.cs m_, k.OK P := all_cons (math_bits_Len.ok m_) (all_nil)
def slices_SortFunc_sel_end_sel_end.inl : FuncId → Bool := fun f => [].any (Nat.beq f)
noncomputable def slices_SortFunc_sel_end_sel_end.ps (m_ : Mode) : List Proc := [slices_pdqsortCmpFunc_sel_end.p m_]
theorem slices_SortFunc_sel_end_sel_end.psok (m_ : Mode) : ∀ k ∈ slices_SortFunc_sel_end_sel_end.ps m_, k.OK P := all_cons (slices_pdqsortCmpFunc_sel_end.pok m_) (all_nil)
noncomputable def slices_SortFunc_sel_end_sel_end.F (m_ : Mode) : List (List Int) → Unit → Option ((Unit) × List (List Int)) := fun xs v_ => match v_ with
| (()) =>
  bif smallI (xs.length : Int) then
  (math_bits_Len.run m_ ((IntKind.u64.wrap (xs.length : Int)), ())).bind fun r =>
  (lenOK xs (slices_pdqsortCmpFunc_sel_end.F m_ xs ((0 : Int), (xs.length : Int), r, ()))).bind fun ((), ys) =>
  some ((), ys)
  else none
theorem slices_SortFunc_sel_end_sel_end.k (m_ : Mode) : ∀ (xs_ : List (List Int)) (v : Shs (⟨25, (.arr 2 (.int .i64)), [], [26], .tup [], slices_SortFunc_sel_end_sel_end.F m_⟩ : Proc).args), runS P (both (oras (slices_SortFunc_sel_end_sel_end.cs m_)) (procs (slices_SortFunc_sel_end_sel_end.ps m_))) slices_SortFunc_sel_end_sel_end.inl [] [] (⟨25, (.arr 2 (.int .i64)), [], [26], .tup [], slices_SortFunc_sel_end_sel_end.F m_⟩ : Proc).fin 20000 false ((⟨25, (.arr 2 (.int .i64)), [], [26], .tup [], slices_SortFunc_sel_end_sel_end.F m_⟩ : Proc).start xs_ v) = slices_SortFunc_sel_end_sel_end.F m_ xs_ v := by
  intro xs_ v_; exact (match v_ with | (()) => by kernel_rfl)
noncomputable def slices_SortFunc_sel_end_sel_end.p (m_ : Mode) : Proc := ⟨25, (.arr 2 (.int .i64)), [], [26], .tup [], slices_SortFunc_sel_end_sel_end.F m_⟩
theorem slices_SortFunc_sel_end_sel_end.pok (m_ : Mode) : (slices_SortFunc_sel_end_sel_end.p m_).OK P := (Proc.of_run (fun S0 w0 => (both_ok (oras_ok (slices_SortFunc_sel_end_sel_end.csok m_)) (procs_ok (slices_SortFunc_sel_end_sel_end.psok m_)))) (by kernel_rfl) (by rfl) (by rfl) (by rfl) (fun S0 w0 cs0 => all_nil) (fun xs_ x r h => (slices_SortFunc_sel_end_sel_end.k m_ xs_ x).trans h))

end Go.AM
end
