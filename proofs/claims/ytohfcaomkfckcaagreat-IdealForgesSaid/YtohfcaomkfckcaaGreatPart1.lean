import Derived.Test.YtohfcaomkfckcaaGreatAm3
import Derived.Test.YtohfcaomkfckcaaGreatProg
import Derived.Shelf.Strings.Repeat

/-! The functions that the laws of this seat reach, as plain functions, and what these answer; no condition. -/
set_option linter.unusedSimpArgs false
set_option linter.unusedVariables false

section
namespace Go.AM
/-! Plain laws of whole numbers and loops. -/
theorem wrap64 {n : Int} (h1 : -9223372036854775808 ≤ n) (h2 : n < 9223372036854775808) : IntKind.i64.wrap n = n := by
  unfold IntKind.wrap; simp [IntKind.signed, IntKind.bits]; omega
theorem cond_pos {α : Type} {c : Bool} {a b : α} (h : c = true) : (bif c then a else b) = a := by rw [h]; rfl
theorem cond_neg {α : Type} {c : Bool} {a b : α} (h : c = false) : (bif c then a else b) = b := by rw [h]; rfl
theorem cond_ite {α : Type} {p : Prop} {i : Decidable p} {a b : α} : (bif @decide p i then a else b) = if p then a else b := by
  by_cases h : p <;> simp [h]
theorem smallI_t {n : Int} (h : n < 9223372036854775808) : smallI n = true := by
  unfold smallI; rw [Nat.blt_eq]; omega
theorem inB_t {i n : Int} (h1 : 0 ≤ i) (h2 : i < n) : inB i n = true := by simp [inB, h1, h2]
theorem loop_to {α β : Type} {f : α → Option β} (st : Nat → α) {n : Nat} (h : ∀ k, k < n → f (st k) = f (st (k + 1))) : f (st 0) = f (st n) := by
  induction n with
  | zero => rfl
  | succ n ih => exact (ih fun k hk => h k (by omega)).trans (h n (by omega))
/-- Either all steps go on, or the first one that does not tells the answer. -/
theorem loop_or {α β : Type} {f : α → Option β} (st : Nat → α) {n : Nat} {c : Nat → Bool} {e : Nat → Option β} (h : ∀ k, k < n → f (st k) = bif c k then e k else f (st (k + 1))) :
    (f (st 0) = f (st n) ∧ ∀ k, k < n → c k = false) ∨ ∃ k, k < n ∧ c k = true ∧ (∀ j, j < k → c j = false) ∧ f (st 0) = e k := by
  induction n with
  | zero => exact .inl ⟨rfl, fun k hk => absurd hk (by omega)⟩
  | succ n ih =>
    rcases ih fun k hk => h k (by omega) with ⟨h1, h2⟩ | ⟨k, hk, h1⟩
    · cases hc : c n with
      | false =>
        refine .inl ⟨h1.trans ((h n (by omega)).trans (by rw [hc]; rfl)), fun k hk => ?_⟩
        rcases Nat.lt_succ_iff_lt_or_eq.1 hk with hk | rfl
        · exact h2 k hk
        · exact hc
      | true => exact .inr ⟨n, by omega, hc, h2, h1.trans ((h n (by omega)).trans (by rw [hc]; rfl))⟩
    · exact .inr ⟨k, by omega, h1⟩
/-- Sums by index. -/
def acc (g : Nat → Int) : Nat → Int
  | 0 => 0
  | k + 1 => acc g k + g k
theorem acc_bd {g : Nat → Int} {a b : Int} {n : Nat} (h : ∀ k, k < n → a ≤ g k ∧ g k ≤ b) : n * a ≤ acc g n ∧ acc g n ≤ n * b := by
  induction n with
  | zero => simp [acc]
  | succ n ih =>
    have h1 := ih fun k hk => h k (by omega)
    have h2 := h n (by omega)
    rw [acc, Int.natCast_succ, Int.add_mul, Int.add_mul]; omega
/-- Folds by index. -/
def fold {α : Type} (g : α → Nat → α) (z : α) : Nat → α
  | 0 => z
  | k + 1 => g (fold g z k) k
theorem rd_mem {α : Type} {d : α} {xs : List α} {i : Int} (h1 : 0 ≤ i) (h2 : i < xs.length) : rd d xs i ∈ xs := by
  unfold rd; rw [List.getD_eq_getElem?_getD, List.getElem?_eq_getElem (show i.toNat < xs.length by omega), Option.getD_some]; exact List.getElem_mem _
theorem mx_eq (x y : Int) : mx x y = max x y := by unfold mx; split <;> omega
theorem mn_eq (x y : Int) : mn x y = min x y := by unfold mn; split <;> omega
theorem dec_t {p : Prop} {i : Decidable p} (h : p) : @decide p i = true := decide_eq_true h
theorem dec_f {p : Prop} {i : Decidable p} (h : ¬p) : @decide p i = false := decide_eq_false h
theorem dec_not {p : Prop} {i : Decidable p} : (!@decide p i) = decide (¬p) := by by_cases h : p <;> simp [h]
theorem dec_and {p q : Prop} {i : Decidable p} {j : Decidable q} : (@decide p i && @decide q j) = decide (p ∧ q) := by by_cases h : p <;> simp [h]
theorem dec_or {p q : Prop} {i : Decidable p} {j : Decidable q} : (@decide p i || @decide q j) = decide (p ∨ q) := by by_cases h : p <;> simp [h]
theorem cutB_t {l h n : Int} (h1 : 0 ≤ l) (h2 : l ≤ h) (h3 : h ≤ n) : cutB l h n = true := by simp [cutB, h1, h2, h3]
theorem fold_min_first {g : Nat → Int} {z : Int} (h : g 0 ≤ z) {n : Nat} (hn : 0 < n) : fold (fun r i => min r (g i)) (g 0) n = fold (fun r i => min r (g i)) z n := by
  have key : ∀ k, fold (fun r i => min r (g i)) (g 0) k = min (g 0) (fold (fun r i => min r (g i)) z k) ∧ (0 < k → fold (fun r i => min r (g i)) z k ≤ g 0) := by
    intro k
    induction k with
    | zero => refine ⟨?_, fun h => absurd h (by omega)⟩; show g 0 = min (g 0) z; omega
    | succ k ih =>
      show min (fold (fun r i => min r (g i)) (g 0) k) (g k) = min (g 0) (min (fold (fun r i => min r (g i)) z k) (g k)) ∧ (0 < k + 1 → min (fold (fun r i => min r (g i)) z k) (g k) ≤ g 0)
      refine ⟨by omega, fun _ => ?_⟩
      by_cases hk : k = 0
      · subst hk; omega
      · have := ih.2 (by omega); omega
  have := key n
  have := this.2 hn
  omega
theorem rd_ix {α : Type} {d : α} {xs : List α} {k : Nat} (h : k < xs.length) : rd d xs (k : Int) = xs[k] := by
  unfold rd; rw [Int.toNat_natCast, List.getD_eq_getElem?_getD, List.getElem?_eq_getElem h, Option.getD_some]
theorem rd_take {α : Type} {d : α} {xs : List α} {n k : Nat} (hk : k < n) : rd d (xs.take n) (k : Int) = rd d xs (k : Int) := by
  unfold rd; rw [Int.toNat_natCast, List.getD_eq_getElem?_getD, List.getD_eq_getElem?_getD, List.getElem?_take_of_lt hk]
theorem take_rd {α : Type} {d : α} {xs : List α} {k : Nat} (h : k < xs.length) : xs.take (k + 1) = xs.take k ++ [rd d xs (k : Int)] := by
  rw [rd_ix h, List.take_succ_eq_append_getElem h]
/-- A row without the one at a place. -/
def dropAt {α : Type} (xs : List α) (w : Nat) : List α := xs.take w ++ xs.drop (w + 1)
theorem dropAt_length {α : Type} {xs : List α} {w : Nat} (h : w < xs.length) : (dropAt xs w).length = xs.length - 1 := by
  unfold dropAt; rw [List.length_append, List.length_take, List.length_drop]; omega
theorem dropAt_mem {α : Type} {xs : List α} {w : Nat} {x : α} (h : x ∈ dropAt xs w) : x ∈ xs := by
  unfold dropAt at h
  rcases List.mem_append.1 h with h | h
  · exact List.mem_of_mem_take h
  · exact List.mem_of_mem_drop h
theorem dropAt_map {α β : Type} (f : α → β) (xs : List α) (w : Nat) : (dropAt xs w).map f = dropAt (xs.map f) w := by
  unfold dropAt; rw [List.map_append, List.map_take, List.map_drop]
/-- Deleting in place. -/
theorem del_ok {α : Type} {m : List α} {n w : Nat} {z : α} (hn : n ≤ m.length) (hw : w < n) {i1 i2 i3 i4 i5 i6 : Nat} (h1 : i1 = w) (h2 : i2 = w + 1) (h3 : i3 = n - (w + 1)) (h4 : i4 = n - 1) (h5 : i5 = n - 1) (h6 : i6 ≤ 1) :
    (splice (m.take i1 ++ ((m.drop i2).take i3 ++ m.drop i4)) i5 (List.replicate i6 z)).take (n - 1) = dropAt (m.take n) w ∧ (splice (m.take i1 ++ ((m.drop i2).take i3 ++ m.drop i4)) i5 (List.replicate i6 z)).length = m.length := by
  subst h1 h2 h3 h4 h5
  have e : (m.take i1 ++ ((m.drop (i1 + 1)).take (n - (i1 + 1)) ++ m.drop (n - 1))) = dropAt (m.take n) i1 ++ m.drop (n - 1) := by
    unfold dropAt
    rw [List.take_take, Nat.min_eq_left (by omega), List.drop_take, List.append_assoc]
  have hl : (dropAt (m.take n) i1).length = n - 1 := by rw [dropAt_length (by rw [List.length_take]; omega), List.length_take]; omega
  rw [e]
  unfold splice
  constructor
  · rw [List.take_append_of_le_length (by rw [List.length_take, List.length_append]; omega), List.take_take, Nat.min_self, List.take_append_of_le_length (by omega), List.take_of_length_le (by omega)]
  · simp only [List.length_append, List.length_take, List.length_drop, List.length_replicate, hl]
    omega
end Go.AM
end
section
namespace Go.AM
/-! Loops that look for a first one; rows by their elements. -/
theorem loop_first {α β : Type} {f : α → Option β} (st : Nat → α) (n : Nat) (c : Nat → Bool) (e : Nat → Option β) (h : ∀ k, k < n → f (st k) = bif c k then e k else f (st (k + 1))) :
    f (st 0) = match (List.range n).find? c with | some k => e k | none => f (st n) := by
  rcases loop_or st h with ⟨h1, h2⟩ | ⟨k, hk, h1, h2, h3⟩
  · have : (List.range n).find? c = none := List.find?_eq_none.2 fun k hk => by rw [h2 k (List.mem_range.1 hk)]; simp
    rw [this, h1]
  · have : (List.range n).find? c = some k := by
      rw [List.find?_range_eq_some]
      exact ⟨h1, List.mem_range.2 hk, fun j hj => by rw [h2 j hj]; rfl⟩
    rw [this, h3]
theorem loop_any {α β : Type} {f : α → Option β} (st : Nat → α) (n : Nat) (c : Nat → Bool) (e : Option β) (h : ∀ k, k < n → f (st k) = bif c k then e else f (st (k + 1))) :
    f (st 0) = bif (List.range n).any c then e else f (st n) := by
  rcases loop_or st h with ⟨h1, h2⟩ | ⟨k, hk, h1, h2, h3⟩
  · have : (List.range n).any c = false := by
      rw [List.any_eq_false]; intro k hk; rw [h2 k (List.mem_range.1 hk)]; simp
    rw [this, h1]; rfl
  · have : (List.range n).any c = true := List.any_eq_true.2 ⟨k, List.mem_range.2 hk, h1⟩
    rw [this, h3]; rfl
theorem loop_hit {α β : Type} {f : α → Option β} (st : Nat → α) (n : Nat) (c : Nat → Bool) (e : Nat → Option β) (h : ∀ k, k < n → f (st k) = bif c k then e k else f (st (k + 1))) :
    ∃ k, ((List.range n).any c = true → k < n ∧ c k = true ∧ ∀ j, j < k → c j = false) ∧ f (st 0) = bif (List.range n).any c then e k else f (st n) := by
  rcases loop_or st h with ⟨h1, h2⟩ | ⟨k, hk, h1, h2, h3⟩
  · have : (List.range n).any c = false := by
      rw [List.any_eq_false]; intro k hk; rw [h2 k (List.mem_range.1 hk)]; simp
    exact ⟨0, fun q => by rw [this] at q; simp at q, by rw [this, h1]; rfl⟩
  · have : (List.range n).any c = true := List.any_eq_true.2 ⟨k, List.mem_range.2 hk, h1⟩
    exact ⟨k, fun _ => ⟨hk, h1, h2⟩, by rw [this, h3]; rfl⟩
theorem any_congr {n : Nat} {c d : Nat → Bool} (h : ∀ k, k < n → c k = d k) : (List.range n).any c = (List.range n).any d := by
  rw [Bool.eq_iff_iff, List.any_eq_true, List.any_eq_true]
  exact ⟨fun ⟨k, hk, q⟩ => ⟨k, hk, by rw [← h k (List.mem_range.1 hk)]; exact q⟩, fun ⟨k, hk, q⟩ => ⟨k, hk, by rw [h k (List.mem_range.1 hk)]; exact q⟩⟩
theorem rd_ext {α : Type} {d : α} {a b : List α} (hl : a.length = b.length) (h : ∀ k : Nat, k < a.length → rd d a (k : Int) = rd d b (k : Int)) : a = b := by
  apply List.ext_getElem hl
  intro k h1 h2
  have := h k h1
  rwa [rd_ix h1, rd_ix h2] at this
/-- rows are the same, element by element -/
theorem any_ne {α : Type} [DecidableEq α] {d : α} {a b : List α} (hl : a.length = b.length) : ((List.range a.length).any fun k => !decide (rd d a (k : Int) = rd d b (k : Int))) = !decide (a = b) := by
  by_cases h : a = b
  · subst h
    rw [show (!decide (a = a)) = false by simp, List.any_eq_false]
    intro k _; simp
  · rw [dec_f h]
    cases hq : (List.range a.length).any fun k => !decide (rd d a (k : Int) = rd d b (k : Int)) with
    | true => rfl
    | false =>
      rw [List.any_eq_false] at hq
      exact (h (rd_ext hl fun k hk => by have := hq k (List.mem_range.2 hk); simpa using this)).elim
theorem smallN {n : Nat} (h : n < 9223372036854775808) : smallI (n : Int) = true := smallI_t (by omega)
theorem wrapu8 (n : Int) : IntKind.u8.wrap n = n % 256 := by
  unfold IntKind.wrap; simp [IntKind.signed, IntKind.bits]
theorem wrap64_lo {n : Int} : -9223372036854775808 ≤ IntKind.i64.wrap n ∧ IntKind.i64.wrap n < 9223372036854775808 := by
  unfold IntKind.wrap; simp [IntKind.signed, IntKind.bits]; omega
end Go.AM
end
section
namespace Go.Proofs
def Tryz.lays105_ren : Go.Shelf.Ren := ⟨fun | 105 => 33 | 212 => 39 | 99 => 40 | 165 => 41 | 166 => 42 | 170 => 43 | 169 => 44 | 263 => 48 | 264 => 49 | 206 => 50 | 240 => 51 | 241 => 52 | 276 => 61 | 277 => 62 | n => n, fun | 9 => 9 | 3 => 3 | 4 => 4 | 20 => 20 | 0 => 0 | 46 => 69 | 109 => 70 | 5 => 5 | 72 => 75 | 76 => 79 | 51 => 86 | 146 => 87 | 53 => 89 | 148 => 90 | 70 => 73 | 37 => 58 | 75 => 78 | 127 => 92 | 164 => 99 | 80 => 82 | n => n, fun | n => n⟩
theorem Tryz.lays105 : Go.Proofs.Lays.n105 Tryz.prog Tryz.lays105_ren := {
  mixed := by kernel_rfl
  f99 := Tryz.func40.trans (congrArg some (by kernel_rfl))
  f105 := Tryz.func33.trans (congrArg some (by kernel_rfl))
  f165 := Tryz.func41.trans (congrArg some (by kernel_rfl))
  f166 := Tryz.func42.trans (congrArg some (by kernel_rfl))
  f169 := Tryz.func44.trans (congrArg some (by kernel_rfl))
  f170 := Tryz.func43.trans (congrArg some (by kernel_rfl))
  f206 := Tryz.func50.trans (congrArg some (by kernel_rfl))
  f212 := Tryz.func39.trans (congrArg some (by kernel_rfl))
  f240 := Tryz.func51.trans (congrArg some (by kernel_rfl))
  f241 := Tryz.func52.trans (congrArg some (by kernel_rfl))
  f263 := Tryz.func48.trans (congrArg some (by kernel_rfl))
  f264 := Tryz.func49.trans (congrArg some (by kernel_rfl))
  f276 := Tryz.func61.trans (congrArg some (by kernel_rfl))
  f277 := Tryz.func62.trans (congrArg some (by kernel_rfl))
  t0 := Tryz.underlying0
  a0 := Tryz.isAgg0
  z0 := Tryz.sizeOf0
  v0 := Tryz.zeroValue0
  t3 := Tryz.underlying3
  a3 := Tryz.isAgg3
  z3 := Tryz.sizeOf3
  v3 := Tryz.zeroValue3
  t4 := Tryz.underlying4
  a4 := Tryz.isAgg4
  z4 := Tryz.sizeOf4
  v4 := Tryz.zeroValue4
  t5 := Tryz.underlying5
  a5 := Tryz.isAgg5
  z5 := Tryz.sizeOf5
  v5 := Tryz.zeroValue5
  t9 := Tryz.underlying9
  a9 := Tryz.isAgg9
  z9 := Tryz.sizeOf9
  v9 := Tryz.zeroValue9
  t20 := Tryz.underlying20
  a20 := Tryz.isAgg20
  z20 := Tryz.sizeOf20
  v20 := Tryz.zeroValue20
  t37 := Tryz.underlying58
  a37 := Tryz.isAgg58
  z37 := Tryz.sizeOf58
  v37 := Tryz.zeroValue58
  t46 := Tryz.underlying69
  a46 := Tryz.isAgg69
  z46 := Tryz.sizeOf69
  v46 := Tryz.zeroValue69
  t51 := Tryz.underlying86
  a51 := Tryz.isAgg86
  z51 := Tryz.sizeOf86
  v51 := Tryz.zeroValue86
  t53 := Tryz.underlying89
  a53 := Tryz.isAgg89
  z53 := Tryz.sizeOf89
  v53 := Tryz.zeroValue89
  t70 := Tryz.underlying73
  a70 := Tryz.isAgg73
  z70 := Tryz.sizeOf73
  v70 := Tryz.zeroValue73
  t72 := Tryz.underlying75
  a72 := Tryz.isAgg75
  z72 := Tryz.sizeOf75
  v72 := Tryz.zeroValue75
  t75 := Tryz.underlying78
  a75 := Tryz.isAgg78
  z75 := Tryz.sizeOf78
  v75 := Tryz.zeroValue78
  t76 := Tryz.underlying79
  a76 := Tryz.isAgg79
  z76 := Tryz.sizeOf79
  v76 := Tryz.zeroValue79
  t109 := Tryz.underlying70
  a109 := Tryz.isAgg70
  z109 := Tryz.sizeOf70
  v109 := Tryz.zeroValue70
  t127 := Tryz.underlying92
  a127 := Tryz.isAgg92
  z127 := Tryz.sizeOf92
  v127 := Tryz.zeroValue92
  t146 := Tryz.underlying87
  a146 := Tryz.isAgg87
  z146 := Tryz.sizeOf87
  v146 := Tryz.zeroValue87
  t148 := Tryz.underlying90
  a148 := Tryz.isAgg90
  z148 := Tryz.sizeOf90
  v148 := Tryz.zeroValue90
  t164 := Tryz.underlying99
  a164 := Tryz.isAgg99
  z164 := Tryz.sizeOf99
  v164 := Tryz.zeroValue99 }
theorem Tryz.Builder_Extra_105 : Builder.Extra Tryz.prog Tryz.lays105_ren := {
  sizeBuilder := by kernel_rfl
  liesBuilder := by kernel_rfl
  t5 := Tryz.underlying5
  a5 := Tryz.isAgg5
  z5 := Tryz.sizeOf5
  v5 := Tryz.zeroValue5
  infoByte := by kernel_rfl
  cellsByte := by kernel_rfl
  sizeByte := by kernel_rfl
  neB5 := by decide }
end Go.Proofs
namespace Go.AM
open Go.Proofs
noncomputable abbrev P := Tryz.prog
universe u
theorem all_nil {α : Type u} {p : α → Prop} : ∀ k ∈ ([] : List α), p k := fun k h => nomatch h
theorem all_cons {α : Type u} {p : α → Prop} {a : α} {l : List α} (h : p a) (k : ∀ x ∈ l, p x) : ∀ x ∈ a :: l, p x := fun x hx => by
  rcases List.mem_cons.1 hx with rfl | hx
  · exact h
  · exact k x hx
set_option maxRecDepth 100000
set_option linter.unusedVariables false
/-! ### pendulum/pendulumref22.Light -/
noncomputable def pendulumref22_Light.cs (m_ : Mode) : List Callee := []
theorem pendulumref22_Light.csok (m_ : Mode) : ∀ k ∈ pendulumref22_Light.cs m_, k.OK P := all_nil
def pendulumref22_Light.inl : FuncId → Bool := fun f => [].any (Nat.beq f)
def pendulumref22_Light.e0 : Spec := ⟨[{ fn := 7, items := [.code [.r, .r, .l, .r, .l, .l, .r, .l, .l, .r, .r, .r, .l, .l], .inLoop [.r, .r, .l, .r, .l, .l, .r, .l, .l, .r, .r, .r, .l, .l], .inBlock 2, .inBlock 1, .code [.r, .r, .l, .r, .l, .l, .r, .r], .inLoop [.r, .r, .l, .r, .l, .l], .inBlock 0, .code [.r, .r, .r]], slots := [(1, .ptr 0 0), (3, .dat (.int .i64)), (4, .dat (.int .i64)), (5, .ptr 15 0), (6, .dat (.int .i64))] }], [(0, .cells false [.dat .bool, .dat (.lst (.pair .str (.pair (.lst .str) (.pair .str .str))))]), (15, .cells false [.dat .str, .dat (.lst .str), .dat .str, .dat .str])], 16⟩
def pendulumref22_Light.x0 : List Spec := [⟨[{ fn := 7, items := [.code [.r, .r, .l, .r, .l, .l, .r, .r], .inLoop [.r, .r, .l, .r, .l, .l], .inBlock 0, .code [.r, .r, .r]], slots := [(1, .ptr 0 0), (3, .dat (.int .i64)), (4, .dat (.int .i64))] }], [(0, .cells false [.dat .bool, .dat (.lst (.pair .str (.pair (.lst .str) (.pair .str .str))))])], 1⟩]
noncomputable def pendulumref22_Light.b0 (m_ : Mode) (self : Int × Int × Int × Bool × (List (List Int × (List (List Int) × (List Int × List Int)))) × (List Int) × (List (List Int)) × (List Int) × (List Int) × Unit → Option ((Int × Int × Bool × (List (List Int × (List (List Int) × (List Int × List Int)))) × Unit))) : Int × Int × Int × Bool × (List (List Int × (List (List Int) × (List Int × List Int)))) × (List Int) × (List (List Int)) × (List Int) × (List Int) × Unit → Option ((Int × Int × Bool × (List (List Int × (List (List Int) × (List Int × List Int)))) × Unit)) := fun v_ => match v_ with
| (left, i, j, m, m1, m2, m3, m4, m5, ()) =>
  bif smallI (m3.length : Int) then
  bif ((decide (j < (m3.length : Int))) && (decide (left ≥ (0 : Int)))) then
    bif inB j (m3.length : Int) then
    bif smallI ((rd ([] : List Int) m3 j).length : Int) then self ((IntKind.i64.wrap (left - ((rd ([] : List Int) m3 j).length : Int))), i, (IntKind.i64.wrap (j + (1 : Int))), m, m1, m2, m3, m4, m5, ()) else none
    else none
  else
    some (left, i, m, m1, ())
  else none
theorem pendulumref22_Light.k0 (m_ : Mode) : ∀ (self : Known pendulumref22_Light.e0.sls → Option (Exits pendulumref22_Light.x0)) (v : Known pendulumref22_Light.e0.sls), runS P (oras (pendulumref22_Light.cs m_)) pendulumref22_Light.inl (⟨pendulumref22_Light.e0, self⟩ :: exitCuts pendulumref22_Light.x0 id) [] (fun _ _ => none) 20000 false (pendulumref22_Light.e0.mk' v) = pendulumref22_Light.b0 m_ self v := by
  intro self v_; exact (match v_ with | (left, i, j, m, m1, m2, m3, m4, m5, ()) => by kernel_rfl)
noncomputable def pendulumref22_Light.l0 (m_ : Mode) : Int × Int × Int × Bool × (List (List Int × (List (List Int) × (List Int × List Int)))) × (List Int) × (List (List Int)) × (List Int) × (List Int) × Unit → Option ((Int × Int × Bool × (List (List Int × (List (List Int) × (List Int × List Int)))) × Unit)) := loop m_ (pendulumref22_Light.b0 m_)
theorem pendulumref22_Light.q0 (v) : pendulumref22_Light.l0 .lim v = pendulumref22_Light.b0 .lim (pendulumref22_Light.l0 .lim) v := lfp_eq (cont_of_run (pendulumref22_Light.k0 .lim)) v
noncomputable def pendulumref22_Light.g0 (m_ : Mode) : Seg := ⟨pendulumref22_Light.e0, pendulumref22_Light.x0, pendulumref22_Light.l0 m_⟩
theorem pendulumref22_Light.s0 (m_ : Mode) (S0 w0 cs0) : SegGood P S0 w0 cs0 7 (pendulumref22_Light.g0 m_) := seg_loop m_ (oras_ok (pendulumref22_Light.csok m_)) (all_nil) (by rfl) (fun e he => List.all_eq_true.1 (show pendulumref22_Light.x0.all Spec.ok = true by rfl) e he) (pendulumref22_Light.k0 m_)
def pendulumref22_Light.e1 : Spec := ⟨[{ fn := 7, items := [.code [.r, .r, .l, .r, .l, .l], .inLoop [.r, .r, .l, .r, .l, .l], .inBlock 0, .code [.r, .r, .r]], slots := [(1, .ptr 0 0), (3, .dat (.int .i64)), (4, .dat (.int .i64))] }], [(0, .cells false [.dat .bool, .dat (.lst (.pair .str (.pair (.lst .str) (.pair .str .str))))])], 1⟩
def pendulumref22_Light.x1 : List Spec := [⟨[{ fn := 7, items := [.code [.r, .r, .r]], slots := [(1, .ptr 0 0), (3, .dat (.int .i64))] }], [(0, .cells false [.dat .bool, .dat (.lst (.pair .str (.pair (.lst .str) (.pair .str .str))))])], 1⟩]
noncomputable def pendulumref22_Light.b1 (m_ : Mode) (self : Int × Int × Bool × (List (List Int × (List (List Int) × (List Int × List Int)))) × Unit → Option ((Int × Bool × (List (List Int × (List (List Int) × (List Int × List Int)))) × Unit))) : Int × Int × Bool × (List (List Int × (List (List Int) × (List Int × List Int)))) × Unit → Option ((Int × Bool × (List (List Int × (List (List Int) × (List Int × List Int)))) × Unit)) := fun v_ => match v_ with
| (left, i, m, m1, ()) =>
  bif smallI (m1.length : Int) then
  bif ((decide (i < (m1.length : Int))) && (decide (left ≥ (0 : Int)))) then
    bif inB i (m1.length : Int) then
    bif smallI (((rd (([] : List Int), (([] : List (List Int)), (([] : List Int), ([] : List Int)))) m1 i).1).length : Int) then
    bif smallI (((((rd (([] : List Int), (([] : List (List Int)), (([] : List Int), ([] : List Int)))) m1 i).2).2).1).length : Int) then
    bif smallI (((((rd (([] : List Int), (([] : List (List Int)), (([] : List Int), ([] : List Int)))) m1 i).2).2).2).length : Int) then
    bif smallI ((((rd (([] : List Int), (([] : List (List Int)), (([] : List Int), ([] : List Int)))) m1 i).2).1).length : Int) then
    (pendulumref22_Light.l0 m_ ((IntKind.i64.wrap ((IntKind.i64.wrap ((IntKind.i64.wrap ((IntKind.i64.wrap ((IntKind.i64.wrap (left - (10 : Int))) - (((rd (([] : List Int), (([] : List (List Int)), (([] : List Int), ([] : List Int)))) m1 i).1).length : Int))) - (((((rd (([] : List Int), (([] : List (List Int)), (([] : List Int), ([] : List Int)))) m1 i).2).2).1).length : Int))) - (((((rd (([] : List Int), (([] : List (List Int)), (([] : List Int), ([] : List Int)))) m1 i).2).2).2).length : Int))) - ((((rd (([] : List Int), (([] : List (List Int)), (([] : List Int), ([] : List Int)))) m1 i).2).1).length : Int))), i, (0 : Int), m, m1, (rd (([] : List Int), (([] : List (List Int)), (([] : List Int), ([] : List Int)))) m1 i).1, ((rd (([] : List Int), (([] : List (List Int)), (([] : List Int), ([] : List Int)))) m1 i).2).1, (((rd (([] : List Int), (([] : List (List Int)), (([] : List Int), ([] : List Int)))) m1 i).2).2).1, (((rd (([] : List Int), (([] : List (List Int)), (([] : List Int), ([] : List Int)))) m1 i).2).2).2, ())).bind fun (left1, i1, m2, m3, ()) =>
    self (left1, (IntKind.i64.wrap (i1 + (1 : Int))), m2, m3, ())
    else none
    else none
    else none
    else none
    else none
  else
    some (left, m, m1, ())
  else none
theorem pendulumref22_Light.k1 (m_ : Mode) : ∀ (self : Known pendulumref22_Light.e1.sls → Option (Exits pendulumref22_Light.x1)) (v : Known pendulumref22_Light.e1.sls), runS P (oras (pendulumref22_Light.cs m_)) pendulumref22_Light.inl (⟨pendulumref22_Light.e1, self⟩ :: exitCuts pendulumref22_Light.x1 id) [pendulumref22_Light.g0 m_] (fun _ _ => none) 20000 false (pendulumref22_Light.e1.mk' v) = pendulumref22_Light.b1 m_ self v := by
  intro self v_; exact (match v_ with | (left, i, m, m1, ()) => by kernel_rfl)
noncomputable def pendulumref22_Light.l1 (m_ : Mode) : Int × Int × Bool × (List (List Int × (List (List Int) × (List Int × List Int)))) × Unit → Option ((Int × Bool × (List (List Int × (List (List Int) × (List Int × List Int)))) × Unit)) := loop m_ (pendulumref22_Light.b1 m_)
theorem pendulumref22_Light.q1 (v) : pendulumref22_Light.l1 .lim v = pendulumref22_Light.b1 .lim (pendulumref22_Light.l1 .lim) v := lfp_eq (cont_of_run (pendulumref22_Light.k1 .lim)) v
noncomputable def pendulumref22_Light.g1 (m_ : Mode) : Seg := ⟨pendulumref22_Light.e1, pendulumref22_Light.x1, pendulumref22_Light.l1 m_⟩
theorem pendulumref22_Light.s1 (m_ : Mode) (S0 w0 cs0) : SegGood P S0 w0 cs0 7 (pendulumref22_Light.g1 m_) := seg_loop m_ (oras_ok (pendulumref22_Light.csok m_)) (all_cons (pendulumref22_Light.s0 m_ S0 w0 cs0) (all_nil)) (by rfl) (fun e he => List.all_eq_true.1 (show pendulumref22_Light.x1.all Spec.ok = true by rfl) e he) (pendulumref22_Light.k1 m_)
noncomputable def pendulumref22_Light.run (m_ : Mode) : (Bool × List (List Int × (List (List Int) × (List Int × List Int)))) × Unit → Option (Bool) := fun v_ => match v_ with
| (v, ()) =>
  (pendulumref22_Light.l1 m_ ((400000 : Int), (0 : Int), v.1, v.2, ())).bind fun (left, m, m1, ()) =>
  bif ((!(decide (left ≥ (0 : Int)))) || (smallI (m1.length : Int))) then some ((decide (left ≥ (0 : Int))) && (decide ((m1.length : Int) ≤ (300 : Int)))) else none
noncomputable def pendulumref22_Light.c (m_ : Mode) : Callee := ⟨7, [.ag (.pair .bool (.lst (.pair .str (.pair (.lst .str) (.pair .str .str)))))], .one (.sh (.one .bool)), pendulumref22_Light.run m_⟩
theorem pendulumref22_Light.k (m_ : Mode) : ∀ v : Shs (pendulumref22_Light.c m_).args, runS P (oras (pendulumref22_Light.cs m_)) pendulumref22_Light.inl [] [pendulumref22_Light.g1 m_] (pendulumref22_Light.c m_).res.fin 20000 false (start 7 (encs (pendulumref22_Light.c m_).args v)) = pendulumref22_Light.run m_ v := by
  intro v_; exact (match v_ with | (v, ()) => by kernel_rfl)
theorem pendulumref22_Light.ok (m_ : Mode) : (pendulumref22_Light.c m_).OK P := Callee.of_run (fun S0 w0 => (oras_ok (pendulumref22_Light.csok m_))) (by kernel_rfl) (by rfl) (fun S0 w0 cs0 => all_cons (pendulumref22_Light.s1 m_ S0 w0 cs0) (all_nil)) (fun x r h => (pendulumref22_Light.k m_ x).trans h)

/-! ### pendulum/ideal.refused -/
noncomputable def ideal_refused.cs (m_ : Mode) : List Callee := []
theorem ideal_refused.csok (m_ : Mode) : ∀ k ∈ ideal_refused.cs m_, k.OK P := all_nil
def ideal_refused.inl : FuncId → Bool := fun f => [].any (Nat.beq f)
noncomputable def ideal_refused.run (m_ : Mode) : (List Int × (List (List Int) × (List Int × List Int))) × Unit → Option (Int) := fun v_ => match v_ with
| (k, ()) =>
  bif smallI (k.1.length : Int) then
  bif ((!(!(decide ((k.1.length : Int) = (32 : Int))))) || (smallI (k.1.length : Int))) then
  bif ((!(decide ((k.1.length : Int) = (32 : Int)))) && (!(decide ((k.1.length : Int) = (64 : Int))))) then
    some (13 : Int)
  else
    bif smallI (k.2.1.length : Int) then
    bif decide ((k.2.1.length : Int) > (126 : Int)) then
      some (18 : Int)
    else
      some (0 : Int)
    else none
  else none
  else none
noncomputable def ideal_refused.c (m_ : Mode) : Callee := ⟨18, [.ag (.pair .str (.pair (.lst .str) (.pair .str .str)))], .one (.sh (.one (.int .i64))), ideal_refused.run m_⟩
theorem ideal_refused.k (m_ : Mode) : ∀ v : Shs (ideal_refused.c m_).args, runS P (oras (ideal_refused.cs m_)) ideal_refused.inl [] [] (ideal_refused.c m_).res.fin 20000 false (start 18 (encs (ideal_refused.c m_).args v)) = ideal_refused.run m_ v := by
  intro v_; exact (match v_ with | (k, ()) => by kernel_rfl)
theorem ideal_refused.ok (m_ : Mode) : (ideal_refused.c m_).OK P := Callee.of_run (fun S0 w0 => (oras_ok (ideal_refused.csok m_))) (by kernel_rfl) (by rfl) (fun S0 w0 cs0 => all_nil) (fun x r h => (ideal_refused.k m_ x).trans h)

/-! ### slices.Equal[[]string,string] -/
noncomputable def slices_Equal_string_string.cs (m_ : Mode) : List Callee := []
theorem slices_Equal_string_string.csok (m_ : Mode) : ∀ k ∈ slices_Equal_string_string.cs m_, k.OK P := all_nil
def slices_Equal_string_string.inl : FuncId → Bool := fun f => [].any (Nat.beq f)
def slices_Equal_string_string.e0 : Spec := ⟨[{ fn := 35, items := [.code [.r, .r, .l, .r, .l, .l], .inLoop [.r, .r, .l, .r, .l, .l], .inBlock 0, .code [.r, .r, .r]], slots := [(0, .dat (.lst .str)), (1, .dat (.lst .str)), (12, .dat (.int .i64)), (13, .dat (.int .i64))] }], [], 0⟩
def slices_Equal_string_string.x0 : List Spec := [⟨[{ fn := 35, items := [.code [.r, .r, .l, .r, .l, .l, .r, .r, .l, .l, .r, .r, .l, .r], .inBlock 1, .code [.r, .r, .l, .r, .l, .l, .r, .r, .r], .inLoop [.r, .r, .l, .r, .l, .l], .inBlock 0, .code [.r, .r, .r]], slots := [(4, .dat .bool)] }], [], 0⟩, ⟨[{ fn := 35, items := [.code [.r, .r, .r]], slots := [] }], [], 0⟩]
noncomputable def slices_Equal_string_string.b0 (m_ : Mode) (self : (List (List Int)) × (List (List Int)) × Int × Int × Unit → Option ((Bool × Unit) ⊕ (Unit))) : (List (List Int)) × (List (List Int)) × Int × Int × Unit → Option ((Bool × Unit) ⊕ (Unit)) := fun v_ => match v_ with
| (s1, s2, t, t1, ()) =>
  bif decide (t1 < t) then
    bif inB t1 (s1.length : Int) then
    bif inB t1 (s2.length : Int) then
    bif !(decide ((rd ([] : List Int) s1 t1) = (rd ([] : List Int) s2 t1))) then
      some (.inl (false, ()))
    else
      self (s1, s2, t, (IntKind.i64.wrap (t1 + (1 : Int))), ())
    else none
    else none
  else
    some (.inr (()))
theorem slices_Equal_string_string.k0 (m_ : Mode) : ∀ (self : Known slices_Equal_string_string.e0.sls → Option (Exits slices_Equal_string_string.x0)) (v : Known slices_Equal_string_string.e0.sls), runS P (oras (slices_Equal_string_string.cs m_)) slices_Equal_string_string.inl (⟨slices_Equal_string_string.e0, self⟩ :: exitCuts slices_Equal_string_string.x0 id) [] (fun _ _ => none) 20000 false (slices_Equal_string_string.e0.mk' v) = slices_Equal_string_string.b0 m_ self v := by
  intro self v_; exact (match v_ with | (s1, s2, t, t1, ()) => by kernel_rfl)
noncomputable def slices_Equal_string_string.l0 (m_ : Mode) : (List (List Int)) × (List (List Int)) × Int × Int × Unit → Option ((Bool × Unit) ⊕ (Unit)) := loop m_ (slices_Equal_string_string.b0 m_)
theorem slices_Equal_string_string.q0 (v) : slices_Equal_string_string.l0 .lim v = slices_Equal_string_string.b0 .lim (slices_Equal_string_string.l0 .lim) v := lfp_eq (cont_of_run (slices_Equal_string_string.k0 .lim)) v
noncomputable def slices_Equal_string_string.g0 (m_ : Mode) : Seg := ⟨slices_Equal_string_string.e0, slices_Equal_string_string.x0, slices_Equal_string_string.l0 m_⟩
theorem slices_Equal_string_string.s0 (m_ : Mode) (S0 w0 cs0) : SegGood P S0 w0 cs0 35 (slices_Equal_string_string.g0 m_) := seg_loop m_ (oras_ok (slices_Equal_string_string.csok m_)) (all_nil) (by rfl) (fun e he => List.all_eq_true.1 (show slices_Equal_string_string.x0.all Spec.ok = true by rfl) e he) (slices_Equal_string_string.k0 m_)
noncomputable def slices_Equal_string_string.run (m_ : Mode) : (List (List Int)) × (List (List Int)) × Unit → Option (Bool) := fun v_ => match v_ with
| (s1, s2, ()) =>
  bif smallI (s1.length : Int) then
  bif smallI (s2.length : Int) then
  bif !(decide ((s1.length : Int) = (s2.length : Int))) then
    some false
  else
    bif smallI (s1.length : Int) then
    (slices_Equal_string_string.l0 m_ (s1, s2, (s1.length : Int), (0 : Int), ())).bind fun g_ => match g_ with
    | .inl (t, ()) =>
      some t
    | .inr (()) =>
      some true
    else none
  else none
  else none
noncomputable def slices_Equal_string_string.c (m_ : Mode) : Callee := ⟨35, [.one (.lst .str), .one (.lst .str)], .one (.sh (.one .bool)), slices_Equal_string_string.run m_⟩
theorem slices_Equal_string_string.k (m_ : Mode) : ∀ v : Shs (slices_Equal_string_string.c m_).args, runS P (oras (slices_Equal_string_string.cs m_)) slices_Equal_string_string.inl [] [slices_Equal_string_string.g0 m_] (slices_Equal_string_string.c m_).res.fin 20000 false (start 35 (encs (slices_Equal_string_string.c m_).args v)) = slices_Equal_string_string.run m_ v := by
  intro v_; exact (match v_ with | (s1, s2, ()) => by kernel_rfl)
theorem slices_Equal_string_string.ok (m_ : Mode) : (slices_Equal_string_string.c m_).OK P := Callee.of_run (fun S0 w0 => (oras_ok (slices_Equal_string_string.csok m_))) (by kernel_rfl) (by rfl) (fun S0 w0 cs0 => all_cons (slices_Equal_string_string.s0 m_ S0 w0 cs0) (all_nil)) (fun x r h => (slices_Equal_string_string.k m_ x).trans h)

/-! ### pendulum/ideal.alike -/
noncomputable def ideal_alike.cs (m_ : Mode) : List Callee := [slices_Equal_string_string.c m_]
theorem ideal_alike.csok (m_ : Mode) : ∀ k ∈ ideal_alike.cs m_, k.OK P := all_cons (slices_Equal_string_string.ok m_) (all_nil)
def ideal_alike.inl : FuncId → Bool := fun f => [].any (Nat.beq f)
noncomputable def ideal_alike.run (m_ : Mode) : (List Int × (List (List Int) × (List Int × List Int))) × (List Int × (List (List Int) × (List Int × List Int))) × Unit → Option (Bool) := fun v_ => match v_ with
| (a, b, ()) =>
  ((bif ((decide (a.1 = b.1)) && (decide (a.2.2.1 = b.2.2.1))) then slices_Equal_string_string.run m_ (a.2.1, b.2.1, ()) else some false)).bind fun r =>
  some (((decide (a.1 = b.1)) && (decide (a.2.2.1 = b.2.2.1))) && r)
noncomputable def ideal_alike.c (m_ : Mode) : Callee := ⟨22, [.ag (.pair .str (.pair (.lst .str) (.pair .str .str))), .ag (.pair .str (.pair (.lst .str) (.pair .str .str)))], .one (.sh (.one .bool)), ideal_alike.run m_⟩
theorem ideal_alike.k (m_ : Mode) : ∀ v : Shs (ideal_alike.c m_).args, runS P (oras (ideal_alike.cs m_)) ideal_alike.inl [] [] (ideal_alike.c m_).res.fin 20000 false (start 22 (encs (ideal_alike.c m_).args v)) = ideal_alike.run m_ v := by
  intro v_; exact (match v_ with | (a, b, ()) => by kernel_rfl)
theorem ideal_alike.ok (m_ : Mode) : (ideal_alike.c m_).OK P := Callee.of_run (fun S0 w0 => (oras_ok (ideal_alike.csok m_))) (by kernel_rfl) (by rfl) (fun S0 w0 cs0 => all_nil) (fun x r h => (ideal_alike.k m_ x).trans h)

/-! ### slices.Clone[[]string,string] -/
noncomputable def slices_Clone_string_string.cs (m_ : Mode) : List Callee := []
theorem slices_Clone_string_string.csok (m_ : Mode) : ∀ k ∈ slices_Clone_string_string.cs m_, k.OK P := all_nil
def slices_Clone_string_string.inl : FuncId → Bool := fun f => [].any (Nat.beq f)
noncomputable def slices_Clone_string_string.run (m_ : Mode) : (List (List Int)) × Unit → Option (List (List Int)) := fun v_ => match v_ with
| (s, ()) =>
  bif decide (([] : List (List Int)).length + s.length < 4398046511104) then some (([] : List (List Int)) ++ s) else none
noncomputable def slices_Clone_string_string.c (m_ : Mode) : Callee := ⟨90, [.one (.lst .str)], .one (.own .str), slices_Clone_string_string.run m_⟩
theorem slices_Clone_string_string.kn (m_ : Mode) : runS P (oras (slices_Clone_string_string.cs m_)) slices_Clone_string_string.inl [] [] (slices_Clone_string_string.c m_).res.fin 20000 false (start 90 [.nilSlc]) = (
  some ([] : List (List Int))) := by kernel_rfl
theorem slices_Clone_string_string.k (m_ : Mode) : ∀ xs : List (List Int), runS P (oras (slices_Clone_string_string.cs m_)) slices_Clone_string_string.inl [] [] (slices_Clone_string_string.c m_).res.fin 20000 false (start 90 [.nlst .str xs]) = slices_Clone_string_string.run m_ (xs, ()) := by
  intro xs; kernel_rfl
theorem slices_Clone_string_string.ok (m_ : Mode) : (slices_Clone_string_string.c m_).OK P := Callee.of_nil (fun S0 w0 => (oras_ok (slices_Clone_string_string.csok m_))) (by kernel_rfl) (by rfl) (fun S0 w0 cs0 => all_nil) (fun r h => (slices_Clone_string_string.kn m_).trans ((show (
  some ([] : List (List Int))) = slices_Clone_string_string.run m_ ([], ()) from by kernel_rfl).trans h)) (fun x r h => (slices_Clone_string_string.k m_ x).trans h)

/-! ### strings.Repeat -/
noncomputable def strings_Repeat.run (_ : Mode) : (List Int) × Int × Unit → Option (List Int) := repF
noncomputable def strings_Repeat.c (m_ : Mode) : Callee := ⟨33, [.one .str, .one (.int .i64)], .one (.sh (.one .str)), strings_Repeat.run m_⟩
theorem strings_Repeat.ok (m_ : Mode) : (strings_Repeat.c m_).OK P := repeat_ok (by kernel_rfl) fun s c w hc hl => Go.Proofs.Any.strings_Repeat Go.Proofs.Tryz.lays105 Go.Proofs.Tryz.Builder_Extra_105 s c w hc hl

/-! ### pendulum/ideal.number -/
noncomputable def ideal_number.cs (m_ : Mode) : List Callee := [strings_Repeat.c m_]
theorem ideal_number.csok (m_ : Mode) : ∀ k ∈ ideal_number.cs m_, k.OK P := all_cons (strings_Repeat.ok m_) (all_nil)
def ideal_number.inl : FuncId → Bool := fun f => [].any (Nat.beq f)
def ideal_number.e0 : Spec := ⟨[{ fn := 19, items := [.code [.r, .r, .l, .r, .l, .l], .inLoop [.r, .r, .l, .r, .l, .l], .inBlock 0, .code [.r, .r, .r]], slots := [(0, .dat (.int .i64)), (1, .dat .str), (5, .ptr 1 0), (7, .dat (.int .i64))] }], [(1, .cells false [.dat (.arr 16 (.int .u8))])], 2⟩
def ideal_number.x0 : List Spec := [⟨[{ fn := 19, items := [.code [.r, .r, .r]], slots := [(1, .dat .str), (5, .ptr 1 0)] }], [(1, .cells false [.dat (.arr 16 (.int .u8))])], 2⟩]
noncomputable def ideal_number.b0 (m_ : Mode) (self : Int × (List Int) × Int × (List Int) × Unit → Option (((List Int) × (List Int) × Unit))) : Int × (List Int) × Int × (List Int) × Unit → Option (((List Int) × (List Int) × Unit)) := fun v_ => match v_ with
| (n, plain, t, m, ()) =>
  bif decide (t < (8 : Int)) then
    bif decide ((0 : Int) ≤ (IntKind.i64.wrap ((8 : Int) * t))) then
    bif inB (IntKind.i64.wrap ((15 : Int) - t)) (16 : Int) then self (n, plain, (IntKind.i64.wrap (t + (1 : Int))), (m.set ((IntKind.i64.wrap ((15 : Int) - t)).toNat) (IntKind.u8.wrap (ishr .i64 n (IntKind.i64.wrap ((8 : Int) * t))))), ()) else none
    else none
  else
    some (plain, m, ())
theorem ideal_number.k0 (m_ : Mode) : ∀ (self : Known ideal_number.e0.sls → Option (Exits ideal_number.x0)) (v : Known ideal_number.e0.sls), runS P (oras (ideal_number.cs m_)) ideal_number.inl (⟨ideal_number.e0, self⟩ :: exitCuts ideal_number.x0 id) [] (fun _ _ => none) 20000 false (ideal_number.e0.mk' v) = ideal_number.b0 m_ self v := by
  intro self v_; exact (match v_ with | (n, plain, t, m, ()) => by kernel_rfl)
noncomputable def ideal_number.l0 (m_ : Mode) : Int × (List Int) × Int × (List Int) × Unit → Option (((List Int) × (List Int) × Unit)) := loop m_ (ideal_number.b0 m_)
theorem ideal_number.q0 (v) : ideal_number.l0 .lim v = ideal_number.b0 .lim (ideal_number.l0 .lim) v := lfp_eq (cont_of_run (ideal_number.k0 .lim)) v
noncomputable def ideal_number.g0 (m_ : Mode) : Seg := ⟨ideal_number.e0, ideal_number.x0, ideal_number.l0 m_⟩
theorem ideal_number.s0 (m_ : Mode) (S0 w0 cs0) : SegGood P S0 w0 cs0 19 (ideal_number.g0 m_) := seg_loop m_ (oras_ok (ideal_number.csok m_)) (all_nil) (by rfl) (fun e he => List.all_eq_true.1 (show ideal_number.x0.all Spec.ok = true by rfl) e he) (ideal_number.k0 m_)
noncomputable def ideal_number.run (m_ : Mode) : Int × (List Int) × Unit → Option (List Int) := fun v_ => match v_ with
| (n, plain, ()) =>
  (ideal_number.l0 m_ (n, plain, (0 : Int), (List.replicate 16 (0 : Int)), ())).bind fun (plain1, m, ()) =>
  bif smallI (plain1.length : Int) then
  (strings_Repeat.run m_ (([0] : List Int), (plain1.length : Int), ())).bind fun r =>
  bif decide (((m.drop 0).take 16).length + r.length ≤ maxStr) then some (((m.drop 0).take 16) ++ r) else none
  else none
noncomputable def ideal_number.c (m_ : Mode) : Callee := ⟨19, [.one (.int .i64), .one .str], .one (.sh (.one .str)), ideal_number.run m_⟩
theorem ideal_number.k (m_ : Mode) : ∀ v : Shs (ideal_number.c m_).args, runS P (oras (ideal_number.cs m_)) ideal_number.inl [] [ideal_number.g0 m_] (ideal_number.c m_).res.fin 20000 false (start 19 (encs (ideal_number.c m_).args v)) = ideal_number.run m_ v := by
  intro v_; exact (match v_ with | (n, plain, ()) => by kernel_rfl)
theorem ideal_number.ok (m_ : Mode) : (ideal_number.c m_).OK P := Callee.of_run (fun S0 w0 => (oras_ok (ideal_number.csok m_))) (by kernel_rfl) (by rfl) (fun S0 w0 cs0 => all_cons (ideal_number.s0 m_ S0 w0 cs0) (all_nil)) (fun x r h => (ideal_number.k m_ x).trans h)

/-! ### slices.Clone[[]pendulum/api.Kept,pendulum/api.Kept] -/
noncomputable def slices_Clone_api_Kept_api_Kept.cs (m_ : Mode) : List Callee := []
theorem slices_Clone_api_Kept_api_Kept.csok (m_ : Mode) : ∀ k ∈ slices_Clone_api_Kept_api_Kept.cs m_, k.OK P := all_nil
def slices_Clone_api_Kept_api_Kept.inl : FuncId → Bool := fun f => [].any (Nat.beq f)
noncomputable def slices_Clone_api_Kept_api_Kept.run (m_ : Mode) : (List (List Int × (List (List Int) × (List Int × List Int)))) × Unit → Option (List (List Int × (List (List Int) × (List Int × List Int)))) := fun v_ => match v_ with
| (s, ()) =>
  bif decide (([] : List (List Int × (List (List Int) × (List Int × List Int)))).length + s.length < 977343669134) then some (([] : List (List Int × (List (List Int) × (List Int × List Int)))) ++ s) else none
noncomputable def slices_Clone_api_Kept_api_Kept.c (m_ : Mode) : Callee := ⟨91, [.one (.lst (.pair .str (.pair (.lst .str) (.pair .str .str))))], .one (.own (.pair .str (.pair (.lst .str) (.pair .str .str)))), slices_Clone_api_Kept_api_Kept.run m_⟩
theorem slices_Clone_api_Kept_api_Kept.kn (m_ : Mode) : runS P (oras (slices_Clone_api_Kept_api_Kept.cs m_)) slices_Clone_api_Kept_api_Kept.inl [] [] (slices_Clone_api_Kept_api_Kept.c m_).res.fin 20000 false (start 91 [.nilSlc]) = (
  some ([] : List (List Int × (List (List Int) × (List Int × List Int))))) := by kernel_rfl
theorem slices_Clone_api_Kept_api_Kept.k (m_ : Mode) : ∀ xs : List (List Int × (List (List Int) × (List Int × List Int))), runS P (oras (slices_Clone_api_Kept_api_Kept.cs m_)) slices_Clone_api_Kept_api_Kept.inl [] [] (slices_Clone_api_Kept_api_Kept.c m_).res.fin 20000 false (start 91 [.nlst (.pair .str (.pair (.lst .str) (.pair .str .str))) xs]) = slices_Clone_api_Kept_api_Kept.run m_ (xs, ()) := by
  intro xs; kernel_rfl
theorem slices_Clone_api_Kept_api_Kept.ok (m_ : Mode) : (slices_Clone_api_Kept_api_Kept.c m_).OK P := Callee.of_nil (fun S0 w0 => (oras_ok (slices_Clone_api_Kept_api_Kept.csok m_))) (by kernel_rfl) (by rfl) (fun S0 w0 cs0 => all_nil) (fun r h => (slices_Clone_api_Kept_api_Kept.kn m_).trans ((show (
  some ([] : List (List Int × (List (List Int) × (List Int × List Int))))) = slices_Clone_api_Kept_api_Kept.run m_ ([], ()) from by kernel_rfl).trans h)) (fun x r h => (slices_Clone_api_Kept_api_Kept.k m_ x).trans h)

/-! ### pendulum/siv.zeros -/
noncomputable def siv_zeros.cs (m_ : Mode) : List Callee := [strings_Repeat.c m_]
theorem siv_zeros.csok (m_ : Mode) : ∀ k ∈ siv_zeros.cs m_, k.OK P := all_cons (strings_Repeat.ok m_) (all_nil)
def siv_zeros.inl : FuncId → Bool := fun f => [].any (Nat.beq f)
noncomputable def siv_zeros.run (m_ : Mode) : Int × Unit → Option (List Int) := fun v_ => match v_ with
| (n, ()) =>
  (strings_Repeat.run m_ (([0] : List Int), n, ())).bind fun r =>
  some r
noncomputable def siv_zeros.c (m_ : Mode) : Callee := ⟨100, [.one (.int .i64)], .one (.sh (.one .str)), siv_zeros.run m_⟩
theorem siv_zeros.k (m_ : Mode) : ∀ v : Shs (siv_zeros.c m_).args, runS P (oras (siv_zeros.cs m_)) siv_zeros.inl [] [] (siv_zeros.c m_).res.fin 20000 false (start 100 (encs (siv_zeros.c m_).args v)) = siv_zeros.run m_ v := by
  intro v_; exact (match v_ with | (n, ()) => by kernel_rfl)
theorem siv_zeros.ok (m_ : Mode) : (siv_zeros.c m_).OK P := Callee.of_run (fun S0 w0 => (oras_ok (siv_zeros.csok m_))) (by kernel_rfl) (by rfl) (fun S0 w0 cs0 => all_nil) (fun x r h => (siv_zeros.k m_ x).trans h)

/-! ### pendulum/aes.Encrypt -/
-- not told: no body: sync/atomic.LoadUint32 [F124 (('inRegion', 'rl', 3),)]
noncomputable def aes_Encrypt.cs (m_ : Mode) : List Callee := []
theorem aes_Encrypt.csok (m_ : Mode) : ∀ k ∈ aes_Encrypt.cs m_, k.OK P := all_nil
def aes_Encrypt.inl : FuncId → Bool := fun f => [106, 107, 110, 118, 124, 131].any (Nat.beq f)
noncomputable def aes_Encrypt.run (m_ : Mode) : (List Int) × (List Int) × Unit → Option ((List Int) × Int × Unit) := fun v_ => match v_ with
| (key, s, ()) =>
  bif smallI (key.length : Int) then
  bif ((!(!(decide ((key.length : Int) = (16 : Int))))) || (smallI (key.length : Int))) then
  bif ((!(decide ((key.length : Int) = (16 : Int)))) && (!(decide ((key.length : Int) = (32 : Int))))) then
    some (([] : List Int), (13 : Int), ())
  else
    bif smallI (s.length : Int) then
    bif !(decide ((s.length : Int) = (16 : Int))) then
      some (([] : List Int), (10 : Int), ())
    else
      bif (Nat.ble 1 16 && Nat.ble 16 s.length) then none else none
    else none
  else none
  else none
noncomputable def aes_Encrypt.c (m_ : Mode) : Callee := ⟨105, [.one .str, .one .str], .tup [.sh (.one .str), .sh (.one (.int .i64))], aes_Encrypt.run m_⟩
theorem aes_Encrypt.k (m_ : Mode) : ∀ v : Shs (aes_Encrypt.c m_).args, runS P (oras (aes_Encrypt.cs m_)) aes_Encrypt.inl [] [] (aes_Encrypt.c m_).res.fin 20000 false (start 105 (encs (aes_Encrypt.c m_).args v)) = aes_Encrypt.run m_ v := by
  intro v_; exact (match v_ with | (key, s, ()) => by kernel_rfl)
theorem aes_Encrypt.ok (m_ : Mode) : (aes_Encrypt.c m_).OK P := Callee.of_run (fun S0 w0 => (oras_ok (aes_Encrypt.csok m_))) (by kernel_rfl) (by rfl) (fun S0 w0 cs0 => all_nil) (fun x r h => (aes_Encrypt.k m_ x).trans h)

/-! ### pendulum/siv.Twice -/
noncomputable def siv_Twice.cs (m_ : Mode) : List Callee := []
theorem siv_Twice.csok (m_ : Mode) : ∀ k ∈ siv_Twice.cs m_, k.OK P := all_nil
def siv_Twice.inl : FuncId → Bool := fun f => [117].any (Nat.beq f)
def siv_Twice.e0 : Spec := ⟨[{ fn := 123, items := [.code [.r, .l, .l], .inLoop [.r, .l, .l], .inBlock 0], slots := [(0, .fn (.yield 17) []), (1, .ptr 12 0), (3, .dat (.int .i64))] }, { fn := 109, items := [.inRange 17, .inBlock 0, .code [.r, .r, .r, .r]], slots := [(4, .ptr 7 0), (5, .ptr 8 0)], marks := [16] }], [(6, .cells false [.row (.int .u8)]), (7, .cells false [.own 6 (.int .u8)]), (8, .cells false [.dat (.int .u8)]), (12, .cells false [.own 6 (.int .u8)]), (16, .deferred false), (17, .loop .ready none 109 [(4, .ptr 7 0), (5, .ptr 8 0)] [15, 16] [.r, .r, .r, .l, .r, .l] 16)], 18⟩
def siv_Twice.x0 : List Spec := [⟨[{ fn := 123, items := [], slots := [] }, { fn := 109, items := [.inRange 17, .inBlock 0, .code [.r, .r, .r, .r]], slots := [(4, .ptr 7 0), (5, .ptr 8 0)], marks := [16] }], [(6, .cells false [.row (.int .u8)]), (7, .cells false [.own 6 (.int .u8)]), (8, .cells false [.dat (.int .u8)]), (16, .deferred false), (17, .loop .ready none 109 [(4, .ptr 7 0), (5, .ptr 8 0)] [15, 16] [.r, .r, .r, .l, .r, .l] 16)], 18⟩]
noncomputable def siv_Twice.b0 (m_ : Mode) (self : Int × (List Int) × Int × Unit → Option (((List Int) × Int × Unit))) : Int × (List Int) × Int × Unit → Option (((List Int) × Int × Unit)) := fun v_ => match v_ with
| (i, m, m1, ()) =>
  bif decide (i ≥ (0 : Int)) then
    bif inB i (m.length : Int) then
    bif inB i (m.length : Int) then self ((IntKind.i64.wrap (i - (1 : Int))), (m.set i.toNat (ior .u8 (ishl .u8 (rd (0 : Int) m i) (1 : Int)) m1)), (ishr .u8 (rd (0 : Int) m i) (7 : Int)), ()) else none
    else none
  else
    some (m, m1, ())
theorem siv_Twice.k0 (m_ : Mode) : ∀ (self : Known siv_Twice.e0.sls → Option (Exits siv_Twice.x0)) (v : Known siv_Twice.e0.sls), runS P (oras (siv_Twice.cs m_)) siv_Twice.inl (⟨siv_Twice.e0, self⟩ :: exitCuts siv_Twice.x0 id) [] (fun _ _ => none) 20000 false (siv_Twice.e0.mk' v) = siv_Twice.b0 m_ self v := by
  intro self v_; exact (match v_ with | (i, m, m1, ()) => by kernel_rfl)
noncomputable def siv_Twice.l0 (m_ : Mode) : Int × (List Int) × Int × Unit → Option (((List Int) × Int × Unit)) := loop m_ (siv_Twice.b0 m_)
theorem siv_Twice.q0 (v) : siv_Twice.l0 .lim v = siv_Twice.b0 .lim (siv_Twice.l0 .lim) v := lfp_eq (cont_of_run (siv_Twice.k0 .lim)) v
noncomputable def siv_Twice.g0 (m_ : Mode) : Seg := ⟨siv_Twice.e0, siv_Twice.x0, siv_Twice.l0 m_⟩
theorem siv_Twice.s0 (m_ : Mode) (S0 w0 cs0) : SegGood P S0 w0 cs0 109 (siv_Twice.g0 m_) := seg_loop m_ (oras_ok (siv_Twice.csok m_)) (all_nil) (by rfl) (fun e he => List.all_eq_true.1 (show siv_Twice.x0.all Spec.ok = true by rfl) e he) (siv_Twice.k0 m_)
noncomputable def siv_Twice.run (m_ : Mode) : (List Int) × Unit → Option ((List Int) × Int × Unit) := fun v_ => match v_ with
| (b, ()) =>
  bif smallI (b.length : Int) then
  bif !(decide ((b.length : Int) = (16 : Int))) then
    some (([] : List Int), (10 : Int), ())
  else
    bif smallI (b.length : Int) then
    (siv_Twice.l0 m_ ((IntKind.i64.wrap ((b.length : Int) - (1 : Int))), b, (0 : Int), ())).bind fun (m, m1, ()) =>
    bif inB (15 : Int) (m.length : Int) then
    bif inB (15 : Int) (m.length : Int) then some ((m.set 15 (ixor .u8 (rd (0 : Int) m (15 : Int)) (IntKind.u8.wrap (m1 * (135 : Int))))), (0 : Int), ()) else none
    else none
    else none
  else none
noncomputable def siv_Twice.c (m_ : Mode) : Callee := ⟨109, [.one .str], .tup [.sh (.one .str), .sh (.one (.int .i64))], siv_Twice.run m_⟩
theorem siv_Twice.k (m_ : Mode) : ∀ v : Shs (siv_Twice.c m_).args, runS P (oras (siv_Twice.cs m_)) siv_Twice.inl [] [siv_Twice.g0 m_] (siv_Twice.c m_).res.fin 20000 false (start 109 (encs (siv_Twice.c m_).args v)) = siv_Twice.run m_ v := by
  intro v_; exact (match v_ with | (b, ()) => by kernel_rfl)
theorem siv_Twice.ok (m_ : Mode) : (siv_Twice.c m_).OK P := Callee.of_run (fun S0 w0 => (oras_ok (siv_Twice.csok m_))) (by kernel_rfl) (by rfl) (fun S0 w0 cs0 => all_cons (siv_Twice.s0 m_ S0 w0 cs0) (all_nil)) (fun x r h => (siv_Twice.k m_ x).trans h)

/-! ### pendulum/siv.twice -/
noncomputable def siv_twice.cs (m_ : Mode) : List Callee := [siv_Twice.c m_]
theorem siv_twice.csok (m_ : Mode) : ∀ k ∈ siv_twice.cs m_, k.OK P := all_cons (siv_Twice.ok m_) (all_nil)
def siv_twice.inl : FuncId → Bool := fun f => [].any (Nat.beq f)
noncomputable def siv_twice.run (m_ : Mode) : (List Int) × Unit → Option (List Int) := fun v_ => match v_ with
| (b, ()) =>
  (siv_Twice.run m_ (b, ())).bind fun (r, r1, ()) =>
  some r
noncomputable def siv_twice.c (m_ : Mode) : Callee := ⟨104, [.one .str], .one (.sh (.one .str)), siv_twice.run m_⟩
theorem siv_twice.k (m_ : Mode) : ∀ v : Shs (siv_twice.c m_).args, runS P (oras (siv_twice.cs m_)) siv_twice.inl [] [] (siv_twice.c m_).res.fin 20000 false (start 104 (encs (siv_twice.c m_).args v)) = siv_twice.run m_ v := by
  intro v_; exact (match v_ with | (b, ()) => by kernel_rfl)
theorem siv_twice.ok (m_ : Mode) : (siv_twice.c m_).OK P := Callee.of_run (fun S0 w0 => (oras_ok (siv_twice.csok m_))) (by kernel_rfl) (by rfl) (fun S0 w0 cs0 => all_nil) (fun x r h => (siv_twice.k m_ x).trans h)

/-! ### pendulum/siv.begin -/
noncomputable def siv_begin.cs (m_ : Mode) : List Callee := [siv_zeros.c m_, siv_twice.c m_, aes_Encrypt.c m_]
theorem siv_begin.csok (m_ : Mode) : ∀ k ∈ siv_begin.cs m_, k.OK P := all_cons (siv_zeros.ok m_) (all_cons (siv_twice.ok m_) (all_cons (aes_Encrypt.ok m_) (all_nil)))
def siv_begin.inl : FuncId → Bool := fun f => [].any (Nat.beq f)
noncomputable def siv_begin.run (m_ : Mode) : (List Int) × Unit → Option ((List Int × (List Int × List Int)) × Int × Unit) := fun v_ => match v_ with
| (key, ()) =>
  (siv_zeros.run m_ ((16 : Int), ())).bind fun r =>
  (aes_Encrypt.run m_ (key, r, ())).bind fun (r1, r2, ()) =>
  bif !(decide (r2 = (0 : Int))) then
    some ((([] : List Int), (([] : List Int), ([] : List Int))), (13 : Int), ())
  else
    (siv_twice.run m_ (r1, ())).bind fun r3 =>
    (siv_twice.run m_ (r3, ())).bind fun r4 =>
    some ((key, (r3, r4)), (0 : Int), ())
noncomputable def siv_begin.c (m_ : Mode) : Callee := ⟨101, [.one .str], .tup [.sh (.ag (.pair .str (.pair .str .str))), .sh (.one (.int .i64))], siv_begin.run m_⟩
theorem siv_begin.k (m_ : Mode) : ∀ v : Shs (siv_begin.c m_).args, runS P (oras (siv_begin.cs m_)) siv_begin.inl [] [] (siv_begin.c m_).res.fin 20000 false (start 101 (encs (siv_begin.c m_).args v)) = siv_begin.run m_ v := by
  intro v_; exact (match v_ with | (key, ()) => by kernel_rfl)
theorem siv_begin.ok (m_ : Mode) : (siv_begin.c m_).OK P := Callee.of_run (fun S0 w0 => (oras_ok (siv_begin.csok m_))) (by kernel_rfl) (by rfl) (fun S0 w0 cs0 => all_nil) (fun x r h => (siv_begin.k m_ x).trans h)

/-! ### pendulum/siv.halves -/
noncomputable def siv_halves.cs (m_ : Mode) : List Callee := [siv_begin.c m_]
theorem siv_halves.csok (m_ : Mode) : ∀ k ∈ siv_halves.cs m_, k.OK P := all_cons (siv_begin.ok m_) (all_nil)
def siv_halves.inl : FuncId → Bool := fun f => [].any (Nat.beq f)
noncomputable def siv_halves.run (m_ : Mode) : (List Int) × (List (List Int)) × Unit → Option ((List Int × (List Int × List Int)) × (List Int) × Int × Unit) := fun v_ => match v_ with
| (key, ad, ()) =>
  bif smallI (key.length : Int) then
  bif ((!(!(decide ((key.length : Int) = (32 : Int))))) || (smallI (key.length : Int))) then
  bif ((!(decide ((key.length : Int) = (32 : Int)))) && (!(decide ((key.length : Int) = (64 : Int))))) then
    some ((([] : List Int), (([] : List Int), ([] : List Int))), ([] : List Int), (13 : Int), ())
  else
    bif smallI (ad.length : Int) then
    bif decide ((ad.length : Int) ≥ (127 : Int)) then
      some ((([] : List Int), (([] : List Int), ([] : List Int))), ([] : List Int), (18 : Int), ())
    else
      bif smallI (key.length : Int) then
      bif cutB (0 : Int) (IntKind.i64.wrap ((key.length : Int).tdiv (2 : Int))) (key.length : Int) then
      (siv_begin.run m_ ((cut key (0 : Int) (IntKind.i64.wrap ((key.length : Int).tdiv (2 : Int)))), ())).bind fun (r, r1, ()) =>
      bif smallI (key.length : Int) then
      bif cutB (IntKind.i64.wrap ((key.length : Int).tdiv (2 : Int))) (key.length : Int) (key.length : Int) then some (r, (cut key (IntKind.i64.wrap ((key.length : Int).tdiv (2 : Int))) (key.length : Int)), r1, ()) else none
      else none
      else none
      else none
    else none
  else none
  else none
noncomputable def siv_halves.c (m_ : Mode) : Callee := ⟨96, [.one .str, .one (.lst .str)], .tup [.sh (.ag (.pair .str (.pair .str .str))), .sh (.one .str), .sh (.one (.int .i64))], siv_halves.run m_⟩
theorem siv_halves.k (m_ : Mode) : ∀ v : Shs (siv_halves.c m_).args, runS P (oras (siv_halves.cs m_)) siv_halves.inl [] [] (siv_halves.c m_).res.fin 20000 false (start 96 (encs (siv_halves.c m_).args v)) = siv_halves.run m_ v := by
  intro v_; exact (match v_ with | (key, ad, ()) => by kernel_rfl)
theorem siv_halves.ok (m_ : Mode) : (siv_halves.c m_).OK P := Callee.of_run (fun S0 w0 => (oras_ok (siv_halves.csok m_))) (by kernel_rfl) (by rfl) (fun S0 w0 cs0 => all_nil) (fun x r h => (siv_halves.k m_ x).trans h)

/-! ### pendulum/siv.xor -/
noncomputable def siv_xor.cs (m_ : Mode) : List Callee := []
theorem siv_xor.csok (m_ : Mode) : ∀ k ∈ siv_xor.cs m_, k.OK P := all_nil
def siv_xor.inl : FuncId → Bool := fun f => [].any (Nat.beq f)
def siv_xor.e0 : Spec := ⟨[{ fn := 98, items := [.code [.r, .r, .l, .r, .l, .l], .inLoop [.r, .r, .l, .r, .l, .l], .inBlock 0, .code [.r, .r, .r]], slots := [(1, .dat .str), (5, .own 2 (.int .u8)), (10, .dat (.int .i64)), (11, .dat (.int .i64))] }], [(2, .cells false [.row (.int .u8)])], 3⟩
def siv_xor.x0 : List Spec := [⟨[{ fn := 98, items := [.code [.r, .r, .r]], slots := [(5, .own 2 (.int .u8))] }], [(2, .cells false [.row (.int .u8)])], 3⟩]
noncomputable def siv_xor.b0 (m_ : Mode) (self : (List Int) × Int × Int × (List Int) × Unit → Option (((List Int) × Unit))) : (List Int) × Int × Int × (List Int) × Unit → Option (((List Int) × Unit)) := fun v_ => match v_ with
| (b, t, t1, m, ()) =>
  bif decide (t1 < t) then
    bif inB t1 (m.length : Int) then
    bif inB t1 (b.length : Int) then
    bif inB t1 (m.length : Int) then self (b, t, (IntKind.i64.wrap (t1 + (1 : Int))), (m.set t1.toNat (ixor .u8 (rd (0 : Int) m t1) (rd (0 : Int) b t1))), ()) else none
    else none
    else none
  else
    some (m, ())
theorem siv_xor.k0 (m_ : Mode) : ∀ (self : Known siv_xor.e0.sls → Option (Exits siv_xor.x0)) (v : Known siv_xor.e0.sls), runS P (oras (siv_xor.cs m_)) siv_xor.inl (⟨siv_xor.e0, self⟩ :: exitCuts siv_xor.x0 id) [] (fun _ _ => none) 20000 false (siv_xor.e0.mk' v) = siv_xor.b0 m_ self v := by
  intro self v_; exact (match v_ with | (b, t, t1, m, ()) => by kernel_rfl)
noncomputable def siv_xor.l0 (m_ : Mode) : (List Int) × Int × Int × (List Int) × Unit → Option (((List Int) × Unit)) := loop m_ (siv_xor.b0 m_)
theorem siv_xor.q0 (v) : siv_xor.l0 .lim v = siv_xor.b0 .lim (siv_xor.l0 .lim) v := lfp_eq (cont_of_run (siv_xor.k0 .lim)) v
noncomputable def siv_xor.g0 (m_ : Mode) : Seg := ⟨siv_xor.e0, siv_xor.x0, siv_xor.l0 m_⟩
theorem siv_xor.s0 (m_ : Mode) (S0 w0 cs0) : SegGood P S0 w0 cs0 98 (siv_xor.g0 m_) := seg_loop m_ (oras_ok (siv_xor.csok m_)) (all_nil) (by rfl) (fun e he => List.all_eq_true.1 (show siv_xor.x0.all Spec.ok = true by rfl) e he) (siv_xor.k0 m_)
noncomputable def siv_xor.run (m_ : Mode) : (List Int) × (List Int) × Unit → Option (List Int) := fun v_ => match v_ with
| (a, b, ()) =>
  bif smallI (a.length : Int) then
  (siv_xor.l0 m_ (b, (a.length : Int), (0 : Int), a, ())).bind fun (m, ()) =>
  some m
  else none
noncomputable def siv_xor.c (m_ : Mode) : Callee := ⟨98, [.one .str, .one .str], .one (.sh (.one .str)), siv_xor.run m_⟩
theorem siv_xor.k (m_ : Mode) : ∀ v : Shs (siv_xor.c m_).args, runS P (oras (siv_xor.cs m_)) siv_xor.inl [] [siv_xor.g0 m_] (siv_xor.c m_).res.fin 20000 false (start 98 (encs (siv_xor.c m_).args v)) = siv_xor.run m_ v := by
  intro v_; exact (match v_ with | (a, b, ()) => by kernel_rfl)
theorem siv_xor.ok (m_ : Mode) : (siv_xor.c m_).OK P := Callee.of_run (fun S0 w0 => (oras_ok (siv_xor.csok m_))) (by kernel_rfl) (by rfl) (fun S0 w0 cs0 => all_cons (siv_xor.s0 m_ S0 w0 cs0) (all_nil)) (fun x r h => (siv_xor.k m_ x).trans h)

/-! ### (pendulum/siv.maker) .tag -/
noncomputable def siv_maker_tag.cs (m_ : Mode) : List Callee := [siv_xor.c m_, siv_zeros.c m_, aes_Encrypt.c m_]
theorem siv_maker_tag.csok (m_ : Mode) : ∀ k ∈ siv_maker_tag.cs m_, k.OK P := all_cons (siv_xor.ok m_) (all_cons (siv_zeros.ok m_) (all_cons (aes_Encrypt.ok m_) (all_nil)))
def siv_maker_tag.inl : FuncId → Bool := fun f => [108].any (Nat.beq f)
def siv_maker_tag.e0 : Spec := ⟨[{ fn := 116, items := [.code [.l, .l, .l], .inLoop [.l, .l, .l], .inBlock 0, .code [.r]], slots := [(0, .fn (.yield 13) []), (1, .ptr 8 0), (2, .ptr 7 0)] }, { fn := 103, items := [.inRange 13, .inBlock 0, .code [.r, .r, .r]], slots := [(5, .ptr 3 0)], marks := [12] }], [(0, .cells false [.dat .str, .dat .str, .dat .str]), (3, .cells false [.dat .str]), (7, .cells false [.dat .str, .dat .str, .dat .str]), (8, .cells false [.dat .str]), (12, .deferred false), (13, .loop .ready none 103 [(2, .ptr 0 0), (5, .ptr 3 0)] [11] [.r, .r, .l, .r, .l] 12)], 14⟩
def siv_maker_tag.x0 : List Spec := [⟨[{ fn := 116, items := [.code [.r]], slots := [(0, .fn (.yield 13) []), (1, .ptr 8 0), (2, .ptr 7 0)] }, { fn := 103, items := [.inRange 13, .inBlock 0, .code [.r, .r, .r]], slots := [(5, .ptr 3 0)], marks := [12] }], [(0, .cells false [.dat .str, .dat .str, .dat .str]), (3, .cells false [.dat .str]), (7, .cells false [.dat .str, .dat .str, .dat .str]), (8, .cells false [.dat .str]), (12, .deferred false), (13, .loop .ready none 103 [(2, .ptr 0 0), (5, .ptr 3 0)] [11] [.r, .r, .l, .r, .l] 12)], 14⟩]
noncomputable def siv_maker_tag.b0 (m_ : Mode) (self : (List Int) × (List Int) × (List Int) × (List Int) × (List Int) × (List Int) × (List Int) × (List Int) × Unit → Option (((List Int) × (List Int) × (List Int) × (List Int) × (List Int) × (List Int) × (List Int) × (List Int) × Unit))) : (List Int) × (List Int) × (List Int) × (List Int) × (List Int) × (List Int) × (List Int) × (List Int) × Unit → Option (((List Int) × (List Int) × (List Int) × (List Int) × (List Int) × (List Int) × (List Int) × (List Int) × Unit)) := fun v_ => match v_ with
| (m, m1, m2, m3, m4, m5, m6, m7, ()) =>
  bif smallI (m7.length : Int) then
  bif decide ((m7.length : Int) > (16 : Int)) then
    bif cutB (0 : Int) (16 : Int) (m7.length : Int) then
    (siv_xor.run m_ (m3, (cut m7 (0 : Int) (16 : Int)), ())).bind fun r =>
    (aes_Encrypt.run m_ (m, r, ())).bind fun (r1, r2, ()) =>
    bif cutB (16 : Int) (m7.length : Int) (m7.length : Int) then self (m, m1, m2, r1, m4, m5, m6, (cut m7 (16 : Int) (m7.length : Int)), ()) else none
    else none
  else
    some (m, m1, m2, m3, m4, m5, m6, m7, ())
  else none
theorem siv_maker_tag.k0 (m_ : Mode) : ∀ (self : Known siv_maker_tag.e0.sls → Option (Exits siv_maker_tag.x0)) (v : Known siv_maker_tag.e0.sls), runS P (oras (siv_maker_tag.cs m_)) siv_maker_tag.inl (⟨siv_maker_tag.e0, self⟩ :: exitCuts siv_maker_tag.x0 id) [] (fun _ _ => none) 20000 false (siv_maker_tag.e0.mk' v) = siv_maker_tag.b0 m_ self v := by
  intro self v_; exact (match v_ with | (m, m1, m2, m3, m4, m5, m6, m7, ()) => by kernel_rfl)
noncomputable def siv_maker_tag.l0 (m_ : Mode) : (List Int) × (List Int) × (List Int) × (List Int) × (List Int) × (List Int) × (List Int) × (List Int) × Unit → Option (((List Int) × (List Int) × (List Int) × (List Int) × (List Int) × (List Int) × (List Int) × (List Int) × Unit)) := loop m_ (siv_maker_tag.b0 m_)
theorem siv_maker_tag.q0 (v) : siv_maker_tag.l0 .lim v = siv_maker_tag.b0 .lim (siv_maker_tag.l0 .lim) v := lfp_eq (cont_of_run (siv_maker_tag.k0 .lim)) v
noncomputable def siv_maker_tag.g0 (m_ : Mode) : Seg := ⟨siv_maker_tag.e0, siv_maker_tag.x0, siv_maker_tag.l0 m_⟩
theorem siv_maker_tag.s0 (m_ : Mode) (S0 w0 cs0) : SegGood P S0 w0 cs0 103 (siv_maker_tag.g0 m_) := seg_loop m_ (oras_ok (siv_maker_tag.csok m_)) (all_nil) (by rfl) (fun e he => List.all_eq_true.1 (show siv_maker_tag.x0.all Spec.ok = true by rfl) e he) (siv_maker_tag.k0 m_)
noncomputable def siv_maker_tag.run (m_ : Mode) : (List Int × (List Int × List Int)) × (List Int) × Unit → Option (List Int) := fun v_ => match v_ with
| (m, s, ()) =>
  (siv_zeros.run m_ ((16 : Int), ())).bind fun r =>
  (siv_maker_tag.l0 m_ (m.1, m.2.1, m.2.2, r, m.1, m.2.1, m.2.2, s, ())).bind fun (m1, m2, m3, m4, m5, m6, m7, m8, ()) =>
  bif smallI (m8.length : Int) then
  bif decide ((m8.length : Int) = (16 : Int)) then
    (siv_xor.run m_ (m8, m6, ())).bind fun r1 =>
    (siv_xor.run m_ (m4, r1, ())).bind fun r2 =>
    (aes_Encrypt.run m_ (m1, r2, ())).bind fun (r3, r4, ()) =>
    some r3
  else
    bif decide (m8.length + ([128] : List Int).length ≤ maxStr) then
    bif smallI (m8.length : Int) then
    (siv_zeros.run m_ ((IntKind.i64.wrap ((15 : Int) - (m8.length : Int))), ())).bind fun r5 =>
    bif decide ((m8 ++ ([128] : List Int)).length + r5.length ≤ maxStr) then
    (siv_xor.run m_ (((m8 ++ ([128] : List Int)) ++ r5), m7, ())).bind fun r6 =>
    (siv_xor.run m_ (m4, r6, ())).bind fun r7 =>
    (aes_Encrypt.run m_ (m1, r7, ())).bind fun (r8, r9, ()) =>
    some r8
    else none
    else none
    else none
  else none
noncomputable def siv_maker_tag.c (m_ : Mode) : Callee := ⟨103, [.ag (.pair .str (.pair .str .str)), .one .str], .one (.sh (.one .str)), siv_maker_tag.run m_⟩
theorem siv_maker_tag.k (m_ : Mode) : ∀ v : Shs (siv_maker_tag.c m_).args, runS P (oras (siv_maker_tag.cs m_)) siv_maker_tag.inl [] [siv_maker_tag.g0 m_] (siv_maker_tag.c m_).res.fin 20000 false (start 103 (encs (siv_maker_tag.c m_).args v)) = siv_maker_tag.run m_ v := by
  intro v_; exact (match v_ with | (m, s, ()) => by kernel_rfl)
theorem siv_maker_tag.ok (m_ : Mode) : (siv_maker_tag.c m_).OK P := Callee.of_run (fun S0 w0 => (oras_ok (siv_maker_tag.csok m_))) (by kernel_rfl) (by rfl) (fun S0 w0 cs0 => all_cons (siv_maker_tag.s0 m_ S0 w0 cs0) (all_nil)) (fun x r h => (siv_maker_tag.k m_ x).trans h)

/-! ### (pendulum/siv.maker) .row -/
noncomputable def siv_maker_row.cs (m_ : Mode) : List Callee := [siv_xor.c m_, siv_zeros.c m_, siv_maker_tag.c m_, siv_twice.c m_]
theorem siv_maker_row.csok (m_ : Mode) : ∀ k ∈ siv_maker_row.cs m_, k.OK P := all_cons (siv_xor.ok m_) (all_cons (siv_zeros.ok m_) (all_cons (siv_maker_tag.ok m_) (all_cons (siv_twice.ok m_) (all_nil))))
def siv_maker_row.inl : FuncId → Bool := fun f => [].any (Nat.beq f)
def siv_maker_row.e0 : Spec := ⟨[{ fn := 99, items := [.code [.r, .r, .r, .r, .l, .r, .l, .l], .inLoop [.r, .r, .r, .r, .l, .r, .l, .l], .inBlock 0, .code [.r, .r, .r, .r, .r]], slots := [(2, .ptr 0 0), (5, .dat .str), (6, .dat .str), (30, .dat (.lst .str)), (31, .dat (.int .i64)), (32, .dat (.int .i64))] }], [(0, .cells false [.dat .str, .dat .str, .dat .str])], 1⟩
def siv_maker_row.x0 : List Spec := [⟨[{ fn := 99, items := [.code [.r, .r, .r, .r, .r]], slots := [(2, .ptr 0 0), (5, .dat .str), (6, .dat .str)] }], [(0, .cells false [.dat .str, .dat .str, .dat .str])], 1⟩]
noncomputable def siv_maker_row.b0 (m_ : Mode) (self : (List Int) × (List Int) × (List (List Int)) × Int × Int × (List Int) × (List Int) × (List Int) × Unit → Option (((List Int) × (List Int) × (List Int) × (List Int) × (List Int) × Unit))) : (List Int) × (List Int) × (List (List Int)) × Int × Int × (List Int) × (List Int) × (List Int) × Unit → Option (((List Int) × (List Int) × (List Int) × (List Int) × (List Int) × Unit)) := fun v_ => match v_ with
| (d, s, t, t1, t2, m, m1, m2, ()) =>
  bif decide (t2 < t1) then
    bif inB t2 (t.length : Int) then
    (siv_twice.run m_ (d, ())).bind fun r =>
    (siv_maker_tag.run m_ ((m, (m1, m2)), (rd ([] : List Int) t t2), ())).bind fun r1 =>
    (siv_xor.run m_ (r, r1, ())).bind fun r2 =>
    self (r2, s, t, t1, (IntKind.i64.wrap (t2 + (1 : Int))), m, m1, m2, ())
    else none
  else
    some (d, s, m, m1, m2, ())
theorem siv_maker_row.k0 (m_ : Mode) : ∀ (self : Known siv_maker_row.e0.sls → Option (Exits siv_maker_row.x0)) (v : Known siv_maker_row.e0.sls), runS P (oras (siv_maker_row.cs m_)) siv_maker_row.inl (⟨siv_maker_row.e0, self⟩ :: exitCuts siv_maker_row.x0 id) [] (fun _ _ => none) 20000 false (siv_maker_row.e0.mk' v) = siv_maker_row.b0 m_ self v := by
  intro self v_; exact (match v_ with | (d, s, t, t1, t2, m, m1, m2, ()) => by kernel_rfl)
noncomputable def siv_maker_row.l0 (m_ : Mode) : (List Int) × (List Int) × (List (List Int)) × Int × Int × (List Int) × (List Int) × (List Int) × Unit → Option (((List Int) × (List Int) × (List Int) × (List Int) × (List Int) × Unit)) := loop m_ (siv_maker_row.b0 m_)
theorem siv_maker_row.q0 (v) : siv_maker_row.l0 .lim v = siv_maker_row.b0 .lim (siv_maker_row.l0 .lim) v := lfp_eq (cont_of_run (siv_maker_row.k0 .lim)) v
noncomputable def siv_maker_row.g0 (m_ : Mode) : Seg := ⟨siv_maker_row.e0, siv_maker_row.x0, siv_maker_row.l0 m_⟩
theorem siv_maker_row.s0 (m_ : Mode) (S0 w0 cs0) : SegGood P S0 w0 cs0 99 (siv_maker_row.g0 m_) := seg_loop m_ (oras_ok (siv_maker_row.csok m_)) (all_nil) (by rfl) (fun e he => List.all_eq_true.1 (show siv_maker_row.x0.all Spec.ok = true by rfl) e he) (siv_maker_row.k0 m_)
noncomputable def siv_maker_row.run (m_ : Mode) : (List Int × (List Int × List Int)) × (List (List Int)) × Unit → Option (List Int) := fun v_ => match v_ with
| (m, l, ()) =>
  bif smallI (l.length : Int) then
  bif decide ((l.length : Int) = (0 : Int)) then
    (siv_zeros.run m_ ((15 : Int), ())).bind fun r =>
    bif decide (r.length + ([1] : List Int).length ≤ maxStr) then
    (siv_maker_tag.run m_ (m, (r ++ ([1] : List Int)), ())).bind fun r1 =>
    some r1
    else none
  else
    (siv_zeros.run m_ ((16 : Int), ())).bind fun r2 =>
    (siv_maker_tag.run m_ (m, r2, ())).bind fun r3 =>
    bif smallI (l.length : Int) then
    bif inB (IntKind.i64.wrap ((l.length : Int) - (1 : Int))) (l.length : Int) then
    bif smallI (l.length : Int) then
    bif cutB (0 : Int) (IntKind.i64.wrap ((l.length : Int) - (1 : Int))) (l.length : Int) then
    bif smallI ((cut l (0 : Int) (IntKind.i64.wrap ((l.length : Int) - (1 : Int)))).length : Int) then
    (siv_maker_row.l0 m_ (r3, (rd ([] : List Int) l (IntKind.i64.wrap ((l.length : Int) - (1 : Int)))), (cut l (0 : Int) (IntKind.i64.wrap ((l.length : Int) - (1 : Int)))), ((cut l (0 : Int) (IntKind.i64.wrap ((l.length : Int) - (1 : Int)))).length : Int), (0 : Int), m.1, m.2.1, m.2.2, ())).bind fun (d, s, m1, m2, m3, ()) =>
    bif smallI (s.length : Int) then
    bif decide ((IntKind.i64.wrap ((s.length : Int) - (16 : Int))) ≥ (0 : Int)) then
      bif cutB (0 : Int) (IntKind.i64.wrap ((s.length : Int) - (16 : Int))) (s.length : Int) then
      bif cutB (IntKind.i64.wrap ((s.length : Int) - (16 : Int))) (s.length : Int) (s.length : Int) then
      (siv_xor.run m_ ((cut s (IntKind.i64.wrap ((s.length : Int) - (16 : Int))) (s.length : Int)), d, ())).bind fun r4 =>
      bif decide ((cut s (0 : Int) (IntKind.i64.wrap ((s.length : Int) - (16 : Int)))).length + r4.length ≤ maxStr) then
      (siv_maker_tag.run m_ ((m1, (m2, m3)), ((cut s (0 : Int) (IntKind.i64.wrap ((s.length : Int) - (16 : Int)))) ++ r4), ())).bind fun r5 =>
      some r5
      else none
      else none
      else none
    else
      bif decide (s.length + ([128] : List Int).length ≤ maxStr) then
      bif smallI (s.length : Int) then
      (siv_zeros.run m_ ((IntKind.i64.wrap ((15 : Int) - (s.length : Int))), ())).bind fun r6 =>
      bif decide ((s ++ ([128] : List Int)).length + r6.length ≤ maxStr) then
      (siv_twice.run m_ (d, ())).bind fun r7 =>
      (siv_xor.run m_ (((s ++ ([128] : List Int)) ++ r6), r7, ())).bind fun r8 =>
      (siv_maker_tag.run m_ ((m1, (m2, m3)), r8, ())).bind fun r9 =>
      some r9
      else none
      else none
      else none
    else none
    else none
    else none
    else none
    else none
    else none
  else none
noncomputable def siv_maker_row.c (m_ : Mode) : Callee := ⟨99, [.ag (.pair .str (.pair .str .str)), .one (.lst .str)], .one (.sh (.one .str)), siv_maker_row.run m_⟩
theorem siv_maker_row.k (m_ : Mode) : ∀ v : Shs (siv_maker_row.c m_).args, runS P (oras (siv_maker_row.cs m_)) siv_maker_row.inl [] [siv_maker_row.g0 m_] (siv_maker_row.c m_).res.fin 20000 false (start 99 (encs (siv_maker_row.c m_).args v)) = siv_maker_row.run m_ v := by
  intro v_; exact (match v_ with | (m, l, ()) => by kernel_rfl)
theorem siv_maker_row.ok (m_ : Mode) : (siv_maker_row.c m_).OK P := Callee.of_run (fun S0 w0 => (oras_ok (siv_maker_row.csok m_))) (by kernel_rfl) (by rfl) (fun S0 w0 cs0 => all_cons (siv_maker_row.s0 m_ S0 w0 cs0) (all_nil)) (fun x r h => (siv_maker_row.k m_ x).trans h)

/-! ### pendulum/aes.Stream -/
-- not told: no body: sync/atomic.LoadUint32 [F124 (('inRegion', 'rl', 3),)]
noncomputable def aes_Stream.cs (m_ : Mode) : List Callee := []
theorem aes_Stream.csok (m_ : Mode) : ∀ k ∈ aes_Stream.cs m_, k.OK P := all_nil
def aes_Stream.inl : FuncId → Bool := fun f => [106, 107, 110, 118, 124, 131].any (Nat.beq f)
def aes_Stream.e0 : Spec := ⟨[{ fn := 102, items := [.code [.r, .r, .r, .r, .r, .r, .l, .l, .l], .inLoop [.r, .r, .r, .r, .r, .r, .l, .l, .l], .inBlock 0, .code [.r, .r, .r, .r, .r, .r, .r]], slots := [(2, .dat (.int .i64)), (8, .ptr 27 0), (10, .ptr 41 0), (11, .nilS)] }], [(27, .cells false [.dat .str, .dat (.int .u32), .dat (.int .i32), .dat (.int .u32), .dat (.arr 256 (.int .u8)), .dat (.arr 256 (.int .u8)), .dat (.arr 16 (.arr 256 (.int .u8))), .nilS]), (41, .cells false [.dat (.arr 16 (.int .u8))])], 42⟩
def aes_Stream.x0 : List Spec := [⟨[{ fn := 102, items := [.code [.r, .r, .r, .r, .r, .r, .r]], slots := [(2, .dat (.int .i64)), (11, .nilS)] }], [], 0⟩]
noncomputable def aes_Stream.b0 (m_ : Mode) (self : Int × (List Int) × Int × Int × Int × (List Int) × (List Int) × (List (List Int)) × (List Int) × Unit → Option ((Int × Unit))) : Int × (List Int) × Int × Int × Int × (List Int) × (List Int) × (List (List Int)) × (List Int) × Unit → Option ((Int × Unit)) := fun v_ => match v_ with
| (n, m, m1, m2, m3, m4, m5, m6, m7, ()) =>
  bif decide ((0 : Int) < n) then
    none
  else
    some (n, ())
theorem aes_Stream.k0 (m_ : Mode) : ∀ (self : Known aes_Stream.e0.sls → Option (Exits aes_Stream.x0)) (v : Known aes_Stream.e0.sls), runS P (oras (aes_Stream.cs m_)) aes_Stream.inl (⟨aes_Stream.e0, self⟩ :: exitCuts aes_Stream.x0 id) [] (fun _ _ => none) 20000 false (aes_Stream.e0.mk' v) = aes_Stream.b0 m_ self v := by
  intro self v_; exact (match v_ with | (n, m, m1, m2, m3, m4, m5, m6, m7, ()) => by kernel_rfl)
noncomputable def aes_Stream.l0 (m_ : Mode) : Int × (List Int) × Int × Int × Int × (List Int) × (List Int) × (List (List Int)) × (List Int) × Unit → Option ((Int × Unit)) := loop m_ (aes_Stream.b0 m_)
theorem aes_Stream.q0 (v) : aes_Stream.l0 .lim v = aes_Stream.b0 .lim (aes_Stream.l0 .lim) v := lfp_eq (cont_of_run (aes_Stream.k0 .lim)) v
noncomputable def aes_Stream.g0 (m_ : Mode) : Seg := ⟨aes_Stream.e0, aes_Stream.x0, aes_Stream.l0 m_⟩
theorem aes_Stream.s0 (m_ : Mode) (S0 w0 cs0) : SegGood P S0 w0 cs0 102 (aes_Stream.g0 m_) := seg_loop m_ (oras_ok (aes_Stream.csok m_)) (all_nil) (by rfl) (fun e he => List.all_eq_true.1 (show aes_Stream.x0.all Spec.ok = true by rfl) e he) (aes_Stream.k0 m_)
noncomputable def aes_Stream.run (m_ : Mode) : (List Int) × (List Int) × Int × Unit → Option ((List Int) × Int × Unit) := fun v_ => match v_ with
| (key, first, n, ()) =>
  bif ((decide (n < (0 : Int))) || (decide (n > (65536 : Int)))) then
    some (([] : List Int), (13 : Int), ())
  else
    bif smallI (key.length : Int) then
    bif ((!(!(decide ((key.length : Int) = (16 : Int))))) || (smallI (key.length : Int))) then
    bif ((!(decide ((key.length : Int) = (16 : Int)))) && (!(decide ((key.length : Int) = (32 : Int))))) then
      some (([] : List Int), (13 : Int), ())
    else
      bif smallI (first.length : Int) then
      bif !(decide ((first.length : Int) = (16 : Int))) then
        some (([] : List Int), (10 : Int), ())
      else
        bif (Nat.ble 1 16 && Nat.ble 16 first.length) then
        (aes_Stream.l0 m_ (n, key, (0 : Int), (0 : Int), (0 : Int), (List.replicate 256 (0 : Int)), (List.replicate 256 (0 : Int)), (List.replicate 16 (List.replicate 256 (0 : Int) : List Int)), (first.take 16), ())).bind fun (n1, ()) =>
        bif cutB (0 : Int) n1 (0 : Int) then some (([] : List Int), (0 : Int), ()) else none
        else none
      else none
    else none
    else none
noncomputable def aes_Stream.c (m_ : Mode) : Callee := ⟨102, [.one .str, .one .str, .one (.int .i64)], .tup [.sh (.one .str), .sh (.one (.int .i64))], aes_Stream.run m_⟩
theorem aes_Stream.k (m_ : Mode) : ∀ v : Shs (aes_Stream.c m_).args, runS P (oras (aes_Stream.cs m_)) aes_Stream.inl [] [aes_Stream.g0 m_] (aes_Stream.c m_).res.fin 20000 false (start 102 (encs (aes_Stream.c m_).args v)) = aes_Stream.run m_ v := by
  intro v_; exact (match v_ with | (key, first, n, ()) => by kernel_rfl)
theorem aes_Stream.ok (m_ : Mode) : (aes_Stream.c m_).OK P := Callee.of_run (fun S0 w0 => (oras_ok (aes_Stream.csok m_))) (by kernel_rfl) (by rfl) (fun S0 w0 cs0 => all_cons (aes_Stream.s0 m_ S0 w0 cs0) (all_nil)) (fun x r h => (aes_Stream.k m_ x).trans h)

/-! ### pendulum/siv.stream -/
noncomputable def siv_stream.cs (m_ : Mode) : List Callee := [siv_xor.c m_, aes_Stream.c m_]
theorem siv_stream.csok (m_ : Mode) : ∀ k ∈ siv_stream.cs m_, k.OK P := all_cons (siv_xor.ok m_) (all_cons (aes_Stream.ok m_) (all_nil))
def siv_stream.inl : FuncId → Bool := fun f => [].any (Nat.beq f)
noncomputable def siv_stream.run (m_ : Mode) : (List Int) × (List Int) × (List Int) × Unit → Option (List Int) := fun v_ => match v_ with
| (key, v, s, ()) =>
  bif inB (8 : Int) (v.length : Int) then
  bif inB (8 : Int) (v.length : Int) then
  bif inB (12 : Int) ((v.set 8 (iand .u8 (rd (0 : Int) v (8 : Int)) (127 : Int))).length : Int) then
  bif inB (12 : Int) ((v.set 8 (iand .u8 (rd (0 : Int) v (8 : Int)) (127 : Int))).length : Int) then
  bif smallI (s.length : Int) then
  (aes_Stream.run m_ (key, ((v.set 8 (iand .u8 (rd (0 : Int) v (8 : Int)) (127 : Int))).set 12 (iand .u8 (rd (0 : Int) (v.set 8 (iand .u8 (rd (0 : Int) v (8 : Int)) (127 : Int))) (12 : Int)) (127 : Int))), (s.length : Int), ())).bind fun (r, r1, ()) =>
  (siv_xor.run m_ (s, r, ())).bind fun r2 =>
  some r2
  else none
  else none
  else none
  else none
  else none
noncomputable def siv_stream.c (m_ : Mode) : Callee := ⟨97, [.one .str, .one .str, .one .str], .one (.sh (.one .str)), siv_stream.run m_⟩
theorem siv_stream.k (m_ : Mode) : ∀ v : Shs (siv_stream.c m_).args, runS P (oras (siv_stream.cs m_)) siv_stream.inl [] [] (siv_stream.c m_).res.fin 20000 false (start 97 (encs (siv_stream.c m_).args v)) = siv_stream.run m_ v := by
  intro v_; exact (match v_ with | (key, v, s, ()) => by kernel_rfl)
theorem siv_stream.ok (m_ : Mode) : (siv_stream.c m_).OK P := Callee.of_run (fun S0 w0 => (oras_ok (siv_stream.csok m_))) (by kernel_rfl) (by rfl) (fun S0 w0 cs0 => all_nil) (fun x r h => (siv_stream.k m_ x).trans h)

/-! ### pendulum/siv.Seal -/
noncomputable def siv_Seal.cs (m_ : Mode) : List Callee := [slices_Clone_string_string.c m_, siv_halves.c m_, siv_stream.c m_, siv_maker_row.c m_]
theorem siv_Seal.csok (m_ : Mode) : ∀ k ∈ siv_Seal.cs m_, k.OK P := all_cons (slices_Clone_string_string.ok m_) (all_cons (siv_halves.ok m_) (all_cons (siv_stream.ok m_) (all_cons (siv_maker_row.ok m_) (all_nil))))
def siv_Seal.inl : FuncId → Bool := fun f => [].any (Nat.beq f)
noncomputable def siv_Seal.run (m_ : Mode) : (List Int) × (List (List Int)) × (List Int) × Unit → Option ((List Int) × Int × Unit) := fun v_ => match v_ with
| (key, ad, plain, ()) =>
  (siv_halves.run m_ (key, ad, ())).bind fun (r, r1, r2, ()) =>
  bif !(decide (r2 = (0 : Int))) then
    some (([] : List Int), r2, ())
  else
    bif smallI (plain.length : Int) then
    bif decide ((plain.length : Int) > (65536 : Int)) then
      some (([] : List Int), (12 : Int), ())
    else
      (slices_Clone_string_string.run m_ (ad, ())).bind fun r3 =>
      bif decide (r3.length + ([plain] : List (List Int)).length < 4398046511104) then
      (siv_maker_row.run m_ (r, (r3 ++ ([plain] : List (List Int))), ())).bind fun r4 =>
      (siv_stream.run m_ (r1, r4, plain, ())).bind fun r5 =>
      bif decide (r4.length + r5.length ≤ maxStr) then some ((r4 ++ r5), (0 : Int), ()) else none
      else none
    else none
noncomputable def siv_Seal.c (m_ : Mode) : Callee := ⟨95, [.one .str, .one (.lst .str), .one .str], .tup [.sh (.one .str), .sh (.one (.int .i64))], siv_Seal.run m_⟩
theorem siv_Seal.k (m_ : Mode) : ∀ v : Shs (siv_Seal.c m_).args, runS P (oras (siv_Seal.cs m_)) siv_Seal.inl [] [] (siv_Seal.c m_).res.fin 20000 false (start 95 (encs (siv_Seal.c m_).args v)) = siv_Seal.run m_ v := by
  intro v_; exact (match v_ with | (key, ad, plain, ()) => by kernel_rfl)
theorem siv_Seal.ok (m_ : Mode) : (siv_Seal.c m_).OK P := Callee.of_run (fun S0 w0 => (oras_ok (siv_Seal.csok m_))) (by kernel_rfl) (by rfl) (fun S0 w0 cs0 => all_nil) (fun x r h => (siv_Seal.k m_ x).trans h)

/-! ### (pendulum/ideal.truth) .seal -/
noncomputable def ideal_truth_seal.cs (m_ : Mode) : List Callee := [siv_Seal.c m_]
theorem ideal_truth_seal.csok (m_ : Mode) : ∀ k ∈ ideal_truth_seal.cs m_, k.OK P := all_cons (siv_Seal.ok m_) (all_nil)
def ideal_truth_seal.inl : FuncId → Bool := fun f => [].any (Nat.beq f)
noncomputable def ideal_truth_seal.run (m_ : Mode) : Unit × (List Int × (List (List Int) × (List Int × List Int))) × Unit → Option ((List Int) × Int × Unit) := fun v_ => match v_ with
| (a, k, ()) =>
  (siv_Seal.run m_ (k.1, k.2.1, k.2.2.1, ())).bind fun (r, r1, ()) =>
  some (r, r1, ())
noncomputable def ideal_truth_seal.c (m_ : Mode) : Callee := ⟨93, [.ag .unit, .ag (.pair .str (.pair (.lst .str) (.pair .str .str)))], .tup [.sh (.one .str), .sh (.one (.int .i64))], ideal_truth_seal.run m_⟩
theorem ideal_truth_seal.k (m_ : Mode) : ∀ v : Shs (ideal_truth_seal.c m_).args, runS P (oras (ideal_truth_seal.cs m_)) ideal_truth_seal.inl [] [] (ideal_truth_seal.c m_).res.fin 20000 false (start 93 (encs (ideal_truth_seal.c m_).args v)) = ideal_truth_seal.run m_ v := by
  intro v_; exact (match v_ with | (a, k, ()) => by kernel_rfl)
theorem ideal_truth_seal.ok (m_ : Mode) : (ideal_truth_seal.c m_).OK P := Callee.of_run (fun S0 w0 => (oras_ok (ideal_truth_seal.csok m_))) (by kernel_rfl) (by rfl) (fun S0 w0 cs0 => all_nil) (fun x r h => (ideal_truth_seal.k m_ x).trans h)

/-! ### pendulum/ideal.Seal -/
noncomputable def ideal_Seal.cs (m_ : Mode) : List Callee := [ideal_refused.c m_, ideal_number.c m_, ideal_alike.c m_, slices_Clone_string_string.c m_, slices_Clone_api_Kept_api_Kept.c m_, ideal_truth_seal.c m_]
theorem ideal_Seal.csok (m_ : Mode) : ∀ k ∈ ideal_Seal.cs m_, k.OK P := all_cons (ideal_refused.ok m_) (all_cons (ideal_number.ok m_) (all_cons (ideal_alike.ok m_) (all_cons (slices_Clone_string_string.ok m_) (all_cons (slices_Clone_api_Kept_api_Kept.ok m_) (all_cons (ideal_truth_seal.ok m_) (all_nil))))))
def ideal_Seal.inl : FuncId → Bool := fun f => [27, 28, 34, 87, 89].any (Nat.beq f)
def ideal_Seal.e0 : Spec := ⟨[{ fn := 34, items := [.code [.r, .l, .r, .l, .l], .inLoop [.r, .l, .r, .l, .l], .inBlock 0, .code [.r, .r]], slots := [(0, .dat (.lst (.pair .str (.pair (.lst .str) (.pair .str .str))))), (1, .fn (.func 89) [21]), (7, .dat (.int .i64)), (8, .dat (.int .i64))] }, { fn := 87, items := [.inRegion [.r, .r, .r, .l, .l] [5, 6], .code [.r, .r, .r, .l, .r], .code [.r, .r, .r, .r]], slots := [(0, .ptr 12 0), (3, .ptr 21 0)] }, { fn := 14, items := [.inRegion [.r, .r, .l] [5, 6, 7, 8, 9, 10], .code [.r, .r, .r]], slots := [(4, .ptr 0 0), (8, .ptr 1 0), (11, .ifc 61 (.ptr 12 0))] }], [(0, .cells false [.dat .bool, .dat (.lst (.pair .str (.pair (.lst .str) (.pair .str .str))))]), (1, .cells false [.dat .bool, .nilS]), (12, .cells false [.dat (.lst (.pair .str (.pair (.lst .str) (.pair .str .str))))]), (21, .cells false [.dat .str, .dat (.lst .str), .dat .str, .dat .str])], 22⟩
def ideal_Seal.x0 : List Spec := [⟨[{ fn := 34, items := [.code [.r, .l, .r, .l, .l, .r, .r, .l, .l, .r, .r, .l, .r], .inBlock 1, .code [.r, .l, .r, .l, .l, .r, .r, .r], .inLoop [.r, .l, .r, .l, .l], .inBlock 0, .code [.r, .r]], slots := [(4, .dat (.int .i64))] }, { fn := 87, items := [.inRegion [.r, .r, .r, .l, .l] [5, 6], .code [.r, .r, .r, .l, .r], .code [.r, .r, .r, .r]], slots := [(0, .ptr 12 0), (3, .ptr 21 0)] }, { fn := 14, items := [.inRegion [.r, .r, .l] [5, 6, 7, 8, 9, 10], .code [.r, .r, .r]], slots := [(4, .ptr 0 0), (8, .ptr 1 0), (11, .ifc 61 (.ptr 12 0))] }], [(0, .cells false [.dat .bool, .dat (.lst (.pair .str (.pair (.lst .str) (.pair .str .str))))]), (1, .cells false [.dat .bool, .nilS]), (12, .cells false [.dat (.lst (.pair .str (.pair (.lst .str) (.pair .str .str))))]), (21, .cells false [.dat .str, .dat (.lst .str), .dat .str, .dat .str])], 22⟩, ⟨[{ fn := 34, items := [.code [.r, .r]], slots := [] }, { fn := 87, items := [.inRegion [.r, .r, .r, .l, .l] [5, 6], .code [.r, .r, .r, .l, .r], .code [.r, .r, .r, .r]], slots := [(0, .ptr 12 0), (3, .ptr 21 0)] }, { fn := 14, items := [.inRegion [.r, .r, .l] [5, 6, 7, 8, 9, 10], .code [.r, .r, .r]], slots := [(4, .ptr 0 0), (8, .ptr 1 0), (11, .ifc 61 (.ptr 12 0))] }], [(0, .cells false [.dat .bool, .dat (.lst (.pair .str (.pair (.lst .str) (.pair .str .str))))]), (1, .cells false [.dat .bool, .nilS]), (12, .cells false [.dat (.lst (.pair .str (.pair (.lst .str) (.pair .str .str))))]), (21, .cells false [.dat .str, .dat (.lst .str), .dat .str, .dat .str])], 22⟩]
noncomputable def ideal_Seal.b0 (m_ : Mode) (self : (List (List Int × (List (List Int) × (List Int × List Int)))) × Int × Int × Bool × (List (List Int × (List (List Int) × (List Int × List Int)))) × Bool × (List (List Int × (List (List Int) × (List Int × List Int)))) × (List Int) × (List (List Int)) × (List Int) × (List Int) × Unit → Option ((Int × Bool × (List (List Int × (List (List Int) × (List Int × List Int)))) × Bool × (List (List Int × (List (List Int) × (List Int × List Int)))) × (List Int) × (List (List Int)) × (List Int) × (List Int) × Unit) ⊕ (Bool × (List (List Int × (List (List Int) × (List Int × List Int)))) × Bool × (List (List Int × (List (List Int) × (List Int × List Int)))) × (List Int) × (List (List Int)) × (List Int) × (List Int) × Unit))) : (List (List Int × (List (List Int) × (List Int × List Int)))) × Int × Int × Bool × (List (List Int × (List (List Int) × (List Int × List Int)))) × Bool × (List (List Int × (List (List Int) × (List Int × List Int)))) × (List Int) × (List (List Int)) × (List Int) × (List Int) × Unit → Option ((Int × Bool × (List (List Int × (List (List Int) × (List Int × List Int)))) × Bool × (List (List Int × (List (List Int) × (List Int × List Int)))) × (List Int) × (List (List Int)) × (List Int) × (List Int) × Unit) ⊕ (Bool × (List (List Int × (List (List Int) × (List Int × List Int)))) × Bool × (List (List Int × (List (List Int) × (List Int × List Int)))) × (List Int) × (List (List Int)) × (List Int) × (List Int) × Unit)) := fun v_ => match v_ with
| (s, t, t1, m, m1, m2, m3, m4, m5, m6, m7, ()) =>
  bif decide (t1 < t) then
    bif inB t1 (s.length : Int) then
    (ideal_alike.run m_ ((rd (([] : List Int), (([] : List (List Int)), (([] : List Int), ([] : List Int)))) s t1), (m4, (m5, (m6, m7))), ())).bind fun r =>
    bif r then
      some (.inl (t1, m, m1, m2, m3, m4, m5, m6, m7, ()))
    else
      self (s, t, (IntKind.i64.wrap (t1 + (1 : Int))), m, m1, m2, m3, m4, m5, m6, m7, ())
    else none
  else
    some (.inr (m, m1, m2, m3, m4, m5, m6, m7, ()))
theorem ideal_Seal.k0 (m_ : Mode) : ∀ (self : Known ideal_Seal.e0.sls → Option (Exits ideal_Seal.x0)) (v : Known ideal_Seal.e0.sls), runS P (oras (ideal_Seal.cs m_)) ideal_Seal.inl (⟨ideal_Seal.e0, self⟩ :: exitCuts ideal_Seal.x0 id) [] (fun _ _ => none) 20000 false (ideal_Seal.e0.mk' v) = ideal_Seal.b0 m_ self v := by
  intro self v_; exact (match v_ with | (s, t, t1, m, m1, m2, m3, m4, m5, m6, m7, ()) => by kernel_rfl)
noncomputable def ideal_Seal.l0 (m_ : Mode) : (List (List Int × (List (List Int) × (List Int × List Int)))) × Int × Int × Bool × (List (List Int × (List (List Int) × (List Int × List Int)))) × Bool × (List (List Int × (List (List Int) × (List Int × List Int)))) × (List Int) × (List (List Int)) × (List Int) × (List Int) × Unit → Option ((Int × Bool × (List (List Int × (List (List Int) × (List Int × List Int)))) × Bool × (List (List Int × (List (List Int) × (List Int × List Int)))) × (List Int) × (List (List Int)) × (List Int) × (List Int) × Unit) ⊕ (Bool × (List (List Int × (List (List Int) × (List Int × List Int)))) × Bool × (List (List Int × (List (List Int) × (List Int × List Int)))) × (List Int) × (List (List Int)) × (List Int) × (List Int) × Unit)) := loop m_ (ideal_Seal.b0 m_)
theorem ideal_Seal.q0 (v) : ideal_Seal.l0 .lim v = ideal_Seal.b0 .lim (ideal_Seal.l0 .lim) v := lfp_eq (cont_of_run (ideal_Seal.k0 .lim)) v
noncomputable def ideal_Seal.g0 (m_ : Mode) : Seg := ⟨ideal_Seal.e0, ideal_Seal.x0, ideal_Seal.l0 m_⟩
theorem ideal_Seal.s0 (m_ : Mode) (S0 w0 cs0) : SegGood P S0 w0 cs0 14 (ideal_Seal.g0 m_) := seg_loop m_ (oras_ok (ideal_Seal.csok m_)) (all_nil) (by rfl) (fun e he => List.all_eq_true.1 (show ideal_Seal.x0.all Spec.ok = true by rfl) e he) (ideal_Seal.k0 m_)
noncomputable def ideal_Seal.run (m_ : Mode) : (Bool × List (List Int × (List (List Int) × (List Int × List Int)))) × (List Int) × (List (List Int)) × (List Int) × Unit → Option ((Bool × List (List Int × (List (List Int) × (List Int × List Int)))) × (List Int) × Int × Unit) := fun v_ => match v_ with
| (v, key, ad, plain, ()) =>
  bif v.1 then
    (ideal_refused.run m_ ((key, (ad, (plain, ([] : List Int)))), ())).bind fun r =>
    bif !(decide (r = (0 : Int))) then
      bif !(decide (r = (0 : Int))) then
        some (v, ([] : List Int), r, ())
      else
        some ((true, v.2), ([] : List Int), (0 : Int), ())
    else
      bif smallI (plain.length : Int) then
      bif decide ((plain.length : Int) > (65536 : Int)) then
        some (v, ([] : List Int), (12 : Int), ())
      else
        bif smallI (v.2.length : Int) then
        (ideal_Seal.l0 m_ (v.2, (v.2.length : Int), (0 : Int), v.1, v.2, false, v.2, key, ad, plain, ([] : List Int), ())).bind fun g_ => match g_ with
        | .inl (t, m, m1, m2, m3, m4, m5, m6, m7, ()) =>
          bif decide (t ≥ (0 : Int)) then
            bif inB t (m3.length : Int) then some ((true, m3), (((rd (([] : List Int), (([] : List (List Int)), (([] : List Int), ([] : List Int)))) m3 t).2).2).2, (0 : Int), ()) else none
          else
            bif smallI (m3.length : Int) then
            bif decide ((m3.length : Int) ≥ (2048 : Int)) then
              some ((m, m1), ([] : List Int), (18 : Int), ())
            else
              (slices_Clone_string_string.run m_ (m5, ())).bind fun r1 =>
              bif smallI (m3.length : Int) then
              (ideal_number.run m_ ((IntKind.i64.wrap ((m3.length : Int) + (1 : Int))), m6, ())).bind fun r2 =>
              (slices_Clone_api_Kept_api_Kept.run m_ (m3, ())).bind fun r3 =>
              bif decide (r3.length + ([(m4, (r1, (m6, r2)))] : List (List Int × (List (List Int) × (List Int × List Int)))).length < 977343669134) then some ((true, (r3 ++ ([(m4, (r1, (m6, r2)))] : List (List Int × (List (List Int) × (List Int × List Int)))))), r2, (0 : Int), ()) else none
              else none
            else none
        | .inr (m8, m9, m10, m11, m12, m13, m14, m15, ()) =>
          bif smallI (m11.length : Int) then
          bif decide ((m11.length : Int) ≥ (2048 : Int)) then
            some ((m8, m9), ([] : List Int), (18 : Int), ())
          else
            (slices_Clone_string_string.run m_ (m13, ())).bind fun r4 =>
            bif smallI (m11.length : Int) then
            (ideal_number.run m_ ((IntKind.i64.wrap ((m11.length : Int) + (1 : Int))), m14, ())).bind fun r5 =>
            (slices_Clone_api_Kept_api_Kept.run m_ (m11, ())).bind fun r6 =>
            bif decide (r6.length + ([(m12, (r4, (m14, r5)))] : List (List Int × (List (List Int) × (List Int × List Int)))).length < 977343669134) then some ((true, (r6 ++ ([(m12, (r4, (m14, r5)))] : List (List Int × (List (List Int) × (List Int × List Int)))))), r5, (0 : Int), ()) else none
            else none
          else none
        else none
      else none
  else
    (ideal_truth_seal.run m_ ((), (key, (ad, (plain, ([] : List Int)))), ())).bind fun (r7, r8, ()) =>
    bif !(decide (r8 = (0 : Int))) then
      some (v, ([] : List Int), r8, ())
    else
      some ((false, ([] : List (List Int × (List (List Int) × (List Int × List Int))))), r7, (0 : Int), ())
noncomputable def ideal_Seal.c (m_ : Mode) : Callee := ⟨14, [.ag (.pair .bool (.lst (.pair .str (.pair (.lst .str) (.pair .str .str))))), .one .str, .one (.lst .str), .one .str], .tup [.sh (.ag (.pair .bool (.lst (.pair .str (.pair (.lst .str) (.pair .str .str)))))), .sh (.one .str), .sh (.one (.int .i64))], ideal_Seal.run m_⟩
theorem ideal_Seal.k (m_ : Mode) : ∀ v : Shs (ideal_Seal.c m_).args, runS P (oras (ideal_Seal.cs m_)) ideal_Seal.inl [] [ideal_Seal.g0 m_] (ideal_Seal.c m_).res.fin 20000 false (start 14 (encs (ideal_Seal.c m_).args v)) = ideal_Seal.run m_ v := by
  intro v_; exact (match v_ with | (v, key, ad, plain, ()) => by kernel_rfl)
theorem ideal_Seal.ok (m_ : Mode) : (ideal_Seal.c m_).OK P := Callee.of_run (fun S0 w0 => (oras_ok (ideal_Seal.csok m_))) (by kernel_rfl) (by rfl) (fun S0 w0 cs0 => all_cons (ideal_Seal.s0 m_ S0 w0 cs0) (all_nil)) (fun x r h => (ideal_Seal.k m_ x).trans h)

/-! ### pendulum/pendulumlaw22.awake -/
noncomputable def pendulumlaw22_awake.cs (m_ : Mode) : List Callee := [ideal_Seal.c m_]
theorem pendulumlaw22_awake.csok (m_ : Mode) : ∀ k ∈ pendulumlaw22_awake.cs m_, k.OK P := all_cons (ideal_Seal.ok m_) (all_nil)
def pendulumlaw22_awake.inl : FuncId → Bool := fun f => [].any (Nat.beq f)
def pendulumlaw22_awake.e0 : Spec := ⟨[{ fn := 8, items := [.code [.r, .r, .l, .r, .l, .l], .inLoop [.r, .r, .l, .r, .l, .l], .inBlock 0, .code [.r, .r, .r]], slots := [(1, .dat .str), (10, .dat (.int .i64))] }], [], 0⟩
def pendulumlaw22_awake.x0 : List Spec := [⟨[{ fn := 8, items := [.code [.r, .r, .r]], slots := [(1, .dat .str)] }], [], 0⟩]
noncomputable def pendulumlaw22_awake.b0 (m_ : Mode) (self : (List Int) × Int × Unit → Option (((List Int) × Unit))) : (List Int) × Int × Unit → Option (((List Int) × Unit)) := fun v_ => match v_ with
| (key, t, ()) =>
  bif decide (t < (32 : Int)) then
    bif decide (key.length + ([107] : List Int).length ≤ maxStr) then self ((key ++ ([107] : List Int)), (IntKind.i64.wrap (t + (1 : Int))), ()) else none
  else
    some (key, ())
theorem pendulumlaw22_awake.k0 (m_ : Mode) : ∀ (self : Known pendulumlaw22_awake.e0.sls → Option (Exits pendulumlaw22_awake.x0)) (v : Known pendulumlaw22_awake.e0.sls), runS P (oras (pendulumlaw22_awake.cs m_)) pendulumlaw22_awake.inl (⟨pendulumlaw22_awake.e0, self⟩ :: exitCuts pendulumlaw22_awake.x0 id) [] (fun _ _ => none) 20000 false (pendulumlaw22_awake.e0.mk' v) = pendulumlaw22_awake.b0 m_ self v := by
  intro self v_; exact (match v_ with | (key, t, ()) => by kernel_rfl)
noncomputable def pendulumlaw22_awake.l0 (m_ : Mode) : (List Int) × Int × Unit → Option (((List Int) × Unit)) := loop m_ (pendulumlaw22_awake.b0 m_)
theorem pendulumlaw22_awake.q0 (v) : pendulumlaw22_awake.l0 .lim v = pendulumlaw22_awake.b0 .lim (pendulumlaw22_awake.l0 .lim) v := lfp_eq (cont_of_run (pendulumlaw22_awake.k0 .lim)) v
noncomputable def pendulumlaw22_awake.g0 (m_ : Mode) : Seg := ⟨pendulumlaw22_awake.e0, pendulumlaw22_awake.x0, pendulumlaw22_awake.l0 m_⟩
theorem pendulumlaw22_awake.s0 (m_ : Mode) (S0 w0 cs0) : SegGood P S0 w0 cs0 8 (pendulumlaw22_awake.g0 m_) := seg_loop m_ (oras_ok (pendulumlaw22_awake.csok m_)) (all_nil) (by rfl) (fun e he => List.all_eq_true.1 (show pendulumlaw22_awake.x0.all Spec.ok = true by rfl) e he) (pendulumlaw22_awake.k0 m_)
noncomputable def pendulumlaw22_awake.run (m_ : Mode) : Unit → Option (Bool) := fun v_ => match v_ with
| (()) =>
  (pendulumlaw22_awake.l0 m_ (([] : List Int), (0 : Int), ())).bind fun (key, ()) =>
  (ideal_Seal.run m_ ((true, ([] : List (List Int × (List (List Int) × (List Int × List Int))))), key, ([] : List (List Int)), ([97, 98] : List Int), ())).bind fun (r, r1, r2, ()) =>
  (ideal_Seal.run m_ (r, key, ([] : List (List Int)), ([97, 98] : List Int), ())).bind fun (r3, r4, r5, ()) =>
  (ideal_Seal.run m_ (r3, key, ([] : List (List Int)), ([99, 100] : List Int), ())).bind fun (r6, r7, r8, ()) =>
  bif ((!(((decide (r2 = (0 : Int))) && (decide (r5 = (0 : Int)))) && (decide (r8 = (0 : Int))))) || (smallI (r1.length : Int))) then
  bif ((!((((decide (r2 = (0 : Int))) && (decide (r5 = (0 : Int)))) && (decide (r8 = (0 : Int)))) && (decide ((r1.length : Int) = (18 : Int))))) || (inB (15 : Int) (r1.length : Int))) then
  bif ((!(((((decide (r2 = (0 : Int))) && (decide (r5 = (0 : Int)))) && (decide (r8 = (0 : Int)))) && (decide ((r1.length : Int) = (18 : Int)))) && (decide ((rd (0 : Int) r1 (15 : Int)) = (1 : Int))))) || (cutB (0 : Int) (15 : Int) (r1.length : Int))) then
  bif ((!(((((((decide (r2 = (0 : Int))) && (decide (r5 = (0 : Int)))) && (decide (r8 = (0 : Int)))) && (decide ((r1.length : Int) = (18 : Int)))) && (decide ((rd (0 : Int) r1 (15 : Int)) = (1 : Int)))) && (decide ((cut r1 (0 : Int) (15 : Int)) = ([0, 0, 0, 0, 0, 0, 0, 0, 0, 0, 0, 0, 0, 0, 0] : List Int)))) && (decide (r1 = r4)))) || (smallI (r7.length : Int))) then
  bif ((!((((((((decide (r2 = (0 : Int))) && (decide (r5 = (0 : Int)))) && (decide (r8 = (0 : Int)))) && (decide ((r1.length : Int) = (18 : Int)))) && (decide ((rd (0 : Int) r1 (15 : Int)) = (1 : Int)))) && (decide ((cut r1 (0 : Int) (15 : Int)) = ([0, 0, 0, 0, 0, 0, 0, 0, 0, 0, 0, 0, 0, 0, 0] : List Int)))) && (decide (r1 = r4))) && (decide ((r7.length : Int) = (18 : Int))))) || (inB (15 : Int) (r7.length : Int))) then some (((((((((decide (r2 = (0 : Int))) && (decide (r5 = (0 : Int)))) && (decide (r8 = (0 : Int)))) && (decide ((r1.length : Int) = (18 : Int)))) && (decide ((rd (0 : Int) r1 (15 : Int)) = (1 : Int)))) && (decide ((cut r1 (0 : Int) (15 : Int)) = ([0, 0, 0, 0, 0, 0, 0, 0, 0, 0, 0, 0, 0, 0, 0] : List Int)))) && (decide (r1 = r4))) && (decide ((r7.length : Int) = (18 : Int)))) && (decide ((rd (0 : Int) r7 (15 : Int)) = (2 : Int)))) else none
  else none
  else none
  else none
  else none
noncomputable def pendulumlaw22_awake.c (m_ : Mode) : Callee := ⟨8, [], .one (.sh (.one .bool)), pendulumlaw22_awake.run m_⟩
theorem pendulumlaw22_awake.k (m_ : Mode) : ∀ v : Shs (pendulumlaw22_awake.c m_).args, runS P (oras (pendulumlaw22_awake.cs m_)) pendulumlaw22_awake.inl [] [pendulumlaw22_awake.g0 m_] (pendulumlaw22_awake.c m_).res.fin 20000 false (start 8 (encs (pendulumlaw22_awake.c m_).args v)) = pendulumlaw22_awake.run m_ v := by
  intro v_; exact (match v_ with | (()) => by kernel_rfl)
theorem pendulumlaw22_awake.ok (m_ : Mode) : (pendulumlaw22_awake.c m_).OK P := Callee.of_run (fun S0 w0 => (oras_ok (pendulumlaw22_awake.csok m_))) (by kernel_rfl) (by rfl) (fun S0 w0 cs0 => all_cons (pendulumlaw22_awake.s0 m_ S0 w0 cs0) (all_nil)) (fun x r h => (pendulumlaw22_awake.k m_ x).trans h)
def pendulumlaw22_awake.t : Callee := ⟨8, [], .one (.sh (.one .bool)), fun _ => some true⟩
theorem pendulumlaw22_awake.plays : pendulumlaw22_awake.run (.fuel 1000) () = some true := by kernel_rfl
theorem pendulumlaw22_awake.okt : pendulumlaw22_awake.t.OK P := Callee.of_run (fun S0 w0 => (oras_ok (pendulumlaw22_awake.csok (.fuel 1000)))) (by kernel_rfl) (by rfl) (fun S0 w0 cs0 => all_cons (pendulumlaw22_awake.s0 (.fuel 1000) S0 w0 cs0) (all_nil)) (fun x r h => (pendulumlaw22_awake.k (.fuel 1000) x).trans (pendulumlaw22_awake.plays.trans h))

/-! ### pendulum/ideal.Fit -/
noncomputable def ideal_Fit.cs (m_ : Mode) : List Callee := [ideal_refused.c m_, ideal_number.c m_, ideal_alike.c m_]
theorem ideal_Fit.csok (m_ : Mode) : ∀ k ∈ ideal_Fit.cs m_, k.OK P := all_cons (ideal_refused.ok m_) (all_cons (ideal_number.ok m_) (all_cons (ideal_alike.ok m_) (all_nil)))
def ideal_Fit.inl : FuncId → Bool := fun f => [20, 21, 34].any (Nat.beq f)
def ideal_Fit.e0 : Spec := ⟨[{ fn := 34, items := [.code [.r, .l, .r, .l, .l], .inLoop [.r, .l, .r, .l, .l], .inBlock 0, .code [.r, .r]], slots := [(0, .dat (.lst (.pair .str (.pair (.lst .str) (.pair .str .str))))), (1, .fn (.func 21) [5]), (7, .dat (.int .i64)), (8, .dat (.int .i64))] }, { fn := 20, items := [.inRegion [.r, .l] [2, 3, 4], .code [.r, .r]], slots := [] }, { fn := 9, items := [.inRegion [.r, .r, .l, .r, .l, .l, .r, .r, .l, .l, .r, .l] [25, 26], .code [.r, .r, .l, .r, .l, .l, .r, .r, .l, .l, .r, .r], .inBlock 1, .code [.r, .r, .l, .r, .l, .l, .r, .r, .r], .inLoop [.r, .r, .l, .r, .l, .l], .inBlock 0, .code [.r, .r, .r]], slots := [(1, .ptr 0 0), (19, .dat (.lst (.pair .str (.pair (.lst .str) (.pair .str .str))))), (20, .dat (.int .i64)), (21, .dat (.int .i64)), (45, .dat .bool)] }], [(0, .cells false [.dat .bool, .dat (.lst (.pair .str (.pair (.lst .str) (.pair .str .str))))]), (5, .cells false [.dat .str, .dat (.lst .str), .dat .str, .dat .str])], 6⟩
def ideal_Fit.x0 : List Spec := [⟨[{ fn := 34, items := [.code [.r, .l, .r, .l, .l, .r, .r, .l, .l, .r, .r, .l, .r], .inBlock 1, .code [.r, .l, .r, .l, .l, .r, .r, .r], .inLoop [.r, .l, .r, .l, .l], .inBlock 0, .code [.r, .r]], slots := [(4, .dat (.int .i64))] }, { fn := 20, items := [.inRegion [.r, .l] [2, 3, 4], .code [.r, .r]], slots := [] }, { fn := 9, items := [.inRegion [.r, .r, .l, .r, .l, .l, .r, .r, .l, .l, .r, .l] [25, 26], .code [.r, .r, .l, .r, .l, .l, .r, .r, .l, .l, .r, .r], .inBlock 1, .code [.r, .r, .l, .r, .l, .l, .r, .r, .r], .inLoop [.r, .r, .l, .r, .l, .l], .inBlock 0, .code [.r, .r, .r]], slots := [(1, .ptr 0 0), (19, .dat (.lst (.pair .str (.pair (.lst .str) (.pair .str .str))))), (20, .dat (.int .i64)), (21, .dat (.int .i64)), (45, .dat .bool)] }], [(0, .cells false [.dat .bool, .dat (.lst (.pair .str (.pair (.lst .str) (.pair .str .str))))])], 1⟩, ⟨[{ fn := 34, items := [.code [.r, .r]], slots := [] }, { fn := 20, items := [.inRegion [.r, .l] [2, 3, 4], .code [.r, .r]], slots := [] }, { fn := 9, items := [.inRegion [.r, .r, .l, .r, .l, .l, .r, .r, .l, .l, .r, .l] [25, 26], .code [.r, .r, .l, .r, .l, .l, .r, .r, .l, .l, .r, .r], .inBlock 1, .code [.r, .r, .l, .r, .l, .l, .r, .r, .r], .inLoop [.r, .r, .l, .r, .l, .l], .inBlock 0, .code [.r, .r, .r]], slots := [(1, .ptr 0 0), (19, .dat (.lst (.pair .str (.pair (.lst .str) (.pair .str .str))))), (20, .dat (.int .i64)), (21, .dat (.int .i64)), (45, .dat .bool)] }], [(0, .cells false [.dat .bool, .dat (.lst (.pair .str (.pair (.lst .str) (.pair .str .str))))])], 1⟩]
noncomputable def ideal_Fit.b0 (m_ : Mode) (self : (List (List Int × (List (List Int) × (List Int × List Int)))) × Int × Int × (List (List Int × (List (List Int) × (List Int × List Int)))) × Int × Int × Bool × Bool × (List (List Int × (List (List Int) × (List Int × List Int)))) × (List Int) × (List (List Int)) × (List Int) × (List Int) × Unit → Option ((Int × (List (List Int × (List (List Int) × (List Int × List Int)))) × Int × Int × Bool × Bool × (List (List Int × (List (List Int) × (List Int × List Int)))) × Unit) ⊕ ((List (List Int × (List (List Int) × (List Int × List Int)))) × Int × Int × Bool × Bool × (List (List Int × (List (List Int) × (List Int × List Int)))) × Unit))) : (List (List Int × (List (List Int) × (List Int × List Int)))) × Int × Int × (List (List Int × (List (List Int) × (List Int × List Int)))) × Int × Int × Bool × Bool × (List (List Int × (List (List Int) × (List Int × List Int)))) × (List Int) × (List (List Int)) × (List Int) × (List Int) × Unit → Option ((Int × (List (List Int × (List (List Int) × (List Int × List Int)))) × Int × Int × Bool × Bool × (List (List Int × (List (List Int) × (List Int × List Int)))) × Unit) ⊕ ((List (List Int × (List (List Int) × (List Int × List Int)))) × Int × Int × Bool × Bool × (List (List Int × (List (List Int) × (List Int × List Int)))) × Unit)) := fun v_ => match v_ with
| (s, t, t1, t2, t3, t4, t5, m, m1, m2, m3, m4, m5, ()) =>
  bif decide (t1 < t) then
    bif inB t1 (s.length : Int) then
    (ideal_alike.run m_ ((rd (([] : List Int), (([] : List (List Int)), (([] : List Int), ([] : List Int)))) s t1), (m2, (m3, (m4, m5))), ())).bind fun r =>
    bif r then
      some (.inl (t1, t2, t3, t4, t5, m, m1, ()))
    else
      self (s, t, (IntKind.i64.wrap (t1 + (1 : Int))), t2, t3, t4, t5, m, m1, m2, m3, m4, m5, ())
    else none
  else
    some (.inr (t2, t3, t4, t5, m, m1, ()))
theorem ideal_Fit.k0 (m_ : Mode) : ∀ (self : Known ideal_Fit.e0.sls → Option (Exits ideal_Fit.x0)) (v : Known ideal_Fit.e0.sls), runS P (oras (ideal_Fit.cs m_)) ideal_Fit.inl (⟨ideal_Fit.e0, self⟩ :: exitCuts ideal_Fit.x0 id) [] (fun _ _ => none) 20000 false (ideal_Fit.e0.mk' v) = ideal_Fit.b0 m_ self v := by
  intro self v_; exact (match v_ with | (s, t, t1, t2, t3, t4, t5, m, m1, m2, m3, m4, m5, ()) => by kernel_rfl)
noncomputable def ideal_Fit.l0 (m_ : Mode) : (List (List Int × (List (List Int) × (List Int × List Int)))) × Int × Int × (List (List Int × (List (List Int) × (List Int × List Int)))) × Int × Int × Bool × Bool × (List (List Int × (List (List Int) × (List Int × List Int)))) × (List Int) × (List (List Int)) × (List Int) × (List Int) × Unit → Option ((Int × (List (List Int × (List (List Int) × (List Int × List Int)))) × Int × Int × Bool × Bool × (List (List Int × (List (List Int) × (List Int × List Int)))) × Unit) ⊕ ((List (List Int × (List (List Int) × (List Int × List Int)))) × Int × Int × Bool × Bool × (List (List Int × (List (List Int) × (List Int × List Int)))) × Unit)) := loop m_ (ideal_Fit.b0 m_)
theorem ideal_Fit.q0 (v) : ideal_Fit.l0 .lim v = ideal_Fit.b0 .lim (ideal_Fit.l0 .lim) v := lfp_eq (cont_of_run (ideal_Fit.k0 .lim)) v
noncomputable def ideal_Fit.g0 (m_ : Mode) : Seg := ⟨ideal_Fit.e0, ideal_Fit.x0, ideal_Fit.l0 m_⟩
theorem ideal_Fit.s0 (m_ : Mode) (S0 w0 cs0) : SegGood P S0 w0 cs0 9 (ideal_Fit.g0 m_) := seg_loop m_ (oras_ok (ideal_Fit.csok m_)) (all_nil) (by rfl) (fun e he => List.all_eq_true.1 (show ideal_Fit.x0.all Spec.ok = true by rfl) e he) (ideal_Fit.k0 m_)
def ideal_Fit.e1 : Spec := ⟨[{ fn := 9, items := [.code [.r, .r, .l, .r, .l, .l], .inLoop [.r, .r, .l, .r, .l, .l], .inBlock 0, .code [.r, .r, .r]], slots := [(1, .ptr 0 0), (19, .dat (.lst (.pair .str (.pair (.lst .str) (.pair .str .str))))), (20, .dat (.int .i64)), (21, .dat (.int .i64))] }], [(0, .cells false [.dat .bool, .dat (.lst (.pair .str (.pair (.lst .str) (.pair .str .str))))])], 1⟩
def ideal_Fit.x1 : List Spec := [⟨[{ fn := 9, items := [.code [.r, .r, .l, .r, .l, .l, .r, .r, .l, .l, .r, .r, .l, .r], .inBlock 1, .code [.r, .r, .l, .r, .l, .l, .r, .r, .r], .inLoop [.r, .r, .l, .r, .l, .l], .inBlock 0, .code [.r, .r, .r]], slots := [(2, .dat .bool)] }], [], 0⟩, ⟨[{ fn := 9, items := [.code [.r, .r, .r]], slots := [] }], [], 0⟩]
noncomputable def ideal_Fit.b1 (m_ : Mode) (self : (List (List Int × (List (List Int) × (List Int × List Int)))) × Int × Int × Bool × (List (List Int × (List (List Int) × (List Int × List Int)))) × Unit → Option ((Bool × Unit) ⊕ (Unit))) : (List (List Int × (List (List Int) × (List Int × List Int)))) × Int × Int × Bool × (List (List Int × (List (List Int) × (List Int × List Int)))) × Unit → Option ((Bool × Unit) ⊕ (Unit)) := fun v_ => match v_ with
| (t, t1, t2, m, m1, ()) =>
  bif decide (t2 < t1) then
    bif inB t2 (t.length : Int) then
    (ideal_refused.run m_ ((rd (([] : List Int), (([] : List (List Int)), (([] : List Int), ([] : List Int)))) t t2), ())).bind fun r =>
    bif ((!(!(!(decide (r = (0 : Int)))))) || (smallI (((((rd (([] : List Int), (([] : List (List Int)), (([] : List Int), ([] : List Int)))) t t2).2).2).1).length : Int))) then
    ((bif !((!(decide (r = (0 : Int)))) || (decide ((((((rd (([] : List Int), (([] : List (List Int)), (([] : List Int), ([] : List Int)))) t t2).2).2).1).length : Int) > (65536 : Int)))) then ideal_number.run m_ ((IntKind.i64.wrap (t2 + (1 : Int))), (((rd (([] : List Int), (([] : List (List Int)), (([] : List Int), ([] : List Int)))) t t2).2).2).1, ()) else some ([] : List Int))).bind fun r1 =>
    bif ((!(!(((!(decide (r = (0 : Int)))) || (decide ((((((rd (([] : List Int), (([] : List (List Int)), (([] : List Int), ([] : List Int)))) t t2).2).2).1).length : Int) > (65536 : Int)))) || (!(decide (((((rd (([] : List Int), (([] : List (List Int)), (([] : List Int), ([] : List Int)))) t t2).2).2).2) = r1)))))) || (cutB (0 : Int) t2 (m1.length : Int))) then
    bif !(((!(decide (r = (0 : Int)))) || (decide ((((((rd (([] : List Int), (([] : List (List Int)), (([] : List Int), ([] : List Int)))) t t2).2).2).1).length : Int) > (65536 : Int)))) || (!(decide (((((rd (([] : List Int), (([] : List (List Int)), (([] : List Int), ([] : List Int)))) t t2).2).2).2) = r1)))) then
      bif smallI ((cut m1 (0 : Int) t2).length : Int) then
      (ideal_Fit.l0 m_ ((cut m1 (0 : Int) t2), ((cut m1 (0 : Int) t2).length : Int), (0 : Int), t, t1, t2, (((!(decide (r = (0 : Int)))) || (decide ((((((rd (([] : List Int), (([] : List (List Int)), (([] : List Int), ([] : List Int)))) t t2).2).2).1).length : Int) > (65536 : Int)))) || (!(decide (((((rd (([] : List Int), (([] : List (List Int)), (([] : List Int), ([] : List Int)))) t t2).2).2).2) = r1)))), m, m1, (rd (([] : List Int), (([] : List (List Int)), (([] : List Int), ([] : List Int)))) t t2).1, ((rd (([] : List Int), (([] : List (List Int)), (([] : List Int), ([] : List Int)))) t t2).2).1, (((rd (([] : List Int), (([] : List (List Int)), (([] : List Int), ([] : List Int)))) t t2).2).2).1, (((rd (([] : List Int), (([] : List (List Int)), (([] : List Int), ([] : List Int)))) t t2).2).2).2, ())).bind fun g_ => match g_ with
      | .inl (t3, t4, t5, t6, t7, m2, m3, ()) =>
        bif (t7 || (decide (t3 ≥ (0 : Int)))) then
          some (.inl (false, ()))
        else
          self (t4, t5, (IntKind.i64.wrap (t6 + (1 : Int))), m2, m3, ())
      | .inr (t8, t9, t10, t11, m4, m5, ()) =>
        bif (t11 || false) then
          some (.inl (false, ()))
        else
          self (t8, t9, (IntKind.i64.wrap (t10 + (1 : Int))), m4, m5, ())
      else none
    else
      bif ((((!(decide (r = (0 : Int)))) || (decide ((((((rd (([] : List Int), (([] : List (List Int)), (([] : List Int), ([] : List Int)))) t t2).2).2).1).length : Int) > (65536 : Int)))) || (!(decide (((((rd (([] : List Int), (([] : List (List Int)), (([] : List Int), ([] : List Int)))) t t2).2).2).2) = r1)))) || false) then
        some (.inl (false, ()))
      else
        self (t, t1, (IntKind.i64.wrap (t2 + (1 : Int))), m, m1, ())
    else none
    else none
    else none
  else
    some (.inr (()))
theorem ideal_Fit.k1 (m_ : Mode) : ∀ (self : Known ideal_Fit.e1.sls → Option (Exits ideal_Fit.x1)) (v : Known ideal_Fit.e1.sls), runS P (oras (ideal_Fit.cs m_)) ideal_Fit.inl (⟨ideal_Fit.e1, self⟩ :: exitCuts ideal_Fit.x1 id) [ideal_Fit.g0 m_] (fun _ _ => none) 20000 false (ideal_Fit.e1.mk' v) = ideal_Fit.b1 m_ self v := by
  intro self v_; exact (match v_ with | (t, t1, t2, m, m1, ()) => by kernel_rfl)
noncomputable def ideal_Fit.l1 (m_ : Mode) : (List (List Int × (List (List Int) × (List Int × List Int)))) × Int × Int × Bool × (List (List Int × (List (List Int) × (List Int × List Int)))) × Unit → Option ((Bool × Unit) ⊕ (Unit)) := loop m_ (ideal_Fit.b1 m_)
theorem ideal_Fit.q1 (v) : ideal_Fit.l1 .lim v = ideal_Fit.b1 .lim (ideal_Fit.l1 .lim) v := lfp_eq (cont_of_run (ideal_Fit.k1 .lim)) v
noncomputable def ideal_Fit.g1 (m_ : Mode) : Seg := ⟨ideal_Fit.e1, ideal_Fit.x1, ideal_Fit.l1 m_⟩
theorem ideal_Fit.s1 (m_ : Mode) (S0 w0 cs0) : SegGood P S0 w0 cs0 9 (ideal_Fit.g1 m_) := seg_loop m_ (oras_ok (ideal_Fit.csok m_)) (all_cons (ideal_Fit.s0 m_ S0 w0 cs0) (all_nil)) (by rfl) (fun e he => List.all_eq_true.1 (show ideal_Fit.x1.all Spec.ok = true by rfl) e he) (ideal_Fit.k1 m_)
noncomputable def ideal_Fit.run (m_ : Mode) : (Bool × List (List Int × (List (List Int) × (List Int × List Int)))) × Unit → Option (Bool) := fun v_ => match v_ with
| (v, ()) =>
  bif (!!!v.1 || (smallI (v.2.length : Int))) then
  bif (!v.1 || (decide ((v.2.length : Int) > (2048 : Int)))) then
    bif smallI (v.2.length : Int) then some (decide ((v.2.length : Int) = (0 : Int))) else none
  else
    bif smallI (v.2.length : Int) then
    (ideal_Fit.l1 m_ (v.2, (v.2.length : Int), (0 : Int), v.1, v.2, ())).bind fun g_ => match g_ with
    | .inl (t, ()) =>
      some t
    | .inr (()) =>
      some true
    else none
  else none
noncomputable def ideal_Fit.c (m_ : Mode) : Callee := ⟨9, [.ag (.pair .bool (.lst (.pair .str (.pair (.lst .str) (.pair .str .str)))))], .one (.sh (.one .bool)), ideal_Fit.run m_⟩
theorem ideal_Fit.k (m_ : Mode) : ∀ v : Shs (ideal_Fit.c m_).args, runS P (oras (ideal_Fit.cs m_)) ideal_Fit.inl [] [ideal_Fit.g1 m_] (ideal_Fit.c m_).res.fin 20000 false (start 9 (encs (ideal_Fit.c m_).args v)) = ideal_Fit.run m_ v := by
  intro v_; exact (match v_ with | (v, ()) => by kernel_rfl)
theorem ideal_Fit.ok (m_ : Mode) : (ideal_Fit.c m_).OK P := Callee.of_run (fun S0 w0 => (oras_ok (ideal_Fit.csok m_))) (by kernel_rfl) (by rfl) (fun S0 w0 cs0 => all_cons (ideal_Fit.s1 m_ S0 w0 cs0) (all_nil)) (fun x r h => (ideal_Fit.k m_ x).trans h)

/-! ### pendulum/pendulumref22.text -/
noncomputable def pendulumref22_text.cs (m_ : Mode) : List Callee := []
theorem pendulumref22_text.csok (m_ : Mode) : ∀ k ∈ pendulumref22_text.cs m_, k.OK P := all_nil
def pendulumref22_text.inl : FuncId → Bool := fun f => [].any (Nat.beq f)
def pendulumref22_text.e0 : Spec := ⟨[{ fn := 23, items := [.code [.r, .r, .l, .r, .l, .l], .inLoop [.r, .r, .l, .r, .l, .l], .inBlock 0, .code [.r, .r, .r]], slots := [(0, .dat (.int .i64)), (5, .own 4 (.int .u8)), (6, .dat (.int .i64))] }], [(4, .cells false [.row (.int .u8)])], 5⟩
def pendulumref22_text.x0 : List Spec := [⟨[{ fn := 23, items := [.code [.r, .r, .r]], slots := [(5, .own 4 (.int .u8))] }], [(4, .cells false [.row (.int .u8)])], 5⟩]
noncomputable def pendulumref22_text.b0 (m_ : Mode) (self : Int × Int × (List Int) × Unit → Option (((List Int) × Unit))) : Int × Int × (List Int) × Unit → Option (((List Int) × Unit)) := fun v_ => match v_ with
| (n, i, m, ()) =>
  bif decide (i ≥ (0 : Int)) then
    bif inB i (m.length : Int) then self ((IntKind.i64.wrap (n.tdiv (256 : Int))), (IntKind.i64.wrap (i - (1 : Int))), (m.set i.toNat (IntKind.u8.wrap (n.tmod (256 : Int)))), ()) else none
  else
    some (m, ())
theorem pendulumref22_text.k0 (m_ : Mode) : ∀ (self : Known pendulumref22_text.e0.sls → Option (Exits pendulumref22_text.x0)) (v : Known pendulumref22_text.e0.sls), runS P (oras (pendulumref22_text.cs m_)) pendulumref22_text.inl (⟨pendulumref22_text.e0, self⟩ :: exitCuts pendulumref22_text.x0 id) [] (fun _ _ => none) 20000 false (pendulumref22_text.e0.mk' v) = pendulumref22_text.b0 m_ self v := by
  intro self v_; exact (match v_ with | (n, i, m, ()) => by kernel_rfl)
noncomputable def pendulumref22_text.l0 (m_ : Mode) : Int × Int × (List Int) × Unit → Option (((List Int) × Unit)) := loop m_ (pendulumref22_text.b0 m_)
theorem pendulumref22_text.q0 (v) : pendulumref22_text.l0 .lim v = pendulumref22_text.b0 .lim (pendulumref22_text.l0 .lim) v := lfp_eq (cont_of_run (pendulumref22_text.k0 .lim)) v
noncomputable def pendulumref22_text.g0 (m_ : Mode) : Seg := ⟨pendulumref22_text.e0, pendulumref22_text.x0, pendulumref22_text.l0 m_⟩
theorem pendulumref22_text.s0 (m_ : Mode) (S0 w0 cs0) : SegGood P S0 w0 cs0 23 (pendulumref22_text.g0 m_) := seg_loop m_ (oras_ok (pendulumref22_text.csok m_)) (all_nil) (by rfl) (fun e he => List.all_eq_true.1 (show pendulumref22_text.x0.all Spec.ok = true by rfl) e he) (pendulumref22_text.k0 m_)
noncomputable def pendulumref22_text.run (m_ : Mode) : Int × (List Int) × Unit → Option (List Int) := fun v_ => match v_ with
| (n, plain, ()) =>
  bif smallI (plain.length : Int) then
  bif (((decide ((0 : Int) ≤ (IntKind.i64.wrap ((16 : Int) + (plain.length : Int))))) && (decide ((IntKind.i64.wrap ((16 : Int) + (plain.length : Int))) ≤ (IntKind.i64.wrap ((16 : Int) + (plain.length : Int)))))) && (Nat.blt ((IntKind.i64.wrap ((16 : Int) + (plain.length : Int))).toNat) 70368744177664)) then
  (pendulumref22_text.l0 m_ (n, (15 : Int), (List.replicate ((IntKind.i64.wrap ((16 : Int) + (plain.length : Int))).toNat) (0 : Int)), ())).bind fun (m, ()) =>
  some m
  else none
  else none
noncomputable def pendulumref22_text.c (m_ : Mode) : Callee := ⟨23, [.one (.int .i64), .one .str], .one (.sh (.one .str)), pendulumref22_text.run m_⟩
theorem pendulumref22_text.k (m_ : Mode) : ∀ v : Shs (pendulumref22_text.c m_).args, runS P (oras (pendulumref22_text.cs m_)) pendulumref22_text.inl [] [pendulumref22_text.g0 m_] (pendulumref22_text.c m_).res.fin 20000 false (start 23 (encs (pendulumref22_text.c m_).args v)) = pendulumref22_text.run m_ v := by
  intro v_; exact (match v_ with | (n, plain, ()) => by kernel_rfl)
theorem pendulumref22_text.ok (m_ : Mode) : (pendulumref22_text.c m_).OK P := Callee.of_run (fun S0 w0 => (oras_ok (pendulumref22_text.csok m_))) (by kernel_rfl) (by rfl) (fun S0 w0 cs0 => all_cons (pendulumref22_text.s0 m_ S0 w0 cs0) (all_nil)) (fun x r h => (pendulumref22_text.k m_ x).trans h)

/-! ### pendulum/pendulumref22.texts -/
noncomputable def pendulumref22_texts.cs (m_ : Mode) : List Callee := []
theorem pendulumref22_texts.csok (m_ : Mode) : ∀ k ∈ pendulumref22_texts.cs m_, k.OK P := all_nil
def pendulumref22_texts.inl : FuncId → Bool := fun f => [].any (Nat.beq f)
def pendulumref22_texts.e0 : Spec := ⟨[{ fn := 32, items := [.code [.r, .r, .l, .r, .l, .l], .inLoop [.r, .r, .l, .r, .l, .l], .inBlock 0, .code [.r, .r, .r]], slots := [(0, .dat (.lst .str)), (1, .dat (.lst .str)), (5, .dat (.int .i64))] }], [], 0⟩
def pendulumref22_texts.x0 : List Spec := [⟨[{ fn := 32, items := [.code [.r, .r, .l, .r, .l, .l, .r, .l, .l, .r, .l, .r], .inBlock 1, .code [.r, .r, .l, .r, .l, .l, .r, .r], .inLoop [.r, .r, .l, .r, .l, .l], .inBlock 0, .code [.r, .r, .r]], slots := [(4, .dat .bool)] }], [], 0⟩, ⟨[{ fn := 32, items := [.code [.r, .r, .r]], slots := [] }], [], 0⟩]
noncomputable def pendulumref22_texts.b0 (m_ : Mode) (self : (List (List Int)) × (List (List Int)) × Int × Unit → Option ((Bool × Unit) ⊕ (Unit))) : (List (List Int)) × (List (List Int)) × Int × Unit → Option ((Bool × Unit) ⊕ (Unit)) := fun v_ => match v_ with
| (a, b, i, ()) =>
  bif smallI (a.length : Int) then
  bif decide (i < (a.length : Int)) then
    bif inB i (a.length : Int) then
    bif inB i (b.length : Int) then
    bif !(decide ((rd ([] : List Int) a i) = (rd ([] : List Int) b i))) then
      some (.inl (false, ()))
    else
      self (a, b, (IntKind.i64.wrap (i + (1 : Int))), ())
    else none
    else none
  else
    some (.inr (()))
  else none
theorem pendulumref22_texts.k0 (m_ : Mode) : ∀ (self : Known pendulumref22_texts.e0.sls → Option (Exits pendulumref22_texts.x0)) (v : Known pendulumref22_texts.e0.sls), runS P (oras (pendulumref22_texts.cs m_)) pendulumref22_texts.inl (⟨pendulumref22_texts.e0, self⟩ :: exitCuts pendulumref22_texts.x0 id) [] (fun _ _ => none) 20000 false (pendulumref22_texts.e0.mk' v) = pendulumref22_texts.b0 m_ self v := by
  intro self v_; exact (match v_ with | (a, b, i, ()) => by kernel_rfl)
noncomputable def pendulumref22_texts.l0 (m_ : Mode) : (List (List Int)) × (List (List Int)) × Int × Unit → Option ((Bool × Unit) ⊕ (Unit)) := loop m_ (pendulumref22_texts.b0 m_)
theorem pendulumref22_texts.q0 (v) : pendulumref22_texts.l0 .lim v = pendulumref22_texts.b0 .lim (pendulumref22_texts.l0 .lim) v := lfp_eq (cont_of_run (pendulumref22_texts.k0 .lim)) v
noncomputable def pendulumref22_texts.g0 (m_ : Mode) : Seg := ⟨pendulumref22_texts.e0, pendulumref22_texts.x0, pendulumref22_texts.l0 m_⟩
theorem pendulumref22_texts.s0 (m_ : Mode) (S0 w0 cs0) : SegGood P S0 w0 cs0 32 (pendulumref22_texts.g0 m_) := seg_loop m_ (oras_ok (pendulumref22_texts.csok m_)) (all_nil) (by rfl) (fun e he => List.all_eq_true.1 (show pendulumref22_texts.x0.all Spec.ok = true by rfl) e he) (pendulumref22_texts.k0 m_)
noncomputable def pendulumref22_texts.run (m_ : Mode) : (List (List Int)) × (List (List Int)) × Unit → Option (Bool) := fun v_ => match v_ with
| (a, b, ()) =>
  bif smallI (a.length : Int) then
  bif smallI (b.length : Int) then
  bif !(decide ((a.length : Int) = (b.length : Int))) then
    some false
  else
    (pendulumref22_texts.l0 m_ (a, b, (0 : Int), ())).bind fun g_ => match g_ with
    | .inl (t, ()) =>
      some t
    | .inr (()) =>
      some true
  else none
  else none
noncomputable def pendulumref22_texts.c (m_ : Mode) : Callee := ⟨32, [.one (.lst .str), .one (.lst .str)], .one (.sh (.one .bool)), pendulumref22_texts.run m_⟩
theorem pendulumref22_texts.k (m_ : Mode) : ∀ v : Shs (pendulumref22_texts.c m_).args, runS P (oras (pendulumref22_texts.cs m_)) pendulumref22_texts.inl [] [pendulumref22_texts.g0 m_] (pendulumref22_texts.c m_).res.fin 20000 false (start 32 (encs (pendulumref22_texts.c m_).args v)) = pendulumref22_texts.run m_ v := by
  intro v_; exact (match v_ with | (a, b, ()) => by kernel_rfl)
theorem pendulumref22_texts.ok (m_ : Mode) : (pendulumref22_texts.c m_).OK P := Callee.of_run (fun S0 w0 => (oras_ok (pendulumref22_texts.csok m_))) (by kernel_rfl) (by rfl) (fun S0 w0 cs0 => all_cons (pendulumref22_texts.s0 m_ S0 w0 cs0) (all_nil)) (fun x r h => (pendulumref22_texts.k m_ x).trans h)

/-! ### pendulum/pendulumref22.alike -/
noncomputable def pendulumref22_alike.cs (m_ : Mode) : List Callee := [pendulumref22_texts.c m_]
theorem pendulumref22_alike.csok (m_ : Mode) : ∀ k ∈ pendulumref22_alike.cs m_, k.OK P := all_cons (pendulumref22_texts.ok m_) (all_nil)
def pendulumref22_alike.inl : FuncId → Bool := fun f => [].any (Nat.beq f)
noncomputable def pendulumref22_alike.run (m_ : Mode) : (List Int × (List (List Int) × (List Int × List Int))) × (List Int × (List (List Int) × (List Int × List Int))) × Unit → Option (Bool) := fun v_ => match v_ with
| (a, b, ()) =>
  ((bif ((decide (a.1 = b.1)) && (decide (a.2.2.1 = b.2.2.1))) then pendulumref22_texts.run m_ (a.2.1, b.2.1, ()) else some false)).bind fun r =>
  some (((decide (a.1 = b.1)) && (decide (a.2.2.1 = b.2.2.1))) && r)
noncomputable def pendulumref22_alike.c (m_ : Mode) : Callee := ⟨24, [.ag (.pair .str (.pair (.lst .str) (.pair .str .str))), .ag (.pair .str (.pair (.lst .str) (.pair .str .str)))], .one (.sh (.one .bool)), pendulumref22_alike.run m_⟩
theorem pendulumref22_alike.k (m_ : Mode) : ∀ v : Shs (pendulumref22_alike.c m_).args, runS P (oras (pendulumref22_alike.cs m_)) pendulumref22_alike.inl [] [] (pendulumref22_alike.c m_).res.fin 20000 false (start 24 (encs (pendulumref22_alike.c m_).args v)) = pendulumref22_alike.run m_ v := by
  intro v_; exact (match v_ with | (a, b, ()) => by kernel_rfl)
theorem pendulumref22_alike.ok (m_ : Mode) : (pendulumref22_alike.c m_).OK P := Callee.of_run (fun S0 w0 => (oras_ok (pendulumref22_alike.csok m_))) (by kernel_rfl) (by rfl) (fun S0 w0 cs0 => all_nil) (fun x r h => (pendulumref22_alike.k m_ x).trans h)

/-! ### pendulum/pendulumref22.Fit -/
noncomputable def pendulumref22_Fit.cs (m_ : Mode) : List Callee := [pendulumref22_text.c m_, pendulumref22_alike.c m_]
theorem pendulumref22_Fit.csok (m_ : Mode) : ∀ k ∈ pendulumref22_Fit.cs m_, k.OK P := all_cons (pendulumref22_text.ok m_) (all_cons (pendulumref22_alike.ok m_) (all_nil))
def pendulumref22_Fit.inl : FuncId → Bool := fun f => [].any (Nat.beq f)
def pendulumref22_Fit.e0 : Spec := ⟨[{ fn := 10, items := [.code [.r, .r, .r, .l, .r, .l, .l, .r, .l, .l, .r, .r, .r, .l, .l], .inLoop [.r, .r, .r, .l, .r, .l, .l, .r, .l, .l, .r, .r, .r, .l, .l], .inBlock 2, .inBlock 1, .code [.r, .r, .r, .l, .r, .l, .l, .r, .r], .inLoop [.r, .r, .r, .l, .r, .l, .l], .inBlock 0, .code [.r, .r, .r, .r]], slots := [(1, .ptr 0 0), (3, .dat (.int .i64)), (4, .ptr 11 0), (5, .dat (.int .i64))] }], [(0, .cells false [.dat .bool, .dat (.lst (.pair .str (.pair (.lst .str) (.pair .str .str))))]), (11, .cells false [.dat .str, .dat (.lst .str), .dat .str, .dat .str])], 12⟩
def pendulumref22_Fit.x0 : List Spec := [⟨[{ fn := 10, items := [.code [.r, .r, .r, .l, .r, .l, .l, .r, .l, .l, .r, .r, .r, .l, .l, .r, .l, .l, .r, .l, .r], .inBlock 3, .code [.r, .r, .r, .l, .r, .l, .l, .r, .l, .l, .r, .r, .r, .l, .l, .r, .r], .inLoop [.r, .r, .r, .l, .r, .l, .l, .r, .l, .l, .r, .r, .r, .l, .l], .inBlock 2, .inBlock 1, .code [.r, .r, .r, .l, .r, .l, .l, .r, .r], .inLoop [.r, .r, .r, .l, .r, .l, .l], .inBlock 0, .code [.r, .r, .r, .r]], slots := [(2, .dat .bool)] }], [], 0⟩, ⟨[{ fn := 10, items := [.code [.r, .r, .r, .l, .r, .l, .l, .r, .r], .inLoop [.r, .r, .r, .l, .r, .l, .l], .inBlock 0, .code [.r, .r, .r, .r]], slots := [(1, .ptr 0 0), (3, .dat (.int .i64))] }], [(0, .cells false [.dat .bool, .dat (.lst (.pair .str (.pair (.lst .str) (.pair .str .str))))])], 1⟩]
noncomputable def pendulumref22_Fit.b0 (m_ : Mode) (self : Int × Int × Bool × (List (List Int × (List (List Int) × (List Int × List Int)))) × (List Int) × (List (List Int)) × (List Int) × (List Int) × Unit → Option ((Bool × Unit) ⊕ (Int × Bool × (List (List Int × (List (List Int) × (List Int × List Int)))) × Unit))) : Int × Int × Bool × (List (List Int × (List (List Int) × (List Int × List Int)))) × (List Int) × (List (List Int)) × (List Int) × (List Int) × Unit → Option ((Bool × Unit) ⊕ (Int × Bool × (List (List Int × (List (List Int) × (List Int × List Int)))) × Unit)) := fun v_ => match v_ with
| (i, j, m, m1, m2, m3, m4, m5, ()) =>
  bif decide (j < i) then
    bif inB j (m1.length : Int) then
    (pendulumref22_alike.run m_ ((m2, (m3, (m4, m5))), (rd (([] : List Int), (([] : List (List Int)), (([] : List Int), ([] : List Int)))) m1 j), ())).bind fun r =>
    bif r then
      some (.inl (false, ()))
    else
      self (i, (IntKind.i64.wrap (j + (1 : Int))), m, m1, m2, m3, m4, m5, ())
    else none
  else
    some (.inr (i, m, m1, ()))
theorem pendulumref22_Fit.k0 (m_ : Mode) : ∀ (self : Known pendulumref22_Fit.e0.sls → Option (Exits pendulumref22_Fit.x0)) (v : Known pendulumref22_Fit.e0.sls), runS P (oras (pendulumref22_Fit.cs m_)) pendulumref22_Fit.inl (⟨pendulumref22_Fit.e0, self⟩ :: exitCuts pendulumref22_Fit.x0 id) [] (fun _ _ => none) 20000 false (pendulumref22_Fit.e0.mk' v) = pendulumref22_Fit.b0 m_ self v := by
  intro self v_; exact (match v_ with | (i, j, m, m1, m2, m3, m4, m5, ()) => by kernel_rfl)
noncomputable def pendulumref22_Fit.l0 (m_ : Mode) : Int × Int × Bool × (List (List Int × (List (List Int) × (List Int × List Int)))) × (List Int) × (List (List Int)) × (List Int) × (List Int) × Unit → Option ((Bool × Unit) ⊕ (Int × Bool × (List (List Int × (List (List Int) × (List Int × List Int)))) × Unit)) := loop m_ (pendulumref22_Fit.b0 m_)
theorem pendulumref22_Fit.q0 (v) : pendulumref22_Fit.l0 .lim v = pendulumref22_Fit.b0 .lim (pendulumref22_Fit.l0 .lim) v := lfp_eq (cont_of_run (pendulumref22_Fit.k0 .lim)) v
noncomputable def pendulumref22_Fit.g0 (m_ : Mode) : Seg := ⟨pendulumref22_Fit.e0, pendulumref22_Fit.x0, pendulumref22_Fit.l0 m_⟩
theorem pendulumref22_Fit.s0 (m_ : Mode) (S0 w0 cs0) : SegGood P S0 w0 cs0 10 (pendulumref22_Fit.g0 m_) := seg_loop m_ (oras_ok (pendulumref22_Fit.csok m_)) (all_nil) (by rfl) (fun e he => List.all_eq_true.1 (show pendulumref22_Fit.x0.all Spec.ok = true by rfl) e he) (pendulumref22_Fit.k0 m_)
def pendulumref22_Fit.e1 : Spec := ⟨[{ fn := 10, items := [.code [.r, .r, .r, .l, .r, .l, .l], .inLoop [.r, .r, .r, .l, .r, .l, .l], .inBlock 0, .code [.r, .r, .r, .r]], slots := [(1, .ptr 0 0), (3, .dat (.int .i64))] }], [(0, .cells false [.dat .bool, .dat (.lst (.pair .str (.pair (.lst .str) (.pair .str .str))))])], 1⟩
def pendulumref22_Fit.x1 : List Spec := [⟨[{ fn := 10, items := [.code [.r, .r, .r, .l, .r, .l, .l, .r, .l, .l, .r, .l, .r, .l, .r], .code [.r, .r, .r, .l, .r, .l, .l, .r, .l, .l, .r, .r], .inBlock 1, .code [.r, .r, .r, .l, .r, .l, .l, .r, .r], .inLoop [.r, .r, .r, .l, .r, .l, .l], .inBlock 0, .code [.r, .r, .r, .r]], slots := [(2, .dat .bool)] }], [], 0⟩, ⟨[{ fn := 10, items := [.code [.r, .r, .r, .l, .r, .l, .l, .r, .l, .l, .r, .r, .r, .l, .l, .r, .l, .l, .r, .l, .r], .inBlock 3, .code [.r, .r, .r, .l, .r, .l, .l, .r, .l, .l, .r, .r, .r, .l, .l, .r, .r], .inLoop [.r, .r, .r, .l, .r, .l, .l, .r, .l, .l, .r, .r, .r, .l, .l], .inBlock 2, .inBlock 1, .code [.r, .r, .r, .l, .r, .l, .l, .r, .r], .inLoop [.r, .r, .r, .l, .r, .l, .l], .inBlock 0, .code [.r, .r, .r, .r]], slots := [(2, .dat .bool)] }], [], 0⟩, ⟨[{ fn := 10, items := [.code [.r, .r, .r, .r]], slots := [] }], [], 0⟩]
noncomputable def pendulumref22_Fit.b1 (m_ : Mode) (self : Int × Bool × (List (List Int × (List (List Int) × (List Int × List Int)))) × Unit → Option ((Bool × Unit) ⊕ (Bool × Unit) ⊕ (Unit))) : Int × Bool × (List (List Int × (List (List Int) × (List Int × List Int)))) × Unit → Option ((Bool × Unit) ⊕ (Bool × Unit) ⊕ (Unit)) := fun v_ => match v_ with
| (i, m, m1, ()) =>
  bif smallI (m1.length : Int) then
  bif decide (i < (m1.length : Int)) then
    bif inB i (m1.length : Int) then
    bif smallI (((rd (([] : List Int), (([] : List (List Int)), (([] : List Int), ([] : List Int)))) m1 i).1).length : Int) then
    bif ((!(!(decide ((((rd (([] : List Int), (([] : List (List Int)), (([] : List Int), ([] : List Int)))) m1 i).1).length : Int) = (32 : Int))))) || (smallI (((rd (([] : List Int), (([] : List (List Int)), (([] : List Int), ([] : List Int)))) m1 i).1).length : Int))) then
    bif ((!(!((!(decide ((((rd (([] : List Int), (([] : List (List Int)), (([] : List Int), ([] : List Int)))) m1 i).1).length : Int) = (32 : Int)))) && (!(decide ((((rd (([] : List Int), (([] : List (List Int)), (([] : List Int), ([] : List Int)))) m1 i).1).length : Int) = (64 : Int))))))) || (smallI ((((rd (([] : List Int), (([] : List (List Int)), (([] : List Int), ([] : List Int)))) m1 i).2).1).length : Int))) then
    bif ((!(!(((!(decide ((((rd (([] : List Int), (([] : List (List Int)), (([] : List Int), ([] : List Int)))) m1 i).1).length : Int) = (32 : Int)))) && (!(decide ((((rd (([] : List Int), (([] : List (List Int)), (([] : List Int), ([] : List Int)))) m1 i).1).length : Int) = (64 : Int))))) || (decide (((((rd (([] : List Int), (([] : List (List Int)), (([] : List Int), ([] : List Int)))) m1 i).2).1).length : Int) > (126 : Int)))))) || (smallI (((((rd (([] : List Int), (([] : List (List Int)), (([] : List Int), ([] : List Int)))) m1 i).2).2).1).length : Int))) then
    ((bif !((((!(decide ((((rd (([] : List Int), (([] : List (List Int)), (([] : List Int), ([] : List Int)))) m1 i).1).length : Int) = (32 : Int)))) && (!(decide ((((rd (([] : List Int), (([] : List (List Int)), (([] : List Int), ([] : List Int)))) m1 i).1).length : Int) = (64 : Int))))) || (decide (((((rd (([] : List Int), (([] : List (List Int)), (([] : List Int), ([] : List Int)))) m1 i).2).1).length : Int) > (126 : Int)))) || (decide ((((((rd (([] : List Int), (([] : List (List Int)), (([] : List Int), ([] : List Int)))) m1 i).2).2).1).length : Int) > (65536 : Int)))) then pendulumref22_text.run m_ ((IntKind.i64.wrap (i + (1 : Int))), (((rd (([] : List Int), (([] : List (List Int)), (([] : List Int), ([] : List Int)))) m1 i).2).2).1, ()) else some ([] : List Int))).bind fun r =>
    bif (((((!(decide ((((rd (([] : List Int), (([] : List (List Int)), (([] : List Int), ([] : List Int)))) m1 i).1).length : Int) = (32 : Int)))) && (!(decide ((((rd (([] : List Int), (([] : List (List Int)), (([] : List Int), ([] : List Int)))) m1 i).1).length : Int) = (64 : Int))))) || (decide (((((rd (([] : List Int), (([] : List (List Int)), (([] : List Int), ([] : List Int)))) m1 i).2).1).length : Int) > (126 : Int)))) || (decide ((((((rd (([] : List Int), (([] : List (List Int)), (([] : List Int), ([] : List Int)))) m1 i).2).2).1).length : Int) > (65536 : Int)))) || (!(decide (((((rd (([] : List Int), (([] : List (List Int)), (([] : List Int), ([] : List Int)))) m1 i).2).2).2) = r)))) then
      some (.inl (false, ()))
    else
      (pendulumref22_Fit.l0 m_ (i, (0 : Int), m, m1, (rd (([] : List Int), (([] : List (List Int)), (([] : List Int), ([] : List Int)))) m1 i).1, ((rd (([] : List Int), (([] : List (List Int)), (([] : List Int), ([] : List Int)))) m1 i).2).1, (((rd (([] : List Int), (([] : List (List Int)), (([] : List Int), ([] : List Int)))) m1 i).2).2).1, (((rd (([] : List Int), (([] : List (List Int)), (([] : List Int), ([] : List Int)))) m1 i).2).2).2, ())).bind fun g_ => match g_ with
      | .inl (t, ()) =>
        some (.inr (.inl (t, ())))
      | .inr (i1, m2, m3, ()) =>
        self ((IntKind.i64.wrap (i1 + (1 : Int))), m2, m3, ())
    else none
    else none
    else none
    else none
    else none
  else
    some (.inr (.inr (())))
  else none
theorem pendulumref22_Fit.k1 (m_ : Mode) : ∀ (self : Known pendulumref22_Fit.e1.sls → Option (Exits pendulumref22_Fit.x1)) (v : Known pendulumref22_Fit.e1.sls), runS P (oras (pendulumref22_Fit.cs m_)) pendulumref22_Fit.inl (⟨pendulumref22_Fit.e1, self⟩ :: exitCuts pendulumref22_Fit.x1 id) [pendulumref22_Fit.g0 m_] (fun _ _ => none) 20000 false (pendulumref22_Fit.e1.mk' v) = pendulumref22_Fit.b1 m_ self v := by
  intro self v_; exact (match v_ with | (i, m, m1, ()) => by kernel_rfl)
noncomputable def pendulumref22_Fit.l1 (m_ : Mode) : Int × Bool × (List (List Int × (List (List Int) × (List Int × List Int)))) × Unit → Option ((Bool × Unit) ⊕ (Bool × Unit) ⊕ (Unit)) := loop m_ (pendulumref22_Fit.b1 m_)
theorem pendulumref22_Fit.q1 (v) : pendulumref22_Fit.l1 .lim v = pendulumref22_Fit.b1 .lim (pendulumref22_Fit.l1 .lim) v := lfp_eq (cont_of_run (pendulumref22_Fit.k1 .lim)) v
noncomputable def pendulumref22_Fit.g1 (m_ : Mode) : Seg := ⟨pendulumref22_Fit.e1, pendulumref22_Fit.x1, pendulumref22_Fit.l1 m_⟩
theorem pendulumref22_Fit.s1 (m_ : Mode) (S0 w0 cs0) : SegGood P S0 w0 cs0 10 (pendulumref22_Fit.g1 m_) := seg_loop m_ (oras_ok (pendulumref22_Fit.csok m_)) (all_cons (pendulumref22_Fit.s0 m_ S0 w0 cs0) (all_nil)) (by rfl) (fun e he => List.all_eq_true.1 (show pendulumref22_Fit.x1.all Spec.ok = true by rfl) e he) (pendulumref22_Fit.k1 m_)
noncomputable def pendulumref22_Fit.run (m_ : Mode) : (Bool × List (List Int × (List (List Int) × (List Int × List Int)))) × Unit → Option (Bool) := fun v_ => match v_ with
| (v, ()) =>
  bif !v.1 then
    bif smallI (v.2.length : Int) then some (decide ((v.2.length : Int) = (0 : Int))) else none
  else
    bif smallI (v.2.length : Int) then
    bif decide ((v.2.length : Int) > (2048 : Int)) then
      some false
    else
      (pendulumref22_Fit.l1 m_ ((0 : Int), v.1, v.2, ())).bind fun g_ => match g_ with
      | .inl (t, ()) =>
        some t
      | .inr (.inl (t1, ())) =>
        some t1
      | .inr (.inr (())) =>
        some true
    else none
noncomputable def pendulumref22_Fit.c (m_ : Mode) : Callee := ⟨10, [.ag (.pair .bool (.lst (.pair .str (.pair (.lst .str) (.pair .str .str)))))], .one (.sh (.one .bool)), pendulumref22_Fit.run m_⟩
theorem pendulumref22_Fit.k (m_ : Mode) : ∀ v : Shs (pendulumref22_Fit.c m_).args, runS P (oras (pendulumref22_Fit.cs m_)) pendulumref22_Fit.inl [] [pendulumref22_Fit.g1 m_] (pendulumref22_Fit.c m_).res.fin 20000 false (start 10 (encs (pendulumref22_Fit.c m_).args v)) = pendulumref22_Fit.run m_ v := by
  intro v_; exact (match v_ with | (v, ()) => by kernel_rfl)
theorem pendulumref22_Fit.ok (m_ : Mode) : (pendulumref22_Fit.c m_).OK P := Callee.of_run (fun S0 w0 => (oras_ok (pendulumref22_Fit.csok m_))) (by kernel_rfl) (by rfl) (fun S0 w0 cs0 => all_cons (pendulumref22_Fit.s1 m_ S0 w0 cs0) (all_nil)) (fun x r h => (pendulumref22_Fit.k m_ x).trans h)

/-! ### pendulum/ideal.Same$1 -/
noncomputable def ideal_Same_1.cs (m_ : Mode) : List Callee := [ideal_alike.c m_]
theorem ideal_Same_1.csok (m_ : Mode) : ∀ k ∈ ideal_Same_1.cs m_, k.OK P := all_cons (ideal_alike.ok m_) (all_nil)
def ideal_Same_1.inl : FuncId → Bool := fun f => [].any (Nat.beq f)
noncomputable def ideal_Same_1.run (m_ : Mode) : (List Int × (List (List Int) × (List Int × List Int))) × (List Int × (List (List Int) × (List Int × List Int))) × Unit → Option (Bool) := fun v_ => match v_ with
| (x, y, ()) =>
  (ideal_alike.run m_ (x, y, ())).bind fun r =>
  some (r && (decide (x.2.2.2 = y.2.2.2)))
noncomputable def ideal_Same_1.c (m_ : Mode) : Callee := ⟨26, [.ag (.pair .str (.pair (.lst .str) (.pair .str .str))), .ag (.pair .str (.pair (.lst .str) (.pair .str .str)))], .one (.sh (.one .bool)), ideal_Same_1.run m_⟩
theorem ideal_Same_1.k (m_ : Mode) : ∀ v : Shs (ideal_Same_1.c m_).args, runS P (oras (ideal_Same_1.cs m_)) ideal_Same_1.inl [] [] (ideal_Same_1.c m_).res.fin 20000 false (start 26 (encs (ideal_Same_1.c m_).args v)) = ideal_Same_1.run m_ v := by
  intro v_; exact (match v_ with | (x, y, ()) => by kernel_rfl)
theorem ideal_Same_1.ok (m_ : Mode) : (ideal_Same_1.c m_).OK P := Callee.of_run (fun S0 w0 => (oras_ok (ideal_Same_1.csok m_))) (by kernel_rfl) (by rfl) (fun S0 w0 cs0 => all_nil) (fun x r h => (ideal_Same_1.k m_ x).trans h)

/-! ### pendulum/ideal.Same -/
noncomputable def ideal_Same.cs (m_ : Mode) : List Callee := [ideal_Same_1.c m_]
theorem ideal_Same.csok (m_ : Mode) : ∀ k ∈ ideal_Same.cs m_, k.OK P := all_cons (ideal_Same_1.ok m_) (all_nil)
def ideal_Same.inl : FuncId → Bool := fun f => [25].any (Nat.beq f)
def ideal_Same.e0 : Spec := ⟨[{ fn := 25, items := [.code [.r, .r, .l, .r, .l, .l], .inLoop [.r, .r, .l, .r, .l, .l], .inBlock 0, .code [.r, .r, .r]], slots := [(1, .dat (.lst (.pair .str (.pair (.lst .str) (.pair .str .str))))), (2, .fn (.func 26) []), (15, .dat (.lst (.pair .str (.pair (.lst .str) (.pair .str .str))))), (16, .dat (.int .i64)), (17, .dat (.int .i64))] }, { fn := 11, items := [.inRegion [.r, .l] [10, 11, 12], .code [.r, .r]], slots := [(10, .dat .bool)] }], [], 0⟩
def ideal_Same.x0 : List Spec := [⟨[{ fn := 25, items := [.code [.r, .r, .l, .r, .l, .l, .r, .r, .l, .l, .r, .r, .r, .l, .r], .inBlock 1, .code [.r, .r, .l, .r, .l, .l, .r, .r, .r], .inLoop [.r, .r, .l, .r, .l, .l], .inBlock 0, .code [.r, .r, .r]], slots := [(6, .dat .bool)] }, { fn := 11, items := [.inRegion [.r, .l] [10, 11, 12], .code [.r, .r]], slots := [(10, .dat .bool)] }], [], 0⟩, ⟨[{ fn := 25, items := [.code [.r, .r, .r]], slots := [] }, { fn := 11, items := [.inRegion [.r, .l] [10, 11, 12], .code [.r, .r]], slots := [(10, .dat .bool)] }], [], 0⟩]
noncomputable def ideal_Same.b0 (m_ : Mode) (self : (List (List Int × (List (List Int) × (List Int × List Int)))) × (List (List Int × (List (List Int) × (List Int × List Int)))) × Int × Int × Bool × Unit → Option ((Bool × Bool × Unit) ⊕ (Bool × Unit))) : (List (List Int × (List (List Int) × (List Int × List Int)))) × (List (List Int × (List (List Int) × (List Int × List Int)))) × Int × Int × Bool × Unit → Option ((Bool × Bool × Unit) ⊕ (Bool × Unit)) := fun v_ => match v_ with
| (s2, t, t1, t2, t3, ()) =>
  bif decide (t2 < t1) then
    bif inB t2 (t.length : Int) then
    bif inB t2 (s2.length : Int) then
    (ideal_Same_1.run m_ ((rd (([] : List Int), (([] : List (List Int)), (([] : List Int), ([] : List Int)))) t t2), (rd (([] : List Int), (([] : List (List Int)), (([] : List Int), ([] : List Int)))) s2 t2), ())).bind fun r =>
    bif !r then
      some (.inl (false, t3, ()))
    else
      self (s2, t, t1, (IntKind.i64.wrap (t2 + (1 : Int))), t3, ())
    else none
    else none
  else
    some (.inr (t3, ()))
theorem ideal_Same.k0 (m_ : Mode) : ∀ (self : Known ideal_Same.e0.sls → Option (Exits ideal_Same.x0)) (v : Known ideal_Same.e0.sls), runS P (oras (ideal_Same.cs m_)) ideal_Same.inl (⟨ideal_Same.e0, self⟩ :: exitCuts ideal_Same.x0 id) [] (fun _ _ => none) 20000 false (ideal_Same.e0.mk' v) = ideal_Same.b0 m_ self v := by
  intro self v_; exact (match v_ with | (s2, t, t1, t2, t3, ()) => by kernel_rfl)
noncomputable def ideal_Same.l0 (m_ : Mode) : (List (List Int × (List (List Int) × (List Int × List Int)))) × (List (List Int × (List (List Int) × (List Int × List Int)))) × Int × Int × Bool × Unit → Option ((Bool × Bool × Unit) ⊕ (Bool × Unit)) := loop m_ (ideal_Same.b0 m_)
theorem ideal_Same.q0 (v) : ideal_Same.l0 .lim v = ideal_Same.b0 .lim (ideal_Same.l0 .lim) v := lfp_eq (cont_of_run (ideal_Same.k0 .lim)) v
noncomputable def ideal_Same.g0 (m_ : Mode) : Seg := ⟨ideal_Same.e0, ideal_Same.x0, ideal_Same.l0 m_⟩
theorem ideal_Same.s0 (m_ : Mode) (S0 w0 cs0) : SegGood P S0 w0 cs0 11 (ideal_Same.g0 m_) := seg_loop m_ (oras_ok (ideal_Same.csok m_)) (all_nil) (by rfl) (fun e he => List.all_eq_true.1 (show ideal_Same.x0.all Spec.ok = true by rfl) e he) (ideal_Same.k0 m_)
noncomputable def ideal_Same.run (m_ : Mode) : (Bool × List (List Int × (List (List Int) × (List Int × List Int)))) × (Bool × List (List Int × (List (List Int) × (List Int × List Int)))) × Unit → Option (Bool) := fun v_ => match v_ with
| (a, b, ()) =>
  bif (a.1 == b.1) then
    bif smallI (a.2.length : Int) then
    bif smallI (b.2.length : Int) then
    bif !(decide ((a.2.length : Int) = (b.2.length : Int))) then
      some ((a.1 == b.1) && false)
    else
      bif smallI (a.2.length : Int) then
      (ideal_Same.l0 m_ (b.2, a.2, (a.2.length : Int), (0 : Int), (a.1 == b.1), ())).bind fun g_ => match g_ with
      | .inl (t, t1, ()) =>
        some (t1 && t)
      | .inr (t2, ()) =>
        some (t2 && true)
      else none
    else none
    else none
  else
    some ((a.1 == b.1) && false)
noncomputable def ideal_Same.c (m_ : Mode) : Callee := ⟨11, [.ag (.pair .bool (.lst (.pair .str (.pair (.lst .str) (.pair .str .str))))), .ag (.pair .bool (.lst (.pair .str (.pair (.lst .str) (.pair .str .str)))))], .one (.sh (.one .bool)), ideal_Same.run m_⟩
theorem ideal_Same.k (m_ : Mode) : ∀ v : Shs (ideal_Same.c m_).args, runS P (oras (ideal_Same.cs m_)) ideal_Same.inl [] [ideal_Same.g0 m_] (ideal_Same.c m_).res.fin 20000 false (start 11 (encs (ideal_Same.c m_).args v)) = ideal_Same.run m_ v := by
  intro v_; exact (match v_ with | (a, b, ()) => by kernel_rfl)
theorem ideal_Same.ok (m_ : Mode) : (ideal_Same.c m_).OK P := Callee.of_run (fun S0 w0 => (oras_ok (ideal_Same.csok m_))) (by kernel_rfl) (by rfl) (fun S0 w0 cs0 => all_cons (ideal_Same.s0 m_ S0 w0 cs0) (all_nil)) (fun x r h => (ideal_Same.k m_ x).trans h)

/-! ### pendulum/pendulumref22.Same -/
noncomputable def pendulumref22_Same.cs (m_ : Mode) : List Callee := [pendulumref22_alike.c m_]
theorem pendulumref22_Same.csok (m_ : Mode) : ∀ k ∈ pendulumref22_Same.cs m_, k.OK P := all_cons (pendulumref22_alike.ok m_) (all_nil)
def pendulumref22_Same.inl : FuncId → Bool := fun f => [].any (Nat.beq f)
def pendulumref22_Same.e0 : Spec := ⟨[{ fn := 12, items := [.code [.r, .r, .l, .r, .l, .l], .inLoop [.r, .r, .l, .r, .l, .l], .inBlock 0, .code [.r, .r, .r]], slots := [(2, .ptr 0 0), (3, .ptr 1 0), (5, .dat (.int .i64))] }], [(0, .cells false [.dat .bool, .dat (.lst (.pair .str (.pair (.lst .str) (.pair .str .str))))]), (1, .cells false [.dat .bool, .dat (.lst (.pair .str (.pair (.lst .str) (.pair .str .str))))])], 2⟩
def pendulumref22_Same.x0 : List Spec := [⟨[{ fn := 12, items := [.code [.r, .r, .l, .r, .l, .l, .r, .l, .l, .r, .l, .r], .inBlock 1, .code [.r, .r, .l, .r, .l, .l, .r, .r], .inLoop [.r, .r, .l, .r, .l, .l], .inBlock 0, .code [.r, .r, .r]], slots := [(4, .dat .bool)] }], [], 0⟩, ⟨[{ fn := 12, items := [.code [.r, .r, .r]], slots := [] }], [], 0⟩]
noncomputable def pendulumref22_Same.b0 (m_ : Mode) (self : Int × Bool × (List (List Int × (List (List Int) × (List Int × List Int)))) × Bool × (List (List Int × (List (List Int) × (List Int × List Int)))) × Unit → Option ((Bool × Unit) ⊕ (Unit))) : Int × Bool × (List (List Int × (List (List Int) × (List Int × List Int)))) × Bool × (List (List Int × (List (List Int) × (List Int × List Int)))) × Unit → Option ((Bool × Unit) ⊕ (Unit)) := fun v_ => match v_ with
| (i, m, m1, m2, m3, ()) =>
  bif smallI (m1.length : Int) then
  bif decide (i < (m1.length : Int)) then
    bif inB i (m1.length : Int) then
    bif inB i (m3.length : Int) then
    (pendulumref22_alike.run m_ ((rd (([] : List Int), (([] : List (List Int)), (([] : List Int), ([] : List Int)))) m1 i), (rd (([] : List Int), (([] : List (List Int)), (([] : List Int), ([] : List Int)))) m3 i), ())).bind fun r =>
    bif (!!!r || (inB i (m1.length : Int))) then
    bif (!!!r || (inB i (m3.length : Int))) then
    bif (!r || (!(decide (((((rd (([] : List Int), (([] : List (List Int)), (([] : List Int), ([] : List Int)))) m1 i).2).2).2) = ((((rd (([] : List Int), (([] : List (List Int)), (([] : List Int), ([] : List Int)))) m3 i).2).2).2))))) then
      some (.inl (false, ()))
    else
      self ((IntKind.i64.wrap (i + (1 : Int))), m, m1, m2, m3, ())
    else none
    else none
    else none
    else none
  else
    some (.inr (()))
  else none
theorem pendulumref22_Same.k0 (m_ : Mode) : ∀ (self : Known pendulumref22_Same.e0.sls → Option (Exits pendulumref22_Same.x0)) (v : Known pendulumref22_Same.e0.sls), runS P (oras (pendulumref22_Same.cs m_)) pendulumref22_Same.inl (⟨pendulumref22_Same.e0, self⟩ :: exitCuts pendulumref22_Same.x0 id) [] (fun _ _ => none) 20000 false (pendulumref22_Same.e0.mk' v) = pendulumref22_Same.b0 m_ self v := by
  intro self v_; exact (match v_ with | (i, m, m1, m2, m3, ()) => by kernel_rfl)
noncomputable def pendulumref22_Same.l0 (m_ : Mode) : Int × Bool × (List (List Int × (List (List Int) × (List Int × List Int)))) × Bool × (List (List Int × (List (List Int) × (List Int × List Int)))) × Unit → Option ((Bool × Unit) ⊕ (Unit)) := loop m_ (pendulumref22_Same.b0 m_)
theorem pendulumref22_Same.q0 (v) : pendulumref22_Same.l0 .lim v = pendulumref22_Same.b0 .lim (pendulumref22_Same.l0 .lim) v := lfp_eq (cont_of_run (pendulumref22_Same.k0 .lim)) v
noncomputable def pendulumref22_Same.g0 (m_ : Mode) : Seg := ⟨pendulumref22_Same.e0, pendulumref22_Same.x0, pendulumref22_Same.l0 m_⟩
theorem pendulumref22_Same.s0 (m_ : Mode) (S0 w0 cs0) : SegGood P S0 w0 cs0 12 (pendulumref22_Same.g0 m_) := seg_loop m_ (oras_ok (pendulumref22_Same.csok m_)) (all_nil) (by rfl) (fun e he => List.all_eq_true.1 (show pendulumref22_Same.x0.all Spec.ok = true by rfl) e he) (pendulumref22_Same.k0 m_)
noncomputable def pendulumref22_Same.run (m_ : Mode) : (Bool × List (List Int × (List (List Int) × (List Int × List Int)))) × (Bool × List (List Int × (List (List Int) × (List Int × List Int)))) × Unit → Option (Bool) := fun v_ => match v_ with
| (a, b, ()) =>
  bif ((!(!(!(a.1 == b.1)))) || (smallI (a.2.length : Int))) then
  bif ((!(!(!(a.1 == b.1)))) || (smallI (b.2.length : Int))) then
  bif ((!(a.1 == b.1)) || (!(decide ((a.2.length : Int) = (b.2.length : Int))))) then
    some false
  else
    (pendulumref22_Same.l0 m_ ((0 : Int), a.1, a.2, b.1, b.2, ())).bind fun g_ => match g_ with
    | .inl (t, ()) =>
      some t
    | .inr (()) =>
      some true
  else none
  else none
noncomputable def pendulumref22_Same.c (m_ : Mode) : Callee := ⟨12, [.ag (.pair .bool (.lst (.pair .str (.pair (.lst .str) (.pair .str .str))))), .ag (.pair .bool (.lst (.pair .str (.pair (.lst .str) (.pair .str .str)))))], .one (.sh (.one .bool)), pendulumref22_Same.run m_⟩
theorem pendulumref22_Same.k (m_ : Mode) : ∀ v : Shs (pendulumref22_Same.c m_).args, runS P (oras (pendulumref22_Same.cs m_)) pendulumref22_Same.inl [] [pendulumref22_Same.g0 m_] (pendulumref22_Same.c m_).res.fin 20000 false (start 12 (encs (pendulumref22_Same.c m_).args v)) = pendulumref22_Same.run m_ v := by
  intro v_; exact (match v_ with | (a, b, ()) => by kernel_rfl)
theorem pendulumref22_Same.ok (m_ : Mode) : (pendulumref22_Same.c m_).OK P := Callee.of_run (fun S0 w0 => (oras_ok (pendulumref22_Same.csok m_))) (by kernel_rfl) (by rfl) (fun S0 w0 cs0 => all_cons (pendulumref22_Same.s0 m_ S0 w0 cs0) (all_nil)) (fun x r h => (pendulumref22_Same.k m_ x).trans h)

/-! ### pendulum/pendulumlaw22.IdealTells -/
noncomputable def pendulumlaw22_IdealTells.cs (m_ : Mode) : List Callee := [pendulumref22_Light.c m_, pendulumlaw22_awake.t, ideal_Fit.c m_, pendulumref22_Fit.c m_, ideal_Same.c m_, pendulumref22_Same.c m_]
theorem pendulumlaw22_IdealTells.csok (m_ : Mode) : ∀ k ∈ pendulumlaw22_IdealTells.cs m_, k.OK P := all_cons (pendulumref22_Light.ok m_) (all_cons pendulumlaw22_awake.okt (all_cons (ideal_Fit.ok m_) (all_cons (pendulumref22_Fit.ok m_) (all_cons (ideal_Same.ok m_) (all_cons (pendulumref22_Same.ok m_) (all_nil))))))
def pendulumlaw22_IdealTells.inl : FuncId → Bool := fun f => [].any (Nat.beq f)
noncomputable def pendulumlaw22_IdealTells.run (m_ : Mode) : (Bool × List (List Int × (List (List Int) × (List Int × List Int)))) × (Bool × List (List Int × (List (List Int) × (List Int × List Int)))) × Unit → Option (Bool) := fun v_ => match v_ with
| (v, w, ()) =>
  (pendulumref22_Light.run m_ (v, ())).bind fun r =>
  ((bif !!r then pendulumref22_Light.run m_ (w, ()) else some false)).bind fun r1 =>
  bif (!r || !r1) then
    (some true).bind fun r2 =>
    some r2
  else
    (ideal_Fit.run m_ (v, ())).bind fun r3 =>
    (pendulumref22_Fit.run m_ (v, ())).bind fun r4 =>
    ((bif (r3 == r4) then ideal_Same.run m_ (v, w, ()) else some false)).bind fun r5 =>
    ((bif (r3 == r4) then pendulumref22_Same.run m_ (v, w, ()) else some false)).bind fun r6 =>
    ((bif ((r3 == r4) && (r5 == r6)) then ideal_Same.run m_ (v, v, ()) else some false)).bind fun r7 =>
    ((bif (((r3 == r4) && (r5 == r6)) && r7) then some true else some false)).bind fun r8 =>
    some ((((r3 == r4) && (r5 == r6)) && r7) && r8)
noncomputable def pendulumlaw22_IdealTells.c (m_ : Mode) : Callee := ⟨3, [.ag (.pair .bool (.lst (.pair .str (.pair (.lst .str) (.pair .str .str))))), .ag (.pair .bool (.lst (.pair .str (.pair (.lst .str) (.pair .str .str)))))], .one (.sh (.one .bool)), pendulumlaw22_IdealTells.run m_⟩
theorem pendulumlaw22_IdealTells.k (m_ : Mode) : ∀ v : Shs (pendulumlaw22_IdealTells.c m_).args, runS P (oras (pendulumlaw22_IdealTells.cs m_)) pendulumlaw22_IdealTells.inl [] [] (pendulumlaw22_IdealTells.c m_).res.fin 20000 false (start 3 (encs (pendulumlaw22_IdealTells.c m_).args v)) = pendulumlaw22_IdealTells.run m_ v := by
  intro v_; exact (match v_ with | (v, w, ()) => by kernel_rfl)
theorem pendulumlaw22_IdealTells.ok (m_ : Mode) : (pendulumlaw22_IdealTells.c m_).OK P := Callee.of_run (fun S0 w0 => (oras_ok (pendulumlaw22_IdealTells.csok m_))) (by kernel_rfl) (by rfl) (fun S0 w0 cs0 => all_nil) (fun x r h => (pendulumlaw22_IdealTells.k m_ x).trans h)

/-! ### pendulum/pendulumlaw22.short -/
noncomputable def pendulumlaw22_short.cs (m_ : Mode) : List Callee := []
theorem pendulumlaw22_short.csok (m_ : Mode) : ∀ k ∈ pendulumlaw22_short.cs m_, k.OK P := all_nil
def pendulumlaw22_short.inl : FuncId → Bool := fun f => [].any (Nat.beq f)
def pendulumlaw22_short.e0 : Spec := ⟨[{ fn := 13, items := [.code [.r, .r, .l, .r, .l, .l], .inLoop [.r, .r, .l, .r, .l, .l], .inBlock 0, .code [.r, .r, .r]], slots := [(0, .dat .str), (1, .dat (.lst .str)), (7, .dat (.int .i64)), (8, .dat (.int .i64))] }], [], 0⟩
def pendulumlaw22_short.x0 : List Spec := [⟨[{ fn := 13, items := [.code [.r, .r, .r]], slots := [(0, .dat .str), (1, .dat (.lst .str)), (7, .dat (.int .i64))] }], [], 0⟩]
noncomputable def pendulumlaw22_short.b0 (m_ : Mode) (self : (List Int) × (List (List Int)) × Int × Int × Unit → Option (((List Int) × (List (List Int)) × Int × Unit))) : (List Int) × (List (List Int)) × Int × Int × Unit → Option (((List Int) × (List (List Int)) × Int × Unit)) := fun v_ => match v_ with
| (key, ad, n, i, ()) =>
  bif smallI (ad.length : Int) then
  bif ((decide (i < (ad.length : Int))) && (decide (n ≤ (3000 : Int)))) then
    bif inB i (ad.length : Int) then
    bif smallI ((rd ([] : List Int) ad i).length : Int) then self (key, ad, (IntKind.i64.wrap (n + ((rd ([] : List Int) ad i).length : Int))), (IntKind.i64.wrap (i + (1 : Int))), ()) else none
    else none
  else
    some (key, ad, n, ())
  else none
theorem pendulumlaw22_short.k0 (m_ : Mode) : ∀ (self : Known pendulumlaw22_short.e0.sls → Option (Exits pendulumlaw22_short.x0)) (v : Known pendulumlaw22_short.e0.sls), runS P (oras (pendulumlaw22_short.cs m_)) pendulumlaw22_short.inl (⟨pendulumlaw22_short.e0, self⟩ :: exitCuts pendulumlaw22_short.x0 id) [] (fun _ _ => none) 20000 false (pendulumlaw22_short.e0.mk' v) = pendulumlaw22_short.b0 m_ self v := by
  intro self v_; exact (match v_ with | (key, ad, n, i, ()) => by kernel_rfl)
noncomputable def pendulumlaw22_short.l0 (m_ : Mode) : (List Int) × (List (List Int)) × Int × Int × Unit → Option (((List Int) × (List (List Int)) × Int × Unit)) := loop m_ (pendulumlaw22_short.b0 m_)
theorem pendulumlaw22_short.q0 (v) : pendulumlaw22_short.l0 .lim v = pendulumlaw22_short.b0 .lim (pendulumlaw22_short.l0 .lim) v := lfp_eq (cont_of_run (pendulumlaw22_short.k0 .lim)) v
noncomputable def pendulumlaw22_short.g0 (m_ : Mode) : Seg := ⟨pendulumlaw22_short.e0, pendulumlaw22_short.x0, pendulumlaw22_short.l0 m_⟩
theorem pendulumlaw22_short.s0 (m_ : Mode) (S0 w0 cs0) : SegGood P S0 w0 cs0 13 (pendulumlaw22_short.g0 m_) := seg_loop m_ (oras_ok (pendulumlaw22_short.csok m_)) (all_nil) (by rfl) (fun e he => List.all_eq_true.1 (show pendulumlaw22_short.x0.all Spec.ok = true by rfl) e he) (pendulumlaw22_short.k0 m_)
noncomputable def pendulumlaw22_short.run (m_ : Mode) : (List Int) × (List (List Int)) × (List Int) × Unit → Option (Bool) := fun v_ => match v_ with
| (key, ad, s, ()) =>
  bif smallI (s.length : Int) then
  bif smallI (key.length : Int) then
  (pendulumlaw22_short.l0 m_ (key, ad, (IntKind.i64.wrap ((s.length : Int) + (key.length : Int))), (0 : Int), ())).bind fun (key1, ad1, n, ()) =>
  bif ((!(decide (n ≤ (3000 : Int)))) || (smallI (ad1.length : Int))) then
  bif ((!(!((decide (n ≤ (3000 : Int))) && (decide ((ad1.length : Int) ≤ (200 : Int)))))) || (smallI (key1.length : Int))) then
  bif ((!((!((decide (n ≤ (3000 : Int))) && (decide ((ad1.length : Int) ≤ (200 : Int))))) && (!(decide ((key1.length : Int) = (32 : Int)))))) || (smallI (key1.length : Int))) then some (((decide (n ≤ (3000 : Int))) && (decide ((ad1.length : Int) ≤ (200 : Int)))) || (((!(decide ((key1.length : Int) = (32 : Int)))) && (!(decide ((key1.length : Int) = (64 : Int))))) && (decide (n ≤ (3000 : Int))))) else none
  else none
  else none
  else none
  else none
noncomputable def pendulumlaw22_short.c (m_ : Mode) : Callee := ⟨13, [.one .str, .one (.lst .str), .one .str], .one (.sh (.one .bool)), pendulumlaw22_short.run m_⟩
theorem pendulumlaw22_short.k (m_ : Mode) : ∀ v : Shs (pendulumlaw22_short.c m_).args, runS P (oras (pendulumlaw22_short.cs m_)) pendulumlaw22_short.inl [] [pendulumlaw22_short.g0 m_] (pendulumlaw22_short.c m_).res.fin 20000 false (start 13 (encs (pendulumlaw22_short.c m_).args v)) = pendulumlaw22_short.run m_ v := by
  intro v_; exact (match v_ with | (key, ad, s, ()) => by kernel_rfl)
theorem pendulumlaw22_short.ok (m_ : Mode) : (pendulumlaw22_short.c m_).OK P := Callee.of_run (fun S0 w0 => (oras_ok (pendulumlaw22_short.csok m_))) (by kernel_rfl) (by rfl) (fun S0 w0 cs0 => all_cons (pendulumlaw22_short.s0 m_ S0 w0 cs0) (all_nil)) (fun x r h => (pendulumlaw22_short.k m_ x).trans h)

/-! ### pendulum/siv.Open -/
noncomputable def siv_Open.cs (m_ : Mode) : List Callee := [slices_Clone_string_string.c m_, siv_halves.c m_, siv_stream.c m_, siv_xor.c m_, siv_maker_row.c m_, siv_zeros.c m_]
theorem siv_Open.csok (m_ : Mode) : ∀ k ∈ siv_Open.cs m_, k.OK P := all_cons (slices_Clone_string_string.ok m_) (all_cons (siv_halves.ok m_) (all_cons (siv_stream.ok m_) (all_cons (siv_xor.ok m_) (all_cons (siv_maker_row.ok m_) (all_cons (siv_zeros.ok m_) (all_nil))))))
def siv_Open.inl : FuncId → Bool := fun f => [].any (Nat.beq f)
noncomputable def siv_Open.run (m_ : Mode) : (List Int) × (List (List Int)) × (List Int) × Unit → Option ((List Int) × Int × Unit) := fun v_ => match v_ with
| (key, ad, sealed, ()) =>
  (siv_halves.run m_ (key, ad, ())).bind fun (r, r1, r2, ()) =>
  bif !(decide (r2 = (0 : Int))) then
    some (([] : List Int), r2, ())
  else
    bif smallI (sealed.length : Int) then
    bif decide ((sealed.length : Int) < (16 : Int)) then
      some (([] : List Int), (11 : Int), ())
    else
      bif smallI (sealed.length : Int) then
      bif decide ((sealed.length : Int) > (65552 : Int)) then
        some (([] : List Int), (12 : Int), ())
      else
        bif cutB (0 : Int) (16 : Int) (sealed.length : Int) then
        bif cutB (16 : Int) (sealed.length : Int) (sealed.length : Int) then
        (siv_stream.run m_ (r1, (cut sealed (0 : Int) (16 : Int)), (cut sealed (16 : Int) (sealed.length : Int)), ())).bind fun r3 =>
        (slices_Clone_string_string.run m_ (ad, ())).bind fun r4 =>
        bif decide (r4.length + ([r3] : List (List Int)).length < 4398046511104) then
        (siv_maker_row.run m_ (r, (r4 ++ ([r3] : List (List Int))), ())).bind fun r5 =>
        (siv_xor.run m_ ((cut sealed (0 : Int) (16 : Int)), r5, ())).bind fun r6 =>
        (siv_zeros.run m_ ((16 : Int), ())).bind fun r7 =>
        bif !(decide (r6 = r7)) then
          some (([] : List Int), (17 : Int), ())
        else
          some (r3, (0 : Int), ())
        else none
        else none
        else none
      else none
    else none
noncomputable def siv_Open.c (m_ : Mode) : Callee := ⟨94, [.one .str, .one (.lst .str), .one .str], .tup [.sh (.one .str), .sh (.one (.int .i64))], siv_Open.run m_⟩
theorem siv_Open.k (m_ : Mode) : ∀ v : Shs (siv_Open.c m_).args, runS P (oras (siv_Open.cs m_)) siv_Open.inl [] [] (siv_Open.c m_).res.fin 20000 false (start 94 (encs (siv_Open.c m_).args v)) = siv_Open.run m_ v := by
  intro v_; exact (match v_ with | (key, ad, sealed, ()) => by kernel_rfl)
theorem siv_Open.ok (m_ : Mode) : (siv_Open.c m_).OK P := Callee.of_run (fun S0 w0 => (oras_ok (siv_Open.csok m_))) (by kernel_rfl) (by rfl) (fun S0 w0 cs0 => all_nil) (fun x r h => (siv_Open.k m_ x).trans h)

/-! ### (pendulum/ideal.truth) .open -/
noncomputable def ideal_truth_open.cs (m_ : Mode) : List Callee := [siv_Open.c m_]
theorem ideal_truth_open.csok (m_ : Mode) : ∀ k ∈ ideal_truth_open.cs m_, k.OK P := all_cons (siv_Open.ok m_) (all_nil)
def ideal_truth_open.inl : FuncId → Bool := fun f => [].any (Nat.beq f)
noncomputable def ideal_truth_open.run (m_ : Mode) : Unit × (List Int × (List (List Int) × (List Int × List Int))) × Unit → Option ((List Int) × Int × Unit) := fun v_ => match v_ with
| (a, k, ()) =>
  (siv_Open.run m_ (k.1, k.2.1, k.2.2.2, ())).bind fun (r, r1, ()) =>
  some (r, r1, ())
noncomputable def ideal_truth_open.c (m_ : Mode) : Callee := ⟨92, [.ag .unit, .ag (.pair .str (.pair (.lst .str) (.pair .str .str)))], .tup [.sh (.one .str), .sh (.one (.int .i64))], ideal_truth_open.run m_⟩
theorem ideal_truth_open.k (m_ : Mode) : ∀ v : Shs (ideal_truth_open.c m_).args, runS P (oras (ideal_truth_open.cs m_)) ideal_truth_open.inl [] [] (ideal_truth_open.c m_).res.fin 20000 false (start 92 (encs (ideal_truth_open.c m_).args v)) = ideal_truth_open.run m_ v := by
  intro v_; exact (match v_ with | (a, k, ()) => by kernel_rfl)
theorem ideal_truth_open.ok (m_ : Mode) : (ideal_truth_open.c m_).OK P := Callee.of_run (fun S0 w0 => (oras_ok (ideal_truth_open.csok m_))) (by kernel_rfl) (by rfl) (fun S0 w0 cs0 => all_nil) (fun x r h => (ideal_truth_open.k m_ x).trans h)

/-! ### pendulum/ideal.Open -/
noncomputable def ideal_Open.cs (m_ : Mode) : List Callee := [ideal_refused.c m_, slices_Equal_string_string.c m_, ideal_truth_open.c m_]
theorem ideal_Open.csok (m_ : Mode) : ∀ k ∈ ideal_Open.cs m_, k.OK P := all_cons (ideal_refused.ok m_) (all_cons (slices_Equal_string_string.ok m_) (all_cons (ideal_truth_open.ok m_) (all_nil)))
def ideal_Open.inl : FuncId → Bool := fun f => [27, 34, 86, 88].any (Nat.beq f)
def ideal_Open.e0 : Spec := ⟨[{ fn := 34, items := [.code [.r, .l, .r, .l, .l], .inLoop [.r, .l, .r, .l, .l], .inBlock 0, .code [.r, .r]], slots := [(0, .dat (.lst (.pair .str (.pair (.lst .str) (.pair .str .str))))), (1, .fn (.func 88) [18]), (7, .dat (.int .i64)), (8, .dat (.int .i64))] }, { fn := 86, items := [.inRegion [.r, .r, .r, .l] [5, 6], .code [.r, .r, .r, .r]], slots := [(0, .ptr 11 0)] }, { fn := 16, items := [.inRegion [.r, .l] [6, 7, 8, 9, 10], .code [.r, .r]], slots := [] }], [(11, .cells false [.dat (.lst (.pair .str (.pair (.lst .str) (.pair .str .str))))]), (18, .cells false [.dat .str, .dat (.lst .str), .dat .str, .dat .str])], 19⟩
def ideal_Open.x0 : List Spec := [⟨[{ fn := 34, items := [.code [.r, .l, .r, .l, .l, .r, .r, .l, .l, .r, .r, .l, .r], .inBlock 1, .code [.r, .l, .r, .l, .l, .r, .r, .r], .inLoop [.r, .l, .r, .l, .l], .inBlock 0, .code [.r, .r]], slots := [(4, .dat (.int .i64))] }, { fn := 86, items := [.inRegion [.r, .r, .r, .l] [5, 6], .code [.r, .r, .r, .r]], slots := [(0, .ptr 11 0)] }, { fn := 16, items := [.inRegion [.r, .l] [6, 7, 8, 9, 10], .code [.r, .r]], slots := [] }], [(11, .cells false [.dat (.lst (.pair .str (.pair (.lst .str) (.pair .str .str))))])], 12⟩, ⟨[{ fn := 34, items := [.code [.r, .r]], slots := [] }, { fn := 86, items := [.inRegion [.r, .r, .r, .l] [5, 6], .code [.r, .r, .r, .r]], slots := [(0, .ptr 11 0)] }, { fn := 16, items := [.inRegion [.r, .l] [6, 7, 8, 9, 10], .code [.r, .r]], slots := [] }], [(11, .cells false [.dat (.lst (.pair .str (.pair (.lst .str) (.pair .str .str))))])], 12⟩]
noncomputable def ideal_Open.b0 (m_ : Mode) (self : (List (List Int × (List (List Int) × (List Int × List Int)))) × Int × Int × (List (List Int × (List (List Int) × (List Int × List Int)))) × (List Int) × (List (List Int)) × (List Int) × (List Int) × Unit → Option ((Int × (List (List Int × (List (List Int) × (List Int × List Int)))) × Unit) ⊕ ((List (List Int × (List (List Int) × (List Int × List Int)))) × Unit))) : (List (List Int × (List (List Int) × (List Int × List Int)))) × Int × Int × (List (List Int × (List (List Int) × (List Int × List Int)))) × (List Int) × (List (List Int)) × (List Int) × (List Int) × Unit → Option ((Int × (List (List Int × (List (List Int) × (List Int × List Int)))) × Unit) ⊕ ((List (List Int × (List (List Int) × (List Int × List Int)))) × Unit)) := fun v_ => match v_ with
| (s, t, t1, m, m1, m2, m3, m4, ()) =>
  bif decide (t1 < t) then
    bif inB t1 (s.length : Int) then
    ((bif ((decide (((((rd (([] : List Int), (([] : List (List Int)), (([] : List Int), ([] : List Int)))) s t1).2).2).2) = m4)) && (decide (((rd (([] : List Int), (([] : List (List Int)), (([] : List Int), ([] : List Int)))) s t1).1) = m1))) then slices_Equal_string_string.run m_ (((rd (([] : List Int), (([] : List (List Int)), (([] : List Int), ([] : List Int)))) s t1).2).1, m2, ()) else some false)).bind fun r =>
    bif (((decide (((((rd (([] : List Int), (([] : List (List Int)), (([] : List Int), ([] : List Int)))) s t1).2).2).2) = m4)) && (decide (((rd (([] : List Int), (([] : List (List Int)), (([] : List Int), ([] : List Int)))) s t1).1) = m1))) && r) then
      some (.inl (t1, m, ()))
    else
      self (s, t, (IntKind.i64.wrap (t1 + (1 : Int))), m, m1, m2, m3, m4, ())
    else none
  else
    some (.inr (m, ()))
theorem ideal_Open.k0 (m_ : Mode) : ∀ (self : Known ideal_Open.e0.sls → Option (Exits ideal_Open.x0)) (v : Known ideal_Open.e0.sls), runS P (oras (ideal_Open.cs m_)) ideal_Open.inl (⟨ideal_Open.e0, self⟩ :: exitCuts ideal_Open.x0 id) [] (fun _ _ => none) 20000 false (ideal_Open.e0.mk' v) = ideal_Open.b0 m_ self v := by
  intro self v_; exact (match v_ with | (s, t, t1, m, m1, m2, m3, m4, ()) => by kernel_rfl)
noncomputable def ideal_Open.l0 (m_ : Mode) : (List (List Int × (List (List Int) × (List Int × List Int)))) × Int × Int × (List (List Int × (List (List Int) × (List Int × List Int)))) × (List Int) × (List (List Int)) × (List Int) × (List Int) × Unit → Option ((Int × (List (List Int × (List (List Int) × (List Int × List Int)))) × Unit) ⊕ ((List (List Int × (List (List Int) × (List Int × List Int)))) × Unit)) := loop m_ (ideal_Open.b0 m_)
theorem ideal_Open.q0 (v) : ideal_Open.l0 .lim v = ideal_Open.b0 .lim (ideal_Open.l0 .lim) v := lfp_eq (cont_of_run (ideal_Open.k0 .lim)) v
noncomputable def ideal_Open.g0 (m_ : Mode) : Seg := ⟨ideal_Open.e0, ideal_Open.x0, ideal_Open.l0 m_⟩
theorem ideal_Open.s0 (m_ : Mode) (S0 w0 cs0) : SegGood P S0 w0 cs0 16 (ideal_Open.g0 m_) := seg_loop m_ (oras_ok (ideal_Open.csok m_)) (all_nil) (by rfl) (fun e he => List.all_eq_true.1 (show ideal_Open.x0.all Spec.ok = true by rfl) e he) (ideal_Open.k0 m_)
noncomputable def ideal_Open.run (m_ : Mode) : (Bool × List (List Int × (List (List Int) × (List Int × List Int)))) × (List Int) × (List (List Int)) × (List Int) × Unit → Option ((List Int) × Int × Unit) := fun v_ => match v_ with
| (v, key, ad, text, ()) =>
  bif v.1 then
    (ideal_refused.run m_ ((key, (ad, (([] : List Int), text))), ())).bind fun r =>
    bif !(decide (r = (0 : Int))) then
      some (([] : List Int), r, ())
    else
      bif smallI (text.length : Int) then
      bif decide ((text.length : Int) < (16 : Int)) then
        some (([] : List Int), (11 : Int), ())
      else
        bif smallI (text.length : Int) then
        bif decide ((text.length : Int) > (65552 : Int)) then
          some (([] : List Int), (12 : Int), ())
        else
          bif smallI (v.2.length : Int) then
          (ideal_Open.l0 m_ (v.2, (v.2.length : Int), (0 : Int), v.2, key, ad, ([] : List Int), text, ())).bind fun g_ => match g_ with
          | .inl (t, m, ()) =>
            bif decide (t < (0 : Int)) then
              some (([] : List Int), (17 : Int), ())
            else
              bif inB t (m.length : Int) then some ((((rd (([] : List Int), (([] : List (List Int)), (([] : List Int), ([] : List Int)))) m t).2).2).1, (0 : Int), ()) else none
          | .inr (m1, ()) =>
            some (([] : List Int), (17 : Int), ())
          else none
        else none
      else none
  else
    (ideal_truth_open.run m_ ((), (key, (ad, (([] : List Int), text))), ())).bind fun (r1, r2, ()) =>
    some (r1, r2, ())
noncomputable def ideal_Open.c (m_ : Mode) : Callee := ⟨16, [.ag (.pair .bool (.lst (.pair .str (.pair (.lst .str) (.pair .str .str))))), .one .str, .one (.lst .str), .one .str], .tup [.sh (.one .str), .sh (.one (.int .i64))], ideal_Open.run m_⟩
theorem ideal_Open.k (m_ : Mode) : ∀ v : Shs (ideal_Open.c m_).args, runS P (oras (ideal_Open.cs m_)) ideal_Open.inl [] [ideal_Open.g0 m_] (ideal_Open.c m_).res.fin 20000 false (start 16 (encs (ideal_Open.c m_).args v)) = ideal_Open.run m_ v := by
  intro v_; exact (match v_ with | (v, key, ad, text, ()) => by kernel_rfl)
theorem ideal_Open.ok (m_ : Mode) : (ideal_Open.c m_).OK P := Callee.of_run (fun S0 w0 => (oras_ok (ideal_Open.csok m_))) (by kernel_rfl) (by rfl) (fun S0 w0 cs0 => all_cons (ideal_Open.s0 m_ S0 w0 cs0) (all_nil)) (fun x r h => (ideal_Open.k m_ x).trans h)

/-! ### pendulum/pendulumlaw22.IdealForges -/
noncomputable def pendulumlaw22_IdealForges.cs (m_ : Mode) : List Callee := [pendulumref22_Light.c m_, pendulumlaw22_awake.t, pendulumref22_Fit.c m_, pendulumlaw22_short.c m_, ideal_Open.c m_]
theorem pendulumlaw22_IdealForges.csok (m_ : Mode) : ∀ k ∈ pendulumlaw22_IdealForges.cs m_, k.OK P := all_cons (pendulumref22_Light.ok m_) (all_cons pendulumlaw22_awake.okt (all_cons (pendulumref22_Fit.ok m_) (all_cons (pendulumlaw22_short.ok m_) (all_cons (ideal_Open.ok m_) (all_nil)))))
def pendulumlaw22_IdealForges.inl : FuncId → Bool := fun f => [].any (Nat.beq f)
def pendulumlaw22_IdealForges.e0 : Spec := ⟨[{ fn := 6, items := [.code [.r, .r, .r, .r, .l, .r, .l, .l, .r, .r, .l, .l, .r, .r, .l, .r, .l, .l], .inLoop [.r, .r, .r, .r, .l, .r, .l, .l, .r, .r, .l, .l, .r, .r, .l, .r, .l, .l], .inBlock 2, .code [.r, .r, .r, .r, .l, .r, .l, .l, .r, .r, .l, .l, .r, .r, .r], .inBlock 1, .code [.r, .r, .r, .r, .l, .r, .l, .l, .r, .r, .r], .inLoop [.r, .r, .r, .r, .l, .r, .l, .l], .inBlock 0, .code [.r, .r, .r, .r, .r]], slots := [(1, .dat .str), (2, .dat (.lst .str)), (3, .dat .str), (9, .dat .str), (12, .ptr 3 0), (13, .dat .bool), (14, .dat (.int .i64)), (52, .dat (.lst (.pair .str (.pair (.lst .str) (.pair .str .str))))), (53, .dat (.int .i64)), (54, .dat (.int .i64))] }], [(3, .cells false [.dat .str, .dat (.lst .str), .dat .str, .dat .str])], 4⟩
def pendulumlaw22_IdealForges.x0 : List Spec := [⟨[{ fn := 6, items := [.code [.r, .r, .r, .r, .l, .r, .l, .l, .r, .r, .l, .l, .r, .r, .r], .inBlock 1, .code [.r, .r, .r, .r, .l, .r, .l, .l, .r, .r, .r], .inLoop [.r, .r, .r, .r, .l, .r, .l, .l], .inBlock 0, .code [.r, .r, .r, .r, .r]], slots := [(1, .dat .str), (2, .dat (.lst .str)), (3, .dat .str), (9, .dat .str), (13, .dat .bool), (52, .dat (.lst (.pair .str (.pair (.lst .str) (.pair .str .str))))), (53, .dat (.int .i64)), (54, .dat (.int .i64))] }], [], 0⟩]
noncomputable def pendulumlaw22_IdealForges.b0 (m_ : Mode) (self : (List Int) × (List (List Int)) × (List Int) × (List Int) × Bool × Int × (List (List Int × (List (List Int) × (List Int × List Int)))) × Int × Int × (List Int) × (List (List Int)) × (List Int) × (List Int) × Unit → Option (((List Int) × (List (List Int)) × (List Int) × (List Int) × Bool × (List (List Int × (List (List Int) × (List Int × List Int)))) × Int × Int × Unit))) : (List Int) × (List (List Int)) × (List Int) × (List Int) × Bool × Int × (List (List Int × (List (List Int) × (List Int × List Int)))) × Int × Int × (List Int) × (List (List Int)) × (List Int) × (List Int) × Unit → Option (((List Int) × (List (List Int)) × (List Int) × (List Int) × Bool × (List (List Int × (List (List Int) × (List Int × List Int)))) × Int × Int × Unit)) := fun v_ => match v_ with
| (key, ad, t, p, same, i, t1, t2, t3, m, m1, m2, m3, ()) =>
  bif smallI (ad.length : Int) then
  bif ((decide (i < (ad.length : Int))) && same) then
    bif inB i (ad.length : Int) then
    bif inB i (m1.length : Int) then self (key, ad, t, p, decide ((rd ([] : List Int) ad i) = (rd ([] : List Int) m1 i)), (IntKind.i64.wrap (i + (1 : Int))), t1, t2, t3, m, m1, m2, m3, ()) else none
    else none
  else
    some (key, ad, t, p, same, t1, t2, t3, ())
  else none
theorem pendulumlaw22_IdealForges.k0 (m_ : Mode) : ∀ (self : Known pendulumlaw22_IdealForges.e0.sls → Option (Exits pendulumlaw22_IdealForges.x0)) (v : Known pendulumlaw22_IdealForges.e0.sls), runS P (oras (pendulumlaw22_IdealForges.cs m_)) pendulumlaw22_IdealForges.inl (⟨pendulumlaw22_IdealForges.e0, self⟩ :: exitCuts pendulumlaw22_IdealForges.x0 id) [] (fun _ _ => none) 20000 false (pendulumlaw22_IdealForges.e0.mk' v) = pendulumlaw22_IdealForges.b0 m_ self v := by
  intro self v_; exact (match v_ with | (key, ad, t, p, same, i, t1, t2, t3, m, m1, m2, m3, ()) => by kernel_rfl)
noncomputable def pendulumlaw22_IdealForges.l0 (m_ : Mode) : (List Int) × (List (List Int)) × (List Int) × (List Int) × Bool × Int × (List (List Int × (List (List Int) × (List Int × List Int)))) × Int × Int × (List Int) × (List (List Int)) × (List Int) × (List Int) × Unit → Option (((List Int) × (List (List Int)) × (List Int) × (List Int) × Bool × (List (List Int × (List (List Int) × (List Int × List Int)))) × Int × Int × Unit)) := loop m_ (pendulumlaw22_IdealForges.b0 m_)
theorem pendulumlaw22_IdealForges.q0 (v) : pendulumlaw22_IdealForges.l0 .lim v = pendulumlaw22_IdealForges.b0 .lim (pendulumlaw22_IdealForges.l0 .lim) v := lfp_eq (cont_of_run (pendulumlaw22_IdealForges.k0 .lim)) v
noncomputable def pendulumlaw22_IdealForges.g0 (m_ : Mode) : Seg := ⟨pendulumlaw22_IdealForges.e0, pendulumlaw22_IdealForges.x0, pendulumlaw22_IdealForges.l0 m_⟩
theorem pendulumlaw22_IdealForges.s0 (m_ : Mode) (S0 w0 cs0) : SegGood P S0 w0 cs0 6 (pendulumlaw22_IdealForges.g0 m_) := seg_loop m_ (oras_ok (pendulumlaw22_IdealForges.csok m_)) (all_nil) (by rfl) (fun e he => List.all_eq_true.1 (show pendulumlaw22_IdealForges.x0.all Spec.ok = true by rfl) e he) (pendulumlaw22_IdealForges.k0 m_)
def pendulumlaw22_IdealForges.e1 : Spec := ⟨[{ fn := 6, items := [.code [.r, .r, .r, .r, .l, .r, .l, .l], .inLoop [.r, .r, .r, .r, .l, .r, .l, .l], .inBlock 0, .code [.r, .r, .r, .r, .r]], slots := [(1, .dat .str), (2, .dat (.lst .str)), (3, .dat .str), (9, .dat .str), (52, .dat (.lst (.pair .str (.pair (.lst .str) (.pair .str .str))))), (53, .dat (.int .i64)), (54, .dat (.int .i64))] }], [], 0⟩
def pendulumlaw22_IdealForges.x1 : List Spec := [⟨[{ fn := 6, items := [.code [.r, .r, .r, .r, .l, .r, .l, .l, .r, .r, .l, .l, .r, .r, .r, .r, .l, .r], .inBlock 1, .code [.r, .r, .r, .r, .l, .r, .l, .l, .r, .r, .r], .inLoop [.r, .r, .r, .r, .l, .r, .l, .l], .inBlock 0, .code [.r, .r, .r, .r, .r]], slots := [(8, .dat .bool)] }], [], 0⟩, ⟨[{ fn := 6, items := [.code [.r, .r, .r, .r, .r]], slots := [] }], [], 0⟩]
noncomputable def pendulumlaw22_IdealForges.b1 (m_ : Mode) (self : (List Int) × (List (List Int)) × (List Int) × (List Int) × (List (List Int × (List (List Int) × (List Int × List Int)))) × Int × Int × Unit → Option ((Bool × Unit) ⊕ (Unit))) : (List Int) × (List (List Int)) × (List Int) × (List Int) × (List (List Int × (List (List Int) × (List Int × List Int)))) × Int × Int × Unit → Option ((Bool × Unit) ⊕ (Unit)) := fun v_ => match v_ with
| (key, ad, t, p, t1, t2, t3, ()) =>
  bif decide (t3 < t2) then
    bif inB t3 (t1.length : Int) then
    bif ((!(((decide (((rd (([] : List Int), (([] : List (List Int)), (([] : List Int), ([] : List Int)))) t1 t3).1) = key)) && (decide (((((rd (([] : List Int), (([] : List (List Int)), (([] : List Int), ([] : List Int)))) t1 t3).2).2).2) = t))) && (decide (((((rd (([] : List Int), (([] : List (List Int)), (([] : List Int), ([] : List Int)))) t1 t3).2).2).1) = p)))) || (smallI ((((rd (([] : List Int), (([] : List (List Int)), (([] : List Int), ([] : List Int)))) t1 t3).2).1).length : Int))) then
    bif ((!(((decide (((rd (([] : List Int), (([] : List (List Int)), (([] : List Int), ([] : List Int)))) t1 t3).1) = key)) && (decide (((((rd (([] : List Int), (([] : List (List Int)), (([] : List Int), ([] : List Int)))) t1 t3).2).2).2) = t))) && (decide (((((rd (([] : List Int), (([] : List (List Int)), (([] : List Int), ([] : List Int)))) t1 t3).2).2).1) = p)))) || (smallI (ad.length : Int))) then
    (pendulumlaw22_IdealForges.l0 m_ (key, ad, t, p, ((((decide (((rd (([] : List Int), (([] : List (List Int)), (([] : List Int), ([] : List Int)))) t1 t3).1) = key)) && (decide (((((rd (([] : List Int), (([] : List (List Int)), (([] : List Int), ([] : List Int)))) t1 t3).2).2).2) = t))) && (decide (((((rd (([] : List Int), (([] : List (List Int)), (([] : List Int), ([] : List Int)))) t1 t3).2).2).1) = p))) && (decide (((((rd (([] : List Int), (([] : List (List Int)), (([] : List Int), ([] : List Int)))) t1 t3).2).1).length : Int) = (ad.length : Int)))), (0 : Int), t1, t2, t3, (rd (([] : List Int), (([] : List (List Int)), (([] : List Int), ([] : List Int)))) t1 t3).1, ((rd (([] : List Int), (([] : List (List Int)), (([] : List Int), ([] : List Int)))) t1 t3).2).1, (((rd (([] : List Int), (([] : List (List Int)), (([] : List Int), ([] : List Int)))) t1 t3).2).2).1, (((rd (([] : List Int), (([] : List (List Int)), (([] : List Int), ([] : List Int)))) t1 t3).2).2).2, ())).bind fun (key1, ad1, t4, p1, same, t5, t6, t7, ()) =>
    bif same then
      (some true).bind fun r =>
      some (.inl (r, ()))
    else
      self (key1, ad1, t4, p1, t5, t6, (IntKind.i64.wrap (t7 + (1 : Int))), ())
    else none
    else none
    else none
  else
    some (.inr (()))
theorem pendulumlaw22_IdealForges.k1 (m_ : Mode) : ∀ (self : Known pendulumlaw22_IdealForges.e1.sls → Option (Exits pendulumlaw22_IdealForges.x1)) (v : Known pendulumlaw22_IdealForges.e1.sls), runS P (oras (pendulumlaw22_IdealForges.cs m_)) pendulumlaw22_IdealForges.inl (⟨pendulumlaw22_IdealForges.e1, self⟩ :: exitCuts pendulumlaw22_IdealForges.x1 id) [pendulumlaw22_IdealForges.g0 m_] (fun _ _ => none) 20000 false (pendulumlaw22_IdealForges.e1.mk' v) = pendulumlaw22_IdealForges.b1 m_ self v := by
  intro self v_; exact (match v_ with | (key, ad, t, p, t1, t2, t3, ()) => by kernel_rfl)
noncomputable def pendulumlaw22_IdealForges.l1 (m_ : Mode) : (List Int) × (List (List Int)) × (List Int) × (List Int) × (List (List Int × (List (List Int) × (List Int × List Int)))) × Int × Int × Unit → Option ((Bool × Unit) ⊕ (Unit)) := loop m_ (pendulumlaw22_IdealForges.b1 m_)
theorem pendulumlaw22_IdealForges.q1 (v) : pendulumlaw22_IdealForges.l1 .lim v = pendulumlaw22_IdealForges.b1 .lim (pendulumlaw22_IdealForges.l1 .lim) v := lfp_eq (cont_of_run (pendulumlaw22_IdealForges.k1 .lim)) v
noncomputable def pendulumlaw22_IdealForges.g1 (m_ : Mode) : Seg := ⟨pendulumlaw22_IdealForges.e1, pendulumlaw22_IdealForges.x1, pendulumlaw22_IdealForges.l1 m_⟩
theorem pendulumlaw22_IdealForges.s1 (m_ : Mode) (S0 w0 cs0) : SegGood P S0 w0 cs0 6 (pendulumlaw22_IdealForges.g1 m_) := seg_loop m_ (oras_ok (pendulumlaw22_IdealForges.csok m_)) (all_cons (pendulumlaw22_IdealForges.s0 m_ S0 w0 cs0) (all_nil)) (by rfl) (fun e he => List.all_eq_true.1 (show pendulumlaw22_IdealForges.x1.all Spec.ok = true by rfl) e he) (pendulumlaw22_IdealForges.k1 m_)
noncomputable def pendulumlaw22_IdealForges.run (m_ : Mode) : (Bool × List (List Int × (List (List Int) × (List Int × List Int)))) × (List Int) × (List (List Int)) × (List Int) × Unit → Option (Bool) := fun v_ => match v_ with
| (v, key, ad, t, ()) =>
  ((bif !!v.1 then pendulumref22_Light.run m_ (v, ()) else some false)).bind fun r =>
  ((bif !(!v.1 || !r) then pendulumref22_Fit.run m_ (v, ()) else some false)).bind fun r1 =>
  ((bif !((!v.1 || !r) || !r1) then pendulumlaw22_short.run m_ (key, ad, t, ()) else some false)).bind fun r2 =>
  bif (((!v.1 || !r) || !r1) || !r2) then
    (some true).bind fun r3 =>
    some r3
  else
    (ideal_Open.run m_ (v, key, ad, t, ())).bind fun (r4, r5, ()) =>
    bif !(decide (r5 = (0 : Int))) then
      ((bif decide (r4 = ([] : List Int)) then some true else some false)).bind fun r6 =>
      some ((decide (r4 = ([] : List Int))) && r6)
    else
      bif smallI (v.2.length : Int) then
      (pendulumlaw22_IdealForges.l1 m_ (key, ad, t, r4, v.2, (v.2.length : Int), (0 : Int), ())).bind fun g_ => match g_ with
      | .inl (t1, ()) =>
        some t1
      | .inr (()) =>
        some false
      else none
noncomputable def pendulumlaw22_IdealForges.c (m_ : Mode) : Callee := ⟨6, [.ag (.pair .bool (.lst (.pair .str (.pair (.lst .str) (.pair .str .str))))), .one .str, .one (.lst .str), .one .str], .one (.sh (.one .bool)), pendulumlaw22_IdealForges.run m_⟩
theorem pendulumlaw22_IdealForges.k (m_ : Mode) : ∀ v : Shs (pendulumlaw22_IdealForges.c m_).args, runS P (oras (pendulumlaw22_IdealForges.cs m_)) pendulumlaw22_IdealForges.inl [] [pendulumlaw22_IdealForges.g1 m_] (pendulumlaw22_IdealForges.c m_).res.fin 20000 false (start 6 (encs (pendulumlaw22_IdealForges.c m_).args v)) = pendulumlaw22_IdealForges.run m_ v := by
  intro v_; exact (match v_ with | (v, key, ad, t, ()) => by kernel_rfl)
theorem pendulumlaw22_IdealForges.ok (m_ : Mode) : (pendulumlaw22_IdealForges.c m_).OK P := Callee.of_run (fun S0 w0 => (oras_ok (pendulumlaw22_IdealForges.csok m_))) (by kernel_rfl) (by rfl) (fun S0 w0 cs0 => all_cons (pendulumlaw22_IdealForges.s1 m_ S0 w0 cs0) (all_nil)) (fun x r h => (pendulumlaw22_IdealForges.k m_ x).trans h)
end Go.AM
end
section
namespace Go.AM
/-! What is sealed: texts, and whether two are alike. -/
abbrev KK := List Int × List (List Int) × List Int × List Int
abbrev k0 : KK := ([], [], [], [])
theorem wk (k : Nat) (h : (k : Int) + 1 < 9223372036854775808) : IntKind.i64.wrap ((k : Int) + 1) = ((k + 1 : Nat) : Int) := by
  rw [wrap64 (by omega) (by omega)]; omega
theorem equal_eq (a b : List (List Int)) (ha : a.length < 9223372036854775808) (hb : b.length < 9223372036854775808) : slices_Equal_string_string.run .lim (a, b, ()) = some (decide (a = b)) := by
  simp only [slices_Equal_string_string.run, smallN ha, smallN hb, cond_true]
  by_cases hl : a.length = b.length
  · have e := loop_any (f := slices_Equal_string_string.l0 .lim) (fun k => (a, b, (a.length : Int), (k : Int), ())) a.length (fun k => !decide (rd ([] : List Int) a k = rd ([] : List Int) b k)) (some (.inl (false, ()))) (fun k hk => by
      rw [slices_Equal_string_string.q0]
      have w := wk k (by omega)
      simp (disch := omega) only [smallI_t, inB_t, cutB_t, wrap64, dec_t, dec_f, dec_not, dec_and, dec_or, cond_ite, cond_true, cond_false, Option.bind_some, Option.bind_none, Bool.or_true, Bool.true_or, Bool.and_true, Bool.true_and, Bool.and_false, Bool.false_and, Bool.or_false, Bool.false_or, Bool.not_true, Bool.not_false, Bool.or_self, Bool.and_self, Bool.not_not, if_true, if_false, and_self, true_and, and_true, and_false, false_and, or_true, true_or, or_false, false_or, not_true_eq_false, not_false_eq_true, decide_true, decide_false, eq_self, if_pos, if_neg, mx_eq, mn_eq, slices_Equal_string_string.b0, w])
    rw [any_ne hl] at e
    rw [cond_neg (by simp (disch := omega) only [smallI_t, inB_t, cutB_t, wrap64, dec_t, dec_f, dec_not, dec_and, dec_or, cond_ite, cond_true, cond_false, Option.bind_some, Option.bind_none, Bool.or_true, Bool.true_or, Bool.and_true, Bool.true_and, Bool.and_false, Bool.false_and, Bool.or_false, Bool.false_or, Bool.not_true, Bool.not_false, Bool.or_self, Bool.and_self, Bool.not_not, if_true, if_false, and_self, true_and, and_true, and_false, false_and, or_true, true_or, or_false, false_or, not_true_eq_false, not_false_eq_true, decide_true, decide_false, eq_self, if_pos, if_neg, mx_eq, mn_eq]), show (0 : Int) = ((0 : Nat) : Int) from rfl, e]
    by_cases h : a = b
    · simp (disch := omega) only [smallI_t, inB_t, cutB_t, wrap64, dec_t, dec_f, dec_not, dec_and, dec_or, cond_ite, cond_true, cond_false, Option.bind_some, Option.bind_none, Bool.or_true, Bool.true_or, Bool.and_true, Bool.true_and, Bool.and_false, Bool.false_and, Bool.or_false, Bool.false_or, Bool.not_true, Bool.not_false, Bool.or_self, Bool.and_self, Bool.not_not, if_true, if_false, and_self, true_and, and_true, and_false, false_and, or_true, true_or, or_false, false_or, not_true_eq_false, not_false_eq_true, decide_true, decide_false, eq_self, if_pos, if_neg, mx_eq, mn_eq]
      rw [slices_Equal_string_string.q0]
      simp (disch := omega) only [smallI_t, inB_t, cutB_t, wrap64, dec_t, dec_f, dec_not, dec_and, dec_or, cond_ite, cond_true, cond_false, Option.bind_some, Option.bind_none, Bool.or_true, Bool.true_or, Bool.and_true, Bool.true_and, Bool.and_false, Bool.false_and, Bool.or_false, Bool.false_or, Bool.not_true, Bool.not_false, Bool.or_self, Bool.and_self, Bool.not_not, if_true, if_false, and_self, true_and, and_true, and_false, false_and, or_true, true_or, or_false, false_or, not_true_eq_false, not_false_eq_true, decide_true, decide_false, eq_self, if_pos, if_neg, mx_eq, mn_eq, slices_Equal_string_string.b0]
    · simp (disch := omega) only [smallI_t, inB_t, cutB_t, wrap64, dec_t, dec_f, dec_not, dec_and, dec_or, cond_ite, cond_true, cond_false, Option.bind_some, Option.bind_none, Bool.or_true, Bool.true_or, Bool.and_true, Bool.true_and, Bool.and_false, Bool.false_and, Bool.or_false, Bool.false_or, Bool.not_true, Bool.not_false, Bool.or_self, Bool.and_self, Bool.not_not, if_true, if_false, and_self, true_and, and_true, and_false, false_and, or_true, true_or, or_false, false_or, not_true_eq_false, not_false_eq_true, decide_true, decide_false, eq_self, if_pos, if_neg, mx_eq, mn_eq]
  · rw [cond_pos (by simp (disch := omega) only [smallI_t, inB_t, cutB_t, wrap64, dec_t, dec_f, dec_not, dec_and, dec_or, cond_ite, cond_true, cond_false, Option.bind_some, Option.bind_none, Bool.or_true, Bool.true_or, Bool.and_true, Bool.true_and, Bool.and_false, Bool.false_and, Bool.or_false, Bool.false_or, Bool.not_true, Bool.not_false, Bool.or_self, Bool.and_self, Bool.not_not, if_true, if_false, and_self, true_and, and_true, and_false, false_and, or_true, true_or, or_false, false_or, not_true_eq_false, not_false_eq_true, decide_true, decide_false, eq_self, if_pos, if_neg, mx_eq, mn_eq]), dec_f (fun q => hl (by rw [q]))]
theorem texts_eq (a b : List (List Int)) (ha : a.length < 9223372036854775808) (hb : b.length < 9223372036854775808) : pendulumref22_texts.run .lim (a, b, ()) = some (decide (a = b)) := by
  simp only [pendulumref22_texts.run, smallN ha, smallN hb, cond_true]
  by_cases hl : a.length = b.length
  · have e := loop_any (f := pendulumref22_texts.l0 .lim) (fun k => (a, b, (k : Int), ())) a.length (fun k => !decide (rd ([] : List Int) a k = rd ([] : List Int) b k)) (some (.inl (false, ()))) (fun k hk => by
      rw [pendulumref22_texts.q0]
      have w := wk k (by omega)
      simp (disch := omega) only [smallI_t, inB_t, cutB_t, wrap64, dec_t, dec_f, dec_not, dec_and, dec_or, cond_ite, cond_true, cond_false, Option.bind_some, Option.bind_none, Bool.or_true, Bool.true_or, Bool.and_true, Bool.true_and, Bool.and_false, Bool.false_and, Bool.or_false, Bool.false_or, Bool.not_true, Bool.not_false, Bool.or_self, Bool.and_self, Bool.not_not, if_true, if_false, and_self, true_and, and_true, and_false, false_and, or_true, true_or, or_false, false_or, not_true_eq_false, not_false_eq_true, decide_true, decide_false, eq_self, if_pos, if_neg, mx_eq, mn_eq, pendulumref22_texts.b0, w])
    rw [any_ne hl] at e
    rw [cond_neg (by simp (disch := omega) only [smallI_t, inB_t, cutB_t, wrap64, dec_t, dec_f, dec_not, dec_and, dec_or, cond_ite, cond_true, cond_false, Option.bind_some, Option.bind_none, Bool.or_true, Bool.true_or, Bool.and_true, Bool.true_and, Bool.and_false, Bool.false_and, Bool.or_false, Bool.false_or, Bool.not_true, Bool.not_false, Bool.or_self, Bool.and_self, Bool.not_not, if_true, if_false, and_self, true_and, and_true, and_false, false_and, or_true, true_or, or_false, false_or, not_true_eq_false, not_false_eq_true, decide_true, decide_false, eq_self, if_pos, if_neg, mx_eq, mn_eq]), show (0 : Int) = ((0 : Nat) : Int) from rfl, e]
    by_cases h : a = b
    · simp (disch := omega) only [smallI_t, inB_t, cutB_t, wrap64, dec_t, dec_f, dec_not, dec_and, dec_or, cond_ite, cond_true, cond_false, Option.bind_some, Option.bind_none, Bool.or_true, Bool.true_or, Bool.and_true, Bool.true_and, Bool.and_false, Bool.false_and, Bool.or_false, Bool.false_or, Bool.not_true, Bool.not_false, Bool.or_self, Bool.and_self, Bool.not_not, if_true, if_false, and_self, true_and, and_true, and_false, false_and, or_true, true_or, or_false, false_or, not_true_eq_false, not_false_eq_true, decide_true, decide_false, eq_self, if_pos, if_neg, mx_eq, mn_eq]
      rw [pendulumref22_texts.q0]
      simp (disch := omega) only [smallI_t, inB_t, cutB_t, wrap64, dec_t, dec_f, dec_not, dec_and, dec_or, cond_ite, cond_true, cond_false, Option.bind_some, Option.bind_none, Bool.or_true, Bool.true_or, Bool.and_true, Bool.true_and, Bool.and_false, Bool.false_and, Bool.or_false, Bool.false_or, Bool.not_true, Bool.not_false, Bool.or_self, Bool.and_self, Bool.not_not, if_true, if_false, and_self, true_and, and_true, and_false, false_and, or_true, true_or, or_false, false_or, not_true_eq_false, not_false_eq_true, decide_true, decide_false, eq_self, if_pos, if_neg, mx_eq, mn_eq, pendulumref22_texts.b0]
    · simp (disch := omega) only [smallI_t, inB_t, cutB_t, wrap64, dec_t, dec_f, dec_not, dec_and, dec_or, cond_ite, cond_true, cond_false, Option.bind_some, Option.bind_none, Bool.or_true, Bool.true_or, Bool.and_true, Bool.true_and, Bool.and_false, Bool.false_and, Bool.or_false, Bool.false_or, Bool.not_true, Bool.not_false, Bool.or_self, Bool.and_self, Bool.not_not, if_true, if_false, and_self, true_and, and_true, and_false, false_and, or_true, true_or, or_false, false_or, not_true_eq_false, not_false_eq_true, decide_true, decide_false, eq_self, if_pos, if_neg, mx_eq, mn_eq]
  · rw [cond_pos (by simp (disch := omega) only [smallI_t, inB_t, cutB_t, wrap64, dec_t, dec_f, dec_not, dec_and, dec_or, cond_ite, cond_true, cond_false, Option.bind_some, Option.bind_none, Bool.or_true, Bool.true_or, Bool.and_true, Bool.true_and, Bool.and_false, Bool.false_and, Bool.or_false, Bool.false_or, Bool.not_true, Bool.not_false, Bool.or_self, Bool.and_self, Bool.not_not, if_true, if_false, and_self, true_and, and_true, and_false, false_and, or_true, true_or, or_false, false_or, not_true_eq_false, not_false_eq_true, decide_true, decide_false, eq_self, if_pos, if_neg, mx_eq, mn_eq]), dec_f (fun q => hl (by rw [q]))]
/-- key, texts that go along, and what is within are the same -/
def alk (a b : KK) : Bool := decide (a.1 = b.1) && decide (a.2.2.1 = b.2.2.1) && decide (a.2.1 = b.2.1)
theorem alk_symm (a b : KK) : alk a b = alk b a := by
  unfold alk
  rw [show decide (a.1 = b.1) = decide (b.1 = a.1) from by congr 1; exact propext ⟨Eq.symm, Eq.symm⟩, show decide (a.2.2.1 = b.2.2.1) = decide (b.2.2.1 = a.2.2.1) from by congr 1; exact propext ⟨Eq.symm, Eq.symm⟩, show decide (a.2.1 = b.2.1) = decide (b.2.1 = a.2.1) from by congr 1; exact propext ⟨Eq.symm, Eq.symm⟩]
theorem alike_eq (a b : KK) (ha : a.2.1.length < 9223372036854775808) (hb : b.2.1.length < 9223372036854775808) : ideal_alike.run .lim (a, b, ()) = some (alk a b) := by
  simp only [ideal_alike.run, equal_eq _ _ ha hb]
  unfold alk
  cases decide (a.1 = b.1) && decide (a.2.2.1 = b.2.2.1) <;> rfl
theorem ralike_eq (a b : KK) (ha : a.2.1.length < 9223372036854775808) (hb : b.2.1.length < 9223372036854775808) : pendulumref22_alike.run .lim (a, b, ()) = some (alk a b) := by
  simp only [pendulumref22_alike.run, texts_eq _ _ ha hb]
  unfold alk
  cases decide (a.1 = b.1) && decide (a.2.2.1 = b.2.2.1) <;> rfl
/-! Numbers as texts. -/
def byteOf (n : Int) (k : Nat) : Int := (n / 256 ^ k) % 256
/-- a number's 16 bytes, the highest first -/
def num16 (n : Int) : List Int := (List.range 16).map fun i => byteOf n (15 - i)
def txt (n : Int) (plain : List Int) : List Int := num16 n ++ List.replicate plain.length 0
theorem rep0 : ∀ n : Nat, repL [0] n = List.replicate n 0
  | 0 => rfl
  | n + 1 => by rw [repL, rep0 n]; rfl
/-- a row's last k places hold the number's bytes -/
def part (n : Int) (k : Nat) : List Int := (List.range 16).map fun i => if i < 16 - k then 0 else byteOf n (15 - i)
theorem part_zero (n : Int) : part n 0 = List.replicate 16 0 := by
  unfold part
  rw [List.eq_replicate_iff]
  refine ⟨by simp, fun b hb => ?_⟩
  obtain ⟨i, hi, rfl⟩ := List.mem_map.1 hb
  rw [if_pos (by have := List.mem_range.1 hi; omega)]
theorem part_len (n : Int) (k : Nat) : (part n k).length = 16 := by simp [part]
theorem part_set (n : Int) (k : Nat) (hk : k < 16) : (part n k).set (15 - k) (byteOf n k) = part n (k + 1) := by
  apply List.ext_getElem (by simp [part])
  intro i h1 h2
  have hi : i < 16 := by rw [List.length_set, part_len] at h1; exact h1
  rw [List.getElem_set]
  simp only [part, List.getElem_map, List.getElem_range]
  split
  · rw [if_neg (by omega)]; congr 1; omega
  · by_cases h : i < 16 - (k + 1)
    · rw [if_pos (by omega), if_pos h]
    · rw [if_neg (by omega), if_neg h]
theorem part_end (n : Int) : part n 16 = num16 n := by
  unfold part num16
  apply List.map_congr_left
  intro i _; rw [if_neg (by omega)]
theorem byteOf_high {n : Int} (h0 : 0 ≤ n) (h1 : n < 9223372036854775808) {k : Nat} (hk : 8 ≤ k) : byteOf n k = 0 := by
  unfold byteOf
  rw [Int.ediv_eq_zero_of_lt h0]; · rfl
  obtain ⟨j, rfl⟩ : ∃ j, k = 8 + j := ⟨k - 8, by omega⟩
  rw [Int.pow_add]
  have : (0 : Int) < 256 ^ j := Int.pow_pos (by omega)
  have h2 : (256 : Int) ^ 8 * 1 ≤ 256 ^ 8 * 256 ^ j := Int.mul_le_mul_of_nonneg_left (by omega) (by decide)
  have h3 : (256 : Int) ^ 8 = 18446744073709551616 := by decide
  rw [h3] at h2 ⊢; omega
theorem part8 {n : Int} (h0 : 0 ≤ n) (h1 : n < 9223372036854775808) : part n 8 = num16 n := by
  unfold part num16
  apply List.map_congr_left
  intro i _
  split
  · rw [byteOf_high h0 h1 (by omega)]
  · rfl
theorem number_eq (n : Int) (plain : List Int) (h0 : 0 ≤ n) (h1 : n < 9223372036854775808) (hp : plain.length ≤ 100000) : ideal_number.run .lim (n, plain, ()) = some (txt n plain) := by
  have e := loop_to (f := ideal_number.l0 .lim) (fun k => (n, plain, (k : Int), part n k, ())) (n := 8) (fun k hk => by
    rw [ideal_number.q0]
    have w := wk k (by omega)
    have w2 : IntKind.i64.wrap ((8 : Int) * k) = ((8 * k : Nat) : Int) := by rw [wrap64 (by omega) (by omega)]; omega
    have w3 : IntKind.i64.wrap ((15 : Int) - k) = ((15 - k : Nat) : Int) := by rw [wrap64 (by omega) (by omega)]; omega
    have hb : IntKind.u8.wrap (ishr .i64 n ((8 * k : Nat) : Int)) = byteOf n k := by
      rw [wrapu8]
      unfold ishr byteOf
      rw [Int.toNat_natCast, show min (8 * k) (IntKind.bits .i64) = 8 * k from by show min (8 * k) 64 = _; omega, Int.fdiv_eq_ediv_of_nonneg _ (Int.le_of_lt (Int.pow_pos (by omega))), Int.pow_mul]
      rfl
    simp (disch := omega) only [smallI_t, inB_t, cutB_t, wrap64, dec_t, dec_f, dec_not, dec_and, dec_or, cond_ite, cond_true, cond_false, Option.bind_some, Option.bind_none, Bool.or_true, Bool.true_or, Bool.and_true, Bool.true_and, Bool.and_false, Bool.false_and, Bool.or_false, Bool.false_or, Bool.not_true, Bool.not_false, Bool.or_self, Bool.and_self, Bool.not_not, if_true, if_false, and_self, true_and, and_true, and_false, false_and, or_true, true_or, or_false, false_or, not_true_eq_false, not_false_eq_true, decide_true, decide_false, eq_self, if_pos, if_neg, mx_eq, mn_eq, ideal_number.b0, w, w2, w3, hb, Int.toNat_natCast, part_set])
  rw [part_zero, show ((0 : Nat) : Int) = 0 from rfl] at e
  simp only [ideal_number.run, e]
  rw [ideal_number.q0]
  have hr : strings_Repeat.run .lim ([0], (plain.length : Int), ()) = some (List.replicate plain.length 0) := by
    show repF _ = _
    unfold repF
    rw [cond_pos (by simp; omega), Int.toNat_natCast, rep0]
  simp (disch := omega) only [smallI_t, inB_t, cutB_t, wrap64, dec_t, dec_f, dec_not, dec_and, dec_or, cond_ite, cond_true, cond_false, Option.bind_some, Option.bind_none, Bool.or_true, Bool.true_or, Bool.and_true, Bool.true_and, Bool.and_false, Bool.false_and, Bool.or_false, Bool.false_or, Bool.not_true, Bool.not_false, Bool.or_self, Bool.and_self, Bool.not_not, if_true, if_false, and_self, true_and, and_true, and_false, false_and, or_true, true_or, or_false, false_or, not_true_eq_false, not_false_eq_true, decide_true, decide_false, eq_self, if_pos, if_neg, mx_eq, mn_eq, ideal_number.b0, smallN (show plain.length < 9223372036854775808 by omega), hr]
  rw [part8 h0 h1, List.drop_zero, List.take_of_length_le (by simp [num16]), if_pos]
  · rfl
  · rw [List.length_replicate, num16, List.length_map, List.length_range]; unfold maxStr; omega
theorem rtext_eq (n : Int) (plain : List Int) (h0 : 0 ≤ n) (h1 : n < 9223372036854775808) (hp : plain.length ≤ 100000) : pendulumref22_text.run .lim (n, plain, ()) = some (txt n plain) := by
  have w0 : IntKind.i64.wrap ((16 : Int) + plain.length) = ((16 + plain.length : Nat) : Int) := by rw [wrap64 (by omega) (by omega)]; omega
  have e := loop_to (f := pendulumref22_text.l0 .lim) (fun k => (n / 256 ^ k, (15 : Int) - k, part n k ++ List.replicate plain.length 0, ())) (n := 16) (fun k hk => by
    rw [pendulumref22_text.q0]
    have hn : 0 ≤ n / 256 ^ k := Int.ediv_nonneg h0 (Int.le_of_lt (Int.pow_pos (by omega)))
    have hn2 : n / 256 ^ k ≤ n := Int.ediv_le_self _ h0
    have w1 : IntKind.i64.wrap ((n / 256 ^ k).tdiv 256) = n / 256 ^ (k + 1) := by
      rw [Int.tdiv_eq_ediv_of_nonneg hn, Int.ediv_ediv_of_nonneg (Int.le_of_lt (Int.pow_pos (by omega))), show (256 : Int) ^ k * 256 = 256 ^ (k + 1) from (Int.pow_succ _ _).symm]
      have : n / 256 ^ (k + 1) ≤ n := Int.ediv_le_self _ h0
      have : 0 ≤ n / 256 ^ (k + 1) := Int.ediv_nonneg h0 (Int.le_of_lt (Int.pow_pos (by omega)))
      rw [wrap64 (by omega) (by omega)]
    have w2 : IntKind.i64.wrap ((15 : Int) - k - 1) = (15 : Int) - (k + 1 : Nat) := by rw [wrap64 (by omega) (by omega)]; omega
    have hb : IntKind.u8.wrap ((n / 256 ^ k).tmod 256) = byteOf n k := by
      rw [wrapu8, Int.tmod_eq_emod_of_nonneg hn]; unfold byteOf; omega
    have hl : (part n k ++ List.replicate plain.length 0).length = 16 + plain.length := by simp [part_len]
    have ht : ((15 : Int) - k).toNat = 15 - k := by omega
    have hs : (part n k ++ List.replicate plain.length (0 : Int)).set (15 - k) (byteOf n k) = part n (k + 1) ++ List.replicate plain.length 0 := by
      rw [List.set_append_left _ _ (by rw [part_len]; omega), part_set n k hk]
    simp (disch := omega) only [smallI_t, inB_t, cutB_t, wrap64, dec_t, dec_f, dec_not, dec_and, dec_or, cond_ite, cond_true, cond_false, Option.bind_some, Option.bind_none, Bool.or_true, Bool.true_or, Bool.and_true, Bool.true_and, Bool.and_false, Bool.false_and, Bool.or_false, Bool.false_or, Bool.not_true, Bool.not_false, Bool.or_self, Bool.and_self, Bool.not_not, if_true, if_false, and_self, true_and, and_true, and_false, false_and, or_true, true_or, or_false, false_or, not_true_eq_false, not_false_eq_true, decide_true, decide_false, eq_self, if_pos, if_neg, mx_eq, mn_eq, pendulumref22_text.b0, w1, w2, hb, hl, ht, hs])
  have hz : List.replicate (16 + plain.length) (0 : Int) = part n 0 ++ List.replicate plain.length 0 := by rw [part_zero, List.replicate_append_replicate]
  rw [Int.pow_zero, Int.ediv_one, show (15 : Int) - ((0 : Nat) : Int) = 15 from rfl] at e
  simp only [pendulumref22_text.run, w0, Int.toNat_natCast, hz, e]
  rw [pendulumref22_text.q0]
  simp (disch := omega) only [smallI_t, inB_t, cutB_t, wrap64, dec_t, dec_f, dec_not, dec_and, dec_or, cond_ite, cond_true, cond_false, Option.bind_some, Option.bind_none, Bool.or_true, Bool.true_or, Bool.and_true, Bool.true_and, Bool.and_false, Bool.false_and, Bool.or_false, Bool.false_or, Bool.not_true, Bool.not_false, Bool.or_self, Bool.and_self, Bool.not_not, if_true, if_false, and_self, true_and, and_true, and_false, false_and, or_true, true_or, or_false, false_or, not_true_eq_false, not_false_eq_true, decide_true, decide_false, eq_self, if_pos, if_neg, mx_eq, mn_eq, pendulumref22_text.b0, smallN (show plain.length < 9223372036854775808 by omega)]
  rw [cond_pos (by rw [Nat.blt_eq]; omega), part_end]
  rfl
end Go.AM
end
section
namespace Go.AM
/-! Which vaults can be, and which are the same. -/
abbrev VV := Bool × List KK
/-- lengths that Go's whole numbers hold -/
def okK (k : KK) : Prop := k.1.length < 9223372036854775808 ∧ k.2.1.length < 9223372036854775808 ∧ (∀ s ∈ k.2.1, s.length < 9223372036854775808) ∧ k.2.2.1.length < 9223372036854775808 ∧ k.2.2.2.length < 9223372036854775808
def okV (v : VV) : Prop := v.2.length < 9223372036854775808 ∧ ∀ k ∈ v.2, okK k
theorem okV.at {v : VV} (h : okV v) {k : Nat} (hk : k < v.2.length) : okK (rd k0 v.2 (k : Int)) := h.2 _ (rd_mem (by omega) (by omega))
/-- the error of a key, and of the texts that go along -/
def refE (k : KK) : Int := if k.1.length ≠ 32 ∧ k.1.length ≠ 64 then 13 else if k.2.1.length > 126 then 18 else 0
theorem refused_eq (k : KK) (h : k.1.length < 9223372036854775808) (h2 : k.2.1.length < 9223372036854775808) : ideal_refused.run .lim (k, ()) = some (refE k) := by
  unfold refE
  simp only [ideal_refused.run, smallN h, smallN h2, cond_true, Bool.or_true]
  by_cases h3 : k.1.length ≠ 32 ∧ k.1.length ≠ 64
  · rw [cond_pos (by simp (disch := omega) only [smallI_t, inB_t, cutB_t, wrap64, dec_t, dec_f, dec_not, dec_and, dec_or, cond_ite, cond_true, cond_false, Option.bind_some, Option.bind_none, Bool.or_true, Bool.true_or, Bool.and_true, Bool.true_and, Bool.and_false, Bool.false_and, Bool.or_false, Bool.false_or, Bool.not_true, Bool.not_false, Bool.or_self, Bool.and_self, Bool.not_not, if_true, if_false, and_self, true_and, and_true, and_false, false_and, or_true, true_or, or_false, false_or, not_true_eq_false, not_false_eq_true, decide_true, decide_false, eq_self, if_pos, if_neg, mx_eq, mn_eq, dec_t (show ¬ ((k.1.length : Int) = 32) by omega), dec_t (show ¬ ((k.1.length : Int) = 64) by omega)]), if_pos h3]
  · rw [cond_neg, if_neg h3]
    · by_cases h4 : k.2.1.length > 126 <;> simp (disch := omega) only [smallI_t, inB_t, cutB_t, wrap64, dec_t, dec_f, dec_not, dec_and, dec_or, cond_ite, cond_true, cond_false, Option.bind_some, Option.bind_none, Bool.or_true, Bool.true_or, Bool.and_true, Bool.true_and, Bool.and_false, Bool.false_and, Bool.or_false, Bool.false_or, Bool.not_true, Bool.not_false, Bool.or_self, Bool.and_self, Bool.not_not, if_true, if_false, and_self, true_and, and_true, and_false, false_and, or_true, true_or, or_false, false_or, not_true_eq_false, not_false_eq_true, decide_true, decide_false, eq_self, if_pos, if_neg, mx_eq, mn_eq]
    · by_cases h4 : k.1.length = 32
      · simp (disch := omega) only [smallI_t, inB_t, cutB_t, wrap64, dec_t, dec_f, dec_not, dec_and, dec_or, cond_ite, cond_true, cond_false, Option.bind_some, Option.bind_none, Bool.or_true, Bool.true_or, Bool.and_true, Bool.true_and, Bool.and_false, Bool.false_and, Bool.or_false, Bool.false_or, Bool.not_true, Bool.not_false, Bool.or_self, Bool.and_self, Bool.not_not, if_true, if_false, and_self, true_and, and_true, and_false, false_and, or_true, true_or, or_false, false_or, not_true_eq_false, not_false_eq_true, decide_true, decide_false, eq_self, if_pos, if_neg, mx_eq, mn_eq]
      · simp (disch := omega) only [smallI_t, inB_t, cutB_t, wrap64, dec_t, dec_f, dec_not, dec_and, dec_or, cond_ite, cond_true, cond_false, Option.bind_some, Option.bind_none, Bool.or_true, Bool.true_or, Bool.and_true, Bool.true_and, Bool.and_false, Bool.false_and, Bool.or_false, Bool.false_or, Bool.not_true, Bool.not_false, Bool.or_self, Bool.and_self, Bool.not_not, if_true, if_false, and_self, true_and, and_true, and_false, false_and, or_true, true_or, or_false, false_or, not_true_eq_false, not_false_eq_true, decide_true, decide_false, eq_self, if_pos, if_neg, mx_eq, mn_eq]
/-- what is not fit at a place -/
def badK (xs : List KK) (i : Nat) : Bool :=
  !decide (refE (rd k0 xs i) = 0) || decide ((rd k0 xs i).2.2.1.length > 65536) || !decide ((rd k0 xs i).2.2.2 = txt ((i : Int) + 1) (rd k0 xs i).2.2.1) || (List.range i).any fun j => alk (rd k0 xs j) (rd k0 xs i)
def fitV (v : VV) : Bool := bif v.1 then decide (v.2.length ≤ 2048) && !((List.range v.2.length).any (badK v.2)) else decide (v.2.length = 0)
theorem cut0 {α : Type} (xs : List α) (k : Nat) : cut xs 0 (k : Int) = xs.take k := by unfold cut; simp
theorem fit_in (xs ys zs : List KK) (q : KK) (t b : Bool) (n kk : Int) (hy : ys.length < 9223372036854775808) (hok : ∀ k ∈ ys, okK k) (hq : okK q) :
    ∃ j : Nat, ideal_Fit.l0 .lim (ys, (ys.length : Int), 0, xs, n, kk, t, b, zs, q.1, q.2.1, q.2.2.1, q.2.2.2, ()) = bif (List.range ys.length).any (fun j => alk (rd k0 ys j) q) then some (.inl ((j : Int), xs, n, kk, t, b, zs, ())) else some (.inr (xs, n, kk, t, b, zs, ())) := by
  obtain ⟨j, _, e⟩ := loop_hit (f := ideal_Fit.l0 .lim) (fun j => (ys, (ys.length : Int), (j : Int), xs, n, kk, t, b, zs, q.1, q.2.1, q.2.2.1, q.2.2.2, ())) ys.length (fun j => alk (rd k0 ys j) q) (fun j => some (.inl ((j : Int), xs, n, kk, t, b, zs, ()))) (fun k hk => by
    rw [ideal_Fit.q0]
    have ha := alike_eq (rd k0 ys k) q (hok _ (rd_mem (by omega) (by omega))).2.1 hq.2.1
    simp (disch := omega) only [smallI_t, inB_t, cutB_t, wrap64, dec_t, dec_f, dec_not, dec_and, dec_or, cond_ite, cond_true, cond_false, Option.bind_some, Option.bind_none, Bool.or_true, Bool.true_or, Bool.and_true, Bool.true_and, Bool.and_false, Bool.false_and, Bool.or_false, Bool.false_or, Bool.not_true, Bool.not_false, Bool.or_self, Bool.and_self, Bool.not_not, if_true, if_false, and_self, true_and, and_true, and_false, false_and, or_true, true_or, or_false, false_or, not_true_eq_false, not_false_eq_true, decide_true, decide_false, eq_self, if_pos, if_neg, mx_eq, mn_eq, ideal_Fit.b0, wk k (by omega), ha])
  refine ⟨j, e.trans ?_⟩
  rw [ideal_Fit.q0]
  simp (disch := omega) only [smallI_t, inB_t, cutB_t, wrap64, dec_t, dec_f, dec_not, dec_and, dec_or, cond_ite, cond_true, cond_false, Option.bind_some, Option.bind_none, Bool.or_true, Bool.true_or, Bool.and_true, Bool.true_and, Bool.and_false, Bool.false_and, Bool.or_false, Bool.false_or, Bool.not_true, Bool.not_false, Bool.or_self, Bool.and_self, Bool.not_not, if_true, if_false, and_self, true_and, and_true, and_false, false_and, or_true, true_or, or_false, false_or, not_true_eq_false, not_false_eq_true, decide_true, decide_false, eq_self, if_pos, if_neg, mx_eq, mn_eq, ideal_Fit.b0]
theorem rd_take' {α : Type} {d : α} {xs : List α} {n k : Nat} (hk : k < n) : rd d (xs.take n) (k : Int) = rd d xs (k : Int) := rd_take hk
theorem fit_eq (v : VV) (h : okV v) : ideal_Fit.run .lim (v, ()) = some (fitV v) := by
  obtain ⟨b, xs⟩ := v
  have hx : xs.length < 9223372036854775808 := h.1
  unfold fitV
  simp only [ideal_Fit.run, smallN hx]
  cases b with
  | false => simp only [cond_true, cond_false, Option.bind_some, Option.bind_none, Bool.or_true, Bool.true_or, Bool.and_true, Bool.true_and, Bool.and_false, Bool.false_and, Bool.or_false, Bool.false_or, Bool.not_true, Bool.not_false, Bool.or_self, Bool.and_self, Bool.not_not]; congr 2; simp
  | true =>
    simp only [cond_true, cond_false, Option.bind_some, Option.bind_none, Bool.or_true, Bool.true_or, Bool.and_true, Bool.true_and, Bool.and_false, Bool.false_and, Bool.or_false, Bool.false_or, Bool.not_true, Bool.not_false, Bool.or_self, Bool.and_self, Bool.not_not]
    by_cases h1 : xs.length ≤ 2048
    · have e := loop_any (f := ideal_Fit.l1 .lim) (fun k => (xs, (xs.length : Int), (k : Int), true, xs, ())) xs.length (badK xs) (some (.inl (false, ()))) (fun k hk => by
        rw [ideal_Fit.q1]
        have w := wk k (by omega)
        have hk' : okK (rd k0 xs k) := h.at (v := (true, xs)) hk
        have hr := refused_eq (rd k0 xs k) hk'.1 hk'.2.1
        have hp := hk'.2.2.2.1
        have hl : (xs.take k).length = k := by rw [List.length_take]; omega
        have hn := fun hh => number_eq ((k : Int) + 1) (rd k0 xs k).2.2.1 (by omega) (by omega) hh
        obtain ⟨j, e2⟩ := fit_in xs (xs.take k) xs (rd k0 xs k) false true xs.length k (by omega) (fun q hq => h.2 q (List.mem_of_mem_take hq)) hk'
        rw [hl, any_congr (fun j hj => by rw [rd_take hj])] at e2
        unfold badK
        simp only [ideal_Fit.b1, cut0, hl, dec_t (show (k : Int) < (xs.length : Int) by omega), inB_t (show (0 : Int) ≤ k by omega) (show (k : Int) < xs.length by omega), hr, smallN hp, w, cutB_t (Int.le_refl 0) (show (0 : Int) ≤ k by omega) (show (k : Int) ≤ xs.length by omega), smallN (show k < 9223372036854775808 by omega)]
        rw [show ((k + 1 : Nat) : Int) = (k : Int) + 1 by omega]
        simp only [cond_true, cond_false, Option.bind_some, Option.bind_none, Bool.or_true, Bool.true_or, Bool.and_true, Bool.true_and, Bool.and_false, Bool.false_and, Bool.or_false, Bool.false_or, Bool.not_true, Bool.not_false, Bool.or_self, Bool.and_self, Bool.not_not]
        by_cases c1 : refE (rd k0 xs k) = 0
        · by_cases c2 : (rd k0 xs k).2.2.1.length > 65536
          · simp only [dec_t c1, dec_t c2, dec_t (show ((rd k0 xs k).2.2.1.length : Int) > 65536 by omega)]
            simp only [cond_true, cond_false, Option.bind_some, Option.bind_none, Bool.or_true, Bool.true_or, Bool.and_true, Bool.true_and, Bool.and_false, Bool.false_and, Bool.or_false, Bool.false_or, Bool.not_true, Bool.not_false, Bool.or_self, Bool.and_self, Bool.not_not]
          · simp only [dec_t c1, dec_f c2, dec_f (show ¬ ((rd k0 xs k).2.2.1.length : Int) > 65536 by omega)]
            rw [hn (by omega)]
            simp only [cond_true, cond_false, Option.bind_some, Option.bind_none, Bool.or_true, Bool.true_or, Bool.and_true, Bool.true_and, Bool.and_false, Bool.false_and, Bool.or_false, Bool.false_or, Bool.not_true, Bool.not_false, Bool.or_self, Bool.and_self, Bool.not_not]
            by_cases c3 : (rd k0 xs k).2.2.2 = txt ((k : Int) + 1) (rd k0 xs k).2.2.1
            · simp only [dec_t c3]
              simp only [cond_true, cond_false, Option.bind_some, Option.bind_none, Bool.or_true, Bool.true_or, Bool.and_true, Bool.true_and, Bool.and_false, Bool.false_and, Bool.or_false, Bool.false_or, Bool.not_true, Bool.not_false, Bool.or_self, Bool.and_self, Bool.not_not]
              rw [e2]
              cases (List.range k).any fun j => alk (rd k0 xs j) (rd k0 xs k)
              · simp only [cond_true, cond_false, Option.bind_some, Option.bind_none, Bool.or_true, Bool.true_or, Bool.and_true, Bool.true_and, Bool.and_false, Bool.false_and, Bool.or_false, Bool.false_or, Bool.not_true, Bool.not_false, Bool.or_self, Bool.and_self, Bool.not_not]; rw [show IntKind.i64.wrap ((k : Int) + 1) = (k : Int) + 1 by rw [w]; omega]
              · simp only [cond_true, cond_false, Option.bind_some, Option.bind_none, Bool.or_true, Bool.true_or, Bool.and_true, Bool.true_and, Bool.and_false, Bool.false_and, Bool.or_false, Bool.false_or, Bool.not_true, Bool.not_false, Bool.or_self, Bool.and_self, Bool.not_not]; rw [dec_t (by omega)]; rfl
            · simp only [dec_f c3]
              simp only [cond_true, cond_false, Option.bind_some, Option.bind_none, Bool.or_true, Bool.true_or, Bool.and_true, Bool.true_and, Bool.and_false, Bool.false_and, Bool.or_false, Bool.false_or, Bool.not_true, Bool.not_false, Bool.or_self, Bool.and_self, Bool.not_not]
        · simp only [dec_f c1]
          simp only [cond_true, cond_false, Option.bind_some, Option.bind_none, Bool.or_true, Bool.true_or, Bool.and_true, Bool.true_and, Bool.and_false, Bool.false_and, Bool.or_false, Bool.false_or, Bool.not_true, Bool.not_false, Bool.or_self, Bool.and_self, Bool.not_not])
      rw [show ((0 : Nat) : Int) = 0 from rfl] at e
      rw [cond_neg (by simp (disch := omega) only [smallI_t, inB_t, cutB_t, wrap64, dec_t, dec_f, dec_not, dec_and, dec_or, cond_ite, cond_true, cond_false, Option.bind_some, Option.bind_none, Bool.or_true, Bool.true_or, Bool.and_true, Bool.true_and, Bool.and_false, Bool.false_and, Bool.or_false, Bool.false_or, Bool.not_true, Bool.not_false, Bool.or_self, Bool.and_self, Bool.not_not, if_true, if_false, and_self, true_and, and_true, and_false, false_and, or_true, true_or, or_false, false_or, not_true_eq_false, not_false_eq_true, decide_true, decide_false, eq_self, if_pos, if_neg, mx_eq, mn_eq]), e, ideal_Fit.q1]
      simp (disch := omega) only [smallI_t, inB_t, cutB_t, wrap64, dec_t, dec_f, dec_not, dec_and, dec_or, cond_ite, cond_true, cond_false, Option.bind_some, Option.bind_none, Bool.or_true, Bool.true_or, Bool.and_true, Bool.true_and, Bool.and_false, Bool.false_and, Bool.or_false, Bool.false_or, Bool.not_true, Bool.not_false, Bool.or_self, Bool.and_self, Bool.not_not, if_true, if_false, and_self, true_and, and_true, and_false, false_and, or_true, true_or, or_false, false_or, not_true_eq_false, not_false_eq_true, decide_true, decide_false, eq_self, if_pos, if_neg, mx_eq, mn_eq, ideal_Fit.b1]
      cases (List.range xs.length).any (badK xs) <;> rfl
    · rw [cond_pos (by simp (disch := omega) only [smallI_t, inB_t, cutB_t, wrap64, dec_t, dec_f, dec_not, dec_and, dec_or, cond_ite, cond_true, cond_false, Option.bind_some, Option.bind_none, Bool.or_true, Bool.true_or, Bool.and_true, Bool.true_and, Bool.and_false, Bool.false_and, Bool.or_false, Bool.false_or, Bool.not_true, Bool.not_false, Bool.or_self, Bool.and_self, Bool.not_not, if_true, if_false, and_self, true_and, and_true, and_false, false_and, or_true, true_or, or_false, false_or, not_true_eq_false, not_false_eq_true, decide_true, decide_false, eq_self, if_pos, if_neg, mx_eq, mn_eq]), dec_f h1]
      simp only [cond_true, cond_false, Option.bind_some, Option.bind_none, Bool.or_true, Bool.true_or, Bool.and_true, Bool.true_and, Bool.and_false, Bool.false_and, Bool.or_false, Bool.false_or, Bool.not_true, Bool.not_false, Bool.or_self, Bool.and_self, Bool.not_not]; rw [dec_f (by omega)]
theorem rfit_in (xs : List KK) (i : Nat) (q : KK) (b : Bool) (hi : i ≤ xs.length) (hy : xs.length < 9223372036854775808) (hok : ∀ k ∈ xs, okK k) (hq : okK q) :
    pendulumref22_Fit.l0 .lim ((i : Int), 0, b, xs, q.1, q.2.1, q.2.2.1, q.2.2.2, ()) = bif (List.range i).any (fun j => alk (rd k0 xs j) q) then some (.inl (false, ())) else some (.inr ((i : Int), b, xs, ())) := by
  have e := loop_any (f := pendulumref22_Fit.l0 .lim) (fun j => ((i : Int), (j : Int), b, xs, q.1, q.2.1, q.2.2.1, q.2.2.2, ())) i (fun j => alk (rd k0 xs j) q) (some (.inl (false, ()))) (fun k hk => by
    rw [pendulumref22_Fit.q0]
    have ha := ralike_eq q (rd k0 xs k) hq.2.1 (hok _ (rd_mem (by omega) (by omega))).2.1
    rw [alk_symm] at ha
    have ha : pendulumref22_alike.run .lim ((q.1, q.2.1, q.2.2.1, q.2.2.2), rd k0 xs k, ()) = some (alk (rd k0 xs k) q) := ha
    simp (disch := omega) only [smallI_t, inB_t, cutB_t, wrap64, dec_t, dec_f, dec_not, dec_and, dec_or, cond_ite, cond_true, cond_false, Option.bind_some, Option.bind_none, Bool.or_true, Bool.true_or, Bool.and_true, Bool.true_and, Bool.and_false, Bool.false_and, Bool.or_false, Bool.false_or, Bool.not_true, Bool.not_false, Bool.or_self, Bool.and_self, Bool.not_not, if_true, if_false, and_self, true_and, and_true, and_false, false_and, or_true, true_or, or_false, false_or, not_true_eq_false, not_false_eq_true, decide_true, decide_false, eq_self, if_pos, if_neg, mx_eq, mn_eq, pendulumref22_Fit.b0, wk k (by omega), ha])
  refine e.trans ?_
  rw [pendulumref22_Fit.q0]
  simp (disch := omega) only [smallI_t, inB_t, cutB_t, wrap64, dec_t, dec_f, dec_not, dec_and, dec_or, cond_ite, cond_true, cond_false, Option.bind_some, Option.bind_none, Bool.or_true, Bool.true_or, Bool.and_true, Bool.true_and, Bool.and_false, Bool.false_and, Bool.or_false, Bool.false_or, Bool.not_true, Bool.not_false, Bool.or_self, Bool.and_self, Bool.not_not, if_true, if_false, and_self, true_and, and_true, and_false, false_and, or_true, true_or, or_false, false_or, not_true_eq_false, not_false_eq_true, decide_true, decide_false, eq_self, if_pos, if_neg, mx_eq, mn_eq, pendulumref22_Fit.b0]
theorem refB (q : KK) : ((!decide ((q.1.length : Int) = 32) && !decide ((q.1.length : Int) = 64)) || decide ((q.2.1.length : Int) > 126)) = !decide (refE q = 0) := by
  unfold refE
  by_cases h1 : q.1.length ≠ 32 ∧ q.1.length ≠ 64
  · rw [if_pos h1, dec_f (show ¬ (q.1.length : Int) = 32 by omega), dec_f (show ¬ (q.1.length : Int) = 64 by omega)]; rfl
  · rw [if_neg h1]
    have : (!decide ((q.1.length : Int) = 32) && !decide ((q.1.length : Int) = 64)) = false := by
      by_cases h2 : q.1.length = 32
      · rw [dec_t (by omega)]; rfl
      · rw [dec_t (show (q.1.length : Int) = 64 by omega), Bool.not_true, Bool.and_false]
    rw [this, Bool.false_or]
    by_cases h3 : q.2.1.length > 126
    · rw [if_pos h3, dec_t (by omega)]; rfl
    · rw [if_neg h3, dec_f (by omega)]; rfl
theorem rfit_eq (v : VV) (h : okV v) : pendulumref22_Fit.run .lim (v, ()) = some (fitV v) := by
  obtain ⟨b, xs⟩ := v
  have hx : xs.length < 9223372036854775808 := h.1
  unfold fitV
  simp only [pendulumref22_Fit.run, smallN hx]
  cases b with
  | false => simp only [cond_true, cond_false, Option.bind_some, Option.bind_none, Bool.or_true, Bool.true_or, Bool.and_true, Bool.true_and, Bool.and_false, Bool.false_and, Bool.or_false, Bool.false_or, Bool.not_true, Bool.not_false, Bool.or_self, Bool.and_self, Bool.not_not]; congr 2; simp
  | true =>
    simp only [cond_true, cond_false, Option.bind_some, Option.bind_none, Bool.or_true, Bool.true_or, Bool.and_true, Bool.true_and, Bool.and_false, Bool.false_and, Bool.or_false, Bool.false_or, Bool.not_true, Bool.not_false, Bool.or_self, Bool.and_self, Bool.not_not]
    by_cases h1 : xs.length ≤ 2048
    · obtain ⟨j, _, e⟩ := loop_hit (f := pendulumref22_Fit.l1 .lim) (fun k => ((k : Int), true, xs, ())) xs.length (badK xs) (fun k => bif (!decide (refE (rd k0 xs k) = 0) || decide ((rd k0 xs k).2.2.1.length > 65536) || !decide ((rd k0 xs k).2.2.2 = txt ((k : Int) + 1) (rd k0 xs k).2.2.1)) then some (.inl (false, ())) else some (.inr (.inl (false, ())))) (fun k hk => by
        rw [pendulumref22_Fit.q1]
        have w := wk k (by omega)
        have hk' : okK (rd k0 xs k) := h.at (v := (true, xs)) hk
        have hn := fun hh => rtext_eq ((k : Int) + 1) (rd k0 xs k).2.2.1 (by omega) (by omega) hh
        have e2 := rfit_in xs k (rd k0 xs k) true (by omega) hx h.2 hk'
        unfold badK
        simp only [pendulumref22_Fit.b1, smallN hx, dec_t (show (k : Int) < (xs.length : Int) by omega), inB_t (show (0 : Int) ≤ k by omega) (show (k : Int) < xs.length by omega), smallN hk'.1, smallN hk'.2.1, smallN hk'.2.2.2.1, w, refB]
        rw [show ((k + 1 : Nat) : Int) = (k : Int) + 1 by omega]
        simp only [cond_true, cond_false, Option.bind_some, Option.bind_none, Bool.or_true, Bool.true_or, Bool.and_true, Bool.true_and, Bool.and_false, Bool.false_and, Bool.or_false, Bool.false_or, Bool.not_true, Bool.not_false, Bool.or_self, Bool.and_self, Bool.not_not]
        by_cases c1 : refE (rd k0 xs k) = 0
        · by_cases c2 : (rd k0 xs k).2.2.1.length > 65536
          · simp only [dec_t c1, dec_t c2, dec_t (show ((rd k0 xs k).2.2.1.length : Int) > 65536 by omega)]
            simp only [cond_true, cond_false, Option.bind_some, Option.bind_none, Bool.or_true, Bool.true_or, Bool.and_true, Bool.true_and, Bool.and_false, Bool.false_and, Bool.or_false, Bool.false_or, Bool.not_true, Bool.not_false, Bool.or_self, Bool.and_self, Bool.not_not]
          · simp only [dec_t c1, dec_f c2, dec_f (show ¬ ((rd k0 xs k).2.2.1.length : Int) > 65536 by omega)]
            simp only [cond_true, cond_false, Option.bind_some, Option.bind_none, Bool.or_true, Bool.true_or, Bool.and_true, Bool.true_and, Bool.and_false, Bool.false_and, Bool.or_false, Bool.false_or, Bool.not_true, Bool.not_false, Bool.or_self, Bool.and_self, Bool.not_not]
            rw [hn (by omega)]
            simp only [cond_true, cond_false, Option.bind_some, Option.bind_none, Bool.or_true, Bool.true_or, Bool.and_true, Bool.true_and, Bool.and_false, Bool.false_and, Bool.or_false, Bool.false_or, Bool.not_true, Bool.not_false, Bool.or_self, Bool.and_self, Bool.not_not]
            by_cases c3 : (rd k0 xs k).2.2.2 = txt ((k : Int) + 1) (rd k0 xs k).2.2.1
            · simp only [dec_t c3]
              simp only [cond_true, cond_false, Option.bind_some, Option.bind_none, Bool.or_true, Bool.true_or, Bool.and_true, Bool.true_and, Bool.and_false, Bool.false_and, Bool.or_false, Bool.false_or, Bool.not_true, Bool.not_false, Bool.or_self, Bool.and_self, Bool.not_not]
              rw [e2]
              cases (List.range k).any fun j => alk (rd k0 xs j) (rd k0 xs k)
              · simp only [cond_true, cond_false, Option.bind_some, Option.bind_none, Bool.or_true, Bool.true_or, Bool.and_true, Bool.true_and, Bool.and_false, Bool.false_and, Bool.or_false, Bool.false_or, Bool.not_true, Bool.not_false, Bool.or_self, Bool.and_self, Bool.not_not]; rw [show IntKind.i64.wrap ((k : Int) + 1) = (k : Int) + 1 by rw [w]; omega]
              · simp only [cond_true, cond_false, Option.bind_some, Option.bind_none, Bool.or_true, Bool.true_or, Bool.and_true, Bool.true_and, Bool.and_false, Bool.false_and, Bool.or_false, Bool.false_or, Bool.not_true, Bool.not_false, Bool.or_self, Bool.and_self, Bool.not_not]
            · simp only [dec_f c3]
              simp only [cond_true, cond_false, Option.bind_some, Option.bind_none, Bool.or_true, Bool.true_or, Bool.and_true, Bool.true_and, Bool.and_false, Bool.false_and, Bool.or_false, Bool.false_or, Bool.not_true, Bool.not_false, Bool.or_self, Bool.and_self, Bool.not_not]
        · simp only [dec_f c1]
          simp only [cond_true, cond_false, Option.bind_some, Option.bind_none, Bool.or_true, Bool.true_or, Bool.and_true, Bool.true_and, Bool.and_false, Bool.false_and, Bool.or_false, Bool.false_or, Bool.not_true, Bool.not_false, Bool.or_self, Bool.and_self, Bool.not_not])
      rw [show ((0 : Nat) : Int) = 0 from rfl] at e
      rw [cond_neg (by simp (disch := omega) only [smallI_t, inB_t, cutB_t, wrap64, dec_t, dec_f, dec_not, dec_and, dec_or, cond_ite, cond_true, cond_false, Option.bind_some, Option.bind_none, Bool.or_true, Bool.true_or, Bool.and_true, Bool.true_and, Bool.and_false, Bool.false_and, Bool.or_false, Bool.false_or, Bool.not_true, Bool.not_false, Bool.or_self, Bool.and_self, Bool.not_not, if_true, if_false, and_self, true_and, and_true, and_false, false_and, or_true, true_or, or_false, false_or, not_true_eq_false, not_false_eq_true, decide_true, decide_false, eq_self, if_pos, if_neg, mx_eq, mn_eq]), e, pendulumref22_Fit.q1]
      simp (disch := omega) only [smallI_t, inB_t, cutB_t, wrap64, dec_t, dec_f, dec_not, dec_and, dec_or, cond_ite, cond_true, cond_false, Option.bind_some, Option.bind_none, Bool.or_true, Bool.true_or, Bool.and_true, Bool.true_and, Bool.and_false, Bool.false_and, Bool.or_false, Bool.false_or, Bool.not_true, Bool.not_false, Bool.or_self, Bool.and_self, Bool.not_not, if_true, if_false, and_self, true_and, and_true, and_false, false_and, or_true, true_or, or_false, false_or, not_true_eq_false, not_false_eq_true, decide_true, decide_false, eq_self, if_pos, if_neg, mx_eq, mn_eq, pendulumref22_Fit.b1, smallN hx]
      cases (List.range xs.length).any (badK xs)
      · rfl
      · simp only [cond_true, cond_false, Option.bind_some, Option.bind_none, Bool.or_true, Bool.true_or, Bool.and_true, Bool.true_and, Bool.and_false, Bool.false_and, Bool.or_false, Bool.false_or, Bool.not_true, Bool.not_false, Bool.or_self, Bool.and_self, Bool.not_not]; split <;> rfl
    · rw [cond_pos (by simp (disch := omega) only [smallI_t, inB_t, cutB_t, wrap64, dec_t, dec_f, dec_not, dec_and, dec_or, cond_ite, cond_true, cond_false, Option.bind_some, Option.bind_none, Bool.or_true, Bool.true_or, Bool.and_true, Bool.true_and, Bool.and_false, Bool.false_and, Bool.or_false, Bool.false_or, Bool.not_true, Bool.not_false, Bool.or_self, Bool.and_self, Bool.not_not, if_true, if_false, and_self, true_and, and_true, and_false, false_and, or_true, true_or, or_false, false_or, not_true_eq_false, not_false_eq_true, decide_true, decide_false, eq_self, if_pos, if_neg, mx_eq, mn_eq]), dec_f h1]
      simp only [cond_true, cond_false, Option.bind_some, Option.bind_none, Bool.or_true, Bool.true_or, Bool.and_true, Bool.true_and, Bool.and_false, Bool.false_and, Bool.or_false, Bool.false_or, Bool.not_true, Bool.not_false, Bool.or_self, Bool.and_self, Bool.not_not]
/-! the same -/
def sameV (v w : VV) : Bool := decide (v = w)
theorem alk_text (a b : KK) : (alk a b && decide (a.2.2.2 = b.2.2.2)) = decide (a = b) := by
  obtain ⟨a1, a2, a3, a4⟩ := a
  obtain ⟨b1, b2, b3, b4⟩ := b
  unfold alk
  simp only
  by_cases h1 : a1 = b1 <;> by_cases h2 : a2 = b2 <;> by_cases h3 : a3 = b3 <;> by_cases h4 : a4 = b4 <;> simp [h1, h2, h3, h4]
theorem same1_eq (a b : KK) (ha : okK a) (hb : okK b) : ideal_Same_1.run .lim (a, b, ()) = some (decide (a = b)) := by
  simp only [ideal_Same_1.run, alike_eq a b ha.2.1 hb.2.1, Option.bind_some, alk_text]
theorem same_eq (v w : VV) (hv : okV v) (hw : okV w) : ideal_Same.run .lim (v, w, ()) = some (decide (v = w)) := by
  obtain ⟨a, xs⟩ := v
  obtain ⟨b, ys⟩ := w
  have hx : xs.length < 9223372036854775808 := hv.1
  have hy : ys.length < 9223372036854775808 := hw.1
  simp only [ideal_Same.run, smallN hx, smallN hy]
  by_cases hab : a = b
  · subst hab
    rw [show (a == a) = true by simp]
    simp only [cond_true, cond_false, Option.bind_some, Option.bind_none, Bool.or_true, Bool.true_or, Bool.and_true, Bool.true_and, Bool.and_false, Bool.false_and, Bool.or_false, Bool.false_or, Bool.not_true, Bool.not_false, Bool.or_self, Bool.and_self, Bool.not_not]
    by_cases hl : xs.length = ys.length
    · have e := loop_any (f := ideal_Same.l0 .lim) (fun k => (ys, xs, (xs.length : Int), (k : Int), true, ())) xs.length (fun k => !decide (rd k0 xs k = rd k0 ys k)) (some (.inl (false, true, ()))) (fun k hk => by
        rw [ideal_Same.q0]
        have hs := same1_eq (rd k0 xs k) (rd k0 ys k) (hv.at hk) (hw.at (k := k) (by show k < ys.length; omega))
        simp (disch := omega) only [smallI_t, inB_t, cutB_t, wrap64, dec_t, dec_f, dec_not, dec_and, dec_or, cond_ite, cond_true, cond_false, Option.bind_some, Option.bind_none, Bool.or_true, Bool.true_or, Bool.and_true, Bool.true_and, Bool.and_false, Bool.false_and, Bool.or_false, Bool.false_or, Bool.not_true, Bool.not_false, Bool.or_self, Bool.and_self, Bool.not_not, if_true, if_false, and_self, true_and, and_true, and_false, false_and, or_true, true_or, or_false, false_or, not_true_eq_false, not_false_eq_true, decide_true, decide_false, eq_self, if_pos, if_neg, mx_eq, mn_eq, ideal_Same.b0, wk k (by omega), hs])
      rw [any_ne hl, show ((0 : Nat) : Int) = 0 from rfl] at e
      rw [cond_neg (by simp (disch := omega) only [smallI_t, inB_t, cutB_t, wrap64, dec_t, dec_f, dec_not, dec_and, dec_or, cond_ite, cond_true, cond_false, Option.bind_some, Option.bind_none, Bool.or_true, Bool.true_or, Bool.and_true, Bool.true_and, Bool.and_false, Bool.false_and, Bool.or_false, Bool.false_or, Bool.not_true, Bool.not_false, Bool.or_self, Bool.and_self, Bool.not_not, if_true, if_false, and_self, true_and, and_true, and_false, false_and, or_true, true_or, or_false, false_or, not_true_eq_false, not_false_eq_true, decide_true, decide_false, eq_self, if_pos, if_neg, mx_eq, mn_eq]), e, ideal_Same.q0]
      simp (disch := omega) only [smallI_t, inB_t, cutB_t, wrap64, dec_t, dec_f, dec_not, dec_and, dec_or, cond_ite, cond_true, cond_false, Option.bind_some, Option.bind_none, Bool.or_true, Bool.true_or, Bool.and_true, Bool.true_and, Bool.and_false, Bool.false_and, Bool.or_false, Bool.false_or, Bool.not_true, Bool.not_false, Bool.or_self, Bool.and_self, Bool.not_not, if_true, if_false, and_self, true_and, and_true, and_false, false_and, or_true, true_or, or_false, false_or, not_true_eq_false, not_false_eq_true, decide_true, decide_false, eq_self, if_pos, if_neg, mx_eq, mn_eq, ideal_Same.b0]
      by_cases h : xs = ys
      · subst h; simp (disch := omega) only [smallI_t, inB_t, cutB_t, wrap64, dec_t, dec_f, dec_not, dec_and, dec_or, cond_ite, cond_true, cond_false, Option.bind_some, Option.bind_none, Bool.or_true, Bool.true_or, Bool.and_true, Bool.true_and, Bool.and_false, Bool.false_and, Bool.or_false, Bool.false_or, Bool.not_true, Bool.not_false, Bool.or_self, Bool.and_self, Bool.not_not, if_true, if_false, and_self, true_and, and_true, and_false, false_and, or_true, true_or, or_false, false_or, not_true_eq_false, not_false_eq_true, decide_true, decide_false, eq_self, if_pos, if_neg, mx_eq, mn_eq]
      · rw [dec_f (fun q => h (Prod.mk.inj q).2)]; simp (disch := omega) only [smallI_t, inB_t, cutB_t, wrap64, dec_t, dec_f, dec_not, dec_and, dec_or, cond_ite, cond_true, cond_false, Option.bind_some, Option.bind_none, Bool.or_true, Bool.true_or, Bool.and_true, Bool.true_and, Bool.and_false, Bool.false_and, Bool.or_false, Bool.false_or, Bool.not_true, Bool.not_false, Bool.or_self, Bool.and_self, Bool.not_not, if_true, if_false, and_self, true_and, and_true, and_false, false_and, or_true, true_or, or_false, false_or, not_true_eq_false, not_false_eq_true, decide_true, decide_false, eq_self, if_pos, if_neg, mx_eq, mn_eq]
    · rw [cond_pos (by simp (disch := omega) only [smallI_t, inB_t, cutB_t, wrap64, dec_t, dec_f, dec_not, dec_and, dec_or, cond_ite, cond_true, cond_false, Option.bind_some, Option.bind_none, Bool.or_true, Bool.true_or, Bool.and_true, Bool.true_and, Bool.and_false, Bool.false_and, Bool.or_false, Bool.false_or, Bool.not_true, Bool.not_false, Bool.or_self, Bool.and_self, Bool.not_not, if_true, if_false, and_self, true_and, and_true, and_false, false_and, or_true, true_or, or_false, false_or, not_true_eq_false, not_false_eq_true, decide_true, decide_false, eq_self, if_pos, if_neg, mx_eq, mn_eq]), dec_f]
      exact fun q => hl (by rw [(Prod.mk.inj q).2])
  · rw [show (a == b) = false by simpa using hab, dec_f (fun q => hab (Prod.mk.inj q).1)]
    rfl
theorem rsame_eq (v w : VV) (hv : okV v) (hw : okV w) : pendulumref22_Same.run .lim (v, w, ()) = some (decide (v = w)) := by
  obtain ⟨a, xs⟩ := v
  obtain ⟨b, ys⟩ := w
  have hx : xs.length < 9223372036854775808 := hv.1
  have hy : ys.length < 9223372036854775808 := hw.1
  simp only [pendulumref22_Same.run, smallN hx, smallN hy]
  by_cases hab : a = b
  · subst hab
    rw [show (a == a) = true by simp]
    simp only [cond_true, cond_false, Option.bind_some, Option.bind_none, Bool.or_true, Bool.true_or, Bool.and_true, Bool.true_and, Bool.and_false, Bool.false_and, Bool.or_false, Bool.false_or, Bool.not_true, Bool.not_false, Bool.or_self, Bool.and_self, Bool.not_not]
    by_cases hl : xs.length = ys.length
    · have e := loop_any (f := pendulumref22_Same.l0 .lim) (fun k => ((k : Int), a, xs, a, ys, ())) xs.length (fun k => !decide (rd k0 xs k = rd k0 ys k)) (some (.inl (false, ()))) (fun k hk => by
        rw [pendulumref22_Same.q0]
        have hs := ralike_eq (rd k0 xs k) (rd k0 ys k) (hv.at hk).2.1 (hw.at (v := (a, ys)) (k := k) (by show k < ys.length; omega)).2.1
        simp only [pendulumref22_Same.b0, wk k (by omega), hs, smallN hx, dec_t (show (k : Int) < (xs.length : Int) by omega), inB_t (show (0 : Int) ≤ k by omega) (show (k : Int) < xs.length by omega), inB_t (show (0 : Int) ≤ k by omega) (show (k : Int) < ys.length by omega)]
        simp only [cond_true, cond_false, Option.bind_some, Option.bind_none, Bool.or_true, Bool.true_or, Bool.and_true, Bool.true_and, Bool.and_false, Bool.false_and, Bool.or_false, Bool.false_or, Bool.not_true, Bool.not_false, Bool.or_self, Bool.and_self, Bool.not_not]
        rw [← alk_text (rd k0 xs k) (rd k0 ys k)]
        cases alk (rd k0 xs k) (rd k0 ys k) <;> simp only [cond_true, cond_false, Option.bind_some, Option.bind_none, Bool.or_true, Bool.true_or, Bool.and_true, Bool.true_and, Bool.and_false, Bool.false_and, Bool.or_false, Bool.false_or, Bool.not_true, Bool.not_false, Bool.or_self, Bool.and_self, Bool.not_not])
      rw [any_ne hl, show ((0 : Nat) : Int) = 0 from rfl] at e
      rw [cond_neg (by simp (disch := omega) only [smallI_t, inB_t, cutB_t, wrap64, dec_t, dec_f, dec_not, dec_and, dec_or, cond_ite, cond_true, cond_false, Option.bind_some, Option.bind_none, Bool.or_true, Bool.true_or, Bool.and_true, Bool.true_and, Bool.and_false, Bool.false_and, Bool.or_false, Bool.false_or, Bool.not_true, Bool.not_false, Bool.or_self, Bool.and_self, Bool.not_not, if_true, if_false, and_self, true_and, and_true, and_false, false_and, or_true, true_or, or_false, false_or, not_true_eq_false, not_false_eq_true, decide_true, decide_false, eq_self, if_pos, if_neg, mx_eq, mn_eq]), e, pendulumref22_Same.q0]
      simp (disch := omega) only [smallI_t, inB_t, cutB_t, wrap64, dec_t, dec_f, dec_not, dec_and, dec_or, cond_ite, cond_true, cond_false, Option.bind_some, Option.bind_none, Bool.or_true, Bool.true_or, Bool.and_true, Bool.true_and, Bool.and_false, Bool.false_and, Bool.or_false, Bool.false_or, Bool.not_true, Bool.not_false, Bool.or_self, Bool.and_self, Bool.not_not, if_true, if_false, and_self, true_and, and_true, and_false, false_and, or_true, true_or, or_false, false_or, not_true_eq_false, not_false_eq_true, decide_true, decide_false, eq_self, if_pos, if_neg, mx_eq, mn_eq, pendulumref22_Same.b0, smallN hx]
      by_cases h : xs = ys
      · subst h; simp (disch := omega) only [smallI_t, inB_t, cutB_t, wrap64, dec_t, dec_f, dec_not, dec_and, dec_or, cond_ite, cond_true, cond_false, Option.bind_some, Option.bind_none, Bool.or_true, Bool.true_or, Bool.and_true, Bool.true_and, Bool.and_false, Bool.false_and, Bool.or_false, Bool.false_or, Bool.not_true, Bool.not_false, Bool.or_self, Bool.and_self, Bool.not_not, if_true, if_false, and_self, true_and, and_true, and_false, false_and, or_true, true_or, or_false, false_or, not_true_eq_false, not_false_eq_true, decide_true, decide_false, eq_self, if_pos, if_neg, mx_eq, mn_eq]
      · rw [dec_f (fun q => h (Prod.mk.inj q).2)]; simp (disch := omega) only [smallI_t, inB_t, cutB_t, wrap64, dec_t, dec_f, dec_not, dec_and, dec_or, cond_ite, cond_true, cond_false, Option.bind_some, Option.bind_none, Bool.or_true, Bool.true_or, Bool.and_true, Bool.true_and, Bool.and_false, Bool.false_and, Bool.or_false, Bool.false_or, Bool.not_true, Bool.not_false, Bool.or_self, Bool.and_self, Bool.not_not, if_true, if_false, and_self, true_and, and_true, and_false, false_and, or_true, true_or, or_false, false_or, not_true_eq_false, not_false_eq_true, decide_true, decide_false, eq_self, if_pos, if_neg, mx_eq, mn_eq]
    · rw [cond_pos (by simp (disch := omega) only [smallI_t, inB_t, cutB_t, wrap64, dec_t, dec_f, dec_not, dec_and, dec_or, cond_ite, cond_true, cond_false, Option.bind_some, Option.bind_none, Bool.or_true, Bool.true_or, Bool.and_true, Bool.true_and, Bool.and_false, Bool.false_and, Bool.or_false, Bool.false_or, Bool.not_true, Bool.not_false, Bool.or_self, Bool.and_self, Bool.not_not, if_true, if_false, and_self, true_and, and_true, and_false, false_and, or_true, true_or, or_false, false_or, not_true_eq_false, not_false_eq_true, decide_true, decide_false, eq_self, if_pos, if_neg, mx_eq, mn_eq]), dec_f]
      exact fun q => hl (by rw [(Prod.mk.inj q).2])
  · rw [show (a == b) = false by simpa using hab, dec_f (fun q => hab (Prod.mk.inj q).1)]
    simp only [cond_true, cond_false, Option.bind_some, Option.bind_none, Bool.or_true, Bool.true_or, Bool.and_true, Bool.true_and, Bool.and_false, Bool.false_and, Bool.or_false, Bool.false_or, Bool.not_true, Bool.not_false, Bool.or_self, Bool.and_self, Bool.not_not]
/-! few bytes: told, whatever it is -/
theorem light_some (v : VV) (h : okV v) : ∃ r, pendulumref22_Light.run .lim (v, ()) = some r := by
  obtain ⟨b, xs⟩ := v
  have hx : xs.length < 9223372036854775808 := h.1
  -- the inner loop
  have inner : ∀ (n : Nat) (left : Int) (j : Nat) (i : Int) (q : KK), okK q → j + n = q.2.1.length → -9223372036854775808 ≤ left → left < 9223372036854775808 → ∃ l : Int, -9223372036854775808 ≤ l ∧ l < 9223372036854775808 ∧ pendulumref22_Light.l0 .lim (left, i, (j : Int), b, xs, q.1, q.2.1, q.2.2.1, q.2.2.2, ()) = some (l, i, b, xs, ()) := by
    intro n
    induction n with
    | zero =>
      intro left j i q hq hj h1 h2
      refine ⟨left, h1, h2, ?_⟩
      rw [pendulumref22_Light.q0]
      simp (disch := omega) only [smallI_t, inB_t, cutB_t, wrap64, dec_t, dec_f, dec_not, dec_and, dec_or, cond_ite, cond_true, cond_false, Option.bind_some, Option.bind_none, Bool.or_true, Bool.true_or, Bool.and_true, Bool.true_and, Bool.and_false, Bool.false_and, Bool.or_false, Bool.false_or, Bool.not_true, Bool.not_false, Bool.or_self, Bool.and_self, Bool.not_not, if_true, if_false, and_self, true_and, and_true, and_false, false_and, or_true, true_or, or_false, false_or, not_true_eq_false, not_false_eq_true, decide_true, decide_false, eq_self, if_pos, if_neg, mx_eq, mn_eq, pendulumref22_Light.b0, smallN hq.2.1]
    | succ n ih =>
      intro left j i q hq hj h1 h2
      have hb := @wrap64_lo (left - ((rd ([] : List Int) q.2.1 (j : Int)).length : Int))
      have hs := hq.2.2.1 (rd ([] : List Int) q.2.1 (j : Int)) (rd_mem (by omega) (by omega))
      by_cases hl : left ≥ 0
      · obtain ⟨l, l1, l2, e⟩ := ih (IntKind.i64.wrap (left - ((rd ([] : List Int) q.2.1 (j : Int)).length : Int))) (j + 1) i q hq (by omega) hb.1 hb.2
        refine ⟨l, l1, l2, ?_⟩
        rw [pendulumref22_Light.q0, ← e]
        have hj' := hq.2.1
        simp only [pendulumref22_Light.b0, smallN hq.2.1, wk j (by omega), smallN hs, dec_t hl, dec_t (show (j : Int) < (q.2.1.length : Int) by omega), inB_t (show (0 : Int) ≤ j by omega) (show (j : Int) < q.2.1.length by omega)]
        simp only [cond_true, cond_false, Option.bind_some, Option.bind_none, Bool.or_true, Bool.true_or, Bool.and_true, Bool.true_and, Bool.and_false, Bool.false_and, Bool.or_false, Bool.false_or, Bool.not_true, Bool.not_false, Bool.or_self, Bool.and_self, Bool.not_not]
      · refine ⟨left, h1, h2, ?_⟩
        rw [pendulumref22_Light.q0]
        simp (disch := omega) only [smallI_t, inB_t, cutB_t, wrap64, dec_t, dec_f, dec_not, dec_and, dec_or, cond_ite, cond_true, cond_false, Option.bind_some, Option.bind_none, Bool.or_true, Bool.true_or, Bool.and_true, Bool.true_and, Bool.and_false, Bool.false_and, Bool.or_false, Bool.false_or, Bool.not_true, Bool.not_false, Bool.or_self, Bool.and_self, Bool.not_not, if_true, if_false, and_self, true_and, and_true, and_false, false_and, or_true, true_or, or_false, false_or, not_true_eq_false, not_false_eq_true, decide_true, decide_false, eq_self, if_pos, if_neg, mx_eq, mn_eq, pendulumref22_Light.b0, smallN hq.2.1]
  have outer : ∀ (n : Nat) (left : Int) (i : Nat), i + n = xs.length → -9223372036854775808 ≤ left → left < 9223372036854775808 → ∃ l : Int, pendulumref22_Light.l1 .lim (left, (i : Int), b, xs, ()) = some (l, b, xs, ()) := by
    intro n
    induction n with
    | zero =>
      intro left i hi h1 h2
      refine ⟨left, ?_⟩
      rw [pendulumref22_Light.q1]
      simp (disch := omega) only [smallI_t, inB_t, cutB_t, wrap64, dec_t, dec_f, dec_not, dec_and, dec_or, cond_ite, cond_true, cond_false, Option.bind_some, Option.bind_none, Bool.or_true, Bool.true_or, Bool.and_true, Bool.true_and, Bool.and_false, Bool.false_and, Bool.or_false, Bool.false_or, Bool.not_true, Bool.not_false, Bool.or_self, Bool.and_self, Bool.not_not, if_true, if_false, and_self, true_and, and_true, and_false, false_and, or_true, true_or, or_false, false_or, not_true_eq_false, not_false_eq_true, decide_true, decide_false, eq_self, if_pos, if_neg, mx_eq, mn_eq, pendulumref22_Light.b1, smallN hx]
    | succ n ih =>
      intro left i hi h1 h2
      by_cases hl : left ≥ 0
      · have hk : okK (rd k0 xs i) := h.at (v := (b, xs)) (by show i < xs.length; omega)
        rw [pendulumref22_Light.q1]
        simp only [pendulumref22_Light.b1, smallN hx, smallN hk.1, smallN hk.2.1, smallN hk.2.2.2.1, smallN hk.2.2.2.2, dec_t hl, dec_t (show (i : Int) < (xs.length : Int) by omega), inB_t (show (0 : Int) ≤ i by omega) (show (i : Int) < xs.length by omega)]
        simp only [cond_true, cond_false, Option.bind_some, Option.bind_none, Bool.or_true, Bool.true_or, Bool.and_true, Bool.true_and, Bool.and_false, Bool.false_and, Bool.or_false, Bool.false_or, Bool.not_true, Bool.not_false, Bool.or_self, Bool.and_self, Bool.not_not]
        obtain ⟨l, l1, l2, e⟩ := inner _ (IntKind.i64.wrap (IntKind.i64.wrap (IntKind.i64.wrap (IntKind.i64.wrap (IntKind.i64.wrap (left - 10) - ((rd k0 xs i).1.length : Int)) - ((rd k0 xs i).2.2.1.length : Int)) - ((rd k0 xs i).2.2.2.length : Int)) - ((rd k0 xs i).2.1.length : Int))) 0 (i : Int) (rd k0 xs i) hk (Nat.zero_add _) wrap64_lo.1 wrap64_lo.2
        rw [show ((0 : Nat) : Int) = 0 from rfl] at e
        rw [e]
        obtain ⟨l', e'⟩ := ih l (i + 1) (by omega) l1 l2
        refine ⟨l', ?_⟩
        rw [← e']
        simp (disch := omega) only [smallI_t, inB_t, cutB_t, wrap64, dec_t, dec_f, dec_not, dec_and, dec_or, cond_ite, cond_true, cond_false, Option.bind_some, Option.bind_none, Bool.or_true, Bool.true_or, Bool.and_true, Bool.true_and, Bool.and_false, Bool.false_and, Bool.or_false, Bool.false_or, Bool.not_true, Bool.not_false, Bool.or_self, Bool.and_self, Bool.not_not, if_true, if_false, and_self, true_and, and_true, and_false, false_and, or_true, true_or, or_false, false_or, not_true_eq_false, not_false_eq_true, decide_true, decide_false, eq_self, if_pos, if_neg, mx_eq, mn_eq, wk i (by omega)]
      · refine ⟨left, ?_⟩
        rw [pendulumref22_Light.q1]
        simp (disch := omega) only [smallI_t, inB_t, cutB_t, wrap64, dec_t, dec_f, dec_not, dec_and, dec_or, cond_ite, cond_true, cond_false, Option.bind_some, Option.bind_none, Bool.or_true, Bool.true_or, Bool.and_true, Bool.true_and, Bool.and_false, Bool.false_and, Bool.or_false, Bool.false_or, Bool.not_true, Bool.not_false, Bool.or_self, Bool.and_self, Bool.not_not, if_true, if_false, and_self, true_and, and_true, and_false, false_and, or_true, true_or, or_false, false_or, not_true_eq_false, not_false_eq_true, decide_true, decide_false, eq_self, if_pos, if_neg, mx_eq, mn_eq, pendulumref22_Light.b1, smallN hx]
  obtain ⟨l, e⟩ := outer xs.length 400000 0 (by omega) (by omega) (by omega)
  rw [show ((0 : Nat) : Int) = 0 from rfl] at e
  refine ⟨decide (l ≥ 0) && decide ((xs.length : Int) ≤ 300), ?_⟩
  simp only [pendulumref22_Light.run, e, smallN hx]
  simp only [cond_true, cond_false, Option.bind_some, Option.bind_none, Bool.or_true, Bool.true_or, Bool.and_true, Bool.true_and, Bool.and_false, Bool.false_and, Bool.or_false, Bool.false_or, Bool.not_true, Bool.not_false, Bool.or_self, Bool.and_self, Bool.not_not, smallN hx]
theorem tells_true (v w : VV) (hv : okV v) (hw : okV w) : pendulumlaw22_IdealTells.run .lim (v, w, ()) = some true := by
  obtain ⟨r, er⟩ := light_some v hv
  obtain ⟨r1, er1⟩ := light_some w hw
  simp only [pendulumlaw22_IdealTells.run, er, er1, fit_eq v hv, rfit_eq v hv, same_eq v w hv hw, rsame_eq v w hv hw, same_eq v v hv hv]
  cases r <;> cases r1 <;> simp
end Go.AM
end
section
namespace Go.AM
/-! No forging. -/
theorem short_some (key : List Int) (ad : List (List Int)) (s : List Int) (hk : key.length < 9223372036854775808) (ha : ad.length < 9223372036854775808) (hal : ∀ t ∈ ad, t.length < 9223372036854775808) (hs : s.length < 9223372036854775808) :
    ∃ r, pendulumlaw22_short.run .lim (key, ad, s, ()) = some r := by
  have outer : ∀ (n : Nat) (m : Int) (i : Nat), i + n = ad.length → ∃ l : Int, pendulumlaw22_short.l0 .lim (key, ad, m, (i : Int), ()) = some (key, ad, l, ()) := by
    intro n
    induction n with
    | zero =>
      intro m i hi
      refine ⟨m, ?_⟩
      rw [pendulumlaw22_short.q0]
      simp (disch := omega) only [smallI_t, inB_t, cutB_t, wrap64, dec_t, dec_f, dec_not, dec_and, dec_or, cond_ite, cond_true, cond_false, Option.bind_some, Option.bind_none, Bool.or_true, Bool.true_or, Bool.and_true, Bool.true_and, Bool.and_false, Bool.false_and, Bool.or_false, Bool.false_or, Bool.not_true, Bool.not_false, Bool.or_self, Bool.and_self, Bool.not_not, if_true, if_false, and_self, true_and, and_true, and_false, false_and, or_true, true_or, or_false, false_or, not_true_eq_false, not_false_eq_true, decide_true, decide_false, eq_self, if_pos, if_neg, mx_eq, mn_eq, pendulumlaw22_short.b0, smallN ha]
    | succ n ih =>
      intro m i hi
      by_cases hl : m ≤ 3000
      · obtain ⟨l, e⟩ := ih (IntKind.i64.wrap (m + ((rd ([] : List Int) ad (i : Int)).length : Int))) (i + 1) (by omega)
        refine ⟨l, ?_⟩
        rw [pendulumlaw22_short.q0, ← e]
        simp only [pendulumlaw22_short.b0, smallN ha, wk i (by omega), smallN (hal _ (rd_mem (d := ([] : List Int)) (show (0 : Int) ≤ i by omega) (show (i : Int) < ad.length by omega))), dec_t hl, dec_t (show (i : Int) < (ad.length : Int) by omega), inB_t (show (0 : Int) ≤ i by omega) (show (i : Int) < ad.length by omega)]
        simp only [cond_true, cond_false, Option.bind_some, Option.bind_none, Bool.or_true, Bool.true_or, Bool.and_true, Bool.true_and, Bool.and_false, Bool.false_and, Bool.or_false, Bool.false_or, Bool.not_true, Bool.not_false, Bool.or_self, Bool.and_self, Bool.not_not]
      · refine ⟨m, ?_⟩
        rw [pendulumlaw22_short.q0]
        simp (disch := omega) only [smallI_t, inB_t, cutB_t, wrap64, dec_t, dec_f, dec_not, dec_and, dec_or, cond_ite, cond_true, cond_false, Option.bind_some, Option.bind_none, Bool.or_true, Bool.true_or, Bool.and_true, Bool.true_and, Bool.and_false, Bool.false_and, Bool.or_false, Bool.false_or, Bool.not_true, Bool.not_false, Bool.or_self, Bool.and_self, Bool.not_not, if_true, if_false, and_self, true_and, and_true, and_false, false_and, or_true, true_or, or_false, false_or, not_true_eq_false, not_false_eq_true, decide_true, decide_false, eq_self, if_pos, if_neg, mx_eq, mn_eq, pendulumlaw22_short.b0, smallN ha]
  obtain ⟨l, e⟩ := outer ad.length (IntKind.i64.wrap ((s.length : Int) + (key.length : Int))) 0 (by omega)
  rw [show ((0 : Nat) : Int) = 0 from rfl] at e
  refine ⟨((decide (l ≤ (3000 : Int))) && (decide ((ad.length : Int) ≤ (200 : Int)))) || (((!(decide ((key.length : Int) = (32 : Int)))) && (!(decide ((key.length : Int) = (64 : Int))))) && (decide (l ≤ (3000 : Int)))), ?_⟩
  simp only [pendulumlaw22_short.run, smallN hk, smallN ha, smallN hs, e]
  simp only [cond_true, cond_false, Option.bind_some, Option.bind_none, Bool.or_true, Bool.true_or, Bool.and_true, Bool.true_and, Bool.and_false, Bool.false_and, Bool.or_false, Bool.false_or, Bool.not_true, Bool.not_false, Bool.or_self, Bool.and_self, Bool.not_not, smallN hk, smallN ha, smallN hs]
/-- it was sealed: key, texts that go along, and the text -/
def hit (key : List Int) (ad : List (List Int)) (t : List Int) (k : KK) : Bool := decide (k.2.2.2 = t) && decide (k.1 = key) && decide (k.2.1 = ad)
theorem open_find (xs : List KK) (b : Bool) (key : List Int) (ad : List (List Int)) (t : List Int) (hx : xs.length < 9223372036854775808) (hok : ∀ k ∈ xs, okK k) (ha : ad.length < 9223372036854775808) :
    ∃ k, ((List.range xs.length).any (fun k => hit key ad t (rd k0 xs k)) = true → k < xs.length ∧ hit key ad t (rd k0 xs k) = true ∧ ∀ j, j < k → hit key ad t (rd k0 xs j) = false) ∧ ideal_Open.l0 .lim (xs, (xs.length : Int), 0, xs, key, ad, [], t, ()) = bif (List.range xs.length).any (fun k => hit key ad t (rd k0 xs k)) then some (.inl ((k : Int), xs, ())) else some (.inr (xs, ())) := by
  obtain ⟨k, h1, e⟩ := loop_hit (f := ideal_Open.l0 .lim) (fun k => (xs, (xs.length : Int), (k : Int), xs, key, ad, [], t, ())) xs.length (fun k => hit key ad t (rd k0 xs k)) (fun k => some (.inl ((k : Int), xs, ()))) (fun k hk => by
    rw [ideal_Open.q0]
    have hm : okK (rd k0 xs k) := hok _ (rd_mem (by omega) (by omega))
    simp only [ideal_Open.b0, equal_eq _ _ hm.2.1 ha, wk k (by omega), dec_t (show (k : Int) < (xs.length : Int) by omega), inB_t (show (0 : Int) ≤ k by omega) (show (k : Int) < xs.length by omega)]
    unfold hit
    cases decide ((rd k0 xs k).2.2.2 = t) && decide ((rd k0 xs k).1 = key) <;> simp only [cond_true, cond_false, Option.bind_some, Option.bind_none, Bool.or_true, Bool.true_or, Bool.and_true, Bool.true_and, Bool.and_false, Bool.false_and, Bool.or_false, Bool.false_or, Bool.not_true, Bool.not_false, Bool.or_self, Bool.and_self, Bool.not_not])
  refine ⟨k, h1, e.trans ?_⟩
  rw [ideal_Open.q0]
  simp (disch := omega) only [smallI_t, inB_t, cutB_t, wrap64, dec_t, dec_f, dec_not, dec_and, dec_or, cond_ite, cond_true, cond_false, Option.bind_some, Option.bind_none, Bool.or_true, Bool.true_or, Bool.and_true, Bool.true_and, Bool.and_false, Bool.false_and, Bool.or_false, Bool.false_or, Bool.not_true, Bool.not_false, Bool.or_self, Bool.and_self, Bool.not_not, if_true, if_false, and_self, true_and, and_true, and_false, false_and, or_true, true_or, or_false, false_or, not_true_eq_false, not_false_eq_true, decide_true, decide_false, eq_self, if_pos, if_neg, mx_eq, mn_eq, ideal_Open.b0]
/-- what an ideal vault opens -/
def openV (xs : List KK) (key : List Int) (ad : List (List Int)) (t : List Int) (r : List Int) (e : Int) : Prop :=
  (e ≠ 0 ∧ r = []) ∨ (e = 0 ∧ ∃ k, k < xs.length ∧ hit key ad t (rd k0 xs k) = true ∧ (∀ j, j < k → hit key ad t (rd k0 xs j) = false) ∧ r = (rd k0 xs k).2.2.1)
theorem open_eq (xs : List KK) (key : List Int) (ad : List (List Int)) (t : List Int) (hx : xs.length < 9223372036854775808) (hok : ∀ k ∈ xs, okK k) (hk : key.length < 9223372036854775808) (ha : ad.length < 9223372036854775808) (ht : t.length < 9223372036854775808) :
    ∃ r e, ideal_Open.run .lim ((true, xs), key, ad, t, ()) = some (r, e, ()) ∧ openV xs key ad t r e := by
  obtain ⟨k, h1, e⟩ := open_find xs true key ad t hx hok ha
  have hr := refused_eq (key, ad, [], t) hk ha
  simp only [ideal_Open.run, hr, smallN ht, smallN hx, e]
  simp only [cond_true, cond_false, Option.bind_some, Option.bind_none, Bool.or_true, Bool.true_or, Bool.and_true, Bool.true_and, Bool.and_false, Bool.false_and, Bool.or_false, Bool.false_or, Bool.not_true, Bool.not_false, Bool.or_self, Bool.and_self, Bool.not_not]
  by_cases c1 : refE (key, ad, [], t) = 0
  · rw [dec_t c1]
    simp only [cond_true, cond_false, Option.bind_some, Option.bind_none, Bool.or_true, Bool.true_or, Bool.and_true, Bool.true_and, Bool.and_false, Bool.false_and, Bool.or_false, Bool.false_or, Bool.not_true, Bool.not_false, Bool.or_self, Bool.and_self, Bool.not_not]
    by_cases c2 : (t.length : Int) < 16
    · rw [dec_t c2]; exact ⟨_, _, rfl, .inl ⟨by decide, rfl⟩⟩
    · rw [dec_f c2]
      by_cases c3 : (t.length : Int) > 65552
      · rw [dec_t c3]; exact ⟨_, _, rfl, .inl ⟨by decide, rfl⟩⟩
      · rw [dec_f c3]
        simp only [cond_true, cond_false, Option.bind_some, Option.bind_none, Bool.or_true, Bool.true_or, Bool.and_true, Bool.true_and, Bool.and_false, Bool.false_and, Bool.or_false, Bool.false_or, Bool.not_true, Bool.not_false, Bool.or_self, Bool.and_self, Bool.not_not]
        cases hq : (List.range xs.length).any fun k => hit key ad t (rd k0 xs k) with
        | false => exact ⟨_, _, rfl, .inl ⟨by decide, rfl⟩⟩
        | true =>
          obtain ⟨g1, g2, g3⟩ := h1 hq
          simp only [cond_true, cond_false, Option.bind_some, Option.bind_none, Bool.or_true, Bool.true_or, Bool.and_true, Bool.true_and, Bool.and_false, Bool.false_and, Bool.or_false, Bool.false_or, Bool.not_true, Bool.not_false, Bool.or_self, Bool.and_self, Bool.not_not]
          rw [dec_f (show ¬ (k : Int) < 0 by omega), inB_t (by omega) (by omega)]
          exact ⟨_, _, rfl, .inr ⟨rfl, k, g1, g2, g3, rfl⟩⟩
  · rw [dec_f c1]
    exact ⟨_, _, rfl, .inl ⟨c1, rfl⟩⟩
theorem forge_in (key : List Int) (ad : List (List Int)) (t p : List Int) (t1 : List KK) (t2 t3 : Int) (q : KK) (hq : okK q) (ha : ad.length < 9223372036854775808) (s0 : Bool) (hl : s0 = true → q.2.1.length = ad.length) :
    pendulumlaw22_IdealForges.l0 .lim (key, ad, t, p, s0, 0, t1, t2, t3, q.1, q.2.1, q.2.2.1, q.2.2.2, ()) = some (key, ad, t, p, (s0 && decide (q.2.1 = ad)), t1, t2, t3, ()) := by
  cases s0 with
  | false =>
    rw [pendulumlaw22_IdealForges.q0]
    simp only [pendulumlaw22_IdealForges.b0, smallN ha]
    simp only [cond_true, cond_false, Option.bind_some, Option.bind_none, Bool.or_true, Bool.true_or, Bool.and_true, Bool.true_and, Bool.and_false, Bool.false_and, Bool.or_false, Bool.false_or, Bool.not_true, Bool.not_false, Bool.or_self, Bool.and_self, Bool.not_not]
  | true =>
    have hl := hl rfl
    by_cases h0 : ad.length = 0
    · have e1 : ad = [] := List.length_eq_zero_iff.1 h0
      have e2 : q.2.1 = [] := List.length_eq_zero_iff.1 (by omega)
      rw [pendulumlaw22_IdealForges.q0, e1, e2]
      simp only [pendulumlaw22_IdealForges.b0, List.length_nil]
      rfl
    · have step : ∀ (k : Nat), k < ad.length → pendulumlaw22_IdealForges.l0 .lim (key, ad, t, p, true, (k : Int), t1, t2, t3, q.1, q.2.1, q.2.2.1, q.2.2.2, ()) = pendulumlaw22_IdealForges.l0 .lim (key, ad, t, p, decide (rd ([] : List Int) ad k = rd ([] : List Int) q.2.1 k), ((k + 1 : Nat) : Int), t1, t2, t3, q.1, q.2.1, q.2.2.1, q.2.2.2, ()) := by
        intro k hk
        rw [pendulumlaw22_IdealForges.q0]
        simp only [pendulumlaw22_IdealForges.b0, smallN ha, wk k (by omega), dec_t (show (k : Int) < (ad.length : Int) by omega), inB_t (show (0 : Int) ≤ k by omega) (show (k : Int) < ad.length by omega), inB_t (show (0 : Int) ≤ k by omega) (show (k : Int) < q.2.1.length by omega)]
        simp only [cond_true, cond_false, Option.bind_some, Option.bind_none, Bool.or_true, Bool.true_or, Bool.and_true, Bool.true_and, Bool.and_false, Bool.false_and, Bool.or_false, Bool.false_or, Bool.not_true, Bool.not_false, Bool.or_self, Bool.and_self, Bool.not_not]
      have stop : ∀ (k : Nat), pendulumlaw22_IdealForges.l0 .lim (key, ad, t, p, false, (k : Int), t1, t2, t3, q.1, q.2.1, q.2.2.1, q.2.2.2, ()) = some (key, ad, t, p, false, t1, t2, t3, ()) := by
        intro k
        rw [pendulumlaw22_IdealForges.q0]
        simp only [pendulumlaw22_IdealForges.b0, smallN ha]
        simp only [cond_true, cond_false, Option.bind_some, Option.bind_none, Bool.or_true, Bool.true_or, Bool.and_true, Bool.true_and, Bool.and_false, Bool.false_and, Bool.or_false, Bool.false_or, Bool.not_true, Bool.not_false, Bool.or_self, Bool.and_self, Bool.not_not]
      have e := loop_any (f := pendulumlaw22_IdealForges.l0 .lim) (fun k => (key, ad, t, p, (true : Bool), (k : Int), t1, t2, t3, q.1, q.2.1, q.2.2.1, q.2.2.2, ())) ad.length (fun k => !decide (rd ([] : List Int) ad k = rd ([] : List Int) q.2.1 k)) (some (key, ad, t, p, false, t1, t2, t3, ())) (fun k hk => by
        rw [step k hk]
        cases decide (rd ([] : List Int) ad k = rd ([] : List Int) q.2.1 k)
        · exact stop _
        · rfl)
      rw [any_ne (by omega), show ((0 : Nat) : Int) = 0 from rfl] at e
      rw [e]
      by_cases h : ad = q.2.1
      · rw [dec_t h, dec_t h.symm]
        simp only [cond_true, cond_false, Option.bind_some, Option.bind_none, Bool.or_true, Bool.true_or, Bool.and_true, Bool.true_and, Bool.and_false, Bool.false_and, Bool.or_false, Bool.false_or, Bool.not_true, Bool.not_false, Bool.or_self, Bool.and_self, Bool.not_not]
        rw [pendulumlaw22_IdealForges.q0]
        simp only [pendulumlaw22_IdealForges.b0, smallN ha, dec_f (show ¬ (ad.length : Int) < (ad.length : Int) by omega)]
        simp only [cond_true, cond_false, Option.bind_some, Option.bind_none, Bool.or_true, Bool.true_or, Bool.and_true, Bool.true_and, Bool.and_false, Bool.false_and, Bool.or_false, Bool.false_or, Bool.not_true, Bool.not_false, Bool.or_self, Bool.and_self, Bool.not_not]
      · rw [dec_f h, dec_f (Ne.symm h)]; rfl
def sameK (key : List Int) (ad : List (List Int)) (t p : List Int) (k : KK) : Bool := decide (k.1 = key) && decide (k.2.2.2 = t) && decide (k.2.2.1 = p) && decide (k.2.1 = ad)
theorem forges_true (v : VV) (key : List Int) (ad : List (List Int)) (t : List Int) (hv : okV v) (hk : key.length < 9223372036854775808) (ha : ad.length < 9223372036854775808) (hal : ∀ t ∈ ad, t.length < 9223372036854775808) (ht : t.length < 9223372036854775808) :
    pendulumlaw22_IdealForges.run .lim (v, key, ad, t, ()) = some true := by
  obtain ⟨b, xs⟩ := v
  have hx : xs.length < 9223372036854775808 := hv.1
  obtain ⟨r, er⟩ := light_some (b, xs) hv
  obtain ⟨r2, er2⟩ := short_some key ad t hk ha hal ht
  simp only [pendulumlaw22_IdealForges.run, er, rfit_eq _ hv, er2]
  cases b with
  | false => simp only [cond_true, cond_false, Option.bind_some, Option.bind_none, Bool.or_true, Bool.true_or, Bool.and_true, Bool.true_and, Bool.and_false, Bool.false_and, Bool.or_false, Bool.false_or, Bool.not_true, Bool.not_false, Bool.or_self, Bool.and_self, Bool.not_not]
  | true =>
    simp only [cond_true, cond_false, Option.bind_some, Option.bind_none, Bool.or_true, Bool.true_or, Bool.and_true, Bool.true_and, Bool.and_false, Bool.false_and, Bool.or_false, Bool.false_or, Bool.not_true, Bool.not_false, Bool.or_self, Bool.and_self, Bool.not_not]
    cases r with
    | false => simp only [cond_true, cond_false, Option.bind_some, Option.bind_none, Bool.or_true, Bool.true_or, Bool.and_true, Bool.true_and, Bool.and_false, Bool.false_and, Bool.or_false, Bool.false_or, Bool.not_true, Bool.not_false, Bool.or_self, Bool.and_self, Bool.not_not]
    | true =>
      simp only [cond_true, cond_false, Option.bind_some, Option.bind_none, Bool.or_true, Bool.true_or, Bool.and_true, Bool.true_and, Bool.and_false, Bool.false_and, Bool.or_false, Bool.false_or, Bool.not_true, Bool.not_false, Bool.or_self, Bool.and_self, Bool.not_not]
      cases fitV (true, xs) with
      | false => simp only [cond_true, cond_false, Option.bind_some, Option.bind_none, Bool.or_true, Bool.true_or, Bool.and_true, Bool.true_and, Bool.and_false, Bool.false_and, Bool.or_false, Bool.false_or, Bool.not_true, Bool.not_false, Bool.or_self, Bool.and_self, Bool.not_not]
      | true =>
        simp only [cond_true, cond_false, Option.bind_some, Option.bind_none, Bool.or_true, Bool.true_or, Bool.and_true, Bool.true_and, Bool.and_false, Bool.false_and, Bool.or_false, Bool.false_or, Bool.not_true, Bool.not_false, Bool.or_self, Bool.and_self, Bool.not_not]
        cases r2 with
        | false => simp only [cond_true, cond_false, Option.bind_some, Option.bind_none, Bool.or_true, Bool.true_or, Bool.and_true, Bool.true_and, Bool.and_false, Bool.false_and, Bool.or_false, Bool.false_or, Bool.not_true, Bool.not_false, Bool.or_self, Bool.and_self, Bool.not_not]
        | true =>
          simp only [cond_true, cond_false, Option.bind_some, Option.bind_none, Bool.or_true, Bool.true_or, Bool.and_true, Bool.true_and, Bool.and_false, Bool.false_and, Bool.or_false, Bool.false_or, Bool.not_true, Bool.not_false, Bool.or_self, Bool.and_self, Bool.not_not]
          obtain ⟨p, e, he, hop⟩ := open_eq xs key ad t hx hv.2 hk ha ht
          rw [he]
          rcases hop with ⟨h1, rfl⟩ | ⟨rfl, k, h1, h2, h3, rfl⟩
          · simp only [cond_true, cond_false, Option.bind_some, Option.bind_none, Bool.or_true, Bool.true_or, Bool.and_true, Bool.true_and, Bool.and_false, Bool.false_and, Bool.or_false, Bool.false_or, Bool.not_true, Bool.not_false, Bool.or_self, Bool.and_self, Bool.not_not, dec_f h1, decide_true]
          · simp only [smallN hx]
            simp only [cond_true, cond_false, Option.bind_some, Option.bind_none, Bool.or_true, Bool.true_or, Bool.and_true, Bool.true_and, Bool.and_false, Bool.false_and, Bool.or_false, Bool.false_or, Bool.not_true, Bool.not_false, Bool.or_self, Bool.and_self, Bool.not_not, decide_true]
            generalize hp : (rd k0 xs k).2.2.1 = p
            have hs : sameK key ad t p (rd k0 xs k) = true := by
              unfold hit at h2
              unfold sameK
              simp only [Bool.and_eq_true, decide_eq_true_eq] at h2 ⊢
              exact ⟨⟨⟨h2.1.2, h2.1.1⟩, hp⟩, h2.2⟩
            have e := loop_any (f := pendulumlaw22_IdealForges.l1 .lim) (fun k => (key, ad, t, p, xs, (xs.length : Int), (k : Int), ())) xs.length (fun k => sameK key ad t p (rd k0 xs k)) (some (.inl (true, ()))) (fun k hk' => by
              rw [pendulumlaw22_IdealForges.q1]
              have hq : okK (rd k0 xs k) := hv.at (v := (true, xs)) hk'
              have hi := forge_in key ad t p xs (xs.length : Int) (k : Int) (rd k0 xs k) hq ha
              simp only [pendulumlaw22_IdealForges.b1, smallN hq.2.1, smallN ha, dec_t (show (k : Int) < (xs.length : Int) by omega), inB_t (show (0 : Int) ≤ k by omega) (show (k : Int) < xs.length by omega), wk k (by omega)]
              simp only [cond_true, cond_false, Option.bind_some, Option.bind_none, Bool.or_true, Bool.true_or, Bool.and_true, Bool.true_and, Bool.and_false, Bool.false_and, Bool.or_false, Bool.false_or, Bool.not_true, Bool.not_false, Bool.or_self, Bool.and_self, Bool.not_not]
              rw [hi _ (by
                intro h
                simp only [Bool.and_eq_true, decide_eq_true_eq] at h
                exact Int.ofNat_inj.1 h.2)]
              have hsame : (decide ((rd k0 xs k).1 = key) && decide ((rd k0 xs k).2.2.2 = t) && decide ((rd k0 xs k).2.2.1 = p) && decide (((rd k0 xs k).2.1.length : Int) = (ad.length : Int)) && decide ((rd k0 xs k).2.1 = ad)) = sameK key ad t p (rd k0 xs k) := by
                unfold sameK
                by_cases h : (rd k0 xs k).2.1 = ad
                · rw [dec_t h, dec_t (show ((rd k0 xs k).2.1.length : Int) = (ad.length : Int) by rw [h])]; simp only [cond_true, cond_false, Option.bind_some, Option.bind_none, Bool.or_true, Bool.true_or, Bool.and_true, Bool.true_and, Bool.and_false, Bool.false_and, Bool.or_false, Bool.false_or, Bool.not_true, Bool.not_false, Bool.or_self, Bool.and_self, Bool.not_not]
                · rw [dec_f h, Bool.and_false, Bool.and_false]
              simp only [Option.bind_some, hsame]
              cases sameK key ad t p (rd k0 xs k) <;> simp only [cond_true, cond_false, Option.bind_some, Option.bind_none, Bool.or_true, Bool.true_or, Bool.and_true, Bool.true_and, Bool.and_false, Bool.false_and, Bool.or_false, Bool.false_or, Bool.not_true, Bool.not_false, Bool.or_self, Bool.and_self, Bool.not_not, wk k (by omega)])
            rw [show ((0 : Nat) : Int) = 0 from rfl] at e
            rw [e, List.any_eq_true.2 ⟨k, List.mem_range.2 h1, hs⟩]
            rfl
theorem lt63 {n : Nat} (h : n ≤ 9223372036854775807) : n < 9223372036854775808 := Nat.lt_succ_of_le h
theorem ok_v {v : VV} (h : Ty.ok (.pair .bool (.lst (.pair .str (.pair (.lst .str) (.pair .str .str))))) v) : okV v := by
  obtain ⟨_, h1, h2⟩ := h
  refine ⟨lt63 h1, fun k hk => ?_⟩
  obtain ⟨a, ⟨b1, b2⟩, c, d⟩ := h2 k hk
  exact ⟨lt63 a.1, lt63 b1, fun s hs => lt63 (b2 s hs).1, lt63 c.1, lt63 d.1⟩
theorem idtells_ok : ∀ x, oks [.ag (.pair .bool (.lst (.pair .str (.pair (.lst .str) (.pair .str .str))))), .ag (.pair .bool (.lst (.pair .str (.pair (.lst .str) (.pair .str .str)))))] x → pendulumlaw22_IdealTells.run .lim x = some true := by
  intro x h
  match x with
  | (v, w, ()) => exact tells_true v w (ok_v h.1) (ok_v h.2.1)
theorem idforges_ok : ∀ x, oks [.ag (.pair .bool (.lst (.pair .str (.pair (.lst .str) (.pair .str .str))))), .one .str, .one (.lst .str), .one .str] x → pendulumlaw22_IdealForges.run .lim x = some true := by
  intro x h
  match x with
  | (v, key, ad, t, ()) =>
    obtain ⟨h1, h2, ⟨h3, h4⟩, h5, _⟩ := h
    exact forges_true v key ad t (ok_v h1) (lt63 h2.1) (lt63 h3) (fun s hs => lt63 (h4 s hs).1) (lt63 h5.1)
end Go.AM
end
