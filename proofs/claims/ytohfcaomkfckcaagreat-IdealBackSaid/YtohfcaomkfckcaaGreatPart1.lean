import Derived.Test.YtohfcaomkfckcaaGreatAm3

/-! The functions that the laws of this seat reach, as plain functions, and what these answer; no condition. -/
set_option linter.unusedSimpArgs false
set_option linter.unusedVariables false

section
namespace Go.AM
theorem wrap64 {n : Int} (h1 : -9223372036854775808 ≤ n) (h2 : n < 9223372036854775808) : IntKind.i64.wrap n = n := by
 unfold IntKind.wrap; simp [IntKind.signed, IntKind.bits]; omega
theorem cond_pos {α : Type} {c : Bool} {a b : α} (h : c = true) : (bif c then a else b) = a := by rw [h]; rfl
theorem cond_neg {α : Type} {c : Bool} {a b : α} (h : c = false) : (bif c then a else b) = b := by rw [h]; rfl
theorem cond_ite {α : Type} {p : Prop} {i : Decidable p} {a b : α} : (bif @decide p i then a else b) = if p then a else b := by
 by_cases h : p <;> simp [h]
theorem smallI_t {n : Int} (h : n < 9223372036854775808) : smallI n = true := by
 unfold smallI; rw [Nat.blt_eq]; omega
theorem inB_t {i n : Int} (h1 : 0 ≤ i) (h2 : i < n) : inB i n = true := by simp [inB, h1, h2]
theorem loop_to {α β : Type} {f : α → Option β} (st : Nat → α) {n : Nat} (h : ∀ k, k < n → f (st k) = f (st (k + 1))) : f (st 0) = f (st n) := by
 induction n with
 | zero => rfl
 | succ n ih => exact (ih fun k hk => h k (by omega)).trans (h n (by omega))
theorem loop_or {α β : Type} {f : α → Option β} (st : Nat → α) {n : Nat} {c : Nat → Bool} {e : Nat → Option β} (h : ∀ k, k < n → f (st k) = bif c k then e k else f (st (k + 1))) :
  (f (st 0) = f (st n) ∧ ∀ k, k < n → c k = false) ∨ ∃ k, k < n ∧ c k = true ∧ (∀ j, j < k → c j = false) ∧ f (st 0) = e k := by
 induction n with
 | zero => exact .inl ⟨rfl, fun k hk => absurd hk (by omega)⟩
 | succ n ih =>
  rcases ih fun k hk => h k (by omega) with ⟨h1, h2⟩ | ⟨k, hk, h1⟩
  ·cases hc : c n with
   | false =>
    refine .inl ⟨h1.trans ((h n (by omega)).trans (by rw [hc]; rfl)), fun k hk => ?_⟩
    rcases Nat.lt_succ_iff_lt_or_eq.1 hk with hk | rfl
    ·exact h2 k hk
    ·exact hc
   | true => exact .inr ⟨n, by omega, hc, h2, h1.trans ((h n (by omega)).trans (by rw [hc]; rfl))⟩
  ·exact .inr ⟨k, by omega, h1⟩
def acc (g : Nat → Int) : Nat → Int
 | 0 => 0
 | k + 1 => acc g k + g k
theorem acc_bd {g : Nat → Int} {a b : Int} {n : Nat} (h : ∀ k, k < n → a ≤ g k ∧ g k ≤ b) : n * a ≤ acc g n ∧ acc g n ≤ n * b := by
 induction n with
 | zero => simp [acc]
 | succ n ih =>
  have h1 := ih fun k hk => h k (by omega)
  have h2 := h n (by omega)
  rw [acc, Int.natCast_succ, Int.add_mul, Int.add_mul]; omega
def fold {α : Type} (g : α → Nat → α) (z : α) : Nat → α
 | 0 => z
 | k + 1 => g (fold g z k) k
theorem rd_mem {α : Type} {d : α} {xs : List α} {i : Int} (h1 : 0 ≤ i) (h2 : i < xs.length) : rd d xs i ∈ xs := by
 unfold rd; rw [List.getD_eq_getElem?_getD, List.getElem?_eq_getElem (show i.toNat < xs.length by omega), Option.getD_some]; exact List.getElem_mem _
theorem mx_eq (x y : Int) : mx x y = max x y := by unfold mx; split <;> omega
theorem mn_eq (x y : Int) : mn x y = min x y := by unfold mn; split <;> omega
theorem dec_t {p : Prop} {i : Decidable p} (h : p) : @decide p i = true := decide_eq_true h
theorem dec_f {p : Prop} {i : Decidable p} (h : ¬p) : @decide p i = false := decide_eq_false h
theorem dec_not {p : Prop} {i : Decidable p} : (!@decide p i) = decide (¬p) := by by_cases h : p <;> simp [h]
theorem dec_and {p q : Prop} {i : Decidable p} {j : Decidable q} : (@decide p i && @decide q j) = decide (p ∧ q) := by by_cases h : p <;> simp [h]
theorem dec_or {p q : Prop} {i : Decidable p} {j : Decidable q} : (@decide p i || @decide q j) = decide (p ∨ q) := by by_cases h : p <;> simp [h]
theorem cutB_t {l h n : Int} (h1 : 0 ≤ l) (h2 : l ≤ h) (h3 : h ≤ n) : cutB l h n = true := by simp [cutB, h1, h2, h3]
theorem fold_min_first {g : Nat → Int} {z : Int} (h : g 0 ≤ z) {n : Nat} (hn : 0 < n) : fold (fun r i => min r (g i)) (g 0) n = fold (fun r i => min r (g i)) z n := by
 have key : ∀ k, fold (fun r i => min r (g i)) (g 0) k = min (g 0) (fold (fun r i => min r (g i)) z k) ∧ (0 < k → fold (fun r i => min r (g i)) z k ≤ g 0) := by
  intro k
  induction k with
  | zero => refine ⟨?_, fun h => absurd h (by omega)⟩; show g 0 = min (g 0) z; omega
  | succ k ih =>
   show min (fold (fun r i => min r (g i)) (g 0) k) (g k) = min (g 0) (min (fold (fun r i => min r (g i)) z k) (g k)) ∧ (0 < k + 1 → min (fold (fun r i => min r (g i)) z k) (g k) ≤ g 0)
   refine ⟨by omega, fun _ => ?_⟩
   by_cases hk : k = 0
   ·subst hk; omega
   ·have := ih.2 (by omega); omega
 have := key n
 have := this.2 hn
 omega
theorem rd_ix {α : Type} {d : α} {xs : List α} {k : Nat} (h : k < xs.length) : rd d xs (k : Int) = xs[k] := by
 unfold rd; rw [Int.toNat_natCast, List.getD_eq_getElem?_getD, List.getElem?_eq_getElem h, Option.getD_some]
theorem rd_take {α : Type} {d : α} {xs : List α} {n k : Nat} (hk : k < n) : rd d (xs.take n) (k : Int) = rd d xs (k : Int) := by
 unfold rd; rw [Int.toNat_natCast, List.getD_eq_getElem?_getD, List.getD_eq_getElem?_getD, List.getElem?_take_of_lt hk]
theorem take_rd {α : Type} {d : α} {xs : List α} {k : Nat} (h : k < xs.length) : xs.take (k + 1) = xs.take k ++ [rd d xs (k : Int)] := by
 rw [rd_ix h, List.take_succ_eq_append_getElem h]
def dropAt {α : Type} (xs : List α) (w : Nat) : List α := xs.take w ++ xs.drop (w + 1)
theorem dropAt_length {α : Type} {xs : List α} {w : Nat} (h : w < xs.length) : (dropAt xs w).length = xs.length - 1 := by
 unfold dropAt; rw [List.length_append, List.length_take, List.length_drop]; omega
theorem dropAt_mem {α : Type} {xs : List α} {w : Nat} {x : α} (h : x ∈ dropAt xs w) : x ∈ xs := by
 unfold dropAt at h
 rcases List.mem_append.1 h with h | h
 ·exact List.mem_of_mem_take h
 ·exact List.mem_of_mem_drop h
theorem dropAt_map {α β : Type} (f : α → β) (xs : List α) (w : Nat) : (dropAt xs w).map f = dropAt (xs.map f) w := by
 unfold dropAt; rw [List.map_append, List.map_take, List.map_drop]
theorem del_ok {α : Type} {m : List α} {n w : Nat} {z : α} (hn : n ≤ m.length) (hw : w < n) {i1 i2 i3 i4 i5 i6 : Nat} (h1 : i1 = w) (h2 : i2 = w + 1) (h3 : i3 = n - (w + 1)) (h4 : i4 = n - 1) (h5 : i5 = n - 1) (h6 : i6 ≤ 1) :
  (splice (m.take i1 ++ ((m.drop i2).take i3 ++ m.drop i4)) i5 (List.replicate i6 z)).take (n - 1) = dropAt (m.take n) w ∧ (splice (m.take i1 ++ ((m.drop i2).take i3 ++ m.drop i4)) i5 (List.replicate i6 z)).length = m.length := by
 subst h1 h2 h3 h4 h5
 have e : (m.take i1 ++ ((m.drop (i1 + 1)).take (n - (i1 + 1)) ++ m.drop (n - 1))) = dropAt (m.take n) i1 ++ m.drop (n - 1) := by
  unfold dropAt
  rw [List.take_take, Nat.min_eq_left (by omega), List.drop_take, List.append_assoc]
 have hl : (dropAt (m.take n) i1).length = n - 1 := by rw [dropAt_length (by rw [List.length_take]; omega), List.length_take]; omega
 rw [e]
 unfold splice
 constructor
 ·rw [List.take_append_of_le_length (by rw [List.length_take, List.length_append]; omega), List.take_take, Nat.min_self, List.take_append_of_le_length (by omega), List.take_of_length_le (by omega)]
 ·simp only [List.length_append, List.length_take, List.length_drop, List.length_replicate, hl]
  omega
end Go.AM
end
section
namespace Go.AM
theorem loop_first {α β : Type} {f : α → Option β} (st : Nat → α) (n : Nat) (c : Nat → Bool) (e : Nat → Option β) (h : ∀ k, k < n → f (st k) = bif c k then e k else f (st (k + 1))) :
  f (st 0) = match (List.range n).find? c with | some k => e k | none => f (st n) := by
 rcases loop_or st h with ⟨h1, h2⟩ | ⟨k, hk, h1, h2, h3⟩
 ·have : (List.range n).find? c = none := List.find?_eq_none.2 fun k hk => by rw [h2 k (List.mem_range.1 hk)]; simp
  rw [this, h1]
 ·have : (List.range n).find? c = some k := by
   rw [List.find?_range_eq_some]
   exact ⟨h1, List.mem_range.2 hk, fun j hj => by rw [h2 j hj]; rfl⟩
  rw [this, h3]
theorem loop_any {α β : Type} {f : α → Option β} (st : Nat → α) (n : Nat) (c : Nat → Bool) (e : Option β) (h : ∀ k, k < n → f (st k) = bif c k then e else f (st (k + 1))) :
  f (st 0) = bif (List.range n).any c then e else f (st n) := by
 rcases loop_or st h with ⟨h1, h2⟩ | ⟨k, hk, h1, h2, h3⟩
 ·have : (List.range n).any c = false := by
   rw [List.any_eq_false]; intro k hk; rw [h2 k (List.mem_range.1 hk)]; simp
  rw [this, h1]; rfl
 ·have : (List.range n).any c = true := List.any_eq_true.2 ⟨k, List.mem_range.2 hk, h1⟩
  rw [this, h3]; rfl
theorem loop_hit {α β : Type} {f : α → Option β} (st : Nat → α) (n : Nat) (c : Nat → Bool) (e : Nat → Option β) (h : ∀ k, k < n → f (st k) = bif c k then e k else f (st (k + 1))) :
  ∃ k, ((List.range n).any c = true → k < n ∧ c k = true ∧ ∀ j, j < k → c j = false) ∧ f (st 0) = bif (List.range n).any c then e k else f (st n) := by
 rcases loop_or st h with ⟨h1, h2⟩ | ⟨k, hk, h1, h2, h3⟩
 ·have : (List.range n).any c = false := by
   rw [List.any_eq_false]; intro k hk; rw [h2 k (List.mem_range.1 hk)]; simp
  exact ⟨0, fun q => by rw [this] at q; simp at q, by rw [this, h1]; rfl⟩
 ·have : (List.range n).any c = true := List.any_eq_true.2 ⟨k, List.mem_range.2 hk, h1⟩
  exact ⟨k, fun _ => ⟨hk, h1, h2⟩, by rw [this, h3]; rfl⟩
theorem any_congr {n : Nat} {c d : Nat → Bool} (h : ∀ k, k < n → c k = d k) : (List.range n).any c = (List.range n).any d := by
 rw [Bool.eq_iff_iff, List.any_eq_true, List.any_eq_true]
 exact ⟨fun ⟨k, hk, q⟩ => ⟨k, hk, by rw [← h k (List.mem_range.1 hk)]; exact q⟩, fun ⟨k, hk, q⟩ => ⟨k, hk, by rw [h k (List.mem_range.1 hk)]; exact q⟩⟩
theorem rd_ext {α : Type} {d : α} {a b : List α} (hl : a.length = b.length) (h : ∀ k : Nat, k < a.length → rd d a (k : Int) = rd d b (k : Int)) : a = b := by
 apply List.ext_getElem hl
 intro k h1 h2
 have := h k h1
 rwa [rd_ix h1, rd_ix h2] at this
theorem any_ne {α : Type} [DecidableEq α] {d : α} {a b : List α} (hl : a.length = b.length) : ((List.range a.length).any fun k => !decide (rd d a (k : Int) = rd d b (k : Int))) = !decide (a = b) := by
 by_cases h : a = b
 ·subst h
  rw [show (!decide (a = a)) = false by simp, List.any_eq_false]
  intro k _; simp
 ·rw [dec_f h]
  cases hq : (List.range a.length).any fun k => !decide (rd d a (k : Int) = rd d b (k : Int)) with
  | true => rfl
  | false =>
   rw [List.any_eq_false] at hq
   exact (h (rd_ext hl fun k hk => by have := hq k (List.mem_range.2 hk); simpa using this)).elim
theorem smallN {n : Nat} (h : n < 9223372036854775808) : smallI (n : Int) = true := smallI_t (by omega)
theorem wrapu8 (n : Int) : IntKind.u8.wrap n = n % 256 := by
 unfold IntKind.wrap; simp [IntKind.signed, IntKind.bits]
theorem wrap64_lo {n : Int} : -9223372036854775808 ≤ IntKind.i64.wrap n ∧ IntKind.i64.wrap n < 9223372036854775808 := by
 unfold IntKind.wrap; simp [IntKind.signed, IntKind.bits]; omega
end Go.AM
end
