import Derived.Test.YtepefklelohplaaGreatAm3

/-! The functions that the laws of this seat reach, as plain functions, and what these answer; no condition. -/
set_option linter.unusedSimpArgs false
set_option linter.unusedVariables false

section
namespace Go.AM
theorem wrap64 {n : Int} (h1 : -9223372036854775808 ≤ n) (h2 : n < 9223372036854775808) : IntKind.i64.wrap n = n := by
 unfold IntKind.wrap; simp [IntKind.signed, IntKind.bits]; omega
theorem cond_pos {α : Type} {c : Bool} {a b : α} (h : c = true) : (bif c then a else b) = a := by rw [h]; rfl
theorem cond_neg {α : Type} {c : Bool} {a b : α} (h : c = false) : (bif c then a else b) = b := by rw [h]; rfl
theorem cond_ite {α : Type} {p : Prop} {i : Decidable p} {a b : α} : (bif @decide p i then a else b) = if p then a else b := by
 by_cases h : p <;> simp [h]
theorem smallI_t {n : Int} (h : n < 9223372036854775808) : smallI n = true := by
 unfold smallI; rw [Nat.blt_eq]; omega
theorem inB_t {i n : Int} (h1 : 0 ≤ i) (h2 : i < n) : inB i n = true := by simp [inB, h1, h2]
theorem loop_to {α β : Type} {f : α → Option β} (st : Nat → α) {n : Nat} (h : ∀ k, k < n → f (st k) = f (st (k + 1))) : f (st 0) = f (st n) := by
 induction n with
 | zero => rfl
 | succ n ih => exact (ih fun k hk => h k (by omega)).trans (h n (by omega))
theorem loop_or {α β : Type} {f : α → Option β} (st : Nat → α) {n : Nat} {c : Nat → Bool} {e : Nat → Option β} (h : ∀ k, k < n → f (st k) = bif c k then e k else f (st (k + 1))) :
  (f (st 0) = f (st n) ∧ ∀ k, k < n → c k = false) ∨ ∃ k, k < n ∧ c k = true ∧ (∀ j, j < k → c j = false) ∧ f (st 0) = e k := by
 induction n with
 | zero => exact .inl ⟨rfl, fun k hk => absurd hk (by omega)⟩
 | succ n ih =>
  rcases ih fun k hk => h k (by omega) with ⟨h1, h2⟩ | ⟨k, hk, h1⟩
  ·cases hc : c n with
   | false =>
    refine .inl ⟨h1.trans ((h n (by omega)).trans (by rw [hc]; rfl)), fun k hk => ?_⟩
    rcases Nat.lt_succ_iff_lt_or_eq.1 hk with hk | rfl
    ·exact h2 k hk
    ·exact hc
   | true => exact .inr ⟨n, by omega, hc, h2, h1.trans ((h n (by omega)).trans (by rw [hc]; rfl))⟩
  ·exact .inr ⟨k, by omega, h1⟩
theorem rd_mem {α : Type} {d : α} {xs : List α} {i : Int} (h1 : 0 ≤ i) (h2 : i < xs.length) : rd d xs i ∈ xs := by
 unfold rd; rw [List.getD_eq_getElem?_getD, List.getElem?_eq_getElem (show i.toNat < xs.length by omega), Option.getD_some]; exact List.getElem_mem _
theorem mx_eq (x y : Int) : mx x y = max x y := by unfold mx; split <;> omega
theorem mn_eq (x y : Int) : mn x y = min x y := by unfold mn; split <;> omega
theorem dec_t {p : Prop} {i : Decidable p} (h : p) : @decide p i = true := decide_eq_true h
theorem dec_f {p : Prop} {i : Decidable p} (h : ¬p) : @decide p i = false := decide_eq_false h
theorem dec_not {p : Prop} {i : Decidable p} : (!@decide p i) = decide (¬p) := by by_cases h : p <;> simp [h]
theorem dec_and {p q : Prop} {i : Decidable p} {j : Decidable q} : (@decide p i && @decide q j) = decide (p ∧ q) := by by_cases h : p <;> simp [h]
theorem dec_or {p q : Prop} {i : Decidable p} {j : Decidable q} : (@decide p i || @decide q j) = decide (p ∨ q) := by by_cases h : p <;> simp [h]
theorem cutB_t {l h n : Int} (h1 : 0 ≤ l) (h2 : l ≤ h) (h3 : h ≤ n) : cutB l h n = true := by simp [cutB, h1, h2, h3]
theorem rd_ix {α : Type} {d : α} {xs : List α} {k : Nat} (h : k < xs.length) : rd d xs (k : Int) = xs[k] := by
 unfold rd; rw [Int.toNat_natCast, List.getD_eq_getElem?_getD, List.getElem?_eq_getElem h, Option.getD_some]
theorem rd_take {α : Type} {d : α} {xs : List α} {n k : Nat} (hk : k < n) : rd d (xs.take n) (k : Int) = rd d xs (k : Int) := by
 unfold rd; rw [Int.toNat_natCast, List.getD_eq_getElem?_getD, List.getD_eq_getElem?_getD, List.getElem?_take_of_lt hk]
theorem take_rd {α : Type} {d : α} {xs : List α} {k : Nat} (h : k < xs.length) : xs.take (k + 1) = xs.take k ++ [rd d xs (k : Int)] := by
 rw [rd_ix h, List.take_succ_eq_append_getElem h]
end Go.AM
end
section
namespace Go.AM
theorem loop_first {α β : Type} {f : α → Option β} (st : Nat → α) (n : Nat) (c : Nat → Bool) (e : Nat → Option β) (h : ∀ k, k < n → f (st k) = bif c k then e k else f (st (k + 1))) :
  f (st 0) = match (List.range n).find? c with | some k => e k | none => f (st n) := by
 rcases loop_or st h with ⟨h1, h2⟩ | ⟨k, hk, h1, h2, h3⟩
 ·have : (List.range n).find? c = none := List.find?_eq_none.2 fun k hk => by rw [h2 k (List.mem_range.1 hk)]; simp
  rw [this, h1]
 ·have : (List.range n).find? c = some k := by
   rw [List.find?_range_eq_some]
   exact ⟨h1, List.mem_range.2 hk, fun j hj => by rw [h2 j hj]; rfl⟩
  rw [this, h3]
theorem loop_any {α β : Type} {f : α → Option β} (st : Nat → α) (n : Nat) (c : Nat → Bool) (e : Option β) (h : ∀ k, k < n → f (st k) = bif c k then e else f (st (k + 1))) :
  f (st 0) = bif (List.range n).any c then e else f (st n) := by
 rcases loop_or st h with ⟨h1, h2⟩ | ⟨k, hk, h1, h2, h3⟩
 ·have : (List.range n).any c = false := by
   rw [List.any_eq_false]; intro k hk; rw [h2 k (List.mem_range.1 hk)]; simp
  rw [this, h1]; rfl
 ·have : (List.range n).any c = true := List.any_eq_true.2 ⟨k, List.mem_range.2 hk, h1⟩
  rw [this, h3]; rfl
theorem loop_hit {α β : Type} {f : α → Option β} (st : Nat → α) (n : Nat) (c : Nat → Bool) (e : Nat → Option β) (h : ∀ k, k < n → f (st k) = bif c k then e k else f (st (k + 1))) :
  ∃ k, ((List.range n).any c = true → k < n ∧ c k = true ∧ ∀ j, j < k → c j = false) ∧ f (st 0) = bif (List.range n).any c then e k else f (st n) := by
 rcases loop_or st h with ⟨h1, h2⟩ | ⟨k, hk, h1, h2, h3⟩
 ·have : (List.range n).any c = false := by
   rw [List.any_eq_false]; intro k hk; rw [h2 k (List.mem_range.1 hk)]; simp
  exact ⟨0, fun q => by rw [this] at q; simp at q, by rw [this, h1]; rfl⟩
 ·have : (List.range n).any c = true := List.any_eq_true.2 ⟨k, List.mem_range.2 hk, h1⟩
  exact ⟨k, fun _ => ⟨hk, h1, h2⟩, by rw [this, h3]; rfl⟩
theorem any_congr {n : Nat} {c d : Nat → Bool} (h : ∀ k, k < n → c k = d k) : (List.range n).any c = (List.range n).any d := by
 rw [Bool.eq_iff_iff, List.any_eq_true, List.any_eq_true]
 exact ⟨fun ⟨k, hk, q⟩ => ⟨k, hk, by rw [← h k (List.mem_range.1 hk)]; exact q⟩, fun ⟨k, hk, q⟩ => ⟨k, hk, by rw [h k (List.mem_range.1 hk)]; exact q⟩⟩
theorem rd_ext {α : Type} {d : α} {a b : List α} (hl : a.length = b.length) (h : ∀ k : Nat, k < a.length → rd d a (k : Int) = rd d b (k : Int)) : a = b := by
 apply List.ext_getElem hl
 intro k h1 h2
 have := h k h1
 rwa [rd_ix h1, rd_ix h2] at this
theorem any_ne {α : Type} [DecidableEq α] {d : α} {a b : List α} (hl : a.length = b.length) : ((List.range a.length).any fun k => !decide (rd d a (k : Int) = rd d b (k : Int))) = !decide (a = b) := by
 by_cases h : a = b
 ·subst h
  rw [show (!decide (a = a)) = false by simp, List.any_eq_false]
  intro k _; simp
 ·rw [dec_f h]
  cases hq : (List.range a.length).any fun k => !decide (rd d a (k : Int) = rd d b (k : Int)) with
  | true => rfl
  | false =>
   rw [List.any_eq_false] at hq
   exact (h (rd_ext hl fun k hk => by have := hq k (List.mem_range.2 hk); simpa using this)).elim
theorem smallN {n : Nat} (h : n < 9223372036854775808) : smallI (n : Int) = true := smallI_t (by omega)
theorem wrapu8 (n : Int) : IntKind.u8.wrap n = n % 256 := by
 unfold IntKind.wrap; simp [IntKind.signed, IntKind.bits]
theorem wrap64_lo {n : Int} : -9223372036854775808 ≤ IntKind.i64.wrap n ∧ IntKind.i64.wrap n < 9223372036854775808 := by
 unfold IntKind.wrap; simp [IntKind.signed, IntKind.bits]; omega
end Go.AM
end
